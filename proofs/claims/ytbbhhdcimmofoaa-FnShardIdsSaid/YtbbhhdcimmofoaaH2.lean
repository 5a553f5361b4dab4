/- Slow tests first, and tests in parts: in plain words. -/
import Derived.Test.YtbbhhdcimmofoaaR5
set_option maxHeartbeats 4000000
set_option synthInstance.maxHeartbeats 400000
set_option synthInstance.maxSize 4096
set_option linter.unusedSimpArgs false
set_option linter.unusedVariables false
namespace Go.Proofs.Ytbbhhdcimmofoaa

set_option maxRecDepth 100000

theorem ssIns_pair {α : Type} {f : α → Int} {pos : α → Nat} {x : α} {S : List α} (h : S.Pairwise fun a b => f b ≤ f a ∧ (f a = f b → pos a < pos b)) (hx : ∀ y, y ∈ S → pos y < pos x) : (ssIns f x S).Pairwise fun a b => f b ≤ f a ∧ (f a = f b → pos a < pos b) := by
  induction S with
  | nil => simp [ssIns]
  | cons s S ih =>
    rw [List.pairwise_cons] at h
    rw [ssIns_cons]
    split
    · rename_i hc
      refine List.pairwise_cons.2 ⟨fun y hy => ?_, ih h.2 fun y hy => hx y (List.mem_cons_of_mem _ hy)⟩
      rcases ssIns_mem.1 hy with rfl | hy
      · exact ⟨hc, fun _ => hx s (List.mem_cons_self ..)⟩
      · exact h.1 y hy
    · rename_i hc
      refine List.pairwise_cons.2 ⟨fun y hy => ?_, List.pairwise_cons.2 h⟩
      rcases List.mem_cons.1 hy with rfl | hy
      · exact ⟨by omega, fun he => by omega⟩
      · have := (h.1 y hy).1
        exact ⟨by omega, fun he => by omega⟩

theorem ssort_pair {α : Type} {f : α → Int} {pos : α → Nat} (xs : List α) (h : xs.Pairwise fun a b => pos a < pos b) : (ssort f xs).Pairwise fun a b => f b ≤ f a ∧ (f a = f b → pos a < pos b) := by
  rw [← List.reverse_reverse xs] at h ⊢
  revert h
  induction xs.reverse with
  | nil => exact fun _ => List.Pairwise.nil
  | cons y ys ih =>
    intro h
    rw [List.reverse_cons] at h ⊢
    rw [ssort_snoc]
    rw [List.pairwise_append] at h
    exact ssIns_pair (ih h.1) fun z hz => h.2.2 z ((ssort_mem _ z).1 hz) y (List.mem_singleton.2 rfl)

theorem ssort_perm {α : Type} {f : α → Int} (xs : List α) : (ssort f xs).Perm xs := by
  rw [← List.reverse_reverse xs]
  induction xs.reverse with
  | nil => exact List.Perm.nil
  | cons y ys ih =>
    rw [List.reverse_cons, ssort_snoc]
    unfold ssIns
    refine List.perm_middle.trans ?_
    rw [List.takeWhile_append_dropWhile]
    exact (List.Perm.cons y ih).trans (List.perm_append_singleton ..).symm

/-- The place of a text in a list. -/
def placeI (xs : List ByteArray) (s : ByteArray) : Int := idxI (fun y => decide (y = s)) xs
theorem placeI_at {xs : List ByteArray} (hn : xs.Nodup) {i : Nat} (hi : i < xs.length) : placeI xs xs[i] = i :=
  idxI_found hi (fun j hj => decide_eq_false fun he => by have := (List.getElem_inj hn).1 he; omega) (decide_eq_true rfl)
theorem placeI_pair {xs : List ByteArray} (hn : xs.Nodup) : xs.Pairwise fun a b => (placeI xs a).toNat < (placeI xs b).toNat :=
  List.pairwise_iff_getElem.2 fun i j hi hj hij => by rw [placeI_at hn hi, placeI_at hn hj]; omega
theorem placeI_sub {xs ys : List ByteArray} (hn : xs.Nodup) (hs : ys.Sublist xs) {k : Nat} (h0 : 0 < k) (hk : k < ys.length) : placeI xs (ys[k - 1]'(by omega)) ≤ placeI xs ys[k] := by
  have := List.pairwise_iff_getElem.1 ((placeI_pair hn).sublist hs) (k - 1) k (by omega) hk (by omega)
  omega
theorem slow_order {f : ByteArray → Int} {ids : List ByteArray} (hn : ids.Nodup) {k : Nat} (h0 : 0 < k) (hk : k < (ssort f ids).length) :
    f (ssort f ids)[k] ≤ f ((ssort f ids)[k - 1]'(by omega)) ∧ (f ((ssort f ids)[k - 1]'(by omega)) = f (ssort f ids)[k] → placeI ids ((ssort f ids)[k - 1]'(by omega)) ≤ placeI ids (ssort f ids)[k]) := by
  have := List.pairwise_iff_getElem.1 (ssort_pair (f := f) ids (placeI_pair hn)) (k - 1) k (by omega) hk (by omega)
  exact ⟨this.1, fun he => by have := this.2 he; omega⟩

/-! ### parts -/
theorem bst_min (g : Nat → Int) : ∀ (k j : Nat), j < k → g (bst g k) ≤ g j
  | 0, _, h => absurd h (Nat.not_lt_zero _)
  | k + 1, j, h => by
    have ih := bst_min g k
    unfold bst bstep
    by_cases hj : j < k
    · have := ih j hj
      split <;> omega
    · obtain rfl : j = k := by omega
      split <;> omega

theorem tot_snoc (xs : List PastD) (p : List ByteArray) (x : ByteArray) : tot xs (p ++ [x]) = tot xs p + costF xs x := by
  unfold tot
  rw [List.map_append, List.sum_append]
  simp
theorem tot_perm (xs : List PastD) {a b : List ByteArray} (h : a.Perm b) : tot xs a = tot xs b := by
  induction h with
  | nil => rfl
  | cons x _ ih => unfold tot at *; rw [List.map_cons, List.map_cons, List.sum_cons, List.sum_cons, ih]
  | swap x y l => unfold tot; simp only [List.map_cons, List.sum_cons]; omega
  | trans _ _ ih1 ih2 => exact ih1.trans ih2

structure Parts (xs : List PastD) (n : Nat) (S : List ByteArray) (ps : List (List ByteArray)) : Prop where
  len : ps.length = n
  perm : ps.flatten.Perm S
  sub : ∀ p, p ∈ ps → p.Sublist S
  even : ∀ p, p ∈ ps → ∀ p0 x, p = p0 ++ [x] → ∀ q, q ∈ ps → tot xs p0 ≤ tot xs q

theorem parts_nil (xs : List PastD) (n : Nat) : Parts xs n [] (List.replicate n []) where
  len := List.length_replicate ..
  perm := by
    have : (List.replicate n ([] : List ByteArray)).flatten = [] := by
      rw [List.flatten_eq_nil_iff]
      intro l hl
      exact List.eq_of_mem_replicate hl
    rw [this]
  sub p hp := by rw [List.eq_of_mem_replicate hp]; exact List.Sublist.refl _
  even p hp p0 x he := by
    rw [List.eq_of_mem_replicate hp] at he
    exact absurd he (by simp)

theorem flatten_set_perm {ps : List (List ByteArray)} {b : Nat} (hb : b < ps.length) (x : ByteArray) : (ps.set b (ps[b] ++ [x])).flatten.Perm (ps.flatten ++ [x]) := by
  have h1 : ps = ps.take b ++ ps[b] :: ps.drop (b + 1) := by rw [← List.drop_eq_getElem_cons hb, List.take_append_drop]
  have h2 : ps.flatten = (ps.take b).flatten ++ (ps[b] ++ (ps.drop (b + 1)).flatten) := by
    conv => lhs; rw [h1]
    rw [List.flatten_append, List.flatten_cons]
  rw [h2, List.set_eq_take_append_cons_drop, if_pos hb, List.flatten_append, List.flatten_cons, List.append_assoc, List.append_assoc, List.append_assoc]
  exact List.Perm.append_left _ (List.Perm.append_left _ List.perm_append_comm)

theorem parts_step {xs : List PastD} (hv : pastB xs = true) {n : Nat} (hn : 0 < n) {S : List ByteArray} {ps : List (List ByteArray)} (h : Parts xs n S ps) (x : ByteArray) : Parts xs n (S ++ [x]) (shStep xs ps x) := by
  have hb : shB xs ps ps.length < ps.length := bst_lt _ (Nat.le_refl _) (by rw [h.len]; exact hn)
  have hmin : ∀ q, q ∈ ps → tot xs (ps.getD (shB xs ps ps.length) []) ≤ tot xs q := fun q hq => by
    obtain ⟨j, hj, rfl⟩ := List.getElem_of_mem hq
    have := bst_min (fun k => tot xs (ps.getD k [])) ps.length j hj
    simpa [List.getD, hj, shB] using this
  have hg : ps.getD (shB xs ps ps.length) [] = ps[shB xs ps ps.length] := by simp [List.getD, hb]
  have hc := (costF_range hv x).1
  unfold shStep
  rw [hg] at hmin ⊢
  generalize shB xs ps ps.length = b at *
  have hmem : ps[b] ∈ ps := List.getElem_mem hb
  refine ⟨by rw [List.length_set]; exact h.len, (flatten_set_perm hb x).trans (h.perm.append_right _), fun p hp => ?_, fun p hp p0 y he q hq => ?_⟩
  · rcases List.mem_or_eq_of_mem_set hp with hp | rfl
    · exact (h.sub p hp).trans (List.sublist_append_left ..)
    · exact (h.sub _ hmem).append (List.Sublist.refl _)
  · have hq2 : ∃ q', q' ∈ ps ∧ tot xs q' ≤ tot xs q ∧ tot xs ps[b] ≤ tot xs q := by
      rcases List.mem_or_eq_of_mem_set hq with hq | rfl
      · exact ⟨q, hq, Int.le_refl _, hmin q hq⟩
      · rw [tot_snoc]; exact ⟨_, hmem, by omega, by omega⟩
    obtain ⟨q', hq', hle, hle2⟩ := hq2
    rcases List.mem_or_eq_of_mem_set hp with hp | rfl
    · have := h.even p hp p0 y he q' hq'
      omega
    · have := List.append_inj' he rfl
      rw [← this.1]
      exact hle2

theorem parts_shd {xs : List PastD} (hv : pastB xs = true) {n : Nat} (hn : 0 < n) (S : List ByteArray) : Parts xs n S (shd xs n S) := by
  unfold shd
  rw [← List.reverse_reverse S]
  induction S.reverse with
  | nil => exact parts_nil xs n
  | cons y ys ih =>
    rw [List.reverse_cons, List.foldl_append]
    exact parts_step hv hn ih y

/-- No part has more than another one and its own cheapest test. -/
theorem parts_even {xs : List PastD} (hv : pastB xs = true) {n : Nat} {S : List ByteArray} {ps : List (List ByteArray)} (h : Parts xs n S ps) (hd : Desc (costF xs) S) {p q : List ByteArray} (hp : p ∈ ps) (hq : q ∈ ps) : (∀ y, y ∈ p → tot xs p ≤ tot xs q + costF xs y) ∧ tot xs p ≤ tot xs q + 99 := by
  rcases List.eq_nil_or_concat p with rfl | ⟨p0, x, hpe⟩
  · have := (tot_range hv q).1
    exact ⟨fun y hy => (List.not_mem_nil hy).elim, by show (0 : Int) ≤ _; omega⟩
  · rw [List.concat_eq_append] at hpe
    have he := h.even p hp p0 x hpe q hq
    have hpd : p.Pairwise fun a b => costF xs b ≤ costF xs a := List.Pairwise.sublist (h.sub p hp) hd
    subst hpe
    rw [List.pairwise_append] at hpd
    rw [tot_snoc]
    have hx := costF_range hv x
    refine ⟨fun y hy => ?_, by omega⟩
    rcases List.mem_append.1 hy with hy | hy
    · have := hpd.2.2 y hy x (List.mem_singleton.2 rfl)
      omega
    · rw [List.mem_singleton.1 hy]; omega

theorem inOrd_perm {ids p : List ByteArray} (hn : ids.Nodup) (hp : p.Nodup) (hs : ∀ x, x ∈ p → x ∈ ids) : (inOrd ids p).Perm p :=
  (List.perm_ext_iff_of_nodup (List.filter_sublist.nodup hn) hp).2 fun x => by
    rw [List.mem_filter, decide_eq_true_eq]
    exact ⟨fun h => h.2, fun h => ⟨hs x h, h⟩⟩
theorem flatten_map_perm {g : List ByteArray → List ByteArray} : ∀ {ps : List (List ByteArray)}, (∀ p, p ∈ ps → (g p).Perm p) → (ps.map g).flatten.Perm ps.flatten
  | [], _ => List.Perm.nil
  | p :: ps, h => by
    rw [List.map_cons, List.flatten_cons, List.flatten_cons]
    exact (h p (List.mem_cons_self ..)).append (flatten_map_perm fun q hq => h q (List.mem_cons_of_mem _ hq))

/-- What the parts of tests are like. -/
structure ShardOk (ids : List ByteArray) (xs : List PastD) (n : Nat) (out : List (List ByteArray)) : Prop where
  len : out.length = n
  perm : out.flatten.Perm ids
  sub : ∀ p, p ∈ out → p.Sublist ids
  even : ∀ p, p ∈ out → ∀ q, q ∈ out → (∀ y, y ∈ p → tot xs p ≤ tot xs q + costF xs y) ∧ tot xs p ≤ tot xs q + 99
theorem shard_ok {ids : List ByteArray} {xs : List PastD} {n : Int} (h : 0 < (shardR ids xs n).length) : idsB ids = true ∧ pastB xs = true ∧ 1 ≤ n ∧ n ≤ 4 ∧ ShardOk ids xs n.toNat (shardR ids xs n) := by
  unfold shardR at h ⊢
  split at h
  · rename_i hc
    rw [if_pos hc]
    simp only [Bool.and_eq_true, decide_eq_true_eq] at hc
    obtain ⟨⟨h1, h2⟩, h3, h4⟩ := hc
    have hn := idsB_nodup h1
    have hP := parts_shd (xs := xs) (n := n.toNat) h2 (by omega) (ssort (costF xs) ids)
    have hS := ssort_perm (f := costF xs) ids
    have hnS : (ssort (costF xs) ids).Nodup := hS.nodup_iff.2 hn
    have hpi : ∀ p, p ∈ shd xs n.toNat (ssort (costF xs) ids) → (inOrd ids p).Perm p := fun p hp => inOrd_perm hn ((hP.sub p hp).nodup hnS) fun x hx => hS.mem_iff.1 ((hP.sub p hp).subset hx)
    refine ⟨h1, h2, h3, h4, by rw [List.length_map]; exact hP.len, ((flatten_map_perm hpi).trans hP.perm).trans hS, fun p hp => ?_, fun p hp q hq => ?_⟩
    · obtain ⟨p, _, rfl⟩ := List.mem_map.1 hp
      exact List.filter_sublist
    · obtain ⟨p, hp2, rfl⟩ := List.mem_map.1 hp
      obtain ⟨q, hq2, rfl⟩ := List.mem_map.1 hq
      have := parts_even h2 hP (ssort_desc ids) hp2 hq2
      rw [tot_perm xs (hpi p hp2), tot_perm xs (hpi q hq2)]
      exact ⟨fun y hy => this.1 y ((hpi p hp2).mem_iff.1 hy), this.2⟩
  · exact absurd h (by simp)

end Go.Proofs.Ytbbhhdcimmofoaa

