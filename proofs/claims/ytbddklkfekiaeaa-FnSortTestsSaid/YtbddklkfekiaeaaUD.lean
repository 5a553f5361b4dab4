/- Ids and modules of tests. -/
import Derived.Test.YtbddklkfekiaeaaWT
import Derived.Test.YtbddklkfekiaeaaZ3
set_option maxHeartbeats 4000000
set_option synthInstance.maxHeartbeats 400000
set_option synthInstance.maxSize 4096
set_option linter.unusedSimpArgs false
set_option linter.unusedVariables false
namespace Go.Proofs.Ytbddklkfekiaeaa

set_option maxRecDepth 100000

theorem testsB_len {ts : List TestD} (h : testsB ts = true) : ts.length ≤ 10 ∧ (∀ t, t ∈ ts → testB t = true) ∧ (ts.map idD).Nodup := by
  unfold testsB at h
  simp only [Bool.and_eq_true, decide_eq_true_eq, List.all_eq_true] at h
  exact ⟨h.2, h.1.1, h.1.2⟩
theorem testsB_mk {ts : List TestD} (h1 : ts.length ≤ 10) (h2 : ∀ t, t ∈ ts → testB t = true) (h3 : (ts.map idD).Nodup) : testsB ts = true := by
  unfold testsB
  simp only [Bool.and_eq_true, decide_eq_true_eq, List.all_eq_true]
  exact ⟨⟨h2, h3⟩, h1⟩
theorem testsB_perm {xs ts : List TestD} (hp : xs.Perm ts) (h : testsB ts = true) : testsB xs = true := by
  obtain ⟨h1, h2, h3⟩ := testsB_len h
  exact testsB_mk (by rw [hp.length_eq]; exact h1) (fun t ht => h2 t (hp.mem_iff.1 ht)) ((hp.map idD).nodup_iff.2 h3)
theorem testB_nm {t : TestD} (h : testB t = true) : nmOk t.1 = true := by
  unfold testB at h
  simp only [Bool.and_eq_true] at h
  exact h.1.1.1.1

/-! ### modules, in plain words -/
def modsR (ts : List TestD) : List ByteArray := ts.foldl (fun r t => addT r t.1) []
theorem modsR_take {ts : List TestD} {i : Nat} (h : i < ts.length) : modsR (ts.take (i + 1)) = addT (modsR (ts.take i)) (ts[i]).1 := by
  unfold modsR
  rw [List.take_succ_eq_append_getElem h, List.foldl_append]
  rfl
theorem modsR_snoc (ts : List TestD) (t : TestD) : modsR (ts ++ [t]) = addT (modsR ts) t.1 := by
  unfold modsR
  rw [List.foldl_append]
  rfl
theorem addT_nodup {xs : List ByteArray} {n : ByteArray} (h : xs.Nodup) : (addT xs n).Nodup := by
  unfold addT
  split
  · exact h
  · rename_i hn
    refine List.nodup_append.2 ⟨h, by simp, fun a ha b hb hab => hn ?_⟩
    rw [← List.mem_singleton.1 hb, ← hab]
    exact ha
theorem addT_in {xs : List ByteArray} {n y : ByteArray} : y ∈ addT xs n ↔ y ∈ xs ∨ y = n := by
  unfold addT
  split
  · rename_i hn
    exact ⟨.inl, fun h => h.elim id fun e => e ▸ hn⟩
  · rw [List.mem_append, List.mem_singleton]
theorem modsR_nodup (ts : List TestD) : (modsR ts).Nodup := by
  rw [← List.reverse_reverse ts]
  induction ts.reverse with
  | nil => exact List.nodup_nil
  | cons y ys ih => rw [List.reverse_cons, modsR_snoc]; exact addT_nodup ih
theorem modsR_mem (ts : List TestD) (m : ByteArray) : m ∈ modsR ts ↔ ∃ t, t ∈ ts ∧ t.1 = m := by
  rw [← List.reverse_reverse ts]
  induction ts.reverse with
  | nil => exact ⟨fun h => (List.not_mem_nil h).elim, fun ⟨_, h, _⟩ => (List.not_mem_nil h).elim⟩
  | cons y ys ih =>
    rw [List.reverse_cons, modsR_snoc, addT_in, ih]
    constructor
    · rintro (⟨t, ht, rfl⟩ | rfl)
      · exact ⟨t, List.mem_append_left _ ht, rfl⟩
      · exact ⟨y, List.mem_append_right _ (List.mem_singleton.2 rfl), rfl⟩
    · rintro ⟨t, ht, rfl⟩
      rcases List.mem_append.1 ht with ht | ht
      · exact .inl ⟨t, ht, rfl⟩
      · exact .inr (by rw [List.mem_singleton.1 ht])
theorem modsR_len (ts : List TestD) : (modsR ts).length ≤ ts.length := by
  rw [← List.reverse_reverse ts]
  induction ts.reverse with
  | nil => exact Nat.le_refl _
  | cons y ys ih =>
    rw [List.reverse_cons, modsR_snoc, List.length_append, List.length_singleton]
    unfold addT
    split
    · omega
    · rw [List.length_append, List.length_singleton]; omega

/-- The tests of a module. -/
def ofM (ts : List TestD) (m : ByteArray) : List TestD := ts.filter fun t => decide (t.1 = m)
def grpR (ts : List TestD) : List TestD := (modsR ts).flatMap (ofM ts)
theorem ofM_mem {ts : List TestD} {m : ByteArray} {t : TestD} : t ∈ ofM ts m ↔ t ∈ ts ∧ t.1 = m := by
  unfold ofM
  rw [List.mem_filter, decide_eq_true_eq]
theorem groups_perm : ∀ (ks : List ByteArray) (ts : List TestD), ks.Nodup → (∀ t, t ∈ ts → t.1 ∈ ks) → (ks.flatMap (ofM ts)).Perm ts
  | [], ts, _, h => by
    cases ts with
    | nil => exact List.Perm.nil
    | cons t ts => exact (List.not_mem_nil (h t (List.mem_cons_self ..))).elim
  | k :: ks, ts, hn, h => by
    have hn2 := List.nodup_cons.1 hn
    rw [List.flatMap_cons]
    have h1 : ks.flatMap (ofM ts) = ks.flatMap (ofM (ts.filter fun t => !decide (t.1 = k))) := by
      unfold List.flatMap
      congr 1
      refine List.map_congr_left fun j hj => ?_
      unfold ofM
      rw [List.filter_filter]
      refine List.filter_congr fun t _ => ?_
      by_cases hq : t.1 = j
      · have : t.1 ≠ k := fun e => hn2.1 (e ▸ hq ▸ hj)
        simp [hq, hq ▸ this]
      · simp [hq]
    rw [h1]
    have ih := groups_perm ks (ts.filter fun t => !decide (t.1 = k)) hn2.2 fun t ht => by
      rw [List.mem_filter] at ht
      have h2 := h t ht.1
      rcases List.mem_cons.1 h2 with h3 | h3
      · rw [h3] at ht; simp at ht
      · exact h3
    exact (List.Perm.append_left _ ih).trans (List.filter_append_perm (fun t : TestD => decide (t.1 = k)) ts)
theorem grpR_perm (ts : List TestD) : (grpR ts).Perm ts := groups_perm _ ts (modsR_nodup ts) fun t ht => (modsR_mem ts _).2 ⟨t, ht, rfl⟩
theorem ofM_groups : ∀ (ks : List ByteArray) (ts : List TestD) (m : ByteArray), ks.Nodup → ofM (ks.flatMap (ofM ts)) m = if m ∈ ks then ofM ts m else []
  | [], ts, m, _ => rfl
  | k :: ks, ts, m, hn => by
    have hn2 := List.nodup_cons.1 hn
    have ih := ofM_groups ks ts m hn2.2
    rw [List.flatMap_cons]
    show (ofM ts k ++ ks.flatMap (ofM ts)).filter (fun t => decide (t.1 = m)) = _
    rw [List.filter_append]
    show ofM (ofM ts k) m ++ ofM (ks.flatMap (ofM ts)) m = _
    rw [ih]
    have h2 : ofM (ofM ts k) m = if k = m then ofM ts m else [] := by
      unfold ofM
      rw [List.filter_filter]
      split
      · rename_i e
        rw [e]
        exact List.filter_congr fun t _ => Bool.and_self _
      · rename_i e
        rw [List.filter_eq_nil_iff]
        intro t _ hq
        rw [Bool.and_eq_true, decide_eq_true_eq, decide_eq_true_eq] at hq
        exact e (hq.2.symm.trans hq.1)
    rw [h2]
    by_cases e : k = m
    · subst e
      rw [if_pos rfl, if_neg hn2.1, if_pos (List.mem_cons_self ..), List.append_nil]
    · rw [if_neg e, List.nil_append]
      have : (m ∈ k :: ks) ↔ m ∈ ks := by rw [List.mem_cons]; exact ⟨fun h => h.resolve_left fun h2 => e h2.symm, .inr⟩
      simp only [this]
theorem grpR_twice (ts : List TestD) (h : modsR (grpR ts) = modsR ts) : grpR (grpR ts) = grpR ts := by
  show (modsR (grpR ts)).flatMap (ofM (grpR ts)) = (modsR ts).flatMap (ofM ts)
  rw [h]
  unfold List.flatMap
  congr 1
  refine List.map_congr_left fun m hm => ?_
  show ofM ((modsR ts).flatMap (ofM ts)) m = _
  rw [ofM_groups _ _ _ (modsR_nodup ts), if_pos hm]
theorem mods_group {m : ByteArray} : ∀ (g : List TestD) (r : List ByteArray), (∀ t, t ∈ g → t.1 = m) → g ≠ [] → m ∉ r → g.foldl (fun r t => addT r t.1) r = r ++ [m] := by
  have key : ∀ (g : List TestD) (r : List ByteArray), (∀ t, t ∈ g → t.1 = m) → m ∈ r → g.foldl (fun r t => addT r t.1) r = r := by
    intro g
    induction g with
    | nil => intro r _ _; rfl
    | cons t g ih =>
      intro r h hm
      rw [List.foldl_cons, h t (List.mem_cons_self ..)]
      have : addT r m = r := by unfold addT; rw [if_pos hm]
      rw [this]
      exact ih r (fun t ht => h t (List.mem_cons_of_mem _ ht)) hm
  intro g r h hne hm
  cases g with
  | nil => exact absurd rfl hne
  | cons t g =>
    rw [List.foldl_cons, h t (List.mem_cons_self ..)]
    have : addT r m = r ++ [m] := by unfold addT; rw [if_neg hm]
    rw [this]
    exact key g _ (fun t ht => h t (List.mem_cons_of_mem _ ht)) (List.mem_append_right _ (List.mem_singleton.2 rfl))
theorem mods_groups {ts : List TestD} : ∀ (ks r : List ByteArray), (r ++ ks).Nodup → (∀ k, k ∈ ks → ofM ts k ≠ []) → (ks.flatMap (ofM ts)).foldl (fun r t => addT r t.1) r = r ++ ks
  | [], r, _, _ => by simp
  | k :: ks, r, hn, h => by
    rw [List.flatMap_cons, List.foldl_append]
    have h1 : k ∉ r := fun hk => by
      have := (List.nodup_append.1 hn).2.2 k hk k (List.mem_cons_self ..)
      exact this rfl
    rw [mods_group (ofM ts k) r (fun t ht => (ofM_mem.1 ht).2) (h k (List.mem_cons_self ..)) h1]
    have h2 : r ++ k :: ks = (r ++ [k]) ++ ks := by simp
    rw [h2] at hn ⊢
    exact mods_groups ks (r ++ [k]) hn fun j hj => h j (List.mem_cons_of_mem _ hj)
theorem modsR_grp (ts : List TestD) : modsR (grpR ts) = modsR ts := by
  have := mods_groups (ts := ts) (modsR ts) [] (by simpa using modsR_nodup ts) fun k hk he => by
    obtain ⟨t, ht, hk⟩ := (modsR_mem ts k).1 hk
    have : t ∈ ofM ts k := ofM_mem.2 ⟨ht, hk⟩
    rw [he] at this
    exact List.not_mem_nil this
  rw [List.nil_append] at this
  exact this

end Go.Proofs.Ytbddklkfekiaeaa

