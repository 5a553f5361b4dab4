/- Raw elements: structs as cells, whatever these hold. -/
import Derived.Test.YtbddklkfekiaeaaQ1
import Derived.Test.YtbddklkfekiaeaaSS
set_option maxHeartbeats 4000000
set_option synthInstance.maxHeartbeats 400000
set_option synthInstance.maxSize 4096
set_option linter.unusedSimpArgs false
set_option linter.unusedVariables false
namespace Go.Proofs.Ytbddklkfekiaeaa

set_option maxRecDepth 100000

def rawS (n : Nat) : Shape (List Value) where
  size := n
  rel _ x cs := cs = x ∧ x.length = n ∧ ∀ v, v ∈ x → v.oneCell' = true
  mono := fun _ h => h
  len := fun h => by rw [h.1]; exact h.2.1
  one := fun h v hv => h.2.2 v (h.1 ▸ hv)
def rawO (n : Nat) : OwnS (List Value) := scalO (rawS n) fun h => h
instance (n : Nat) : Flat (rawO n) := ⟨fun h => ⟨rfl, h⟩, fun h => h.1⟩
theorem Sl.raw {n m c i : Nat} {A : View} {a : Option Addr} {xs : List (List Value)} (h : Sl (rawS n) A (.slice a m c) xs) (hi : i < xs.length) : ∃ ad, a = some ad ∧ A.part (ad.add (i * n)) n = some xs[i] ∧ xs[i].length = n ∧ ∀ v, v ∈ xs[i] → v.oneCell' = true := by
  obtain ⟨ad, d, rfl, ⟨rfl, h1, h2⟩, hp, _⟩ := h.at hi
  exact ⟨ad, rfl, hp, h1, h2⟩
theorem raw_elems {n : Nat} {A : View} : ∀ {zs : List (List Value)}, (∀ z, z ∈ zs → z.length = n ∧ ∀ v, v ∈ z → v.oneCell' = true) → OElems (rawO n) A [] zs zs.flatten
  | [], _ => .nil
  | z :: zs, h => OElems.cons (f := []) (fp := []) ⟨rfl, rfl, (h z (List.mem_cons_self ..)).1, (h z (List.mem_cons_self ..)).2⟩ (raw_elems fun y hy => h y (List.mem_cons_of_mem _ hy))
theorem raw_inv {n : Nat} {A : View} {fp : List Nat} {zs : List (List Value)} {cs : List Value} (h : OElems (rawO n) A fp zs cs) : fp = [] ∧ cs = zs.flatten := by
  induction h with
  | nil => exact ⟨rfl, rfl⟩
  | cons h1 _ ih => exact ⟨by rw [h1.1, ih.1]; rfl, by rw [h1.2.1, ih.2]; rfl⟩

section
variable {α : Type} {O : OwnS α} {A V : View} {L : List It}
abbrev Pc (α : Type) := α × List Value × List Nat
/-- What elements hold. -/
def opl (O : OwnS α) (ps : List (Pc α)) : It := ⟨ps.flatMap (·.2.2), fun V => ∀ p, p ∈ ps → O.rel V p.2.2 p.1 p.2.1, fun h hs p hp => O.stay (h p hp) fun b k hb => hs b k (List.mem_flatMap.2 ⟨p, hp, hb⟩), fun h b hb => let ⟨p, hp, hb⟩ := List.mem_flatMap.1 hb; O.has (h p hp) b hb⟩
theorem elems_ps {f : List Nat} {xs : List α} {cs : List Value} (h : OElems O A f xs cs) : ∃ ps : List (Pc α), ps.map (·.1) = xs ∧ ps.flatMap (·.2.2) = f ∧ (ps.map (·.2.1)).flatten = cs ∧ ∀ p, p ∈ ps → O.rel A p.2.2 p.1 p.2.1 := by
  induction h with
  | nil => exact ⟨[], rfl, rfl, rfl, fun p hp => by cases hp⟩
  | @cons f fp x xs c cs h1 _ ih =>
    obtain ⟨ps, e1, e2, e3, e4⟩ := ih
    refine ⟨(x, c, f) :: ps, by rw [List.map_cons, e1], by rw [List.flatMap_cons, e2], by rw [List.map_cons, List.flatten_cons, e3], fun p hp => ?_⟩
    rcases List.mem_cons.1 hp with rfl | hp
    · exact h1
    · exact e4 p hp
theorem ps_elems : ∀ {ps : List (Pc α)}, (∀ p, p ∈ ps → O.rel A p.2.2 p.1 p.2.1) → OElems O A (ps.flatMap (·.2.2)) (ps.map (·.1)) ((ps.map (·.2.1)).flatten)
  | [], _ => .nil
  | p :: ps, h => OElems.cons (h p (List.mem_cons_self ..)) (ps_elems fun q hq => h q (List.mem_cons_of_mem _ hq))

theorem Led.unpack {e : TypeId} {fp : List Nat} {v : Value} {xs : List α} (l : Led A (osl e O fp v xs :: L) V) : ∃ (ps : List (Pc α)) (fb : List Nat), ps.map (·.1) = xs ∧ Led A (osl e (rawO O.S.size) fb v (ps.map (·.2.1)) :: opl O ps :: L) V := by
  obtain ⟨hl, ⟨rfl, rfl, rfl⟩ | ⟨b, c, cells, f, rfl, hc, rfl, hb, he⟩⟩ := (show OSl e O V fp v xs from l.at (i := 0) rfl)
  · refine ⟨[], [], rfl, l.regroup (List.Perm.refl _) fun it hit => ?_⟩
    rcases List.mem_cons.1 hit with rfl | hit
    · exact ⟨by simp, .inl ⟨rfl, rfl, rfl⟩⟩
    · rcases List.mem_cons.1 hit with rfl | hit
      · exact fun p hp => by cases hp
      · exact l.all it (List.mem_cons_of_mem _ hit)
  · obtain ⟨ps, rfl, rfl, rfl, h4⟩ := elems_ps he
    refine ⟨ps, [b], rfl, l.regroup ?_ fun it hit => ?_⟩
    · show ([b] ++ (ps.flatMap (·.2.2) ++ fps L)).Perm ((b :: ps.flatMap (·.2.2)) ++ fps L)
      exact List.Perm.refl _
    · rcases List.mem_cons.1 hit with rfl | hit
      · rw [List.length_map] at hl hc
        refine ⟨by rw [List.length_map]; exact hl, .inr ⟨b, c, _, [], by rw [List.length_map, List.length_map], by rw [List.length_map]; exact hc, rfl, hb, raw_elems fun z hz => ?_⟩⟩
        obtain ⟨p, hp, rfl⟩ := List.mem_map.1 hz
        have := O.toS (h4 p hp)
        exact ⟨O.S.len this, O.S.one this⟩
      · rcases List.mem_cons.1 hit with rfl | hit
        · exact h4
        · exact l.all it (List.mem_cons_of_mem _ hit)
theorem Led.repack {e : TypeId} {fb : List Nat} {v : Value} {ps : List (Pc α)} (l : Led A (osl e (rawO O.S.size) fb v (ps.map (·.2.1)) :: opl O ps :: L) V) : ∃ fp, Led A (osl e O fp v (ps.map (·.1)) :: L) V := by
  have h4 : ∀ p, p ∈ ps → O.rel V p.2.2 p.1 p.2.1 := l.at (i := 1) rfl
  obtain ⟨hl, ⟨rfl, hx, rfl⟩ | ⟨b, c, cells, f, rfl, hc, rfl, hb, he⟩⟩ := (show OSl e (rawO O.S.size) V fb v _ from l.at (i := 0) rfl)
  · obtain rfl := List.map_eq_nil_iff.1 hx
    refine ⟨[], l.regroup (List.Perm.refl _) fun it hit => ?_⟩
    rcases List.mem_cons.1 hit with rfl | hit
    · exact ⟨by simp, .inl ⟨rfl, rfl, rfl⟩⟩
    · exact l.all it (List.mem_cons_of_mem _ (List.mem_cons_of_mem _ hit))
  · obtain ⟨rfl, rfl⟩ := raw_inv he
    refine ⟨b :: ps.flatMap (·.2.2), l.regroup (List.Perm.refl _) fun it hit => ?_⟩
    rcases List.mem_cons.1 hit with rfl | hit
    · rw [List.length_map] at hl hc
      exact ⟨by rw [List.length_map]; exact hl, .inr ⟨b, c, _, _, by rw [List.length_map, List.length_map], by rw [List.length_map]; exact hc, rfl, hb, ps_elems h4⟩⟩
    · exact l.all it (List.mem_cons_of_mem _ (List.mem_cons_of_mem _ hit))
theorem Led.plPerm {it0 : It} {ps qs : List (Pc α)} (l : Led A (it0 :: opl O ps :: L) V) (hp : qs.Perm ps) : Led A (it0 :: opl O qs :: L) V := by
  refine l.regroup ?_ fun it hit => ?_
  · show (it0.fp ++ (qs.flatMap (·.2.2) ++ fps L)).Perm (it0.fp ++ (ps.flatMap (·.2.2) ++ fps L))
    exact List.Perm.append_left _ (List.Perm.append_right _ (hp.flatMap_right _))
  · rcases List.mem_cons.1 hit with rfl | hit
    · exact l.at (i := 0) rfl
    · rcases List.mem_cons.1 hit with rfl | hit
      · exact fun p hq => (l.at (i := 1) rfl : ∀ p, p ∈ ps → O.rel V p.2.2 p.1 p.2.1) p (hp.mem_iff.1 hq)
      · exact l.all it (List.mem_cons_of_mem _ (List.mem_cons_of_mem _ hit))
end

/-- A raw element is written. -/
theorem led_setraw {P : Program} {A V : View} {L : List It} {K : Value → View → Prop} {t e : TypeId} {n m i k b c o : Nat} {fp : List Nat} {xs : List (List Value)} {z : List Value} (h : Led A L V) (hi : L[i]? = some (osl e (rawO n) fp (.slice (some ⟨b, 0, none⟩) m c) xs)) (hk : k < xs.length) (hs : (P.info? t).map (·.size) = some n)
    (ho : o = k * n) (hz : z.length = n ∧ ∀ v, v ∈ z → v.oneCell' = true)
    (hK : ∀ W, Only fp V W → Led A (L.set i (osl e (rawO n) fp (.slice (some ⟨b, 0, none⟩) m c) (xs.set k z))) W → K undef W) : astore P t (.pointer (some ⟨b, o, none⟩)) (.agg z.toArray) V K := by
  have hO : OSl e (rawO n) V fp (.slice (some ⟨b, 0, none⟩) m c) xs := h.at hi
  obtain ⟨hl, ⟨hq, _⟩ | ⟨b', c', cells, f, hq, hc, rfl, hbk, he⟩⟩ := hO
  · cases hq
  · injection hq with hq1 hq2 hq3
    injection hq1 with hq1
    injection hq1 with hq1
    subst hq1; subst hq2; subst hq3
    obtain rfl := he.flatN
    obtain ⟨f1, f2, f3, c1, c2, c3, hf, rfl, hc1, h1, h2, h3⟩ := he.at hk
    have hc2 : c2.length = n := (rawS n).len h2.2
    have hcv : (Value.agg z.toArray).cells.toList = z := rfl
    subst ho
    have hc1' : c1.length = k * n := hc1
    rw [astore_at, storev_set hs (k := ⟨e, c1 ++ (c2 ++ c3), c * (rawO n).S.size, true⟩) hbk rfl rfl (by show z.toArray.size = n; simpa using hz.1) (by simp; omega) (by rw [hcv]; exact List.all_eq_true.2 hz.2)]
    have e1 : (c1 ++ (c2 ++ c3)).take (k * n) ++ (Value.agg z.toArray).cells.toList ++ (c1 ++ (c2 ++ c3)).drop (k * n + n) = c1 ++ (z ++ c3) := by
      rw [hcv, List.take_left' hc1', ← List.drop_drop, List.drop_left' hc1', List.drop_left' hc2, List.append_assoc]
    show K undef _
    simp only [e1]
    have hset := List.set_eq_take_append_cons_drop (l := xs) (i := k) (a := z)
    rw [if_pos hk] at hset
    refine hK _ (Only.set _ (List.mem_cons_self ..)) (h.upd hi rfl (Only.set _ (List.mem_cons_self ..)) (show OSl e (rawO n) _ [b] _ _ from ⟨by simpa using hl, .inr ⟨b, c, _, [], by simp, by simpa using hc, rfl, View.set_same .., ?_⟩⟩))
    rw [hset]
    have g1 : OElems (rawO n) (V.set b ⟨e, c1 ++ (z ++ c3), c * (rawO n).S.size, true⟩) [] (xs.take k) c1 := OElems.flatE h1.toS
    have g2 : OElems (rawO n) (V.set b ⟨e, c1 ++ (z ++ c3), c * (rawO n).S.size, true⟩) [] (z :: xs.drop (k + 1)) (z ++ c3) := OElems.cons (f := []) (fp := []) ⟨rfl, rfl, hz⟩ (OElems.flatE h3.toS)
    exact OElems.append (fp := []) (fq := []) g1 g2

/-! ### sorting, in plain words -/
theorem ssIns_map {α β : Type} {f : β → Int} {h : α → β} {x : α} : ∀ {S : List α}, (ssIns (fun y => f (h y)) x S).map h = ssIns f (h x) (S.map h)
  | [] => rfl
  | s :: S => by
    rw [ssIns_cons, List.map_cons, ssIns_cons]
    split
    · rw [List.map_cons, ssIns_map]
    · rfl
theorem ssort_map {α β : Type} {f : β → Int} {h : α → β} (xs : List α) : (ssort (fun y => f (h y)) xs).map h = ssort f (xs.map h) := by
  rw [← List.reverse_reverse xs]
  induction xs.reverse with
  | nil => rfl
  | cons y ys ih => rw [List.reverse_cons, ssort_snoc, ssIns_map, ih, List.map_append, List.map_cons, List.map_nil, ssort_snoc]
theorem ssIns_congr {α : Type} {f g : α → Int} {x : α} : ∀ {S : List α}, f x = g x → (∀ y, y ∈ S → f y = g y) → ssIns f x S = ssIns g x S
  | [], _, _ => rfl
  | s :: S, h1, h2 => by rw [ssIns_cons, ssIns_cons, h1, h2 s (List.mem_cons_self ..), ssIns_congr h1 fun y hy => h2 y (List.mem_cons_of_mem _ hy)]
theorem ssort_congr {α : Type} {f g : α → Int} (xs : List α) : (∀ y, y ∈ xs → f y = g y) → ssort f xs = ssort g xs := by
  rw [← List.reverse_reverse xs]
  induction xs.reverse with
  | nil => exact fun _ => rfl
  | cons y ys ih =>
    rw [List.reverse_cons]
    intro h
    rw [ssort_snoc, ssort_snoc, ih fun z hz => h z (List.mem_append_left _ hz)]
    exact ssIns_congr (h y (List.mem_append_right _ (List.mem_singleton.2 rfl))) fun z hz => h z (List.mem_append_left _ ((ssort_mem ..).1 hz))
theorem ssIns_perm {α : Type} {f : α → Int} {x : α} (S : List α) : (ssIns f x S).Perm (x :: S) := by
  unfold ssIns
  refine List.perm_middle.trans ?_
  rw [List.takeWhile_append_dropWhile]
theorem ssort_perm {α : Type} {f : α → Int} (xs : List α) : (ssort f xs).Perm xs := by
  rw [← List.reverse_reverse xs]
  induction xs.reverse with
  | nil => exact List.Perm.refl _
  | cons y ys ih =>
    rw [List.reverse_cons, ssort_snoc]
    exact (ssIns_perm _).trans (((List.Perm.cons _ ih).trans (List.perm_append_singleton y _).symm))
theorem desc_eq {α : Type} {f : α → Int} : ∀ {xs ys : List α}, Desc f xs → Desc f ys → xs.Perm ys → (∀ a b, a ∈ xs → b ∈ xs → f a = f b → a = b) → xs = ys
  | [], ys, _, _, hp, _ => hp.nil_eq
  | x :: xs, [], _, _, hp, _ => by have := hp.length_eq; simp at this
  | x :: xs, y :: ys, h1, h2, hp, hi => by
    have hx := List.pairwise_cons.1 h1
    have hy := List.pairwise_cons.1 h2
    have e : x = y := by
      have hyx : y ∈ x :: xs := hp.mem_iff.2 (List.mem_cons_self ..)
      have hxy : x ∈ y :: ys := hp.mem_iff.1 (List.mem_cons_self ..)
      rcases List.mem_cons.1 hyx with h | h
      · exact h.symm
      · rcases List.mem_cons.1 hxy with h' | h'
        · exact h'
        · exact hi x y (List.mem_cons_self ..) hyx (by have := hx.1 y h; have := hy.1 x h'; omega)
    subst e
    rw [desc_eq hx.2 hy.2 ((List.perm_cons _).1 hp) fun a b ha hb => hi a b (List.mem_cons_of_mem _ ha) (List.mem_cons_of_mem _ hb)]
theorem ssort_unique {α : Type} {f : α → Int} {xs ys : List α} (hp : xs.Perm ys) (hi : ∀ a b, a ∈ xs → b ∈ xs → f a = f b → a = b) : ssort f xs = ssort f ys :=
  desc_eq (ssort_desc _) (ssort_desc _) ((ssort_perm xs).trans (hp.trans (ssort_perm ys).symm)) fun a b ha hb => hi a b ((ssort_mem ..).1 ha) ((ssort_mem ..).1 hb)

end Go.Proofs.Ytbddklkfekiaeaa

