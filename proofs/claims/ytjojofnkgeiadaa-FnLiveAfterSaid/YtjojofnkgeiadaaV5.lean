/- What a fixture needs; circles. -/
import Derived.Test.YtjojofnkgeiadaaV4
set_option maxHeartbeats 4000000
set_option synthInstance.maxHeartbeats 400000
set_option synthInstance.maxSize 4096
set_option linter.unusedSimpArgs false
set_option linter.unusedVariables false
namespace Go.Proofs.Ytjojofnkgeiadaa

set_option maxRecDepth 100000

def fuel (fs : List FixtureD) : Nat := freeN fs []
theorem fuel_ok (fs : List FixtureD) : freeN fs [] ≤ fuel fs := Nat.le_refl _
def needsR (fs : List FixtureD) (a : ByteArray) : List ByteArray := (rchF fs (fuel fs) a [] []).dropLast

/-- The end of a slice of one's own is forgotten. -/
theorem osl_cut {α : Type} {O : OwnS α} [Flat O] {A V : View} {L : List It} {e : TypeId} {fp : List Nat} {b n c k : Nat} {xs : List α} (h : Led A (osl e O fp (.slice (some ⟨b, 0, none⟩) n c) xs :: L) V) (hk : k ≤ xs.length) :
    ∃ V', Weaker V' V ∧ Led A (osl e O fp (.slice (some ⟨b, 0, none⟩) k c) (xs.take k) :: L) V' := by
  obtain ⟨hl, ⟨hq, _⟩ | ⟨b', c', cells, f, hq, hc, rfl, hb, he⟩⟩ := (show OSl e O V fp _ xs from h.at (i := 0) rfl)
  · cases hq
  · injection hq with q1 q2 q3
    injection q1 with q1
    injection q1 with q1
    subst q1; subst q3
    obtain rfl := he.flatN
    have hlen := he.len
    have hle : (cells.take (k * O.S.size)).length ≤ c * O.S.size := by
      rw [List.length_take, hlen]
      have := Nat.mul_le_mul_right O.S.size hc
      omega
    have hrel : OElems O (V.set b ⟨e, cells.take (k * O.S.size), c * O.S.size, true⟩) [] (xs.take k) (cells.take (k * O.S.size)) := OElems.flatE (he.toS.take k)
    refine ⟨V.set b ⟨e, cells.take (k * O.S.size), c * O.S.size, true⟩, Weaker.set hb rfl ⟨rfl, Nat.le_refl _, hle, cells.drop (k * O.S.size), by rw [List.take_append_drop]⟩, ?_⟩
    exact h.upd (i := 0) rfl rfl (Only.set _ (List.mem_cons_self ..)) (show OSl e O _ [b] _ _ from ⟨by rw [List.length_take]; omega, .inr ⟨b, c, _, [], by rw [List.length_take, Nat.min_eq_left hk], by rw [List.length_take]; omega, rfl, View.set_same .., hrel⟩⟩)

theorem spec_needs_c (B : View) (d : List Value) (x : SuiteD) (name : ByteArray) (hx : suiteS.rel B x d) (hsm : x.1.length ≤ 1048576) (hz : name.size ≤ 140737488355328) : ACalls Try.prog 131 #[.agg d.toArray, .string name] B fun r V => NewSl 9 strO B r V (needsR x.1 name) := by
  obtain ⟨u0, u1, rfl, g0, g1⟩ := suiteS_open hx
  obtain ⟨a0, c0, rfl, _, _⟩ := g0.slice
  obtain ⟨a1, c1, rfl, _, _⟩ := g1.slice
  refine ACalls.weaken (R := fun r V => ∃ fp ar cr, Led B [osl 9 strO fp (.slice ar (rchF x.1 (fuel x.1) name [] []).length cr) (rchF x.1 (fuel x.1) name [] [])] V ∧ ((rchF x.1 (fuel x.1) name [] [] = [] ∧ r = .slice ar 0 cr) ∨ (0 < (rchF x.1 (fuel x.1) name [] []).length ∧ r = .slice (cutAddr ar 0 cr 1) ((rchF x.1 (fuel x.1) name [] []).length - 1) cr))) ?_ ?_
  rotate_left
  · unfold needsR
    generalize rchF x.1 (fuel x.1) name [] [] = R
    rintro r V ⟨fp, ar, cr, l, ⟨rfl, rfl⟩ | ⟨hp, rfl⟩⟩
    · exact ⟨V, (fun b k2 h => ⟨k2, h, rfl, .inl rfl⟩), fp, l⟩
    · obtain ⟨hl, ⟨hq, hn, _⟩ | ⟨b', c', cells, f, hq, hc, rfl, hb, he⟩⟩ := (show OSl 9 strO V fp _ R from l.at (i := 0) rfl)
      · rw [hn] at hp; cases hp
      · injection hq with q1 q2 q3
        subst q1; subst q3
        obtain ⟨V', hw, l'⟩ := osl_cut l (k := R.length - 1) (by omega)
        have e1 : cutAddr (some (⟨b', 0, none⟩ : Addr)) 0 cr 1 = some ⟨b', 0, none⟩ := by unfold cutAddr; rw [if_neg (by omega)]; simp [Addr.add]
        rw [e1, List.dropLast_eq_take]
        exact ⟨V', hw, _, l'⟩
  refine acalls Try.func131 rfl (by kernel_rfl) ?_
  simp (disch := omega) only [↓stp, vls, inf, frs, mark_eq, ↓reduceIte, Nat.reduceEqDiff, ite_tt, ite_ff, eq_self, and_true, true_and, and_self, implies_true, Bool.true_eq_false, Bool.false_eq_true, decide_true, decide_false, decide_eq_true_eq, decide_eq_false_iff_not, ne_eq, not_true_eq_false, not_false_eq_true, Bool.not_eq_true', Bool.not_eq_false', beq_self_eq_true, Bool.not_true, Bool.not_false, List.getElem?_toArray, List.getElem?_cons_zero, List.getElem?_cons_succ]
  refine led_box (Led.nil B) rfl fun q V he l => ?_
  have k0 : V.part ⟨q, 0, none⟩ 2 = some _ := l.part (i := 0) rfl rfl
  simp (disch := omega) only [↓stp, vls, inf, frs, mark_eq, ↓reduceIte, Nat.reduceEqDiff, ite_tt, ite_ff, eq_self, and_true, true_and, and_self, implies_true, Bool.true_eq_false, Bool.false_eq_true, decide_true, decide_false, decide_eq_true_eq, decide_eq_false_iff_not, ne_eq, not_true_eq_false, not_false_eq_true, Bool.not_eq_true', Bool.not_eq_false', beq_self_eq_true, Bool.not_true, Bool.not_false, List.getElem?_toArray, List.getElem?_cons_zero, List.getElem?_cons_succ, k0]
  refine led_lit0 (O := strO) li31 l fun b1 V1 _ l => ?_
  simp (disch := omega) only [↓stp, vls, inf, frs, mark_eq, ↓reduceIte, Nat.reduceEqDiff, ite_tt, ite_ff, eq_self, and_true, true_and, and_self, implies_true, Bool.true_eq_false, Bool.false_eq_true, decide_true, decide_false, decide_eq_true_eq, decide_eq_false_iff_not, ne_eq, not_true_eq_false, not_false_eq_true, Bool.not_eq_true', Bool.not_eq_false', beq_self_eq_true, Bool.not_true, Bool.not_false, List.getElem?_toArray, List.getElem?_cons_zero, List.getElem?_cons_succ]
  refine led_lit0 (O := strO) li31 l fun b2 V2 _ l => ?_
  simp (disch := omega) only [↓stp, vls, inf, frs, mark_eq, ↓reduceIte, Nat.reduceEqDiff, ite_tt, ite_ff, eq_self, and_true, true_and, and_self, implies_true, Bool.true_eq_false, Bool.false_eq_true, decide_true, decide_false, decide_eq_true_eq, decide_eq_false_iff_not, ne_eq, not_true_eq_false, not_false_eq_true, Bool.not_eq_true', Bool.not_eq_false', beq_self_eq_true, Bool.not_true, Bool.not_false, List.getElem?_toArray, List.getElem?_cons_zero, List.getElem?_cons_succ]
  refine (spec_reach_c B _ x hx hsm (fuel x.1) V2 _ name _ [] _ _ [] hz (fun V' fp' w' o' l' => OSl.toS (show OSl 9 strO V' [b1] _ [] from l'.at (i := 1) rfl)) (fuel_ok _) ⟨List.nodup_nil, (by intro x hx; cases hx)⟩ ⟨List.nodup_nil, (by intro x hx; cases hx)⟩ l).mono ?_
  rintro r V3 ⟨fp, l⟩
  generalize rchF x.1 (fuel x.1) name [] [] = R at l
  obtain ⟨ar, cr, rfl, hcr, hlr⟩ := (show Sl strS V3 r R from OSl.toS (show OSl 9 strO V3 fp r R from l.at (i := 0) rfl)).slice
  have l2 : Led B [osl 9 strO fp (.slice ar R.length cr) R] V3 := l.sub (by simp)
  simp (disch := omega) only [↓stp, vls, inf, frs, mark_eq, ↓reduceIte, Nat.reduceEqDiff, ite_tt, ite_ff, eq_self, and_true, true_and, and_self, implies_true, Bool.true_eq_false, Bool.false_eq_true, decide_true, decide_false, decide_eq_true_eq, decide_eq_false_iff_not, ne_eq, not_true_eq_false, not_false_eq_true, Bool.not_eq_true', Bool.not_eq_false', beq_self_eq_true, Bool.not_true, Bool.not_false, List.getElem?_toArray, List.getElem?_cons_zero, List.getElem?_cons_succ]
  refine ⟨fun e => ?_, fun e => ?_⟩ <;> simp (disch := omega) only [↓stp, vls, inf, frs, mark_eq, ↓reduceIte, Nat.reduceEqDiff, ite_tt, ite_ff, eq_self, and_true, true_and, and_self, implies_true, Bool.true_eq_false, Bool.false_eq_true, decide_true, decide_false, decide_eq_true_eq, decide_eq_false_iff_not, ne_eq, not_true_eq_false, not_false_eq_true, Bool.not_eq_true', Bool.not_eq_false', beq_self_eq_true, Bool.not_true, Bool.not_false, List.getElem?_toArray, List.getElem?_cons_zero, List.getElem?_cons_succ]
  · refine ⟨fp, ar, cr, l2, .inr ⟨by omega, ?_⟩⟩
    congr 1
    omega
  · have : R = [] := List.length_eq_zero_iff.1 (by omega)
    subst this
    exact ⟨fp, ar, cr, l2, .inl ⟨rfl, rfl⟩⟩

theorem rchF_last {fs : List FixtureD} {a : ByteArray} (h : hasF fs a) : needsR fs a ++ [a] = rchF fs (fuel fs) a [] [] := by
  unfold needsR
  obtain ⟨m, hm⟩ : ∃ m, fuel fs = m + 1 := ⟨fuel fs - 1, by have := freeN_pos (op := []) h (by simp); unfold fuel; omega⟩
  rw [hm, rchF, if_pos ⟨h, by simp, by simp⟩, List.dropLast_concat]
theorem needsR_names {fs : List FixtureD} {a : ByteArray} : Names fs (needsR fs a) := by
  have h := rchF_names (fs := fs) (fuel fs) a [] [] ⟨List.nodup_nil, (by intro x hx; cases hx)⟩
  exact ⟨List.Sublist.nodup (List.dropLast_sublist _) h.1, fun x hx => h.2 x ((List.dropLast_sublist _).subset hx)⟩
/-- A fixture needs itself, directly or by others. -/
noncomputable def circB (fs : List FixtureD) (a : ByteArray) : Bool := @decide (Rch fs a a) (Classical.propDecidable _)
theorem circB_any {fs : List FixtureD} {a : ByteArray} (h : hasF fs a) : (needsR fs a ++ [a]).any (fun x => decide (a ∈ needsAt fs x)) = circB fs a := by
  rw [rchF_last h, Bool.eq_iff_iff, List.any_eq_true]
  have := circle_iff (fuel_ok fs) h
  simp only [decide_eq_true_eq]
  rw [this]
  unfold circB
  exact ⟨fun h => @decide_eq_true _ (Classical.propDecidable _) h, fun h => @of_decide_eq_true _ (Classical.propDecidable _) h⟩

theorem spec_circular_c (B : View) (d : List Value) (x : SuiteD) (name : ByteArray) (hx : suiteS.rel B x d) (hsm : x.1.length ≤ 1048576) (hz : name.size ≤ 140737488355328) (hF : hasF x.1 name) : ACalls Try.prog 101 #[.agg d.toArray, .string name] B fun r V => r = .bool (circB x.1 name) ∧ Ext B V := by
  rw [← circB_any hF]
  have hx0 := hx
  obtain ⟨u0, u1, rfl, g0, g1⟩ := suiteS_open hx
  obtain ⟨a0, c0, rfl, _, _⟩ := g0.slice
  obtain ⟨a1, c1, rfl, _, _⟩ := g1.slice
  refine acalls Try.func101 rfl (by kernel_rfl) ?_
  simp (disch := omega) only [↓stp, vls, inf, frs, mark_eq, ↓reduceIte, Nat.reduceEqDiff, ite_tt, ite_ff, eq_self, and_true, true_and, and_self, implies_true, Bool.true_eq_false, Bool.false_eq_true, decide_true, decide_false, decide_eq_true_eq, decide_eq_false_iff_not, ne_eq, not_true_eq_false, not_false_eq_true, Bool.not_eq_true', Bool.not_eq_false', beq_self_eq_true, Bool.not_true, Bool.not_false, List.getElem?_toArray, List.getElem?_cons_zero, List.getElem?_cons_succ]
  refine led_box (Led.nil B) rfl fun q V he l => ?_
  have k0 : V.part ⟨q, 0, none⟩ 2 = some _ := l.part (i := 0) rfl rfl
  simp (disch := omega) only [↓stp, vls, inf, frs, mark_eq, ↓reduceIte, Nat.reduceEqDiff, ite_tt, ite_ff, eq_self, and_true, true_and, and_self, implies_true, Bool.true_eq_false, Bool.false_eq_true, decide_true, decide_false, decide_eq_true_eq, decide_eq_false_iff_not, ne_eq, not_true_eq_false, not_false_eq_true, Bool.not_eq_true', Bool.not_eq_false', beq_self_eq_true, Bool.not_true, Bool.not_false, List.getElem?_toArray, List.getElem?_cons_zero, List.getElem?_cons_succ, k0]
  refine (spec_needs_c V _ x name (suiteS_mk (g0.mono l.ext) (g1.mono l.ext)) hsm hz).mono ?_
  rintro r V2 ⟨fp, l1⟩
  replace l := l.append l1
  simp (disch := omega) only [↓stp, vls, inf, frs, mark_eq, ↓reduceIte, Nat.reduceEqDiff, ite_tt, ite_ff, eq_self, and_true, true_and, and_self, implies_true, Bool.true_eq_false, Bool.false_eq_true, decide_true, decide_false, decide_eq_true_eq, decide_eq_false_iff_not, ne_eq, not_true_eq_false, not_false_eq_true, Bool.not_eq_true', Bool.not_eq_false', beq_self_eq_true, Bool.not_true, Bool.not_false, List.getElem?_toArray, List.getElem?_cons_zero, List.getElem?_cons_succ]
  refine led_lit li31 (by omega) rfl (fun p hp => by rcases List.mem_singleton.1 hp with rfl; exact ⟨rfl, rfl⟩) l fun bl V6 _ l => ?_
  simp (disch := omega) only [↓stp, vls, inf, frs, mark_eq, ↓reduceIte, Nat.reduceEqDiff, ite_tt, ite_ff, eq_self, and_true, true_and, and_self, implies_true, Bool.true_eq_false, Bool.false_eq_true, decide_true, decide_false, decide_eq_true_eq, decide_eq_false_iff_not, ne_eq, not_true_eq_false, not_false_eq_true, Bool.not_eq_true', Bool.not_eq_false', beq_self_eq_true, Bool.not_true, Bool.not_false, List.getElem?_toArray, List.getElem?_cons_zero, List.getElem?_cons_succ]
  refine led_app (O := strO) ap31_31 (by decide) l (i := 1) rfl (l.src1 (S := strS) (j := 0) rfl ⟨rfl, hz⟩) (by rw [List.length_singleton]; have := (needsR_names (fs := x.1) (a := name)).len; omega) fun fp2 w2 V7 _ l => ?_
  simp (disch := omega) only [↓stp, vls, inf, frs, mark_eq, ↓reduceIte, Nat.reduceEqDiff, ite_tt, ite_ff, eq_self, and_true, true_and, and_self, implies_true, Bool.true_eq_false, Bool.false_eq_true, decide_true, decide_false, decide_eq_true_eq, decide_eq_false_iff_not, ne_eq, not_true_eq_false, not_false_eq_true, Bool.not_eq_true', Bool.not_eq_false', beq_self_eq_true, Bool.not_true, Bool.not_false, List.getElem?_toArray, List.getElem?_cons_zero, List.getElem?_cons_succ]
  generalize needsR x.1 name ++ [name] = R at l
  have hS : Sl strS V7 w2 R := OSl.toS (show OSl 9 strO V7 fp2 w2 R from l.at (i := 1) rfl)
  obtain ⟨ar, cr, rfl, hcr, hlr⟩ := hS.slice
  have k0 := l.cell (i := 2) rfl (o := 0) rfl rfl
  refine aloop (fun d fr V => ∃ i : Nat, i ≤ R.length ∧ d = R.length - i ∧ V = V7 ∧ fr 1 = .string name ∧ fr 2 = .pointer (some ⟨q, 0, none⟩) ∧ fr 5 = .slice ar R.length cr ∧ fr 6 = .int .i64 i ∧ (∀ j (hj : j < i) (hl : j < R.length), decide (name ∈ needsAt x.1 R[j]) = false)) R.length ⟨0, by omega, by omega, rfl, by rfl, by rfl, by rfl, by rfl, by omega⟩ ?_
  rintro d fr V ⟨i, hi, rfl, rfl, h1, h2, h5, h6, hn⟩
  simp (disch := omega) only [↓stp, vls, inf, frs, mark_eq, ↓reduceIte, Nat.reduceEqDiff, ite_tt, ite_ff, eq_self, and_true, true_and, and_self, implies_true, Bool.true_eq_false, Bool.false_eq_true, decide_true, decide_false, decide_eq_true_eq, decide_eq_false_iff_not, ne_eq, not_true_eq_false, not_false_eq_true, Bool.not_eq_true', Bool.not_eq_false', beq_self_eq_true, Bool.not_true, Bool.not_false, List.getElem?_toArray, List.getElem?_cons_zero, List.getElem?_cons_succ, h1, h2, h5, h6]
  refine ⟨fun e => ?_, fun e => ?_⟩
  · have hlt : i < R.length := by omega
    obtain ⟨ad, rfl, kk, zk⟩ := hS.str hlt
    have hnext : decide (name ∈ needsAt x.1 R[i]) = false → ∀ j (hj : j < i + 1) (hl : j < R.length), decide (name ∈ needsAt x.1 R[j]) = false := fun hq j hj hl => by
      by_cases hji : j = i
      · subst hji; exact hq
      · exact hn j (by omega) hl
    simp (disch := omega) only [↓stp, vls, inf, frs, mark_eq, ↓reduceIte, Nat.reduceEqDiff, ite_tt, ite_ff, eq_self, and_true, true_and, and_self, implies_true, Bool.true_eq_false, Bool.false_eq_true, decide_true, decide_false, decide_eq_true_eq, decide_eq_false_iff_not, ne_eq, not_true_eq_false, not_false_eq_true, Bool.not_eq_true', Bool.not_eq_false', beq_self_eq_true, Bool.not_true, Bool.not_false, List.getElem?_toArray, List.getElem?_cons_zero, List.getElem?_cons_succ, h1, h2, h5, h6]
    refine adraw_items [.q 0, .l 1 false, .q 2, .q 3, .q 4, .l 5 false, .c 6 [], .q 7] (by kernel_rfl) (by kernel_rfl) ?_
    simp (disch := omega) only [↓stp, ↓pln, plv, nilOk, Nat.reduceBEq, Bool.or_false, Bool.or_true, Bool.false_or, Bool.true_or, vls, inf, frs, mark_eq, ↓reduceIte, Nat.reduceEqDiff, ite_tt, ite_ff, eq_self, and_true, true_and, and_self, implies_true, Bool.true_eq_false, Bool.false_eq_true, decide_true, decide_false, decide_eq_true_eq, decide_eq_false_iff_not, ne_eq, not_true_eq_false, not_false_eq_true, Bool.not_eq_true', Bool.not_eq_false', beq_self_eq_true, Bool.not_true, Bool.not_false, List.getElem?_toArray, List.getElem?_cons_zero, List.getElem?_cons_succ, h1, h2, h5, h6, add_at, k0, kk]
    refine (spec_fixtureAt_c V _ x.1 R[i] (g0.mono l.ext)).mono ?_
    rintro _ V ⟨rfl, rfl⟩
    simp (disch := omega) only [↓stp, ↓pln, plv, nilOk, Nat.reduceBEq, Bool.or_false, Bool.or_true, Bool.false_or, Bool.true_or, vls, inf, frs, mark_eq, ↓reduceIte, Nat.reduceEqDiff, ite_tt, ite_ff, eq_self, and_true, true_and, and_self, implies_true, Bool.true_eq_false, Bool.false_eq_true, decide_true, decide_false, decide_eq_true_eq, decide_eq_false_iff_not, ne_eq, not_true_eq_false, not_false_eq_true, Bool.not_eq_true', Bool.not_eq_false', beq_self_eq_true, Bool.not_true, Bool.not_false, List.getElem?_toArray, List.getElem?_cons_zero, List.getElem?_cons_succ, h1, h2, h5, h6, add_at, k0, kk]
    refine ⟨fun e1 => ?_, fun e1 => ?_⟩ <;> simp (disch := omega) only [↓stp, vls, inf, frs, mark_eq, ↓reduceIte, Nat.reduceEqDiff, ite_tt, ite_ff, eq_self, and_true, true_and, and_self, implies_true, Bool.true_eq_false, Bool.false_eq_true, decide_true, decide_false, decide_eq_true_eq, decide_eq_false_iff_not, ne_eq, not_true_eq_false, not_false_eq_true, Bool.not_eq_true', Bool.not_eq_false', beq_self_eq_true, Bool.not_true, Bool.not_false, List.getElem?_toArray, List.getElem?_cons_zero, List.getElem?_cons_succ, h1, h2, h5, h6, e1, add_at, k0]
    · obtain ⟨m, hm, hml, hnd, hnm⟩ := needsAt_idx e1
      obtain ⟨ad2, u2, rfl, hclB, z1, z2, f2⟩ := g0.fixture hml
      have k2 := View.part_cell (l.ext.part hclB) (j := 2) rfl
      rw [hm]
      have e2 : (0 : Int) ≤ m := by omega
      simp (disch := omega) only [↓stp, vls, inf, frs, mark_eq, ↓reduceIte, Nat.reduceEqDiff, ite_tt, ite_ff, eq_self, and_true, true_and, and_self, implies_true, Bool.true_eq_false, Bool.false_eq_true, decide_true, decide_false, decide_eq_true_eq, decide_eq_false_iff_not, ne_eq, not_true_eq_false, not_false_eq_true, Bool.not_eq_true', Bool.not_eq_false', beq_self_eq_true, Bool.not_true, Bool.not_false, List.getElem?_toArray, List.getElem?_cons_zero, List.getElem?_cons_succ, h1, h2, h5, h6, e2, k2]
      refine (spec_hasText_c V _ _ name (f2.mono l.ext)).mono ?_
      rintro _ V ⟨rfl, rfl⟩
      simp (disch := omega) only [↓stp, vls, inf, frs, mark_eq, ↓reduceIte, Nat.reduceEqDiff, ite_tt, ite_ff, eq_self, and_true, true_and, and_self, implies_true, Bool.true_eq_false, Bool.false_eq_true, decide_true, decide_false, decide_eq_true_eq, decide_eq_false_iff_not, ne_eq, not_true_eq_false, not_false_eq_true, Bool.not_eq_true', Bool.not_eq_false', beq_self_eq_true, Bool.not_true, Bool.not_false, List.getElem?_toArray, List.getElem?_cons_zero, List.getElem?_cons_succ, h1, h2, h5, h6, e2]
      refine ⟨fun e3 => ?_, fun e3 => ?_⟩ <;> simp (disch := omega) only [↓stp, vls, inf, frs, mark_eq, ↓reduceIte, Nat.reduceEqDiff, ite_tt, ite_ff, eq_self, and_true, true_and, and_self, implies_true, Bool.true_eq_false, Bool.false_eq_true, decide_true, decide_false, decide_eq_true_eq, decide_eq_false_iff_not, ne_eq, not_true_eq_false, not_false_eq_true, Bool.not_eq_true', Bool.not_eq_false', beq_self_eq_true, Bool.not_true, Bool.not_false, List.getElem?_toArray, List.getElem?_cons_zero, List.getElem?_cons_succ, h1, h2, h5, h6]
      · refine ⟨?_, l.ext⟩
        rw [List.any_eq_true.2 ⟨R[i], List.getElem_mem hlt, decide_eq_true (by rw [hnd]; exact e3)⟩]
      · exact ⟨_, by omega, i + 1, by omega, rfl, rfl, fun j hj hl => of_decide_eq_false (hnext (decide_eq_false (by rw [hnd]; exact e3)) j hj hl)⟩
    · exact ⟨_, by omega, i + 1, by omega, rfl, rfl, fun j hj hl => of_decide_eq_false (hnext (decide_eq_false (by rw [needsAt_no fun h => by have := hasF_idx.1 h; omega]; simp)) j hj hl)⟩
  · simp (disch := omega) only [↓stp, vls, inf, frs, mark_eq, ↓reduceIte, Nat.reduceEqDiff, ite_tt, ite_ff, eq_self, and_true, true_and, and_self, implies_true, Bool.true_eq_false, Bool.false_eq_true, decide_true, decide_false, decide_eq_true_eq, decide_eq_false_iff_not, ne_eq, not_true_eq_false, not_false_eq_true, Bool.not_eq_true', Bool.not_eq_false', beq_self_eq_true, Bool.not_true, Bool.not_false, List.getElem?_toArray, List.getElem?_cons_zero, List.getElem?_cons_succ, h1, h2, h5, h6]
    refine ⟨?_, l.ext⟩
    rw [List.any_eq_false.2 fun y hy => ?_]
    obtain ⟨j, hj, rfl⟩ := List.mem_iff_getElem.1 hy
    rw [hn j (by omega) hj]
    exact Bool.false_ne_true

end Go.Proofs.Ytjojofnkgeiadaa

