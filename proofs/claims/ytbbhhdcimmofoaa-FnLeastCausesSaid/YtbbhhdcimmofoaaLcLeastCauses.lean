/- The law FnLeastCauses. -/
import Derived.Test.YtbbhhdcimmofoaaHE
import Derived.Test.YtbbhhdcimmofoaaY5
set_option maxHeartbeats 4000000
set_option synthInstance.maxHeartbeats 400000
set_option synthInstance.maxSize 4096
set_option linter.unusedSimpArgs false
set_option linter.unusedVariables false
namespace Go.Proofs.Ytbbhhdcimmofoaa

set_option maxRecDepth 100000

theorem law_FnLeastCauses (A : View) (v0 : Value) (x0 : List UInt8) (h0 : Sl byteS A v0 x0) : ACalls Try.prog 7 #[v0] A fun r _ => r = .bool true := by
  obtain ⟨a, c, rfl, _, _⟩ := h0.slice
  refine acalls Try.func7 rfl (by kernel_rfl) ?_
  simp (disch := omega) only [↓stq, amv_at, vls, inf, frs, mark_eq, ↓reduceIte, Nat.reduceEqDiff, ite_tt, ite_ff, eq_self, and_true, true_and, and_self, implies_true, Bool.true_eq_false, Bool.false_eq_true, decide_true, decide_false, decide_eq_true_eq, decide_eq_false_iff_not, ne_eq, not_true_eq_false, not_false_eq_true, Bool.not_eq_true', Bool.not_eq_false', beq_self_eq_true, Bool.not_true, Bool.not_false, List.getElem?_toArray, List.getElem?_cons_zero, List.getElem?_cons_succ]
  refine ⟨fun e => ?_, fun e => ?_⟩ <;> simp (disch := omega) only [↓stq, amv_at, vls, inf, frs, mark_eq, ↓reduceIte, Nat.reduceEqDiff, ite_tt, ite_ff, eq_self, and_true, true_and, and_self, implies_true, Bool.true_eq_false, Bool.false_eq_true, decide_true, decide_false, decide_eq_true_eq, decide_eq_false_iff_not, ne_eq, not_true_eq_false, not_false_eq_true, Bool.not_eq_true', Bool.not_eq_false', beq_self_eq_true, Bool.not_true, Bool.not_false, List.getElem?_toArray, List.getElem?_cons_zero, List.getElem?_cons_succ]
  refine (DrawLeastCauses_c A _ x0 h0).mono ?_
  rintro _ V ⟨vc, vi, cs, ids, rfl, hc1, hc2, hi, hC, hI, _⟩
  obtain ⟨ac, cc, rfl, _, _⟩ := hC.slice
  obtain ⟨ai, ci, rfl, _, _⟩ := hI.slice
  have hcs : ∀ c ∈ cs, c.length ≤ 16777215 := fun c hc => by have := hc2 c hc; omega
  simp (disch := omega) only [↓stq, amv_at, vls, inf, frs, mark_eq, ↓reduceIte, Nat.reduceEqDiff, ite_tt, ite_ff, eq_self, and_true, true_and, and_self, implies_true, Bool.true_eq_false, Bool.false_eq_true, decide_true, decide_false, decide_eq_true_eq, decide_eq_false_iff_not, ne_eq, not_true_eq_false, not_false_eq_true, Bool.not_eq_true', Bool.not_eq_false', beq_self_eq_true, Bool.not_true, Bool.not_false, List.getElem?_toArray, List.getElem?_cons_zero, List.getElem?_cons_succ]
  refine (impl_leastCauses_c V _ _ cs ids hC hI).mono ?_
  rintro u0 V1 ⟨f1, l1⟩
  have hO1 : Sl (slS strS) V1 u0 (leastR cs ids) := OSl.toS (l1.at (i := 0) rfl)
  obtain ⟨R, hR⟩ : ∃ R, leastR cs ids = R := ⟨_, rfl⟩
  rw [hR] at hO1
  obtain ⟨au, cu, rfl, _, hRl⟩ := hO1.slice
  simp (disch := omega) only [↓stq, amv_at, vls, inf, frs, mark_eq, ↓reduceIte, Nat.reduceEqDiff, ite_tt, ite_ff, eq_self, and_true, true_and, and_self, implies_true, Bool.true_eq_false, Bool.false_eq_true, decide_true, decide_false, decide_eq_true_eq, decide_eq_false_iff_not, ne_eq, not_true_eq_false, not_false_eq_true, Bool.not_eq_true', Bool.not_eq_false', beq_self_eq_true, Bool.not_true, Bool.not_false, List.getElem?_toArray, List.getElem?_cons_zero, List.getElem?_cons_succ]
  refine (spec_leastCauses_c V1 _ _ cs ids (hC.mono l1.ext) (hI.mono l1.ext)).mono ?_
  rintro w0 V2 ⟨f2, l2⟩
  have hW2 : Sl (slS strS) V2 w0 (leastR cs ids) := OSl.toS (l2.at (i := 0) rfl)
  rw [hR] at hW2
  obtain ⟨aw, cw, rfl, _, _⟩ := hW2.slice
  have hC2 := (hC.mono l1.ext).mono l2.ext
  have hI2 := (hI.mono l1.ext).mono l2.ext
  have hO2 := hO1.mono l2.ext
  clear l1 l2
  simp (disch := omega) only [↓stq, amv_at, vls, inf, frs, mark_eq, ↓reduceIte, Nat.reduceEqDiff, ite_tt, ite_ff, eq_self, and_true, true_and, and_self, implies_true, Bool.true_eq_false, Bool.false_eq_true, decide_true, decide_false, decide_eq_true_eq, decide_eq_false_iff_not, ne_eq, not_true_eq_false, not_false_eq_true, Bool.not_eq_true', Bool.not_eq_false', beq_self_eq_true, Bool.not_true, Bool.not_false, List.getElem?_toArray, List.getElem?_cons_zero, List.getElem?_cons_succ]
  refine (laws_equalLists_c V2 _ _ R R hO2 hW2).mono ?_
  rintro _ V2 ⟨rfl, rfl⟩
  simp (disch := omega) only [↓stq, amv_at, vls, inf, frs, mark_eq, ↓reduceIte, Nat.reduceEqDiff, ite_tt, ite_ff, eq_self, and_true, true_and, and_self, implies_true, Bool.true_eq_false, Bool.false_eq_true, decide_true, decide_false, decide_eq_true_eq, decide_eq_false_iff_not, ne_eq, not_true_eq_false, not_false_eq_true, Bool.not_eq_true', Bool.not_eq_false', beq_self_eq_true, Bool.not_true, Bool.not_false, List.getElem?_toArray, List.getElem?_cons_zero, List.getElem?_cons_succ]
  have fin : ∀ V, Ext V2 V → ACalls Try.prog 30 #[.slice ac cs.length cc, .slice ai ids.length ci] V fun r V' => ∃ a1 c1, r = .slice a1 R.length c1 ∧ Sl (slS strS) V' r R ∧ Ext V2 V' := fun V he => (spec_leastCauses_c V _ _ cs ids (hC2.mono he) (hI2.mono he)).mono fun r V' ⟨fp, l⟩ => by
    rw [hR] at l
    have hs : Sl (slS strS) V' r R := OSl.toS (l.at (i := 0) rfl)
    obtain ⟨a1, c1, h, _, _⟩ := hs.slice
    exact ⟨a1, c1, h, hs, he.trans l.ext⟩
  refine (impl_validCauses_c V2 _ cs hC2).mono ?_
  rintro _ V2 ⟨rfl, rfl⟩
  simp (disch := omega) only [↓stq, amv_at, vls, inf, frs, mark_eq, ↓reduceIte, Nat.reduceEqDiff, ite_tt, ite_ff, eq_self, and_true, true_and, and_self, implies_true, Bool.true_eq_false, Bool.false_eq_true, decide_true, decide_false, decide_eq_true_eq, decide_eq_false_iff_not, ne_eq, not_true_eq_false, not_false_eq_true, Bool.not_eq_true', Bool.not_eq_false', beq_self_eq_true, Bool.not_true, Bool.not_false, List.getElem?_toArray, List.getElem?_cons_zero, List.getElem?_cons_succ]
  refine ⟨fun e1 => ?_, fun e1 => ?_⟩ <;> simp (disch := omega) only [↓stq, amv_at, vls, inf, frs, mark_eq, ↓reduceIte, Nat.reduceEqDiff, ite_tt, ite_ff, eq_self, and_true, true_and, and_self, implies_true, Bool.true_eq_false, Bool.false_eq_true, decide_true, decide_false, decide_eq_true_eq, decide_eq_false_iff_not, ne_eq, not_true_eq_false, not_false_eq_true, Bool.not_eq_true', Bool.not_eq_false', beq_self_eq_true, Bool.not_true, Bool.not_false, List.getElem?_toArray, List.getElem?_cons_zero, List.getElem?_cons_succ, e1]
  · refine (impl_TotalCost_c V2 _ _ ids [] hI2 (Sl.nil pastS V2) (by simp)).mono ?_
    rintro _ V3 ⟨rfl, he3⟩
    simp (disch := omega) only [↓stq, amv_at, vls, inf, frs, mark_eq, ↓reduceIte, Nat.reduceEqDiff, ite_tt, ite_ff, eq_self, and_true, true_and, and_self, implies_true, Bool.true_eq_false, Bool.false_eq_true, decide_true, decide_false, decide_eq_true_eq, decide_eq_false_iff_not, ne_eq, not_true_eq_false, not_false_eq_true, Bool.not_eq_true', Bool.not_eq_false', beq_self_eq_true, Bool.not_true, Bool.not_false, List.getElem?_toArray, List.getElem?_cons_zero, List.getElem?_cons_succ, e1]
    refine ⟨fun e2 => ?_, fun e2 => ?_⟩ <;> simp (disch := omega) only [↓stq, amv_at, vls, inf, frs, mark_eq, ↓reduceIte, Nat.reduceEqDiff, ite_tt, ite_ff, eq_self, and_true, true_and, and_self, implies_true, Bool.true_eq_false, Bool.false_eq_true, decide_true, decide_false, decide_eq_true_eq, decide_eq_false_iff_not, ne_eq, not_true_eq_false, not_false_eq_true, Bool.not_eq_true', Bool.not_eq_false', beq_self_eq_true, Bool.not_true, Bool.not_false, List.getElem?_toArray, List.getElem?_cons_zero, List.getElem?_cons_succ]
    · refine (fin V3 he3).mono ?_
      rintro _ V4 ⟨a1, c1, rfl, hs, he4⟩
      simp (disch := omega) only [↓stq, amv_at, vls, inf, frs, mark_eq, ↓reduceIte, Nat.reduceEqDiff, ite_tt, ite_ff, eq_self, and_true, true_and, and_self, implies_true, Bool.true_eq_false, Bool.false_eq_true, decide_true, decide_false, decide_eq_true_eq, decide_eq_false_iff_not, ne_eq, not_true_eq_false, not_false_eq_true, Bool.not_eq_true', Bool.not_eq_false', beq_self_eq_true, Bool.not_true, Bool.not_false, List.getElem?_toArray, List.getElem?_cons_zero, List.getElem?_cons_succ]
      refine (laws_equalLists_c V4 _ _ R R (hO2.mono he4) hs).mono ?_
      rintro _ V4 ⟨rfl, rfl⟩
      simp (disch := omega) only [↓stq, amv_at, vls, inf, frs, mark_eq, ↓reduceIte, Nat.reduceEqDiff, ite_tt, ite_ff, eq_self, and_true, true_and, and_self, implies_true, Bool.true_eq_false, Bool.false_eq_true, decide_true, decide_false, decide_eq_true_eq, decide_eq_false_iff_not, ne_eq, not_true_eq_false, not_false_eq_true, Bool.not_eq_true', Bool.not_eq_false', beq_self_eq_true, Bool.not_true, Bool.not_false, List.getElem?_toArray, List.getElem?_cons_zero, List.getElem?_cons_succ]
    · refine aloop (fun d fr V => ∃ i : Nat, i ≤ R.length ∧ d = R.length - i ∧ Ext V2 V ∧ fr 3 = .slice ac cs.length cc ∧ fr 4 = .slice ai ids.length ci ∧ fr 5 = .slice au R.length cu ∧ fr 6 = .int .i64 i) R.length ⟨0, by omega, by omega, he3, by rfl, by rfl, by rfl, by rfl⟩ ?_
      clear he3
      rintro d fr V3 ⟨i, hi2, rfl, he3, q3, q4, q5, q6⟩
      simp (disch := omega) only [↓stq, amv_at, vls, inf, frs, mark_eq, ↓reduceIte, Nat.reduceEqDiff, ite_tt, ite_ff, eq_self, and_true, true_and, and_self, implies_true, Bool.true_eq_false, Bool.false_eq_true, decide_true, decide_false, decide_eq_true_eq, decide_eq_false_iff_not, ne_eq, not_true_eq_false, not_false_eq_true, Bool.not_eq_true', Bool.not_eq_false', beq_self_eq_true, Bool.not_true, Bool.not_false, List.getElem?_toArray, List.getElem?_cons_zero, List.getElem?_cons_succ, q3, q4, q5, q6]
      refine ⟨fun e3 => ?_, fun e3 => ?_⟩
      · have hlt : i < R.length := by omega
        obtain ⟨ad, b, m, rfl, kk, hs⟩ := (hO2.mono he3).strs hlt
        simp (disch := omega) only [↓stq, amv_at, vls, inf, frs, mark_eq, ↓reduceIte, Nat.reduceEqDiff, ite_tt, ite_ff, eq_self, and_true, true_and, and_self, implies_true, Bool.true_eq_false, Bool.false_eq_true, decide_true, decide_false, decide_eq_true_eq, decide_eq_false_iff_not, ne_eq, not_true_eq_false, not_false_eq_true, Bool.not_eq_true', Bool.not_eq_false', beq_self_eq_true, Bool.not_true, Bool.not_false, List.getElem?_toArray, List.getElem?_cons_zero, List.getElem?_cons_succ, q3, q4, q5, q6, kk]
        refine (impl_isLeast_c V3 _ _ cs R[i] (hC2.mono he3) hs).mono ?_
        rintro _ V4 ⟨rfl, he4⟩
        have hls : lstB cs R[i] = true := (leastR_lst (ids := ids) (by rw [hR]; exact List.getElem_mem hlt)).1
        rw [hls]
        simp (disch := omega) only [↓stq, amv_at, vls, inf, frs, mark_eq, ↓reduceIte, Nat.reduceEqDiff, ite_tt, ite_ff, eq_self, and_true, true_and, and_self, implies_true, Bool.true_eq_false, Bool.false_eq_true, decide_true, decide_false, decide_eq_true_eq, decide_eq_false_iff_not, ne_eq, not_true_eq_false, not_false_eq_true, Bool.not_eq_true', Bool.not_eq_false', beq_self_eq_true, Bool.not_true, Bool.not_false, List.getElem?_toArray, List.getElem?_cons_zero, List.getElem?_cons_succ, q3, q4, q5, q6]
        refine aloop (fun d fr V => ∃ j : Nat, j ≤ R.length ∧ d = R.length - j ∧ Ext V2 V ∧ fr 3 = .slice ac cs.length cc ∧ fr 4 = .slice ai ids.length ci ∧ fr 5 = .slice (some ad) R.length cu ∧ fr 6 = .int .i64 i ∧ fr 7 = .int .i64 j) R.length ⟨0, by omega, by omega, he3.trans he4, q3, q4, q5, q6, by rfl⟩ ?_
        clear he3 he4 q3 q4 q5 q6 kk hs
        rintro d fr V3 ⟨j, hj2, rfl, he3, q3, q4, q5, q6, q7⟩
        simp (disch := omega) only [↓stq, amv_at, vls, inf, frs, mark_eq, ↓reduceIte, Nat.reduceEqDiff, ite_tt, ite_ff, eq_self, and_true, true_and, and_self, implies_true, Bool.true_eq_false, Bool.false_eq_true, decide_true, decide_false, decide_eq_true_eq, decide_eq_false_iff_not, ne_eq, not_true_eq_false, not_false_eq_true, Bool.not_eq_true', Bool.not_eq_false', beq_self_eq_true, Bool.not_true, Bool.not_false, List.getElem?_toArray, List.getElem?_cons_zero, List.getElem?_cons_succ, q3, q4, q5, q6, q7]
        refine ⟨fun e4 => ?_, fun e4 => ?_⟩
        · have hlj : j < R.length := by omega
          obtain ⟨_, b, m, hq, kk, hs⟩ := (hO2.mono he3).strs hlt
          obtain rfl := Option.some.inj hq
          obtain ⟨_, b2, m2, hq, kk2, hs2⟩ := (hO2.mono he3).strs hlj
          obtain rfl := Option.some.inj hq
          simp (disch := omega) only [↓stq, amv_at, vls, inf, frs, mark_eq, ↓reduceIte, Nat.reduceEqDiff, ite_tt, ite_ff, eq_self, and_true, true_and, and_self, implies_true, Bool.true_eq_false, Bool.false_eq_true, decide_true, decide_false, decide_eq_true_eq, decide_eq_false_iff_not, ne_eq, not_true_eq_false, not_false_eq_true, Bool.not_eq_true', Bool.not_eq_false', beq_self_eq_true, Bool.not_true, Bool.not_false, List.getElem?_toArray, List.getElem?_cons_zero, List.getElem?_cons_succ, q3, q4, q5, q6, q7]
          refine adraw_items [.q 0, .q 1, .q 2, .q 3, .q 4, .q 5, .q 6, .l 7 false, .q 8, .q 9, .q 10, .l 11 false, .c 12 [], .q 13] (by kernel_rfl) (by kernel_rfl) ?_
          simp (disch := omega) only [↓stq, amv_at, ↓pln, plv, nilOk, Nat.reduceBEq, Bool.or_false, Bool.or_true, Bool.false_or, Bool.true_or, vls, inf, frs, mark_eq, ↓reduceIte, Nat.reduceEqDiff, ite_tt, ite_ff, eq_self, and_true, true_and, and_self, implies_true, Bool.true_eq_false, Bool.false_eq_true, decide_true, decide_false, decide_eq_true_eq, decide_eq_false_iff_not, ne_eq, not_true_eq_false, not_false_eq_true, Bool.not_eq_true', Bool.not_eq_false', beq_self_eq_true, Bool.not_true, Bool.not_false, List.getElem?_toArray, List.getElem?_cons_zero, List.getElem?_cons_succ, q3, q4, q5, q6, q7, kk, kk2]
          refine ⟨fun e5 => ?_, fun e5 => ?_⟩
          · simp (disch := omega) only [↓stq, amv_at, ↓pln, plv, nilOk, Nat.reduceBEq, Bool.or_false, Bool.or_true, Bool.false_or, Bool.true_or, vls, inf, frs, mark_eq, ↓reduceIte, Nat.reduceEqDiff, ite_tt, ite_ff, eq_self, and_true, true_and, and_self, implies_true, Bool.true_eq_false, Bool.false_eq_true, decide_true, decide_false, decide_eq_true_eq, decide_eq_false_iff_not, ne_eq, not_true_eq_false, not_false_eq_true, Bool.not_eq_true', Bool.not_eq_false', beq_self_eq_true, Bool.not_true, Bool.not_false, List.getElem?_toArray, List.getElem?_cons_zero, List.getElem?_cons_succ, q3, q4, q5, q6, q7, kk, kk2, e5]
            refine (laws_within2_c V3 _ _ R[j] R[i] hs2 hs).mono ?_
            rintro _ V3 ⟨rfl, rfl⟩
            have hap : sub2 R[j] R[i] = false := by
              have := leastR_apart (cs := cs) (ids := ids) (i := j) (k := i) (by rw [hR]; exact hlj) (by rw [hR]; exact hlt) (by omega)
              simp only [hR] at this
              unfold sub2
              rw [List.all_eq_false]
              refine Classical.byContradiction fun hc => this fun x hx => Classical.byContradiction fun hx2 => hc ⟨x, hx, by simpa using hx2⟩
            rw [hap]
            simp (disch := omega) only [↓stq, amv_at, ↓pln, plv, nilOk, Nat.reduceBEq, Bool.or_false, Bool.or_true, Bool.false_or, Bool.true_or, vls, inf, frs, mark_eq, ↓reduceIte, Nat.reduceEqDiff, ite_tt, ite_ff, eq_self, and_true, true_and, and_self, implies_true, Bool.true_eq_false, Bool.false_eq_true, decide_true, decide_false, decide_eq_true_eq, decide_eq_false_iff_not, ne_eq, not_true_eq_false, not_false_eq_true, Bool.not_eq_true', Bool.not_eq_false', beq_self_eq_true, Bool.not_true, Bool.not_false, List.getElem?_toArray, List.getElem?_cons_zero, List.getElem?_cons_succ, q3, q4, q5, q6, q7, kk, kk2, e5]
            exact ⟨_, by omega, j + 1, by omega, rfl, he3, rfl⟩
          · simp (disch := omega) only [↓stq, amv_at, ↓pln, plv, nilOk, Nat.reduceBEq, Bool.or_false, Bool.or_true, Bool.false_or, Bool.true_or, vls, inf, frs, mark_eq, ↓reduceIte, Nat.reduceEqDiff, ite_tt, ite_ff, eq_self, and_true, true_and, and_self, implies_true, Bool.true_eq_false, Bool.false_eq_true, decide_true, decide_false, decide_eq_true_eq, decide_eq_false_iff_not, ne_eq, not_true_eq_false, not_false_eq_true, Bool.not_eq_true', Bool.not_eq_false', beq_self_eq_true, Bool.not_true, Bool.not_false, List.getElem?_toArray, List.getElem?_cons_zero, List.getElem?_cons_succ, q3, q4, q5, q6, q7, kk, kk2, e5]
            exact ⟨_, by omega, j + 1, by omega, rfl, he3, rfl⟩
        · simp (disch := omega) only [↓stq, amv_at, vls, inf, frs, mark_eq, ↓reduceIte, Nat.reduceEqDiff, ite_tt, ite_ff, eq_self, and_true, true_and, and_self, implies_true, Bool.true_eq_false, Bool.false_eq_true, decide_true, decide_false, decide_eq_true_eq, decide_eq_false_iff_not, ne_eq, not_true_eq_false, not_false_eq_true, Bool.not_eq_true', Bool.not_eq_false', beq_self_eq_true, Bool.not_true, Bool.not_false, List.getElem?_toArray, List.getElem?_cons_zero, List.getElem?_cons_succ, q3, q4, q5, q6, q7]
          exact ⟨_, by omega, i + 1, by omega, rfl, he3, rfl⟩
      · skip
        simp (disch := omega) only [↓stq, amv_at, vls, inf, frs, mark_eq, ↓reduceIte, Nat.reduceEqDiff, ite_tt, ite_ff, eq_self, and_true, true_and, and_self, implies_true, Bool.true_eq_false, Bool.false_eq_true, decide_true, decide_false, decide_eq_true_eq, decide_eq_false_iff_not, ne_eq, not_true_eq_false, not_false_eq_true, Bool.not_eq_true', Bool.not_eq_false', beq_self_eq_true, Bool.not_true, Bool.not_false, List.getElem?_toArray, List.getElem?_cons_zero, List.getElem?_cons_succ, q3, q4, q5, q6]
        refine (impl_failB_c V3 _ _ cs ids (hC2.mono he3) (hI2.mono he3)).mono ?_
        rintro _ V4 ⟨rfl, he4⟩
        have hids : idsB ids = true := by
          cases hq : idsB ids with
          | true => rfl
          | false => exact absurd ((totI_none ids).2 hq) e2
        have hls : (decide (0 < (R.length : Int)) == failB cs ids) = true := by
          have := least_some e1 hids
          rw [hR] at this
          rw [← this]
          simp
        simp (disch := omega) only [↓stq, amv_at, vls, inf, frs, mark_eq, ↓reduceIte, Nat.reduceEqDiff, ite_tt, ite_ff, eq_self, and_true, true_and, and_self, implies_true, Bool.true_eq_false, Bool.false_eq_true, decide_true, decide_false, decide_eq_true_eq, decide_eq_false_iff_not, ne_eq, not_true_eq_false, not_false_eq_true, Bool.not_eq_true', Bool.not_eq_false', beq_self_eq_true, Bool.not_true, Bool.not_false, List.getElem?_toArray, List.getElem?_cons_zero, List.getElem?_cons_succ, q3, q4, q5, q6, hls]
  · skip
    refine (fin V2 (Ext.refl _)).mono ?_
    rintro _ V4 ⟨a1, c1, rfl, hs, he4⟩
    simp (disch := omega) only [↓stq, amv_at, vls, inf, frs, mark_eq, ↓reduceIte, Nat.reduceEqDiff, ite_tt, ite_ff, eq_self, and_true, true_and, and_self, implies_true, Bool.true_eq_false, Bool.false_eq_true, decide_true, decide_false, decide_eq_true_eq, decide_eq_false_iff_not, ne_eq, not_true_eq_false, not_false_eq_true, Bool.not_eq_true', Bool.not_eq_false', beq_self_eq_true, Bool.not_true, Bool.not_false, List.getElem?_toArray, List.getElem?_cons_zero, List.getElem?_cons_succ]
    refine (laws_equalLists_c V4 _ _ R R (hO2.mono he4) hs).mono ?_
    rintro _ V4 ⟨rfl, rfl⟩
    simp (disch := omega) only [↓stq, amv_at, vls, inf, frs, mark_eq, ↓reduceIte, Nat.reduceEqDiff, ite_tt, ite_ff, eq_self, and_true, true_and, and_self, implies_true, Bool.true_eq_false, Bool.false_eq_true, decide_true, decide_false, decide_eq_true_eq, decide_eq_false_iff_not, ne_eq, not_true_eq_false, not_false_eq_true, Bool.not_eq_true', Bool.not_eq_false', beq_self_eq_true, Bool.not_true, Bool.not_false, List.getElem?_toArray, List.getElem?_cons_zero, List.getElem?_cons_succ]

end Go.Proofs.Ytbbhhdcimmofoaa

