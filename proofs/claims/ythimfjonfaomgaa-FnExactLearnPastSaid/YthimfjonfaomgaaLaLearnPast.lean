/- The walk through the law FnExactLearnPast. -/
import Derived.Test.YthimfjonfaomgaaGPast
import Derived.Test.YthimfjonfaomgaaGReport
set_option maxHeartbeats 4000000
set_option synthInstance.maxHeartbeats 400000
set_option synthInstance.maxSize 4096
set_option linter.unusedSimpArgs false
set_option linter.unusedVariables false
namespace Go.Proofs.Ythimfjonfaomgaa

set_option maxRecDepth 100000

/-- The walk through the law, over what the two functions give back. -/
theorem walkFnExactLearnPast (A : View) (v0 : Value) (x0 : List PastD) (d1 : List Value) (x1 : ReportD) (h0 : Sl pastS A v0 x0) (h1 : reportS.rel A x1 d1) (R0 : List PastD) (hR0 : cntL pastT R0 ≤ 1073741824) (R1 : Bool)
    (hspec : ∀ (B : View) (v0 : Value) (d1 : List Value) (h0 : Sl pastS B v0 x0) (h1 : reportS.rel B x1 d1), x0.length + wL pastT x0 ≤ 1048576 → reportT.w x1 ≤ 1048576 → ACalls Try.prog 10 #[v0, .agg d1.toArray] B fun r B' => ∃ (f0 : List Nat) (u0 : Value), r = .tuple #[u0, .bool R1] ∧ Led B [osl 69 pastO f0 u0 R0] B')
    (himpl : ∀ (B : View) (v0 : Value) (d1 : List Value) (h0 : Sl pastS B v0 x0) (h1 : reportS.rel B x1 d1), x0.length + wL pastT x0 ≤ 1048576 → reportT.w x1 ≤ 1048576 → ACalls Try.prog 13 #[v0, .agg d1.toArray] B fun r B' => ∃ (f0 : List Nat) (u0 : Value), r = .tuple #[u0, .bool R1] ∧ Led B [osl 69 pastO f0 u0 R0] B') :
    ACalls Try.prog 3 #[v0, .agg d1.toArray] A fun r _ => r = .bool true := by
  obtain ⟨a0, c0, rfl, _, _⟩ := h0.slice
  have l := Led.nil A
  refine acalls Try.func3 rfl (by kernel_rfl) ?_
  simp (disch := omega) only [↓stp, vls, inf, frs, mark_eq, ↓reduceIte, Nat.reduceEqDiff, ite_tt, ite_ff, eq_self, and_true, true_and, and_self, implies_true, Bool.true_eq_false, Bool.false_eq_true, decide_true, decide_false, decide_eq_true_eq, decide_eq_false_iff_not, ne_eq, not_true_eq_false, not_false_eq_true, Bool.not_eq_true', Bool.not_eq_false', beq_self_eq_true, Bool.not_true, Bool.not_false, List.getElem?_toArray, List.getElem?_cons_zero, List.getElem?_cons_succ]
  have hnd1 : d1.length = 2 := reportS.len h1
  have hod1 : ∀ v ∈ d1, v.oneCell' = true := reportS.one h1
  refine led_box l (List.all_eq_true.2 hod1) fun q2 V1 _ l => ?_
  have pq2 : V1.part ⟨q2, 0, none⟩ 2 = some d1 := l.partn (i := 0) rfl hnd1 hod1
  simp (disch := omega) only [↓stp, vls, inf, frs, mark_eq, ↓reduceIte, Nat.reduceEqDiff, ite_tt, ite_ff, eq_self, and_true, true_and, and_self, implies_true, Bool.true_eq_false, Bool.false_eq_true, decide_true, decide_false, decide_eq_true_eq, decide_eq_false_iff_not, ne_eq, not_true_eq_false, not_false_eq_true, Bool.not_eq_true', Bool.not_eq_false', beq_self_eq_true, Bool.not_true, Bool.not_false, List.getElem?_toArray, List.getElem?_cons_zero, List.getElem?_cons_succ, pq2]
  refine (szPastS_c V1 _ x0 1048576 (h0.mono l.ext) (by omega)).mono ?_
  rintro _ V3 ⟨⟨j0, rfl, hj0⟩, he⟩
  replace l := l.step he
  have pq2 : V3.part ⟨q2, 0, none⟩ 2 = some d1 := l.partn (i := 0) rfl hnd1 hod1
  simp (disch := omega) only [↓stp, vls, inf, frs, mark_eq, ↓reduceIte, Nat.reduceEqDiff, ite_tt, ite_ff, eq_self, and_true, true_and, and_self, implies_true, Bool.true_eq_false, Bool.false_eq_true, decide_true, decide_false, decide_eq_true_eq, decide_eq_false_iff_not, ne_eq, not_true_eq_false, not_false_eq_true, Bool.not_eq_true', Bool.not_eq_false', beq_self_eq_true, Bool.not_true, Bool.not_false, List.getElem?_toArray, List.getElem?_cons_zero, List.getElem?_cons_succ, pq2]
  refine ⟨fun e => ?_, fun e => ?_⟩
  · simp (disch := omega) only [↓stp, vls, inf, frs, mark_eq, ↓reduceIte, Nat.reduceEqDiff, ite_tt, ite_ff, eq_self, and_true, true_and, and_self, implies_true, Bool.true_eq_false, Bool.false_eq_true, decide_true, decide_false, decide_eq_true_eq, decide_eq_false_iff_not, ne_eq, not_true_eq_false, not_false_eq_true, Bool.not_eq_true', Bool.not_eq_false', beq_self_eq_true, Bool.not_true, Bool.not_false, List.getElem?_toArray, List.getElem?_cons_zero, List.getElem?_cons_succ]
  replace hj0 := hj0.resolve_left (by omega)
  have pq2 : V3.part ⟨q2, 0, none⟩ 2 = some d1 := l.partn (i := 0) rfl hnd1 hod1
  simp (disch := omega) only [↓stp, vls, inf, frs, mark_eq, ↓reduceIte, Nat.reduceEqDiff, ite_tt, ite_ff, eq_self, and_true, true_and, and_self, implies_true, Bool.true_eq_false, Bool.false_eq_true, decide_true, decide_false, decide_eq_true_eq, decide_eq_false_iff_not, ne_eq, not_true_eq_false, not_false_eq_true, Bool.not_eq_true', Bool.not_eq_false', beq_self_eq_true, Bool.not_true, Bool.not_false, List.getElem?_toArray, List.getElem?_cons_zero, List.getElem?_cons_succ, pq2]
  refine (szReport_c V3 _ x1 j0 (reportS.mono l.ext h1) (by omega)).mono ?_
  rintro _ V4 ⟨⟨j1, rfl, hj1⟩, he⟩
  replace l := l.step he
  have pq2 : V4.part ⟨q2, 0, none⟩ 2 = some d1 := l.partn (i := 0) rfl hnd1 hod1
  simp (disch := omega) only [↓stp, vls, inf, frs, mark_eq, ↓reduceIte, Nat.reduceEqDiff, ite_tt, ite_ff, eq_self, and_true, true_and, and_self, implies_true, Bool.true_eq_false, Bool.false_eq_true, decide_true, decide_false, decide_eq_true_eq, decide_eq_false_iff_not, ne_eq, not_true_eq_false, not_false_eq_true, Bool.not_eq_true', Bool.not_eq_false', beq_self_eq_true, Bool.not_true, Bool.not_false, List.getElem?_toArray, List.getElem?_cons_zero, List.getElem?_cons_succ, pq2]
  refine ⟨fun e => ?_, fun e => ?_⟩
  · simp (disch := omega) only [↓stp, vls, inf, frs, mark_eq, ↓reduceIte, Nat.reduceEqDiff, ite_tt, ite_ff, eq_self, and_true, true_and, and_self, implies_true, Bool.true_eq_false, Bool.false_eq_true, decide_true, decide_false, decide_eq_true_eq, decide_eq_false_iff_not, ne_eq, not_true_eq_false, not_false_eq_true, Bool.not_eq_true', Bool.not_eq_false', beq_self_eq_true, Bool.not_true, Bool.not_false, List.getElem?_toArray, List.getElem?_cons_zero, List.getElem?_cons_succ]
  replace hj1 := hj1.resolve_left (by omega)
  have pq2 : V4.part ⟨q2, 0, none⟩ 2 = some d1 := l.partn (i := 0) rfl hnd1 hod1
  simp (disch := omega) only [↓stp, vls, inf, frs, mark_eq, ↓reduceIte, Nat.reduceEqDiff, ite_tt, ite_ff, eq_self, and_true, true_and, and_self, implies_true, Bool.true_eq_false, Bool.false_eq_true, decide_true, decide_false, decide_eq_true_eq, decide_eq_false_iff_not, ne_eq, not_true_eq_false, not_false_eq_true, Bool.not_eq_true', Bool.not_eq_false', beq_self_eq_true, Bool.not_true, Bool.not_false, List.getElem?_toArray, List.getElem?_cons_zero, List.getElem?_cons_succ, pq2]
  have hc0 := pastL_le x0
  have hc1 := reportT_le x1
  refine adraw_items [.q 0, .l 2 true, .c 1 [2], .c 3 [], .c 4 [], .q 5, .q 6, .q 7, .q 8, .q 9] (by kernel_rfl) (by kernel_rfl) ?_
  have pq2 : V4.part ⟨q2, 0, none⟩ 2 = some d1 := l.partn (i := 0) rfl hnd1 hod1
  simp (disch := omega) only [↓stp, ↓pln, plv, nilOk, Nat.reduceBEq, Bool.or_false, Bool.or_true, Bool.false_or, Bool.true_or, vls, inf, frs, mark_eq, ↓reduceIte, Nat.reduceEqDiff, ite_tt, ite_ff, eq_self, and_true, true_and, and_self, implies_true, Bool.true_eq_false, Bool.false_eq_true, decide_true, decide_false, decide_eq_true_eq, decide_eq_false_iff_not, ne_eq, not_true_eq_false, not_false_eq_true, Bool.not_eq_true', Bool.not_eq_false', beq_self_eq_true, Bool.not_true, Bool.not_false, List.getElem?_toArray, List.getElem?_cons_zero, List.getElem?_cons_succ, pq2]
  refine (toPastS_c V4 _ _ (h0.mono l.ext) (by omega)).mono ?_
  rintro r6 V8 ⟨f5, o7, he, hfr, hnd⟩
  replace l := l.cons he (osl 69 pastO f5 _ _) o7 hfr hnd
  have pq2 : V8.part ⟨q2, 0, none⟩ 2 = some d1 := l.partn (i := 1) rfl hnd1 hod1
  simp (disch := omega) only [↓stp, ↓pln, plv, nilOk, Nat.reduceBEq, Bool.or_false, Bool.or_true, Bool.false_or, Bool.true_or, vls, inf, frs, mark_eq, ↓reduceIte, Nat.reduceEqDiff, ite_tt, ite_ff, eq_self, and_true, true_and, and_self, implies_true, Bool.true_eq_false, Bool.false_eq_true, decide_true, decide_false, decide_eq_true_eq, decide_eq_false_iff_not, ne_eq, not_true_eq_false, not_false_eq_true, Bool.not_eq_true', Bool.not_eq_false', beq_self_eq_true, Bool.not_true, Bool.not_false, List.getElem?_toArray, List.getElem?_cons_zero, List.getElem?_cons_succ, pq2]
  refine (toReport_c V8 _ _ (reportS.mono l.ext h1) (by omega)).mono ?_
  rintro _ V13 ⟨f10, r11, rfl, o12, he, hfr, hnd⟩
  replace l := l.cons he (oc reportO f10 _ _) o12 hfr hnd
  have hnr11 : r11.length = 2 := reportS.len (reportO_S o12)
  have hor11 : ∀ v ∈ r11, v.oneCell' = true := reportS.one (reportO_S o12)
  have pq2 : V13.part ⟨q2, 0, none⟩ 2 = some d1 := l.partn (i := 2) rfl hnd1 hod1
  simp (disch := omega) only [↓stp, ↓pln, plv, nilOk, Nat.reduceBEq, Bool.or_false, Bool.or_true, Bool.false_or, Bool.true_or, vls, inf, frs, mark_eq, ↓reduceIte, Nat.reduceEqDiff, ite_tt, ite_ff, eq_self, and_true, true_and, and_self, implies_true, Bool.true_eq_false, Bool.false_eq_true, decide_true, decide_false, decide_eq_true_eq, decide_eq_false_iff_not, ne_eq, not_true_eq_false, not_false_eq_true, Bool.not_eq_true', Bool.not_eq_false', beq_self_eq_true, Bool.not_true, Bool.not_false, List.getElem?_toArray, List.getElem?_cons_zero, List.getElem?_cons_succ, pq2]
  refine (hspec V13 r6 r11 (OSl.toS (l.at (i := 1) rfl)) (reportO_S (l.at (i := 0) rfl)) (by omega) (by omega)).mono ?_
  rintro _ V15 ⟨f16, u17, rfl, l2⟩
  replace l := l.append l2
  have pq2 : V15.part ⟨q2, 0, none⟩ 2 = some d1 := l.partn (i := 3) rfl hnd1 hod1
  simp (disch := omega) only [↓stp, ↓pln, plv, nilOk, Nat.reduceBEq, Bool.or_false, Bool.or_true, Bool.false_or, Bool.true_or, vls, inf, frs, mark_eq, ↓reduceIte, Nat.reduceEqDiff, ite_tt, ite_ff, eq_self, and_true, true_and, and_self, implies_true, Bool.true_eq_false, Bool.false_eq_true, decide_true, decide_false, decide_eq_true_eq, decide_eq_false_iff_not, ne_eq, not_true_eq_false, not_false_eq_true, Bool.not_eq_true', Bool.not_eq_false', beq_self_eq_true, Bool.not_true, Bool.not_false, List.getElem?_toArray, List.getElem?_cons_zero, List.getElem?_cons_succ, pq2]
  refine (toPastS_c V15 _ _ (h0.mono l.ext) (by omega)).mono ?_
  rintro r20 V22 ⟨f19, o21, he, hfr, hnd⟩
  replace l := l.cons he (osl 69 pastO f19 _ _) o21 hfr hnd
  have pq2 : V22.part ⟨q2, 0, none⟩ 2 = some d1 := l.partn (i := 4) rfl hnd1 hod1
  simp (disch := omega) only [↓stp, vls, inf, frs, mark_eq, ↓reduceIte, Nat.reduceEqDiff, ite_tt, ite_ff, eq_self, and_true, true_and, and_self, implies_true, Bool.true_eq_false, Bool.false_eq_true, decide_true, decide_false, decide_eq_true_eq, decide_eq_false_iff_not, ne_eq, not_true_eq_false, not_false_eq_true, Bool.not_eq_true', Bool.not_eq_false', beq_self_eq_true, Bool.not_true, Bool.not_false, List.getElem?_toArray, List.getElem?_cons_zero, List.getElem?_cons_succ, pq2]
  refine (toReport_c V22 _ _ (reportS.mono l.ext h1) (by omega)).mono ?_
  rintro _ V27 ⟨f24, r25, rfl, o26, he, hfr, hnd⟩
  replace l := l.cons he (oc reportO f24 _ _) o26 hfr hnd
  have hnr25 : r25.length = 2 := reportS.len (reportO_S o26)
  have hor25 : ∀ v ∈ r25, v.oneCell' = true := reportS.one (reportO_S o26)
  have pq2 : V27.part ⟨q2, 0, none⟩ 2 = some d1 := l.partn (i := 5) rfl hnd1 hod1
  simp (disch := omega) only [↓stp, vls, inf, frs, mark_eq, ↓reduceIte, Nat.reduceEqDiff, ite_tt, ite_ff, eq_self, and_true, true_and, and_self, implies_true, Bool.true_eq_false, Bool.false_eq_true, decide_true, decide_false, decide_eq_true_eq, decide_eq_false_iff_not, ne_eq, not_true_eq_false, not_false_eq_true, Bool.not_eq_true', Bool.not_eq_false', beq_self_eq_true, Bool.not_true, Bool.not_false, List.getElem?_toArray, List.getElem?_cons_zero, List.getElem?_cons_succ, pq2]
  refine led_alloc zc35 l fun q30 V29 _ l => ?_
  have pq2 : V29.part ⟨q2, 0, none⟩ 2 = some d1 := l.partn (i := 6) rfl hnd1 hod1
  simp (disch := omega) only [↓stp, vls, inf, frs, mark_eq, ↓reduceIte, Nat.reduceEqDiff, ite_tt, ite_ff, eq_self, and_true, true_and, and_self, implies_true, Bool.true_eq_false, Bool.false_eq_true, decide_true, decide_false, decide_eq_true_eq, decide_eq_false_iff_not, ne_eq, not_true_eq_false, not_false_eq_true, Bool.not_eq_true', Bool.not_eq_false', beq_self_eq_true, Bool.not_true, Bool.not_false, List.getElem?_toArray, List.getElem?_cons_zero, List.getElem?_cons_succ, pq2]
  refine led_storeAll l 0 rfl sz35 hnr25 rfl hor25 fun V31 l => ?_
  have pq30 : V31.part ⟨q30, 0, none⟩ 2 = some r25 := l.partn (i := 0) rfl hnr25 hor25
  have pq2 : V31.part ⟨q2, 0, none⟩ 2 = some d1 := l.partn (i := 6) rfl hnd1 hod1
  simp (disch := omega) only [↓stp, vls, inf, frs, mark_eq, ↓reduceIte, Nat.reduceEqDiff, ite_tt, ite_ff, eq_self, and_true, true_and, and_self, implies_true, Bool.true_eq_false, Bool.false_eq_true, decide_true, decide_false, decide_eq_true_eq, decide_eq_false_iff_not, ne_eq, not_true_eq_false, not_false_eq_true, Bool.not_eq_true', Bool.not_eq_false', beq_self_eq_true, Bool.not_true, Bool.not_false, List.getElem?_toArray, List.getElem?_cons_zero, List.getElem?_cons_succ, pq30, pq2]
  refine (himpl V31 r20 r25 (OSl.toS (l.at (i := 2) rfl)) (reportO_S (l.at (i := 1) rfl)) (by omega) (by omega)).mono ?_
  rintro _ V32 ⟨f33, u34, rfl, l2⟩
  replace l := l.append l2
  have pq30 : V32.part ⟨q30, 0, none⟩ 2 = some r25 := l.partn (i := 1) rfl hnr25 hor25
  have pq2 : V32.part ⟨q2, 0, none⟩ 2 = some d1 := l.partn (i := 7) rfl hnd1 hod1
  simp (disch := omega) only [↓stp, vls, inf, frs, mark_eq, ↓reduceIte, Nat.reduceEqDiff, ite_tt, ite_ff, eq_self, and_true, true_and, and_self, implies_true, Bool.true_eq_false, Bool.false_eq_true, decide_true, decide_false, decide_eq_true_eq, decide_eq_false_iff_not, ne_eq, not_true_eq_false, not_false_eq_true, Bool.not_eq_true', Bool.not_eq_false', beq_self_eq_true, Bool.not_true, Bool.not_false, List.getElem?_toArray, List.getElem?_cons_zero, List.getElem?_cons_succ, pq30, pq2]
  refine (eqPastS_c V32 _ _ _ _ (OSl.toS (l.at (i := 0) rfl)) (OSl.toS (l.at (i := 4) rfl))).mono ?_
  rintro _ V36 ⟨rfl, he⟩
  replace l := l.step he
  have pq30 : V36.part ⟨q30, 0, none⟩ 2 = some r25 := l.partn (i := 1) rfl hnr25 hor25
  have pq2 : V36.part ⟨q2, 0, none⟩ 2 = some d1 := l.partn (i := 7) rfl hnd1 hod1
  simp (disch := omega) only [↓stp, vls, inf, frs, mark_eq, ↓reduceIte, Nat.reduceEqDiff, ite_tt, ite_ff, eq_self, and_true, true_and, and_self, implies_true, Bool.true_eq_false, Bool.false_eq_true, decide_true, decide_false, decide_eq_true_eq, decide_eq_false_iff_not, ne_eq, not_true_eq_false, not_false_eq_true, Bool.not_eq_true', Bool.not_eq_false', beq_self_eq_true, Bool.not_true, Bool.not_false, List.getElem?_toArray, List.getElem?_cons_zero, List.getElem?_cons_succ, pq30, pq2]
  refine (toPastS_c V36 _ _ (h0.mono l.ext) (by omega)).mono ?_
  rintro r38 V40 ⟨f37, o39, he, hfr, hnd⟩
  replace l := l.cons he (osl 69 pastO f37 _ _) o39 hfr hnd
  have pq30 : V40.part ⟨q30, 0, none⟩ 2 = some r25 := l.partn (i := 2) rfl hnr25 hor25
  have pq2 : V40.part ⟨q2, 0, none⟩ 2 = some d1 := l.partn (i := 8) rfl hnd1 hod1
  simp (disch := omega) only [↓stp, vls, inf, frs, mark_eq, ↓reduceIte, Nat.reduceEqDiff, ite_tt, ite_ff, eq_self, and_true, true_and, and_self, implies_true, Bool.true_eq_false, Bool.false_eq_true, decide_true, decide_false, decide_eq_true_eq, decide_eq_false_iff_not, ne_eq, not_true_eq_false, not_false_eq_true, Bool.not_eq_true', Bool.not_eq_false', beq_self_eq_true, Bool.not_true, Bool.not_false, List.getElem?_toArray, List.getElem?_cons_zero, List.getElem?_cons_succ, pq30, pq2]
  refine (eqPastS_c V40 _ _ _ _ (OSl.toS (l.at (i := 4) rfl)) (OSl.toS (l.at (i := 0) rfl))).mono ?_
  rintro _ V42 ⟨rfl, he⟩
  replace l := l.step he
  have pq30 : V42.part ⟨q30, 0, none⟩ 2 = some r25 := l.partn (i := 2) rfl hnr25 hor25
  have pq2 : V42.part ⟨q2, 0, none⟩ 2 = some d1 := l.partn (i := 8) rfl hnd1 hod1
  simp (disch := omega) only [↓stp, vls, inf, frs, mark_eq, ↓reduceIte, Nat.reduceEqDiff, ite_tt, ite_ff, eq_self, and_true, true_and, and_self, implies_true, Bool.true_eq_false, Bool.false_eq_true, decide_true, decide_false, decide_eq_true_eq, decide_eq_false_iff_not, ne_eq, not_true_eq_false, not_false_eq_true, Bool.not_eq_true', Bool.not_eq_false', beq_self_eq_true, Bool.not_true, Bool.not_false, List.getElem?_toArray, List.getElem?_cons_zero, List.getElem?_cons_succ, pq30, pq2]
  refine adraw_items [.l 0 true, .l 1 false, .c 2 [0], .c 3 [], .q 4] (by kernel_rfl) (by kernel_rfl) ?_
  have pq30 : V42.part ⟨q30, 0, none⟩ 2 = some r25 := l.partn (i := 2) rfl hnr25 hor25
  have pq2 : V42.part ⟨q2, 0, none⟩ 2 = some d1 := l.partn (i := 8) rfl hnd1 hod1
  simp (disch := omega) only [↓stp, ↓pln, plv, nilOk, Nat.reduceBEq, Bool.or_false, Bool.or_true, Bool.false_or, Bool.true_or, vls, inf, frs, mark_eq, ↓reduceIte, Nat.reduceEqDiff, ite_tt, ite_ff, eq_self, and_true, true_and, and_self, implies_true, Bool.true_eq_false, Bool.false_eq_true, decide_true, decide_false, decide_eq_true_eq, decide_eq_false_iff_not, ne_eq, not_true_eq_false, not_false_eq_true, Bool.not_eq_true', Bool.not_eq_false', beq_self_eq_true, Bool.not_true, Bool.not_false, List.getElem?_toArray, List.getElem?_cons_zero, List.getElem?_cons_succ, pq30, pq2]
  refine (toReport_c V42 _ _ (reportS.mono l.ext h1) (by omega)).mono ?_
  rintro _ V46 ⟨f43, r44, rfl, o45, he, hfr, hnd⟩
  replace l := l.cons he (oc reportO f43 _ _) o45 hfr hnd
  have hnr44 : r44.length = 2 := reportS.len (reportO_S o45)
  have hor44 : ∀ v ∈ r44, v.oneCell' = true := reportS.one (reportO_S o45)
  have pq30 : V46.part ⟨q30, 0, none⟩ 2 = some r25 := l.partn (i := 3) rfl hnr25 hor25
  have pq2 : V46.part ⟨q2, 0, none⟩ 2 = some d1 := l.partn (i := 9) rfl hnd1 hod1
  simp (disch := omega) only [↓stp, ↓pln, plv, nilOk, Nat.reduceBEq, Bool.or_false, Bool.or_true, Bool.false_or, Bool.true_or, vls, inf, frs, mark_eq, ↓reduceIte, Nat.reduceEqDiff, ite_tt, ite_ff, eq_self, and_true, true_and, and_self, implies_true, Bool.true_eq_false, Bool.false_eq_true, decide_true, decide_false, decide_eq_true_eq, decide_eq_false_iff_not, ne_eq, not_true_eq_false, not_false_eq_true, Bool.not_eq_true', Bool.not_eq_false', beq_self_eq_true, Bool.not_true, Bool.not_false, List.getElem?_toArray, List.getElem?_cons_zero, List.getElem?_cons_succ, pq30, pq2]
  refine (eqReport_c V46 _ _ _ _ (reportO_S (l.at (i := 4) rfl)) (reportO_S (l.at (i := 0) rfl))).mono ?_
  rintro _ V48 ⟨rfl, he⟩
  replace l := l.step he
  have pq30 : V48.part ⟨q30, 0, none⟩ 2 = some r25 := l.partn (i := 3) rfl hnr25 hor25
  have pq2 : V48.part ⟨q2, 0, none⟩ 2 = some d1 := l.partn (i := 9) rfl hnd1 hod1
  simp (disch := omega) only [↓stp, ↓pln, plv, nilOk, Nat.reduceBEq, Bool.or_false, Bool.or_true, Bool.false_or, Bool.true_or, vls, inf, frs, mark_eq, ↓reduceIte, Nat.reduceEqDiff, ite_tt, ite_ff, eq_self, and_true, true_and, and_self, implies_true, Bool.true_eq_false, Bool.false_eq_true, decide_true, decide_false, decide_eq_true_eq, decide_eq_false_iff_not, ne_eq, not_true_eq_false, not_false_eq_true, Bool.not_eq_true', Bool.not_eq_false', beq_self_eq_true, Bool.not_true, Bool.not_false, List.getElem?_toArray, List.getElem?_cons_zero, List.getElem?_cons_succ, pq30, pq2]
  refine (markPastS_c V48 f19 _ x0 (1) (l.at (i := 5) rfl) (l.nodup1 (i := 5) rfl) (by omega) (by omega)).mono ?_
  rintro _ V49 ⟨rfl, o50, on⟩
  replace l := l.upd (i := 5) (it := osl 69 pastO f19 r20 x0) (jt := osl 69 pastO f19 r20 (mkL pastT (1) x0)) rfl rfl on o50
  have pq30 : V49.part ⟨q30, 0, none⟩ 2 = some r25 := l.partn (i := 3) rfl hnr25 hor25
  have pq2 : V49.part ⟨q2, 0, none⟩ 2 = some d1 := l.partn (i := 9) rfl hnd1 hod1
  simp (disch := omega) only [↓stp, vls, inf, frs, mark_eq, ↓reduceIte, Nat.reduceEqDiff, ite_tt, ite_ff, eq_self, and_true, true_and, and_self, implies_true, Bool.true_eq_false, Bool.false_eq_true, decide_true, decide_false, decide_eq_true_eq, decide_eq_false_iff_not, ne_eq, not_true_eq_false, not_false_eq_true, Bool.not_eq_true', Bool.not_eq_false', beq_self_eq_true, Bool.not_true, Bool.not_false, List.getElem?_toArray, List.getElem?_cons_zero, List.getElem?_cons_succ, pq30, pq2]
  refine (markReport_c V49 f24 _ x1 (1 + cntL pastT x0) (l.at (i := 4) rfl) (l.nodup1 (i := 4) rfl) (by omega) (by omega)).mono ?_
  rintro _ V51 ⟨rfl, o52, on⟩
  replace l := l.upd (i := 4) (it := oc reportO f24 x1 r25) (jt := oc reportO f24 (reportT.mk (1 + cntL pastT x0) x1) r25) rfl rfl on o52
  have pq30 : V51.part ⟨q30, 0, none⟩ 2 = some r25 := l.partn (i := 3) rfl hnr25 hor25
  have pq2 : V51.part ⟨q2, 0, none⟩ 2 = some d1 := l.partn (i := 9) rfl hnd1 hod1
  simp (disch := omega) only [↓stp, vls, inf, frs, mark_eq, ↓reduceIte, Nat.reduceEqDiff, ite_tt, ite_ff, eq_self, and_true, true_and, and_self, implies_true, Bool.true_eq_false, Bool.false_eq_true, decide_true, decide_false, decide_eq_true_eq, decide_eq_false_iff_not, ne_eq, not_true_eq_false, not_false_eq_true, Bool.not_eq_true', Bool.not_eq_false', beq_self_eq_true, Bool.not_true, Bool.not_false, List.getElem?_toArray, List.getElem?_cons_zero, List.getElem?_cons_succ, pq30, pq2]
  refine ⟨fun e3 => ?_, fun e3 => by omega⟩
  have pq30 : V51.part ⟨q30, 0, none⟩ 2 = some r25 := l.partn (i := 3) rfl hnr25 hor25
  have pq2 : V51.part ⟨q2, 0, none⟩ 2 = some d1 := l.partn (i := 9) rfl hnd1 hod1
  simp (disch := omega) only [↓stp, vls, inf, frs, mark_eq, ↓reduceIte, Nat.reduceEqDiff, ite_tt, ite_ff, eq_self, and_true, true_and, and_self, implies_true, Bool.true_eq_false, Bool.false_eq_true, decide_true, decide_false, decide_eq_true_eq, decide_eq_false_iff_not, ne_eq, not_true_eq_false, not_false_eq_true, Bool.not_eq_true', Bool.not_eq_false', beq_self_eq_true, Bool.not_true, Bool.not_false, List.getElem?_toArray, List.getElem?_cons_zero, List.getElem?_cons_succ, pq30, pq2, e3]
  refine (eqPastS_c V51 _ _ _ _ (OSl.toS (l.at (i := 2) rfl)) (OSl.toS (l.at (i := 6) rfl))).mono ?_
  rintro _ V53 ⟨rfl, he⟩
  replace l := l.step he
  have pq30 : V53.part ⟨q30, 0, none⟩ 2 = some r25 := l.partn (i := 3) rfl hnr25 hor25
  have pq2 : V53.part ⟨q2, 0, none⟩ 2 = some d1 := l.partn (i := 9) rfl hnd1 hod1
  simp (disch := omega) only [↓stp, vls, inf, frs, mark_eq, ↓reduceIte, Nat.reduceEqDiff, ite_tt, ite_ff, eq_self, and_true, true_and, and_self, implies_true, Bool.true_eq_false, Bool.false_eq_true, decide_true, decide_false, decide_eq_true_eq, decide_eq_false_iff_not, ne_eq, not_true_eq_false, not_false_eq_true, Bool.not_eq_true', Bool.not_eq_false', beq_self_eq_true, Bool.not_true, Bool.not_false, List.getElem?_toArray, List.getElem?_cons_zero, List.getElem?_cons_succ, pq30, pq2, e3]
  refine (markPastS_c V53 f33 _ R0 (1) (l.at (i := 2) rfl) (l.nodup1 (i := 2) rfl) (by omega) (by omega)).mono ?_
  rintro _ V54 ⟨rfl, o55, on⟩
  replace l := l.upd (i := 2) (it := osl 69 pastO f33 u34 R0) (jt := osl 69 pastO f33 u34 (mkL pastT (1) R0)) rfl rfl on o55
  have pq30 : V54.part ⟨q30, 0, none⟩ 2 = some r25 := l.partn (i := 3) rfl hnr25 hor25
  have pq2 : V54.part ⟨q2, 0, none⟩ 2 = some d1 := l.partn (i := 9) rfl hnd1 hod1
  simp (disch := omega) only [↓stp, vls, inf, frs, mark_eq, ↓reduceIte, Nat.reduceEqDiff, ite_tt, ite_ff, eq_self, and_true, true_and, and_self, implies_true, Bool.true_eq_false, Bool.false_eq_true, decide_true, decide_false, decide_eq_true_eq, decide_eq_false_iff_not, ne_eq, not_true_eq_false, not_false_eq_true, Bool.not_eq_true', Bool.not_eq_false', beq_self_eq_true, Bool.not_true, Bool.not_false, List.getElem?_toArray, List.getElem?_cons_zero, List.getElem?_cons_succ, pq30, pq2]
  refine (heldPastS_c V54 _ R0 (1) (OSl.toS (l.at (i := 2) rfl)) (by omega) (by omega)).mono ?_
  rintro _ V56 ⟨rfl, he⟩
  replace l := l.step he
  have pq30 : V56.part ⟨q30, 0, none⟩ 2 = some r25 := l.partn (i := 3) rfl hnr25 hor25
  have pq2 : V56.part ⟨q2, 0, none⟩ 2 = some d1 := l.partn (i := 9) rfl hnd1 hod1
  simp (disch := omega) only [↓stp, vls, inf, frs, mark_eq, ↓reduceIte, Nat.reduceEqDiff, ite_tt, ite_ff, eq_self, and_true, true_and, and_self, implies_true, Bool.true_eq_false, Bool.false_eq_true, decide_true, decide_false, decide_eq_true_eq, decide_eq_false_iff_not, ne_eq, not_true_eq_false, not_false_eq_true, Bool.not_eq_true', Bool.not_eq_false', beq_self_eq_true, Bool.not_true, Bool.not_false, List.getElem?_toArray, List.getElem?_cons_zero, List.getElem?_cons_succ, pq30, pq2]
  refine ⟨fun e => by omega, fun e => ?_⟩
  have pq30 : V56.part ⟨q30, 0, none⟩ 2 = some r25 := l.partn (i := 3) rfl hnr25 hor25
  have pq2 : V56.part ⟨q2, 0, none⟩ 2 = some d1 := l.partn (i := 9) rfl hnd1 hod1
  simp (disch := omega) only [↓stp, vls, inf, frs, mark_eq, ↓reduceIte, Nat.reduceEqDiff, ite_tt, ite_ff, eq_self, and_true, true_and, and_self, implies_true, Bool.true_eq_false, Bool.false_eq_true, decide_true, decide_false, decide_eq_true_eq, decide_eq_false_iff_not, ne_eq, not_true_eq_false, not_false_eq_true, Bool.not_eq_true', Bool.not_eq_false', beq_self_eq_true, Bool.not_true, Bool.not_false, List.getElem?_toArray, List.getElem?_cons_zero, List.getElem?_cons_succ, pq30, pq2]
  refine adraw_items [.q 0, .l 2 true, .c 1 [2], .c 3 [], .c 4 [], .q 5, .q 6, .q 7, .q 8, .q 9] (by kernel_rfl) (by kernel_rfl) ?_
  have pq30 : V56.part ⟨q30, 0, none⟩ 2 = some r25 := l.partn (i := 3) rfl hnr25 hor25
  have pq2 : V56.part ⟨q2, 0, none⟩ 2 = some d1 := l.partn (i := 9) rfl hnd1 hod1
  simp (disch := omega) only [↓stp, ↓pln, plv, nilOk, Nat.reduceBEq, Bool.or_false, Bool.or_true, Bool.false_or, Bool.true_or, vls, inf, frs, mark_eq, ↓reduceIte, Nat.reduceEqDiff, ite_tt, ite_ff, eq_self, and_true, true_and, and_self, implies_true, Bool.true_eq_false, Bool.false_eq_true, decide_true, decide_false, decide_eq_true_eq, decide_eq_false_iff_not, ne_eq, not_true_eq_false, not_false_eq_true, Bool.not_eq_true', Bool.not_eq_false', beq_self_eq_true, Bool.not_true, Bool.not_false, List.getElem?_toArray, List.getElem?_cons_zero, List.getElem?_cons_succ, pq30, pq2]
  refine (toPastS_c V56 _ _ (h0.mono l.ext) (by omega)).mono ?_
  rintro r58 V60 ⟨f57, o59, he, hfr, hnd⟩
  replace l := l.cons he (osl 69 pastO f57 _ _) o59 hfr hnd
  have pq30 : V60.part ⟨q30, 0, none⟩ 2 = some r25 := l.partn (i := 4) rfl hnr25 hor25
  have pq2 : V60.part ⟨q2, 0, none⟩ 2 = some d1 := l.partn (i := 10) rfl hnd1 hod1
  simp (disch := omega) only [↓stp, ↓pln, plv, nilOk, Nat.reduceBEq, Bool.or_false, Bool.or_true, Bool.false_or, Bool.true_or, vls, inf, frs, mark_eq, ↓reduceIte, Nat.reduceEqDiff, ite_tt, ite_ff, eq_self, and_true, true_and, and_self, implies_true, Bool.true_eq_false, Bool.false_eq_true, decide_true, decide_false, decide_eq_true_eq, decide_eq_false_iff_not, ne_eq, not_true_eq_false, not_false_eq_true, Bool.not_eq_true', Bool.not_eq_false', beq_self_eq_true, Bool.not_true, Bool.not_false, List.getElem?_toArray, List.getElem?_cons_zero, List.getElem?_cons_succ, pq30, pq2]
  refine (toReport_c V60 _ _ (reportS.mono l.ext h1) (by omega)).mono ?_
  rintro _ V65 ⟨f62, r63, rfl, o64, he, hfr, hnd⟩
  replace l := l.cons he (oc reportO f62 _ _) o64 hfr hnd
  have hnr63 : r63.length = 2 := reportS.len (reportO_S o64)
  have hor63 : ∀ v ∈ r63, v.oneCell' = true := reportS.one (reportO_S o64)
  have pq30 : V65.part ⟨q30, 0, none⟩ 2 = some r25 := l.partn (i := 5) rfl hnr25 hor25
  have pq2 : V65.part ⟨q2, 0, none⟩ 2 = some d1 := l.partn (i := 11) rfl hnd1 hod1
  simp (disch := omega) only [↓stp, ↓pln, plv, nilOk, Nat.reduceBEq, Bool.or_false, Bool.or_true, Bool.false_or, Bool.true_or, vls, inf, frs, mark_eq, ↓reduceIte, Nat.reduceEqDiff, ite_tt, ite_ff, eq_self, and_true, true_and, and_self, implies_true, Bool.true_eq_false, Bool.false_eq_true, decide_true, decide_false, decide_eq_true_eq, decide_eq_false_iff_not, ne_eq, not_true_eq_false, not_false_eq_true, Bool.not_eq_true', Bool.not_eq_false', beq_self_eq_true, Bool.not_true, Bool.not_false, List.getElem?_toArray, List.getElem?_cons_zero, List.getElem?_cons_succ, pq30, pq2]
  refine (himpl V65 r58 r63 (OSl.toS (l.at (i := 1) rfl)) (reportO_S (l.at (i := 0) rfl)) (by omega) (by omega)).mono ?_
  rintro _ V67 ⟨f68, u69, rfl, l2⟩
  replace l := l.append l2
  have pq30 : V67.part ⟨q30, 0, none⟩ 2 = some r25 := l.partn (i := 6) rfl hnr25 hor25
  have pq2 : V67.part ⟨q2, 0, none⟩ 2 = some d1 := l.partn (i := 12) rfl hnd1 hod1
  simp (disch := omega) only [↓stp, ↓pln, plv, nilOk, Nat.reduceBEq, Bool.or_false, Bool.or_true, Bool.false_or, Bool.true_or, vls, inf, frs, mark_eq, ↓reduceIte, Nat.reduceEqDiff, ite_tt, ite_ff, eq_self, and_true, true_and, and_self, implies_true, Bool.true_eq_false, Bool.false_eq_true, decide_true, decide_false, decide_eq_true_eq, decide_eq_false_iff_not, ne_eq, not_true_eq_false, not_false_eq_true, Bool.not_eq_true', Bool.not_eq_false', beq_self_eq_true, Bool.not_true, Bool.not_false, List.getElem?_toArray, List.getElem?_cons_zero, List.getElem?_cons_succ, pq30, pq2]
  refine (eqPastS_c V67 _ _ _ _ (OSl.toS (l.at (i := 0) rfl)) (OSl.toS (l.at (i := 9) rfl))).mono ?_
  rintro _ V71 ⟨rfl, he⟩
  replace l := l.step he
  have pq30 : V71.part ⟨q30, 0, none⟩ 2 = some r25 := l.partn (i := 6) rfl hnr25 hor25
  have pq2 : V71.part ⟨q2, 0, none⟩ 2 = some d1 := l.partn (i := 12) rfl hnd1 hod1
  simp (disch := omega) only [↓stp, vls, inf, frs, mark_eq, ↓reduceIte, Nat.reduceEqDiff, ite_tt, ite_ff, eq_self, and_true, true_and, and_self, implies_true, Bool.true_eq_false, Bool.false_eq_true, decide_true, decide_false, decide_eq_true_eq, decide_eq_false_iff_not, ne_eq, not_true_eq_false, not_false_eq_true, Bool.not_eq_true', Bool.not_eq_false', beq_self_eq_true, Bool.not_true, Bool.not_false, List.getElem?_toArray, List.getElem?_cons_zero, List.getElem?_cons_succ, pq30, pq2]
  refine (heldPastS_c V71 _ R0 (1) (OSl.toS (l.at (i := 5) rfl)) (by omega) (by omega)).mono ?_
  rintro _ V72 ⟨rfl, he⟩
  replace l := l.step he
  have pq30 : V72.part ⟨q30, 0, none⟩ 2 = some r25 := l.partn (i := 6) rfl hnr25 hor25
  have pq2 : V72.part ⟨q2, 0, none⟩ 2 = some d1 := l.partn (i := 12) rfl hnd1 hod1
  simp (disch := omega) only [↓stp, vls, inf, frs, mark_eq, ↓reduceIte, Nat.reduceEqDiff, ite_tt, ite_ff, eq_self, and_true, true_and, and_self, implies_true, Bool.true_eq_false, Bool.false_eq_true, decide_true, decide_false, decide_eq_true_eq, decide_eq_false_iff_not, ne_eq, not_true_eq_false, not_false_eq_true, Bool.not_eq_true', Bool.not_eq_false', beq_self_eq_true, Bool.not_true, Bool.not_false, List.getElem?_toArray, List.getElem?_cons_zero, List.getElem?_cons_succ, pq30, pq2]
  refine ⟨fun e => by omega, fun e => ?_⟩
  have pq30 : V72.part ⟨q30, 0, none⟩ 2 = some r25 := l.partn (i := 6) rfl hnr25 hor25
  have pq2 : V72.part ⟨q2, 0, none⟩ 2 = some d1 := l.partn (i := 12) rfl hnd1 hod1
  simp (disch := omega) only [↓stp, vls, inf, frs, mark_eq, ↓reduceIte, Nat.reduceEqDiff, ite_tt, ite_ff, eq_self, and_true, true_and, and_self, implies_true, Bool.true_eq_false, Bool.false_eq_true, decide_true, decide_false, decide_eq_true_eq, decide_eq_false_iff_not, ne_eq, not_true_eq_false, not_false_eq_true, Bool.not_eq_true', Bool.not_eq_false', beq_self_eq_true, Bool.not_true, Bool.not_false, List.getElem?_toArray, List.getElem?_cons_zero, List.getElem?_cons_succ, pq30, pq2]

end Go.Proofs.Ythimfjonfaomgaa

