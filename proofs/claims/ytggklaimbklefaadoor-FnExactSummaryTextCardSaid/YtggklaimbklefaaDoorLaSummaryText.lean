/- The walk through the law FnExactSummaryText. -/
import Derived.Test.YtggklaimbklefaaDoorGReport
set_option maxHeartbeats 4000000
set_option synthInstance.maxHeartbeats 400000
set_option synthInstance.maxSize 4096
set_option linter.unusedSimpArgs false
set_option linter.unusedVariables false
namespace Go.Proofs.YtggklaimbklefaaDoor

set_option maxRecDepth 100000

/-- The walk through the law, over what the two functions give back. -/
theorem walkFnExactSummaryText (A : View) (d0 : List Value) (x0 : ReportD) (h0 : reportS.rel A x0 d0) (R0 : ByteArray)
    (hspec : ∀ (B : View) (d0 : List Value) (h0 : reportS.rel B x0 d0), reportT.w x0 ≤ 1048576 → ACalls Tryd.prog 5 #[.agg d0.toArray] B fun r B' => r = .string R0 ∧ Led B [] B')
    (himpl : ∀ (B : View) (d0 : List Value) (h0 : reportS.rel B x0 d0), Ext A B → reportT.w x0 ≤ 1048576 → ACalls Tryd.prog 7 #[.agg d0.toArray] B fun r B' => r = .string R0 ∧ Led B [] B') :
    ACalls Tryd.prog 3 #[.agg d0.toArray] A fun r _ => r = .bool true := by
  have l := Led.nil A
  refine acalls Tryd.func3 rfl (by kernel_rfl) ?_
  simp (disch := omega) only [↓stp, vls, inf, frs, mark_eq, ↓reduceIte, Nat.reduceEqDiff, ite_tt, ite_ff, eq_self, and_true, true_and, and_self, implies_true, Bool.true_eq_false, Bool.false_eq_true, decide_true, decide_false, decide_eq_true_eq, decide_eq_false_iff_not, ne_eq, not_true_eq_false, not_false_eq_true, Bool.not_eq_true', Bool.not_eq_false', beq_self_eq_true, Bool.not_true, Bool.not_false, List.getElem?_toArray, List.getElem?_cons_zero, List.getElem?_cons_succ]
  have hnd0 : d0.length = 2 := reportS.len h0
  have hod0 : ∀ v ∈ d0, v.oneCell' = true := reportS.one h0
  refine led_box l (List.all_eq_true.2 hod0) fun q2 V1 _ l => ?_
  have pq2 : V1.part ⟨q2, 0, none⟩ 2 = some d0 := l.partn (i := 0) rfl hnd0 hod0
  simp (disch := omega) only [↓stp, vls, inf, frs, mark_eq, ↓reduceIte, Nat.reduceEqDiff, ite_tt, ite_ff, eq_self, and_true, true_and, and_self, implies_true, Bool.true_eq_false, Bool.false_eq_true, decide_true, decide_false, decide_eq_true_eq, decide_eq_false_iff_not, ne_eq, not_true_eq_false, not_false_eq_true, Bool.not_eq_true', Bool.not_eq_false', beq_self_eq_true, Bool.not_true, Bool.not_false, List.getElem?_toArray, List.getElem?_cons_zero, List.getElem?_cons_succ, pq2]
  refine (szReport_c V1 _ x0 1048576 (reportS.mono l.ext h0) (by omega)).mono ?_
  rintro _ V3 ⟨⟨j0, rfl, hj0⟩, he⟩
  replace l := l.step he
  have pq2 : V3.part ⟨q2, 0, none⟩ 2 = some d0 := l.partn (i := 0) rfl hnd0 hod0
  simp (disch := omega) only [↓stp, vls, inf, frs, mark_eq, ↓reduceIte, Nat.reduceEqDiff, ite_tt, ite_ff, eq_self, and_true, true_and, and_self, implies_true, Bool.true_eq_false, Bool.false_eq_true, decide_true, decide_false, decide_eq_true_eq, decide_eq_false_iff_not, ne_eq, not_true_eq_false, not_false_eq_true, Bool.not_eq_true', Bool.not_eq_false', beq_self_eq_true, Bool.not_true, Bool.not_false, List.getElem?_toArray, List.getElem?_cons_zero, List.getElem?_cons_succ, pq2]
  refine ⟨fun e => ?_, fun e => ?_⟩
  · simp (disch := omega) only [↓stp, vls, inf, frs, mark_eq, ↓reduceIte, Nat.reduceEqDiff, ite_tt, ite_ff, eq_self, and_true, true_and, and_self, implies_true, Bool.true_eq_false, Bool.false_eq_true, decide_true, decide_false, decide_eq_true_eq, decide_eq_false_iff_not, ne_eq, not_true_eq_false, not_false_eq_true, Bool.not_eq_true', Bool.not_eq_false', beq_self_eq_true, Bool.not_true, Bool.not_false, List.getElem?_toArray, List.getElem?_cons_zero, List.getElem?_cons_succ]
  replace hj0 := hj0.resolve_left (by omega)
  have pq2 : V3.part ⟨q2, 0, none⟩ 2 = some d0 := l.partn (i := 0) rfl hnd0 hod0
  simp (disch := omega) only [↓stp, vls, inf, frs, mark_eq, ↓reduceIte, Nat.reduceEqDiff, ite_tt, ite_ff, eq_self, and_true, true_and, and_self, implies_true, Bool.true_eq_false, Bool.false_eq_true, decide_true, decide_false, decide_eq_true_eq, decide_eq_false_iff_not, ne_eq, not_true_eq_false, not_false_eq_true, Bool.not_eq_true', Bool.not_eq_false', beq_self_eq_true, Bool.not_true, Bool.not_false, List.getElem?_toArray, List.getElem?_cons_zero, List.getElem?_cons_succ, pq2]
  have hc0 := reportT_le x0
  refine (toReport_c V3 _ _ (reportS.mono l.ext h0) (by omega)).mono ?_
  rintro _ V7 ⟨f4, r5, rfl, o6, he, hfr, hnd⟩
  replace l := l.cons he (oc reportO f4 _ _) o6 hfr hnd
  have hnr5 : r5.length = 2 := reportS.len (reportO_S o6)
  have hor5 : ∀ v ∈ r5, v.oneCell' = true := reportS.one (reportO_S o6)
  have pq2 : V7.part ⟨q2, 0, none⟩ 2 = some d0 := l.partn (i := 1) rfl hnd0 hod0
  simp (disch := omega) only [↓stp, vls, inf, frs, mark_eq, ↓reduceIte, Nat.reduceEqDiff, ite_tt, ite_ff, eq_self, and_true, true_and, and_self, implies_true, Bool.true_eq_false, Bool.false_eq_true, decide_true, decide_false, decide_eq_true_eq, decide_eq_false_iff_not, ne_eq, not_true_eq_false, not_false_eq_true, Bool.not_eq_true', Bool.not_eq_false', beq_self_eq_true, Bool.not_true, Bool.not_false, List.getElem?_toArray, List.getElem?_cons_zero, List.getElem?_cons_succ, pq2]
  refine (hspec V7 r5 (reportO_S (l.at (i := 0) rfl)) (by omega)).mono ?_
  rintro _ V9 ⟨rfl, l2⟩
  replace l := l.append l2
  have pq2 : V9.part ⟨q2, 0, none⟩ 2 = some d0 := l.partn (i := 1) rfl hnd0 hod0
  simp (disch := omega) only [↓stp, vls, inf, frs, mark_eq, ↓reduceIte, Nat.reduceEqDiff, ite_tt, ite_ff, eq_self, and_true, true_and, and_self, implies_true, Bool.true_eq_false, Bool.false_eq_true, decide_true, decide_false, decide_eq_true_eq, decide_eq_false_iff_not, ne_eq, not_true_eq_false, not_false_eq_true, Bool.not_eq_true', Bool.not_eq_false', beq_self_eq_true, Bool.not_true, Bool.not_false, List.getElem?_toArray, List.getElem?_cons_zero, List.getElem?_cons_succ, pq2]
  refine (toReport_c V9 _ _ (reportS.mono l.ext h0) (by omega)).mono ?_
  rintro _ V13 ⟨f10, r11, rfl, o12, he, hfr, hnd⟩
  replace l := l.cons he (oc reportO f10 _ _) o12 hfr hnd
  have hnr11 : r11.length = 2 := reportS.len (reportO_S o12)
  have hor11 : ∀ v ∈ r11, v.oneCell' = true := reportS.one (reportO_S o12)
  have pq2 : V13.part ⟨q2, 0, none⟩ 2 = some d0 := l.partn (i := 2) rfl hnd0 hod0
  simp (disch := omega) only [↓stp, vls, inf, frs, mark_eq, ↓reduceIte, Nat.reduceEqDiff, ite_tt, ite_ff, eq_self, and_true, true_and, and_self, implies_true, Bool.true_eq_false, Bool.false_eq_true, decide_true, decide_false, decide_eq_true_eq, decide_eq_false_iff_not, ne_eq, not_true_eq_false, not_false_eq_true, Bool.not_eq_true', Bool.not_eq_false', beq_self_eq_true, Bool.not_true, Bool.not_false, List.getElem?_toArray, List.getElem?_cons_zero, List.getElem?_cons_succ, pq2]
  refine led_alloc zc30 l fun q16 V15 _ l => ?_
  have pq2 : V15.part ⟨q2, 0, none⟩ 2 = some d0 := l.partn (i := 3) rfl hnd0 hod0
  simp (disch := omega) only [↓stp, vls, inf, frs, mark_eq, ↓reduceIte, Nat.reduceEqDiff, ite_tt, ite_ff, eq_self, and_true, true_and, and_self, implies_true, Bool.true_eq_false, Bool.false_eq_true, decide_true, decide_false, decide_eq_true_eq, decide_eq_false_iff_not, ne_eq, not_true_eq_false, not_false_eq_true, Bool.not_eq_true', Bool.not_eq_false', beq_self_eq_true, Bool.not_true, Bool.not_false, List.getElem?_toArray, List.getElem?_cons_zero, List.getElem?_cons_succ, pq2]
  refine led_storeAll l 0 rfl sz30 hnr11 rfl hor11 fun V17 l => ?_
  have pq16 : V17.part ⟨q16, 0, none⟩ 2 = some r11 := l.partn (i := 0) rfl hnr11 hor11
  have pq2 : V17.part ⟨q2, 0, none⟩ 2 = some d0 := l.partn (i := 3) rfl hnd0 hod0
  simp (disch := omega) only [↓stp, vls, inf, frs, mark_eq, ↓reduceIte, Nat.reduceEqDiff, ite_tt, ite_ff, eq_self, and_true, true_and, and_self, implies_true, Bool.true_eq_false, Bool.false_eq_true, decide_true, decide_false, decide_eq_true_eq, decide_eq_false_iff_not, ne_eq, not_true_eq_false, not_false_eq_true, Bool.not_eq_true', Bool.not_eq_false', beq_self_eq_true, Bool.not_true, Bool.not_false, List.getElem?_toArray, List.getElem?_cons_zero, List.getElem?_cons_succ, pq16, pq2]
  refine (himpl V17 r11 (reportO_S (l.at (i := 1) rfl)) l.ext (by omega)).mono ?_
  rintro _ V18 ⟨rfl, l2⟩
  replace l := l.append l2
  have pq16 : V18.part ⟨q16, 0, none⟩ 2 = some r11 := l.partn (i := 0) rfl hnr11 hor11
  have pq2 : V18.part ⟨q2, 0, none⟩ 2 = some d0 := l.partn (i := 3) rfl hnd0 hod0
  simp (disch := omega) only [↓stp, vls, inf, frs, mark_eq, ↓reduceIte, Nat.reduceEqDiff, ite_tt, ite_ff, eq_self, and_true, true_and, and_self, implies_true, Bool.true_eq_false, Bool.false_eq_true, decide_true, decide_false, decide_eq_true_eq, decide_eq_false_iff_not, ne_eq, not_true_eq_false, not_false_eq_true, Bool.not_eq_true', Bool.not_eq_false', beq_self_eq_true, Bool.not_true, Bool.not_false, List.getElem?_toArray, List.getElem?_cons_zero, List.getElem?_cons_succ, pq16, pq2]
  refine adraw_items [.l 0 true, .l 1 false, .c 2 [0], .c 3 [], .q 4] (by kernel_rfl) (by kernel_rfl) ?_
  have pq16 : V18.part ⟨q16, 0, none⟩ 2 = some r11 := l.partn (i := 0) rfl hnr11 hor11
  have pq2 : V18.part ⟨q2, 0, none⟩ 2 = some d0 := l.partn (i := 3) rfl hnd0 hod0
  simp (disch := omega) only [↓stp, ↓pln, plv, nilOk, Nat.reduceBEq, Bool.or_false, Bool.or_true, Bool.false_or, Bool.true_or, vls, inf, frs, mark_eq, ↓reduceIte, Nat.reduceEqDiff, ite_tt, ite_ff, eq_self, and_true, true_and, and_self, implies_true, Bool.true_eq_false, Bool.false_eq_true, decide_true, decide_false, decide_eq_true_eq, decide_eq_false_iff_not, ne_eq, not_true_eq_false, not_false_eq_true, Bool.not_eq_true', Bool.not_eq_false', beq_self_eq_true, Bool.not_true, Bool.not_false, List.getElem?_toArray, List.getElem?_cons_zero, List.getElem?_cons_succ, pq16, pq2]
  refine (toReport_c V18 _ _ (reportS.mono l.ext h0) (by omega)).mono ?_
  rintro _ V22 ⟨f19, r20, rfl, o21, he, hfr, hnd⟩
  replace l := l.cons he (oc reportO f19 _ _) o21 hfr hnd
  have hnr20 : r20.length = 2 := reportS.len (reportO_S o21)
  have hor20 : ∀ v ∈ r20, v.oneCell' = true := reportS.one (reportO_S o21)
  have pq16 : V22.part ⟨q16, 0, none⟩ 2 = some r11 := l.partn (i := 1) rfl hnr11 hor11
  have pq2 : V22.part ⟨q2, 0, none⟩ 2 = some d0 := l.partn (i := 4) rfl hnd0 hod0
  simp (disch := omega) only [↓stp, ↓pln, plv, nilOk, Nat.reduceBEq, Bool.or_false, Bool.or_true, Bool.false_or, Bool.true_or, vls, inf, frs, mark_eq, ↓reduceIte, Nat.reduceEqDiff, ite_tt, ite_ff, eq_self, and_true, true_and, and_self, implies_true, Bool.true_eq_false, Bool.false_eq_true, decide_true, decide_false, decide_eq_true_eq, decide_eq_false_iff_not, ne_eq, not_true_eq_false, not_false_eq_true, Bool.not_eq_true', Bool.not_eq_false', beq_self_eq_true, Bool.not_true, Bool.not_false, List.getElem?_toArray, List.getElem?_cons_zero, List.getElem?_cons_succ, pq16, pq2]
  refine (eqReport_c V22 _ _ _ _ (reportO_S (l.at (i := 2) rfl)) (reportO_S (l.at (i := 0) rfl))).mono ?_
  rintro _ V24 ⟨rfl, he⟩
  replace l := l.step he
  have pq16 : V24.part ⟨q16, 0, none⟩ 2 = some r11 := l.partn (i := 1) rfl hnr11 hor11
  have pq2 : V24.part ⟨q2, 0, none⟩ 2 = some d0 := l.partn (i := 4) rfl hnd0 hod0
  simp (disch := omega) only [↓stp, ↓pln, plv, nilOk, Nat.reduceBEq, Bool.or_false, Bool.or_true, Bool.false_or, Bool.true_or, vls, inf, frs, mark_eq, ↓reduceIte, Nat.reduceEqDiff, ite_tt, ite_ff, eq_self, and_true, true_and, and_self, implies_true, Bool.true_eq_false, Bool.false_eq_true, decide_true, decide_false, decide_eq_true_eq, decide_eq_false_iff_not, ne_eq, not_true_eq_false, not_false_eq_true, Bool.not_eq_true', Bool.not_eq_false', beq_self_eq_true, Bool.not_true, Bool.not_false, List.getElem?_toArray, List.getElem?_cons_zero, List.getElem?_cons_succ, pq16, pq2]

end Go.Proofs.YtggklaimbklefaaDoor

