/- The walk through the law FnExactValidWorld. -/
import Derived.Test.YtfhodofbccljmaaGSuite
import Derived.Test.YtfhodofbccljmaaGWorld
set_option maxHeartbeats 4000000
set_option synthInstance.maxHeartbeats 400000
set_option synthInstance.maxSize 4096
set_option linter.unusedSimpArgs false
set_option linter.unusedVariables false
namespace Go.Proofs.Ytfhodofbccljmaa

set_option maxRecDepth 100000

/-- The walk through the law, over what the two functions give back. -/
theorem walkFnExactValidWorld (A : View) (d0 : List Value) (x0 : SuiteD) (d1 : List Value) (x1 : WorldD) (h0 : suiteS.rel A x0 d0) (h1 : worldS.rel A x1 d1) (R0 : Bool)
    (hspec : ∀ (B : View) (d0 : List Value) (d1 : List Value) (h0 : suiteS.rel B x0 d0) (h1 : worldS.rel B x1 d1), suiteT.w x0 ≤ 1048576 → worldT.w x1 ≤ 1048576 → ACalls Try.prog 48 #[.agg d0.toArray, .agg d1.toArray] B fun r B' => r = .bool R0 ∧ Led B [] B')
    (himpl : ∀ (B : View) (d0 : List Value) (d1 : List Value) (h0 : suiteS.rel B x0 d0) (h1 : worldS.rel B x1 d1), suiteT.w x0 ≤ 1048576 → worldT.w x1 ≤ 1048576 → ACalls Try.prog 50 #[.agg d0.toArray, .agg d1.toArray] B fun r B' => r = .bool R0 ∧ Led B [] B') :
    ACalls Try.prog 12 #[.agg d0.toArray, .agg d1.toArray] A fun r _ => r = .bool true := by
  have l := Led.nil A
  refine acalls Try.func12 rfl (by kernel_rfl) ?_
  simp (disch := omega) only [↓stp, vls, inf, frs, mark_eq, ↓reduceIte, Nat.reduceEqDiff, ite_tt, ite_ff, eq_self, and_true, true_and, and_self, implies_true, Bool.true_eq_false, Bool.false_eq_true, decide_true, decide_false, decide_eq_true_eq, decide_eq_false_iff_not, ne_eq, not_true_eq_false, not_false_eq_true, Bool.not_eq_true', Bool.not_eq_false', beq_self_eq_true, Bool.not_true, Bool.not_false, List.getElem?_toArray, List.getElem?_cons_zero, List.getElem?_cons_succ]
  have hnd0 : d0.length = 2 := suiteS.len h0
  have hod0 : ∀ v ∈ d0, v.oneCell' = true := suiteS.one h0
  refine led_box l (List.all_eq_true.2 hod0) fun q2 V1 _ l => ?_
  have pq2 : V1.part ⟨q2, 0, none⟩ 2 = some d0 := l.partn (i := 0) rfl hnd0 hod0
  simp (disch := omega) only [↓stp, vls, inf, frs, mark_eq, ↓reduceIte, Nat.reduceEqDiff, ite_tt, ite_ff, eq_self, and_true, true_and, and_self, implies_true, Bool.true_eq_false, Bool.false_eq_true, decide_true, decide_false, decide_eq_true_eq, decide_eq_false_iff_not, ne_eq, not_true_eq_false, not_false_eq_true, Bool.not_eq_true', Bool.not_eq_false', beq_self_eq_true, Bool.not_true, Bool.not_false, List.getElem?_toArray, List.getElem?_cons_zero, List.getElem?_cons_succ, pq2]
  have hnd1 : d1.length = 4 := worldS.len h1
  have hod1 : ∀ v ∈ d1, v.oneCell' = true := worldS.one h1
  refine led_box l (List.all_eq_true.2 hod1) fun q4 V3 _ l => ?_
  have pq4 : V3.part ⟨q4, 0, none⟩ 4 = some d1 := l.partn (i := 0) rfl hnd1 hod1
  have pq2 : V3.part ⟨q2, 0, none⟩ 2 = some d0 := l.partn (i := 1) rfl hnd0 hod0
  simp (disch := omega) only [↓stp, vls, inf, frs, mark_eq, ↓reduceIte, Nat.reduceEqDiff, ite_tt, ite_ff, eq_self, and_true, true_and, and_self, implies_true, Bool.true_eq_false, Bool.false_eq_true, decide_true, decide_false, decide_eq_true_eq, decide_eq_false_iff_not, ne_eq, not_true_eq_false, not_false_eq_true, Bool.not_eq_true', Bool.not_eq_false', beq_self_eq_true, Bool.not_true, Bool.not_false, List.getElem?_toArray, List.getElem?_cons_zero, List.getElem?_cons_succ, pq4, pq2]
  refine (szSuite_c V3 _ x0 1048576 (suiteS.mono l.ext h0) (by omega)).mono ?_
  rintro _ V5 ⟨⟨j0, rfl, hj0⟩, he⟩
  replace l := l.step he
  have pq4 : V5.part ⟨q4, 0, none⟩ 4 = some d1 := l.partn (i := 0) rfl hnd1 hod1
  have pq2 : V5.part ⟨q2, 0, none⟩ 2 = some d0 := l.partn (i := 1) rfl hnd0 hod0
  simp (disch := omega) only [↓stp, vls, inf, frs, mark_eq, ↓reduceIte, Nat.reduceEqDiff, ite_tt, ite_ff, eq_self, and_true, true_and, and_self, implies_true, Bool.true_eq_false, Bool.false_eq_true, decide_true, decide_false, decide_eq_true_eq, decide_eq_false_iff_not, ne_eq, not_true_eq_false, not_false_eq_true, Bool.not_eq_true', Bool.not_eq_false', beq_self_eq_true, Bool.not_true, Bool.not_false, List.getElem?_toArray, List.getElem?_cons_zero, List.getElem?_cons_succ, pq4, pq2]
  refine ⟨fun e => ?_, fun e => ?_⟩
  · simp (disch := omega) only [↓stp, vls, inf, frs, mark_eq, ↓reduceIte, Nat.reduceEqDiff, ite_tt, ite_ff, eq_self, and_true, true_and, and_self, implies_true, Bool.true_eq_false, Bool.false_eq_true, decide_true, decide_false, decide_eq_true_eq, decide_eq_false_iff_not, ne_eq, not_true_eq_false, not_false_eq_true, Bool.not_eq_true', Bool.not_eq_false', beq_self_eq_true, Bool.not_true, Bool.not_false, List.getElem?_toArray, List.getElem?_cons_zero, List.getElem?_cons_succ]
  replace hj0 := hj0.resolve_left (by omega)
  have pq4 : V5.part ⟨q4, 0, none⟩ 4 = some d1 := l.partn (i := 0) rfl hnd1 hod1
  have pq2 : V5.part ⟨q2, 0, none⟩ 2 = some d0 := l.partn (i := 1) rfl hnd0 hod0
  simp (disch := omega) only [↓stp, vls, inf, frs, mark_eq, ↓reduceIte, Nat.reduceEqDiff, ite_tt, ite_ff, eq_self, and_true, true_and, and_self, implies_true, Bool.true_eq_false, Bool.false_eq_true, decide_true, decide_false, decide_eq_true_eq, decide_eq_false_iff_not, ne_eq, not_true_eq_false, not_false_eq_true, Bool.not_eq_true', Bool.not_eq_false', beq_self_eq_true, Bool.not_true, Bool.not_false, List.getElem?_toArray, List.getElem?_cons_zero, List.getElem?_cons_succ, pq4, pq2]
  refine (szWorld_c V5 _ x1 j0 (worldS.mono l.ext h1) (by omega)).mono ?_
  rintro _ V6 ⟨⟨j1, rfl, hj1⟩, he⟩
  replace l := l.step he
  have pq4 : V6.part ⟨q4, 0, none⟩ 4 = some d1 := l.partn (i := 0) rfl hnd1 hod1
  have pq2 : V6.part ⟨q2, 0, none⟩ 2 = some d0 := l.partn (i := 1) rfl hnd0 hod0
  simp (disch := omega) only [↓stp, vls, inf, frs, mark_eq, ↓reduceIte, Nat.reduceEqDiff, ite_tt, ite_ff, eq_self, and_true, true_and, and_self, implies_true, Bool.true_eq_false, Bool.false_eq_true, decide_true, decide_false, decide_eq_true_eq, decide_eq_false_iff_not, ne_eq, not_true_eq_false, not_false_eq_true, Bool.not_eq_true', Bool.not_eq_false', beq_self_eq_true, Bool.not_true, Bool.not_false, List.getElem?_toArray, List.getElem?_cons_zero, List.getElem?_cons_succ, pq4, pq2]
  refine ⟨fun e => ?_, fun e => ?_⟩
  · simp (disch := omega) only [↓stp, vls, inf, frs, mark_eq, ↓reduceIte, Nat.reduceEqDiff, ite_tt, ite_ff, eq_self, and_true, true_and, and_self, implies_true, Bool.true_eq_false, Bool.false_eq_true, decide_true, decide_false, decide_eq_true_eq, decide_eq_false_iff_not, ne_eq, not_true_eq_false, not_false_eq_true, Bool.not_eq_true', Bool.not_eq_false', beq_self_eq_true, Bool.not_true, Bool.not_false, List.getElem?_toArray, List.getElem?_cons_zero, List.getElem?_cons_succ]
  replace hj1 := hj1.resolve_left (by omega)
  have pq4 : V6.part ⟨q4, 0, none⟩ 4 = some d1 := l.partn (i := 0) rfl hnd1 hod1
  have pq2 : V6.part ⟨q2, 0, none⟩ 2 = some d0 := l.partn (i := 1) rfl hnd0 hod0
  simp (disch := omega) only [↓stp, vls, inf, frs, mark_eq, ↓reduceIte, Nat.reduceEqDiff, ite_tt, ite_ff, eq_self, and_true, true_and, and_self, implies_true, Bool.true_eq_false, Bool.false_eq_true, decide_true, decide_false, decide_eq_true_eq, decide_eq_false_iff_not, ne_eq, not_true_eq_false, not_false_eq_true, Bool.not_eq_true', Bool.not_eq_false', beq_self_eq_true, Bool.not_true, Bool.not_false, List.getElem?_toArray, List.getElem?_cons_zero, List.getElem?_cons_succ, pq4, pq2]
  have hc0 := suiteT_le x0
  have hc1 := worldT_le x1
  refine adraw_items [.l 0 false, .l 2 true, .c 1 [2], .c 3 [], .c 4 [], .q 5] (by kernel_rfl) (by kernel_rfl) ?_
  have pq4 : V6.part ⟨q4, 0, none⟩ 4 = some d1 := l.partn (i := 0) rfl hnd1 hod1
  have pq2 : V6.part ⟨q2, 0, none⟩ 2 = some d0 := l.partn (i := 1) rfl hnd0 hod0
  simp (disch := omega) only [↓stp, ↓pln, plv, nilOk, Nat.reduceBEq, Bool.or_false, Bool.or_true, Bool.false_or, Bool.true_or, vls, inf, frs, mark_eq, ↓reduceIte, Nat.reduceEqDiff, ite_tt, ite_ff, eq_self, and_true, true_and, and_self, implies_true, Bool.true_eq_false, Bool.false_eq_true, decide_true, decide_false, decide_eq_true_eq, decide_eq_false_iff_not, ne_eq, not_true_eq_false, not_false_eq_true, Bool.not_eq_true', Bool.not_eq_false', beq_self_eq_true, Bool.not_true, Bool.not_false, List.getElem?_toArray, List.getElem?_cons_zero, List.getElem?_cons_succ, pq4, pq2]
  refine (toSuite_c V6 _ _ (suiteS.mono l.ext h0) (by omega)).mono ?_
  rintro _ V10 ⟨f7, r8, rfl, o9, he, hfr, hnd⟩
  replace l := l.cons he (oc suiteO f7 _ _) o9 hfr hnd
  have hnr8 : r8.length = 2 := suiteS.len (suiteO_S o9)
  have hor8 : ∀ v ∈ r8, v.oneCell' = true := suiteS.one (suiteO_S o9)
  have pq4 : V10.part ⟨q4, 0, none⟩ 4 = some d1 := l.partn (i := 1) rfl hnd1 hod1
  have pq2 : V10.part ⟨q2, 0, none⟩ 2 = some d0 := l.partn (i := 2) rfl hnd0 hod0
  simp (disch := omega) only [↓stp, ↓pln, plv, nilOk, Nat.reduceBEq, Bool.or_false, Bool.or_true, Bool.false_or, Bool.true_or, vls, inf, frs, mark_eq, ↓reduceIte, Nat.reduceEqDiff, ite_tt, ite_ff, eq_self, and_true, true_and, and_self, implies_true, Bool.true_eq_false, Bool.false_eq_true, decide_true, decide_false, decide_eq_true_eq, decide_eq_false_iff_not, ne_eq, not_true_eq_false, not_false_eq_true, Bool.not_eq_true', Bool.not_eq_false', beq_self_eq_true, Bool.not_true, Bool.not_false, List.getElem?_toArray, List.getElem?_cons_zero, List.getElem?_cons_succ, pq4, pq2]
  refine (toWorld_c V10 _ _ (worldS.mono l.ext h1) (by omega)).mono ?_
  rintro _ V15 ⟨f12, r13, rfl, o14, he, hfr, hnd⟩
  replace l := l.cons he (oc worldO f12 _ _) o14 hfr hnd
  have hnr13 : r13.length = 4 := worldS.len (worldO_S o14)
  have hor13 : ∀ v ∈ r13, v.oneCell' = true := worldS.one (worldO_S o14)
  have pq4 : V15.part ⟨q4, 0, none⟩ 4 = some d1 := l.partn (i := 2) rfl hnd1 hod1
  have pq2 : V15.part ⟨q2, 0, none⟩ 2 = some d0 := l.partn (i := 3) rfl hnd0 hod0
  simp (disch := omega) only [↓stp, ↓pln, plv, nilOk, Nat.reduceBEq, Bool.or_false, Bool.or_true, Bool.false_or, Bool.true_or, vls, inf, frs, mark_eq, ↓reduceIte, Nat.reduceEqDiff, ite_tt, ite_ff, eq_self, and_true, true_and, and_self, implies_true, Bool.true_eq_false, Bool.false_eq_true, decide_true, decide_false, decide_eq_true_eq, decide_eq_false_iff_not, ne_eq, not_true_eq_false, not_false_eq_true, Bool.not_eq_true', Bool.not_eq_false', beq_self_eq_true, Bool.not_true, Bool.not_false, List.getElem?_toArray, List.getElem?_cons_zero, List.getElem?_cons_succ, pq4, pq2]
  refine (hspec V15 r8 r13 (suiteO_S (l.at (i := 1) rfl)) (worldO_S (l.at (i := 0) rfl)) (by omega) (by omega)).mono ?_
  rintro _ V17 ⟨rfl, l2⟩
  replace l := l.append l2
  have pq4 : V17.part ⟨q4, 0, none⟩ 4 = some d1 := l.partn (i := 2) rfl hnd1 hod1
  have pq2 : V17.part ⟨q2, 0, none⟩ 2 = some d0 := l.partn (i := 3) rfl hnd0 hod0
  simp (disch := omega) only [↓stp, ↓pln, plv, nilOk, Nat.reduceBEq, Bool.or_false, Bool.or_true, Bool.false_or, Bool.true_or, vls, inf, frs, mark_eq, ↓reduceIte, Nat.reduceEqDiff, ite_tt, ite_ff, eq_self, and_true, true_and, and_self, implies_true, Bool.true_eq_false, Bool.false_eq_true, decide_true, decide_false, decide_eq_true_eq, decide_eq_false_iff_not, ne_eq, not_true_eq_false, not_false_eq_true, Bool.not_eq_true', Bool.not_eq_false', beq_self_eq_true, Bool.not_true, Bool.not_false, List.getElem?_toArray, List.getElem?_cons_zero, List.getElem?_cons_succ, pq4, pq2]
  refine (toSuite_c V17 _ _ (suiteS.mono l.ext h0) (by omega)).mono ?_
  rintro _ V21 ⟨f18, r19, rfl, o20, he, hfr, hnd⟩
  replace l := l.cons he (oc suiteO f18 _ _) o20 hfr hnd
  have hnr19 : r19.length = 2 := suiteS.len (suiteO_S o20)
  have hor19 : ∀ v ∈ r19, v.oneCell' = true := suiteS.one (suiteO_S o20)
  have pq4 : V21.part ⟨q4, 0, none⟩ 4 = some d1 := l.partn (i := 3) rfl hnd1 hod1
  have pq2 : V21.part ⟨q2, 0, none⟩ 2 = some d0 := l.partn (i := 4) rfl hnd0 hod0
  simp (disch := omega) only [↓stp, vls, inf, frs, mark_eq, ↓reduceIte, Nat.reduceEqDiff, ite_tt, ite_ff, eq_self, and_true, true_and, and_self, implies_true, Bool.true_eq_false, Bool.false_eq_true, decide_true, decide_false, decide_eq_true_eq, decide_eq_false_iff_not, ne_eq, not_true_eq_false, not_false_eq_true, Bool.not_eq_true', Bool.not_eq_false', beq_self_eq_true, Bool.not_true, Bool.not_false, List.getElem?_toArray, List.getElem?_cons_zero, List.getElem?_cons_succ, pq4, pq2]
  refine led_alloc zc30 l fun q24 V23 _ l => ?_
  have pq4 : V23.part ⟨q4, 0, none⟩ 4 = some d1 := l.partn (i := 4) rfl hnd1 hod1
  have pq2 : V23.part ⟨q2, 0, none⟩ 2 = some d0 := l.partn (i := 5) rfl hnd0 hod0
  simp (disch := omega) only [↓stp, vls, inf, frs, mark_eq, ↓reduceIte, Nat.reduceEqDiff, ite_tt, ite_ff, eq_self, and_true, true_and, and_self, implies_true, Bool.true_eq_false, Bool.false_eq_true, decide_true, decide_false, decide_eq_true_eq, decide_eq_false_iff_not, ne_eq, not_true_eq_false, not_false_eq_true, Bool.not_eq_true', Bool.not_eq_false', beq_self_eq_true, Bool.not_true, Bool.not_false, List.getElem?_toArray, List.getElem?_cons_zero, List.getElem?_cons_succ, pq4, pq2]
  refine led_storeAll l 0 rfl sz30 hnr19 rfl hor19 fun V25 l => ?_
  have pq24 : V25.part ⟨q24, 0, none⟩ 2 = some r19 := l.partn (i := 0) rfl hnr19 hor19
  have pq4 : V25.part ⟨q4, 0, none⟩ 4 = some d1 := l.partn (i := 4) rfl hnd1 hod1
  have pq2 : V25.part ⟨q2, 0, none⟩ 2 = some d0 := l.partn (i := 5) rfl hnd0 hod0
  simp (disch := omega) only [↓stp, vls, inf, frs, mark_eq, ↓reduceIte, Nat.reduceEqDiff, ite_tt, ite_ff, eq_self, and_true, true_and, and_self, implies_true, Bool.true_eq_false, Bool.false_eq_true, decide_true, decide_false, decide_eq_true_eq, decide_eq_false_iff_not, ne_eq, not_true_eq_false, not_false_eq_true, Bool.not_eq_true', Bool.not_eq_false', beq_self_eq_true, Bool.not_true, Bool.not_false, List.getElem?_toArray, List.getElem?_cons_zero, List.getElem?_cons_succ, pq24, pq4, pq2]
  refine (toWorld_c V25 _ _ (worldS.mono l.ext h1) (by omega)).mono ?_
  rintro _ V29 ⟨f26, r27, rfl, o28, he, hfr, hnd⟩
  replace l := l.cons he (oc worldO f26 _ _) o28 hfr hnd
  have hnr27 : r27.length = 4 := worldS.len (worldO_S o28)
  have hor27 : ∀ v ∈ r27, v.oneCell' = true := worldS.one (worldO_S o28)
  have pq24 : V29.part ⟨q24, 0, none⟩ 2 = some r19 := l.partn (i := 1) rfl hnr19 hor19
  have pq4 : V29.part ⟨q4, 0, none⟩ 4 = some d1 := l.partn (i := 5) rfl hnd1 hod1
  have pq2 : V29.part ⟨q2, 0, none⟩ 2 = some d0 := l.partn (i := 6) rfl hnd0 hod0
  simp (disch := omega) only [↓stp, vls, inf, frs, mark_eq, ↓reduceIte, Nat.reduceEqDiff, ite_tt, ite_ff, eq_self, and_true, true_and, and_self, implies_true, Bool.true_eq_false, Bool.false_eq_true, decide_true, decide_false, decide_eq_true_eq, decide_eq_false_iff_not, ne_eq, not_true_eq_false, not_false_eq_true, Bool.not_eq_true', Bool.not_eq_false', beq_self_eq_true, Bool.not_true, Bool.not_false, List.getElem?_toArray, List.getElem?_cons_zero, List.getElem?_cons_succ, pq24, pq4, pq2]
  refine led_alloc zc65 l fun q32 V31 _ l => ?_
  have pq24 : V31.part ⟨q24, 0, none⟩ 2 = some r19 := l.partn (i := 2) rfl hnr19 hor19
  have pq4 : V31.part ⟨q4, 0, none⟩ 4 = some d1 := l.partn (i := 6) rfl hnd1 hod1
  have pq2 : V31.part ⟨q2, 0, none⟩ 2 = some d0 := l.partn (i := 7) rfl hnd0 hod0
  simp (disch := omega) only [↓stp, vls, inf, frs, mark_eq, ↓reduceIte, Nat.reduceEqDiff, ite_tt, ite_ff, eq_self, and_true, true_and, and_self, implies_true, Bool.true_eq_false, Bool.false_eq_true, decide_true, decide_false, decide_eq_true_eq, decide_eq_false_iff_not, ne_eq, not_true_eq_false, not_false_eq_true, Bool.not_eq_true', Bool.not_eq_false', beq_self_eq_true, Bool.not_true, Bool.not_false, List.getElem?_toArray, List.getElem?_cons_zero, List.getElem?_cons_succ, pq24, pq4, pq2]
  refine led_storeAll l 0 rfl sz65 hnr27 rfl hor27 fun V33 l => ?_
  have pq32 : V33.part ⟨q32, 0, none⟩ 4 = some r27 := l.partn (i := 0) rfl hnr27 hor27
  have pq24 : V33.part ⟨q24, 0, none⟩ 2 = some r19 := l.partn (i := 2) rfl hnr19 hor19
  have pq4 : V33.part ⟨q4, 0, none⟩ 4 = some d1 := l.partn (i := 6) rfl hnd1 hod1
  have pq2 : V33.part ⟨q2, 0, none⟩ 2 = some d0 := l.partn (i := 7) rfl hnd0 hod0
  simp (disch := omega) only [↓stp, vls, inf, frs, mark_eq, ↓reduceIte, Nat.reduceEqDiff, ite_tt, ite_ff, eq_self, and_true, true_and, and_self, implies_true, Bool.true_eq_false, Bool.false_eq_true, decide_true, decide_false, decide_eq_true_eq, decide_eq_false_iff_not, ne_eq, not_true_eq_false, not_false_eq_true, Bool.not_eq_true', Bool.not_eq_false', beq_self_eq_true, Bool.not_true, Bool.not_false, List.getElem?_toArray, List.getElem?_cons_zero, List.getElem?_cons_succ, pq32, pq24, pq4, pq2]
  refine (himpl V33 r19 r27 (suiteO_S (l.at (i := 3) rfl)) (worldO_S (l.at (i := 1) rfl)) (by omega) (by omega)).mono ?_
  rintro _ V34 ⟨rfl, l2⟩
  replace l := l.append l2
  have pq32 : V34.part ⟨q32, 0, none⟩ 4 = some r27 := l.partn (i := 0) rfl hnr27 hor27
  have pq24 : V34.part ⟨q24, 0, none⟩ 2 = some r19 := l.partn (i := 2) rfl hnr19 hor19
  have pq4 : V34.part ⟨q4, 0, none⟩ 4 = some d1 := l.partn (i := 6) rfl hnd1 hod1
  have pq2 : V34.part ⟨q2, 0, none⟩ 2 = some d0 := l.partn (i := 7) rfl hnd0 hod0
  simp (disch := omega) only [↓stp, vls, inf, frs, mark_eq, ↓reduceIte, Nat.reduceEqDiff, ite_tt, ite_ff, eq_self, and_true, true_and, and_self, implies_true, Bool.true_eq_false, Bool.false_eq_true, decide_true, decide_false, decide_eq_true_eq, decide_eq_false_iff_not, ne_eq, not_true_eq_false, not_false_eq_true, Bool.not_eq_true', Bool.not_eq_false', beq_self_eq_true, Bool.not_true, Bool.not_false, List.getElem?_toArray, List.getElem?_cons_zero, List.getElem?_cons_succ, pq32, pq24, pq4, pq2]
  refine adraw_items [.l 0 true, .l 1 false, .c 2 [0], .c 3 [], .q 4] (by kernel_rfl) (by kernel_rfl) ?_
  have pq32 : V34.part ⟨q32, 0, none⟩ 4 = some r27 := l.partn (i := 0) rfl hnr27 hor27
  have pq24 : V34.part ⟨q24, 0, none⟩ 2 = some r19 := l.partn (i := 2) rfl hnr19 hor19
  have pq4 : V34.part ⟨q4, 0, none⟩ 4 = some d1 := l.partn (i := 6) rfl hnd1 hod1
  have pq2 : V34.part ⟨q2, 0, none⟩ 2 = some d0 := l.partn (i := 7) rfl hnd0 hod0
  simp (disch := omega) only [↓stp, ↓pln, plv, nilOk, Nat.reduceBEq, Bool.or_false, Bool.or_true, Bool.false_or, Bool.true_or, vls, inf, frs, mark_eq, ↓reduceIte, Nat.reduceEqDiff, ite_tt, ite_ff, eq_self, and_true, true_and, and_self, implies_true, Bool.true_eq_false, Bool.false_eq_true, decide_true, decide_false, decide_eq_true_eq, decide_eq_false_iff_not, ne_eq, not_true_eq_false, not_false_eq_true, Bool.not_eq_true', Bool.not_eq_false', beq_self_eq_true, Bool.not_true, Bool.not_false, List.getElem?_toArray, List.getElem?_cons_zero, List.getElem?_cons_succ, pq32, pq24, pq4, pq2]
  refine (toSuite_c V34 _ _ (suiteS.mono l.ext h0) (by omega)).mono ?_
  rintro _ V38 ⟨f35, r36, rfl, o37, he, hfr, hnd⟩
  replace l := l.cons he (oc suiteO f35 _ _) o37 hfr hnd
  have hnr36 : r36.length = 2 := suiteS.len (suiteO_S o37)
  have hor36 : ∀ v ∈ r36, v.oneCell' = true := suiteS.one (suiteO_S o37)
  have pq32 : V38.part ⟨q32, 0, none⟩ 4 = some r27 := l.partn (i := 1) rfl hnr27 hor27
  have pq24 : V38.part ⟨q24, 0, none⟩ 2 = some r19 := l.partn (i := 3) rfl hnr19 hor19
  have pq4 : V38.part ⟨q4, 0, none⟩ 4 = some d1 := l.partn (i := 7) rfl hnd1 hod1
  have pq2 : V38.part ⟨q2, 0, none⟩ 2 = some d0 := l.partn (i := 8) rfl hnd0 hod0
  simp (disch := omega) only [↓stp, ↓pln, plv, nilOk, Nat.reduceBEq, Bool.or_false, Bool.or_true, Bool.false_or, Bool.true_or, vls, inf, frs, mark_eq, ↓reduceIte, Nat.reduceEqDiff, ite_tt, ite_ff, eq_self, and_true, true_and, and_self, implies_true, Bool.true_eq_false, Bool.false_eq_true, decide_true, decide_false, decide_eq_true_eq, decide_eq_false_iff_not, ne_eq, not_true_eq_false, not_false_eq_true, Bool.not_eq_true', Bool.not_eq_false', beq_self_eq_true, Bool.not_true, Bool.not_false, List.getElem?_toArray, List.getElem?_cons_zero, List.getElem?_cons_succ, pq32, pq24, pq4, pq2]
  refine (eqSuite_c V38 _ _ _ _ (suiteO_S (l.at (i := 4) rfl)) (suiteO_S (l.at (i := 0) rfl))).mono ?_
  rintro _ V40 ⟨rfl, he⟩
  replace l := l.step he
  have pq32 : V40.part ⟨q32, 0, none⟩ 4 = some r27 := l.partn (i := 1) rfl hnr27 hor27
  have pq24 : V40.part ⟨q24, 0, none⟩ 2 = some r19 := l.partn (i := 3) rfl hnr19 hor19
  have pq4 : V40.part ⟨q4, 0, none⟩ 4 = some d1 := l.partn (i := 7) rfl hnd1 hod1
  have pq2 : V40.part ⟨q2, 0, none⟩ 2 = some d0 := l.partn (i := 8) rfl hnd0 hod0
  simp (disch := omega) only [↓stp, ↓pln, plv, nilOk, Nat.reduceBEq, Bool.or_false, Bool.or_true, Bool.false_or, Bool.true_or, vls, inf, frs, mark_eq, ↓reduceIte, Nat.reduceEqDiff, ite_tt, ite_ff, eq_self, and_true, true_and, and_self, implies_true, Bool.true_eq_false, Bool.false_eq_true, decide_true, decide_false, decide_eq_true_eq, decide_eq_false_iff_not, ne_eq, not_true_eq_false, not_false_eq_true, Bool.not_eq_true', Bool.not_eq_false', beq_self_eq_true, Bool.not_true, Bool.not_false, List.getElem?_toArray, List.getElem?_cons_zero, List.getElem?_cons_succ, pq32, pq24, pq4, pq2]
  refine adraw_items [.l 0 true, .l 1 false, .c 2 [0], .c 3 [], .q 4] (by kernel_rfl) (by kernel_rfl) ?_
  have pq32 : V40.part ⟨q32, 0, none⟩ 4 = some r27 := l.partn (i := 1) rfl hnr27 hor27
  have pq24 : V40.part ⟨q24, 0, none⟩ 2 = some r19 := l.partn (i := 3) rfl hnr19 hor19
  have pq4 : V40.part ⟨q4, 0, none⟩ 4 = some d1 := l.partn (i := 7) rfl hnd1 hod1
  have pq2 : V40.part ⟨q2, 0, none⟩ 2 = some d0 := l.partn (i := 8) rfl hnd0 hod0
  simp (disch := omega) only [↓stp, ↓pln, plv, nilOk, Nat.reduceBEq, Bool.or_false, Bool.or_true, Bool.false_or, Bool.true_or, vls, inf, frs, mark_eq, ↓reduceIte, Nat.reduceEqDiff, ite_tt, ite_ff, eq_self, and_true, true_and, and_self, implies_true, Bool.true_eq_false, Bool.false_eq_true, decide_true, decide_false, decide_eq_true_eq, decide_eq_false_iff_not, ne_eq, not_true_eq_false, not_false_eq_true, Bool.not_eq_true', Bool.not_eq_false', beq_self_eq_true, Bool.not_true, Bool.not_false, List.getElem?_toArray, List.getElem?_cons_zero, List.getElem?_cons_succ, pq32, pq24, pq4, pq2]
  refine (toWorld_c V40 _ _ (worldS.mono l.ext h1) (by omega)).mono ?_
  rintro _ V44 ⟨f41, r42, rfl, o43, he, hfr, hnd⟩
  replace l := l.cons he (oc worldO f41 _ _) o43 hfr hnd
  have hnr42 : r42.length = 4 := worldS.len (worldO_S o43)
  have hor42 : ∀ v ∈ r42, v.oneCell' = true := worldS.one (worldO_S o43)
  have pq32 : V44.part ⟨q32, 0, none⟩ 4 = some r27 := l.partn (i := 2) rfl hnr27 hor27
  have pq24 : V44.part ⟨q24, 0, none⟩ 2 = some r19 := l.partn (i := 4) rfl hnr19 hor19
  have pq4 : V44.part ⟨q4, 0, none⟩ 4 = some d1 := l.partn (i := 8) rfl hnd1 hod1
  have pq2 : V44.part ⟨q2, 0, none⟩ 2 = some d0 := l.partn (i := 9) rfl hnd0 hod0
  simp (disch := omega) only [↓stp, ↓pln, plv, nilOk, Nat.reduceBEq, Bool.or_false, Bool.or_true, Bool.false_or, Bool.true_or, vls, inf, frs, mark_eq, ↓reduceIte, Nat.reduceEqDiff, ite_tt, ite_ff, eq_self, and_true, true_and, and_self, implies_true, Bool.true_eq_false, Bool.false_eq_true, decide_true, decide_false, decide_eq_true_eq, decide_eq_false_iff_not, ne_eq, not_true_eq_false, not_false_eq_true, Bool.not_eq_true', Bool.not_eq_false', beq_self_eq_true, Bool.not_true, Bool.not_false, List.getElem?_toArray, List.getElem?_cons_zero, List.getElem?_cons_succ, pq32, pq24, pq4, pq2]
  refine (eqWorld_c V44 _ _ _ _ (worldO_S (l.at (i := 3) rfl)) (worldO_S (l.at (i := 0) rfl))).mono ?_
  rintro _ V46 ⟨rfl, he⟩
  replace l := l.step he
  have pq32 : V46.part ⟨q32, 0, none⟩ 4 = some r27 := l.partn (i := 2) rfl hnr27 hor27
  have pq24 : V46.part ⟨q24, 0, none⟩ 2 = some r19 := l.partn (i := 4) rfl hnr19 hor19
  have pq4 : V46.part ⟨q4, 0, none⟩ 4 = some d1 := l.partn (i := 8) rfl hnd1 hod1
  have pq2 : V46.part ⟨q2, 0, none⟩ 2 = some d0 := l.partn (i := 9) rfl hnd0 hod0
  simp (disch := omega) only [↓stp, ↓pln, plv, nilOk, Nat.reduceBEq, Bool.or_false, Bool.or_true, Bool.false_or, Bool.true_or, vls, inf, frs, mark_eq, ↓reduceIte, Nat.reduceEqDiff, ite_tt, ite_ff, eq_self, and_true, true_and, and_self, implies_true, Bool.true_eq_false, Bool.false_eq_true, decide_true, decide_false, decide_eq_true_eq, decide_eq_false_iff_not, ne_eq, not_true_eq_false, not_false_eq_true, Bool.not_eq_true', Bool.not_eq_false', beq_self_eq_true, Bool.not_true, Bool.not_false, List.getElem?_toArray, List.getElem?_cons_zero, List.getElem?_cons_succ, pq32, pq24, pq4, pq2]

end Go.Proofs.Ytfhodofbccljmaa

