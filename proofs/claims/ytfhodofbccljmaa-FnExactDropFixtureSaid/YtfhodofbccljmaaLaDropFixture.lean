/- The walk through the law FnExactDropFixture. -/
import Derived.Test.YtfhodofbccljmaaGSuite
set_option maxHeartbeats 4000000
set_option synthInstance.maxHeartbeats 400000
set_option synthInstance.maxSize 4096
set_option linter.unusedSimpArgs false
set_option linter.unusedVariables false
namespace Go.Proofs.Ytfhodofbccljmaa

set_option maxRecDepth 100000

/-- The walk through the law, over what the two functions give back. -/
theorem walkFnExactDropFixture (A : View) (d0 : List Value) (x0 : SuiteD) (x1 : ByteArray) (h0 : suiteS.rel A x0 d0) (h1 : x1.size ≤ 140737488355328) (R0 : SuiteD) (hR0 : suiteT.cnt R0 ≤ 1073741824) (R1 : Bool)
    (hspec : ∀ (B : View) (d0 : List Value) (h0 : suiteS.rel B x0 d0), suiteT.w x0 ≤ 1048576 → x1.size ≤ 1048576 → ACalls Try.prog 23 #[.agg d0.toArray, .string x1] B fun r B' => ∃ (f0 : List Nat) (u0 : List Value), r = .tuple #[.agg u0.toArray, .bool R1] ∧ Led B [oc suiteO f0 R0 u0] B')
    (himpl : ∀ (B : View) (d0 : List Value) (h0 : suiteS.rel B x0 d0), suiteT.w x0 ≤ 1048576 → x1.size ≤ 1048576 → ACalls Try.prog 24 #[.agg d0.toArray, .string x1] B fun r B' => ∃ (f0 : List Nat) (u0 : List Value), r = .tuple #[.agg u0.toArray, .bool R1] ∧ Led B [oc suiteO f0 R0 u0] B') :
    ACalls Try.prog 5 #[.agg d0.toArray, .string x1] A fun r _ => r = .bool true := by
  have l := Led.nil A
  refine acalls Try.func5 rfl (by kernel_rfl) ?_
  simp (disch := omega) only [↓stp, vls, inf, frs, mark_eq, ↓reduceIte, Nat.reduceEqDiff, ite_tt, ite_ff, eq_self, and_true, true_and, and_self, implies_true, Bool.true_eq_false, Bool.false_eq_true, decide_true, decide_false, decide_eq_true_eq, decide_eq_false_iff_not, ne_eq, not_true_eq_false, not_false_eq_true, Bool.not_eq_true', Bool.not_eq_false', beq_self_eq_true, Bool.not_true, Bool.not_false, List.getElem?_toArray, List.getElem?_cons_zero, List.getElem?_cons_succ]
  have hnd0 : d0.length = 2 := suiteS.len h0
  have hod0 : ∀ v ∈ d0, v.oneCell' = true := suiteS.one h0
  refine led_box l (List.all_eq_true.2 hod0) fun q2 V1 _ l => ?_
  have pq2 : V1.part ⟨q2, 0, none⟩ 2 = some d0 := l.partn (i := 0) rfl hnd0 hod0
  simp (disch := omega) only [↓stp, vls, inf, frs, mark_eq, ↓reduceIte, Nat.reduceEqDiff, ite_tt, ite_ff, eq_self, and_true, true_and, and_self, implies_true, Bool.true_eq_false, Bool.false_eq_true, decide_true, decide_false, decide_eq_true_eq, decide_eq_false_iff_not, ne_eq, not_true_eq_false, not_false_eq_true, Bool.not_eq_true', Bool.not_eq_false', beq_self_eq_true, Bool.not_true, Bool.not_false, List.getElem?_toArray, List.getElem?_cons_zero, List.getElem?_cons_succ, pq2]
  refine ⟨fun e => ?_, fun e => ?_⟩
  · simp (disch := omega) only [↓stp, vls, inf, frs, mark_eq, ↓reduceIte, Nat.reduceEqDiff, ite_tt, ite_ff, eq_self, and_true, true_and, and_self, implies_true, Bool.true_eq_false, Bool.false_eq_true, decide_true, decide_false, decide_eq_true_eq, decide_eq_false_iff_not, ne_eq, not_true_eq_false, not_false_eq_true, Bool.not_eq_true', Bool.not_eq_false', beq_self_eq_true, Bool.not_true, Bool.not_false, List.getElem?_toArray, List.getElem?_cons_zero, List.getElem?_cons_succ]
  have pq2 : V1.part ⟨q2, 0, none⟩ 2 = some d0 := l.partn (i := 0) rfl hnd0 hod0
  simp (disch := omega) only [↓stp, vls, inf, frs, mark_eq, ↓reduceIte, Nat.reduceEqDiff, ite_tt, ite_ff, eq_self, and_true, true_and, and_self, implies_true, Bool.true_eq_false, Bool.false_eq_true, decide_true, decide_false, decide_eq_true_eq, decide_eq_false_iff_not, ne_eq, not_true_eq_false, not_false_eq_true, Bool.not_eq_true', Bool.not_eq_false', beq_self_eq_true, Bool.not_true, Bool.not_false, List.getElem?_toArray, List.getElem?_cons_zero, List.getElem?_cons_succ, pq2]
  refine (szSuite_c V1 _ x0 1048576 (suiteS.mono l.ext h0) (by omega)).mono ?_
  rintro _ V3 ⟨⟨j0, rfl, hj0⟩, he⟩
  replace l := l.step he
  have pq2 : V3.part ⟨q2, 0, none⟩ 2 = some d0 := l.partn (i := 0) rfl hnd0 hod0
  simp (disch := omega) only [↓stp, vls, inf, frs, mark_eq, ↓reduceIte, Nat.reduceEqDiff, ite_tt, ite_ff, eq_self, and_true, true_and, and_self, implies_true, Bool.true_eq_false, Bool.false_eq_true, decide_true, decide_false, decide_eq_true_eq, decide_eq_false_iff_not, ne_eq, not_true_eq_false, not_false_eq_true, Bool.not_eq_true', Bool.not_eq_false', beq_self_eq_true, Bool.not_true, Bool.not_false, List.getElem?_toArray, List.getElem?_cons_zero, List.getElem?_cons_succ, pq2]
  refine ⟨fun e => ?_, fun e => ?_⟩
  · simp (disch := omega) only [↓stp, vls, inf, frs, mark_eq, ↓reduceIte, Nat.reduceEqDiff, ite_tt, ite_ff, eq_self, and_true, true_and, and_self, implies_true, Bool.true_eq_false, Bool.false_eq_true, decide_true, decide_false, decide_eq_true_eq, decide_eq_false_iff_not, ne_eq, not_true_eq_false, not_false_eq_true, Bool.not_eq_true', Bool.not_eq_false', beq_self_eq_true, Bool.not_true, Bool.not_false, List.getElem?_toArray, List.getElem?_cons_zero, List.getElem?_cons_succ]
  replace hj0 := hj0.resolve_left (by omega)
  have pq2 : V3.part ⟨q2, 0, none⟩ 2 = some d0 := l.partn (i := 0) rfl hnd0 hod0
  simp (disch := omega) only [↓stp, vls, inf, frs, mark_eq, ↓reduceIte, Nat.reduceEqDiff, ite_tt, ite_ff, eq_self, and_true, true_and, and_self, implies_true, Bool.true_eq_false, Bool.false_eq_true, decide_true, decide_false, decide_eq_true_eq, decide_eq_false_iff_not, ne_eq, not_true_eq_false, not_false_eq_true, Bool.not_eq_true', Bool.not_eq_false', beq_self_eq_true, Bool.not_true, Bool.not_false, List.getElem?_toArray, List.getElem?_cons_zero, List.getElem?_cons_succ, pq2]
  have hc0 := suiteT_le x0
  refine (toSuite_c V3 _ _ (suiteS.mono l.ext h0) (by omega)).mono ?_
  rintro _ V7 ⟨f4, r5, rfl, o6, he, hfr, hnd⟩
  replace l := l.cons he (oc suiteO f4 _ _) o6 hfr hnd
  have hnr5 : r5.length = 2 := suiteS.len (suiteO_S o6)
  have hor5 : ∀ v ∈ r5, v.oneCell' = true := suiteS.one (suiteO_S o6)
  have pq2 : V7.part ⟨q2, 0, none⟩ 2 = some d0 := l.partn (i := 1) rfl hnd0 hod0
  simp (disch := omega) only [↓stp, vls, inf, frs, mark_eq, ↓reduceIte, Nat.reduceEqDiff, ite_tt, ite_ff, eq_self, and_true, true_and, and_self, implies_true, Bool.true_eq_false, Bool.false_eq_true, decide_true, decide_false, decide_eq_true_eq, decide_eq_false_iff_not, ne_eq, not_true_eq_false, not_false_eq_true, Bool.not_eq_true', Bool.not_eq_false', beq_self_eq_true, Bool.not_true, Bool.not_false, List.getElem?_toArray, List.getElem?_cons_zero, List.getElem?_cons_succ, pq2]
  refine (hspec V7 r5 (suiteO_S (l.at (i := 0) rfl)) (by omega) (by omega)).mono ?_
  rintro _ V9 ⟨f10, u11, rfl, l2⟩
  replace l := l.append l2
  have hnu11 : u11.length = 2 := suiteS.len (suiteO_S (l.at (i := 0) rfl))
  have hou11 : ∀ v ∈ u11, v.oneCell' = true := suiteS.one (suiteO_S (l.at (i := 0) rfl))
  have pq2 : V9.part ⟨q2, 0, none⟩ 2 = some d0 := l.partn (i := 2) rfl hnd0 hod0
  simp (disch := omega) only [↓stp, vls, inf, frs, mark_eq, ↓reduceIte, Nat.reduceEqDiff, ite_tt, ite_ff, eq_self, and_true, true_and, and_self, implies_true, Bool.true_eq_false, Bool.false_eq_true, decide_true, decide_false, decide_eq_true_eq, decide_eq_false_iff_not, ne_eq, not_true_eq_false, not_false_eq_true, Bool.not_eq_true', Bool.not_eq_false', beq_self_eq_true, Bool.not_true, Bool.not_false, List.getElem?_toArray, List.getElem?_cons_zero, List.getElem?_cons_succ, pq2]
  refine led_alloc zc30 l fun q14 V13 _ l => ?_
  have pq2 : V13.part ⟨q2, 0, none⟩ 2 = some d0 := l.partn (i := 3) rfl hnd0 hod0
  simp (disch := omega) only [↓stp, vls, inf, frs, mark_eq, ↓reduceIte, Nat.reduceEqDiff, ite_tt, ite_ff, eq_self, and_true, true_and, and_self, implies_true, Bool.true_eq_false, Bool.false_eq_true, decide_true, decide_false, decide_eq_true_eq, decide_eq_false_iff_not, ne_eq, not_true_eq_false, not_false_eq_true, Bool.not_eq_true', Bool.not_eq_false', beq_self_eq_true, Bool.not_true, Bool.not_false, List.getElem?_toArray, List.getElem?_cons_zero, List.getElem?_cons_succ, pq2]
  refine led_storeAll l 0 rfl sz30 hnu11 rfl hou11 fun V15 l => ?_
  have pq14 : V15.part ⟨q14, 0, none⟩ 2 = some u11 := l.partn (i := 0) rfl hnu11 hou11
  have pq2 : V15.part ⟨q2, 0, none⟩ 2 = some d0 := l.partn (i := 3) rfl hnd0 hod0
  simp (disch := omega) only [↓stp, vls, inf, frs, mark_eq, ↓reduceIte, Nat.reduceEqDiff, ite_tt, ite_ff, eq_self, and_true, true_and, and_self, implies_true, Bool.true_eq_false, Bool.false_eq_true, decide_true, decide_false, decide_eq_true_eq, decide_eq_false_iff_not, ne_eq, not_true_eq_false, not_false_eq_true, Bool.not_eq_true', Bool.not_eq_false', beq_self_eq_true, Bool.not_true, Bool.not_false, List.getElem?_toArray, List.getElem?_cons_zero, List.getElem?_cons_succ, pq14, pq2]
  refine (toSuite_c V15 _ _ (suiteS.mono l.ext h0) (by omega)).mono ?_
  rintro _ V19 ⟨f16, r17, rfl, o18, he, hfr, hnd⟩
  replace l := l.cons he (oc suiteO f16 _ _) o18 hfr hnd
  have hnr17 : r17.length = 2 := suiteS.len (suiteO_S o18)
  have hor17 : ∀ v ∈ r17, v.oneCell' = true := suiteS.one (suiteO_S o18)
  have pq14 : V19.part ⟨q14, 0, none⟩ 2 = some u11 := l.partn (i := 1) rfl hnu11 hou11
  have pq2 : V19.part ⟨q2, 0, none⟩ 2 = some d0 := l.partn (i := 4) rfl hnd0 hod0
  simp (disch := omega) only [↓stp, vls, inf, frs, mark_eq, ↓reduceIte, Nat.reduceEqDiff, ite_tt, ite_ff, eq_self, and_true, true_and, and_self, implies_true, Bool.true_eq_false, Bool.false_eq_true, decide_true, decide_false, decide_eq_true_eq, decide_eq_false_iff_not, ne_eq, not_true_eq_false, not_false_eq_true, Bool.not_eq_true', Bool.not_eq_false', beq_self_eq_true, Bool.not_true, Bool.not_false, List.getElem?_toArray, List.getElem?_cons_zero, List.getElem?_cons_succ, pq14, pq2]
  refine led_alloc zc30 l fun q22 V21 _ l => ?_
  have pq14 : V21.part ⟨q14, 0, none⟩ 2 = some u11 := l.partn (i := 2) rfl hnu11 hou11
  have pq2 : V21.part ⟨q2, 0, none⟩ 2 = some d0 := l.partn (i := 5) rfl hnd0 hod0
  simp (disch := omega) only [↓stp, vls, inf, frs, mark_eq, ↓reduceIte, Nat.reduceEqDiff, ite_tt, ite_ff, eq_self, and_true, true_and, and_self, implies_true, Bool.true_eq_false, Bool.false_eq_true, decide_true, decide_false, decide_eq_true_eq, decide_eq_false_iff_not, ne_eq, not_true_eq_false, not_false_eq_true, Bool.not_eq_true', Bool.not_eq_false', beq_self_eq_true, Bool.not_true, Bool.not_false, List.getElem?_toArray, List.getElem?_cons_zero, List.getElem?_cons_succ, pq14, pq2]
  refine led_storeAll l 0 rfl sz30 hnr17 rfl hor17 fun V23 l => ?_
  have pq22 : V23.part ⟨q22, 0, none⟩ 2 = some r17 := l.partn (i := 0) rfl hnr17 hor17
  have pq14 : V23.part ⟨q14, 0, none⟩ 2 = some u11 := l.partn (i := 2) rfl hnu11 hou11
  have pq2 : V23.part ⟨q2, 0, none⟩ 2 = some d0 := l.partn (i := 5) rfl hnd0 hod0
  simp (disch := omega) only [↓stp, vls, inf, frs, mark_eq, ↓reduceIte, Nat.reduceEqDiff, ite_tt, ite_ff, eq_self, and_true, true_and, and_self, implies_true, Bool.true_eq_false, Bool.false_eq_true, decide_true, decide_false, decide_eq_true_eq, decide_eq_false_iff_not, ne_eq, not_true_eq_false, not_false_eq_true, Bool.not_eq_true', Bool.not_eq_false', beq_self_eq_true, Bool.not_true, Bool.not_false, List.getElem?_toArray, List.getElem?_cons_zero, List.getElem?_cons_succ, pq22, pq14, pq2]
  refine (himpl V23 r17 (suiteO_S (l.at (i := 1) rfl)) (by omega) (by omega)).mono ?_
  rintro _ V24 ⟨f25, u26, rfl, l2⟩
  replace l := l.append l2
  have hnu26 : u26.length = 2 := suiteS.len (suiteO_S (l.at (i := 0) rfl))
  have hou26 : ∀ v ∈ u26, v.oneCell' = true := suiteS.one (suiteO_S (l.at (i := 0) rfl))
  have pq22 : V24.part ⟨q22, 0, none⟩ 2 = some r17 := l.partn (i := 1) rfl hnr17 hor17
  have pq14 : V24.part ⟨q14, 0, none⟩ 2 = some u11 := l.partn (i := 3) rfl hnu11 hou11
  have pq2 : V24.part ⟨q2, 0, none⟩ 2 = some d0 := l.partn (i := 6) rfl hnd0 hod0
  simp (disch := omega) only [↓stp, vls, inf, frs, mark_eq, ↓reduceIte, Nat.reduceEqDiff, ite_tt, ite_ff, eq_self, and_true, true_and, and_self, implies_true, Bool.true_eq_false, Bool.false_eq_true, decide_true, decide_false, decide_eq_true_eq, decide_eq_false_iff_not, ne_eq, not_true_eq_false, not_false_eq_true, Bool.not_eq_true', Bool.not_eq_false', beq_self_eq_true, Bool.not_true, Bool.not_false, List.getElem?_toArray, List.getElem?_cons_zero, List.getElem?_cons_succ, pq22, pq14, pq2]
  refine led_alloc zc30 l fun q29 V28 _ l => ?_
  have pq22 : V28.part ⟨q22, 0, none⟩ 2 = some r17 := l.partn (i := 2) rfl hnr17 hor17
  have pq14 : V28.part ⟨q14, 0, none⟩ 2 = some u11 := l.partn (i := 4) rfl hnu11 hou11
  have pq2 : V28.part ⟨q2, 0, none⟩ 2 = some d0 := l.partn (i := 7) rfl hnd0 hod0
  simp (disch := omega) only [↓stp, vls, inf, frs, mark_eq, ↓reduceIte, Nat.reduceEqDiff, ite_tt, ite_ff, eq_self, and_true, true_and, and_self, implies_true, Bool.true_eq_false, Bool.false_eq_true, decide_true, decide_false, decide_eq_true_eq, decide_eq_false_iff_not, ne_eq, not_true_eq_false, not_false_eq_true, Bool.not_eq_true', Bool.not_eq_false', beq_self_eq_true, Bool.not_true, Bool.not_false, List.getElem?_toArray, List.getElem?_cons_zero, List.getElem?_cons_succ, pq22, pq14, pq2]
  refine led_storeAll l 0 rfl sz30 hnu26 rfl hou26 fun V30 l => ?_
  have pq29 : V30.part ⟨q29, 0, none⟩ 2 = some u26 := l.partn (i := 0) rfl hnu26 hou26
  have pq22 : V30.part ⟨q22, 0, none⟩ 2 = some r17 := l.partn (i := 2) rfl hnr17 hor17
  have pq14 : V30.part ⟨q14, 0, none⟩ 2 = some u11 := l.partn (i := 4) rfl hnu11 hou11
  have pq2 : V30.part ⟨q2, 0, none⟩ 2 = some d0 := l.partn (i := 7) rfl hnd0 hod0
  simp (disch := omega) only [↓stp, vls, inf, frs, mark_eq, ↓reduceIte, Nat.reduceEqDiff, ite_tt, ite_ff, eq_self, and_true, true_and, and_self, implies_true, Bool.true_eq_false, Bool.false_eq_true, decide_true, decide_false, decide_eq_true_eq, decide_eq_false_iff_not, ne_eq, not_true_eq_false, not_false_eq_true, Bool.not_eq_true', Bool.not_eq_false', beq_self_eq_true, Bool.not_true, Bool.not_false, List.getElem?_toArray, List.getElem?_cons_zero, List.getElem?_cons_succ, pq29, pq22, pq14, pq2]
  refine (eqSuite_c V30 _ _ _ _ (suiteO_S (l.at (i := 1) rfl)) (suiteO_S (l.at (i := 5) rfl))).mono ?_
  rintro _ V31 ⟨rfl, he⟩
  replace l := l.step he
  have pq29 : V31.part ⟨q29, 0, none⟩ 2 = some u26 := l.partn (i := 0) rfl hnu26 hou26
  have pq22 : V31.part ⟨q22, 0, none⟩ 2 = some r17 := l.partn (i := 2) rfl hnr17 hor17
  have pq14 : V31.part ⟨q14, 0, none⟩ 2 = some u11 := l.partn (i := 4) rfl hnu11 hou11
  have pq2 : V31.part ⟨q2, 0, none⟩ 2 = some d0 := l.partn (i := 7) rfl hnd0 hod0
  simp (disch := omega) only [↓stp, vls, inf, frs, mark_eq, ↓reduceIte, Nat.reduceEqDiff, ite_tt, ite_ff, eq_self, and_true, true_and, and_self, implies_true, Bool.true_eq_false, Bool.false_eq_true, decide_true, decide_false, decide_eq_true_eq, decide_eq_false_iff_not, ne_eq, not_true_eq_false, not_false_eq_true, Bool.not_eq_true', Bool.not_eq_false', beq_self_eq_true, Bool.not_true, Bool.not_false, List.getElem?_toArray, List.getElem?_cons_zero, List.getElem?_cons_succ, pq29, pq22, pq14, pq2]
  refine adraw_items [.l 0 true, .l 1 false, .c 2 [0], .c 3 [], .q 4] (by kernel_rfl) (by kernel_rfl) ?_
  have pq29 : V31.part ⟨q29, 0, none⟩ 2 = some u26 := l.partn (i := 0) rfl hnu26 hou26
  have pq22 : V31.part ⟨q22, 0, none⟩ 2 = some r17 := l.partn (i := 2) rfl hnr17 hor17
  have pq14 : V31.part ⟨q14, 0, none⟩ 2 = some u11 := l.partn (i := 4) rfl hnu11 hou11
  have pq2 : V31.part ⟨q2, 0, none⟩ 2 = some d0 := l.partn (i := 7) rfl hnd0 hod0
  simp (disch := omega) only [↓stp, ↓pln, plv, nilOk, Nat.reduceBEq, Bool.or_false, Bool.or_true, Bool.false_or, Bool.true_or, vls, inf, frs, mark_eq, ↓reduceIte, Nat.reduceEqDiff, ite_tt, ite_ff, eq_self, and_true, true_and, and_self, implies_true, Bool.true_eq_false, Bool.false_eq_true, decide_true, decide_false, decide_eq_true_eq, decide_eq_false_iff_not, ne_eq, not_true_eq_false, not_false_eq_true, Bool.not_eq_true', Bool.not_eq_false', beq_self_eq_true, Bool.not_true, Bool.not_false, List.getElem?_toArray, List.getElem?_cons_zero, List.getElem?_cons_succ, pq29, pq22, pq14, pq2]
  refine (toSuite_c V31 _ _ (suiteS.mono l.ext h0) (by omega)).mono ?_
  rintro _ V35 ⟨f32, r33, rfl, o34, he, hfr, hnd⟩
  replace l := l.cons he (oc suiteO f32 _ _) o34 hfr hnd
  have hnr33 : r33.length = 2 := suiteS.len (suiteO_S o34)
  have hor33 : ∀ v ∈ r33, v.oneCell' = true := suiteS.one (suiteO_S o34)
  have pq29 : V35.part ⟨q29, 0, none⟩ 2 = some u26 := l.partn (i := 1) rfl hnu26 hou26
  have pq22 : V35.part ⟨q22, 0, none⟩ 2 = some r17 := l.partn (i := 3) rfl hnr17 hor17
  have pq14 : V35.part ⟨q14, 0, none⟩ 2 = some u11 := l.partn (i := 5) rfl hnu11 hou11
  have pq2 : V35.part ⟨q2, 0, none⟩ 2 = some d0 := l.partn (i := 8) rfl hnd0 hod0
  simp (disch := omega) only [↓stp, ↓pln, plv, nilOk, Nat.reduceBEq, Bool.or_false, Bool.or_true, Bool.false_or, Bool.true_or, vls, inf, frs, mark_eq, ↓reduceIte, Nat.reduceEqDiff, ite_tt, ite_ff, eq_self, and_true, true_and, and_self, implies_true, Bool.true_eq_false, Bool.false_eq_true, decide_true, decide_false, decide_eq_true_eq, decide_eq_false_iff_not, ne_eq, not_true_eq_false, not_false_eq_true, Bool.not_eq_true', Bool.not_eq_false', beq_self_eq_true, Bool.not_true, Bool.not_false, List.getElem?_toArray, List.getElem?_cons_zero, List.getElem?_cons_succ, pq29, pq22, pq14, pq2]
  refine (eqSuite_c V35 _ _ _ _ (suiteO_S (l.at (i := 4) rfl)) (suiteO_S (l.at (i := 0) rfl))).mono ?_
  rintro _ V37 ⟨rfl, he⟩
  replace l := l.step he
  have pq29 : V37.part ⟨q29, 0, none⟩ 2 = some u26 := l.partn (i := 1) rfl hnu26 hou26
  have pq22 : V37.part ⟨q22, 0, none⟩ 2 = some r17 := l.partn (i := 3) rfl hnr17 hor17
  have pq14 : V37.part ⟨q14, 0, none⟩ 2 = some u11 := l.partn (i := 5) rfl hnu11 hou11
  have pq2 : V37.part ⟨q2, 0, none⟩ 2 = some d0 := l.partn (i := 8) rfl hnd0 hod0
  simp (disch := omega) only [↓stp, ↓pln, plv, nilOk, Nat.reduceBEq, Bool.or_false, Bool.or_true, Bool.false_or, Bool.true_or, vls, inf, frs, mark_eq, ↓reduceIte, Nat.reduceEqDiff, ite_tt, ite_ff, eq_self, and_true, true_and, and_self, implies_true, Bool.true_eq_false, Bool.false_eq_true, decide_true, decide_false, decide_eq_true_eq, decide_eq_false_iff_not, ne_eq, not_true_eq_false, not_false_eq_true, Bool.not_eq_true', Bool.not_eq_false', beq_self_eq_true, Bool.not_true, Bool.not_false, List.getElem?_toArray, List.getElem?_cons_zero, List.getElem?_cons_succ, pq29, pq22, pq14, pq2]
  refine (markSuite_c V37 f16 _ x0 (1) (l.at (i := 4) rfl) (l.nodup1 (i := 4) rfl) (by omega) (by omega)).mono ?_
  rintro _ V38 ⟨rfl, o39, on⟩
  replace l := l.upd (i := 4) (it := oc suiteO f16 x0 r17) (jt := oc suiteO f16 (suiteT.mk (1) x0) r17) rfl rfl on o39
  have pq29 : V38.part ⟨q29, 0, none⟩ 2 = some u26 := l.partn (i := 1) rfl hnu26 hou26
  have pq22 : V38.part ⟨q22, 0, none⟩ 2 = some r17 := l.partn (i := 3) rfl hnr17 hor17
  have pq14 : V38.part ⟨q14, 0, none⟩ 2 = some u11 := l.partn (i := 5) rfl hnu11 hou11
  have pq2 : V38.part ⟨q2, 0, none⟩ 2 = some d0 := l.partn (i := 8) rfl hnd0 hod0
  simp (disch := omega) only [↓stp, vls, inf, frs, mark_eq, ↓reduceIte, Nat.reduceEqDiff, ite_tt, ite_ff, eq_self, and_true, true_and, and_self, implies_true, Bool.true_eq_false, Bool.false_eq_true, decide_true, decide_false, decide_eq_true_eq, decide_eq_false_iff_not, ne_eq, not_true_eq_false, not_false_eq_true, Bool.not_eq_true', Bool.not_eq_false', beq_self_eq_true, Bool.not_true, Bool.not_false, List.getElem?_toArray, List.getElem?_cons_zero, List.getElem?_cons_succ, pq29, pq22, pq14, pq2]
  refine ⟨fun e3 => ?_, fun e3 => by omega⟩
  have pq29 : V38.part ⟨q29, 0, none⟩ 2 = some u26 := l.partn (i := 1) rfl hnu26 hou26
  have pq22 : V38.part ⟨q22, 0, none⟩ 2 = some r17 := l.partn (i := 3) rfl hnr17 hor17
  have pq14 : V38.part ⟨q14, 0, none⟩ 2 = some u11 := l.partn (i := 5) rfl hnu11 hou11
  have pq2 : V38.part ⟨q2, 0, none⟩ 2 = some d0 := l.partn (i := 8) rfl hnd0 hod0
  simp (disch := omega) only [↓stp, vls, inf, frs, mark_eq, ↓reduceIte, Nat.reduceEqDiff, ite_tt, ite_ff, eq_self, and_true, true_and, and_self, implies_true, Bool.true_eq_false, Bool.false_eq_true, decide_true, decide_false, decide_eq_true_eq, decide_eq_false_iff_not, ne_eq, not_true_eq_false, not_false_eq_true, Bool.not_eq_true', Bool.not_eq_false', beq_self_eq_true, Bool.not_true, Bool.not_false, List.getElem?_toArray, List.getElem?_cons_zero, List.getElem?_cons_succ, pq29, pq22, pq14, pq2, e3]
  refine (eqSuite_c V38 _ _ _ _ (suiteO_S (l.at (i := 2) rfl)) (suiteO_S (l.at (i := 6) rfl))).mono ?_
  rintro _ V40 ⟨rfl, he⟩
  replace l := l.step he
  have pq29 : V40.part ⟨q29, 0, none⟩ 2 = some u26 := l.partn (i := 1) rfl hnu26 hou26
  have pq22 : V40.part ⟨q22, 0, none⟩ 2 = some r17 := l.partn (i := 3) rfl hnr17 hor17
  have pq14 : V40.part ⟨q14, 0, none⟩ 2 = some u11 := l.partn (i := 5) rfl hnu11 hou11
  have pq2 : V40.part ⟨q2, 0, none⟩ 2 = some d0 := l.partn (i := 8) rfl hnd0 hod0
  simp (disch := omega) only [↓stp, vls, inf, frs, mark_eq, ↓reduceIte, Nat.reduceEqDiff, ite_tt, ite_ff, eq_self, and_true, true_and, and_self, implies_true, Bool.true_eq_false, Bool.false_eq_true, decide_true, decide_false, decide_eq_true_eq, decide_eq_false_iff_not, ne_eq, not_true_eq_false, not_false_eq_true, Bool.not_eq_true', Bool.not_eq_false', beq_self_eq_true, Bool.not_true, Bool.not_false, List.getElem?_toArray, List.getElem?_cons_zero, List.getElem?_cons_succ, pq29, pq22, pq14, pq2, e3]
  refine (markSuite_c V40 f25 _ R0 (1) (l.at (i := 2) rfl) (l.nodup1 (i := 2) rfl) (by omega) (by omega)).mono ?_
  rintro _ V41 ⟨rfl, o42, on⟩
  replace l := l.upd (i := 2) (it := oc suiteO f25 R0 u26) (jt := oc suiteO f25 (suiteT.mk (1) R0) u26) rfl rfl on o42
  have pq29 : V41.part ⟨q29, 0, none⟩ 2 = some u26 := l.partn (i := 1) rfl hnu26 hou26
  have pq22 : V41.part ⟨q22, 0, none⟩ 2 = some r17 := l.partn (i := 3) rfl hnr17 hor17
  have pq14 : V41.part ⟨q14, 0, none⟩ 2 = some u11 := l.partn (i := 5) rfl hnu11 hou11
  have pq2 : V41.part ⟨q2, 0, none⟩ 2 = some d0 := l.partn (i := 8) rfl hnd0 hod0
  simp (disch := omega) only [↓stp, vls, inf, frs, mark_eq, ↓reduceIte, Nat.reduceEqDiff, ite_tt, ite_ff, eq_self, and_true, true_and, and_self, implies_true, Bool.true_eq_false, Bool.false_eq_true, decide_true, decide_false, decide_eq_true_eq, decide_eq_false_iff_not, ne_eq, not_true_eq_false, not_false_eq_true, Bool.not_eq_true', Bool.not_eq_false', beq_self_eq_true, Bool.not_true, Bool.not_false, List.getElem?_toArray, List.getElem?_cons_zero, List.getElem?_cons_succ, pq29, pq22, pq14, pq2]
  refine (heldSuite_c V41 _ R0 (1) (suiteO_S (l.at (i := 2) rfl)) (by omega) (by omega)).mono ?_
  rintro _ V43 ⟨rfl, he⟩
  replace l := l.step he
  have pq29 : V43.part ⟨q29, 0, none⟩ 2 = some u26 := l.partn (i := 1) rfl hnu26 hou26
  have pq22 : V43.part ⟨q22, 0, none⟩ 2 = some r17 := l.partn (i := 3) rfl hnr17 hor17
  have pq14 : V43.part ⟨q14, 0, none⟩ 2 = some u11 := l.partn (i := 5) rfl hnu11 hou11
  have pq2 : V43.part ⟨q2, 0, none⟩ 2 = some d0 := l.partn (i := 8) rfl hnd0 hod0
  simp (disch := omega) only [↓stp, vls, inf, frs, mark_eq, ↓reduceIte, Nat.reduceEqDiff, ite_tt, ite_ff, eq_self, and_true, true_and, and_self, implies_true, Bool.true_eq_false, Bool.false_eq_true, decide_true, decide_false, decide_eq_true_eq, decide_eq_false_iff_not, ne_eq, not_true_eq_false, not_false_eq_true, Bool.not_eq_true', Bool.not_eq_false', beq_self_eq_true, Bool.not_true, Bool.not_false, List.getElem?_toArray, List.getElem?_cons_zero, List.getElem?_cons_succ, pq29, pq22, pq14, pq2]
  refine ⟨fun e => by omega, fun e => ?_⟩
  have pq29 : V43.part ⟨q29, 0, none⟩ 2 = some u26 := l.partn (i := 1) rfl hnu26 hou26
  have pq22 : V43.part ⟨q22, 0, none⟩ 2 = some r17 := l.partn (i := 3) rfl hnr17 hor17
  have pq14 : V43.part ⟨q14, 0, none⟩ 2 = some u11 := l.partn (i := 5) rfl hnu11 hou11
  have pq2 : V43.part ⟨q2, 0, none⟩ 2 = some d0 := l.partn (i := 8) rfl hnd0 hod0
  simp (disch := omega) only [↓stp, vls, inf, frs, mark_eq, ↓reduceIte, Nat.reduceEqDiff, ite_tt, ite_ff, eq_self, and_true, true_and, and_self, implies_true, Bool.true_eq_false, Bool.false_eq_true, decide_true, decide_false, decide_eq_true_eq, decide_eq_false_iff_not, ne_eq, not_true_eq_false, not_false_eq_true, Bool.not_eq_true', Bool.not_eq_false', beq_self_eq_true, Bool.not_true, Bool.not_false, List.getElem?_toArray, List.getElem?_cons_zero, List.getElem?_cons_succ, pq29, pq22, pq14, pq2]
  refine (toSuite_c V43 _ _ (suiteS.mono l.ext h0) (by omega)).mono ?_
  rintro _ V47 ⟨f44, r45, rfl, o46, he, hfr, hnd⟩
  replace l := l.cons he (oc suiteO f44 _ _) o46 hfr hnd
  have hnr45 : r45.length = 2 := suiteS.len (suiteO_S o46)
  have hor45 : ∀ v ∈ r45, v.oneCell' = true := suiteS.one (suiteO_S o46)
  have pq29 : V47.part ⟨q29, 0, none⟩ 2 = some u26 := l.partn (i := 2) rfl hnu26 hou26
  have pq22 : V47.part ⟨q22, 0, none⟩ 2 = some r17 := l.partn (i := 4) rfl hnr17 hor17
  have pq14 : V47.part ⟨q14, 0, none⟩ 2 = some u11 := l.partn (i := 6) rfl hnu11 hou11
  have pq2 : V47.part ⟨q2, 0, none⟩ 2 = some d0 := l.partn (i := 9) rfl hnd0 hod0
  simp (disch := omega) only [↓stp, vls, inf, frs, mark_eq, ↓reduceIte, Nat.reduceEqDiff, ite_tt, ite_ff, eq_self, and_true, true_and, and_self, implies_true, Bool.true_eq_false, Bool.false_eq_true, decide_true, decide_false, decide_eq_true_eq, decide_eq_false_iff_not, ne_eq, not_true_eq_false, not_false_eq_true, Bool.not_eq_true', Bool.not_eq_false', beq_self_eq_true, Bool.not_true, Bool.not_false, List.getElem?_toArray, List.getElem?_cons_zero, List.getElem?_cons_succ, pq29, pq22, pq14, pq2]
  refine (himpl V47 r45 (suiteO_S (l.at (i := 0) rfl)) (by omega) (by omega)).mono ?_
  rintro _ V49 ⟨f50, u51, rfl, l2⟩
  replace l := l.append l2
  have hnu51 : u51.length = 2 := suiteS.len (suiteO_S (l.at (i := 0) rfl))
  have hou51 : ∀ v ∈ u51, v.oneCell' = true := suiteS.one (suiteO_S (l.at (i := 0) rfl))
  have pq29 : V49.part ⟨q29, 0, none⟩ 2 = some u26 := l.partn (i := 3) rfl hnu26 hou26
  have pq22 : V49.part ⟨q22, 0, none⟩ 2 = some r17 := l.partn (i := 5) rfl hnr17 hor17
  have pq14 : V49.part ⟨q14, 0, none⟩ 2 = some u11 := l.partn (i := 7) rfl hnu11 hou11
  have pq2 : V49.part ⟨q2, 0, none⟩ 2 = some d0 := l.partn (i := 10) rfl hnd0 hod0
  simp (disch := omega) only [↓stp, vls, inf, frs, mark_eq, ↓reduceIte, Nat.reduceEqDiff, ite_tt, ite_ff, eq_self, and_true, true_and, and_self, implies_true, Bool.true_eq_false, Bool.false_eq_true, decide_true, decide_false, decide_eq_true_eq, decide_eq_false_iff_not, ne_eq, not_true_eq_false, not_false_eq_true, Bool.not_eq_true', Bool.not_eq_false', beq_self_eq_true, Bool.not_true, Bool.not_false, List.getElem?_toArray, List.getElem?_cons_zero, List.getElem?_cons_succ, pq29, pq22, pq14, pq2]
  refine led_alloc zc30 l fun q54 V53 _ l => ?_
  have pq29 : V53.part ⟨q29, 0, none⟩ 2 = some u26 := l.partn (i := 4) rfl hnu26 hou26
  have pq22 : V53.part ⟨q22, 0, none⟩ 2 = some r17 := l.partn (i := 6) rfl hnr17 hor17
  have pq14 : V53.part ⟨q14, 0, none⟩ 2 = some u11 := l.partn (i := 8) rfl hnu11 hou11
  have pq2 : V53.part ⟨q2, 0, none⟩ 2 = some d0 := l.partn (i := 11) rfl hnd0 hod0
  simp (disch := omega) only [↓stp, vls, inf, frs, mark_eq, ↓reduceIte, Nat.reduceEqDiff, ite_tt, ite_ff, eq_self, and_true, true_and, and_self, implies_true, Bool.true_eq_false, Bool.false_eq_true, decide_true, decide_false, decide_eq_true_eq, decide_eq_false_iff_not, ne_eq, not_true_eq_false, not_false_eq_true, Bool.not_eq_true', Bool.not_eq_false', beq_self_eq_true, Bool.not_true, Bool.not_false, List.getElem?_toArray, List.getElem?_cons_zero, List.getElem?_cons_succ, pq29, pq22, pq14, pq2]
  refine led_storeAll l 0 rfl sz30 hnu51 rfl hou51 fun V55 l => ?_
  have pq54 : V55.part ⟨q54, 0, none⟩ 2 = some u51 := l.partn (i := 0) rfl hnu51 hou51
  have pq29 : V55.part ⟨q29, 0, none⟩ 2 = some u26 := l.partn (i := 4) rfl hnu26 hou26
  have pq22 : V55.part ⟨q22, 0, none⟩ 2 = some r17 := l.partn (i := 6) rfl hnr17 hor17
  have pq14 : V55.part ⟨q14, 0, none⟩ 2 = some u11 := l.partn (i := 8) rfl hnu11 hou11
  have pq2 : V55.part ⟨q2, 0, none⟩ 2 = some d0 := l.partn (i := 11) rfl hnd0 hod0
  simp (disch := omega) only [↓stp, vls, inf, frs, mark_eq, ↓reduceIte, Nat.reduceEqDiff, ite_tt, ite_ff, eq_self, and_true, true_and, and_self, implies_true, Bool.true_eq_false, Bool.false_eq_true, decide_true, decide_false, decide_eq_true_eq, decide_eq_false_iff_not, ne_eq, not_true_eq_false, not_false_eq_true, Bool.not_eq_true', Bool.not_eq_false', beq_self_eq_true, Bool.not_true, Bool.not_false, List.getElem?_toArray, List.getElem?_cons_zero, List.getElem?_cons_succ, pq54, pq29, pq22, pq14, pq2]
  refine (eqSuite_c V55 _ _ _ _ (suiteO_S (l.at (i := 1) rfl)) (suiteO_S (l.at (i := 9) rfl))).mono ?_
  rintro _ V56 ⟨rfl, he⟩
  replace l := l.step he
  have pq54 : V56.part ⟨q54, 0, none⟩ 2 = some u51 := l.partn (i := 0) rfl hnu51 hou51
  have pq29 : V56.part ⟨q29, 0, none⟩ 2 = some u26 := l.partn (i := 4) rfl hnu26 hou26
  have pq22 : V56.part ⟨q22, 0, none⟩ 2 = some r17 := l.partn (i := 6) rfl hnr17 hor17
  have pq14 : V56.part ⟨q14, 0, none⟩ 2 = some u11 := l.partn (i := 8) rfl hnu11 hou11
  have pq2 : V56.part ⟨q2, 0, none⟩ 2 = some d0 := l.partn (i := 11) rfl hnd0 hod0
  simp (disch := omega) only [↓stp, vls, inf, frs, mark_eq, ↓reduceIte, Nat.reduceEqDiff, ite_tt, ite_ff, eq_self, and_true, true_and, and_self, implies_true, Bool.true_eq_false, Bool.false_eq_true, decide_true, decide_false, decide_eq_true_eq, decide_eq_false_iff_not, ne_eq, not_true_eq_false, not_false_eq_true, Bool.not_eq_true', Bool.not_eq_false', beq_self_eq_true, Bool.not_true, Bool.not_false, List.getElem?_toArray, List.getElem?_cons_zero, List.getElem?_cons_succ, pq54, pq29, pq22, pq14, pq2]
  refine (heldSuite_c V56 _ R0 (1) (suiteO_S (l.at (i := 5) rfl)) (by omega) (by omega)).mono ?_
  rintro _ V57 ⟨rfl, he⟩
  replace l := l.step he
  have pq54 : V57.part ⟨q54, 0, none⟩ 2 = some u51 := l.partn (i := 0) rfl hnu51 hou51
  have pq29 : V57.part ⟨q29, 0, none⟩ 2 = some u26 := l.partn (i := 4) rfl hnu26 hou26
  have pq22 : V57.part ⟨q22, 0, none⟩ 2 = some r17 := l.partn (i := 6) rfl hnr17 hor17
  have pq14 : V57.part ⟨q14, 0, none⟩ 2 = some u11 := l.partn (i := 8) rfl hnu11 hou11
  have pq2 : V57.part ⟨q2, 0, none⟩ 2 = some d0 := l.partn (i := 11) rfl hnd0 hod0
  simp (disch := omega) only [↓stp, vls, inf, frs, mark_eq, ↓reduceIte, Nat.reduceEqDiff, ite_tt, ite_ff, eq_self, and_true, true_and, and_self, implies_true, Bool.true_eq_false, Bool.false_eq_true, decide_true, decide_false, decide_eq_true_eq, decide_eq_false_iff_not, ne_eq, not_true_eq_false, not_false_eq_true, Bool.not_eq_true', Bool.not_eq_false', beq_self_eq_true, Bool.not_true, Bool.not_false, List.getElem?_toArray, List.getElem?_cons_zero, List.getElem?_cons_succ, pq54, pq29, pq22, pq14, pq2]
  refine ⟨fun e => by omega, fun e => ?_⟩
  have pq54 : V57.part ⟨q54, 0, none⟩ 2 = some u51 := l.partn (i := 0) rfl hnu51 hou51
  have pq29 : V57.part ⟨q29, 0, none⟩ 2 = some u26 := l.partn (i := 4) rfl hnu26 hou26
  have pq22 : V57.part ⟨q22, 0, none⟩ 2 = some r17 := l.partn (i := 6) rfl hnr17 hor17
  have pq14 : V57.part ⟨q14, 0, none⟩ 2 = some u11 := l.partn (i := 8) rfl hnu11 hou11
  have pq2 : V57.part ⟨q2, 0, none⟩ 2 = some d0 := l.partn (i := 11) rfl hnd0 hod0
  simp (disch := omega) only [↓stp, vls, inf, frs, mark_eq, ↓reduceIte, Nat.reduceEqDiff, ite_tt, ite_ff, eq_self, and_true, true_and, and_self, implies_true, Bool.true_eq_false, Bool.false_eq_true, decide_true, decide_false, decide_eq_true_eq, decide_eq_false_iff_not, ne_eq, not_true_eq_false, not_false_eq_true, Bool.not_eq_true', Bool.not_eq_false', beq_self_eq_true, Bool.not_true, Bool.not_false, List.getElem?_toArray, List.getElem?_cons_zero, List.getElem?_cons_succ, pq54, pq29, pq22, pq14, pq2]

end Go.Proofs.Ytfhodofbccljmaa

