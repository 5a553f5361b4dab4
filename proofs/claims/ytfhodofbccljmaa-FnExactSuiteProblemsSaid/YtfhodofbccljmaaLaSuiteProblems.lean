/- The walk through the law FnExactSuiteProblems. -/
import Derived.Test.YtfhodofbccljmaaGProblem
import Derived.Test.YtfhodofbccljmaaGSuite
set_option maxHeartbeats 4000000
set_option synthInstance.maxHeartbeats 400000
set_option synthInstance.maxSize 4096
set_option linter.unusedSimpArgs false
set_option linter.unusedVariables false
namespace Go.Proofs.Ytfhodofbccljmaa

set_option maxRecDepth 100000

/-- The walk through the law, over what the two functions give back. -/
theorem walkFnExactSuiteProblems (A : View) (d0 : List Value) (x0 : SuiteD) (h0 : suiteS.rel A x0 d0) (R0 : List ProblemD) (hR0 : cntL problemT R0 ≤ 1073741824)
    (hspec : ∀ (B : View) (d0 : List Value) (h0 : suiteS.rel B x0 d0), suiteT.w x0 ≤ 1048576 → ACalls Try.prog 34 #[.agg d0.toArray] B fun r B' => ∃ (f0 : List Nat) (u0 : Value), r = u0 ∧ Led B [osl 88 problemO f0 u0 R0] B')
    (himpl : ∀ (B : View) (d0 : List Value) (h0 : suiteS.rel B x0 d0), suiteT.w x0 ≤ 1048576 → ACalls Try.prog 35 #[.agg d0.toArray] B fun r B' => ∃ (f0 : List Nat) (u0 : Value), r = u0 ∧ Led B [osl 88 problemO f0 u0 R0] B') :
    ACalls Try.prog 9 #[.agg d0.toArray] A fun r _ => r = .bool true := by
  have l := Led.nil A
  refine acalls Try.func9 rfl (by kernel_rfl) ?_
  simp (disch := omega) only [↓stp, vls, inf, frs, mark_eq, ↓reduceIte, Nat.reduceEqDiff, ite_tt, ite_ff, eq_self, and_true, true_and, and_self, implies_true, Bool.true_eq_false, Bool.false_eq_true, decide_true, decide_false, decide_eq_true_eq, decide_eq_false_iff_not, ne_eq, not_true_eq_false, not_false_eq_true, Bool.not_eq_true', Bool.not_eq_false', beq_self_eq_true, Bool.not_true, Bool.not_false, List.getElem?_toArray, List.getElem?_cons_zero, List.getElem?_cons_succ]
  have hnd0 : d0.length = 2 := suiteS.len h0
  have hod0 : ∀ v ∈ d0, v.oneCell' = true := suiteS.one h0
  refine led_box l (List.all_eq_true.2 hod0) fun q2 V1 _ l => ?_
  have pq2 : V1.part ⟨q2, 0, none⟩ 2 = some d0 := l.partn (i := 0) rfl hnd0 hod0
  simp (disch := omega) only [↓stp, vls, inf, frs, mark_eq, ↓reduceIte, Nat.reduceEqDiff, ite_tt, ite_ff, eq_self, and_true, true_and, and_self, implies_true, Bool.true_eq_false, Bool.false_eq_true, decide_true, decide_false, decide_eq_true_eq, decide_eq_false_iff_not, ne_eq, not_true_eq_false, not_false_eq_true, Bool.not_eq_true', Bool.not_eq_false', beq_self_eq_true, Bool.not_true, Bool.not_false, List.getElem?_toArray, List.getElem?_cons_zero, List.getElem?_cons_succ, pq2]
  refine (szSuite_c V1 _ x0 1048576 (suiteS.mono l.ext h0) (by omega)).mono ?_
  rintro _ V3 ⟨⟨j0, rfl, hj0⟩, he⟩
  replace l := l.step he
  have pq2 : V3.part ⟨q2, 0, none⟩ 2 = some d0 := l.partn (i := 0) rfl hnd0 hod0
  simp (disch := omega) only [↓stp, vls, inf, frs, mark_eq, ↓reduceIte, Nat.reduceEqDiff, ite_tt, ite_ff, eq_self, and_true, true_and, and_self, implies_true, Bool.true_eq_false, Bool.false_eq_true, decide_true, decide_false, decide_eq_true_eq, decide_eq_false_iff_not, ne_eq, not_true_eq_false, not_false_eq_true, Bool.not_eq_true', Bool.not_eq_false', beq_self_eq_true, Bool.not_true, Bool.not_false, List.getElem?_toArray, List.getElem?_cons_zero, List.getElem?_cons_succ, pq2]
  refine ⟨fun e => ?_, fun e => ?_⟩
  · simp (disch := omega) only [↓stp, vls, inf, frs, mark_eq, ↓reduceIte, Nat.reduceEqDiff, ite_tt, ite_ff, eq_self, and_true, true_and, and_self, implies_true, Bool.true_eq_false, Bool.false_eq_true, decide_true, decide_false, decide_eq_true_eq, decide_eq_false_iff_not, ne_eq, not_true_eq_false, not_false_eq_true, Bool.not_eq_true', Bool.not_eq_false', beq_self_eq_true, Bool.not_true, Bool.not_false, List.getElem?_toArray, List.getElem?_cons_zero, List.getElem?_cons_succ]
  replace hj0 := hj0.resolve_left (by omega)
  have pq2 : V3.part ⟨q2, 0, none⟩ 2 = some d0 := l.partn (i := 0) rfl hnd0 hod0
  simp (disch := omega) only [↓stp, vls, inf, frs, mark_eq, ↓reduceIte, Nat.reduceEqDiff, ite_tt, ite_ff, eq_self, and_true, true_and, and_self, implies_true, Bool.true_eq_false, Bool.false_eq_true, decide_true, decide_false, decide_eq_true_eq, decide_eq_false_iff_not, ne_eq, not_true_eq_false, not_false_eq_true, Bool.not_eq_true', Bool.not_eq_false', beq_self_eq_true, Bool.not_true, Bool.not_false, List.getElem?_toArray, List.getElem?_cons_zero, List.getElem?_cons_succ, pq2]
  have hc0 := suiteT_le x0
  refine (toSuite_c V3 _ _ (suiteS.mono l.ext h0) (by omega)).mono ?_
  rintro _ V7 ⟨f4, r5, rfl, o6, he, hfr, hnd⟩
  replace l := l.cons he (oc suiteO f4 _ _) o6 hfr hnd
  have hnr5 : r5.length = 2 := suiteS.len (suiteO_S o6)
  have hor5 : ∀ v ∈ r5, v.oneCell' = true := suiteS.one (suiteO_S o6)
  have pq2 : V7.part ⟨q2, 0, none⟩ 2 = some d0 := l.partn (i := 1) rfl hnd0 hod0
  simp (disch := omega) only [↓stp, vls, inf, frs, mark_eq, ↓reduceIte, Nat.reduceEqDiff, ite_tt, ite_ff, eq_self, and_true, true_and, and_self, implies_true, Bool.true_eq_false, Bool.false_eq_true, decide_true, decide_false, decide_eq_true_eq, decide_eq_false_iff_not, ne_eq, not_true_eq_false, not_false_eq_true, Bool.not_eq_true', Bool.not_eq_false', beq_self_eq_true, Bool.not_true, Bool.not_false, List.getElem?_toArray, List.getElem?_cons_zero, List.getElem?_cons_succ, pq2]
  refine (hspec V7 r5 (suiteO_S (l.at (i := 0) rfl)) (by omega)).mono ?_
  rintro u11 V9 ⟨f10, _, rfl, l2⟩
  replace l := l.append l2
  have pq2 : V9.part ⟨q2, 0, none⟩ 2 = some d0 := l.partn (i := 2) rfl hnd0 hod0
  simp (disch := omega) only [↓stp, vls, inf, frs, mark_eq, ↓reduceIte, Nat.reduceEqDiff, ite_tt, ite_ff, eq_self, and_true, true_and, and_self, implies_true, Bool.true_eq_false, Bool.false_eq_true, decide_true, decide_false, decide_eq_true_eq, decide_eq_false_iff_not, ne_eq, not_true_eq_false, not_false_eq_true, Bool.not_eq_true', Bool.not_eq_false', beq_self_eq_true, Bool.not_true, Bool.not_false, List.getElem?_toArray, List.getElem?_cons_zero, List.getElem?_cons_succ, pq2]
  refine (toSuite_c V9 _ _ (suiteS.mono l.ext h0) (by omega)).mono ?_
  rintro _ V16 ⟨f13, r14, rfl, o15, he, hfr, hnd⟩
  replace l := l.cons he (oc suiteO f13 _ _) o15 hfr hnd
  have hnr14 : r14.length = 2 := suiteS.len (suiteO_S o15)
  have hor14 : ∀ v ∈ r14, v.oneCell' = true := suiteS.one (suiteO_S o15)
  have pq2 : V16.part ⟨q2, 0, none⟩ 2 = some d0 := l.partn (i := 3) rfl hnd0 hod0
  simp (disch := omega) only [↓stp, vls, inf, frs, mark_eq, ↓reduceIte, Nat.reduceEqDiff, ite_tt, ite_ff, eq_self, and_true, true_and, and_self, implies_true, Bool.true_eq_false, Bool.false_eq_true, decide_true, decide_false, decide_eq_true_eq, decide_eq_false_iff_not, ne_eq, not_true_eq_false, not_false_eq_true, Bool.not_eq_true', Bool.not_eq_false', beq_self_eq_true, Bool.not_true, Bool.not_false, List.getElem?_toArray, List.getElem?_cons_zero, List.getElem?_cons_succ, pq2]
  refine led_alloc zc30 l fun q19 V18 _ l => ?_
  have pq2 : V18.part ⟨q2, 0, none⟩ 2 = some d0 := l.partn (i := 4) rfl hnd0 hod0
  simp (disch := omega) only [↓stp, vls, inf, frs, mark_eq, ↓reduceIte, Nat.reduceEqDiff, ite_tt, ite_ff, eq_self, and_true, true_and, and_self, implies_true, Bool.true_eq_false, Bool.false_eq_true, decide_true, decide_false, decide_eq_true_eq, decide_eq_false_iff_not, ne_eq, not_true_eq_false, not_false_eq_true, Bool.not_eq_true', Bool.not_eq_false', beq_self_eq_true, Bool.not_true, Bool.not_false, List.getElem?_toArray, List.getElem?_cons_zero, List.getElem?_cons_succ, pq2]
  refine led_storeAll l 0 rfl sz30 hnr14 rfl hor14 fun V20 l => ?_
  have pq19 : V20.part ⟨q19, 0, none⟩ 2 = some r14 := l.partn (i := 0) rfl hnr14 hor14
  have pq2 : V20.part ⟨q2, 0, none⟩ 2 = some d0 := l.partn (i := 4) rfl hnd0 hod0
  simp (disch := omega) only [↓stp, vls, inf, frs, mark_eq, ↓reduceIte, Nat.reduceEqDiff, ite_tt, ite_ff, eq_self, and_true, true_and, and_self, implies_true, Bool.true_eq_false, Bool.false_eq_true, decide_true, decide_false, decide_eq_true_eq, decide_eq_false_iff_not, ne_eq, not_true_eq_false, not_false_eq_true, Bool.not_eq_true', Bool.not_eq_false', beq_self_eq_true, Bool.not_true, Bool.not_false, List.getElem?_toArray, List.getElem?_cons_zero, List.getElem?_cons_succ, pq19, pq2]
  refine (himpl V20 r14 (suiteO_S (l.at (i := 1) rfl)) (by omega)).mono ?_
  rintro u23 V21 ⟨f22, _, rfl, l2⟩
  replace l := l.append l2
  have pq19 : V21.part ⟨q19, 0, none⟩ 2 = some r14 := l.partn (i := 1) rfl hnr14 hor14
  have pq2 : V21.part ⟨q2, 0, none⟩ 2 = some d0 := l.partn (i := 5) rfl hnd0 hod0
  simp (disch := omega) only [↓stp, vls, inf, frs, mark_eq, ↓reduceIte, Nat.reduceEqDiff, ite_tt, ite_ff, eq_self, and_true, true_and, and_self, implies_true, Bool.true_eq_false, Bool.false_eq_true, decide_true, decide_false, decide_eq_true_eq, decide_eq_false_iff_not, ne_eq, not_true_eq_false, not_false_eq_true, Bool.not_eq_true', Bool.not_eq_false', beq_self_eq_true, Bool.not_true, Bool.not_false, List.getElem?_toArray, List.getElem?_cons_zero, List.getElem?_cons_succ, pq19, pq2]
  refine (eqProblemS_c V21 _ _ _ _ (OSl.toS (l.at (i := 0) rfl)) (OSl.toS (l.at (i := 3) rfl))).mono ?_
  rintro _ V25 ⟨rfl, he⟩
  replace l := l.step he
  have pq19 : V25.part ⟨q19, 0, none⟩ 2 = some r14 := l.partn (i := 1) rfl hnr14 hor14
  have pq2 : V25.part ⟨q2, 0, none⟩ 2 = some d0 := l.partn (i := 5) rfl hnd0 hod0
  simp (disch := omega) only [↓stp, vls, inf, frs, mark_eq, ↓reduceIte, Nat.reduceEqDiff, ite_tt, ite_ff, eq_self, and_true, true_and, and_self, implies_true, Bool.true_eq_false, Bool.false_eq_true, decide_true, decide_false, decide_eq_true_eq, decide_eq_false_iff_not, ne_eq, not_true_eq_false, not_false_eq_true, Bool.not_eq_true', Bool.not_eq_false', beq_self_eq_true, Bool.not_true, Bool.not_false, List.getElem?_toArray, List.getElem?_cons_zero, List.getElem?_cons_succ, pq19, pq2]
  refine adraw_items [.l 0 true, .l 1 false, .c 2 [0], .c 3 [], .q 4] (by kernel_rfl) (by kernel_rfl) ?_
  have pq19 : V25.part ⟨q19, 0, none⟩ 2 = some r14 := l.partn (i := 1) rfl hnr14 hor14
  have pq2 : V25.part ⟨q2, 0, none⟩ 2 = some d0 := l.partn (i := 5) rfl hnd0 hod0
  simp (disch := omega) only [↓stp, ↓pln, plv, nilOk, Nat.reduceBEq, Bool.or_false, Bool.or_true, Bool.false_or, Bool.true_or, vls, inf, frs, mark_eq, ↓reduceIte, Nat.reduceEqDiff, ite_tt, ite_ff, eq_self, and_true, true_and, and_self, implies_true, Bool.true_eq_false, Bool.false_eq_true, decide_true, decide_false, decide_eq_true_eq, decide_eq_false_iff_not, ne_eq, not_true_eq_false, not_false_eq_true, Bool.not_eq_true', Bool.not_eq_false', beq_self_eq_true, Bool.not_true, Bool.not_false, List.getElem?_toArray, List.getElem?_cons_zero, List.getElem?_cons_succ, pq19, pq2]
  refine (toSuite_c V25 _ _ (suiteS.mono l.ext h0) (by omega)).mono ?_
  rintro _ V29 ⟨f26, r27, rfl, o28, he, hfr, hnd⟩
  replace l := l.cons he (oc suiteO f26 _ _) o28 hfr hnd
  have hnr27 : r27.length = 2 := suiteS.len (suiteO_S o28)
  have hor27 : ∀ v ∈ r27, v.oneCell' = true := suiteS.one (suiteO_S o28)
  have pq19 : V29.part ⟨q19, 0, none⟩ 2 = some r14 := l.partn (i := 2) rfl hnr14 hor14
  have pq2 : V29.part ⟨q2, 0, none⟩ 2 = some d0 := l.partn (i := 6) rfl hnd0 hod0
  simp (disch := omega) only [↓stp, ↓pln, plv, nilOk, Nat.reduceBEq, Bool.or_false, Bool.or_true, Bool.false_or, Bool.true_or, vls, inf, frs, mark_eq, ↓reduceIte, Nat.reduceEqDiff, ite_tt, ite_ff, eq_self, and_true, true_and, and_self, implies_true, Bool.true_eq_false, Bool.false_eq_true, decide_true, decide_false, decide_eq_true_eq, decide_eq_false_iff_not, ne_eq, not_true_eq_false, not_false_eq_true, Bool.not_eq_true', Bool.not_eq_false', beq_self_eq_true, Bool.not_true, Bool.not_false, List.getElem?_toArray, List.getElem?_cons_zero, List.getElem?_cons_succ, pq19, pq2]
  refine (eqSuite_c V29 _ _ _ _ (suiteO_S (l.at (i := 3) rfl)) (suiteO_S (l.at (i := 0) rfl))).mono ?_
  rintro _ V31 ⟨rfl, he⟩
  replace l := l.step he
  have pq19 : V31.part ⟨q19, 0, none⟩ 2 = some r14 := l.partn (i := 2) rfl hnr14 hor14
  have pq2 : V31.part ⟨q2, 0, none⟩ 2 = some d0 := l.partn (i := 6) rfl hnd0 hod0
  simp (disch := omega) only [↓stp, ↓pln, plv, nilOk, Nat.reduceBEq, Bool.or_false, Bool.or_true, Bool.false_or, Bool.true_or, vls, inf, frs, mark_eq, ↓reduceIte, Nat.reduceEqDiff, ite_tt, ite_ff, eq_self, and_true, true_and, and_self, implies_true, Bool.true_eq_false, Bool.false_eq_true, decide_true, decide_false, decide_eq_true_eq, decide_eq_false_iff_not, ne_eq, not_true_eq_false, not_false_eq_true, Bool.not_eq_true', Bool.not_eq_false', beq_self_eq_true, Bool.not_true, Bool.not_false, List.getElem?_toArray, List.getElem?_cons_zero, List.getElem?_cons_succ, pq19, pq2]
  refine (markSuite_c V31 f13 _ x0 (1) (l.at (i := 3) rfl) (l.nodup1 (i := 3) rfl) (by omega) (by omega)).mono ?_
  rintro _ V32 ⟨rfl, o33, on⟩
  replace l := l.upd (i := 3) (it := oc suiteO f13 x0 r14) (jt := oc suiteO f13 (suiteT.mk (1) x0) r14) rfl rfl on o33
  have pq19 : V32.part ⟨q19, 0, none⟩ 2 = some r14 := l.partn (i := 2) rfl hnr14 hor14
  have pq2 : V32.part ⟨q2, 0, none⟩ 2 = some d0 := l.partn (i := 6) rfl hnd0 hod0
  simp (disch := omega) only [↓stp, vls, inf, frs, mark_eq, ↓reduceIte, Nat.reduceEqDiff, ite_tt, ite_ff, eq_self, and_true, true_and, and_self, implies_true, Bool.true_eq_false, Bool.false_eq_true, decide_true, decide_false, decide_eq_true_eq, decide_eq_false_iff_not, ne_eq, not_true_eq_false, not_false_eq_true, Bool.not_eq_true', Bool.not_eq_false', beq_self_eq_true, Bool.not_true, Bool.not_false, List.getElem?_toArray, List.getElem?_cons_zero, List.getElem?_cons_succ, pq19, pq2]
  refine ⟨fun e3 => ?_, fun e3 => by omega⟩
  have pq19 : V32.part ⟨q19, 0, none⟩ 2 = some r14 := l.partn (i := 2) rfl hnr14 hor14
  have pq2 : V32.part ⟨q2, 0, none⟩ 2 = some d0 := l.partn (i := 6) rfl hnd0 hod0
  simp (disch := omega) only [↓stp, vls, inf, frs, mark_eq, ↓reduceIte, Nat.reduceEqDiff, ite_tt, ite_ff, eq_self, and_true, true_and, and_self, implies_true, Bool.true_eq_false, Bool.false_eq_true, decide_true, decide_false, decide_eq_true_eq, decide_eq_false_iff_not, ne_eq, not_true_eq_false, not_false_eq_true, Bool.not_eq_true', Bool.not_eq_false', beq_self_eq_true, Bool.not_true, Bool.not_false, List.getElem?_toArray, List.getElem?_cons_zero, List.getElem?_cons_succ, pq19, pq2, e3]
  refine (eqProblemS_c V32 _ _ _ _ (OSl.toS (l.at (i := 1) rfl)) (OSl.toS (l.at (i := 4) rfl))).mono ?_
  rintro _ V34 ⟨rfl, he⟩
  replace l := l.step he
  have pq19 : V34.part ⟨q19, 0, none⟩ 2 = some r14 := l.partn (i := 2) rfl hnr14 hor14
  have pq2 : V34.part ⟨q2, 0, none⟩ 2 = some d0 := l.partn (i := 6) rfl hnd0 hod0
  simp (disch := omega) only [↓stp, vls, inf, frs, mark_eq, ↓reduceIte, Nat.reduceEqDiff, ite_tt, ite_ff, eq_self, and_true, true_and, and_self, implies_true, Bool.true_eq_false, Bool.false_eq_true, decide_true, decide_false, decide_eq_true_eq, decide_eq_false_iff_not, ne_eq, not_true_eq_false, not_false_eq_true, Bool.not_eq_true', Bool.not_eq_false', beq_self_eq_true, Bool.not_true, Bool.not_false, List.getElem?_toArray, List.getElem?_cons_zero, List.getElem?_cons_succ, pq19, pq2, e3]
  refine (markProblemS_c V34 f22 _ R0 (1) (l.at (i := 1) rfl) (l.nodup1 (i := 1) rfl) (by omega) (by omega)).mono ?_
  rintro _ V35 ⟨rfl, o36, on⟩
  replace l := l.upd (i := 1) (it := osl 88 problemO f22 u23 R0) (jt := osl 88 problemO f22 u23 (mkL problemT (1) R0)) rfl rfl on o36
  have pq19 : V35.part ⟨q19, 0, none⟩ 2 = some r14 := l.partn (i := 2) rfl hnr14 hor14
  have pq2 : V35.part ⟨q2, 0, none⟩ 2 = some d0 := l.partn (i := 6) rfl hnd0 hod0
  simp (disch := omega) only [↓stp, vls, inf, frs, mark_eq, ↓reduceIte, Nat.reduceEqDiff, ite_tt, ite_ff, eq_self, and_true, true_and, and_self, implies_true, Bool.true_eq_false, Bool.false_eq_true, decide_true, decide_false, decide_eq_true_eq, decide_eq_false_iff_not, ne_eq, not_true_eq_false, not_false_eq_true, Bool.not_eq_true', Bool.not_eq_false', beq_self_eq_true, Bool.not_true, Bool.not_false, List.getElem?_toArray, List.getElem?_cons_zero, List.getElem?_cons_succ, pq19, pq2]
  refine (heldProblemS_c V35 _ R0 (1) (OSl.toS (l.at (i := 1) rfl)) (by omega) (by omega)).mono ?_
  rintro _ V37 ⟨rfl, he⟩
  replace l := l.step he
  have pq19 : V37.part ⟨q19, 0, none⟩ 2 = some r14 := l.partn (i := 2) rfl hnr14 hor14
  have pq2 : V37.part ⟨q2, 0, none⟩ 2 = some d0 := l.partn (i := 6) rfl hnd0 hod0
  simp (disch := omega) only [↓stp, vls, inf, frs, mark_eq, ↓reduceIte, Nat.reduceEqDiff, ite_tt, ite_ff, eq_self, and_true, true_and, and_self, implies_true, Bool.true_eq_false, Bool.false_eq_true, decide_true, decide_false, decide_eq_true_eq, decide_eq_false_iff_not, ne_eq, not_true_eq_false, not_false_eq_true, Bool.not_eq_true', Bool.not_eq_false', beq_self_eq_true, Bool.not_true, Bool.not_false, List.getElem?_toArray, List.getElem?_cons_zero, List.getElem?_cons_succ, pq19, pq2]
  refine ⟨fun e => by omega, fun e => ?_⟩
  have pq19 : V37.part ⟨q19, 0, none⟩ 2 = some r14 := l.partn (i := 2) rfl hnr14 hor14
  have pq2 : V37.part ⟨q2, 0, none⟩ 2 = some d0 := l.partn (i := 6) rfl hnd0 hod0
  simp (disch := omega) only [↓stp, vls, inf, frs, mark_eq, ↓reduceIte, Nat.reduceEqDiff, ite_tt, ite_ff, eq_self, and_true, true_and, and_self, implies_true, Bool.true_eq_false, Bool.false_eq_true, decide_true, decide_false, decide_eq_true_eq, decide_eq_false_iff_not, ne_eq, not_true_eq_false, not_false_eq_true, Bool.not_eq_true', Bool.not_eq_false', beq_self_eq_true, Bool.not_true, Bool.not_false, List.getElem?_toArray, List.getElem?_cons_zero, List.getElem?_cons_succ, pq19, pq2]
  refine (toSuite_c V37 _ _ (suiteS.mono l.ext h0) (by omega)).mono ?_
  rintro _ V41 ⟨f38, r39, rfl, o40, he, hfr, hnd⟩
  replace l := l.cons he (oc suiteO f38 _ _) o40 hfr hnd
  have hnr39 : r39.length = 2 := suiteS.len (suiteO_S o40)
  have hor39 : ∀ v ∈ r39, v.oneCell' = true := suiteS.one (suiteO_S o40)
  have pq19 : V41.part ⟨q19, 0, none⟩ 2 = some r14 := l.partn (i := 3) rfl hnr14 hor14
  have pq2 : V41.part ⟨q2, 0, none⟩ 2 = some d0 := l.partn (i := 7) rfl hnd0 hod0
  simp (disch := omega) only [↓stp, vls, inf, frs, mark_eq, ↓reduceIte, Nat.reduceEqDiff, ite_tt, ite_ff, eq_self, and_true, true_and, and_self, implies_true, Bool.true_eq_false, Bool.false_eq_true, decide_true, decide_false, decide_eq_true_eq, decide_eq_false_iff_not, ne_eq, not_true_eq_false, not_false_eq_true, Bool.not_eq_true', Bool.not_eq_false', beq_self_eq_true, Bool.not_true, Bool.not_false, List.getElem?_toArray, List.getElem?_cons_zero, List.getElem?_cons_succ, pq19, pq2]
  refine (himpl V41 r39 (suiteO_S (l.at (i := 0) rfl)) (by omega)).mono ?_
  rintro u45 V43 ⟨f44, _, rfl, l2⟩
  replace l := l.append l2
  have pq19 : V43.part ⟨q19, 0, none⟩ 2 = some r14 := l.partn (i := 4) rfl hnr14 hor14
  have pq2 : V43.part ⟨q2, 0, none⟩ 2 = some d0 := l.partn (i := 8) rfl hnd0 hod0
  simp (disch := omega) only [↓stp, vls, inf, frs, mark_eq, ↓reduceIte, Nat.reduceEqDiff, ite_tt, ite_ff, eq_self, and_true, true_and, and_self, implies_true, Bool.true_eq_false, Bool.false_eq_true, decide_true, decide_false, decide_eq_true_eq, decide_eq_false_iff_not, ne_eq, not_true_eq_false, not_false_eq_true, Bool.not_eq_true', Bool.not_eq_false', beq_self_eq_true, Bool.not_true, Bool.not_false, List.getElem?_toArray, List.getElem?_cons_zero, List.getElem?_cons_succ, pq19, pq2]
  refine (eqProblemS_c V43 _ _ _ _ (OSl.toS (l.at (i := 0) rfl)) (OSl.toS (l.at (i := 6) rfl))).mono ?_
  rintro _ V47 ⟨rfl, he⟩
  replace l := l.step he
  have pq19 : V47.part ⟨q19, 0, none⟩ 2 = some r14 := l.partn (i := 4) rfl hnr14 hor14
  have pq2 : V47.part ⟨q2, 0, none⟩ 2 = some d0 := l.partn (i := 8) rfl hnd0 hod0
  simp (disch := omega) only [↓stp, vls, inf, frs, mark_eq, ↓reduceIte, Nat.reduceEqDiff, ite_tt, ite_ff, eq_self, and_true, true_and, and_self, implies_true, Bool.true_eq_false, Bool.false_eq_true, decide_true, decide_false, decide_eq_true_eq, decide_eq_false_iff_not, ne_eq, not_true_eq_false, not_false_eq_true, Bool.not_eq_true', Bool.not_eq_false', beq_self_eq_true, Bool.not_true, Bool.not_false, List.getElem?_toArray, List.getElem?_cons_zero, List.getElem?_cons_succ, pq19, pq2]
  refine (heldProblemS_c V47 _ R0 (1) (OSl.toS (l.at (i := 3) rfl)) (by omega) (by omega)).mono ?_
  rintro _ V48 ⟨rfl, he⟩
  replace l := l.step he
  have pq19 : V48.part ⟨q19, 0, none⟩ 2 = some r14 := l.partn (i := 4) rfl hnr14 hor14
  have pq2 : V48.part ⟨q2, 0, none⟩ 2 = some d0 := l.partn (i := 8) rfl hnd0 hod0
  simp (disch := omega) only [↓stp, vls, inf, frs, mark_eq, ↓reduceIte, Nat.reduceEqDiff, ite_tt, ite_ff, eq_self, and_true, true_and, and_self, implies_true, Bool.true_eq_false, Bool.false_eq_true, decide_true, decide_false, decide_eq_true_eq, decide_eq_false_iff_not, ne_eq, not_true_eq_false, not_false_eq_true, Bool.not_eq_true', Bool.not_eq_false', beq_self_eq_true, Bool.not_true, Bool.not_false, List.getElem?_toArray, List.getElem?_cons_zero, List.getElem?_cons_succ, pq19, pq2]
  refine ⟨fun e => by omega, fun e => ?_⟩
  have pq19 : V48.part ⟨q19, 0, none⟩ 2 = some r14 := l.partn (i := 4) rfl hnr14 hor14
  have pq2 : V48.part ⟨q2, 0, none⟩ 2 = some d0 := l.partn (i := 8) rfl hnd0 hod0
  simp (disch := omega) only [↓stp, vls, inf, frs, mark_eq, ↓reduceIte, Nat.reduceEqDiff, ite_tt, ite_ff, eq_self, and_true, true_and, and_self, implies_true, Bool.true_eq_false, Bool.false_eq_true, decide_true, decide_false, decide_eq_true_eq, decide_eq_false_iff_not, ne_eq, not_true_eq_false, not_false_eq_true, Bool.not_eq_true', Bool.not_eq_false', beq_self_eq_true, Bool.not_true, Bool.not_false, List.getElem?_toArray, List.getElem?_cons_zero, List.getElem?_cons_succ, pq19, pq2]

end Go.Proofs.Ytfhodofbccljmaa

