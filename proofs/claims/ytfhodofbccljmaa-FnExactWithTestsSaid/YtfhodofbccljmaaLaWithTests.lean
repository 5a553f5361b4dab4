/- The walk through the law FnExactWithTests. -/
import Derived.Test.YtfhodofbccljmaaGSuite
import Derived.Test.YtfhodofbccljmaaGTest
set_option maxHeartbeats 4000000
set_option synthInstance.maxHeartbeats 400000
set_option synthInstance.maxSize 4096
set_option linter.unusedSimpArgs false
set_option linter.unusedVariables false
namespace Go.Proofs.Ytfhodofbccljmaa

set_option maxRecDepth 100000

/-- The walk through the law, over what the two functions give back. -/
theorem walkFnExactWithTests (A : View) (d0 : List Value) (x0 : SuiteD) (v1 : Value) (x1 : List TestD) (h0 : suiteS.rel A x0 d0) (h1 : Sl testS A v1 x1) (R0 : SuiteD) (hR0 : suiteT.cnt R0 ≤ 1073741824) (R1 : Bool)
    (hspec : ∀ (B : View) (d0 : List Value) (v1 : Value) (h0 : suiteS.rel B x0 d0) (h1 : Sl testS B v1 x1), suiteT.w x0 ≤ 1048576 → x1.length + wL testT x1 ≤ 1048576 → ACalls Try.prog 40 #[.agg d0.toArray, v1] B fun r B' => ∃ (f0 : List Nat) (u0 : List Value), r = .tuple #[.agg u0.toArray, .bool R1] ∧ Led B [oc suiteO f0 R0 u0] B')
    (himpl : ∀ (B : View) (d0 : List Value) (v1 : Value) (h0 : suiteS.rel B x0 d0) (h1 : Sl testS B v1 x1), suiteT.w x0 ≤ 1048576 → x1.length + wL testT x1 ≤ 1048576 → ACalls Try.prog 42 #[.agg d0.toArray, v1] B fun r B' => ∃ (f0 : List Nat) (u0 : List Value), r = .tuple #[.agg u0.toArray, .bool R1] ∧ Led B [oc suiteO f0 R0 u0] B') :
    ACalls Try.prog 10 #[.agg d0.toArray, v1] A fun r _ => r = .bool true := by
  obtain ⟨a1, c1, rfl, _, _⟩ := h1.slice
  have l := Led.nil A
  refine acalls Try.func10 rfl (by kernel_rfl) ?_
  simp (disch := omega) only [↓stp, vls, inf, frs, mark_eq, ↓reduceIte, Nat.reduceEqDiff, ite_tt, ite_ff, eq_self, and_true, true_and, and_self, implies_true, Bool.true_eq_false, Bool.false_eq_true, decide_true, decide_false, decide_eq_true_eq, decide_eq_false_iff_not, ne_eq, not_true_eq_false, not_false_eq_true, Bool.not_eq_true', Bool.not_eq_false', beq_self_eq_true, Bool.not_true, Bool.not_false, List.getElem?_toArray, List.getElem?_cons_zero, List.getElem?_cons_succ]
  have hnd0 : d0.length = 2 := suiteS.len h0
  have hod0 : ∀ v ∈ d0, v.oneCell' = true := suiteS.one h0
  refine led_box l (List.all_eq_true.2 hod0) fun q2 V1 _ l => ?_
  have pq2 : V1.part ⟨q2, 0, none⟩ 2 = some d0 := l.partn (i := 0) rfl hnd0 hod0
  simp (disch := omega) only [↓stp, vls, inf, frs, mark_eq, ↓reduceIte, Nat.reduceEqDiff, ite_tt, ite_ff, eq_self, and_true, true_and, and_self, implies_true, Bool.true_eq_false, Bool.false_eq_true, decide_true, decide_false, decide_eq_true_eq, decide_eq_false_iff_not, ne_eq, not_true_eq_false, not_false_eq_true, Bool.not_eq_true', Bool.not_eq_false', beq_self_eq_true, Bool.not_true, Bool.not_false, List.getElem?_toArray, List.getElem?_cons_zero, List.getElem?_cons_succ, pq2]
  refine (szSuite_c V1 _ x0 1048576 (suiteS.mono l.ext h0) (by omega)).mono ?_
  rintro _ V3 ⟨⟨j0, rfl, hj0⟩, he⟩
  replace l := l.step he
  have pq2 : V3.part ⟨q2, 0, none⟩ 2 = some d0 := l.partn (i := 0) rfl hnd0 hod0
  simp (disch := omega) only [↓stp, vls, inf, frs, mark_eq, ↓reduceIte, Nat.reduceEqDiff, ite_tt, ite_ff, eq_self, and_true, true_and, and_self, implies_true, Bool.true_eq_false, Bool.false_eq_true, decide_true, decide_false, decide_eq_true_eq, decide_eq_false_iff_not, ne_eq, not_true_eq_false, not_false_eq_true, Bool.not_eq_true', Bool.not_eq_false', beq_self_eq_true, Bool.not_true, Bool.not_false, List.getElem?_toArray, List.getElem?_cons_zero, List.getElem?_cons_succ, pq2]
  refine ⟨fun e => ?_, fun e => ?_⟩
  · simp (disch := omega) only [↓stp, vls, inf, frs, mark_eq, ↓reduceIte, Nat.reduceEqDiff, ite_tt, ite_ff, eq_self, and_true, true_and, and_self, implies_true, Bool.true_eq_false, Bool.false_eq_true, decide_true, decide_false, decide_eq_true_eq, decide_eq_false_iff_not, ne_eq, not_true_eq_false, not_false_eq_true, Bool.not_eq_true', Bool.not_eq_false', beq_self_eq_true, Bool.not_true, Bool.not_false, List.getElem?_toArray, List.getElem?_cons_zero, List.getElem?_cons_succ]
  replace hj0 := hj0.resolve_left (by omega)
  have pq2 : V3.part ⟨q2, 0, none⟩ 2 = some d0 := l.partn (i := 0) rfl hnd0 hod0
  simp (disch := omega) only [↓stp, vls, inf, frs, mark_eq, ↓reduceIte, Nat.reduceEqDiff, ite_tt, ite_ff, eq_self, and_true, true_and, and_self, implies_true, Bool.true_eq_false, Bool.false_eq_true, decide_true, decide_false, decide_eq_true_eq, decide_eq_false_iff_not, ne_eq, not_true_eq_false, not_false_eq_true, Bool.not_eq_true', Bool.not_eq_false', beq_self_eq_true, Bool.not_true, Bool.not_false, List.getElem?_toArray, List.getElem?_cons_zero, List.getElem?_cons_succ, pq2]
  refine (szTestS_c V3 _ x1 j0 (h1.mono l.ext) (by omega)).mono ?_
  rintro _ V4 ⟨⟨j1, rfl, hj1⟩, he⟩
  replace l := l.step he
  have pq2 : V4.part ⟨q2, 0, none⟩ 2 = some d0 := l.partn (i := 0) rfl hnd0 hod0
  simp (disch := omega) only [↓stp, vls, inf, frs, mark_eq, ↓reduceIte, Nat.reduceEqDiff, ite_tt, ite_ff, eq_self, and_true, true_and, and_self, implies_true, Bool.true_eq_false, Bool.false_eq_true, decide_true, decide_false, decide_eq_true_eq, decide_eq_false_iff_not, ne_eq, not_true_eq_false, not_false_eq_true, Bool.not_eq_true', Bool.not_eq_false', beq_self_eq_true, Bool.not_true, Bool.not_false, List.getElem?_toArray, List.getElem?_cons_zero, List.getElem?_cons_succ, pq2]
  refine ⟨fun e => ?_, fun e => ?_⟩
  · simp (disch := omega) only [↓stp, vls, inf, frs, mark_eq, ↓reduceIte, Nat.reduceEqDiff, ite_tt, ite_ff, eq_self, and_true, true_and, and_self, implies_true, Bool.true_eq_false, Bool.false_eq_true, decide_true, decide_false, decide_eq_true_eq, decide_eq_false_iff_not, ne_eq, not_true_eq_false, not_false_eq_true, Bool.not_eq_true', Bool.not_eq_false', beq_self_eq_true, Bool.not_true, Bool.not_false, List.getElem?_toArray, List.getElem?_cons_zero, List.getElem?_cons_succ]
  replace hj1 := hj1.resolve_left (by omega)
  have pq2 : V4.part ⟨q2, 0, none⟩ 2 = some d0 := l.partn (i := 0) rfl hnd0 hod0
  simp (disch := omega) only [↓stp, vls, inf, frs, mark_eq, ↓reduceIte, Nat.reduceEqDiff, ite_tt, ite_ff, eq_self, and_true, true_and, and_self, implies_true, Bool.true_eq_false, Bool.false_eq_true, decide_true, decide_false, decide_eq_true_eq, decide_eq_false_iff_not, ne_eq, not_true_eq_false, not_false_eq_true, Bool.not_eq_true', Bool.not_eq_false', beq_self_eq_true, Bool.not_true, Bool.not_false, List.getElem?_toArray, List.getElem?_cons_zero, List.getElem?_cons_succ, pq2]
  have hc0 := suiteT_le x0
  have hc1 := testL_le x1
  refine (toSuite_c V4 _ _ (suiteS.mono l.ext h0) (by omega)).mono ?_
  rintro _ V8 ⟨f5, r6, rfl, o7, he, hfr, hnd⟩
  replace l := l.cons he (oc suiteO f5 _ _) o7 hfr hnd
  have hnr6 : r6.length = 2 := suiteS.len (suiteO_S o7)
  have hor6 : ∀ v ∈ r6, v.oneCell' = true := suiteS.one (suiteO_S o7)
  have pq2 : V8.part ⟨q2, 0, none⟩ 2 = some d0 := l.partn (i := 1) rfl hnd0 hod0
  simp (disch := omega) only [↓stp, vls, inf, frs, mark_eq, ↓reduceIte, Nat.reduceEqDiff, ite_tt, ite_ff, eq_self, and_true, true_and, and_self, implies_true, Bool.true_eq_false, Bool.false_eq_true, decide_true, decide_false, decide_eq_true_eq, decide_eq_false_iff_not, ne_eq, not_true_eq_false, not_false_eq_true, Bool.not_eq_true', Bool.not_eq_false', beq_self_eq_true, Bool.not_true, Bool.not_false, List.getElem?_toArray, List.getElem?_cons_zero, List.getElem?_cons_succ, pq2]
  refine (toTestS_c V8 _ _ (h1.mono l.ext) (by omega)).mono ?_
  rintro r11 V13 ⟨f10, o12, he, hfr, hnd⟩
  replace l := l.cons he (osl 76 testO f10 _ _) o12 hfr hnd
  have pq2 : V13.part ⟨q2, 0, none⟩ 2 = some d0 := l.partn (i := 2) rfl hnd0 hod0
  simp (disch := omega) only [↓stp, vls, inf, frs, mark_eq, ↓reduceIte, Nat.reduceEqDiff, ite_tt, ite_ff, eq_self, and_true, true_and, and_self, implies_true, Bool.true_eq_false, Bool.false_eq_true, decide_true, decide_false, decide_eq_true_eq, decide_eq_false_iff_not, ne_eq, not_true_eq_false, not_false_eq_true, Bool.not_eq_true', Bool.not_eq_false', beq_self_eq_true, Bool.not_true, Bool.not_false, List.getElem?_toArray, List.getElem?_cons_zero, List.getElem?_cons_succ, pq2]
  refine (hspec V13 r6 r11 (suiteO_S (l.at (i := 1) rfl)) (OSl.toS (l.at (i := 0) rfl)) (by omega) (by omega)).mono ?_
  rintro _ V15 ⟨f16, u17, rfl, l2⟩
  replace l := l.append l2
  have hnu17 : u17.length = 2 := suiteS.len (suiteO_S (l.at (i := 0) rfl))
  have hou17 : ∀ v ∈ u17, v.oneCell' = true := suiteS.one (suiteO_S (l.at (i := 0) rfl))
  have pq2 : V15.part ⟨q2, 0, none⟩ 2 = some d0 := l.partn (i := 3) rfl hnd0 hod0
  simp (disch := omega) only [↓stp, vls, inf, frs, mark_eq, ↓reduceIte, Nat.reduceEqDiff, ite_tt, ite_ff, eq_self, and_true, true_and, and_self, implies_true, Bool.true_eq_false, Bool.false_eq_true, decide_true, decide_false, decide_eq_true_eq, decide_eq_false_iff_not, ne_eq, not_true_eq_false, not_false_eq_true, Bool.not_eq_true', Bool.not_eq_false', beq_self_eq_true, Bool.not_true, Bool.not_false, List.getElem?_toArray, List.getElem?_cons_zero, List.getElem?_cons_succ, pq2]
  refine led_alloc zc30 l fun q20 V19 _ l => ?_
  have pq2 : V19.part ⟨q2, 0, none⟩ 2 = some d0 := l.partn (i := 4) rfl hnd0 hod0
  simp (disch := omega) only [↓stp, vls, inf, frs, mark_eq, ↓reduceIte, Nat.reduceEqDiff, ite_tt, ite_ff, eq_self, and_true, true_and, and_self, implies_true, Bool.true_eq_false, Bool.false_eq_true, decide_true, decide_false, decide_eq_true_eq, decide_eq_false_iff_not, ne_eq, not_true_eq_false, not_false_eq_true, Bool.not_eq_true', Bool.not_eq_false', beq_self_eq_true, Bool.not_true, Bool.not_false, List.getElem?_toArray, List.getElem?_cons_zero, List.getElem?_cons_succ, pq2]
  refine led_storeAll l 0 rfl sz30 hnu17 rfl hou17 fun V21 l => ?_
  have pq20 : V21.part ⟨q20, 0, none⟩ 2 = some u17 := l.partn (i := 0) rfl hnu17 hou17
  have pq2 : V21.part ⟨q2, 0, none⟩ 2 = some d0 := l.partn (i := 4) rfl hnd0 hod0
  simp (disch := omega) only [↓stp, vls, inf, frs, mark_eq, ↓reduceIte, Nat.reduceEqDiff, ite_tt, ite_ff, eq_self, and_true, true_and, and_self, implies_true, Bool.true_eq_false, Bool.false_eq_true, decide_true, decide_false, decide_eq_true_eq, decide_eq_false_iff_not, ne_eq, not_true_eq_false, not_false_eq_true, Bool.not_eq_true', Bool.not_eq_false', beq_self_eq_true, Bool.not_true, Bool.not_false, List.getElem?_toArray, List.getElem?_cons_zero, List.getElem?_cons_succ, pq20, pq2]
  refine (toSuite_c V21 _ _ (suiteS.mono l.ext h0) (by omega)).mono ?_
  rintro _ V25 ⟨f22, r23, rfl, o24, he, hfr, hnd⟩
  replace l := l.cons he (oc suiteO f22 _ _) o24 hfr hnd
  have hnr23 : r23.length = 2 := suiteS.len (suiteO_S o24)
  have hor23 : ∀ v ∈ r23, v.oneCell' = true := suiteS.one (suiteO_S o24)
  have pq20 : V25.part ⟨q20, 0, none⟩ 2 = some u17 := l.partn (i := 1) rfl hnu17 hou17
  have pq2 : V25.part ⟨q2, 0, none⟩ 2 = some d0 := l.partn (i := 5) rfl hnd0 hod0
  simp (disch := omega) only [↓stp, vls, inf, frs, mark_eq, ↓reduceIte, Nat.reduceEqDiff, ite_tt, ite_ff, eq_self, and_true, true_and, and_self, implies_true, Bool.true_eq_false, Bool.false_eq_true, decide_true, decide_false, decide_eq_true_eq, decide_eq_false_iff_not, ne_eq, not_true_eq_false, not_false_eq_true, Bool.not_eq_true', Bool.not_eq_false', beq_self_eq_true, Bool.not_true, Bool.not_false, List.getElem?_toArray, List.getElem?_cons_zero, List.getElem?_cons_succ, pq20, pq2]
  refine led_alloc zc30 l fun q28 V27 _ l => ?_
  have pq20 : V27.part ⟨q20, 0, none⟩ 2 = some u17 := l.partn (i := 2) rfl hnu17 hou17
  have pq2 : V27.part ⟨q2, 0, none⟩ 2 = some d0 := l.partn (i := 6) rfl hnd0 hod0
  simp (disch := omega) only [↓stp, vls, inf, frs, mark_eq, ↓reduceIte, Nat.reduceEqDiff, ite_tt, ite_ff, eq_self, and_true, true_and, and_self, implies_true, Bool.true_eq_false, Bool.false_eq_true, decide_true, decide_false, decide_eq_true_eq, decide_eq_false_iff_not, ne_eq, not_true_eq_false, not_false_eq_true, Bool.not_eq_true', Bool.not_eq_false', beq_self_eq_true, Bool.not_true, Bool.not_false, List.getElem?_toArray, List.getElem?_cons_zero, List.getElem?_cons_succ, pq20, pq2]
  refine led_storeAll l 0 rfl sz30 hnr23 rfl hor23 fun V29 l => ?_
  have pq28 : V29.part ⟨q28, 0, none⟩ 2 = some r23 := l.partn (i := 0) rfl hnr23 hor23
  have pq20 : V29.part ⟨q20, 0, none⟩ 2 = some u17 := l.partn (i := 2) rfl hnu17 hou17
  have pq2 : V29.part ⟨q2, 0, none⟩ 2 = some d0 := l.partn (i := 6) rfl hnd0 hod0
  simp (disch := omega) only [↓stp, vls, inf, frs, mark_eq, ↓reduceIte, Nat.reduceEqDiff, ite_tt, ite_ff, eq_self, and_true, true_and, and_self, implies_true, Bool.true_eq_false, Bool.false_eq_true, decide_true, decide_false, decide_eq_true_eq, decide_eq_false_iff_not, ne_eq, not_true_eq_false, not_false_eq_true, Bool.not_eq_true', Bool.not_eq_false', beq_self_eq_true, Bool.not_true, Bool.not_false, List.getElem?_toArray, List.getElem?_cons_zero, List.getElem?_cons_succ, pq28, pq20, pq2]
  refine (toTestS_c V29 _ _ (h1.mono l.ext) (by omega)).mono ?_
  rintro r31 V33 ⟨f30, o32, he, hfr, hnd⟩
  replace l := l.cons he (osl 76 testO f30 _ _) o32 hfr hnd
  have pq28 : V33.part ⟨q28, 0, none⟩ 2 = some r23 := l.partn (i := 1) rfl hnr23 hor23
  have pq20 : V33.part ⟨q20, 0, none⟩ 2 = some u17 := l.partn (i := 3) rfl hnu17 hou17
  have pq2 : V33.part ⟨q2, 0, none⟩ 2 = some d0 := l.partn (i := 7) rfl hnd0 hod0
  simp (disch := omega) only [↓stp, vls, inf, frs, mark_eq, ↓reduceIte, Nat.reduceEqDiff, ite_tt, ite_ff, eq_self, and_true, true_and, and_self, implies_true, Bool.true_eq_false, Bool.false_eq_true, decide_true, decide_false, decide_eq_true_eq, decide_eq_false_iff_not, ne_eq, not_true_eq_false, not_false_eq_true, Bool.not_eq_true', Bool.not_eq_false', beq_self_eq_true, Bool.not_true, Bool.not_false, List.getElem?_toArray, List.getElem?_cons_zero, List.getElem?_cons_succ, pq28, pq20, pq2]
  refine (himpl V33 r23 r31 (suiteO_S (l.at (i := 2) rfl)) (OSl.toS (l.at (i := 0) rfl)) (by omega) (by omega)).mono ?_
  rintro _ V35 ⟨f36, u37, rfl, l2⟩
  replace l := l.append l2
  have hnu37 : u37.length = 2 := suiteS.len (suiteO_S (l.at (i := 0) rfl))
  have hou37 : ∀ v ∈ u37, v.oneCell' = true := suiteS.one (suiteO_S (l.at (i := 0) rfl))
  have pq28 : V35.part ⟨q28, 0, none⟩ 2 = some r23 := l.partn (i := 2) rfl hnr23 hor23
  have pq20 : V35.part ⟨q20, 0, none⟩ 2 = some u17 := l.partn (i := 4) rfl hnu17 hou17
  have pq2 : V35.part ⟨q2, 0, none⟩ 2 = some d0 := l.partn (i := 8) rfl hnd0 hod0
  simp (disch := omega) only [↓stp, vls, inf, frs, mark_eq, ↓reduceIte, Nat.reduceEqDiff, ite_tt, ite_ff, eq_self, and_true, true_and, and_self, implies_true, Bool.true_eq_false, Bool.false_eq_true, decide_true, decide_false, decide_eq_true_eq, decide_eq_false_iff_not, ne_eq, not_true_eq_false, not_false_eq_true, Bool.not_eq_true', Bool.not_eq_false', beq_self_eq_true, Bool.not_true, Bool.not_false, List.getElem?_toArray, List.getElem?_cons_zero, List.getElem?_cons_succ, pq28, pq20, pq2]
  refine led_alloc zc30 l fun q40 V39 _ l => ?_
  have pq28 : V39.part ⟨q28, 0, none⟩ 2 = some r23 := l.partn (i := 3) rfl hnr23 hor23
  have pq20 : V39.part ⟨q20, 0, none⟩ 2 = some u17 := l.partn (i := 5) rfl hnu17 hou17
  have pq2 : V39.part ⟨q2, 0, none⟩ 2 = some d0 := l.partn (i := 9) rfl hnd0 hod0
  simp (disch := omega) only [↓stp, vls, inf, frs, mark_eq, ↓reduceIte, Nat.reduceEqDiff, ite_tt, ite_ff, eq_self, and_true, true_and, and_self, implies_true, Bool.true_eq_false, Bool.false_eq_true, decide_true, decide_false, decide_eq_true_eq, decide_eq_false_iff_not, ne_eq, not_true_eq_false, not_false_eq_true, Bool.not_eq_true', Bool.not_eq_false', beq_self_eq_true, Bool.not_true, Bool.not_false, List.getElem?_toArray, List.getElem?_cons_zero, List.getElem?_cons_succ, pq28, pq20, pq2]
  refine led_storeAll l 0 rfl sz30 hnu37 rfl hou37 fun V41 l => ?_
  have pq40 : V41.part ⟨q40, 0, none⟩ 2 = some u37 := l.partn (i := 0) rfl hnu37 hou37
  have pq28 : V41.part ⟨q28, 0, none⟩ 2 = some r23 := l.partn (i := 3) rfl hnr23 hor23
  have pq20 : V41.part ⟨q20, 0, none⟩ 2 = some u17 := l.partn (i := 5) rfl hnu17 hou17
  have pq2 : V41.part ⟨q2, 0, none⟩ 2 = some d0 := l.partn (i := 9) rfl hnd0 hod0
  simp (disch := omega) only [↓stp, vls, inf, frs, mark_eq, ↓reduceIte, Nat.reduceEqDiff, ite_tt, ite_ff, eq_self, and_true, true_and, and_self, implies_true, Bool.true_eq_false, Bool.false_eq_true, decide_true, decide_false, decide_eq_true_eq, decide_eq_false_iff_not, ne_eq, not_true_eq_false, not_false_eq_true, Bool.not_eq_true', Bool.not_eq_false', beq_self_eq_true, Bool.not_true, Bool.not_false, List.getElem?_toArray, List.getElem?_cons_zero, List.getElem?_cons_succ, pq40, pq28, pq20, pq2]
  refine (eqSuite_c V41 _ _ _ _ (suiteO_S (l.at (i := 1) rfl)) (suiteO_S (l.at (i := 6) rfl))).mono ?_
  rintro _ V42 ⟨rfl, he⟩
  replace l := l.step he
  have pq40 : V42.part ⟨q40, 0, none⟩ 2 = some u37 := l.partn (i := 0) rfl hnu37 hou37
  have pq28 : V42.part ⟨q28, 0, none⟩ 2 = some r23 := l.partn (i := 3) rfl hnr23 hor23
  have pq20 : V42.part ⟨q20, 0, none⟩ 2 = some u17 := l.partn (i := 5) rfl hnu17 hou17
  have pq2 : V42.part ⟨q2, 0, none⟩ 2 = some d0 := l.partn (i := 9) rfl hnd0 hod0
  simp (disch := omega) only [↓stp, vls, inf, frs, mark_eq, ↓reduceIte, Nat.reduceEqDiff, ite_tt, ite_ff, eq_self, and_true, true_and, and_self, implies_true, Bool.true_eq_false, Bool.false_eq_true, decide_true, decide_false, decide_eq_true_eq, decide_eq_false_iff_not, ne_eq, not_true_eq_false, not_false_eq_true, Bool.not_eq_true', Bool.not_eq_false', beq_self_eq_true, Bool.not_true, Bool.not_false, List.getElem?_toArray, List.getElem?_cons_zero, List.getElem?_cons_succ, pq40, pq28, pq20, pq2]
  refine adraw_items [.l 0 true, .l 1 false, .c 2 [0], .c 3 [], .q 4] (by kernel_rfl) (by kernel_rfl) ?_
  have pq40 : V42.part ⟨q40, 0, none⟩ 2 = some u37 := l.partn (i := 0) rfl hnu37 hou37
  have pq28 : V42.part ⟨q28, 0, none⟩ 2 = some r23 := l.partn (i := 3) rfl hnr23 hor23
  have pq20 : V42.part ⟨q20, 0, none⟩ 2 = some u17 := l.partn (i := 5) rfl hnu17 hou17
  have pq2 : V42.part ⟨q2, 0, none⟩ 2 = some d0 := l.partn (i := 9) rfl hnd0 hod0
  simp (disch := omega) only [↓stp, ↓pln, plv, nilOk, Nat.reduceBEq, Bool.or_false, Bool.or_true, Bool.false_or, Bool.true_or, vls, inf, frs, mark_eq, ↓reduceIte, Nat.reduceEqDiff, ite_tt, ite_ff, eq_self, and_true, true_and, and_self, implies_true, Bool.true_eq_false, Bool.false_eq_true, decide_true, decide_false, decide_eq_true_eq, decide_eq_false_iff_not, ne_eq, not_true_eq_false, not_false_eq_true, Bool.not_eq_true', Bool.not_eq_false', beq_self_eq_true, Bool.not_true, Bool.not_false, List.getElem?_toArray, List.getElem?_cons_zero, List.getElem?_cons_succ, pq40, pq28, pq20, pq2]
  refine (toSuite_c V42 _ _ (suiteS.mono l.ext h0) (by omega)).mono ?_
  rintro _ V46 ⟨f43, r44, rfl, o45, he, hfr, hnd⟩
  replace l := l.cons he (oc suiteO f43 _ _) o45 hfr hnd
  have hnr44 : r44.length = 2 := suiteS.len (suiteO_S o45)
  have hor44 : ∀ v ∈ r44, v.oneCell' = true := suiteS.one (suiteO_S o45)
  have pq40 : V46.part ⟨q40, 0, none⟩ 2 = some u37 := l.partn (i := 1) rfl hnu37 hou37
  have pq28 : V46.part ⟨q28, 0, none⟩ 2 = some r23 := l.partn (i := 4) rfl hnr23 hor23
  have pq20 : V46.part ⟨q20, 0, none⟩ 2 = some u17 := l.partn (i := 6) rfl hnu17 hou17
  have pq2 : V46.part ⟨q2, 0, none⟩ 2 = some d0 := l.partn (i := 10) rfl hnd0 hod0
  simp (disch := omega) only [↓stp, ↓pln, plv, nilOk, Nat.reduceBEq, Bool.or_false, Bool.or_true, Bool.false_or, Bool.true_or, vls, inf, frs, mark_eq, ↓reduceIte, Nat.reduceEqDiff, ite_tt, ite_ff, eq_self, and_true, true_and, and_self, implies_true, Bool.true_eq_false, Bool.false_eq_true, decide_true, decide_false, decide_eq_true_eq, decide_eq_false_iff_not, ne_eq, not_true_eq_false, not_false_eq_true, Bool.not_eq_true', Bool.not_eq_false', beq_self_eq_true, Bool.not_true, Bool.not_false, List.getElem?_toArray, List.getElem?_cons_zero, List.getElem?_cons_succ, pq40, pq28, pq20, pq2]
  refine (eqSuite_c V46 _ _ _ _ (suiteO_S (l.at (i := 5) rfl)) (suiteO_S (l.at (i := 0) rfl))).mono ?_
  rintro _ V48 ⟨rfl, he⟩
  replace l := l.step he
  have pq40 : V48.part ⟨q40, 0, none⟩ 2 = some u37 := l.partn (i := 1) rfl hnu37 hou37
  have pq28 : V48.part ⟨q28, 0, none⟩ 2 = some r23 := l.partn (i := 4) rfl hnr23 hor23
  have pq20 : V48.part ⟨q20, 0, none⟩ 2 = some u17 := l.partn (i := 6) rfl hnu17 hou17
  have pq2 : V48.part ⟨q2, 0, none⟩ 2 = some d0 := l.partn (i := 10) rfl hnd0 hod0
  simp (disch := omega) only [↓stp, ↓pln, plv, nilOk, Nat.reduceBEq, Bool.or_false, Bool.or_true, Bool.false_or, Bool.true_or, vls, inf, frs, mark_eq, ↓reduceIte, Nat.reduceEqDiff, ite_tt, ite_ff, eq_self, and_true, true_and, and_self, implies_true, Bool.true_eq_false, Bool.false_eq_true, decide_true, decide_false, decide_eq_true_eq, decide_eq_false_iff_not, ne_eq, not_true_eq_false, not_false_eq_true, Bool.not_eq_true', Bool.not_eq_false', beq_self_eq_true, Bool.not_true, Bool.not_false, List.getElem?_toArray, List.getElem?_cons_zero, List.getElem?_cons_succ, pq40, pq28, pq20, pq2]
  refine (toTestS_c V48 _ _ (h1.mono l.ext) (by omega)).mono ?_
  rintro r50 V52 ⟨f49, o51, he, hfr, hnd⟩
  replace l := l.cons he (osl 76 testO f49 _ _) o51 hfr hnd
  have pq40 : V52.part ⟨q40, 0, none⟩ 2 = some u37 := l.partn (i := 2) rfl hnu37 hou37
  have pq28 : V52.part ⟨q28, 0, none⟩ 2 = some r23 := l.partn (i := 5) rfl hnr23 hor23
  have pq20 : V52.part ⟨q20, 0, none⟩ 2 = some u17 := l.partn (i := 7) rfl hnu17 hou17
  have pq2 : V52.part ⟨q2, 0, none⟩ 2 = some d0 := l.partn (i := 11) rfl hnd0 hod0
  simp (disch := omega) only [↓stp, vls, inf, frs, mark_eq, ↓reduceIte, Nat.reduceEqDiff, ite_tt, ite_ff, eq_self, and_true, true_and, and_self, implies_true, Bool.true_eq_false, Bool.false_eq_true, decide_true, decide_false, decide_eq_true_eq, decide_eq_false_iff_not, ne_eq, not_true_eq_false, not_false_eq_true, Bool.not_eq_true', Bool.not_eq_false', beq_self_eq_true, Bool.not_true, Bool.not_false, List.getElem?_toArray, List.getElem?_cons_zero, List.getElem?_cons_succ, pq40, pq28, pq20, pq2]
  refine (eqTestS_c V52 _ _ _ _ (OSl.toS (l.at (i := 4) rfl)) (OSl.toS (l.at (i := 0) rfl))).mono ?_
  rintro _ V54 ⟨rfl, he⟩
  replace l := l.step he
  have pq40 : V54.part ⟨q40, 0, none⟩ 2 = some u37 := l.partn (i := 2) rfl hnu37 hou37
  have pq28 : V54.part ⟨q28, 0, none⟩ 2 = some r23 := l.partn (i := 5) rfl hnr23 hor23
  have pq20 : V54.part ⟨q20, 0, none⟩ 2 = some u17 := l.partn (i := 7) rfl hnu17 hou17
  have pq2 : V54.part ⟨q2, 0, none⟩ 2 = some d0 := l.partn (i := 11) rfl hnd0 hod0
  simp (disch := omega) only [↓stp, vls, inf, frs, mark_eq, ↓reduceIte, Nat.reduceEqDiff, ite_tt, ite_ff, eq_self, and_true, true_and, and_self, implies_true, Bool.true_eq_false, Bool.false_eq_true, decide_true, decide_false, decide_eq_true_eq, decide_eq_false_iff_not, ne_eq, not_true_eq_false, not_false_eq_true, Bool.not_eq_true', Bool.not_eq_false', beq_self_eq_true, Bool.not_true, Bool.not_false, List.getElem?_toArray, List.getElem?_cons_zero, List.getElem?_cons_succ, pq40, pq28, pq20, pq2]
  refine (markSuite_c V54 f22 _ x0 (1) (l.at (i := 6) rfl) (l.nodup1 (i := 6) rfl) (by omega) (by omega)).mono ?_
  rintro _ V55 ⟨rfl, o56, on⟩
  replace l := l.upd (i := 6) (it := oc suiteO f22 x0 r23) (jt := oc suiteO f22 (suiteT.mk (1) x0) r23) rfl rfl on o56
  have pq40 : V55.part ⟨q40, 0, none⟩ 2 = some u37 := l.partn (i := 2) rfl hnu37 hou37
  have pq28 : V55.part ⟨q28, 0, none⟩ 2 = some r23 := l.partn (i := 5) rfl hnr23 hor23
  have pq20 : V55.part ⟨q20, 0, none⟩ 2 = some u17 := l.partn (i := 7) rfl hnu17 hou17
  have pq2 : V55.part ⟨q2, 0, none⟩ 2 = some d0 := l.partn (i := 11) rfl hnd0 hod0
  simp (disch := omega) only [↓stp, vls, inf, frs, mark_eq, ↓reduceIte, Nat.reduceEqDiff, ite_tt, ite_ff, eq_self, and_true, true_and, and_self, implies_true, Bool.true_eq_false, Bool.false_eq_true, decide_true, decide_false, decide_eq_true_eq, decide_eq_false_iff_not, ne_eq, not_true_eq_false, not_false_eq_true, Bool.not_eq_true', Bool.not_eq_false', beq_self_eq_true, Bool.not_true, Bool.not_false, List.getElem?_toArray, List.getElem?_cons_zero, List.getElem?_cons_succ, pq40, pq28, pq20, pq2]
  refine (markTestS_c V55 f30 _ x1 (1 + suiteT.cnt x0) (l.at (i := 4) rfl) (l.nodup1 (i := 4) rfl) (by omega) (by omega)).mono ?_
  rintro _ V57 ⟨rfl, o58, on⟩
  replace l := l.upd (i := 4) (it := osl 76 testO f30 r31 x1) (jt := osl 76 testO f30 r31 (mkL testT (1 + suiteT.cnt x0) x1)) rfl rfl on o58
  have pq40 : V57.part ⟨q40, 0, none⟩ 2 = some u37 := l.partn (i := 2) rfl hnu37 hou37
  have pq28 : V57.part ⟨q28, 0, none⟩ 2 = some r23 := l.partn (i := 5) rfl hnr23 hor23
  have pq20 : V57.part ⟨q20, 0, none⟩ 2 = some u17 := l.partn (i := 7) rfl hnu17 hou17
  have pq2 : V57.part ⟨q2, 0, none⟩ 2 = some d0 := l.partn (i := 11) rfl hnd0 hod0
  simp (disch := omega) only [↓stp, vls, inf, frs, mark_eq, ↓reduceIte, Nat.reduceEqDiff, ite_tt, ite_ff, eq_self, and_true, true_and, and_self, implies_true, Bool.true_eq_false, Bool.false_eq_true, decide_true, decide_false, decide_eq_true_eq, decide_eq_false_iff_not, ne_eq, not_true_eq_false, not_false_eq_true, Bool.not_eq_true', Bool.not_eq_false', beq_self_eq_true, Bool.not_true, Bool.not_false, List.getElem?_toArray, List.getElem?_cons_zero, List.getElem?_cons_succ, pq40, pq28, pq20, pq2]
  refine ⟨fun e3 => ?_, fun e3 => by omega⟩
  have pq40 : V57.part ⟨q40, 0, none⟩ 2 = some u37 := l.partn (i := 2) rfl hnu37 hou37
  have pq28 : V57.part ⟨q28, 0, none⟩ 2 = some r23 := l.partn (i := 5) rfl hnr23 hor23
  have pq20 : V57.part ⟨q20, 0, none⟩ 2 = some u17 := l.partn (i := 7) rfl hnu17 hou17
  have pq2 : V57.part ⟨q2, 0, none⟩ 2 = some d0 := l.partn (i := 11) rfl hnd0 hod0
  simp (disch := omega) only [↓stp, vls, inf, frs, mark_eq, ↓reduceIte, Nat.reduceEqDiff, ite_tt, ite_ff, eq_self, and_true, true_and, and_self, implies_true, Bool.true_eq_false, Bool.false_eq_true, decide_true, decide_false, decide_eq_true_eq, decide_eq_false_iff_not, ne_eq, not_true_eq_false, not_false_eq_true, Bool.not_eq_true', Bool.not_eq_false', beq_self_eq_true, Bool.not_true, Bool.not_false, List.getElem?_toArray, List.getElem?_cons_zero, List.getElem?_cons_succ, pq40, pq28, pq20, pq2, e3]
  refine (eqSuite_c V57 _ _ _ _ (suiteO_S (l.at (i := 3) rfl)) (suiteO_S (l.at (i := 8) rfl))).mono ?_
  rintro _ V59 ⟨rfl, he⟩
  replace l := l.step he
  have pq40 : V59.part ⟨q40, 0, none⟩ 2 = some u37 := l.partn (i := 2) rfl hnu37 hou37
  have pq28 : V59.part ⟨q28, 0, none⟩ 2 = some r23 := l.partn (i := 5) rfl hnr23 hor23
  have pq20 : V59.part ⟨q20, 0, none⟩ 2 = some u17 := l.partn (i := 7) rfl hnu17 hou17
  have pq2 : V59.part ⟨q2, 0, none⟩ 2 = some d0 := l.partn (i := 11) rfl hnd0 hod0
  simp (disch := omega) only [↓stp, vls, inf, frs, mark_eq, ↓reduceIte, Nat.reduceEqDiff, ite_tt, ite_ff, eq_self, and_true, true_and, and_self, implies_true, Bool.true_eq_false, Bool.false_eq_true, decide_true, decide_false, decide_eq_true_eq, decide_eq_false_iff_not, ne_eq, not_true_eq_false, not_false_eq_true, Bool.not_eq_true', Bool.not_eq_false', beq_self_eq_true, Bool.not_true, Bool.not_false, List.getElem?_toArray, List.getElem?_cons_zero, List.getElem?_cons_succ, pq40, pq28, pq20, pq2, e3]
  refine (markSuite_c V59 f36 _ R0 (1) (l.at (i := 3) rfl) (l.nodup1 (i := 3) rfl) (by omega) (by omega)).mono ?_
  rintro _ V60 ⟨rfl, o61, on⟩
  replace l := l.upd (i := 3) (it := oc suiteO f36 R0 u37) (jt := oc suiteO f36 (suiteT.mk (1) R0) u37) rfl rfl on o61
  have pq40 : V60.part ⟨q40, 0, none⟩ 2 = some u37 := l.partn (i := 2) rfl hnu37 hou37
  have pq28 : V60.part ⟨q28, 0, none⟩ 2 = some r23 := l.partn (i := 5) rfl hnr23 hor23
  have pq20 : V60.part ⟨q20, 0, none⟩ 2 = some u17 := l.partn (i := 7) rfl hnu17 hou17
  have pq2 : V60.part ⟨q2, 0, none⟩ 2 = some d0 := l.partn (i := 11) rfl hnd0 hod0
  simp (disch := omega) only [↓stp, vls, inf, frs, mark_eq, ↓reduceIte, Nat.reduceEqDiff, ite_tt, ite_ff, eq_self, and_true, true_and, and_self, implies_true, Bool.true_eq_false, Bool.false_eq_true, decide_true, decide_false, decide_eq_true_eq, decide_eq_false_iff_not, ne_eq, not_true_eq_false, not_false_eq_true, Bool.not_eq_true', Bool.not_eq_false', beq_self_eq_true, Bool.not_true, Bool.not_false, List.getElem?_toArray, List.getElem?_cons_zero, List.getElem?_cons_succ, pq40, pq28, pq20, pq2]
  refine (heldSuite_c V60 _ R0 (1) (suiteO_S (l.at (i := 3) rfl)) (by omega) (by omega)).mono ?_
  rintro _ V62 ⟨rfl, he⟩
  replace l := l.step he
  have pq40 : V62.part ⟨q40, 0, none⟩ 2 = some u37 := l.partn (i := 2) rfl hnu37 hou37
  have pq28 : V62.part ⟨q28, 0, none⟩ 2 = some r23 := l.partn (i := 5) rfl hnr23 hor23
  have pq20 : V62.part ⟨q20, 0, none⟩ 2 = some u17 := l.partn (i := 7) rfl hnu17 hou17
  have pq2 : V62.part ⟨q2, 0, none⟩ 2 = some d0 := l.partn (i := 11) rfl hnd0 hod0
  simp (disch := omega) only [↓stp, vls, inf, frs, mark_eq, ↓reduceIte, Nat.reduceEqDiff, ite_tt, ite_ff, eq_self, and_true, true_and, and_self, implies_true, Bool.true_eq_false, Bool.false_eq_true, decide_true, decide_false, decide_eq_true_eq, decide_eq_false_iff_not, ne_eq, not_true_eq_false, not_false_eq_true, Bool.not_eq_true', Bool.not_eq_false', beq_self_eq_true, Bool.not_true, Bool.not_false, List.getElem?_toArray, List.getElem?_cons_zero, List.getElem?_cons_succ, pq40, pq28, pq20, pq2]
  refine ⟨fun e => by omega, fun e => ?_⟩
  have pq40 : V62.part ⟨q40, 0, none⟩ 2 = some u37 := l.partn (i := 2) rfl hnu37 hou37
  have pq28 : V62.part ⟨q28, 0, none⟩ 2 = some r23 := l.partn (i := 5) rfl hnr23 hor23
  have pq20 : V62.part ⟨q20, 0, none⟩ 2 = some u17 := l.partn (i := 7) rfl hnu17 hou17
  have pq2 : V62.part ⟨q2, 0, none⟩ 2 = some d0 := l.partn (i := 11) rfl hnd0 hod0
  simp (disch := omega) only [↓stp, vls, inf, frs, mark_eq, ↓reduceIte, Nat.reduceEqDiff, ite_tt, ite_ff, eq_self, and_true, true_and, and_self, implies_true, Bool.true_eq_false, Bool.false_eq_true, decide_true, decide_false, decide_eq_true_eq, decide_eq_false_iff_not, ne_eq, not_true_eq_false, not_false_eq_true, Bool.not_eq_true', Bool.not_eq_false', beq_self_eq_true, Bool.not_true, Bool.not_false, List.getElem?_toArray, List.getElem?_cons_zero, List.getElem?_cons_succ, pq40, pq28, pq20, pq2]
  refine (toSuite_c V62 _ _ (suiteS.mono l.ext h0) (by omega)).mono ?_
  rintro _ V66 ⟨f63, r64, rfl, o65, he, hfr, hnd⟩
  replace l := l.cons he (oc suiteO f63 _ _) o65 hfr hnd
  have hnr64 : r64.length = 2 := suiteS.len (suiteO_S o65)
  have hor64 : ∀ v ∈ r64, v.oneCell' = true := suiteS.one (suiteO_S o65)
  have pq40 : V66.part ⟨q40, 0, none⟩ 2 = some u37 := l.partn (i := 3) rfl hnu37 hou37
  have pq28 : V66.part ⟨q28, 0, none⟩ 2 = some r23 := l.partn (i := 6) rfl hnr23 hor23
  have pq20 : V66.part ⟨q20, 0, none⟩ 2 = some u17 := l.partn (i := 8) rfl hnu17 hou17
  have pq2 : V66.part ⟨q2, 0, none⟩ 2 = some d0 := l.partn (i := 12) rfl hnd0 hod0
  simp (disch := omega) only [↓stp, vls, inf, frs, mark_eq, ↓reduceIte, Nat.reduceEqDiff, ite_tt, ite_ff, eq_self, and_true, true_and, and_self, implies_true, Bool.true_eq_false, Bool.false_eq_true, decide_true, decide_false, decide_eq_true_eq, decide_eq_false_iff_not, ne_eq, not_true_eq_false, not_false_eq_true, Bool.not_eq_true', Bool.not_eq_false', beq_self_eq_true, Bool.not_true, Bool.not_false, List.getElem?_toArray, List.getElem?_cons_zero, List.getElem?_cons_succ, pq40, pq28, pq20, pq2]
  refine (toTestS_c V66 _ _ (h1.mono l.ext) (by omega)).mono ?_
  rintro r69 V71 ⟨f68, o70, he, hfr, hnd⟩
  replace l := l.cons he (osl 76 testO f68 _ _) o70 hfr hnd
  have pq40 : V71.part ⟨q40, 0, none⟩ 2 = some u37 := l.partn (i := 4) rfl hnu37 hou37
  have pq28 : V71.part ⟨q28, 0, none⟩ 2 = some r23 := l.partn (i := 7) rfl hnr23 hor23
  have pq20 : V71.part ⟨q20, 0, none⟩ 2 = some u17 := l.partn (i := 9) rfl hnu17 hou17
  have pq2 : V71.part ⟨q2, 0, none⟩ 2 = some d0 := l.partn (i := 13) rfl hnd0 hod0
  simp (disch := omega) only [↓stp, vls, inf, frs, mark_eq, ↓reduceIte, Nat.reduceEqDiff, ite_tt, ite_ff, eq_self, and_true, true_and, and_self, implies_true, Bool.true_eq_false, Bool.false_eq_true, decide_true, decide_false, decide_eq_true_eq, decide_eq_false_iff_not, ne_eq, not_true_eq_false, not_false_eq_true, Bool.not_eq_true', Bool.not_eq_false', beq_self_eq_true, Bool.not_true, Bool.not_false, List.getElem?_toArray, List.getElem?_cons_zero, List.getElem?_cons_succ, pq40, pq28, pq20, pq2]
  refine (himpl V71 r64 r69 (suiteO_S (l.at (i := 1) rfl)) (OSl.toS (l.at (i := 0) rfl)) (by omega) (by omega)).mono ?_
  rintro _ V73 ⟨f74, u75, rfl, l2⟩
  replace l := l.append l2
  have hnu75 : u75.length = 2 := suiteS.len (suiteO_S (l.at (i := 0) rfl))
  have hou75 : ∀ v ∈ u75, v.oneCell' = true := suiteS.one (suiteO_S (l.at (i := 0) rfl))
  have pq40 : V73.part ⟨q40, 0, none⟩ 2 = some u37 := l.partn (i := 5) rfl hnu37 hou37
  have pq28 : V73.part ⟨q28, 0, none⟩ 2 = some r23 := l.partn (i := 8) rfl hnr23 hor23
  have pq20 : V73.part ⟨q20, 0, none⟩ 2 = some u17 := l.partn (i := 10) rfl hnu17 hou17
  have pq2 : V73.part ⟨q2, 0, none⟩ 2 = some d0 := l.partn (i := 14) rfl hnd0 hod0
  simp (disch := omega) only [↓stp, vls, inf, frs, mark_eq, ↓reduceIte, Nat.reduceEqDiff, ite_tt, ite_ff, eq_self, and_true, true_and, and_self, implies_true, Bool.true_eq_false, Bool.false_eq_true, decide_true, decide_false, decide_eq_true_eq, decide_eq_false_iff_not, ne_eq, not_true_eq_false, not_false_eq_true, Bool.not_eq_true', Bool.not_eq_false', beq_self_eq_true, Bool.not_true, Bool.not_false, List.getElem?_toArray, List.getElem?_cons_zero, List.getElem?_cons_succ, pq40, pq28, pq20, pq2]
  refine led_alloc zc30 l fun q78 V77 _ l => ?_
  have pq40 : V77.part ⟨q40, 0, none⟩ 2 = some u37 := l.partn (i := 6) rfl hnu37 hou37
  have pq28 : V77.part ⟨q28, 0, none⟩ 2 = some r23 := l.partn (i := 9) rfl hnr23 hor23
  have pq20 : V77.part ⟨q20, 0, none⟩ 2 = some u17 := l.partn (i := 11) rfl hnu17 hou17
  have pq2 : V77.part ⟨q2, 0, none⟩ 2 = some d0 := l.partn (i := 15) rfl hnd0 hod0
  simp (disch := omega) only [↓stp, vls, inf, frs, mark_eq, ↓reduceIte, Nat.reduceEqDiff, ite_tt, ite_ff, eq_self, and_true, true_and, and_self, implies_true, Bool.true_eq_false, Bool.false_eq_true, decide_true, decide_false, decide_eq_true_eq, decide_eq_false_iff_not, ne_eq, not_true_eq_false, not_false_eq_true, Bool.not_eq_true', Bool.not_eq_false', beq_self_eq_true, Bool.not_true, Bool.not_false, List.getElem?_toArray, List.getElem?_cons_zero, List.getElem?_cons_succ, pq40, pq28, pq20, pq2]
  refine led_storeAll l 0 rfl sz30 hnu75 rfl hou75 fun V79 l => ?_
  have pq78 : V79.part ⟨q78, 0, none⟩ 2 = some u75 := l.partn (i := 0) rfl hnu75 hou75
  have pq40 : V79.part ⟨q40, 0, none⟩ 2 = some u37 := l.partn (i := 6) rfl hnu37 hou37
  have pq28 : V79.part ⟨q28, 0, none⟩ 2 = some r23 := l.partn (i := 9) rfl hnr23 hor23
  have pq20 : V79.part ⟨q20, 0, none⟩ 2 = some u17 := l.partn (i := 11) rfl hnu17 hou17
  have pq2 : V79.part ⟨q2, 0, none⟩ 2 = some d0 := l.partn (i := 15) rfl hnd0 hod0
  simp (disch := omega) only [↓stp, vls, inf, frs, mark_eq, ↓reduceIte, Nat.reduceEqDiff, ite_tt, ite_ff, eq_self, and_true, true_and, and_self, implies_true, Bool.true_eq_false, Bool.false_eq_true, decide_true, decide_false, decide_eq_true_eq, decide_eq_false_iff_not, ne_eq, not_true_eq_false, not_false_eq_true, Bool.not_eq_true', Bool.not_eq_false', beq_self_eq_true, Bool.not_true, Bool.not_false, List.getElem?_toArray, List.getElem?_cons_zero, List.getElem?_cons_succ, pq78, pq40, pq28, pq20, pq2]
  refine (eqSuite_c V79 _ _ _ _ (suiteO_S (l.at (i := 1) rfl)) (suiteO_S (l.at (i := 12) rfl))).mono ?_
  rintro _ V80 ⟨rfl, he⟩
  replace l := l.step he
  have pq78 : V80.part ⟨q78, 0, none⟩ 2 = some u75 := l.partn (i := 0) rfl hnu75 hou75
  have pq40 : V80.part ⟨q40, 0, none⟩ 2 = some u37 := l.partn (i := 6) rfl hnu37 hou37
  have pq28 : V80.part ⟨q28, 0, none⟩ 2 = some r23 := l.partn (i := 9) rfl hnr23 hor23
  have pq20 : V80.part ⟨q20, 0, none⟩ 2 = some u17 := l.partn (i := 11) rfl hnu17 hou17
  have pq2 : V80.part ⟨q2, 0, none⟩ 2 = some d0 := l.partn (i := 15) rfl hnd0 hod0
  simp (disch := omega) only [↓stp, vls, inf, frs, mark_eq, ↓reduceIte, Nat.reduceEqDiff, ite_tt, ite_ff, eq_self, and_true, true_and, and_self, implies_true, Bool.true_eq_false, Bool.false_eq_true, decide_true, decide_false, decide_eq_true_eq, decide_eq_false_iff_not, ne_eq, not_true_eq_false, not_false_eq_true, Bool.not_eq_true', Bool.not_eq_false', beq_self_eq_true, Bool.not_true, Bool.not_false, List.getElem?_toArray, List.getElem?_cons_zero, List.getElem?_cons_succ, pq78, pq40, pq28, pq20, pq2]
  refine (heldSuite_c V80 _ R0 (1) (suiteO_S (l.at (i := 7) rfl)) (by omega) (by omega)).mono ?_
  rintro _ V81 ⟨rfl, he⟩
  replace l := l.step he
  have pq78 : V81.part ⟨q78, 0, none⟩ 2 = some u75 := l.partn (i := 0) rfl hnu75 hou75
  have pq40 : V81.part ⟨q40, 0, none⟩ 2 = some u37 := l.partn (i := 6) rfl hnu37 hou37
  have pq28 : V81.part ⟨q28, 0, none⟩ 2 = some r23 := l.partn (i := 9) rfl hnr23 hor23
  have pq20 : V81.part ⟨q20, 0, none⟩ 2 = some u17 := l.partn (i := 11) rfl hnu17 hou17
  have pq2 : V81.part ⟨q2, 0, none⟩ 2 = some d0 := l.partn (i := 15) rfl hnd0 hod0
  simp (disch := omega) only [↓stp, vls, inf, frs, mark_eq, ↓reduceIte, Nat.reduceEqDiff, ite_tt, ite_ff, eq_self, and_true, true_and, and_self, implies_true, Bool.true_eq_false, Bool.false_eq_true, decide_true, decide_false, decide_eq_true_eq, decide_eq_false_iff_not, ne_eq, not_true_eq_false, not_false_eq_true, Bool.not_eq_true', Bool.not_eq_false', beq_self_eq_true, Bool.not_true, Bool.not_false, List.getElem?_toArray, List.getElem?_cons_zero, List.getElem?_cons_succ, pq78, pq40, pq28, pq20, pq2]
  refine ⟨fun e => by omega, fun e => ?_⟩
  have pq78 : V81.part ⟨q78, 0, none⟩ 2 = some u75 := l.partn (i := 0) rfl hnu75 hou75
  have pq40 : V81.part ⟨q40, 0, none⟩ 2 = some u37 := l.partn (i := 6) rfl hnu37 hou37
  have pq28 : V81.part ⟨q28, 0, none⟩ 2 = some r23 := l.partn (i := 9) rfl hnr23 hor23
  have pq20 : V81.part ⟨q20, 0, none⟩ 2 = some u17 := l.partn (i := 11) rfl hnu17 hou17
  have pq2 : V81.part ⟨q2, 0, none⟩ 2 = some d0 := l.partn (i := 15) rfl hnd0 hod0
  simp (disch := omega) only [↓stp, vls, inf, frs, mark_eq, ↓reduceIte, Nat.reduceEqDiff, ite_tt, ite_ff, eq_self, and_true, true_and, and_self, implies_true, Bool.true_eq_false, Bool.false_eq_true, decide_true, decide_false, decide_eq_true_eq, decide_eq_false_iff_not, ne_eq, not_true_eq_false, not_false_eq_true, Bool.not_eq_true', Bool.not_eq_false', beq_self_eq_true, Bool.not_true, Bool.not_false, List.getElem?_toArray, List.getElem?_cons_zero, List.getElem?_cons_succ, pq78, pq40, pq28, pq20, pq2]

end Go.Proofs.Ytfhodofbccljmaa

