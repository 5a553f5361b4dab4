/- The law FnValidSuite. -/
import Derived.Test.YtjiioedohbbceaaZ7
import Derived.Test.YtjiioedohbbceaaW7
set_option maxHeartbeats 4000000
set_option synthInstance.maxHeartbeats 400000
set_option synthInstance.maxSize 4096
set_option linter.unusedSimpArgs false
set_option linter.unusedVariables false
namespace Go.Proofs.Ytjiioedohbbceaa

set_option maxRecDepth 100000

theorem testsB_take {ts : List TestD} (h : testsB ts = true) (k : Nat) : testsB (ts.take k) = true := by
  unfold testsB at h ⊢
  rw [Bool.and_eq_true, Bool.and_eq_true, List.all_eq_true, decide_eq_true_eq, decide_eq_true_eq] at h ⊢
  refine ⟨⟨fun t ht => h.1.1 t (List.mem_of_mem_take ht), ?_⟩, by rw [List.length_take]; omega⟩
  rw [List.map_take]
  exact (List.take_sublist ..).nodup h.1.2
theorem validB_take {x : SuiteD} (h : validB x = true) (k : Nat) : validB (x.1, x.2.1.take k, ()) = true := by
  have hp := (validB_parts h).2
  unfold validB formedB at h ⊢
  simp only [Bool.and_eq_true, decide_eq_true_eq] at h ⊢
  refine ⟨⟨h.1.1, testsB_take h.1.2 k⟩, ?_⟩
  rw [List.length_eq_zero_iff]
  unfold probR at hp ⊢
  rw [List.append_eq_nil_iff, List.flatMap_eq_nil_iff, List.flatMap_eq_nil_iff] at hp ⊢
  exact ⟨hp.1, fun t ht => hp.2 t (List.mem_of_mem_take ht)⟩

theorem law_FnValidSuite (A : View) (v0 : Value) (x0 : List UInt8) (h0 : Sl byteS A v0 x0) : ACalls Try.prog 5 #[v0] A fun r _ => r = .bool true := by
  obtain ⟨a, c, rfl, _, _⟩ := h0.slice
  refine acalls Try.func5 rfl (by kernel_rfl) ?_
  simp (disch := omega) only [↓stq, amv_at, vls, inf, frs, mark_eq, ↓reduceIte, Nat.reduceEqDiff, ite_tt, ite_ff, eq_self, and_true, true_and, and_self, implies_true, Bool.true_eq_false, Bool.false_eq_true, decide_true, decide_false, decide_eq_true_eq, decide_eq_false_iff_not, ne_eq, not_true_eq_false, not_false_eq_true, Bool.not_eq_true', Bool.not_eq_false', beq_self_eq_true, Bool.not_true, Bool.not_false, List.getElem?_toArray, List.getElem?_cons_zero, List.getElem?_cons_succ]
  refine ⟨fun e => ?_, fun e => ?_⟩ <;> simp (disch := omega) only [↓stq, amv_at, vls, inf, frs, mark_eq, ↓reduceIte, Nat.reduceEqDiff, ite_tt, ite_ff, eq_self, and_true, true_and, and_self, implies_true, Bool.true_eq_false, Bool.false_eq_true, decide_true, decide_false, decide_eq_true_eq, decide_eq_false_iff_not, ne_eq, not_true_eq_false, not_false_eq_true, Bool.not_eq_true', Bool.not_eq_false', beq_self_eq_true, Bool.not_true, Bool.not_false, List.getElem?_toArray, List.getElem?_cons_zero, List.getElem?_cons_succ]
  refine (DrawValidSuite_c A _ x0 h0).mono ?_
  rintro _ B ⟨fp, x, d, rfl, hg, lB⟩
  have hS : suiteS.rel B x d := suiteO_S (lB.at (i := 0) rfl)
  clear lB
  obtain ⟨u0, u1, rfl, g0, g1⟩ := suiteS_open hS
  obtain ⟨a0, c0, rfl, _, _⟩ := g0.slice
  obtain ⟨a1, c1, rfl, _, _⟩ := g1.slice
  have hl0 := hg.l0
  have hl1 := hg.l1
  simp (disch := omega) only [↓stq, amv_at, vls, inf, frs, mark_eq, ↓reduceIte, Nat.reduceEqDiff, ite_tt, ite_ff, eq_self, and_true, true_and, and_self, implies_true, Bool.true_eq_false, Bool.false_eq_true, decide_true, decide_false, decide_eq_true_eq, decide_eq_false_iff_not, ne_eq, not_true_eq_false, not_false_eq_true, Bool.not_eq_true', Bool.not_eq_false', beq_self_eq_true, Bool.not_true, Bool.not_false, List.getElem?_toArray, List.getElem?_cons_zero, List.getElem?_cons_succ]
  refine led_alloc zc26 (Led.nil B) fun q V _ l => ?_
  simp (disch := omega) only [↓stq, amv_at, vls, inf, frs, mark_eq, ↓reduceIte, Nat.reduceEqDiff, ite_tt, ite_ff, eq_self, and_true, true_and, and_self, implies_true, Bool.true_eq_false, Bool.false_eq_true, decide_true, decide_false, decide_eq_true_eq, decide_eq_false_iff_not, ne_eq, not_true_eq_false, not_false_eq_true, Bool.not_eq_true', Bool.not_eq_false', beq_self_eq_true, Bool.not_true, Bool.not_false, List.getElem?_toArray, List.getElem?_cons_zero, List.getElem?_cons_succ]
  refine led_storeAll l 0 rfl sz26 rfl rfl (by simp [Value.oneCell']) fun V l => ?_
  have kp : V.part ⟨q, 0, none⟩ 2 = some [.slice a0 x.1.length c0, .slice a1 x.2.1.length c1] := l.part (i := 0) rfl rfl
  simp (disch := omega) only [↓stq, amv_at, vls, inf, frs, mark_eq, ↓reduceIte, Nat.reduceEqDiff, ite_tt, ite_ff, eq_self, and_true, true_and, and_self, implies_true, Bool.true_eq_false, Bool.false_eq_true, decide_true, decide_false, decide_eq_true_eq, decide_eq_false_iff_not, ne_eq, not_true_eq_false, not_false_eq_true, Bool.not_eq_true', Bool.not_eq_false', beq_self_eq_true, Bool.not_true, Bool.not_false, List.getElem?_toArray, List.getElem?_cons_zero, List.getElem?_cons_succ, kp]
  refine (impl_validB_c V _ x (suiteS_mk (g0.mono l.ext) (g1.mono l.ext)) (by omega) (by omega)).mono ?_
  rintro _ V2 ⟨rfl, he2⟩
  replace l := l.step he2
  have kp := he2.part kp
  simp (disch := omega) only [↓stq, amv_at, vls, inf, frs, mark_eq, ↓reduceIte, Nat.reduceEqDiff, ite_tt, ite_ff, eq_self, and_true, true_and, and_self, implies_true, Bool.true_eq_false, Bool.false_eq_true, decide_true, decide_false, decide_eq_true_eq, decide_eq_false_iff_not, ne_eq, not_true_eq_false, not_false_eq_true, Bool.not_eq_true', Bool.not_eq_false', beq_self_eq_true, Bool.not_true, Bool.not_false, List.getElem?_toArray, List.getElem?_cons_zero, List.getElem?_cons_succ, kp]
  refine (spec_ValidSuite_c V2 _ x (suiteS_mk (g0.mono l.ext) (g1.mono l.ext))).mono ?_
  rintro _ V3 ⟨rfl, he3⟩
  replace l := l.step he3
  have kp := he3.part kp
  have hbb : (!(validB x == validB x)) = false := by simp
  simp (disch := omega) only [↓stq, amv_at, vls, inf, frs, mark_eq, ↓reduceIte, Nat.reduceEqDiff, ite_tt, ite_ff, eq_self, and_true, true_and, and_self, implies_true, Bool.true_eq_false, Bool.false_eq_true, decide_true, decide_false, decide_eq_true_eq, decide_eq_false_iff_not, ne_eq, not_true_eq_false, not_false_eq_true, Bool.not_eq_true', Bool.not_eq_false', beq_self_eq_true, Bool.not_true, Bool.not_false, List.getElem?_toArray, List.getElem?_cons_zero, List.getElem?_cons_succ, kp, hbb]
  refine ⟨fun e1 => ?_, fun e1 => ?_⟩ <;> simp (disch := omega) only [↓stq, amv_at, vls, inf, frs, mark_eq, ↓reduceIte, Nat.reduceEqDiff, ite_tt, ite_ff, eq_self, and_true, true_and, and_self, implies_true, Bool.true_eq_false, Bool.false_eq_true, decide_true, decide_false, decide_eq_true_eq, decide_eq_false_iff_not, ne_eq, not_true_eq_false, not_false_eq_true, Bool.not_eq_true', Bool.not_eq_false', beq_self_eq_true, Bool.not_true, Bool.not_false, List.getElem?_toArray, List.getElem?_cons_zero, List.getElem?_cons_succ, kp, e1]
  · refine (spec_ValidSuite_c V3 _ x (suiteS_mk (g0.mono l.ext) (g1.mono l.ext))).mono ?_
    rintro _ V4 ⟨rfl, he4⟩
    simp (disch := omega) only [↓stq, amv_at, vls, inf, frs, mark_eq, ↓reduceIte, Nat.reduceEqDiff, ite_tt, ite_ff, eq_self, and_true, true_and, and_self, implies_true, Bool.true_eq_false, Bool.false_eq_true, decide_true, decide_false, decide_eq_true_eq, decide_eq_false_iff_not, ne_eq, not_true_eq_false, not_false_eq_true, Bool.not_eq_true', Bool.not_eq_false', beq_self_eq_true, Bool.not_true, Bool.not_false, List.getElem?_toArray, List.getElem?_cons_zero, List.getElem?_cons_succ, e1]
  · refine (impl_WithTests_c V3 _ x _ [] (suiteS_mk (g0.mono l.ext) (g1.mono l.ext)) (Sl.nil _ _) (by omega) (by omega) (by simp)).mono ?_
    rintro _ V4 ⟨f4, u4, rfl, l4⟩
    have hv0 : validB (x.1, [], ()) = true := validB_take e1 0
    have hY : sel (validB x) (chk (x.1, [], ())) = (x.1, [], ()) := by
      unfold sel
      rw [if_pos e1, chk_of hv0]
    have hb : (validB x && validB (x.1, [], ())) = true := by rw [e1, hv0]; rfl
    rw [hY] at l4
    rw [hb]
    obtain ⟨ff0, uu0, ff1, uu1, rfl, rfl, o0, o1⟩ := suiteO_open (show suiteO.rel V4 f4 _ u4 from l4.at (i := 0) rfl)
    obtain ⟨a2, c2, rfl, _, _⟩ := o0.toS.slice
    obtain ⟨a3, c3, rfl, _, _⟩ := o1.toS.slice
    replace l := l.append l4
    simp (disch := omega) only [↓stq, amv_at, vls, inf, frs, mark_eq, ↓reduceIte, Nat.reduceEqDiff, ite_tt, ite_ff, eq_self, and_true, true_and, and_self, implies_true, Bool.true_eq_false, Bool.false_eq_true, decide_true, decide_false, decide_eq_true_eq, decide_eq_false_iff_not, ne_eq, not_true_eq_false, not_false_eq_true, Bool.not_eq_true', Bool.not_eq_false', beq_self_eq_true, Bool.not_true, Bool.not_false, List.getElem?_toArray, List.getElem?_cons_zero, List.getElem?_cons_succ]
    refine led_alloc zc26 l fun q5 V _ l => ?_
    simp (disch := omega) only [↓stq, amv_at, vls, inf, frs, mark_eq, ↓reduceIte, Nat.reduceEqDiff, ite_tt, ite_ff, eq_self, and_true, true_and, and_self, implies_true, Bool.true_eq_false, Bool.false_eq_true, decide_true, decide_false, decide_eq_true_eq, decide_eq_false_iff_not, ne_eq, not_true_eq_false, not_false_eq_true, Bool.not_eq_true', Bool.not_eq_false', beq_self_eq_true, Bool.not_true, Bool.not_false, List.getElem?_toArray, List.getElem?_cons_zero, List.getElem?_cons_succ]
    refine led_storeAll l 0 rfl sz26 rfl rfl (by simp [Value.oneCell']) fun V l => ?_
    have w0 := l.cell (i := 2) rfl (o := 0) rfl rfl
    have w1 := l.cell (i := 2) rfl (o := 1) rfl rfl
    have kp : V.part ⟨q, 0, none⟩ 2 = some [.slice a0 x.1.length c0, .slice a1 x.2.1.length c1] := l.part (i := 2) rfl rfl
    have kn : V.part ⟨q5, 0, none⟩ 2 = some [.slice a2 x.1.length c2, .slice a3 0 c3] := l.part (i := 0) rfl rfl
    simp (disch := omega) only [↓stq, amv_at, vls, inf, frs, mark_eq, ↓reduceIte, Nat.reduceEqDiff, ite_tt, ite_ff, eq_self, and_true, true_and, and_self, implies_true, Bool.true_eq_false, Bool.false_eq_true, decide_true, decide_false, decide_eq_true_eq, decide_eq_false_iff_not, ne_eq, not_true_eq_false, not_false_eq_true, Bool.not_eq_true', Bool.not_eq_false', beq_self_eq_true, Bool.not_true, Bool.not_false, List.getElem?_toArray, List.getElem?_cons_zero, List.getElem?_cons_succ, add_at, w1]
    refine adraw_itemsF [.q 0, .q 1, .l 2 false, .c 3 [], .q 4, .q 5, .q 6, .q 7, .q 8, .q 9, .l 10 false, .q 11, .l 12 false, .q 13, .q 14, .q 15, .q 16, .c 17 [], .q 18, .q 19, .q 20, .l 21 false, .c 22 [], .q 23, .q 24, .q 25, .q 26] (by kernel_rfl) (by kernel_rfl) ?_
    simp (disch := omega) only [↓stq, amv_at, ↓pln, plv, nilOk, Nat.reduceBEq, Bool.or_false, Bool.or_true, Bool.false_or, Bool.true_or, vls, inf, frs, mark_eq, ↓reduceIte, Nat.reduceEqDiff, ite_tt, ite_ff, eq_self, and_true, true_and, and_self, implies_true, Bool.true_eq_false, Bool.false_eq_true, decide_true, decide_false, decide_eq_true_eq, decide_eq_false_iff_not, ne_eq, not_true_eq_false, not_false_eq_true, Bool.not_eq_true', Bool.not_eq_false', beq_self_eq_true, Bool.not_true, Bool.not_false, List.getElem?_toArray, List.getElem?_cons_zero, List.getElem?_cons_succ, add_at, w0, w1, kp, kn]
    refine (impl_validB_c V _ (x.1, [], ()) (suiteO_S (l.at (i := 1) rfl)) (by show x.1.length ≤ _; omega) (by simp)).mono ?_
    rintro _ V5 ⟨rfl, he5⟩
    rw [hv0]
    replace l := l.step he5
    have w0 := l.cell (i := 2) rfl (o := 0) rfl rfl
    have w1 := l.cell (i := 2) rfl (o := 1) rfl rfl
    have kp := he5.part kp
    have kn := he5.part kn
    simp (disch := omega) only [↓stq, amv_at, ↓pln, plv, nilOk, Nat.reduceBEq, Bool.or_false, Bool.or_true, Bool.false_or, Bool.true_or, vls, inf, frs, mark_eq, ↓reduceIte, Nat.reduceEqDiff, ite_tt, ite_ff, eq_self, and_true, true_and, and_self, implies_true, Bool.true_eq_false, Bool.false_eq_true, decide_true, decide_false, decide_eq_true_eq, decide_eq_false_iff_not, ne_eq, not_true_eq_false, not_false_eq_true, Bool.not_eq_true', Bool.not_eq_false', beq_self_eq_true, Bool.not_true, Bool.not_false, List.getElem?_toArray, List.getElem?_cons_zero, List.getElem?_cons_succ, add_at, w0, w1, kp, kn]
    have hpr : probsR (formedB x) (probR x) = [] := by
      unfold probsR
      split
      · exact (validB_parts e1).2
      · rfl
    refine ⟨fun e2 => ?_, fun e2 => ?_⟩
    · have hq : (x.2.1.length : Int) - 1 = ((x.2.1.length - 1 : Nat) : Int) := by omega
      simp (disch := omega) only [↓stq, amv_at, ↓pln, plv, nilOk, Nat.reduceBEq, Bool.or_false, Bool.or_true, Bool.false_or, Bool.true_or, vls, inf, frs, mark_eq, ↓reduceIte, Nat.reduceEqDiff, ite_tt, ite_ff, eq_self, and_true, true_and, and_self, implies_true, Bool.true_eq_false, Bool.false_eq_true, decide_true, decide_false, decide_eq_true_eq, decide_eq_false_iff_not, ne_eq, not_true_eq_false, not_false_eq_true, Bool.not_eq_true', Bool.not_eq_false', beq_self_eq_true, Bool.not_true, Bool.not_false, List.getElem?_toArray, List.getElem?_cons_zero, List.getElem?_cons_succ, add_at, w0, w1, kp, kn, e2, hq]
      refine (impl_validB_c V5 _ (x.1, x.2.1.take (x.2.1.length - 1), ()) (suiteS_mk (g0.mono l.ext) ((g1.mono l.ext).take (k := x.2.1.length - 1) (by omega) 4)) (by show x.1.length ≤ _; omega) (by show (x.2.1.take (x.2.1.length - 1)).length ≤ _; rw [List.length_take]; omega)).mono ?_
      rintro _ V6 ⟨rfl, he6⟩
      rw [validB_take e1]
      replace l := l.step he6
      have w0 := l.cell (i := 2) rfl (o := 0) rfl rfl
      have w1 := l.cell (i := 2) rfl (o := 1) rfl rfl
      have kp := he6.part kp
      have kn := he6.part kn
      simp (disch := omega) only [↓stq, amv_at, ↓pln, plv, nilOk, Nat.reduceBEq, Bool.or_false, Bool.or_true, Bool.false_or, Bool.true_or, vls, inf, frs, mark_eq, ↓reduceIte, Nat.reduceEqDiff, ite_tt, ite_ff, eq_self, and_true, true_and, and_self, implies_true, Bool.true_eq_false, Bool.false_eq_true, decide_true, decide_false, decide_eq_true_eq, decide_eq_false_iff_not, ne_eq, not_true_eq_false, not_false_eq_true, Bool.not_eq_true', Bool.not_eq_false', beq_self_eq_true, Bool.not_true, Bool.not_false, List.getElem?_toArray, List.getElem?_cons_zero, List.getElem?_cons_succ, add_at, w0, w1, kp, kn, e2, hq]
      refine (impl_SuiteProblems_c V6 _ x (suiteS_mk (g0.mono l.ext) (g1.mono l.ext)) (by omega) (by omega)).mono ?_
      rintro r V7 ⟨fr, l7⟩
      rw [hpr] at l7
      obtain ⟨ar, cr, rfl, _, _⟩ := (OSl.toS (show OSl 40 problemO V7 fr r [] from l7.at (i := 0) rfl)).slice
      replace l := l.append l7
      have w0 := l.cell (i := 3) rfl (o := 0) rfl rfl
      have w1 := l.cell (i := 3) rfl (o := 1) rfl rfl
      have kp : V7.part ⟨q, 0, none⟩ 2 = some [.slice a0 x.1.length c0, .slice a1 x.2.1.length c1] := l.part (i := 3) rfl rfl
      have kn : V7.part ⟨q5, 0, none⟩ 2 = some [.slice a2 x.1.length c2, .slice a3 0 c3] := l.part (i := 1) rfl rfl
      simp (disch := omega) only [↓stq, amv_at, ↓pln, plv, nilOk, Nat.reduceBEq, Bool.or_false, Bool.or_true, Bool.false_or, Bool.true_or, vls, inf, frs, mark_eq, ↓reduceIte, Nat.reduceEqDiff, ite_tt, ite_ff, eq_self, and_true, true_and, and_self, implies_true, Bool.true_eq_false, Bool.false_eq_true, decide_true, decide_false, decide_eq_true_eq, decide_eq_false_iff_not, ne_eq, not_true_eq_false, not_false_eq_true, Bool.not_eq_true', Bool.not_eq_false', beq_self_eq_true, Bool.not_true, Bool.not_false, List.getElem?_toArray, List.getElem?_cons_zero, List.getElem?_cons_succ, add_at, w0, w1, kp, kn, e2, List.length_nil]
      rfl
    · simp (disch := omega) only [↓stq, amv_at, ↓pln, plv, nilOk, Nat.reduceBEq, Bool.or_false, Bool.or_true, Bool.false_or, Bool.true_or, vls, inf, frs, mark_eq, ↓reduceIte, Nat.reduceEqDiff, ite_tt, ite_ff, eq_self, and_true, true_and, and_self, implies_true, Bool.true_eq_false, Bool.false_eq_true, decide_true, decide_false, decide_eq_true_eq, decide_eq_false_iff_not, ne_eq, not_true_eq_false, not_false_eq_true, Bool.not_eq_true', Bool.not_eq_false', beq_self_eq_true, Bool.not_true, Bool.not_false, List.getElem?_toArray, List.getElem?_cons_zero, List.getElem?_cons_succ, add_at, w0, w1, kp, kn, e2]
      refine (impl_SuiteProblems_c V5 _ x (suiteS_mk (g0.mono l.ext) (g1.mono l.ext)) (by omega) (by omega)).mono ?_
      rintro r V7 ⟨fr, l7⟩
      rw [hpr] at l7
      obtain ⟨ar, cr, rfl, _, _⟩ := (OSl.toS (show OSl 40 problemO V7 fr r [] from l7.at (i := 0) rfl)).slice
      replace l := l.append l7
      have w0 := l.cell (i := 3) rfl (o := 0) rfl rfl
      have w1 := l.cell (i := 3) rfl (o := 1) rfl rfl
      have kp : V7.part ⟨q, 0, none⟩ 2 = some [.slice a0 x.1.length c0, .slice a1 x.2.1.length c1] := l.part (i := 3) rfl rfl
      have kn : V7.part ⟨q5, 0, none⟩ 2 = some [.slice a2 x.1.length c2, .slice a3 0 c3] := l.part (i := 1) rfl rfl
      simp (disch := omega) only [↓stq, amv_at, ↓pln, plv, nilOk, Nat.reduceBEq, Bool.or_false, Bool.or_true, Bool.false_or, Bool.true_or, vls, inf, frs, mark_eq, ↓reduceIte, Nat.reduceEqDiff, ite_tt, ite_ff, eq_self, and_true, true_and, and_self, implies_true, Bool.true_eq_false, Bool.false_eq_true, decide_true, decide_false, decide_eq_true_eq, decide_eq_false_iff_not, ne_eq, not_true_eq_false, not_false_eq_true, Bool.not_eq_true', Bool.not_eq_false', beq_self_eq_true, Bool.not_true, Bool.not_false, List.getElem?_toArray, List.getElem?_cons_zero, List.getElem?_cons_succ, add_at, w0, w1, kp, kn, e2, List.length_nil]
      rfl

end Go.Proofs.Ytjiioedohbbceaa

