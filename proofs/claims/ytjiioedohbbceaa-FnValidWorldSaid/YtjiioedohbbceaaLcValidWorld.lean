/- The law FnValidWorld. -/
import Derived.Test.YtjiioedohbbceaaZA
import Derived.Test.YtjiioedohbbceaaY2
set_option maxHeartbeats 4000000
set_option synthInstance.maxHeartbeats 400000
set_option synthInstance.maxSize 4096
set_option linter.unusedSimpArgs false
set_option linter.unusedVariables false
namespace Go.Proofs.Ytjiioedohbbceaa

set_option maxRecDepth 100000

theorem bu0W : Try.prog.built 57 [] = some #[.slice none 0 0, .slice none 0 0, .slice none 0 0, .slice none 0 0] := by rw [bt57]; rfl

theorem laws_world_c (A : View) : ACalls Try.prog 45 #[] A fun r A' => r = .agg #[.slice none 0 0, .slice none 0 0, .slice none 0 0, .slice none 0 0] ∧ Ext A A' := by
  refine acalls Try.func45 rfl (by kernel_rfl) ?_
  simp (disch := omega) only [↓stq, amv_at, vls, inf, frs, mark_eq, ↓reduceIte, Nat.reduceEqDiff, ite_tt, ite_ff, eq_self, and_true, true_and, and_self, implies_true, Bool.true_eq_false, Bool.false_eq_true, decide_true, decide_false, decide_eq_true_eq, decide_eq_false_iff_not, ne_eq, not_true_eq_false, not_false_eq_true, Bool.not_eq_true', Bool.not_eq_false', beq_self_eq_true, Bool.not_true, Bool.not_false, List.getElem?_toArray, List.getElem?_cons_zero, List.getElem?_cons_succ]
  refine led_alloc zc57 (Led.nil A) fun q V _ l => ?_
  simp (disch := omega) only [↓stq, amv_at, vls, inf, frs, mark_eq, ↓reduceIte, Nat.reduceEqDiff, ite_tt, ite_ff, eq_self, and_true, true_and, and_self, implies_true, Bool.true_eq_false, Bool.false_eq_true, decide_true, decide_false, decide_eq_true_eq, decide_eq_false_iff_not, ne_eq, not_true_eq_false, not_false_eq_true, Bool.not_eq_true', Bool.not_eq_false', beq_self_eq_true, Bool.not_true, Bool.not_false, List.getElem?_toArray, List.getElem?_cons_zero, List.getElem?_cons_succ, bu0W]
  refine led_storeAll (d := [.slice none 0 0, .slice none 0 0, .slice none 0 0, .slice none 0 0]) l 0 rfl sz57 rfl rfl (by simp [Value.oneCell']) fun V l => ?_
  have kw : V.part ⟨q, 0, none⟩ 4 = some [.slice none 0 0, .slice none 0 0, .slice none 0 0, .slice none 0 0] := l.part (i := 0) rfl rfl
  simp (disch := omega) only [↓stq, amv_at, vls, inf, frs, mark_eq, ↓reduceIte, Nat.reduceEqDiff, ite_tt, ite_ff, eq_self, and_true, true_and, and_self, implies_true, Bool.true_eq_false, Bool.false_eq_true, decide_true, decide_false, decide_eq_true_eq, decide_eq_false_iff_not, ne_eq, not_true_eq_false, not_false_eq_true, Bool.not_eq_true', Bool.not_eq_false', beq_self_eq_true, Bool.not_true, Bool.not_false, List.getElem?_toArray, List.getElem?_cons_zero, List.getElem?_cons_succ, kw]
  exact l.ext

theorem law_FnValidWorld (A : View) (v0 : Value) (x0 : List UInt8) (h0 : Sl byteS A v0 x0) : ACalls Try.prog 10 #[v0] A fun r _ => r = .bool true := by
  obtain ⟨a, c, rfl, _, _⟩ := h0.slice
  refine acalls Try.func10 rfl (by kernel_rfl) ?_
  simp (disch := omega) only [↓stq, amv_at, vls, inf, frs, mark_eq, ↓reduceIte, Nat.reduceEqDiff, ite_tt, ite_ff, eq_self, and_true, true_and, and_self, implies_true, Bool.true_eq_false, Bool.false_eq_true, decide_true, decide_false, decide_eq_true_eq, decide_eq_false_iff_not, ne_eq, not_true_eq_false, not_false_eq_true, Bool.not_eq_true', Bool.not_eq_false', beq_self_eq_true, Bool.not_true, Bool.not_false, List.getElem?_toArray, List.getElem?_cons_zero, List.getElem?_cons_succ]
  refine ⟨fun e => ?_, fun e => ?_⟩ <;> simp (disch := omega) only [↓stq, amv_at, vls, inf, frs, mark_eq, ↓reduceIte, Nat.reduceEqDiff, ite_tt, ite_ff, eq_self, and_true, true_and, and_self, implies_true, Bool.true_eq_false, Bool.false_eq_true, decide_true, decide_false, decide_eq_true_eq, decide_eq_false_iff_not, ne_eq, not_true_eq_false, not_false_eq_true, Bool.not_eq_true', Bool.not_eq_false', beq_self_eq_true, Bool.not_true, Bool.not_false, List.getElem?_toArray, List.getElem?_cons_zero, List.getElem?_cons_succ]
  refine (DrawValidWorld_c A _ x0 h0).mono ?_
  rintro _ B ⟨x, w, d, e', rfl, hg, hw, hS, hW, _⟩
  obtain ⟨u0, u1, rfl, g0, g1⟩ := suiteS_open hS
  obtain ⟨a0, c0, rfl, _, _⟩ := g0.slice
  obtain ⟨a1, c1, rfl, _, _⟩ := g1.slice
  obtain ⟨v0', v1, v2, v3, rfl, w0, w1, w2, w3⟩ := worldS_open hW
  obtain ⟨b0, e0, rfl, _, _⟩ := w0.slice
  obtain ⟨b1, e1, rfl, _, _⟩ := w1.slice
  obtain ⟨b2, e2, rfl, _, _⟩ := w2.slice
  obtain ⟨b3, e3, rfl, _, _⟩ := w3.slice
  have hl0 := hg.l0
  have hl1 := hg.l1
  have hw0 := hw.l0
  have hw1 := hw.l1
  have hw2 := hw.l2
  have hw3 := hw.l3
  simp (disch := omega) only [↓stq, amv_at, vls, inf, frs, mark_eq, ↓reduceIte, Nat.reduceEqDiff, ite_tt, ite_ff, eq_self, and_true, true_and, and_self, implies_true, Bool.true_eq_false, Bool.false_eq_true, decide_true, decide_false, decide_eq_true_eq, decide_eq_false_iff_not, ne_eq, not_true_eq_false, not_false_eq_true, Bool.not_eq_true', Bool.not_eq_false', beq_self_eq_true, Bool.not_true, Bool.not_false, List.getElem?_toArray, List.getElem?_cons_zero, List.getElem?_cons_succ]
  refine led_alloc zc26 (Led.nil B) fun q V _ l => ?_
  simp (disch := omega) only [↓stq, amv_at, vls, inf, frs, mark_eq, ↓reduceIte, Nat.reduceEqDiff, ite_tt, ite_ff, eq_self, and_true, true_and, and_self, implies_true, Bool.true_eq_false, Bool.false_eq_true, decide_true, decide_false, decide_eq_true_eq, decide_eq_false_iff_not, ne_eq, not_true_eq_false, not_false_eq_true, Bool.not_eq_true', Bool.not_eq_false', beq_self_eq_true, Bool.not_true, Bool.not_false, List.getElem?_toArray, List.getElem?_cons_zero, List.getElem?_cons_succ]
  refine led_alloc zc57 l fun p V _ l => ?_
  simp (disch := omega) only [↓stq, amv_at, vls, inf, frs, mark_eq, ↓reduceIte, Nat.reduceEqDiff, ite_tt, ite_ff, eq_self, and_true, true_and, and_self, implies_true, Bool.true_eq_false, Bool.false_eq_true, decide_true, decide_false, decide_eq_true_eq, decide_eq_false_iff_not, ne_eq, not_true_eq_false, not_false_eq_true, Bool.not_eq_true', Bool.not_eq_false', beq_self_eq_true, Bool.not_true, Bool.not_false, List.getElem?_toArray, List.getElem?_cons_zero, List.getElem?_cons_succ]
  refine led_storeAll l 1 rfl sz26 rfl rfl (by simp [Value.oneCell']) fun V l => ?_
  simp (disch := omega) only [↓stq, amv_at, vls, inf, frs, mark_eq, ↓reduceIte, Nat.reduceEqDiff, ite_tt, ite_ff, eq_self, and_true, true_and, and_self, implies_true, Bool.true_eq_false, Bool.false_eq_true, decide_true, decide_false, decide_eq_true_eq, decide_eq_false_iff_not, ne_eq, not_true_eq_false, not_false_eq_true, Bool.not_eq_true', Bool.not_eq_false', beq_self_eq_true, Bool.not_true, Bool.not_false, List.getElem?_toArray, List.getElem?_cons_zero, List.getElem?_cons_succ]
  refine led_storeAll l 0 rfl sz57 rfl rfl (by simp [Value.oneCell']) fun V l => ?_
  have kp : V.part ⟨q, 0, none⟩ 2 = some [.slice a0 x.1.length c0, .slice a1 x.2.1.length c1] := l.part (i := 1) rfl rfl
  have kw : V.part ⟨p, 0, none⟩ 4 = some [.slice b0 w.1.length e0, .slice b1 w.2.1.length e1, .slice b2 w.2.2.1.length e2, .slice b3 w.2.2.2.1.length e3] := l.part (i := 0) rfl rfl
  simp (disch := omega) only [↓stq, amv_at, vls, inf, frs, mark_eq, ↓reduceIte, Nat.reduceEqDiff, ite_tt, ite_ff, eq_self, and_true, true_and, and_self, implies_true, Bool.true_eq_false, Bool.false_eq_true, decide_true, decide_false, decide_eq_true_eq, decide_eq_false_iff_not, ne_eq, not_true_eq_false, not_false_eq_true, Bool.not_eq_true', Bool.not_eq_false', beq_self_eq_true, Bool.not_true, Bool.not_false, List.getElem?_toArray, List.getElem?_cons_zero, List.getElem?_cons_succ, kp, kw]
  refine (impl_ValidWorld_c V _ _ x w (suiteS_mk (g0.mono l.ext) (g1.mono l.ext)) (worldS_mk (w0.mono l.ext) (w1.mono l.ext) (w2.mono l.ext) (w3.mono l.ext)) (by omega) (by omega) (by omega) (by omega) (by omega) (by omega)).mono ?_
  rintro _ V2 ⟨rfl, he2⟩
  replace l := l.step he2
  have kp := he2.part kp
  have kw := he2.part kw
  simp (disch := omega) only [↓stq, amv_at, vls, inf, frs, mark_eq, ↓reduceIte, Nat.reduceEqDiff, ite_tt, ite_ff, eq_self, and_true, true_and, and_self, implies_true, Bool.true_eq_false, Bool.false_eq_true, decide_true, decide_false, decide_eq_true_eq, decide_eq_false_iff_not, ne_eq, not_true_eq_false, not_false_eq_true, Bool.not_eq_true', Bool.not_eq_false', beq_self_eq_true, Bool.not_true, Bool.not_false, List.getElem?_toArray, List.getElem?_cons_zero, List.getElem?_cons_succ, kp, kw]
  refine (spec_ValidWorld_c V2 _ _ x w (suiteS_mk (g0.mono l.ext) (g1.mono l.ext)) (worldS_mk (w0.mono l.ext) (w1.mono l.ext) (w2.mono l.ext) (w3.mono l.ext)) (by omega)).mono ?_
  rintro _ V3 ⟨rfl, he3⟩
  replace l := l.step he3
  have kp := he3.part kp
  have kw := he3.part kw
  have hbb : (!(worldB x w == worldB x w)) = false := by simp
  simp (disch := omega) only [↓stq, amv_at, vls, inf, frs, mark_eq, ↓reduceIte, Nat.reduceEqDiff, ite_tt, ite_ff, eq_self, and_true, true_and, and_self, implies_true, Bool.true_eq_false, Bool.false_eq_true, decide_true, decide_false, decide_eq_true_eq, decide_eq_false_iff_not, ne_eq, not_true_eq_false, not_false_eq_true, Bool.not_eq_true', Bool.not_eq_false', beq_self_eq_true, Bool.not_true, Bool.not_false, List.getElem?_toArray, List.getElem?_cons_zero, List.getElem?_cons_succ, kp, kw, hbb]
  refine ⟨fun f1 => ?_, fun f1 => ?_⟩ <;> simp (disch := omega) only [↓stq, amv_at, vls, inf, frs, mark_eq, ↓reduceIte, Nat.reduceEqDiff, ite_tt, ite_ff, eq_self, and_true, true_and, and_self, implies_true, Bool.true_eq_false, Bool.false_eq_true, decide_true, decide_false, decide_eq_true_eq, decide_eq_false_iff_not, ne_eq, not_true_eq_false, not_false_eq_true, Bool.not_eq_true', Bool.not_eq_false', beq_self_eq_true, Bool.not_true, Bool.not_false, List.getElem?_toArray, List.getElem?_cons_zero, List.getElem?_cons_succ, kp, kw, f1]
  · refine (spec_ValidWorld_c V3 _ _ x w (suiteS_mk (g0.mono l.ext) (g1.mono l.ext)) (worldS_mk (w0.mono l.ext) (w1.mono l.ext) (w2.mono l.ext) (w3.mono l.ext)) (by omega)).mono ?_
    rintro _ V4 ⟨rfl, he4⟩
    simp (disch := omega) only [↓stq, amv_at, vls, inf, frs, mark_eq, ↓reduceIte, Nat.reduceEqDiff, ite_tt, ite_ff, eq_self, and_true, true_and, and_self, implies_true, Bool.true_eq_false, Bool.false_eq_true, decide_true, decide_false, decide_eq_true_eq, decide_eq_false_iff_not, ne_eq, not_true_eq_false, not_false_eq_true, Bool.not_eq_true', Bool.not_eq_false', beq_self_eq_true, Bool.not_true, Bool.not_false, List.getElem?_toArray, List.getElem?_cons_zero, List.getElem?_cons_succ, f1]
  · have hi := worldB_iff.1 f1
    have hv := hi.1.1
    have hB1 : worldB x ([], [], [], [], ()) = true := worldB_iff.2 ⟨⟨hv, by simp, by simp, by simp⟩, by simp, by simp, by simp, by simp⟩
    have hB2 : worldB x (w.1, w.2.1, w.2.2.1, [], ()) = true := worldB_iff.2 ⟨⟨hv, hi.1.2.1, hi.1.2.2.1, hi.1.2.2.2⟩, by simp, by
      have := hi.2.2.1
      rw [List.all_append, Bool.and_eq_true] at this
      simpa using this.1, hi.2.2.2.1, by simp⟩
    have m0 := l.cell (i := 0) rfl (o := 0) rfl rfl
    have m1 := l.cell (i := 0) rfl (o := 1) rfl rfl
    have m2 := l.cell (i := 0) rfl (o := 2) rfl rfl
    refine adraw_items [.l 0 true, .c 1 [0], .c 2 [], .q 3, .l 4 false, .q 5, .l 6 false, .q 7, .l 8 false, .q 9, .l 10 false, .q 11, .c 12 [], .q 13, .q 14, .l 15 false, .c 16 [], .q 17, .q 18] (by kernel_rfl) (by kernel_rfl) ?_
    simp (disch := omega) only [↓stq, amv_at, ↓pln, plv, nilOk, Nat.reduceBEq, Bool.or_false, Bool.or_true, Bool.false_or, Bool.true_or, vls, inf, frs, mark_eq, ↓reduceIte, Nat.reduceEqDiff, ite_tt, ite_ff, eq_self, and_true, true_and, and_self, implies_true, Bool.true_eq_false, Bool.false_eq_true, decide_true, decide_false, decide_eq_true_eq, decide_eq_false_iff_not, ne_eq, not_true_eq_false, not_false_eq_true, Bool.not_eq_true', Bool.not_eq_false', beq_self_eq_true, Bool.not_true, Bool.not_false, List.getElem?_toArray, List.getElem?_cons_zero, List.getElem?_cons_succ, add_at, kp, kw, m0, m1, m2]
    refine (laws_world_c V3).mono ?_
    rintro _ V4 ⟨rfl, he4⟩
    replace l := l.step he4
    have kp := he4.part kp
    have kw := he4.part kw
    have m0 := he4.cell m0
    have m1 := he4.cell m1
    have m2 := he4.cell m2
    simp (disch := omega) only [↓stq, amv_at, ↓pln, plv, nilOk, Nat.reduceBEq, Bool.or_false, Bool.or_true, Bool.false_or, Bool.true_or, vls, inf, frs, mark_eq, ↓reduceIte, Nat.reduceEqDiff, ite_tt, ite_ff, eq_self, and_true, true_and, and_self, implies_true, Bool.true_eq_false, Bool.false_eq_true, decide_true, decide_false, decide_eq_true_eq, decide_eq_false_iff_not, ne_eq, not_true_eq_false, not_false_eq_true, Bool.not_eq_true', Bool.not_eq_false', beq_self_eq_true, Bool.not_true, Bool.not_false, List.getElem?_toArray, List.getElem?_cons_zero, List.getElem?_cons_succ, add_at, kp, kw, m0, m1, m2, bu0W]
    refine (impl_ValidWorld_c V4 _ _ x ([], [], [], [], ()) (suiteS_mk (g0.mono l.ext) (g1.mono l.ext)) (worldS_mk (x := ([], [], [], [], ())) (Sl.nil _ _) (Sl.nil _ _) (Sl.nil _ _) (Sl.nil _ _)) (by omega) (by omega) (by simp) (by simp) (by simp) (by simp)).mono ?_
    rintro _ V5 ⟨rfl, he5⟩
    rw [hB1]
    replace l := l.step he5
    have kp := he5.part kp
    have kw := he5.part kw
    have m0 := he5.cell m0
    have m1 := he5.cell m1
    have m2 := he5.cell m2
    simp (disch := omega) only [↓stq, amv_at, ↓pln, plv, nilOk, Nat.reduceBEq, Bool.or_false, Bool.or_true, Bool.false_or, Bool.true_or, vls, inf, frs, mark_eq, ↓reduceIte, Nat.reduceEqDiff, ite_tt, ite_ff, eq_self, and_true, true_and, and_self, implies_true, Bool.true_eq_false, Bool.false_eq_true, decide_true, decide_false, decide_eq_true_eq, decide_eq_false_iff_not, ne_eq, not_true_eq_false, not_false_eq_true, Bool.not_eq_true', Bool.not_eq_false', beq_self_eq_true, Bool.not_true, Bool.not_false, List.getElem?_toArray, List.getElem?_cons_zero, List.getElem?_cons_succ, add_at, kp, kw, m0, m1, m2]
    refine (impl_ValidWorld_c V5 _ _ x (w.1, w.2.1, w.2.2.1, [], ()) (suiteS_mk (g0.mono l.ext) (g1.mono l.ext)) (worldS_mk (x := (w.1, w.2.1, w.2.2.1, [], ())) (w0.mono l.ext) (w1.mono l.ext) (w2.mono l.ext) (Sl.nil _ _)) (by omega) (by omega) (by show w.1.length ≤ _; omega) (by show w.2.1.length ≤ _; omega) (by show w.2.2.1.length ≤ _; omega) (by simp)).mono ?_
    rintro _ V6 ⟨rfl, he6⟩
    rw [hB2]
    replace l := l.step he6
    have kp := he6.part kp
    have kw := he6.part kw
    have m0 := he6.cell m0
    have m1 := he6.cell m1
    have m2 := he6.cell m2
    simp (disch := omega) only [↓stq, amv_at, ↓pln, plv, nilOk, Nat.reduceBEq, Bool.or_false, Bool.or_true, Bool.false_or, Bool.true_or, vls, inf, frs, mark_eq, ↓reduceIte, Nat.reduceEqDiff, ite_tt, ite_ff, eq_self, and_true, true_and, and_self, implies_true, Bool.true_eq_false, Bool.false_eq_true, decide_true, decide_false, decide_eq_true_eq, decide_eq_false_iff_not, ne_eq, not_true_eq_false, not_false_eq_true, Bool.not_eq_true', Bool.not_eq_false', beq_self_eq_true, Bool.not_true, Bool.not_false, List.getElem?_toArray, List.getElem?_cons_zero, List.getElem?_cons_succ, add_at, kp, kw, m0, m1, m2]
    refine (impl_validB_c V6 _ x (suiteS_mk (g0.mono l.ext) (g1.mono l.ext)) (by omega) (by omega)).mono ?_
    rintro _ V7 ⟨rfl, he7⟩
    rw [hv]
    replace l := l.step he7
    have kp := he7.part kp
    have kw := he7.part kw
    have m0 := he7.cell m0
    have m1 := he7.cell m1
    have m2 := he7.cell m2
    simp (disch := omega) only [↓stq, amv_at, ↓pln, plv, nilOk, Nat.reduceBEq, Bool.or_false, Bool.or_true, Bool.false_or, Bool.true_or, vls, inf, frs, mark_eq, ↓reduceIte, Nat.reduceEqDiff, ite_tt, ite_ff, eq_self, and_true, true_and, and_self, implies_true, Bool.true_eq_false, Bool.false_eq_true, decide_true, decide_false, decide_eq_true_eq, decide_eq_false_iff_not, ne_eq, not_true_eq_false, not_false_eq_true, Bool.not_eq_true', Bool.not_eq_false', beq_self_eq_true, Bool.not_true, Bool.not_false, List.getElem?_toArray, List.getElem?_cons_zero, List.getElem?_cons_succ, add_at, kp, kw, m0, m1, m2]

end Go.Proofs.Ytjiioedohbbceaa

