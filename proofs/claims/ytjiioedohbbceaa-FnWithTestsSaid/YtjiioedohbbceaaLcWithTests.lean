/- The law FnWithTests. -/
import Derived.Test.YtjiioedohbbceaaZB
import Derived.Test.YtjiioedohbbceaaW7
import Derived.Test.YtjiioedohbbceaaY4
set_option maxHeartbeats 4000000
set_option synthInstance.maxHeartbeats 400000
set_option synthInstance.maxSize 4096
set_option linter.unusedSimpArgs false
set_option linter.unusedVariables false
namespace Go.Proofs.Ytjiioedohbbceaa

set_option maxRecDepth 100000

theorem law_FnWithTests (A : View) (v0 : Value) (x0 : List UInt8) (h0 : Sl byteS A v0 x0) : ACalls Try.prog 7 #[v0] A fun r _ => r = .bool true := by
  obtain ⟨a, c, rfl, _, _⟩ := h0.slice
  refine acalls Try.func7 rfl (by kernel_rfl) ?_
  simp (disch := omega) only [↓stq, amv_at, vls, inf, frs, mark_eq, ↓reduceIte, Nat.reduceEqDiff, ite_tt, ite_ff, eq_self, and_true, true_and, and_self, implies_true, Bool.true_eq_false, Bool.false_eq_true, decide_true, decide_false, decide_eq_true_eq, decide_eq_false_iff_not, ne_eq, not_true_eq_false, not_false_eq_true, Bool.not_eq_true', Bool.not_eq_false', beq_self_eq_true, Bool.not_true, Bool.not_false, List.getElem?_toArray, List.getElem?_cons_zero, List.getElem?_cons_succ]
  refine ⟨fun e => ?_, fun e => ?_⟩ <;> simp (disch := omega) only [↓stq, amv_at, vls, inf, frs, mark_eq, ↓reduceIte, Nat.reduceEqDiff, ite_tt, ite_ff, eq_self, and_true, true_and, and_self, implies_true, Bool.true_eq_false, Bool.false_eq_true, decide_true, decide_false, decide_eq_true_eq, decide_eq_false_iff_not, ne_eq, not_true_eq_false, not_false_eq_true, Bool.not_eq_true', Bool.not_eq_false', beq_self_eq_true, Bool.not_true, Bool.not_false, List.getElem?_toArray, List.getElem?_cons_zero, List.getElem?_cons_succ]
  refine (DrawWithTests_c A _ x0 h0).mono ?_
  rintro _ B ⟨x, ts, d, w, rfl, hg, htl, hS, hT, _⟩
  obtain ⟨u0, u1, rfl, g0, g1⟩ := suiteS_open hS
  obtain ⟨a0, c0, rfl, _, _⟩ := g0.slice
  obtain ⟨a1, c1, rfl, _, _⟩ := g1.slice
  obtain ⟨at1, ct, rfl, _, _⟩ := hT.slice
  have hl0 := hg.l0
  have hl1 := hg.l1
  simp (disch := omega) only [↓stq, amv_at, vls, inf, frs, mark_eq, ↓reduceIte, Nat.reduceEqDiff, ite_tt, ite_ff, eq_self, and_true, true_and, and_self, implies_true, Bool.true_eq_false, Bool.false_eq_true, decide_true, decide_false, decide_eq_true_eq, decide_eq_false_iff_not, ne_eq, not_true_eq_false, not_false_eq_true, Bool.not_eq_true', Bool.not_eq_false', beq_self_eq_true, Bool.not_true, Bool.not_false, List.getElem?_toArray, List.getElem?_cons_zero, List.getElem?_cons_succ]
  refine led_alloc zc26 (Led.nil B) fun q3 V _ l => ?_
  simp (disch := omega) only [↓stq, amv_at, vls, inf, frs, mark_eq, ↓reduceIte, Nat.reduceEqDiff, ite_tt, ite_ff, eq_self, and_true, true_and, and_self, implies_true, Bool.true_eq_false, Bool.false_eq_true, decide_true, decide_false, decide_eq_true_eq, decide_eq_false_iff_not, ne_eq, not_true_eq_false, not_false_eq_true, Bool.not_eq_true', Bool.not_eq_false', beq_self_eq_true, Bool.not_true, Bool.not_false, List.getElem?_toArray, List.getElem?_cons_zero, List.getElem?_cons_succ]
  refine led_storeAll l 0 rfl sz26 rfl rfl (by simp [Value.oneCell']) fun V l => ?_
  have kp : V.part ⟨q3, 0, none⟩ 2 = some [.slice a0 x.1.length c0, .slice a1 x.2.1.length c1] := l.part (i := 0) rfl rfl
  simp (disch := omega) only [↓stq, amv_at, vls, inf, frs, mark_eq, ↓reduceIte, Nat.reduceEqDiff, ite_tt, ite_ff, eq_self, and_true, true_and, and_self, implies_true, Bool.true_eq_false, Bool.false_eq_true, decide_true, decide_false, decide_eq_true_eq, decide_eq_false_iff_not, ne_eq, not_true_eq_false, not_false_eq_true, Bool.not_eq_true', Bool.not_eq_false', beq_self_eq_true, Bool.not_true, Bool.not_false, List.getElem?_toArray, List.getElem?_cons_zero, List.getElem?_cons_succ, kp]
  refine (impl_WithTests_c V _ x _ ts (suiteS_mk (g0.mono l.ext) (g1.mono l.ext)) (hT.mono l.ext) (by omega) (by omega) (by omega)).mono ?_
  rintro _ V2 ⟨f4, u4, rfl, l4⟩
  obtain ⟨ok, hok⟩ : ∃ ok, ok = (validB x && validB (x.1, ts, ())) := ⟨_, rfl⟩
  obtain ⟨Y, hY⟩ : ∃ Y, Y = sel (validB x) (chk (x.1, ts, ())) := ⟨_, rfl⟩
  rw [← hY] at l4
  rw [← hok]
  obtain ⟨ff0, uu0, ff1, uu1, rfl, rfl, o0, o1⟩ := suiteO_open (show suiteO.rel V2 f4 Y u4 from l4.at (i := 0) rfl)
  obtain ⟨a2, c2, rfl, _, _⟩ := o0.toS.slice
  obtain ⟨a3, c3, rfl, _, _⟩ := o1.toS.slice
  replace l := l.append l4
  simp (disch := omega) only [↓stq, amv_at, vls, inf, frs, mark_eq, ↓reduceIte, Nat.reduceEqDiff, ite_tt, ite_ff, eq_self, and_true, true_and, and_self, implies_true, Bool.true_eq_false, Bool.false_eq_true, decide_true, decide_false, decide_eq_true_eq, decide_eq_false_iff_not, ne_eq, not_true_eq_false, not_false_eq_true, Bool.not_eq_true', Bool.not_eq_false', beq_self_eq_true, Bool.not_true, Bool.not_false, List.getElem?_toArray, List.getElem?_cons_zero, List.getElem?_cons_succ]
  refine led_alloc zc26 l fun q5 V _ l => ?_
  simp (disch := omega) only [↓stq, amv_at, vls, inf, frs, mark_eq, ↓reduceIte, Nat.reduceEqDiff, ite_tt, ite_ff, eq_self, and_true, true_and, and_self, implies_true, Bool.true_eq_false, Bool.false_eq_true, decide_true, decide_false, decide_eq_true_eq, decide_eq_false_iff_not, ne_eq, not_true_eq_false, not_false_eq_true, Bool.not_eq_true', Bool.not_eq_false', beq_self_eq_true, Bool.not_true, Bool.not_false, List.getElem?_toArray, List.getElem?_cons_zero, List.getElem?_cons_succ]
  refine led_storeAll l 0 rfl sz26 rfl rfl (by simp [Value.oneCell']) fun V l => ?_
  have kp : V.part ⟨q3, 0, none⟩ 2 = some [.slice a0 x.1.length c0, .slice a1 x.2.1.length c1] := l.part (i := 2) rfl rfl
  simp (disch := omega) only [↓stq, amv_at, vls, inf, frs, mark_eq, ↓reduceIte, Nat.reduceEqDiff, ite_tt, ite_ff, eq_self, and_true, true_and, and_self, implies_true, Bool.true_eq_false, Bool.false_eq_true, decide_true, decide_false, decide_eq_true_eq, decide_eq_false_iff_not, ne_eq, not_true_eq_false, not_false_eq_true, Bool.not_eq_true', Bool.not_eq_false', beq_self_eq_true, Bool.not_true, Bool.not_false, List.getElem?_toArray, List.getElem?_cons_zero, List.getElem?_cons_succ, kp]
  refine (spec_WithTests_c V _ x _ ts (suiteS_mk (g0.mono l.ext) (g1.mono l.ext)) (hT.mono l.ext) (by omega) (by omega)).mono ?_
  rintro _ V3 ⟨f5, u5, rfl, l5⟩
  rw [← hY] at l5
  rw [← hok]
  obtain ⟨gg0, vv0, gg1, vv1, rfl, rfl, p0, p1⟩ := suiteO_open (show suiteO.rel V3 f5 Y u5 from l5.at (i := 0) rfl)
  obtain ⟨a4, c4, rfl, _, _⟩ := p0.toS.slice
  obtain ⟨a5, c5, rfl, _, _⟩ := p1.toS.slice
  replace l := l.append l5
  simp (disch := omega) only [↓stq, amv_at, vls, inf, frs, mark_eq, ↓reduceIte, Nat.reduceEqDiff, ite_tt, ite_ff, eq_self, and_true, true_and, and_self, implies_true, Bool.true_eq_false, Bool.false_eq_true, decide_true, decide_false, decide_eq_true_eq, decide_eq_false_iff_not, ne_eq, not_true_eq_false, not_false_eq_true, Bool.not_eq_true', Bool.not_eq_false', beq_self_eq_true, Bool.not_true, Bool.not_false, List.getElem?_toArray, List.getElem?_cons_zero, List.getElem?_cons_succ]
  refine led_alloc zc26 l fun q7 V _ l => ?_
  simp (disch := omega) only [↓stq, amv_at, vls, inf, frs, mark_eq, ↓reduceIte, Nat.reduceEqDiff, ite_tt, ite_ff, eq_self, and_true, true_and, and_self, implies_true, Bool.true_eq_false, Bool.false_eq_true, decide_true, decide_false, decide_eq_true_eq, decide_eq_false_iff_not, ne_eq, not_true_eq_false, not_false_eq_true, Bool.not_eq_true', Bool.not_eq_false', beq_self_eq_true, Bool.not_true, Bool.not_false, List.getElem?_toArray, List.getElem?_cons_zero, List.getElem?_cons_succ]
  refine led_storeAll l 0 rfl sz26 rfl rfl (by simp [Value.oneCell']) fun V l => ?_
  have k5 : V.part ⟨q5, 0, none⟩ 2 = some [.slice a2 Y.1.length c2, .slice a3 Y.2.1.length c3] := l.part (i := 2) rfl rfl
  have k7 : V.part ⟨q7, 0, none⟩ 2 = some [.slice a4 Y.1.length c4, .slice a5 Y.2.1.length c5] := l.part (i := 0) rfl rfl
  have kp : V.part ⟨q3, 0, none⟩ 2 = some [.slice a0 x.1.length c0, .slice a1 x.2.1.length c1] := l.part (i := 4) rfl rfl
  simp (disch := omega) only [↓stq, amv_at, vls, inf, frs, mark_eq, ↓reduceIte, Nat.reduceEqDiff, ite_tt, ite_ff, eq_self, and_true, true_and, and_self, implies_true, Bool.true_eq_false, Bool.false_eq_true, decide_true, decide_false, decide_eq_true_eq, decide_eq_false_iff_not, ne_eq, not_true_eq_false, not_false_eq_true, Bool.not_eq_true', Bool.not_eq_false', beq_self_eq_true, Bool.not_true, Bool.not_false, List.getElem?_toArray, List.getElem?_cons_zero, List.getElem?_cons_succ, k5, k7]
  refine (laws_equalSuite_c V _ _ Y (suiteO_S (l.at (i := 3) rfl)) (suiteO_S (l.at (i := 1) rfl))).mono ?_
  rintro _ V4 ⟨rfl, he4⟩
  replace l := l.step he4
  have k5 := he4.part k5
  have k7 := he4.part k7
  have kp := he4.part kp
  have hbb : (!(ok == ok)) = false := by simp
  have hb2 : (ok == ok) = true := by simp
  simp (disch := omega) only [↓stq, amv_at, vls, inf, frs, mark_eq, ↓reduceIte, Nat.reduceEqDiff, ite_tt, ite_ff, eq_self, and_true, true_and, and_self, implies_true, Bool.true_eq_false, Bool.false_eq_true, decide_true, decide_false, decide_eq_true_eq, decide_eq_false_iff_not, ne_eq, not_true_eq_false, not_false_eq_true, Bool.not_eq_true', Bool.not_eq_false', beq_self_eq_true, Bool.not_true, Bool.not_false, List.getElem?_toArray, List.getElem?_cons_zero, List.getElem?_cons_succ, k5, k7, hbb]
  refine ⟨fun f1 => ?_, fun f1 => ?_⟩ <;> simp (disch := omega) only [↓stq, amv_at, vls, inf, frs, mark_eq, ↓reduceIte, Nat.reduceEqDiff, ite_tt, ite_ff, eq_self, and_true, true_and, and_self, implies_true, Bool.true_eq_false, Bool.false_eq_true, decide_true, decide_false, decide_eq_true_eq, decide_eq_false_iff_not, ne_eq, not_true_eq_false, not_false_eq_true, Bool.not_eq_true', Bool.not_eq_false', beq_self_eq_true, Bool.not_true, Bool.not_false, List.getElem?_toArray, List.getElem?_cons_zero, List.getElem?_cons_succ, k5, k7, f1]
  · refine (laws_equalSuite_c V4 _ _ Y (suiteO_S (l.at (i := 3) rfl)) (suiteO_S (l.at (i := 1) rfl))).mono ?_
    rintro _ V5 ⟨rfl, he5⟩
    simp (disch := omega) only [↓stq, amv_at, vls, inf, frs, mark_eq, ↓reduceIte, Nat.reduceEqDiff, ite_tt, ite_ff, eq_self, and_true, true_and, and_self, implies_true, Bool.true_eq_false, Bool.false_eq_true, decide_true, decide_false, decide_eq_true_eq, decide_eq_false_iff_not, ne_eq, not_true_eq_false, not_false_eq_true, Bool.not_eq_true', Bool.not_eq_false', beq_self_eq_true, Bool.not_true, Bool.not_false, List.getElem?_toArray, List.getElem?_cons_zero, List.getElem?_cons_succ, k5, k7, f1]
  · rw [f1] at hok
    have hv : validB x = true ∧ validB (x.1, ts, ()) = true := by
      have := hok.symm
      rwa [Bool.and_eq_true] at this
    have hYe : Y = (x.1, ts, ()) := by
      rw [hY]
      unfold sel
      rw [if_pos hv.1, chk_of hv.2]
    subst hYe
    have w1 := l.cell (i := 4) rfl (o := 1) rfl rfl
    simp (disch := omega) only [↓stq, amv_at, vls, inf, frs, mark_eq, ↓reduceIte, Nat.reduceEqDiff, ite_tt, ite_ff, eq_self, and_true, true_and, and_self, implies_true, Bool.true_eq_false, Bool.false_eq_true, decide_true, decide_false, decide_eq_true_eq, decide_eq_false_iff_not, ne_eq, not_true_eq_false, not_false_eq_true, Bool.not_eq_true', Bool.not_eq_false', beq_self_eq_true, Bool.not_true, Bool.not_false, List.getElem?_toArray, List.getElem?_cons_zero, List.getElem?_cons_succ, add_at, w1, k5]
    refine (impl_WithTests_c V4 _ (x.1, ts, ()) _ x.2.1 (suiteO_S (l.at (i := 3) rfl)) (g1.mono l.ext) (by show x.1.length ≤ _; omega) (by show ts.length ≤ _; omega) (by omega)).mono ?_
    rintro _ V5 ⟨f9, u9, rfl, l9⟩
    have hbk : (validB (x.1, ts, ()) && validB ((x.1, ts, ()).1, x.2.1, ())) = true := by
      rw [hv.2, Bool.true_and]
      exact hv.1
    have hYb : sel (validB (x.1, ts, ())) (chk ((x.1, ts, ()).1, x.2.1, ())) = x := by
      unfold sel
      rw [if_pos hv.2]
      exact chk_of (x := x) hv.1
    rw [hYb] at l9
    rw [hbk]
    obtain ⟨hh0, ww0, hh1, ww1, rfl, rfl, r0, r1⟩ := suiteO_open (show suiteO.rel V5 f9 x u9 from l9.at (i := 0) rfl)
    obtain ⟨a6, c6, rfl, _, _⟩ := r0.toS.slice
    obtain ⟨a7, c7, rfl, _, _⟩ := r1.toS.slice
    replace l := l.append l9
    simp (disch := omega) only [↓stq, amv_at, vls, inf, frs, mark_eq, ↓reduceIte, Nat.reduceEqDiff, ite_tt, ite_ff, eq_self, and_true, true_and, and_self, implies_true, Bool.true_eq_false, Bool.false_eq_true, decide_true, decide_false, decide_eq_true_eq, decide_eq_false_iff_not, ne_eq, not_true_eq_false, not_false_eq_true, Bool.not_eq_true', Bool.not_eq_false', beq_self_eq_true, Bool.not_true, Bool.not_false, List.getElem?_toArray, List.getElem?_cons_zero, List.getElem?_cons_succ]
    refine led_alloc zc26 l fun q9 V _ l => ?_
    simp (disch := omega) only [↓stq, amv_at, vls, inf, frs, mark_eq, ↓reduceIte, Nat.reduceEqDiff, ite_tt, ite_ff, eq_self, and_true, true_and, and_self, implies_true, Bool.true_eq_false, Bool.false_eq_true, decide_true, decide_false, decide_eq_true_eq, decide_eq_false_iff_not, ne_eq, not_true_eq_false, not_false_eq_true, Bool.not_eq_true', Bool.not_eq_false', beq_self_eq_true, Bool.not_true, Bool.not_false, List.getElem?_toArray, List.getElem?_cons_zero, List.getElem?_cons_succ]
    refine led_storeAll l 0 rfl sz26 rfl rfl (by simp [Value.oneCell']) fun V l => ?_
    have w5 := l.cell (i := 4) rfl (o := 1) rfl rfl
    have k9 : V.part ⟨q9, 0, none⟩ 2 = some [.slice a6 x.1.length c6, .slice a7 x.2.1.length c7] := l.part (i := 0) rfl rfl
    have k5 : V.part ⟨q5, 0, none⟩ 2 = some [.slice a2 x.1.length c2, .slice a3 ts.length c3] := l.part (i := 4) rfl rfl
    have kp : V.part ⟨q3, 0, none⟩ 2 = some [.slice a0 x.1.length c0, .slice a1 x.2.1.length c1] := l.part (i := 6) rfl rfl
    have hout : suiteS.rel V (x.1, ts, ()) [.slice a2 x.1.length c2, .slice a3 ts.length c3] := suiteO_S (l.at (i := 5) rfl)
    have hback : suiteS.rel V x [.slice a6 x.1.length c6, .slice a7 x.2.1.length c7] := suiteO_S (l.at (i := 1) rfl)
    obtain ⟨_, _, hq, _, ho1⟩ := suiteS_open hout
    injection hq with _ hq
    injection hq with hq _
    subst hq
    simp (disch := omega) only [↓stq, amv_at, vls, inf, frs, mark_eq, ↓reduceIte, Nat.reduceEqDiff, ite_tt, ite_ff, eq_self, and_true, true_and, and_self, implies_true, Bool.true_eq_false, Bool.false_eq_true, decide_true, decide_false, decide_eq_true_eq, decide_eq_false_iff_not, ne_eq, not_true_eq_false, not_false_eq_true, Bool.not_eq_true', Bool.not_eq_false', beq_self_eq_true, Bool.not_true, Bool.not_false, List.getElem?_toArray, List.getElem?_cons_zero, List.getElem?_cons_succ, add_at, w5]
    refine (laws_equalTests_c V _ _ ts ho1 (hT.mono l.ext)).mono ?_
    rintro _ V6 ⟨rfl, he6⟩
    replace l := l.step he6
    have k9 := he6.part k9
    have k5 := he6.part k5
    have kp := he6.part kp
    simp (disch := omega) only [↓stq, amv_at, vls, inf, frs, mark_eq, ↓reduceIte, Nat.reduceEqDiff, ite_tt, ite_ff, eq_self, and_true, true_and, and_self, implies_true, Bool.true_eq_false, Bool.false_eq_true, decide_true, decide_false, decide_eq_true_eq, decide_eq_false_iff_not, ne_eq, not_true_eq_false, not_false_eq_true, Bool.not_eq_true', Bool.not_eq_false', beq_self_eq_true, Bool.not_true, Bool.not_false, List.getElem?_toArray, List.getElem?_cons_zero, List.getElem?_cons_succ, k9, k5, kp]
    refine (laws_equalSuite_c V6 _ _ x (suiteS.mono he6 hback) (suiteS_mk (g0.mono l.ext) (g1.mono l.ext))).mono ?_
    rintro _ V7 ⟨rfl, he7⟩
    replace l := l.step he7
    have k9 := he7.part k9
    have k5 := he7.part k5
    have kp := he7.part kp
    simp (disch := omega) only [↓stq, amv_at, vls, inf, frs, mark_eq, ↓reduceIte, Nat.reduceEqDiff, ite_tt, ite_ff, eq_self, and_true, true_and, and_self, implies_true, Bool.true_eq_false, Bool.false_eq_true, decide_true, decide_false, decide_eq_true_eq, decide_eq_false_iff_not, ne_eq, not_true_eq_false, not_false_eq_true, Bool.not_eq_true', Bool.not_eq_false', beq_self_eq_true, Bool.not_true, Bool.not_false, List.getElem?_toArray, List.getElem?_cons_zero, List.getElem?_cons_succ, k9, k5, kp]
    refine (impl_validB_c V7 _ (x.1, ts, ()) (suiteS.mono he7 (suiteS.mono he6 hout)) (by show x.1.length ≤ _; omega) (by show ts.length ≤ _; omega)).mono ?_
    rintro _ V8 ⟨rfl, he8⟩
    rw [hv.2]
    simp (disch := omega) only [↓stq, amv_at, vls, inf, frs, mark_eq, ↓reduceIte, Nat.reduceEqDiff, ite_tt, ite_ff, eq_self, and_true, true_and, and_self, implies_true, Bool.true_eq_false, Bool.false_eq_true, decide_true, decide_false, decide_eq_true_eq, decide_eq_false_iff_not, ne_eq, not_true_eq_false, not_false_eq_true, Bool.not_eq_true', Bool.not_eq_false', beq_self_eq_true, Bool.not_true, Bool.not_false, List.getElem?_toArray, List.getElem?_cons_zero, List.getElem?_cons_succ]

end Go.Proofs.Ytjiioedohbbceaa

