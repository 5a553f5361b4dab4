/- Worlds: ValidWorld, both. -/
import Derived.Test.YtjiioedohbbceaaW2
import Derived.Test.YtjiioedohbbceaaGWorld
set_option maxHeartbeats 4000000
set_option synthInstance.maxHeartbeats 400000
set_option synthInstance.maxSize 4096
set_option linter.unusedSimpArgs false
set_option linter.unusedVariables false
namespace Go.Proofs.Ytjiioedohbbceaa

set_option maxRecDepth 100000

def okId (x : SuiteD) (id : ByteArray) : Bool := decide (0 ≤ findB x.2.1 id)
def okFx (x : SuiteD) (n : ByteArray) : Bool := decide (0 ≤ fAt x.1 n)
def idsW (x : SuiteD) (xs : List ByteArray) : Bool := xs.all (okId x) && decide xs.Nodup
def fxsW (x : SuiteD) (xs : List ByteArray) : Bool := xs.all (okFx x) && decide xs.Nodup
def tmB (f : FlakyD) : Bool := decide (1 ≤ f.2.1) && decide (f.2.1 ≤ 3)
noncomputable def worldB (x : SuiteD) (w : WorldD) : Bool := w.2.2.2.1.all tmB && (validB x && (idsW x w.2.2.1 && (idsW x (w.2.2.2.1.map (·.1)) && (fxsW x w.1 && fxsW x w.2.1))))

theorem spec_validIds_c (A : View) (d : List Value) (x : SuiteD) (v : Value) (xs : List ByteArray) (h : suiteS.rel A x d) (h' : Sl strS A v xs) : ACalls Try.prog 131 #[.agg d.toArray, v] A fun r A' => r = .bool (idsW x xs) ∧ Ext A A' := by
  obtain ⟨u0, u1, rfl, g0, g1⟩ := suiteS_open h
  obtain ⟨a0, c0, rfl, _, _⟩ := g0.slice
  obtain ⟨a1, c1, rfl, _, _⟩ := g1.slice
  obtain ⟨a2, c2, rfl, _, hl2⟩ := h'.slice
  have hfb : ∀ id, idxI (fun t : TestD => decide (idD t = id)) x.2.1 = findB x.2.1 id := fun _ => rfl
  refine acalls Try.func131 rfl (by kernel_rfl) ?_
  simp (disch := omega) only [↓stp, vls, inf, frs, mark_eq, ↓reduceIte, Nat.reduceEqDiff, ite_tt, ite_ff, eq_self, and_true, true_and, and_self, implies_true, Bool.true_eq_false, Bool.false_eq_true, decide_true, decide_false, decide_eq_true_eq, decide_eq_false_iff_not, ne_eq, not_true_eq_false, not_false_eq_true, Bool.not_eq_true', Bool.not_eq_false', beq_self_eq_true, Bool.not_true, Bool.not_false, List.getElem?_toArray, List.getElem?_cons_zero, List.getElem?_cons_succ]
  refine led_box (Led.nil A) rfl fun q V he l => ?_
  simp (disch := omega) only [↓stp, vls, inf, frs, mark_eq, ↓reduceIte, Nat.reduceEqDiff, ite_tt, ite_ff, eq_self, and_true, true_and, and_self, implies_true, Bool.true_eq_false, Bool.false_eq_true, decide_true, decide_false, decide_eq_true_eq, decide_eq_false_iff_not, ne_eq, not_true_eq_false, not_false_eq_true, Bool.not_eq_true', Bool.not_eq_false', beq_self_eq_true, Bool.not_true, Bool.not_false, List.getElem?_toArray, List.getElem?_cons_zero, List.getElem?_cons_succ]
  refine aloop (fun d fr V => ∃ i : Nat, i ≤ xs.length ∧ d = xs.length - i ∧ Led A [bx q ⟨26, [.slice a0 x.1.length c0, .slice a1 x.2.1.length c1], 2, true⟩] V ∧ fr 1 = .slice a2 xs.length c2 ∧ fr 2 = .pointer (some ⟨q, 0, none⟩) ∧ fr 5 = .int .i64 i ∧ (xs.take i).all (okId x) = true ∧ (xs.take i).Nodup) xs.length ⟨0, by omega, by omega, l, by rfl, by rfl, by rfl, rfl, by simp⟩ ?_
  clear l he
  rintro d fr V ⟨i, hi, rfl, l, h1, h2, h5, hn, hd⟩
  have k1 := l.cell (i := 0) rfl (o := 1) rfl rfl
  simp (disch := omega) only [↓stp, vls, inf, frs, mark_eq, ↓reduceIte, Nat.reduceEqDiff, ite_tt, ite_ff, eq_self, and_true, true_and, and_self, implies_true, Bool.true_eq_false, Bool.false_eq_true, decide_true, decide_false, decide_eq_true_eq, decide_eq_false_iff_not, ne_eq, not_true_eq_false, not_false_eq_true, Bool.not_eq_true', Bool.not_eq_false', beq_self_eq_true, Bool.not_true, Bool.not_false, List.getElem?_toArray, List.getElem?_cons_zero, List.getElem?_cons_succ, h1, h2, h5]
  refine ⟨fun e => ?_, fun e => ?_⟩
  · have hlt : i < xs.length := by omega
    obtain ⟨ad, rfl, kk, zk⟩ := (h'.mono l.ext).str hlt
    simp (disch := omega) only [↓stp, vls, inf, frs, mark_eq, ↓reduceIte, Nat.reduceEqDiff, ite_tt, ite_ff, eq_self, and_true, true_and, and_self, implies_true, Bool.true_eq_false, Bool.false_eq_true, decide_true, decide_false, decide_eq_true_eq, decide_eq_false_iff_not, ne_eq, not_true_eq_false, not_false_eq_true, Bool.not_eq_true', Bool.not_eq_false', beq_self_eq_true, Bool.not_true, Bool.not_false, List.getElem?_toArray, List.getElem?_cons_zero, List.getElem?_cons_succ, h1, h2, h5]
    refine adraw_items [.q 0, .l 1 false, .q 2, .q 3, .q 4, .l 5 false, .c 6 [], .q 7, .q 8, .q 9, .q 10, .q 11, .q 12, .q 13, .q 14, .l 15 false, .c 16 [], .q 17] (by kernel_rfl) (by kernel_rfl) ?_
    simp (disch := omega) only [↓stp, ↓pln, plv, nilOk, Nat.reduceBEq, Bool.or_false, Bool.or_true, Bool.false_or, Bool.true_or, vls, inf, frs, mark_eq, ↓reduceIte, Nat.reduceEqDiff, ite_tt, ite_ff, eq_self, and_true, true_and, and_self, implies_true, Bool.true_eq_false, Bool.false_eq_true, decide_true, decide_false, decide_eq_true_eq, decide_eq_false_iff_not, ne_eq, not_true_eq_false, not_false_eq_true, Bool.not_eq_true', Bool.not_eq_false', beq_self_eq_true, Bool.not_true, Bool.not_false, List.getElem?_toArray, List.getElem?_cons_zero, List.getElem?_cons_succ, h1, h2, h5, add_at, k1, kk]
    refine (spec_findTest_c V _ x.2.1 xs[i] (g1.mono l.ext)).mono ?_
    rintro _ V2 ⟨rfl, he2⟩
    rw [hfb]
    have kk := he2.cell kk
    replace l := l.step he2
    have k1 := l.cell (i := 0) rfl (o := 1) rfl rfl
    simp (disch := omega) only [↓stp, ↓pln, plv, nilOk, Nat.reduceBEq, Bool.or_false, Bool.or_true, Bool.false_or, Bool.true_or, vls, inf, frs, mark_eq, ↓reduceIte, Nat.reduceEqDiff, ite_tt, ite_ff, eq_self, and_true, true_and, and_self, implies_true, Bool.true_eq_false, Bool.false_eq_true, decide_true, decide_false, decide_eq_true_eq, decide_eq_false_iff_not, ne_eq, not_true_eq_false, not_false_eq_true, Bool.not_eq_true', Bool.not_eq_false', beq_self_eq_true, Bool.not_true, Bool.not_false, List.getElem?_toArray, List.getElem?_cons_zero, List.getElem?_cons_succ, h1, h2, h5, add_at, k1, kk]
    refine ⟨fun e1 => ?_, fun e1 => ?_⟩ <;> simp (disch := omega) only [↓stp, ↓pln, plv, nilOk, Nat.reduceBEq, Bool.or_false, Bool.or_true, Bool.false_or, Bool.true_or, vls, inf, frs, mark_eq, ↓reduceIte, Nat.reduceEqDiff, ite_tt, ite_ff, eq_self, and_true, true_and, and_self, implies_true, Bool.true_eq_false, Bool.false_eq_true, decide_true, decide_false, decide_eq_true_eq, decide_eq_false_iff_not, ne_eq, not_true_eq_false, not_false_eq_true, Bool.not_eq_true', Bool.not_eq_false', beq_self_eq_true, Bool.not_true, Bool.not_false, List.getElem?_toArray, List.getElem?_cons_zero, List.getElem?_cons_succ, h1, h2, h5, add_at, k1, kk, e1]
    · refine (spec_hasText_c V2 _ (xs.take i) xs[i] ((h'.mono l.ext).take (by omega) 1)).mono ?_
      rintro _ V2 ⟨rfl, rfl⟩
      simp (disch := omega) only [↓stp, ↓pln, plv, nilOk, Nat.reduceBEq, Bool.or_false, Bool.or_true, Bool.false_or, Bool.true_or, vls, inf, frs, mark_eq, ↓reduceIte, Nat.reduceEqDiff, ite_tt, ite_ff, eq_self, and_true, true_and, and_self, implies_true, Bool.true_eq_false, Bool.false_eq_true, decide_true, decide_false, decide_eq_true_eq, decide_eq_false_iff_not, ne_eq, not_true_eq_false, not_false_eq_true, Bool.not_eq_true', Bool.not_eq_false', beq_self_eq_true, Bool.not_true, Bool.not_false, List.getElem?_toArray, List.getElem?_cons_zero, List.getElem?_cons_succ, h1, h2, h5, add_at, k1, kk, e1]
      refine ⟨fun e2 => ?_, fun e2 => ?_⟩ <;> simp (disch := omega) only [↓stp, vls, inf, frs, mark_eq, ↓reduceIte, Nat.reduceEqDiff, ite_tt, ite_ff, eq_self, and_true, true_and, and_self, implies_true, Bool.true_eq_false, Bool.false_eq_true, decide_true, decide_false, decide_eq_true_eq, decide_eq_false_iff_not, ne_eq, not_true_eq_false, not_false_eq_true, Bool.not_eq_true', Bool.not_eq_false', beq_self_eq_true, Bool.not_true, Bool.not_false, List.getElem?_toArray, List.getElem?_cons_zero, List.getElem?_cons_succ, h1, h2, h5]
      · refine ⟨?_, l.ext⟩
        unfold idsW
        rw [decide_eq_false (nodup_no hlt e2), Bool.and_false]
      · exact ⟨_, by omega, i + 1, by omega, rfl, l, rfl, all_take hlt hn (by unfold okId; exact decide_eq_true (by omega)), (nodup_take_succ hlt).2 ⟨hd, e2⟩⟩
    · refine ⟨?_, l.ext⟩
      unfold idsW
      rw [all_no (p := okId x) hlt (by unfold okId; exact decide_eq_false (by omega)), Bool.false_and]
  · simp (disch := omega) only [↓stp, vls, inf, frs, mark_eq, ↓reduceIte, Nat.reduceEqDiff, ite_tt, ite_ff, eq_self, and_true, true_and, and_self, implies_true, Bool.true_eq_false, Bool.false_eq_true, decide_true, decide_false, decide_eq_true_eq, decide_eq_false_iff_not, ne_eq, not_true_eq_false, not_false_eq_true, Bool.not_eq_true', Bool.not_eq_false', beq_self_eq_true, Bool.not_true, Bool.not_false, List.getElem?_toArray, List.getElem?_cons_zero, List.getElem?_cons_succ, h1, h2, h5]
    rw [List.take_of_length_le (by omega)] at hn hd
    refine ⟨?_, l.ext⟩
    unfold idsW
    rw [hn, decide_eq_true hd, Bool.true_and]

theorem spec_validFixtures_c (A : View) (d : List Value) (x : SuiteD) (v : Value) (xs : List ByteArray) (h : suiteS.rel A x d) (h' : Sl strS A v xs) : ACalls Try.prog 132 #[.agg d.toArray, v] A fun r A' => r = .bool (fxsW x xs) ∧ Ext A A' := by
  obtain ⟨u0, u1, rfl, g0, g1⟩ := suiteS_open h
  obtain ⟨a0, c0, rfl, _, _⟩ := g0.slice
  obtain ⟨a1, c1, rfl, _, _⟩ := g1.slice
  obtain ⟨a2, c2, rfl, _, hl2⟩ := h'.slice
  have hfb : ∀ id, idxI (fun t : TestD => decide (idD t = id)) x.2.1 = findB x.2.1 id := fun _ => rfl
  refine acalls Try.func132 rfl (by kernel_rfl) ?_
  simp (disch := omega) only [↓stp, vls, inf, frs, mark_eq, ↓reduceIte, Nat.reduceEqDiff, ite_tt, ite_ff, eq_self, and_true, true_and, and_self, implies_true, Bool.true_eq_false, Bool.false_eq_true, decide_true, decide_false, decide_eq_true_eq, decide_eq_false_iff_not, ne_eq, not_true_eq_false, not_false_eq_true, Bool.not_eq_true', Bool.not_eq_false', beq_self_eq_true, Bool.not_true, Bool.not_false, List.getElem?_toArray, List.getElem?_cons_zero, List.getElem?_cons_succ]
  refine led_box (Led.nil A) rfl fun q V he l => ?_
  simp (disch := omega) only [↓stp, vls, inf, frs, mark_eq, ↓reduceIte, Nat.reduceEqDiff, ite_tt, ite_ff, eq_self, and_true, true_and, and_self, implies_true, Bool.true_eq_false, Bool.false_eq_true, decide_true, decide_false, decide_eq_true_eq, decide_eq_false_iff_not, ne_eq, not_true_eq_false, not_false_eq_true, Bool.not_eq_true', Bool.not_eq_false', beq_self_eq_true, Bool.not_true, Bool.not_false, List.getElem?_toArray, List.getElem?_cons_zero, List.getElem?_cons_succ]
  refine aloop (fun d fr V => ∃ i : Nat, i ≤ xs.length ∧ d = xs.length - i ∧ Led A [bx q ⟨26, [.slice a0 x.1.length c0, .slice a1 x.2.1.length c1], 2, true⟩] V ∧ fr 1 = .slice a2 xs.length c2 ∧ fr 2 = .pointer (some ⟨q, 0, none⟩) ∧ fr 5 = .int .i64 i ∧ (xs.take i).all (okFx x) = true ∧ (xs.take i).Nodup) xs.length ⟨0, by omega, by omega, l, by rfl, by rfl, by rfl, rfl, by simp⟩ ?_
  clear l he
  rintro d fr V ⟨i, hi, rfl, l, h1, h2, h5, hn, hd⟩
  have k0 := l.cell (i := 0) rfl (o := 0) rfl rfl
  simp (disch := omega) only [↓stp, vls, inf, frs, mark_eq, ↓reduceIte, Nat.reduceEqDiff, ite_tt, ite_ff, eq_self, and_true, true_and, and_self, implies_true, Bool.true_eq_false, Bool.false_eq_true, decide_true, decide_false, decide_eq_true_eq, decide_eq_false_iff_not, ne_eq, not_true_eq_false, not_false_eq_true, Bool.not_eq_true', Bool.not_eq_false', beq_self_eq_true, Bool.not_true, Bool.not_false, List.getElem?_toArray, List.getElem?_cons_zero, List.getElem?_cons_succ, h1, h2, h5]
  refine ⟨fun e => ?_, fun e => ?_⟩
  · have hlt : i < xs.length := by omega
    obtain ⟨ad, rfl, kk, zk⟩ := (h'.mono l.ext).str hlt
    simp (disch := omega) only [↓stp, vls, inf, frs, mark_eq, ↓reduceIte, Nat.reduceEqDiff, ite_tt, ite_ff, eq_self, and_true, true_and, and_self, implies_true, Bool.true_eq_false, Bool.false_eq_true, decide_true, decide_false, decide_eq_true_eq, decide_eq_false_iff_not, ne_eq, not_true_eq_false, not_false_eq_true, Bool.not_eq_true', Bool.not_eq_false', beq_self_eq_true, Bool.not_true, Bool.not_false, List.getElem?_toArray, List.getElem?_cons_zero, List.getElem?_cons_succ, h1, h2, h5]
    refine adraw_items [.q 0, .l 1 false, .q 2, .q 3, .q 4, .l 5 false, .c 6 [], .q 7, .q 8, .q 9, .q 10, .q 11, .q 12, .q 13, .q 14, .l 15 false, .c 16 [], .q 17] (by kernel_rfl) (by kernel_rfl) ?_
    simp (disch := omega) only [↓stp, ↓pln, plv, nilOk, Nat.reduceBEq, Bool.or_false, Bool.or_true, Bool.false_or, Bool.true_or, vls, inf, frs, mark_eq, ↓reduceIte, Nat.reduceEqDiff, ite_tt, ite_ff, eq_self, and_true, true_and, and_self, implies_true, Bool.true_eq_false, Bool.false_eq_true, decide_true, decide_false, decide_eq_true_eq, decide_eq_false_iff_not, ne_eq, not_true_eq_false, not_false_eq_true, Bool.not_eq_true', Bool.not_eq_false', beq_self_eq_true, Bool.not_true, Bool.not_false, List.getElem?_toArray, List.getElem?_cons_zero, List.getElem?_cons_succ, h1, h2, h5, add_at, k0, kk]
    refine (spec_fixtureAt_c V _ x.1 xs[i] (g0.mono l.ext)).mono ?_
    rintro _ V2 ⟨rfl, rfl⟩; have he2 := Ext.refl V2
    skip
    have kk := he2.cell kk
    replace l := l.step he2
    have k0 := l.cell (i := 0) rfl (o := 0) rfl rfl
    simp (disch := omega) only [↓stp, ↓pln, plv, nilOk, Nat.reduceBEq, Bool.or_false, Bool.or_true, Bool.false_or, Bool.true_or, vls, inf, frs, mark_eq, ↓reduceIte, Nat.reduceEqDiff, ite_tt, ite_ff, eq_self, and_true, true_and, and_self, implies_true, Bool.true_eq_false, Bool.false_eq_true, decide_true, decide_false, decide_eq_true_eq, decide_eq_false_iff_not, ne_eq, not_true_eq_false, not_false_eq_true, Bool.not_eq_true', Bool.not_eq_false', beq_self_eq_true, Bool.not_true, Bool.not_false, List.getElem?_toArray, List.getElem?_cons_zero, List.getElem?_cons_succ, h1, h2, h5, add_at, k0, kk]
    refine ⟨fun e1 => ?_, fun e1 => ?_⟩ <;> simp (disch := omega) only [↓stp, ↓pln, plv, nilOk, Nat.reduceBEq, Bool.or_false, Bool.or_true, Bool.false_or, Bool.true_or, vls, inf, frs, mark_eq, ↓reduceIte, Nat.reduceEqDiff, ite_tt, ite_ff, eq_self, and_true, true_and, and_self, implies_true, Bool.true_eq_false, Bool.false_eq_true, decide_true, decide_false, decide_eq_true_eq, decide_eq_false_iff_not, ne_eq, not_true_eq_false, not_false_eq_true, Bool.not_eq_true', Bool.not_eq_false', beq_self_eq_true, Bool.not_true, Bool.not_false, List.getElem?_toArray, List.getElem?_cons_zero, List.getElem?_cons_succ, h1, h2, h5, add_at, k0, kk, e1]
    · refine (spec_hasText_c V2 _ (xs.take i) xs[i] ((h'.mono l.ext).take (by omega) 1)).mono ?_
      rintro _ V2 ⟨rfl, rfl⟩
      simp (disch := omega) only [↓stp, ↓pln, plv, nilOk, Nat.reduceBEq, Bool.or_false, Bool.or_true, Bool.false_or, Bool.true_or, vls, inf, frs, mark_eq, ↓reduceIte, Nat.reduceEqDiff, ite_tt, ite_ff, eq_self, and_true, true_and, and_self, implies_true, Bool.true_eq_false, Bool.false_eq_true, decide_true, decide_false, decide_eq_true_eq, decide_eq_false_iff_not, ne_eq, not_true_eq_false, not_false_eq_true, Bool.not_eq_true', Bool.not_eq_false', beq_self_eq_true, Bool.not_true, Bool.not_false, List.getElem?_toArray, List.getElem?_cons_zero, List.getElem?_cons_succ, h1, h2, h5, add_at, k0, kk, e1]
      refine ⟨fun e2 => ?_, fun e2 => ?_⟩ <;> simp (disch := omega) only [↓stp, vls, inf, frs, mark_eq, ↓reduceIte, Nat.reduceEqDiff, ite_tt, ite_ff, eq_self, and_true, true_and, and_self, implies_true, Bool.true_eq_false, Bool.false_eq_true, decide_true, decide_false, decide_eq_true_eq, decide_eq_false_iff_not, ne_eq, not_true_eq_false, not_false_eq_true, Bool.not_eq_true', Bool.not_eq_false', beq_self_eq_true, Bool.not_true, Bool.not_false, List.getElem?_toArray, List.getElem?_cons_zero, List.getElem?_cons_succ, h1, h2, h5]
      · refine ⟨?_, l.ext⟩
        unfold fxsW
        rw [decide_eq_false (nodup_no hlt e2), Bool.and_false]
      · exact ⟨_, by omega, i + 1, by omega, rfl, l, rfl, all_take hlt hn (by unfold okFx; exact decide_eq_true (by omega)), (nodup_take_succ hlt).2 ⟨hd, e2⟩⟩
    · refine ⟨?_, l.ext⟩
      unfold fxsW
      rw [all_no (p := okFx x) hlt (by unfold okFx; exact decide_eq_false (by omega)), Bool.false_and]
  · simp (disch := omega) only [↓stp, vls, inf, frs, mark_eq, ↓reduceIte, Nat.reduceEqDiff, ite_tt, ite_ff, eq_self, and_true, true_and, and_self, implies_true, Bool.true_eq_false, Bool.false_eq_true, decide_true, decide_false, decide_eq_true_eq, decide_eq_false_iff_not, ne_eq, not_true_eq_false, not_false_eq_true, Bool.not_eq_true', Bool.not_eq_false', beq_self_eq_true, Bool.not_true, Bool.not_false, List.getElem?_toArray, List.getElem?_cons_zero, List.getElem?_cons_succ, h1, h2, h5]
    rw [List.take_of_length_le (by omega)] at hn hd
    refine ⟨?_, l.ext⟩
    unfold fxsW
    rw [hn, decide_eq_true hd, Bool.true_and]

theorem map_take1 {α β : Type} {f : α → β} {xs : List α} {i : Nat} (h : i < xs.length) : (xs.take (i + 1)).map f = (xs.take i).map f ++ [f xs[i]] := by
  rw [List.take_succ_eq_append_getElem h, List.map_append]; rfl

theorem spec_validWorld_c (A : View) (d e : List Value) (x : SuiteD) (w : WorldD) (h : suiteS.rel A x d) (h' : worldS.rel A w e) (hsm : w.2.2.2.1.length ≤ 1048576) : ACalls Try.prog 92 #[.agg d.toArray, .agg e.toArray] A fun r A' => r = .bool (worldB x w) ∧ Ext A A' := by
  obtain ⟨u0, u1, rfl, g0, g1⟩ := suiteS_open h
  obtain ⟨a0, c0, rfl, _, _⟩ := g0.slice
  obtain ⟨a1, c1, rfl, _, _⟩ := g1.slice
  obtain ⟨v0, v1, v2, v3, rfl, w0, w1, w2, w3⟩ := worldS_open h'
  obtain ⟨b0, e0, rfl, _, _⟩ := w0.slice
  obtain ⟨b1, e1, rfl, _, _⟩ := w1.slice
  obtain ⟨b2, e2, rfl, _, _⟩ := w2.slice
  obtain ⟨b3, e3, rfl, _, _⟩ := w3.slice
  refine acalls Try.func92 rfl (by kernel_rfl) ?_
  simp (disch := omega) only [↓stp, vls, inf, frs, mark_eq, ↓reduceIte, Nat.reduceEqDiff, ite_tt, ite_ff, eq_self, and_true, true_and, and_self, implies_true, Bool.true_eq_false, Bool.false_eq_true, decide_true, decide_false, decide_eq_true_eq, decide_eq_false_iff_not, ne_eq, not_true_eq_false, not_false_eq_true, Bool.not_eq_true', Bool.not_eq_false', beq_self_eq_true, Bool.not_true, Bool.not_false, List.getElem?_toArray, List.getElem?_cons_zero, List.getElem?_cons_succ]
  refine led_box (Led.nil A) rfl fun q V he l => ?_
  simp (disch := omega) only [↓stp, vls, inf, frs, mark_eq, ↓reduceIte, Nat.reduceEqDiff, ite_tt, ite_ff, eq_self, and_true, true_and, and_self, implies_true, Bool.true_eq_false, Bool.false_eq_true, decide_true, decide_false, decide_eq_true_eq, decide_eq_false_iff_not, ne_eq, not_true_eq_false, not_false_eq_true, Bool.not_eq_true', Bool.not_eq_false', beq_self_eq_true, Bool.not_true, Bool.not_false, List.getElem?_toArray, List.getElem?_cons_zero, List.getElem?_cons_succ]
  refine led_box l rfl fun p V he l => ?_
  simp (disch := omega) only [↓stp, vls, inf, frs, mark_eq, ↓reduceIte, Nat.reduceEqDiff, ite_tt, ite_ff, eq_self, and_true, true_and, and_self, implies_true, Bool.true_eq_false, Bool.false_eq_true, decide_true, decide_false, decide_eq_true_eq, decide_eq_false_iff_not, ne_eq, not_true_eq_false, not_false_eq_true, Bool.not_eq_true', Bool.not_eq_false', beq_self_eq_true, Bool.not_true, Bool.not_false, List.getElem?_toArray, List.getElem?_cons_zero, List.getElem?_cons_succ]
  refine led_lit0 (O := strO) li31 l fun b V _ l => ?_
  simp (disch := omega) only [↓stp, vls, inf, frs, mark_eq, ↓reduceIte, Nat.reduceEqDiff, ite_tt, ite_ff, eq_self, and_true, true_and, and_self, implies_true, Bool.true_eq_false, Bool.false_eq_true, decide_true, decide_false, decide_eq_true_eq, decide_eq_false_iff_not, ne_eq, not_true_eq_false, not_false_eq_true, Bool.not_eq_true', Bool.not_eq_false', beq_self_eq_true, Bool.not_true, Bool.not_false, List.getElem?_toArray, List.getElem?_cons_zero, List.getElem?_cons_succ]
  refine aloop (fun d fr V => ∃ (i : Nat) (fp : List Nat) (v : Value), i ≤ w.2.2.2.1.length ∧ d = w.2.2.2.1.length - i ∧ Led A [osl 9 strO fp v ((w.2.2.2.1.take i).map (·.1)), bx p ⟨57, [.slice b0 w.1.length e0, .slice b1 w.2.1.length e1, .slice b2 w.2.2.1.length e2, .slice b3 w.2.2.2.1.length e3], 4, true⟩, bx q ⟨26, [.slice a0 x.1.length c0, .slice a1 x.2.1.length c1], 2, true⟩] V ∧ fr 2 = .pointer (some ⟨q, 0, none⟩) ∧ fr 3 = .pointer (some ⟨p, 0, none⟩) ∧ fr 5 = v ∧ fr 6 = .int .i64 i ∧ (w.2.2.2.1.take i).all tmB = true) w.2.2.2.1.length ⟨0, _, _, by omega, by omega, l, by rfl, by rfl, by rfl, by rfl, rfl⟩ ?_
  clear l he
  rintro d fr V ⟨i, fp, v, hi, rfl, l, h2, h3, h5, h6, hn⟩
  have m3 := l.cell (i := 1) rfl (o := 3) rfl rfl
  simp (disch := omega) only [↓stp, vls, inf, frs, mark_eq, ↓reduceIte, Nat.reduceEqDiff, ite_tt, ite_ff, eq_self, and_true, true_and, and_self, implies_true, Bool.true_eq_false, Bool.false_eq_true, decide_true, decide_false, decide_eq_true_eq, decide_eq_false_iff_not, ne_eq, not_true_eq_false, not_false_eq_true, Bool.not_eq_true', Bool.not_eq_false', beq_self_eq_true, Bool.not_true, Bool.not_false, List.getElem?_toArray, List.getElem?_cons_zero, List.getElem?_cons_succ, h2, h3, h5, h6, add_at, m3]
  refine ⟨fun e => ?_, fun e => ?_⟩
  · have hlt : i < w.2.2.2.1.length := by omega
    obtain ⟨ad, rfl, hclA, z1, z2⟩ := w3.flaky hlt
    have t1 := View.part_cell (l.ext.part hclA) (j := 1) rfl
    simp (disch := omega) only [↓stp, vls, inf, frs, mark_eq, ↓reduceIte, Nat.reduceEqDiff, ite_tt, ite_ff, eq_self, and_true, true_and, and_self, implies_true, Bool.true_eq_false, Bool.false_eq_true, decide_true, decide_false, decide_eq_true_eq, decide_eq_false_iff_not, ne_eq, not_true_eq_false, not_false_eq_true, Bool.not_eq_true', Bool.not_eq_false', beq_self_eq_true, Bool.not_true, Bool.not_false, List.getElem?_toArray, List.getElem?_cons_zero, List.getElem?_cons_succ, h2, h3, h5, h6, add_at, m3, t1]
    refine (spec_inRange_c V _ _ _).mono ?_
    rintro _ V2 ⟨rfl, rfl⟩
    have m3 := l.cell (i := 1) rfl (o := 3) rfl rfl
    have t0 := View.part_cell (l.ext.part hclA) (j := 0) rfl
    simp (disch := omega) only [↓stp, vls, inf, frs, mark_eq, ↓reduceIte, Nat.reduceEqDiff, ite_tt, ite_ff, eq_self, and_true, true_and, and_self, implies_true, Bool.true_eq_false, Bool.false_eq_true, decide_true, decide_false, decide_eq_true_eq, decide_eq_false_iff_not, ne_eq, not_true_eq_false, not_false_eq_true, Bool.not_eq_true', Bool.not_eq_false', beq_self_eq_true, Bool.not_true, Bool.not_false, List.getElem?_toArray, List.getElem?_cons_zero, List.getElem?_cons_succ, h2, h3, h5, h6]
    refine ⟨fun e1 => ?_, fun e1 => ?_⟩ <;> simp (disch := omega) only [↓stp, vls, inf, frs, mark_eq, ↓reduceIte, Nat.reduceEqDiff, ite_tt, ite_ff, eq_self, and_true, true_and, and_self, implies_true, Bool.true_eq_false, Bool.false_eq_true, decide_true, decide_false, decide_eq_true_eq, decide_eq_false_iff_not, ne_eq, not_true_eq_false, not_false_eq_true, Bool.not_eq_true', Bool.not_eq_false', beq_self_eq_true, Bool.not_true, Bool.not_false, List.getElem?_toArray, List.getElem?_cons_zero, List.getElem?_cons_succ, h2, h3, h5, h6, add_at, m3, t0]
    · refine ⟨?_, l.ext⟩
      unfold worldB
      rw [all_no (p := tmB) hlt (by unfold tmB; simpa using e1), Bool.false_and]
    · refine led_lit li31 (by omega) rfl (fun p hp => by rcases List.mem_singleton.1 hp with rfl; exact ⟨rfl, rfl⟩) l fun bl V3 _ l => ?_
      simp (disch := omega) only [↓stp, vls, inf, frs, mark_eq, ↓reduceIte, Nat.reduceEqDiff, ite_tt, ite_ff, eq_self, and_true, true_and, and_self, implies_true, Bool.true_eq_false, Bool.false_eq_true, decide_true, decide_false, decide_eq_true_eq, decide_eq_false_iff_not, ne_eq, not_true_eq_false, not_false_eq_true, Bool.not_eq_true', Bool.not_eq_false', beq_self_eq_true, Bool.not_true, Bool.not_false, List.getElem?_toArray, List.getElem?_cons_zero, List.getElem?_cons_succ, h2, h3, h5, h6]
      refine led_app (O := strO) ap31_31 (by decide) l (i := 1) rfl (l.src1 (S := strS) (j := 0) rfl ⟨rfl, z1⟩) (by rw [List.length_singleton, List.length_map, List.length_take]; omega) fun fp2 w2 V4 _ l => ?_
      simp (disch := omega) only [↓stp, vls, inf, frs, mark_eq, ↓reduceIte, Nat.reduceEqDiff, ite_tt, ite_ff, eq_self, and_true, true_and, and_self, implies_true, Bool.true_eq_false, Bool.false_eq_true, decide_true, decide_false, decide_eq_true_eq, decide_eq_false_iff_not, ne_eq, not_true_eq_false, not_false_eq_true, Bool.not_eq_true', Bool.not_eq_false', beq_self_eq_true, Bool.not_true, Bool.not_false, List.getElem?_toArray, List.getElem?_cons_zero, List.getElem?_cons_succ, h2, h3, h5, h6]
      exact ⟨_, by omega, i + 1, _, _, by omega, rfl, by rw [map_take1 hlt]; exact l.tail, rfl, rfl, all_take hlt hn (by unfold tmB; simpa using e1)⟩
  · rw [List.take_of_length_le (by omega)] at l hn
    have kp : V.part ⟨q, 0, none⟩ 2 = some _ := l.part (i := 2) rfl rfl
    simp (disch := omega) only [↓stp, vls, inf, frs, mark_eq, ↓reduceIte, Nat.reduceEqDiff, ite_tt, ite_ff, eq_self, and_true, true_and, and_self, implies_true, Bool.true_eq_false, Bool.false_eq_true, decide_true, decide_false, decide_eq_true_eq, decide_eq_false_iff_not, ne_eq, not_true_eq_false, not_false_eq_true, Bool.not_eq_true', Bool.not_eq_false', beq_self_eq_true, Bool.not_true, Bool.not_false, List.getElem?_toArray, List.getElem?_cons_zero, List.getElem?_cons_succ, h2, h3, h5, h6, kp]
    refine (spec_validB_c V _ x (suiteS_mk (g0.mono l.ext) (g1.mono l.ext)) trivial).mono ?_
    rintro _ V2 ⟨rfl, he2⟩
    replace l := l.step he2
    have kp := he2.part kp
    have m0 := l.cell (i := 1) rfl (o := 0) rfl rfl
    have m1 := l.cell (i := 1) rfl (o := 1) rfl rfl
    have m2 := l.cell (i := 1) rfl (o := 2) rfl rfl
    have hids : Sl strS V2 v (w.2.2.2.1.map (·.1)) := OSl.toS (show OSl 9 strO V2 fp v _ from l.at (i := 0) rfl)
    simp (disch := omega) only [↓stp, vls, inf, frs, mark_eq, ↓reduceIte, Nat.reduceEqDiff, ite_tt, ite_ff, eq_self, and_true, true_and, and_self, implies_true, Bool.true_eq_false, Bool.false_eq_true, decide_true, decide_false, decide_eq_true_eq, decide_eq_false_iff_not, ne_eq, not_true_eq_false, not_false_eq_true, Bool.not_eq_true', Bool.not_eq_false', beq_self_eq_true, Bool.not_true, Bool.not_false, List.getElem?_toArray, List.getElem?_cons_zero, List.getElem?_cons_succ, h2, h3, h5, h6, add_at, kp, m0, m1, m2]
    refine ⟨fun e1' => ?_, fun e1' => ?_⟩ <;> simp (disch := omega) only [↓stp, vls, inf, frs, mark_eq, ↓reduceIte, Nat.reduceEqDiff, ite_tt, ite_ff, eq_self, and_true, true_and, and_self, implies_true, Bool.true_eq_false, Bool.false_eq_true, decide_true, decide_false, decide_eq_true_eq, decide_eq_false_iff_not, ne_eq, not_true_eq_false, not_false_eq_true, Bool.not_eq_true', Bool.not_eq_false', beq_self_eq_true, Bool.not_true, Bool.not_false, List.getElem?_toArray, List.getElem?_cons_zero, List.getElem?_cons_succ, h2, h3, h5, h6, add_at, kp, m0, m1, m2, e1']
    rotate_left
    · refine ⟨?_, l.ext⟩
      unfold worldB
      rw [hn, e1']
      rfl
    refine (spec_validIds_c V2 _ x _ w.2.2.1 (suiteS_mk (g0.mono l.ext) (g1.mono l.ext)) (w2.mono l.ext)).mono ?_
    rintro _ V3 ⟨rfl, he3⟩
    replace l := l.step he3
    have kp := he3.part kp
    have m0 := l.cell (i := 1) rfl (o := 0) rfl rfl
    have m1 := l.cell (i := 1) rfl (o := 1) rfl rfl
    have m2 := l.cell (i := 1) rfl (o := 2) rfl rfl
    replace hids := hids.mono he3
    simp (disch := omega) only [↓stp, vls, inf, frs, mark_eq, ↓reduceIte, Nat.reduceEqDiff, ite_tt, ite_ff, eq_self, and_true, true_and, and_self, implies_true, Bool.true_eq_false, Bool.false_eq_true, decide_true, decide_false, decide_eq_true_eq, decide_eq_false_iff_not, ne_eq, not_true_eq_false, not_false_eq_true, Bool.not_eq_true', Bool.not_eq_false', beq_self_eq_true, Bool.not_true, Bool.not_false, List.getElem?_toArray, List.getElem?_cons_zero, List.getElem?_cons_succ, h2, h3, h5, h6, add_at, kp, m0, m1, m2, e1']
    refine ⟨fun e2' => ?_, fun e2' => ?_⟩ <;> simp (disch := omega) only [↓stp, vls, inf, frs, mark_eq, ↓reduceIte, Nat.reduceEqDiff, ite_tt, ite_ff, eq_self, and_true, true_and, and_self, implies_true, Bool.true_eq_false, Bool.false_eq_true, decide_true, decide_false, decide_eq_true_eq, decide_eq_false_iff_not, ne_eq, not_true_eq_false, not_false_eq_true, Bool.not_eq_true', Bool.not_eq_false', beq_self_eq_true, Bool.not_true, Bool.not_false, List.getElem?_toArray, List.getElem?_cons_zero, List.getElem?_cons_succ, h2, h3, h5, h6, add_at, kp, m0, m1, m2, e1', e2']
    rotate_left
    · refine ⟨?_, l.ext⟩
      unfold worldB
      rw [hn, e1', e2']
      rfl
    refine (spec_validIds_c V3 _ x _ (w.2.2.2.1.map (·.1)) (suiteS_mk (g0.mono l.ext) (g1.mono l.ext)) hids).mono ?_
    rintro _ V4 ⟨rfl, he4⟩
    replace l := l.step he4
    have kp := he4.part kp
    have m0 := l.cell (i := 1) rfl (o := 0) rfl rfl
    have m1 := l.cell (i := 1) rfl (o := 1) rfl rfl
    have m2 := l.cell (i := 1) rfl (o := 2) rfl rfl
    replace hids := hids.mono he4
    simp (disch := omega) only [↓stp, vls, inf, frs, mark_eq, ↓reduceIte, Nat.reduceEqDiff, ite_tt, ite_ff, eq_self, and_true, true_and, and_self, implies_true, Bool.true_eq_false, Bool.false_eq_true, decide_true, decide_false, decide_eq_true_eq, decide_eq_false_iff_not, ne_eq, not_true_eq_false, not_false_eq_true, Bool.not_eq_true', Bool.not_eq_false', beq_self_eq_true, Bool.not_true, Bool.not_false, List.getElem?_toArray, List.getElem?_cons_zero, List.getElem?_cons_succ, h2, h3, h5, h6, add_at, kp, m0, m1, m2, e1', e2']
    refine ⟨fun e3' => ?_, fun e3' => ?_⟩ <;> simp (disch := omega) only [↓stp, vls, inf, frs, mark_eq, ↓reduceIte, Nat.reduceEqDiff, ite_tt, ite_ff, eq_self, and_true, true_and, and_self, implies_true, Bool.true_eq_false, Bool.false_eq_true, decide_true, decide_false, decide_eq_true_eq, decide_eq_false_iff_not, ne_eq, not_true_eq_false, not_false_eq_true, Bool.not_eq_true', Bool.not_eq_false', beq_self_eq_true, Bool.not_true, Bool.not_false, List.getElem?_toArray, List.getElem?_cons_zero, List.getElem?_cons_succ, h2, h3, h5, h6, add_at, kp, m0, m1, m2, e1', e2', e3']
    rotate_left
    · refine ⟨?_, l.ext⟩
      unfold worldB
      rw [hn, e1', e2', e3']
      rfl
    refine (spec_validFixtures_c V4 _ x _ w.1 (suiteS_mk (g0.mono l.ext) (g1.mono l.ext)) (w0.mono l.ext)).mono ?_
    rintro _ V5 ⟨rfl, he5⟩
    replace l := l.step he5
    have kp := he5.part kp
    have m0 := l.cell (i := 1) rfl (o := 0) rfl rfl
    have m1 := l.cell (i := 1) rfl (o := 1) rfl rfl
    have m2 := l.cell (i := 1) rfl (o := 2) rfl rfl
    replace hids := hids.mono he5
    simp (disch := omega) only [↓stp, vls, inf, frs, mark_eq, ↓reduceIte, Nat.reduceEqDiff, ite_tt, ite_ff, eq_self, and_true, true_and, and_self, implies_true, Bool.true_eq_false, Bool.false_eq_true, decide_true, decide_false, decide_eq_true_eq, decide_eq_false_iff_not, ne_eq, not_true_eq_false, not_false_eq_true, Bool.not_eq_true', Bool.not_eq_false', beq_self_eq_true, Bool.not_true, Bool.not_false, List.getElem?_toArray, List.getElem?_cons_zero, List.getElem?_cons_succ, h2, h3, h5, h6, add_at, kp, m0, m1, m2, e1', e2', e3']
    refine ⟨fun e4' => ?_, fun e4' => ?_⟩ <;> simp (disch := omega) only [↓stp, vls, inf, frs, mark_eq, ↓reduceIte, Nat.reduceEqDiff, ite_tt, ite_ff, eq_self, and_true, true_and, and_self, implies_true, Bool.true_eq_false, Bool.false_eq_true, decide_true, decide_false, decide_eq_true_eq, decide_eq_false_iff_not, ne_eq, not_true_eq_false, not_false_eq_true, Bool.not_eq_true', Bool.not_eq_false', beq_self_eq_true, Bool.not_true, Bool.not_false, List.getElem?_toArray, List.getElem?_cons_zero, List.getElem?_cons_succ, h2, h3, h5, h6, add_at, kp, m0, m1, m2, e1', e2', e3', e4']
    rotate_left
    · refine ⟨?_, l.ext⟩
      unfold worldB
      rw [hn, e1', e2', e3', e4']
      rfl
    refine (spec_validFixtures_c V5 _ x _ w.2.1 (suiteS_mk (g0.mono l.ext) (g1.mono l.ext)) (w1.mono l.ext)).mono ?_
    rintro _ V6 ⟨rfl, he6⟩
    replace l := l.step he6
    have kp := he6.part kp
    have m0 := l.cell (i := 1) rfl (o := 0) rfl rfl
    have m1 := l.cell (i := 1) rfl (o := 1) rfl rfl
    have m2 := l.cell (i := 1) rfl (o := 2) rfl rfl
    replace hids := hids.mono he6
    simp (disch := omega) only [↓stp, vls, inf, frs, mark_eq, ↓reduceIte, Nat.reduceEqDiff, ite_tt, ite_ff, eq_self, and_true, true_and, and_self, implies_true, Bool.true_eq_false, Bool.false_eq_true, decide_true, decide_false, decide_eq_true_eq, decide_eq_false_iff_not, ne_eq, not_true_eq_false, not_false_eq_true, Bool.not_eq_true', Bool.not_eq_false', beq_self_eq_true, Bool.not_true, Bool.not_false, List.getElem?_toArray, List.getElem?_cons_zero, List.getElem?_cons_succ, h2, h3, h5, h6, add_at, kp, m0, m1, m2, e1', e2', e3', e4']
    refine ⟨?_, l.ext⟩
    unfold worldB
    rw [hn, e1', e2', e3', e4']
    rfl

theorem spec_ValidWorld_c (A : View) (d e : List Value) (x : SuiteD) (w : WorldD) (h : suiteS.rel A x d) (h' : worldS.rel A w e) (hsm : w.2.2.2.1.length ≤ 1048576) : ACalls Try.prog 44 #[.agg d.toArray, .agg e.toArray] A fun r A' => r = .bool (worldB x w) ∧ Ext A A' := by
  obtain ⟨u0, u1, rfl, g0, g1⟩ := suiteS_open h
  obtain ⟨a0, c0, rfl, _, _⟩ := g0.slice
  obtain ⟨a1, c1, rfl, _, _⟩ := g1.slice
  obtain ⟨v0, v1, v2, v3, rfl, w0, w1, w2, w3⟩ := worldS_open h'
  obtain ⟨b0, e0, rfl, _, _⟩ := w0.slice
  obtain ⟨b1, e1, rfl, _, _⟩ := w1.slice
  obtain ⟨b2, e2, rfl, _, _⟩ := w2.slice
  obtain ⟨b3, e3, rfl, _, _⟩ := w3.slice
  refine acalls Try.func44 rfl (by kernel_rfl) ?_
  simp (disch := omega) only [↓stp, vls, inf, frs, mark_eq, ↓reduceIte, Nat.reduceEqDiff, ite_tt, ite_ff, eq_self, and_true, true_and, and_self, implies_true, Bool.true_eq_false, Bool.false_eq_true, decide_true, decide_false, decide_eq_true_eq, decide_eq_false_iff_not, ne_eq, not_true_eq_false, not_false_eq_true, Bool.not_eq_true', Bool.not_eq_false', beq_self_eq_true, Bool.not_true, Bool.not_false, List.getElem?_toArray, List.getElem?_cons_zero, List.getElem?_cons_succ]
  refine led_box (Led.nil A) rfl fun q V he l => ?_
  simp (disch := omega) only [↓stp, vls, inf, frs, mark_eq, ↓reduceIte, Nat.reduceEqDiff, ite_tt, ite_ff, eq_self, and_true, true_and, and_self, implies_true, Bool.true_eq_false, Bool.false_eq_true, decide_true, decide_false, decide_eq_true_eq, decide_eq_false_iff_not, ne_eq, not_true_eq_false, not_false_eq_true, Bool.not_eq_true', Bool.not_eq_false', beq_self_eq_true, Bool.not_true, Bool.not_false, List.getElem?_toArray, List.getElem?_cons_zero, List.getElem?_cons_succ]
  refine led_box l rfl fun p V he l => ?_
  have kp : V.part ⟨q, 0, none⟩ 2 = some _ := l.part (i := 1) rfl rfl
  have kw : V.part ⟨p, 0, none⟩ 4 = some _ := l.part (i := 0) rfl rfl
  simp (disch := omega) only [↓stp, vls, inf, frs, mark_eq, ↓reduceIte, Nat.reduceEqDiff, ite_tt, ite_ff, eq_self, and_true, true_and, and_self, implies_true, Bool.true_eq_false, Bool.false_eq_true, decide_true, decide_false, decide_eq_true_eq, decide_eq_false_iff_not, ne_eq, not_true_eq_false, not_false_eq_true, Bool.not_eq_true', Bool.not_eq_false', beq_self_eq_true, Bool.not_true, Bool.not_false, List.getElem?_toArray, List.getElem?_cons_zero, List.getElem?_cons_succ, kp, kw]
  refine (spec_validWorld_c V _ _ x w (suiteS_mk (g0.mono l.ext) (g1.mono l.ext)) (worldS_mk (w0.mono l.ext) (w1.mono l.ext) (w2.mono l.ext) (w3.mono l.ext)) hsm).mono ?_
  rintro _ V2 ⟨rfl, he2⟩
  simp (disch := omega) only [↓stp, vls, inf, frs, mark_eq, ↓reduceIte, Nat.reduceEqDiff, ite_tt, ite_ff, eq_self, and_true, true_and, and_self, implies_true, Bool.true_eq_false, Bool.false_eq_true, decide_true, decide_false, decide_eq_true_eq, decide_eq_false_iff_not, ne_eq, not_true_eq_false, not_false_eq_true, Bool.not_eq_true', Bool.not_eq_false', beq_self_eq_true, Bool.not_true, Bool.not_false, List.getElem?_toArray, List.getElem?_cons_zero, List.getElem?_cons_succ]
  exact l.ext.trans he2

theorem worldB_iff {x : SuiteD} {w : WorldD} : worldB x w = true ↔ (validB x = true ∧ w.2.2.1.Nodup ∧ w.1.Nodup ∧ w.2.1.Nodup) ∧ w.2.2.2.1.all tmB = true ∧ (w.2.2.1 ++ w.2.2.2.1.map (·.1)).all (okId x) = true ∧ (w.1 ++ w.2.1).all (okFx x) = true ∧ (w.2.2.2.1.map (·.1)).Nodup := by
  unfold worldB idsW fxsW
  simp only [Bool.and_eq_true, decide_eq_true_eq, List.all_append]
  constructor
  · rintro ⟨h1, h2, ⟨h3, h4⟩, ⟨h5, h6⟩, ⟨h7, h8⟩, h9, h10⟩
    exact ⟨⟨h2, h4, h8, h10⟩, h1, ⟨h3, h5⟩, ⟨h7, h9⟩, h6⟩
  · rintro ⟨⟨h2, h4, h8, h10⟩, h1, ⟨h3, h5⟩, ⟨h7, h9⟩, h6⟩
    exact ⟨h1, h2, ⟨h3, h4⟩, ⟨h5, h6⟩, ⟨h7, h8⟩, h9, h10⟩
theorem worldB_no {x : SuiteD} {w : WorldD} (h : ¬ ((validB x = true ∧ w.2.2.1.Nodup ∧ w.1.Nodup ∧ w.2.1.Nodup) ∧ w.2.2.2.1.all tmB = true ∧ (w.2.2.1 ++ w.2.2.2.1.map (·.1)).all (okId x) = true ∧ (w.1 ++ w.2.1).all (okFx x) = true ∧ (w.2.2.2.1.map (·.1)).Nodup)) : worldB x w = false := by
  cases hw : worldB x w
  · rfl
  · exact absurd (worldB_iff.1 hw) h

theorem impl_ValidWorld_c (A : View) (d e : List Value) (x : SuiteD) (w : WorldD) (h : suiteS.rel A x d) (h' : worldS.rel A w e) (hs0 : x.1.length ≤ 1048576) (hs1 : x.2.1.length ≤ 1048576) (hs2 : w.1.length ≤ 1048576) (hs3 : w.2.1.length ≤ 1048576) (hs4 : w.2.2.1.length ≤ 1048576) (hs5 : w.2.2.2.1.length ≤ 1048576) : ACalls Try.prog 43 #[.agg d.toArray, .agg e.toArray] A fun r A' => r = .bool (worldB x w) ∧ Ext A A' := by
  obtain ⟨u0, u1, rfl, g0, g1⟩ := suiteS_open h
  obtain ⟨a0, c0, rfl, _, _⟩ := g0.slice
  obtain ⟨a1, c1, rfl, _, _⟩ := g1.slice
  obtain ⟨v0, v1, v2, v3, rfl, w0, w1, w2, w3⟩ := worldS_open h'
  obtain ⟨b0, e0, rfl, _, _⟩ := w0.slice
  obtain ⟨b1, e1, rfl, _, _⟩ := w1.slice
  obtain ⟨b2, e2, rfl, _, _⟩ := w2.slice
  obtain ⟨b3, e3, rfl, _, _⟩ := w3.slice
  refine acalls Try.func43 rfl (by kernel_rfl) ?_
  simp (disch := omega) only [↓stp, vls, inf, frs, mark_eq, ↓reduceIte, Nat.reduceEqDiff, ite_tt, ite_ff, eq_self, and_true, true_and, and_self, implies_true, Bool.true_eq_false, Bool.false_eq_true, decide_true, decide_false, decide_eq_true_eq, decide_eq_false_iff_not, ne_eq, not_true_eq_false, not_false_eq_true, Bool.not_eq_true', Bool.not_eq_false', beq_self_eq_true, Bool.not_true, Bool.not_false, List.getElem?_toArray, List.getElem?_cons_zero, List.getElem?_cons_succ]
  refine led_box (Led.nil A) rfl fun q V he l => ?_
  simp (disch := omega) only [↓stp, vls, inf, frs, mark_eq, ↓reduceIte, Nat.reduceEqDiff, ite_tt, ite_ff, eq_self, and_true, true_and, and_self, implies_true, Bool.true_eq_false, Bool.false_eq_true, decide_true, decide_false, decide_eq_true_eq, decide_eq_false_iff_not, ne_eq, not_true_eq_false, not_false_eq_true, Bool.not_eq_true', Bool.not_eq_false', beq_self_eq_true, Bool.not_true, Bool.not_false, List.getElem?_toArray, List.getElem?_cons_zero, List.getElem?_cons_succ]
  refine led_box l rfl fun p V he l => ?_
  have kp : V.part ⟨q, 0, none⟩ 2 = some _ := l.part (i := 1) rfl rfl
  simp (disch := omega) only [↓stp, vls, inf, frs, mark_eq, ↓reduceIte, Nat.reduceEqDiff, ite_tt, ite_ff, eq_self, and_true, true_and, and_self, implies_true, Bool.true_eq_false, Bool.false_eq_true, decide_true, decide_false, decide_eq_true_eq, decide_eq_false_iff_not, ne_eq, not_true_eq_false, not_false_eq_true, Bool.not_eq_true', Bool.not_eq_false', beq_self_eq_true, Bool.not_true, Bool.not_false, List.getElem?_toArray, List.getElem?_cons_zero, List.getElem?_cons_succ, kp]
  refine (impl_validB_c V _ x (suiteS_mk (g0.mono l.ext) (g1.mono l.ext)) (by omega) (by omega)).mono ?_
  rintro _ V2 ⟨rfl, he2⟩
  replace l := l.step he2
  have m0 := l.cell (i := 0) rfl (o := 0) rfl rfl
  have m1 := l.cell (i := 0) rfl (o := 1) rfl rfl
  have m2 := l.cell (i := 0) rfl (o := 2) rfl rfl
  have m3 := l.cell (i := 0) rfl (o := 3) rfl rfl
  simp (disch := omega) only [↓stp, vls, inf, frs, mark_eq, ↓reduceIte, Nat.reduceEqDiff, ite_tt, ite_ff, eq_self, and_true, true_and, and_self, implies_true, Bool.true_eq_false, Bool.false_eq_true, decide_true, decide_false, decide_eq_true_eq, decide_eq_false_iff_not, ne_eq, not_true_eq_false, not_false_eq_true, Bool.not_eq_true', Bool.not_eq_false', beq_self_eq_true, Bool.not_true, Bool.not_false, List.getElem?_toArray, List.getElem?_cons_zero, List.getElem?_cons_succ, add_at, m0, m1, m2]
  refine ⟨fun e1' => ?_, fun e1' => ?_⟩ <;> simp (disch := omega) only [↓stp, vls, inf, frs, mark_eq, ↓reduceIte, Nat.reduceEqDiff, ite_tt, ite_ff, eq_self, and_true, true_and, and_self, implies_true, Bool.true_eq_false, Bool.false_eq_true, decide_true, decide_false, decide_eq_true_eq, decide_eq_false_iff_not, ne_eq, not_true_eq_false, not_false_eq_true, Bool.not_eq_true', Bool.not_eq_false', beq_self_eq_true, Bool.not_true, Bool.not_false, List.getElem?_toArray, List.getElem?_cons_zero, List.getElem?_cons_succ, add_at, m0, m1, m2, e1']
  rotate_left
  · exact ⟨by rw [worldB_no fun h => by simp [e1'] at h], l.ext⟩
  refine (impl_apart_c V2 _ _ (w2.mono l.ext)).mono ?_
  rintro _ V2 ⟨rfl, rfl⟩
  have m0 := l.cell (i := 0) rfl (o := 0) rfl rfl
  have m1 := l.cell (i := 0) rfl (o := 1) rfl rfl
  have m2 := l.cell (i := 0) rfl (o := 2) rfl rfl
  have m3 := l.cell (i := 0) rfl (o := 3) rfl rfl
  simp (disch := omega) only [↓stp, vls, inf, frs, mark_eq, ↓reduceIte, Nat.reduceEqDiff, ite_tt, ite_ff, eq_self, and_true, true_and, and_self, implies_true, Bool.true_eq_false, Bool.false_eq_true, decide_true, decide_false, decide_eq_true_eq, decide_eq_false_iff_not, ne_eq, not_true_eq_false, not_false_eq_true, Bool.not_eq_true', Bool.not_eq_false', beq_self_eq_true, Bool.not_true, Bool.not_false, List.getElem?_toArray, List.getElem?_cons_zero, List.getElem?_cons_succ, add_at, m0, m1, m2, e1']
  refine ⟨fun e2' => ?_, fun e2' => ?_⟩ <;> simp (disch := omega) only [↓stp, vls, inf, frs, mark_eq, ↓reduceIte, Nat.reduceEqDiff, ite_tt, ite_ff, eq_self, and_true, true_and, and_self, implies_true, Bool.true_eq_false, Bool.false_eq_true, decide_true, decide_false, decide_eq_true_eq, decide_eq_false_iff_not, ne_eq, not_true_eq_false, not_false_eq_true, Bool.not_eq_true', Bool.not_eq_false', beq_self_eq_true, Bool.not_true, Bool.not_false, List.getElem?_toArray, List.getElem?_cons_zero, List.getElem?_cons_succ, add_at, m0, m1, m2, e1', e2']
  rotate_left
  · exact ⟨by rw [worldB_no fun h => by simp [e2'] at h], l.ext⟩
  refine (impl_apart_c V2 _ _ (w0.mono l.ext)).mono ?_
  rintro _ V2 ⟨rfl, rfl⟩
  have m0 := l.cell (i := 0) rfl (o := 0) rfl rfl
  have m1 := l.cell (i := 0) rfl (o := 1) rfl rfl
  have m2 := l.cell (i := 0) rfl (o := 2) rfl rfl
  have m3 := l.cell (i := 0) rfl (o := 3) rfl rfl
  simp (disch := omega) only [↓stp, vls, inf, frs, mark_eq, ↓reduceIte, Nat.reduceEqDiff, ite_tt, ite_ff, eq_self, and_true, true_and, and_self, implies_true, Bool.true_eq_false, Bool.false_eq_true, decide_true, decide_false, decide_eq_true_eq, decide_eq_false_iff_not, ne_eq, not_true_eq_false, not_false_eq_true, Bool.not_eq_true', Bool.not_eq_false', beq_self_eq_true, Bool.not_true, Bool.not_false, List.getElem?_toArray, List.getElem?_cons_zero, List.getElem?_cons_succ, add_at, m0, m1, m2, e1', e2']
  refine ⟨fun e3' => ?_, fun e3' => ?_⟩ <;> simp (disch := omega) only [↓stp, vls, inf, frs, mark_eq, ↓reduceIte, Nat.reduceEqDiff, ite_tt, ite_ff, eq_self, and_true, true_and, and_self, implies_true, Bool.true_eq_false, Bool.false_eq_true, decide_true, decide_false, decide_eq_true_eq, decide_eq_false_iff_not, ne_eq, not_true_eq_false, not_false_eq_true, Bool.not_eq_true', Bool.not_eq_false', beq_self_eq_true, Bool.not_true, Bool.not_false, List.getElem?_toArray, List.getElem?_cons_zero, List.getElem?_cons_succ, add_at, m0, m1, m2, e1', e2', e3']
  rotate_left
  · exact ⟨by rw [worldB_no fun h => by simp [e3'] at h], l.ext⟩
  refine (impl_apart_c V2 _ _ (w1.mono l.ext)).mono ?_
  rintro _ V2 ⟨rfl, rfl⟩
  have m0 := l.cell (i := 0) rfl (o := 0) rfl rfl
  have m1 := l.cell (i := 0) rfl (o := 1) rfl rfl
  have m2 := l.cell (i := 0) rfl (o := 2) rfl rfl
  have m3 := l.cell (i := 0) rfl (o := 3) rfl rfl
  simp (disch := omega) only [↓stp, vls, inf, frs, mark_eq, ↓reduceIte, Nat.reduceEqDiff, ite_tt, ite_ff, eq_self, and_true, true_and, and_self, implies_true, Bool.true_eq_false, Bool.false_eq_true, decide_true, decide_false, decide_eq_true_eq, decide_eq_false_iff_not, ne_eq, not_true_eq_false, not_false_eq_true, Bool.not_eq_true', Bool.not_eq_false', beq_self_eq_true, Bool.not_true, Bool.not_false, List.getElem?_toArray, List.getElem?_cons_zero, List.getElem?_cons_succ, add_at, m0, m1, m2, e1', e2', e3']
  refine ⟨fun e4' => ?_, fun e4' => ?_⟩ <;> simp (disch := omega) only [↓stp, vls, inf, frs, mark_eq, ↓reduceIte, Nat.reduceEqDiff, ite_tt, ite_ff, eq_self, and_true, true_and, and_self, implies_true, Bool.true_eq_false, Bool.false_eq_true, decide_true, decide_false, decide_eq_true_eq, decide_eq_false_iff_not, ne_eq, not_true_eq_false, not_false_eq_true, Bool.not_eq_true', Bool.not_eq_false', beq_self_eq_true, Bool.not_true, Bool.not_false, List.getElem?_toArray, List.getElem?_cons_zero, List.getElem?_cons_succ]
  · exact ⟨by rw [worldB_no fun h => absurd h.1.2.2.2 e4'], l.ext⟩
  refine led_lit0 (O := strO) li31 l fun b V _ l => ?_
  have m3 := l.cell (i := 1) rfl (o := 3) rfl rfl
  simp (disch := omega) only [↓stp, vls, inf, frs, mark_eq, ↓reduceIte, Nat.reduceEqDiff, ite_tt, ite_ff, eq_self, and_true, true_and, and_self, implies_true, Bool.true_eq_false, Bool.false_eq_true, decide_true, decide_false, decide_eq_true_eq, decide_eq_false_iff_not, ne_eq, not_true_eq_false, not_false_eq_true, Bool.not_eq_true', Bool.not_eq_false', beq_self_eq_true, Bool.not_true, Bool.not_false, List.getElem?_toArray, List.getElem?_cons_zero, List.getElem?_cons_succ, add_at, m3]
  refine aloop (fun d fr V => ∃ (i : Nat) (fp : List Nat) (v : Value), i ≤ w.2.2.2.1.length ∧ d = w.2.2.2.1.length - i ∧ Led A [osl 9 strO fp v ((w.2.2.2.1.take i).map (·.1)), bx p ⟨57, [.slice b0 w.1.length e0, .slice b1 w.2.1.length e1, .slice b2 w.2.2.1.length e2, .slice b3 w.2.2.2.1.length e3], 4, true⟩, bx q ⟨26, [.slice a0 x.1.length c0, .slice a1 x.2.1.length c1], 2, true⟩] V ∧ fr 2 = .pointer (some ⟨q, 0, none⟩) ∧ fr 3 = .pointer (some ⟨p, 0, none⟩) ∧ fr 5 = v ∧ fr 35 = .slice b3 w.2.2.2.1.length e3 ∧ fr 36 = .int .i64 w.2.2.2.1.length ∧ fr 37 = .int .i64 i ∧ (w.2.2.2.1.take i).all tmB = true) w.2.2.2.1.length ⟨0, _, _, by omega, by omega, l, by rfl, by rfl, by rfl, by rfl, by rfl, by rfl, rfl⟩ ?_
  clear l m0 m1 m2 m3 he
  rintro d fr V ⟨i, fp, v, hi, rfl, l, h2, h3, h5, h35, h36, h37, hn⟩
  simp (disch := omega) only [↓stp, vls, inf, frs, mark_eq, ↓reduceIte, Nat.reduceEqDiff, ite_tt, ite_ff, eq_self, and_true, true_and, and_self, implies_true, Bool.true_eq_false, Bool.false_eq_true, decide_true, decide_false, decide_eq_true_eq, decide_eq_false_iff_not, ne_eq, not_true_eq_false, not_false_eq_true, Bool.not_eq_true', Bool.not_eq_false', beq_self_eq_true, Bool.not_true, Bool.not_false, List.getElem?_toArray, List.getElem?_cons_zero, List.getElem?_cons_succ, h2, h3, h5, h35, h36, h37]
  refine ⟨fun e => ?_, fun e => ?_⟩
  · have hlt : i < w.2.2.2.1.length := by omega
    obtain ⟨ad, rfl, hclA, z1, z2⟩ := w3.flaky hlt
    have hcl := l.ext.part hclA
    simp (disch := omega) only [↓stp, vls, inf, frs, mark_eq, ↓reduceIte, Nat.reduceEqDiff, ite_tt, ite_ff, eq_self, and_true, true_and, and_self, implies_true, Bool.true_eq_false, Bool.false_eq_true, decide_true, decide_false, decide_eq_true_eq, decide_eq_false_iff_not, ne_eq, not_true_eq_false, not_false_eq_true, Bool.not_eq_true', Bool.not_eq_false', beq_self_eq_true, Bool.not_true, Bool.not_false, List.getElem?_toArray, List.getElem?_cons_zero, List.getElem?_cons_succ, h2, h3, h5, h35, h36, h37, hcl]
    refine led_alloc zc95 l fun q5 V5 he5 l => ?_
    simp (disch := omega) only [↓stp, vls, inf, frs, mark_eq, ↓reduceIte, Nat.reduceEqDiff, ite_tt, ite_ff, eq_self, and_true, true_and, and_self, implies_true, Bool.true_eq_false, Bool.false_eq_true, decide_true, decide_false, decide_eq_true_eq, decide_eq_false_iff_not, ne_eq, not_true_eq_false, not_false_eq_true, Bool.not_eq_true', Bool.not_eq_false', beq_self_eq_true, Bool.not_true, Bool.not_false, List.getElem?_toArray, List.getElem?_cons_zero, List.getElem?_cons_succ, h2, h3, h5, h35, h36, h37]
    refine led_storeAll l 0 rfl sz95 rfl rfl (by simp [Value.oneCell']) fun V6 l => ?_
    have t0 := l.cell (i := 0) rfl (o := 0) rfl rfl
    have t1 := l.cell (i := 0) rfl (o := 1) rfl rfl
    simp (disch := omega) only [↓stp, vls, inf, frs, mark_eq, ↓reduceIte, Nat.reduceEqDiff, ite_tt, ite_ff, eq_self, and_true, true_and, and_self, implies_true, Bool.true_eq_false, Bool.false_eq_true, decide_true, decide_false, decide_eq_true_eq, decide_eq_false_iff_not, ne_eq, not_true_eq_false, not_false_eq_true, Bool.not_eq_true', Bool.not_eq_false', beq_self_eq_true, Bool.not_true, Bool.not_false, List.getElem?_toArray, List.getElem?_cons_zero, List.getElem?_cons_succ, h2, h3, h5, h35, h36, h37, add_at, t1]
    have hbad : tmB (w.2.2.2.1[i]) = false → worldB x w = false := fun hb => worldB_no fun h => by
      rw [all_no (p := tmB) hlt hb] at h
      exact absurd h.2.1 Bool.false_ne_true
    refine ⟨fun f1 => ?_, fun f1 => ?_⟩ <;> simp (disch := omega) only [↓stp, vls, inf, frs, mark_eq, ↓reduceIte, Nat.reduceEqDiff, ite_tt, ite_ff, eq_self, and_true, true_and, and_self, implies_true, Bool.true_eq_false, Bool.false_eq_true, decide_true, decide_false, decide_eq_true_eq, decide_eq_false_iff_not, ne_eq, not_true_eq_false, not_false_eq_true, Bool.not_eq_true', Bool.not_eq_false', beq_self_eq_true, Bool.not_true, Bool.not_false, List.getElem?_toArray, List.getElem?_cons_zero, List.getElem?_cons_succ, h2, h3, h5, h35, h36, h37, add_at, t1, f1]
    · refine ⟨fun f2 => ?_, fun f2 => ?_⟩ <;> simp (disch := omega) only [↓stp, vls, inf, frs, mark_eq, ↓reduceIte, Nat.reduceEqDiff, ite_tt, ite_ff, eq_self, and_true, true_and, and_self, implies_true, Bool.true_eq_false, Bool.false_eq_true, decide_true, decide_false, decide_eq_true_eq, decide_eq_false_iff_not, ne_eq, not_true_eq_false, not_false_eq_true, Bool.not_eq_true', Bool.not_eq_false', beq_self_eq_true, Bool.not_true, Bool.not_false, List.getElem?_toArray, List.getElem?_cons_zero, List.getElem?_cons_succ, h2, h3, h5, h35, h36, h37, add_at, t0]
      · exact ⟨by rw [hbad (by unfold tmB; rw [decide_eq_false (show ¬ (w.2.2.2.1[i]).2.1 ≤ 3 by omega), Bool.and_false])], l.ext⟩
      · refine led_lit li31 (by omega) rfl (fun p hp => by rcases List.mem_singleton.1 hp with rfl; exact ⟨rfl, rfl⟩) l fun bl V3 _ l => ?_
        simp (disch := omega) only [↓stp, vls, inf, frs, mark_eq, ↓reduceIte, Nat.reduceEqDiff, ite_tt, ite_ff, eq_self, and_true, true_and, and_self, implies_true, Bool.true_eq_false, Bool.false_eq_true, decide_true, decide_false, decide_eq_true_eq, decide_eq_false_iff_not, ne_eq, not_true_eq_false, not_false_eq_true, Bool.not_eq_true', Bool.not_eq_false', beq_self_eq_true, Bool.not_true, Bool.not_false, List.getElem?_toArray, List.getElem?_cons_zero, List.getElem?_cons_succ, h2, h3, h5, h35, h36, h37]
        refine led_app (O := strO) ap31_31 (by decide) l (i := 2) rfl (l.src1 (S := strS) (j := 0) rfl ⟨rfl, z1⟩) (by rw [List.length_singleton, List.length_map, List.length_take]; omega) fun fp2 w2 V4 _ l => ?_
        simp (disch := omega) only [↓stp, vls, inf, frs, mark_eq, ↓reduceIte, Nat.reduceEqDiff, ite_tt, ite_ff, eq_self, and_true, true_and, and_self, implies_true, Bool.true_eq_false, Bool.false_eq_true, decide_true, decide_false, decide_eq_true_eq, decide_eq_false_iff_not, ne_eq, not_true_eq_false, not_false_eq_true, Bool.not_eq_true', Bool.not_eq_false', beq_self_eq_true, Bool.not_true, Bool.not_false, List.getElem?_toArray, List.getElem?_cons_zero, List.getElem?_cons_succ, h2, h3, h5, h35, h36, h37]
        exact ⟨_, by omega, i + 1, _, _, by omega, rfl, by rw [map_take1 hlt]; exact l.sub (.cons _ (.cons _ (List.Sublist.refl _))), rfl, rfl, all_take hlt hn (by unfold tmB; rw [decide_eq_true (show 1 ≤ (w.2.2.2.1[i]).2.1 by omega), decide_eq_true (show (w.2.2.2.1[i]).2.1 ≤ 3 by omega)]; rfl)⟩
    · exact ⟨by rw [hbad (by unfold tmB; rw [decide_eq_false (show ¬ 1 ≤ (w.2.2.2.1[i]).2.1 by omega), Bool.false_and])], l.ext⟩
  rw [List.take_of_length_le (by omega)] at l hn
  have m2 := l.cell (i := 1) rfl (o := 2) rfl rfl
  simp (disch := omega) only [↓stp, vls, inf, frs, mark_eq, ↓reduceIte, Nat.reduceEqDiff, ite_tt, ite_ff, eq_self, and_true, true_and, and_self, implies_true, Bool.true_eq_false, Bool.false_eq_true, decide_true, decide_false, decide_eq_true_eq, decide_eq_false_iff_not, ne_eq, not_true_eq_false, not_false_eq_true, Bool.not_eq_true', Bool.not_eq_false', beq_self_eq_true, Bool.not_true, Bool.not_false, List.getElem?_toArray, List.getElem?_cons_zero, List.getElem?_cons_succ, h2, h3, h5, h35, h36, h37, add_at, m2]
  refine (cloneString_c V _ _ (w2.mono l.ext) (by omega)).mono ?_
  rintro r V5 ⟨fc, l1⟩
  replace l := l.append l1
  simp (disch := omega) only [↓stp, vls, inf, frs, mark_eq, ↓reduceIte, Nat.reduceEqDiff, ite_tt, ite_ff, eq_self, and_true, true_and, and_self, implies_true, Bool.true_eq_false, Bool.false_eq_true, decide_true, decide_false, decide_eq_true_eq, decide_eq_false_iff_not, ne_eq, not_true_eq_false, not_false_eq_true, Bool.not_eq_true', Bool.not_eq_false', beq_self_eq_true, Bool.not_true, Bool.not_false, List.getElem?_toArray, List.getElem?_cons_zero, List.getElem?_cons_succ, h2, h3, h5, h35, h36, h37]
  refine led_app (O := strO) ap31_31 (by decide) l (i := 0) rfl (Sl.srcOf (OSl.toS (show OSl 9 strO V5 fp v _ from l.at (i := 1) rfl))) (by rw [List.length_map]; omega) fun fr1 wr V6 _ l => ?_
  generalize hR : w.2.2.1 ++ w.2.2.2.1.map (·.1) = R at l
  obtain ⟨ar, cr, rfl, _, _⟩ := (OSl.toS (show OSl 9 strO V6 fr1 wr R from l.at (i := 0) rfl)).slice
  simp (disch := omega) only [↓stp, vls, inf, frs, mark_eq, ↓reduceIte, Nat.reduceEqDiff, ite_tt, ite_ff, eq_self, and_true, true_and, and_self, implies_true, Bool.true_eq_false, Bool.false_eq_true, decide_true, decide_false, decide_eq_true_eq, decide_eq_false_iff_not, ne_eq, not_true_eq_false, not_false_eq_true, Bool.not_eq_true', Bool.not_eq_false', beq_self_eq_true, Bool.not_true, Bool.not_false, List.getElem?_toArray, List.getElem?_cons_zero, List.getElem?_cons_succ, h2, h3, h5, h35, h36, h37]
  refine aloop (fun d fr V => ∃ i : Nat, i ≤ R.length ∧ d = R.length - i ∧ Led A [osl 9 strO fr1 (.slice ar R.length cr) R, osl 9 strO fp v (w.2.2.2.1.map fun f : FlakyD => f.1), bx p ⟨57, [.slice b0 w.1.length e0, .slice b1 w.2.1.length e1, .slice b2 w.2.2.1.length e2, .slice b3 w.2.2.2.1.length e3], 4, true⟩, bx q ⟨26, [.slice a0 x.1.length c0, .slice a1 x.2.1.length c1], 2, true⟩] V ∧ fr 2 = .pointer (some ⟨q, 0, none⟩) ∧ fr 3 = .pointer (some ⟨p, 0, none⟩) ∧ fr 5 = v ∧ fr 59 = .slice ar R.length cr ∧ fr 60 = .int .i64 R.length ∧ fr 61 = .int .i64 i ∧ (R.take i).all (okId x) = true) R.length ⟨0, by omega, by omega, l, h2, h3, h5, by rfl, by rfl, by rfl, rfl⟩ ?_
  clear l l1 m2 h2 h3 h5 h35 h36 h37
  rintro d fr V ⟨i, hi, rfl, l, h2, h3, h5, h59, h60, h61, hn2⟩
  have k1 := l.cell (i := 3) rfl (o := 1) rfl rfl
  simp (disch := omega) only [↓stp, vls, inf, frs, mark_eq, ↓reduceIte, Nat.reduceEqDiff, ite_tt, ite_ff, eq_self, and_true, true_and, and_self, implies_true, Bool.true_eq_false, Bool.false_eq_true, decide_true, decide_false, decide_eq_true_eq, decide_eq_false_iff_not, ne_eq, not_true_eq_false, not_false_eq_true, Bool.not_eq_true', Bool.not_eq_false', beq_self_eq_true, Bool.not_true, Bool.not_false, List.getElem?_toArray, List.getElem?_cons_zero, List.getElem?_cons_succ, h2, h3, h5, h59, h60, h61]
  refine ⟨fun e => ?_, fun e => ?_⟩
  · have hlt : i < R.length := by omega
    obtain ⟨ad, rfl, kk, zk⟩ := (OSl.toS (show OSl 9 strO V fr1 _ R from l.at (i := 0) rfl)).str hlt
    simp (disch := omega) only [↓stp, vls, inf, frs, mark_eq, ↓reduceIte, Nat.reduceEqDiff, ite_tt, ite_ff, eq_self, and_true, true_and, and_self, implies_true, Bool.true_eq_false, Bool.false_eq_true, decide_true, decide_false, decide_eq_true_eq, decide_eq_false_iff_not, ne_eq, not_true_eq_false, not_false_eq_true, Bool.not_eq_true', Bool.not_eq_false', beq_self_eq_true, Bool.not_true, Bool.not_false, List.getElem?_toArray, List.getElem?_cons_zero, List.getElem?_cons_succ, h2, h3, h5, h59, h60, h61, add_at, k1, kk]
    refine (impl_FindTest_c V _ x.2.1 R[i] (g1.mono l.ext) (by omega)).mono ?_
    rintro _ V3 ⟨rfl, he3⟩
    rw [findV_of e1']
    replace l := l.step he3
    simp (disch := omega) only [↓stp, vls, inf, frs, mark_eq, ↓reduceIte, Nat.reduceEqDiff, ite_tt, ite_ff, eq_self, and_true, true_and, and_self, implies_true, Bool.true_eq_false, Bool.false_eq_true, decide_true, decide_false, decide_eq_true_eq, decide_eq_false_iff_not, ne_eq, not_true_eq_false, not_false_eq_true, Bool.not_eq_true', Bool.not_eq_false', beq_self_eq_true, Bool.not_true, Bool.not_false, List.getElem?_toArray, List.getElem?_cons_zero, List.getElem?_cons_succ, h2, h3, h5, h59, h60, h61]
    refine ⟨fun f1 => ?_, fun f1 => ?_⟩ <;> simp (disch := omega) only [↓stp, vls, inf, frs, mark_eq, ↓reduceIte, Nat.reduceEqDiff, ite_tt, ite_ff, eq_self, and_true, true_and, and_self, implies_true, Bool.true_eq_false, Bool.false_eq_true, decide_true, decide_false, decide_eq_true_eq, decide_eq_false_iff_not, ne_eq, not_true_eq_false, not_false_eq_true, Bool.not_eq_true', Bool.not_eq_false', beq_self_eq_true, Bool.not_true, Bool.not_false, List.getElem?_toArray, List.getElem?_cons_zero, List.getElem?_cons_succ, h2, h3, h5, h59, h60, h61]
    · refine ⟨?_, l.ext⟩
      rw [worldB_no fun h => ?_]
      rw [hR, all_no (p := okId x) hlt (by unfold okId; exact decide_eq_false (by omega))] at h
      exact absurd h.2.2.1 Bool.false_ne_true
    · exact ⟨_, by omega, i + 1, by omega, rfl, l, rfl, all_take hlt hn2 (by unfold okId; exact decide_eq_true (by omega))⟩
  rw [List.take_of_length_le (by omega)] at hn2
  have m0 := l.cell (i := 2) rfl (o := 0) rfl rfl
  have m1 := l.cell (i := 2) rfl (o := 1) rfl rfl
  simp (disch := omega) only [↓stp, vls, inf, frs, mark_eq, ↓reduceIte, Nat.reduceEqDiff, ite_tt, ite_ff, eq_self, and_true, true_and, and_self, implies_true, Bool.true_eq_false, Bool.false_eq_true, decide_true, decide_false, decide_eq_true_eq, decide_eq_false_iff_not, ne_eq, not_true_eq_false, not_false_eq_true, Bool.not_eq_true', Bool.not_eq_false', beq_self_eq_true, Bool.not_true, Bool.not_false, List.getElem?_toArray, List.getElem?_cons_zero, List.getElem?_cons_succ, h2, h3, h5, h59, h60, h61]
  refine adraw_items [.q 0, .l 1 false, .q 3, .l 4 true, .q 7, .c 2 [4], .c 5 [], .q 6] (by kernel_rfl) (by kernel_rfl) ?_
  simp (disch := omega) only [↓stp, ↓pln, plv, nilOk, Nat.reduceBEq, Bool.or_false, Bool.or_true, Bool.false_or, Bool.true_or, vls, inf, frs, mark_eq, ↓reduceIte, Nat.reduceEqDiff, ite_tt, ite_ff, eq_self, and_true, true_and, and_self, implies_true, Bool.true_eq_false, Bool.false_eq_true, decide_true, decide_false, decide_eq_true_eq, decide_eq_false_iff_not, ne_eq, not_true_eq_false, not_false_eq_true, Bool.not_eq_true', Bool.not_eq_false', beq_self_eq_true, Bool.not_true, Bool.not_false, List.getElem?_toArray, List.getElem?_cons_zero, List.getElem?_cons_succ, h2, h3, h5, h59, h60, h61, add_at, m0, m1]
  refine (cloneString_c V _ _ (w0.mono l.ext) (by omega)).mono ?_
  rintro r V5 ⟨fc2, l1⟩
  replace l := l.append l1
  have m0 := l.cell (i := 3) rfl (o := 0) rfl rfl
  have m1 := l.cell (i := 3) rfl (o := 1) rfl rfl
  simp (disch := omega) only [↓stp, ↓pln, plv, nilOk, Nat.reduceBEq, Bool.or_false, Bool.or_true, Bool.false_or, Bool.true_or, vls, inf, frs, mark_eq, ↓reduceIte, Nat.reduceEqDiff, ite_tt, ite_ff, eq_self, and_true, true_and, and_self, implies_true, Bool.true_eq_false, Bool.false_eq_true, decide_true, decide_false, decide_eq_true_eq, decide_eq_false_iff_not, ne_eq, not_true_eq_false, not_false_eq_true, Bool.not_eq_true', Bool.not_eq_false', beq_self_eq_true, Bool.not_true, Bool.not_false, List.getElem?_toArray, List.getElem?_cons_zero, List.getElem?_cons_succ, h2, h3, h5, h59, h60, h61, add_at, m0, m1]
  refine led_app (O := strO) ap31_31 (by decide) l (i := 0) rfl (Sl.srcOf (w1.mono l.ext)) (by omega) fun fs1 ws V6 _ l => ?_
  generalize hS : w.1 ++ w.2.1 = S at l
  obtain ⟨as1, cs1, rfl, _, _⟩ := (OSl.toS (show OSl 9 strO V6 fs1 ws S from l.at (i := 0) rfl)).slice
  have m0 := l.cell (i := 3) rfl (o := 0) rfl rfl
  have m1 := l.cell (i := 3) rfl (o := 1) rfl rfl
  simp (disch := omega) only [↓stp, ↓pln, plv, nilOk, Nat.reduceBEq, Bool.or_false, Bool.or_true, Bool.false_or, Bool.true_or, vls, inf, frs, mark_eq, ↓reduceIte, Nat.reduceEqDiff, ite_tt, ite_ff, eq_self, and_true, true_and, and_self, implies_true, Bool.true_eq_false, Bool.false_eq_true, decide_true, decide_false, decide_eq_true_eq, decide_eq_false_iff_not, ne_eq, not_true_eq_false, not_false_eq_true, Bool.not_eq_true', Bool.not_eq_false', beq_self_eq_true, Bool.not_true, Bool.not_false, List.getElem?_toArray, List.getElem?_cons_zero, List.getElem?_cons_succ, h2, h3, h5, h59, h60, h61, add_at, m0, m1, false_implies]
  refine aloop (fun d fr V => ∃ i : Nat, i ≤ S.length ∧ d = S.length - i ∧ Led A [osl 9 strO fs1 (.slice as1 S.length cs1) S, osl 9 strO fr1 (.slice ar R.length cr) R, osl 9 strO fp v (w.2.2.2.1.map fun f : FlakyD => f.1), bx p ⟨57, [.slice b0 w.1.length e0, .slice b1 w.2.1.length e1, .slice b2 w.2.2.1.length e2, .slice b3 w.2.2.2.1.length e3], 4, true⟩, bx q ⟨26, [.slice a0 x.1.length c0, .slice a1 x.2.1.length c1], 2, true⟩] V ∧ fr 2 = .pointer (some ⟨q, 0, none⟩) ∧ fr 5 = v ∧ fr 76 = .slice as1 S.length cs1 ∧ fr 77 = .int .i64 S.length ∧ fr 78 = .int .i64 i ∧ (S.take i).all (okFx x) = true) S.length ⟨0, by omega, by omega, l, h2, h5, by rfl, by rfl, by rfl, rfl⟩ ?_
  clear l l1 m0 m1 h2 h3 h5 h59 h60 h61
  rintro d fr V ⟨i, hi, rfl, l, h2, h5, h76, h77, h78, hn3⟩
  have kp : V.part ⟨q, 0, none⟩ 2 = some _ := l.part (i := 4) rfl rfl
  simp (disch := omega) only [↓stp, vls, inf, frs, mark_eq, ↓reduceIte, Nat.reduceEqDiff, ite_tt, ite_ff, eq_self, and_true, true_and, and_self, implies_true, Bool.true_eq_false, Bool.false_eq_true, decide_true, decide_false, decide_eq_true_eq, decide_eq_false_iff_not, ne_eq, not_true_eq_false, not_false_eq_true, Bool.not_eq_true', Bool.not_eq_false', beq_self_eq_true, Bool.not_true, Bool.not_false, List.getElem?_toArray, List.getElem?_cons_zero, List.getElem?_cons_succ, h2, h5, h76, h77, h78]
  refine ⟨fun e => ?_, fun e => ?_⟩
  · have hlt : i < S.length := by omega
    obtain ⟨ad, rfl, kk, zk⟩ := (OSl.toS (show OSl 9 strO V fs1 _ S from l.at (i := 0) rfl)).str hlt
    simp (disch := omega) only [↓stp, vls, inf, frs, mark_eq, ↓reduceIte, Nat.reduceEqDiff, ite_tt, ite_ff, eq_self, and_true, true_and, and_self, implies_true, Bool.true_eq_false, Bool.false_eq_true, decide_true, decide_false, decide_eq_true_eq, decide_eq_false_iff_not, ne_eq, not_true_eq_false, not_false_eq_true, Bool.not_eq_true', Bool.not_eq_false', beq_self_eq_true, Bool.not_true, Bool.not_false, List.getElem?_toArray, List.getElem?_cons_zero, List.getElem?_cons_succ, h2, h5, h76, h77, h78, kp, kk]
    refine (impl_fixtureAt_c V _ x S[i] (suiteS_mk (g0.mono l.ext) (g1.mono l.ext))).mono ?_
    rintro _ V3 ⟨rfl, he3⟩
    replace l := l.step he3
    simp (disch := omega) only [↓stp, vls, inf, frs, mark_eq, ↓reduceIte, Nat.reduceEqDiff, ite_tt, ite_ff, eq_self, and_true, true_and, and_self, implies_true, Bool.true_eq_false, Bool.false_eq_true, decide_true, decide_false, decide_eq_true_eq, decide_eq_false_iff_not, ne_eq, not_true_eq_false, not_false_eq_true, Bool.not_eq_true', Bool.not_eq_false', beq_self_eq_true, Bool.not_true, Bool.not_false, List.getElem?_toArray, List.getElem?_cons_zero, List.getElem?_cons_succ, h2, h5, h76, h77, h78]
    refine ⟨fun f1 => ?_, fun f1 => ?_⟩ <;> simp (disch := omega) only [↓stp, vls, inf, frs, mark_eq, ↓reduceIte, Nat.reduceEqDiff, ite_tt, ite_ff, eq_self, and_true, true_and, and_self, implies_true, Bool.true_eq_false, Bool.false_eq_true, decide_true, decide_false, decide_eq_true_eq, decide_eq_false_iff_not, ne_eq, not_true_eq_false, not_false_eq_true, Bool.not_eq_true', Bool.not_eq_false', beq_self_eq_true, Bool.not_true, Bool.not_false, List.getElem?_toArray, List.getElem?_cons_zero, List.getElem?_cons_succ, h2, h5, h76, h77, h78]
    · refine ⟨?_, l.ext⟩
      rw [worldB_no fun h => ?_]
      rw [hS, all_no (p := okFx x) hlt (by unfold okFx; exact decide_eq_false (by omega))] at h
      exact absurd h.2.2.2.1 Bool.false_ne_true
    · exact ⟨_, by omega, i + 1, by omega, rfl, l, rfl, all_take hlt hn3 (by unfold okFx; exact decide_eq_true (by omega))⟩
  rw [List.take_of_length_le (by omega)] at hn3
  simp (disch := omega) only [↓stp, vls, inf, frs, mark_eq, ↓reduceIte, Nat.reduceEqDiff, ite_tt, ite_ff, eq_self, and_true, true_and, and_self, implies_true, Bool.true_eq_false, Bool.false_eq_true, decide_true, decide_false, decide_eq_true_eq, decide_eq_false_iff_not, ne_eq, not_true_eq_false, not_false_eq_true, Bool.not_eq_true', Bool.not_eq_false', beq_self_eq_true, Bool.not_true, Bool.not_false, List.getElem?_toArray, List.getElem?_cons_zero, List.getElem?_cons_succ, h2, h5, h76, h77, h78]
  refine (impl_apart_c V _ _ (OSl.toS (show OSl 9 strO V fp v _ from l.at (i := 2) rfl))).mono ?_
  rintro _ V3 ⟨rfl, rfl⟩
  simp (disch := omega) only [↓stp, vls, inf, frs, mark_eq, ↓reduceIte, Nat.reduceEqDiff, ite_tt, ite_ff, eq_self, and_true, true_and, and_self, implies_true, Bool.true_eq_false, Bool.false_eq_true, decide_true, decide_false, decide_eq_true_eq, decide_eq_false_iff_not, ne_eq, not_true_eq_false, not_false_eq_true, Bool.not_eq_true', Bool.not_eq_false', beq_self_eq_true, Bool.not_true, Bool.not_false, List.getElem?_toArray, List.getElem?_cons_zero, List.getElem?_cons_succ, h2, h5, h76, h77, h78]
  refine ⟨?_, l.ext⟩
  congr 1
  rw [Bool.eq_iff_iff, decide_eq_true_eq, worldB_iff, hR, hS]
  refine ⟨fun h => ⟨⟨e1', by simpa using e2', by simpa using e3', by simpa using e4'⟩, hn, hn2, hn3, h⟩, fun h => h.2.2.2.2⟩

end Go.Proofs.Ytjiioedohbbceaa

