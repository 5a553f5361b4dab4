/- Worlds: ValidWorld. -/
import Derived.Test.YtfhodofbccljmaaW2
import Derived.Test.YtfhodofbccljmaaGWorld
set_option maxHeartbeats 4000000
set_option synthInstance.maxHeartbeats 400000
set_option synthInstance.maxSize 4096
set_option linter.unusedSimpArgs false
set_option linter.unusedVariables false
namespace Go.Proofs.Ytfhodofbccljmaa

set_option maxRecDepth 100000

def okId (x : SuiteD) (id : ByteArray) : Bool := decide (0 ≤ findB x.2.1 id)
def okFx (x : SuiteD) (n : ByteArray) : Bool := decide (0 ≤ fAt x.1 n)
def idsW (x : SuiteD) (xs : List ByteArray) : Bool := xs.all (okId x) && decide xs.Nodup
def fxsW (x : SuiteD) (xs : List ByteArray) : Bool := xs.all (okFx x) && decide xs.Nodup
def tmB (f : FlakyD) : Bool := decide (1 ≤ f.2.1) && decide (f.2.1 ≤ 3)
noncomputable def worldB (x : SuiteD) (w : WorldD) : Bool := w.2.2.2.1.all tmB && (validB x && (idsW x w.2.2.1 && (idsW x (w.2.2.2.1.map (·.1)) && (fxsW x w.1 && fxsW x w.2.1))))

theorem spec_validIds_c (A : View) (d : List Value) (x : SuiteD) (v : Value) (xs : List ByteArray) (h : suiteS.rel A x d) (h' : Sl strS A v xs) : ACalls Try.prog 117 #[.agg d.toArray, v] A fun r A' => r = .bool (idsW x xs) ∧ Ext A A' := by
  obtain ⟨u0, u1, rfl, g0, g1⟩ := suiteS_open h
  obtain ⟨a0, c0, rfl, _, _⟩ := g0.slice
  obtain ⟨a1, c1, rfl, _, _⟩ := g1.slice
  obtain ⟨a2, c2, rfl, _, hl2⟩ := h'.slice
  have hfb : ∀ id, idxI (fun t : TestD => decide (idD t = id)) x.2.1 = findB x.2.1 id := fun _ => rfl
  refine acalls Try.func117 rfl (by kernel_rfl) ?_
  simp (disch := omega) only [↓stp, vls, inf, frs, mark_eq, ↓reduceIte, Nat.reduceEqDiff, ite_tt, ite_ff, eq_self, and_true, true_and, and_self, implies_true, Bool.true_eq_false, Bool.false_eq_true, decide_true, decide_false, decide_eq_true_eq, decide_eq_false_iff_not, ne_eq, not_true_eq_false, not_false_eq_true, Bool.not_eq_true', Bool.not_eq_false', beq_self_eq_true, Bool.not_true, Bool.not_false, List.getElem?_toArray, List.getElem?_cons_zero, List.getElem?_cons_succ]
  refine led_box (Led.nil A) rfl fun q V he l => ?_
  simp (disch := omega) only [↓stp, vls, inf, frs, mark_eq, ↓reduceIte, Nat.reduceEqDiff, ite_tt, ite_ff, eq_self, and_true, true_and, and_self, implies_true, Bool.true_eq_false, Bool.false_eq_true, decide_true, decide_false, decide_eq_true_eq, decide_eq_false_iff_not, ne_eq, not_true_eq_false, not_false_eq_true, Bool.not_eq_true', Bool.not_eq_false', beq_self_eq_true, Bool.not_true, Bool.not_false, List.getElem?_toArray, List.getElem?_cons_zero, List.getElem?_cons_succ]
  refine aloop (fun d fr V => ∃ i : Nat, i ≤ xs.length ∧ d = xs.length - i ∧ Led A [bx q ⟨30, [.slice a0 x.1.length c0, .slice a1 x.2.1.length c1], 2, true⟩] V ∧ fr 1 = .slice a2 xs.length c2 ∧ fr 2 = .pointer (some ⟨q, 0, none⟩) ∧ fr 5 = .int .i64 i ∧ (xs.take i).all (okId x) = true ∧ (xs.take i).Nodup) xs.length ⟨0, by omega, by omega, l, by rfl, by rfl, by rfl, rfl, by simp⟩ ?_
  clear l he
  rintro d fr V ⟨i, hi, rfl, l, h1, h2, h5, hn, hd⟩
  have k1 := l.cell (i := 0) rfl (o := 1) rfl rfl
  simp (disch := omega) only [↓stp, vls, inf, frs, mark_eq, ↓reduceIte, Nat.reduceEqDiff, ite_tt, ite_ff, eq_self, and_true, true_and, and_self, implies_true, Bool.true_eq_false, Bool.false_eq_true, decide_true, decide_false, decide_eq_true_eq, decide_eq_false_iff_not, ne_eq, not_true_eq_false, not_false_eq_true, Bool.not_eq_true', Bool.not_eq_false', beq_self_eq_true, Bool.not_true, Bool.not_false, List.getElem?_toArray, List.getElem?_cons_zero, List.getElem?_cons_succ, h1, h2, h5]
  refine ⟨fun e => ?_, fun e => ?_⟩
  · have hlt : i < xs.length := by omega
    obtain ⟨ad, rfl, kk, zk⟩ := (h'.mono l.ext).str hlt
    simp (disch := omega) only [↓stp, vls, inf, frs, mark_eq, ↓reduceIte, Nat.reduceEqDiff, ite_tt, ite_ff, eq_self, and_true, true_and, and_self, implies_true, Bool.true_eq_false, Bool.false_eq_true, decide_true, decide_false, decide_eq_true_eq, decide_eq_false_iff_not, ne_eq, not_true_eq_false, not_false_eq_true, Bool.not_eq_true', Bool.not_eq_false', beq_self_eq_true, Bool.not_true, Bool.not_false, List.getElem?_toArray, List.getElem?_cons_zero, List.getElem?_cons_succ, h1, h2, h5]
    refine adraw_items [.q 0, .l 1 false, .q 2, .q 3, .q 4, .l 5 false, .c 6 [], .q 7, .q 8, .q 9, .q 10, .q 11, .q 12, .q 13, .q 14, .l 15 false, .c 16 [], .q 17] (by kernel_rfl) (by kernel_rfl) ?_
    simp (disch := omega) only [↓stp, ↓pln, plv, nilOk, Nat.reduceBEq, Bool.or_false, Bool.or_true, Bool.false_or, Bool.true_or, vls, inf, frs, mark_eq, ↓reduceIte, Nat.reduceEqDiff, ite_tt, ite_ff, eq_self, and_true, true_and, and_self, implies_true, Bool.true_eq_false, Bool.false_eq_true, decide_true, decide_false, decide_eq_true_eq, decide_eq_false_iff_not, ne_eq, not_true_eq_false, not_false_eq_true, Bool.not_eq_true', Bool.not_eq_false', beq_self_eq_true, Bool.not_true, Bool.not_false, List.getElem?_toArray, List.getElem?_cons_zero, List.getElem?_cons_succ, h1, h2, h5, add_at, k1, kk]
    refine (spec_findTest_c V _ x.2.1 xs[i] (g1.mono l.ext)).mono ?_
    rintro _ V2 ⟨rfl, he2⟩
    rw [hfb]
    have kk := he2.cell kk
    replace l := l.step he2
    have k1 := l.cell (i := 0) rfl (o := 1) rfl rfl
    simp (disch := omega) only [↓stp, ↓pln, plv, nilOk, Nat.reduceBEq, Bool.or_false, Bool.or_true, Bool.false_or, Bool.true_or, vls, inf, frs, mark_eq, ↓reduceIte, Nat.reduceEqDiff, ite_tt, ite_ff, eq_self, and_true, true_and, and_self, implies_true, Bool.true_eq_false, Bool.false_eq_true, decide_true, decide_false, decide_eq_true_eq, decide_eq_false_iff_not, ne_eq, not_true_eq_false, not_false_eq_true, Bool.not_eq_true', Bool.not_eq_false', beq_self_eq_true, Bool.not_true, Bool.not_false, List.getElem?_toArray, List.getElem?_cons_zero, List.getElem?_cons_succ, h1, h2, h5, add_at, k1, kk]
    refine ⟨fun e1 => ?_, fun e1 => ?_⟩ <;> simp (disch := omega) only [↓stp, ↓pln, plv, nilOk, Nat.reduceBEq, Bool.or_false, Bool.or_true, Bool.false_or, Bool.true_or, vls, inf, frs, mark_eq, ↓reduceIte, Nat.reduceEqDiff, ite_tt, ite_ff, eq_self, and_true, true_and, and_self, implies_true, Bool.true_eq_false, Bool.false_eq_true, decide_true, decide_false, decide_eq_true_eq, decide_eq_false_iff_not, ne_eq, not_true_eq_false, not_false_eq_true, Bool.not_eq_true', Bool.not_eq_false', beq_self_eq_true, Bool.not_true, Bool.not_false, List.getElem?_toArray, List.getElem?_cons_zero, List.getElem?_cons_succ, h1, h2, h5, add_at, k1, kk, e1]
    · refine (spec_hasText_c V2 _ (xs.take i) xs[i] ((h'.mono l.ext).take (by omega) 1)).mono ?_
      rintro _ V2 ⟨rfl, rfl⟩
      simp (disch := omega) only [↓stp, ↓pln, plv, nilOk, Nat.reduceBEq, Bool.or_false, Bool.or_true, Bool.false_or, Bool.true_or, vls, inf, frs, mark_eq, ↓reduceIte, Nat.reduceEqDiff, ite_tt, ite_ff, eq_self, and_true, true_and, and_self, implies_true, Bool.true_eq_false, Bool.false_eq_true, decide_true, decide_false, decide_eq_true_eq, decide_eq_false_iff_not, ne_eq, not_true_eq_false, not_false_eq_true, Bool.not_eq_true', Bool.not_eq_false', beq_self_eq_true, Bool.not_true, Bool.not_false, List.getElem?_toArray, List.getElem?_cons_zero, List.getElem?_cons_succ, h1, h2, h5, add_at, k1, kk, e1]
      refine ⟨fun e2 => ?_, fun e2 => ?_⟩ <;> simp (disch := omega) only [↓stp, vls, inf, frs, mark_eq, ↓reduceIte, Nat.reduceEqDiff, ite_tt, ite_ff, eq_self, and_true, true_and, and_self, implies_true, Bool.true_eq_false, Bool.false_eq_true, decide_true, decide_false, decide_eq_true_eq, decide_eq_false_iff_not, ne_eq, not_true_eq_false, not_false_eq_true, Bool.not_eq_true', Bool.not_eq_false', beq_self_eq_true, Bool.not_true, Bool.not_false, List.getElem?_toArray, List.getElem?_cons_zero, List.getElem?_cons_succ, h1, h2, h5]
      · refine ⟨?_, l.ext⟩
        unfold idsW
        rw [decide_eq_false (nodup_no hlt e2), Bool.and_false]
      · exact ⟨_, by omega, i + 1, by omega, rfl, l, rfl, all_take hlt hn (by unfold okId; exact decide_eq_true (by omega)), (nodup_take_succ hlt).2 ⟨hd, e2⟩⟩
    · refine ⟨?_, l.ext⟩
      unfold idsW
      rw [all_no (p := okId x) hlt (by unfold okId; exact decide_eq_false (by omega)), Bool.false_and]
  · simp (disch := omega) only [↓stp, vls, inf, frs, mark_eq, ↓reduceIte, Nat.reduceEqDiff, ite_tt, ite_ff, eq_self, and_true, true_and, and_self, implies_true, Bool.true_eq_false, Bool.false_eq_true, decide_true, decide_false, decide_eq_true_eq, decide_eq_false_iff_not, ne_eq, not_true_eq_false, not_false_eq_true, Bool.not_eq_true', Bool.not_eq_false', beq_self_eq_true, Bool.not_true, Bool.not_false, List.getElem?_toArray, List.getElem?_cons_zero, List.getElem?_cons_succ, h1, h2, h5]
    rw [List.take_of_length_le (by omega)] at hn hd
    refine ⟨?_, l.ext⟩
    unfold idsW
    rw [hn, decide_eq_true hd, Bool.true_and]

theorem spec_validFixtures_c (A : View) (d : List Value) (x : SuiteD) (v : Value) (xs : List ByteArray) (h : suiteS.rel A x d) (h' : Sl strS A v xs) : ACalls Try.prog 118 #[.agg d.toArray, v] A fun r A' => r = .bool (fxsW x xs) ∧ Ext A A' := by
  obtain ⟨u0, u1, rfl, g0, g1⟩ := suiteS_open h
  obtain ⟨a0, c0, rfl, _, _⟩ := g0.slice
  obtain ⟨a1, c1, rfl, _, _⟩ := g1.slice
  obtain ⟨a2, c2, rfl, _, hl2⟩ := h'.slice
  have hfb : ∀ id, idxI (fun t : TestD => decide (idD t = id)) x.2.1 = findB x.2.1 id := fun _ => rfl
  refine acalls Try.func118 rfl (by kernel_rfl) ?_
  simp (disch := omega) only [↓stp, vls, inf, frs, mark_eq, ↓reduceIte, Nat.reduceEqDiff, ite_tt, ite_ff, eq_self, and_true, true_and, and_self, implies_true, Bool.true_eq_false, Bool.false_eq_true, decide_true, decide_false, decide_eq_true_eq, decide_eq_false_iff_not, ne_eq, not_true_eq_false, not_false_eq_true, Bool.not_eq_true', Bool.not_eq_false', beq_self_eq_true, Bool.not_true, Bool.not_false, List.getElem?_toArray, List.getElem?_cons_zero, List.getElem?_cons_succ]
  refine led_box (Led.nil A) rfl fun q V he l => ?_
  simp (disch := omega) only [↓stp, vls, inf, frs, mark_eq, ↓reduceIte, Nat.reduceEqDiff, ite_tt, ite_ff, eq_self, and_true, true_and, and_self, implies_true, Bool.true_eq_false, Bool.false_eq_true, decide_true, decide_false, decide_eq_true_eq, decide_eq_false_iff_not, ne_eq, not_true_eq_false, not_false_eq_true, Bool.not_eq_true', Bool.not_eq_false', beq_self_eq_true, Bool.not_true, Bool.not_false, List.getElem?_toArray, List.getElem?_cons_zero, List.getElem?_cons_succ]
  refine aloop (fun d fr V => ∃ i : Nat, i ≤ xs.length ∧ d = xs.length - i ∧ Led A [bx q ⟨30, [.slice a0 x.1.length c0, .slice a1 x.2.1.length c1], 2, true⟩] V ∧ fr 1 = .slice a2 xs.length c2 ∧ fr 2 = .pointer (some ⟨q, 0, none⟩) ∧ fr 5 = .int .i64 i ∧ (xs.take i).all (okFx x) = true ∧ (xs.take i).Nodup) xs.length ⟨0, by omega, by omega, l, by rfl, by rfl, by rfl, rfl, by simp⟩ ?_
  clear l he
  rintro d fr V ⟨i, hi, rfl, l, h1, h2, h5, hn, hd⟩
  have k0 := l.cell (i := 0) rfl (o := 0) rfl rfl
  simp (disch := omega) only [↓stp, vls, inf, frs, mark_eq, ↓reduceIte, Nat.reduceEqDiff, ite_tt, ite_ff, eq_self, and_true, true_and, and_self, implies_true, Bool.true_eq_false, Bool.false_eq_true, decide_true, decide_false, decide_eq_true_eq, decide_eq_false_iff_not, ne_eq, not_true_eq_false, not_false_eq_true, Bool.not_eq_true', Bool.not_eq_false', beq_self_eq_true, Bool.not_true, Bool.not_false, List.getElem?_toArray, List.getElem?_cons_zero, List.getElem?_cons_succ, h1, h2, h5]
  refine ⟨fun e => ?_, fun e => ?_⟩
  · have hlt : i < xs.length := by omega
    obtain ⟨ad, rfl, kk, zk⟩ := (h'.mono l.ext).str hlt
    simp (disch := omega) only [↓stp, vls, inf, frs, mark_eq, ↓reduceIte, Nat.reduceEqDiff, ite_tt, ite_ff, eq_self, and_true, true_and, and_self, implies_true, Bool.true_eq_false, Bool.false_eq_true, decide_true, decide_false, decide_eq_true_eq, decide_eq_false_iff_not, ne_eq, not_true_eq_false, not_false_eq_true, Bool.not_eq_true', Bool.not_eq_false', beq_self_eq_true, Bool.not_true, Bool.not_false, List.getElem?_toArray, List.getElem?_cons_zero, List.getElem?_cons_succ, h1, h2, h5]
    refine adraw_items [.q 0, .l 1 false, .q 2, .q 3, .q 4, .l 5 false, .c 6 [], .q 7, .q 8, .q 9, .q 10, .q 11, .q 12, .q 13, .q 14, .l 15 false, .c 16 [], .q 17] (by kernel_rfl) (by kernel_rfl) ?_
    simp (disch := omega) only [↓stp, ↓pln, plv, nilOk, Nat.reduceBEq, Bool.or_false, Bool.or_true, Bool.false_or, Bool.true_or, vls, inf, frs, mark_eq, ↓reduceIte, Nat.reduceEqDiff, ite_tt, ite_ff, eq_self, and_true, true_and, and_self, implies_true, Bool.true_eq_false, Bool.false_eq_true, decide_true, decide_false, decide_eq_true_eq, decide_eq_false_iff_not, ne_eq, not_true_eq_false, not_false_eq_true, Bool.not_eq_true', Bool.not_eq_false', beq_self_eq_true, Bool.not_true, Bool.not_false, List.getElem?_toArray, List.getElem?_cons_zero, List.getElem?_cons_succ, h1, h2, h5, add_at, k0, kk]
    refine (spec_fixtureAt_c V _ x.1 xs[i] (g0.mono l.ext)).mono ?_
    rintro _ V2 ⟨rfl, rfl⟩; have he2 := Ext.refl V2
    skip
    have kk := he2.cell kk
    replace l := l.step he2
    have k0 := l.cell (i := 0) rfl (o := 0) rfl rfl
    simp (disch := omega) only [↓stp, ↓pln, plv, nilOk, Nat.reduceBEq, Bool.or_false, Bool.or_true, Bool.false_or, Bool.true_or, vls, inf, frs, mark_eq, ↓reduceIte, Nat.reduceEqDiff, ite_tt, ite_ff, eq_self, and_true, true_and, and_self, implies_true, Bool.true_eq_false, Bool.false_eq_true, decide_true, decide_false, decide_eq_true_eq, decide_eq_false_iff_not, ne_eq, not_true_eq_false, not_false_eq_true, Bool.not_eq_true', Bool.not_eq_false', beq_self_eq_true, Bool.not_true, Bool.not_false, List.getElem?_toArray, List.getElem?_cons_zero, List.getElem?_cons_succ, h1, h2, h5, add_at, k0, kk]
    refine ⟨fun e1 => ?_, fun e1 => ?_⟩ <;> simp (disch := omega) only [↓stp, ↓pln, plv, nilOk, Nat.reduceBEq, Bool.or_false, Bool.or_true, Bool.false_or, Bool.true_or, vls, inf, frs, mark_eq, ↓reduceIte, Nat.reduceEqDiff, ite_tt, ite_ff, eq_self, and_true, true_and, and_self, implies_true, Bool.true_eq_false, Bool.false_eq_true, decide_true, decide_false, decide_eq_true_eq, decide_eq_false_iff_not, ne_eq, not_true_eq_false, not_false_eq_true, Bool.not_eq_true', Bool.not_eq_false', beq_self_eq_true, Bool.not_true, Bool.not_false, List.getElem?_toArray, List.getElem?_cons_zero, List.getElem?_cons_succ, h1, h2, h5, add_at, k0, kk, e1]
    · refine (spec_hasText_c V2 _ (xs.take i) xs[i] ((h'.mono l.ext).take (by omega) 1)).mono ?_
      rintro _ V2 ⟨rfl, rfl⟩
      simp (disch := omega) only [↓stp, ↓pln, plv, nilOk, Nat.reduceBEq, Bool.or_false, Bool.or_true, Bool.false_or, Bool.true_or, vls, inf, frs, mark_eq, ↓reduceIte, Nat.reduceEqDiff, ite_tt, ite_ff, eq_self, and_true, true_and, and_self, implies_true, Bool.true_eq_false, Bool.false_eq_true, decide_true, decide_false, decide_eq_true_eq, decide_eq_false_iff_not, ne_eq, not_true_eq_false, not_false_eq_true, Bool.not_eq_true', Bool.not_eq_false', beq_self_eq_true, Bool.not_true, Bool.not_false, List.getElem?_toArray, List.getElem?_cons_zero, List.getElem?_cons_succ, h1, h2, h5, add_at, k0, kk, e1]
      refine ⟨fun e2 => ?_, fun e2 => ?_⟩ <;> simp (disch := omega) only [↓stp, vls, inf, frs, mark_eq, ↓reduceIte, Nat.reduceEqDiff, ite_tt, ite_ff, eq_self, and_true, true_and, and_self, implies_true, Bool.true_eq_false, Bool.false_eq_true, decide_true, decide_false, decide_eq_true_eq, decide_eq_false_iff_not, ne_eq, not_true_eq_false, not_false_eq_true, Bool.not_eq_true', Bool.not_eq_false', beq_self_eq_true, Bool.not_true, Bool.not_false, List.getElem?_toArray, List.getElem?_cons_zero, List.getElem?_cons_succ, h1, h2, h5]
      · refine ⟨?_, l.ext⟩
        unfold fxsW
        rw [decide_eq_false (nodup_no hlt e2), Bool.and_false]
      · exact ⟨_, by omega, i + 1, by omega, rfl, l, rfl, all_take hlt hn (by unfold okFx; exact decide_eq_true (by omega)), (nodup_take_succ hlt).2 ⟨hd, e2⟩⟩
    · refine ⟨?_, l.ext⟩
      unfold fxsW
      rw [all_no (p := okFx x) hlt (by unfold okFx; exact decide_eq_false (by omega)), Bool.false_and]
  · simp (disch := omega) only [↓stp, vls, inf, frs, mark_eq, ↓reduceIte, Nat.reduceEqDiff, ite_tt, ite_ff, eq_self, and_true, true_and, and_self, implies_true, Bool.true_eq_false, Bool.false_eq_true, decide_true, decide_false, decide_eq_true_eq, decide_eq_false_iff_not, ne_eq, not_true_eq_false, not_false_eq_true, Bool.not_eq_true', Bool.not_eq_false', beq_self_eq_true, Bool.not_true, Bool.not_false, List.getElem?_toArray, List.getElem?_cons_zero, List.getElem?_cons_succ, h1, h2, h5]
    rw [List.take_of_length_le (by omega)] at hn hd
    refine ⟨?_, l.ext⟩
    unfold fxsW
    rw [hn, decide_eq_true hd, Bool.true_and]

end Go.Proofs.Ytfhodofbccljmaa

