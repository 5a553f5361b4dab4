/- The helpers of the laws for Test: counted, copied, compared, marked. -/
import Derived.Test.YtbddklkfekiaeaaE2
set_option maxHeartbeats 4000000
set_option synthInstance.maxHeartbeats 400000
set_option synthInstance.maxSize 4096
set_option linter.unusedSimpArgs false
set_option linter.unusedVariables false
namespace Go.Proofs.Ytbddklkfekiaeaa

set_option maxRecDepth 100000

abbrev TestD := ByteArray × ByteArray × List ByteArray × List ByteArray × Unit

def testS : Shape TestD := consS strS (consS strS (consS (slS strS) (consS (slS strS) unitS)))

def testO : OwnS TestD := consO strO (consO strO (consO (slO 9 strO) (consO (slO 9 strO) unitO)))

def testT : GT TestD := consT strT (consT strT (consT (slT 9 strT) (consT (slT 9 strT) unitT)))

theorem testS_open {A : View} {x : TestD} {d : List Value} (h : testS.rel A x d) : ∃ uu2 uu3 : Value, d = [.string x.1, .string x.2.1, uu2, uu3] ∧ x.1.size ≤ 140737488355328 ∧ x.2.1.size ≤ 140737488355328 ∧ Sl strS A uu2 x.2.2.1 ∧ Sl strS A uu3 x.2.2.2.1 := by
  obtain ⟨_, _, rfl, ⟨rfl, hh0⟩, ⟨_, _, rfl, ⟨rfl, hh1⟩, ⟨_, _, rfl, ⟨uu2, rfl, hh2⟩, ⟨_, _, rfl, ⟨uu3, rfl, hh3⟩, rfl⟩⟩⟩⟩ := h
  exact ⟨uu2, uu3, rfl, hh0, hh1, hh2, hh3⟩

theorem testS_mk {A : View} {x : TestD} {uu2 uu3 : Value} (hh0 : x.1.size ≤ 140737488355328) (hh1 : x.2.1.size ≤ 140737488355328) (hh2 : Sl strS A uu2 x.2.2.1) (hh3 : Sl strS A uu3 x.2.2.2.1) : testS.rel A x [.string x.1, .string x.2.1, uu2, uu3] := ⟨_, _, rfl, ⟨rfl, hh0⟩, ⟨_, _, rfl, ⟨rfl, hh1⟩, ⟨_, _, rfl, ⟨_, rfl, hh2⟩, ⟨_, _, rfl, ⟨_, rfl, hh3⟩, rfl⟩⟩⟩⟩

theorem testO_open {A : View} {fp : List Nat} {x : TestD} {d : List Value} (h : testO.rel A fp x d) : ∃ (ff2 : List Nat) (uu2 : Value) (ff3 : List Nat) (uu3 : Value), ff2 ++ (ff3) = fp ∧ d = [.string x.1, .string x.2.1, uu2, uu3] ∧ x.1.size ≤ 140737488355328 ∧ x.2.1.size ≤ 140737488355328 ∧ OSl 9 strO A ff2 uu2 x.2.2.1 ∧ OSl 9 strO A ff3 uu3 x.2.2.2.1 := by
  obtain ⟨_, _, _, _, rfl, rfl, ⟨rfl, rfl, hh0⟩, ⟨_, _, _, _, rfl, rfl, ⟨rfl, rfl, hh1⟩, ⟨_, _, _, _, rfl, rfl, ⟨uu2, rfl, hh2⟩, ⟨_, _, _, _, rfl, rfl, ⟨uu3, rfl, hh3⟩, ⟨rfl, rfl⟩⟩⟩⟩⟩ := h
  exact ⟨_, uu2, _, uu3, by simp, rfl, hh0, hh1, hh2, hh3⟩

theorem testO_mk {A : View} {x : TestD} {ff2 ff3 : List Nat} {uu2 uu3 : Value} (hh0 : x.1.size ≤ 140737488355328) (hh1 : x.2.1.size ≤ 140737488355328) (hh2 : OSl 9 strO A ff2 uu2 x.2.2.1) (hh3 : OSl 9 strO A ff3 uu3 x.2.2.2.1) : testO.rel A (ff2 ++ (ff3)) x [.string x.1, .string x.2.1, uu2, uu3] := ⟨[], ff2 ++ ff3, [.string x.1], _, by simp, rfl, ⟨rfl, rfl, hh0⟩, ⟨[], ff2 ++ ff3, [.string x.2.1], _, by simp, rfl, ⟨rfl, rfl, hh1⟩, ⟨ff2, ff3, [uu2], _, by simp, rfl, ⟨_, rfl, hh2⟩, ⟨ff3, [], [uu3], _, by simp, rfl, ⟨_, rfl, hh3⟩, ⟨rfl, rfl⟩⟩⟩⟩⟩

theorem testO_S {A : View} {fp : List Nat} {x : TestD} {d : List Value} (h : testO.rel A fp x d) : testS.rel A x d := testO.toS h

theorem testT_w (x : TestD) : testT.w x = x.1.size + (x.2.1.size + ((x.2.2.1.length + wL strT x.2.2.1) + ((x.2.2.2.1.length + wL strT x.2.2.2.1) + 0))) := rfl

theorem testT_cnt (x : TestD) : testT.cnt x = 1 + (1 + (cntL strT x.2.2.1 + (cntL strT x.2.2.2.1 + 0))) := rfl

theorem testT_le (x : TestD) : testT.cnt x ≤ 4 + 4 * testT.w x := by
  rw [testT_cnt, testT_w]
  have e2 := cntL_str_le x.2.2.1
  have e3 := cntL_str_le x.2.2.2.1
  omega

theorem testL_le : ∀ (xs : List TestD), cntL testT xs ≤ 4 * (xs.length + wL testT xs)
  | [] => by simp [cntL]
  | x :: xs => by
    have := testT_le x
    have := testL_le xs
    simp only [cntL, wL, List.length_cons]
    omega

theorem Sl.test {A : View} {a : Option Addr} {n c : Nat} {xs : List TestD} (h : Sl testS A (.slice a n c) xs) {i : Nat} (hi : i < xs.length) : ∃ (ad : Addr) (uu2 uu3 : Value), a = some ad ∧ A.part (ad.add (i * 4)) 4 = some [.string (xs[i]).1, .string (xs[i]).2.1, uu2, uu3] ∧ (xs[i]).1.size ≤ 140737488355328 ∧ (xs[i]).2.1.size ≤ 140737488355328 ∧ Sl strS A uu2 (xs[i]).2.2.1 ∧ Sl strS A uu3 (xs[i]).2.2.2.1 := by
  obtain ⟨ad, d, h1, h2, h3, _⟩ := h.at hi
  obtain ⟨uu2, uu3, rfl, hh0, hh1, hh2, hh3⟩ := testS_open h2
  exact ⟨ad, uu2, uu3, h1, h3, hh0, hh1, hh2, hh3⟩

theorem szTest_c (A : View) (d : List Value) (x : TestD) (k : Int) (h : testS.rel A x d) (hk : 0 ≤ k ∧ k ≤ 1048576) : ACalls Try.prog 73 #[.agg d.toArray, .int .i64 k] A fun r A' => (∃ j : Int, r = .int .i64 j ∧ (j = -1 ∨ (0 ≤ j ∧ j + testT.w x = k))) ∧ Ext A A' := by
  obtain ⟨uu2, uu3, rfl, hh0, hh1, hh2, hh3⟩ := testS_open h
  obtain ⟨aa2, cc2, rfl, hc2, hl2⟩ := hh2.slice
  obtain ⟨aa3, cc3, rfl, hc3, hl3⟩ := hh3.slice
  have hw := testT_w x
  refine acalls Try.func73 rfl (by kernel_rfl) ?_
  simp (disch := omega) only [↓stp, vls, inf, frs, mark_eq, ↓reduceIte, Nat.reduceEqDiff, ite_tt, ite_ff, eq_self, and_true, true_and, and_self, implies_true, Bool.true_eq_false, Bool.false_eq_true, decide_true, decide_false, decide_eq_true_eq, decide_eq_false_iff_not, ne_eq, not_true_eq_false, not_false_eq_true, Bool.not_eq_true', Bool.not_eq_false', beq_self_eq_true, Bool.not_true, Bool.not_false, List.getElem?_toArray, List.getElem?_cons_zero, List.getElem?_cons_succ]
  refine led_box (Led.nil A) rfl fun b V _ l => ?_
  have b0 := l.cell (i := 0) rfl (o := 0) rfl rfl
  have b1 := l.cell (i := 0) rfl (o := 1) rfl rfl
  have b2 := l.cell (i := 0) rfl (o := 2) rfl rfl
  have b3 := l.cell (i := 0) rfl (o := 3) rfl rfl
  simp (disch := omega) only [↓stp, vls, inf, frs, mark_eq, ↓reduceIte, Nat.reduceEqDiff, ite_tt, ite_ff, eq_self, and_true, true_and, and_self, implies_true, Bool.true_eq_false, Bool.false_eq_true, decide_true, decide_false, decide_eq_true_eq, decide_eq_false_iff_not, ne_eq, not_true_eq_false, not_false_eq_true, Bool.not_eq_true', Bool.not_eq_false', beq_self_eq_true, Bool.not_true, Bool.not_false, List.getElem?_toArray, List.getElem?_cons_zero, List.getElem?_cons_succ, add_at, b0, b1, b2, b3]
  refine ⟨fun e => ?_, fun e => ?_⟩
  · simp (disch := omega) only [↓stp, vls, inf, frs, mark_eq, ↓reduceIte, Nat.reduceEqDiff, ite_tt, ite_ff, eq_self, and_true, true_and, and_self, implies_true, Bool.true_eq_false, Bool.false_eq_true, decide_true, decide_false, decide_eq_true_eq, decide_eq_false_iff_not, ne_eq, not_true_eq_false, not_false_eq_true, Bool.not_eq_true', Bool.not_eq_false', beq_self_eq_true, Bool.not_true, Bool.not_false, List.getElem?_toArray, List.getElem?_cons_zero, List.getElem?_cons_succ, add_at, b0, b1, b2, b3]
    exact ⟨⟨_, rfl, .inl rfl⟩, l.ext⟩
  simp (disch := omega) only [↓stp, vls, inf, frs, mark_eq, ↓reduceIte, Nat.reduceEqDiff, ite_tt, ite_ff, eq_self, and_true, true_and, and_self, implies_true, Bool.true_eq_false, Bool.false_eq_true, decide_true, decide_false, decide_eq_true_eq, decide_eq_false_iff_not, ne_eq, not_true_eq_false, not_false_eq_true, Bool.not_eq_true', Bool.not_eq_false', beq_self_eq_true, Bool.not_true, Bool.not_false, List.getElem?_toArray, List.getElem?_cons_zero, List.getElem?_cons_succ, add_at, b0, b1, b2, b3]
  refine ⟨fun e => ?_, fun e => ?_⟩
  · simp (disch := omega) only [↓stp, vls, inf, frs, mark_eq, ↓reduceIte, Nat.reduceEqDiff, ite_tt, ite_ff, eq_self, and_true, true_and, and_self, implies_true, Bool.true_eq_false, Bool.false_eq_true, decide_true, decide_false, decide_eq_true_eq, decide_eq_false_iff_not, ne_eq, not_true_eq_false, not_false_eq_true, Bool.not_eq_true', Bool.not_eq_false', beq_self_eq_true, Bool.not_true, Bool.not_false, List.getElem?_toArray, List.getElem?_cons_zero, List.getElem?_cons_succ, add_at, b0, b1, b2, b3]
    exact ⟨⟨_, rfl, .inl rfl⟩, l.ext⟩
  simp (disch := omega) only [↓stp, vls, inf, frs, mark_eq, ↓reduceIte, Nat.reduceEqDiff, ite_tt, ite_ff, eq_self, and_true, true_and, and_self, implies_true, Bool.true_eq_false, Bool.false_eq_true, decide_true, decide_false, decide_eq_true_eq, decide_eq_false_iff_not, ne_eq, not_true_eq_false, not_false_eq_true, Bool.not_eq_true', Bool.not_eq_false', beq_self_eq_true, Bool.not_true, Bool.not_false, List.getElem?_toArray, List.getElem?_cons_zero, List.getElem?_cons_succ, add_at, b0, b1, b2, b3]
  refine (szStringS_c V _ _ _ (hh2.mono l.ext) (by omega)).mono ?_
  rintro _ V ⟨⟨j2, rfl, hj2⟩, he⟩
  replace l := l.step he
  have b0 := l.cell (i := 0) rfl (o := 0) rfl rfl
  have b1 := l.cell (i := 0) rfl (o := 1) rfl rfl
  have b2 := l.cell (i := 0) rfl (o := 2) rfl rfl
  have b3 := l.cell (i := 0) rfl (o := 3) rfl rfl
  simp (disch := omega) only [↓stp, vls, inf, frs, mark_eq, ↓reduceIte, Nat.reduceEqDiff, ite_tt, ite_ff, eq_self, and_true, true_and, and_self, implies_true, Bool.true_eq_false, Bool.false_eq_true, decide_true, decide_false, decide_eq_true_eq, decide_eq_false_iff_not, ne_eq, not_true_eq_false, not_false_eq_true, Bool.not_eq_true', Bool.not_eq_false', beq_self_eq_true, Bool.not_true, Bool.not_false, List.getElem?_toArray, List.getElem?_cons_zero, List.getElem?_cons_succ, add_at, b0, b1, b2, b3]
  refine ⟨fun e => ?_, fun e => ?_⟩
  · simp (disch := omega) only [↓stp, vls, inf, frs, mark_eq, ↓reduceIte, Nat.reduceEqDiff, ite_tt, ite_ff, eq_self, and_true, true_and, and_self, implies_true, Bool.true_eq_false, Bool.false_eq_true, decide_true, decide_false, decide_eq_true_eq, decide_eq_false_iff_not, ne_eq, not_true_eq_false, not_false_eq_true, Bool.not_eq_true', Bool.not_eq_false', beq_self_eq_true, Bool.not_true, Bool.not_false, List.getElem?_toArray, List.getElem?_cons_zero, List.getElem?_cons_succ, add_at, b0, b1, b2, b3]
    exact ⟨⟨_, rfl, .inl rfl⟩, l.ext⟩
  replace hj2 := hj2.resolve_left (by omega)
  simp (disch := omega) only [↓stp, vls, inf, frs, mark_eq, ↓reduceIte, Nat.reduceEqDiff, ite_tt, ite_ff, eq_self, and_true, true_and, and_self, implies_true, Bool.true_eq_false, Bool.false_eq_true, decide_true, decide_false, decide_eq_true_eq, decide_eq_false_iff_not, ne_eq, not_true_eq_false, not_false_eq_true, Bool.not_eq_true', Bool.not_eq_false', beq_self_eq_true, Bool.not_true, Bool.not_false, List.getElem?_toArray, List.getElem?_cons_zero, List.getElem?_cons_succ, add_at, b0, b1, b2, b3]
  refine (szStringS_c V _ _ _ (hh3.mono l.ext) (by omega)).mono ?_
  rintro _ V ⟨⟨j3, rfl, hj3⟩, he⟩
  replace l := l.step he
  have b0 := l.cell (i := 0) rfl (o := 0) rfl rfl
  have b1 := l.cell (i := 0) rfl (o := 1) rfl rfl
  have b2 := l.cell (i := 0) rfl (o := 2) rfl rfl
  have b3 := l.cell (i := 0) rfl (o := 3) rfl rfl
  simp (disch := omega) only [↓stp, vls, inf, frs, mark_eq, ↓reduceIte, Nat.reduceEqDiff, ite_tt, ite_ff, eq_self, and_true, true_and, and_self, implies_true, Bool.true_eq_false, Bool.false_eq_true, decide_true, decide_false, decide_eq_true_eq, decide_eq_false_iff_not, ne_eq, not_true_eq_false, not_false_eq_true, Bool.not_eq_true', Bool.not_eq_false', beq_self_eq_true, Bool.not_true, Bool.not_false, List.getElem?_toArray, List.getElem?_cons_zero, List.getElem?_cons_succ, add_at, b0, b1, b2, b3]
  refine ⟨fun e => ?_, fun e => ?_⟩
  · simp (disch := omega) only [↓stp, vls, inf, frs, mark_eq, ↓reduceIte, Nat.reduceEqDiff, ite_tt, ite_ff, eq_self, and_true, true_and, and_self, implies_true, Bool.true_eq_false, Bool.false_eq_true, decide_true, decide_false, decide_eq_true_eq, decide_eq_false_iff_not, ne_eq, not_true_eq_false, not_false_eq_true, Bool.not_eq_true', Bool.not_eq_false', beq_self_eq_true, Bool.not_true, Bool.not_false, List.getElem?_toArray, List.getElem?_cons_zero, List.getElem?_cons_succ, add_at, b0, b1, b2, b3]
    exact ⟨⟨_, rfl, .inl rfl⟩, l.ext⟩
  replace hj3 := hj3.resolve_left (by omega)
  simp (disch := omega) only [↓stp, vls, inf, frs, mark_eq, ↓reduceIte, Nat.reduceEqDiff, ite_tt, ite_ff, eq_self, and_true, true_and, and_self, implies_true, Bool.true_eq_false, Bool.false_eq_true, decide_true, decide_false, decide_eq_true_eq, decide_eq_false_iff_not, ne_eq, not_true_eq_false, not_false_eq_true, Bool.not_eq_true', Bool.not_eq_false', beq_self_eq_true, Bool.not_true, Bool.not_false, List.getElem?_toArray, List.getElem?_cons_zero, List.getElem?_cons_succ, add_at, b0, b1, b2, b3]
  exact ⟨⟨_, rfl, .inr ⟨by omega, by omega⟩⟩, l.ext⟩

theorem toTest_c (A : View) (d : List Value) (x : TestD) (h : testS.rel A x d) (hw : testT.w x ≤ 1048576) : ACalls Try.prog 75 #[.agg d.toArray] A fun r A' => ∃ fp d', r = .agg d'.toArray ∧ testO.rel A' fp x d' ∧ Ext A A' ∧ (∀ b, b ∈ fp → A b = none) ∧ fp.Nodup := by
  obtain ⟨uu2, uu3, rfl, hh0, hh1, hh2, hh3⟩ := testS_open h
  obtain ⟨aa2, cc2, rfl, hc2, hl2⟩ := hh2.slice
  obtain ⟨aa3, cc3, rfl, hc3, hl3⟩ := hh3.slice
  rw [testT_w] at hw
  refine acalls Try.func75 rfl (by kernel_rfl) ?_
  simp (disch := omega) only [↓stp, vls, inf, frs, mark_eq, ↓reduceIte, Nat.reduceEqDiff, ite_tt, ite_ff, eq_self, and_true, true_and, and_self, implies_true, Bool.true_eq_false, Bool.false_eq_true, decide_true, decide_false, decide_eq_true_eq, decide_eq_false_iff_not, ne_eq, not_true_eq_false, not_false_eq_true, Bool.not_eq_true', Bool.not_eq_false', beq_self_eq_true, Bool.not_true, Bool.not_false, List.getElem?_toArray, List.getElem?_cons_zero, List.getElem?_cons_succ]
  refine led_box (Led.nil A) rfl fun q0 V _ l => ?_
  simp (disch := omega) only [↓stp, vls, inf, frs, mark_eq, ↓reduceIte, Nat.reduceEqDiff, ite_tt, ite_ff, eq_self, and_true, true_and, and_self, implies_true, Bool.true_eq_false, Bool.false_eq_true, decide_true, decide_false, decide_eq_true_eq, decide_eq_false_iff_not, ne_eq, not_true_eq_false, not_false_eq_true, Bool.not_eq_true', Bool.not_eq_false', beq_self_eq_true, Bool.not_true, Bool.not_false, List.getElem?_toArray, List.getElem?_cons_zero, List.getElem?_cons_succ]
  refine led_alloc zc34 l fun q1 V _ l => ?_
  simp (disch := omega) only [↓stp, vls, inf, frs, mark_eq, ↓reduceIte, Nat.reduceEqDiff, ite_tt, ite_ff, eq_self, and_true, true_and, and_self, implies_true, Bool.true_eq_false, Bool.false_eq_true, decide_true, decide_false, decide_eq_true_eq, decide_eq_false_iff_not, ne_eq, not_true_eq_false, not_false_eq_true, Bool.not_eq_true', Bool.not_eq_false', beq_self_eq_true, Bool.not_true, Bool.not_false, List.getElem?_toArray, List.getElem?_cons_zero, List.getElem?_cons_succ]
  refine led_alloc zc34 l fun q2 V _ l => ?_
  have b0 := l.cell (i := 2) rfl (o := 0) rfl rfl
  have b1 := l.cell (i := 2) rfl (o := 1) rfl rfl
  have b2 := l.cell (i := 2) rfl (o := 2) rfl rfl
  have b3 := l.cell (i := 2) rfl (o := 3) rfl rfl
  simp (disch := omega) only [↓stp, vls, inf, frs, mark_eq, ↓reduceIte, Nat.reduceEqDiff, ite_tt, ite_ff, eq_self, and_true, true_and, and_self, implies_true, Bool.true_eq_false, Bool.false_eq_true, decide_true, decide_false, decide_eq_true_eq, decide_eq_false_iff_not, ne_eq, not_true_eq_false, not_false_eq_true, Bool.not_eq_true', Bool.not_eq_false', beq_self_eq_true, Bool.not_true, Bool.not_false, List.getElem?_toArray, List.getElem?_cons_zero, List.getElem?_cons_succ, add_at, b0, b1, b2, b3]
  refine led_store l 0 rfl sz9 (by rfl) (by rfl) (by rfl) fun V l => ?_
  have b0 := l.cell (i := 2) rfl (o := 0) rfl rfl
  have b1 := l.cell (i := 2) rfl (o := 1) rfl rfl
  have b2 := l.cell (i := 2) rfl (o := 2) rfl rfl
  have b3 := l.cell (i := 2) rfl (o := 3) rfl rfl
  simp (disch := omega) only [↓stp, vls, inf, frs, mark_eq, ↓reduceIte, Nat.reduceEqDiff, ite_tt, ite_ff, eq_self, and_true, true_and, and_self, implies_true, Bool.true_eq_false, Bool.false_eq_true, decide_true, decide_false, decide_eq_true_eq, decide_eq_false_iff_not, ne_eq, not_true_eq_false, not_false_eq_true, Bool.not_eq_true', Bool.not_eq_false', beq_self_eq_true, Bool.not_true, Bool.not_false, List.getElem?_toArray, List.getElem?_cons_zero, List.getElem?_cons_succ, add_at, b0, b1, b2, b3]
  refine led_store l 0 rfl sz9 (by rfl) (by rfl) (by rfl) fun V l => ?_
  have b0 := l.cell (i := 2) rfl (o := 0) rfl rfl
  have b1 := l.cell (i := 2) rfl (o := 1) rfl rfl
  have b2 := l.cell (i := 2) rfl (o := 2) rfl rfl
  have b3 := l.cell (i := 2) rfl (o := 3) rfl rfl
  simp (disch := omega) only [↓stp, vls, inf, frs, mark_eq, ↓reduceIte, Nat.reduceEqDiff, ite_tt, ite_ff, eq_self, and_true, true_and, and_self, implies_true, Bool.true_eq_false, Bool.false_eq_true, decide_true, decide_false, decide_eq_true_eq, decide_eq_false_iff_not, ne_eq, not_true_eq_false, not_false_eq_true, Bool.not_eq_true', Bool.not_eq_false', beq_self_eq_true, Bool.not_true, Bool.not_false, List.getElem?_toArray, List.getElem?_cons_zero, List.getElem?_cons_succ, add_at, b0, b1, b2, b3]
  refine (toStringS_c V _ _ (hh2.mono l.ext) (by omega)).mono ?_
  rintro w2 V ⟨ff2, o2, he, hfr, hnd⟩
  obtain ⟨p2, r2, rfl, _, _⟩ := o2.toS.slice
  replace l := l.cons he (osl 9 strO ff2 _ _) o2 hfr hnd
  have b0 := l.cell (i := 3) rfl (o := 0) rfl rfl
  have b1 := l.cell (i := 3) rfl (o := 1) rfl rfl
  have b2 := l.cell (i := 3) rfl (o := 2) rfl rfl
  have b3 := l.cell (i := 3) rfl (o := 3) rfl rfl
  simp (disch := omega) only [↓stp, vls, inf, frs, mark_eq, ↓reduceIte, Nat.reduceEqDiff, ite_tt, ite_ff, eq_self, and_true, true_and, and_self, implies_true, Bool.true_eq_false, Bool.false_eq_true, decide_true, decide_false, decide_eq_true_eq, decide_eq_false_iff_not, ne_eq, not_true_eq_false, not_false_eq_true, Bool.not_eq_true', Bool.not_eq_false', beq_self_eq_true, Bool.not_true, Bool.not_false, List.getElem?_toArray, List.getElem?_cons_zero, List.getElem?_cons_succ, add_at, b0, b1, b2, b3]
  refine led_store l 1 rfl sz25 (by rfl) (by rfl) (by rfl) fun V l => ?_
  have b0 := l.cell (i := 3) rfl (o := 0) rfl rfl
  have b1 := l.cell (i := 3) rfl (o := 1) rfl rfl
  have b2 := l.cell (i := 3) rfl (o := 2) rfl rfl
  have b3 := l.cell (i := 3) rfl (o := 3) rfl rfl
  simp (disch := omega) only [↓stp, vls, inf, frs, mark_eq, ↓reduceIte, Nat.reduceEqDiff, ite_tt, ite_ff, eq_self, and_true, true_and, and_self, implies_true, Bool.true_eq_false, Bool.false_eq_true, decide_true, decide_false, decide_eq_true_eq, decide_eq_false_iff_not, ne_eq, not_true_eq_false, not_false_eq_true, Bool.not_eq_true', Bool.not_eq_false', beq_self_eq_true, Bool.not_true, Bool.not_false, List.getElem?_toArray, List.getElem?_cons_zero, List.getElem?_cons_succ, add_at, b0, b1, b2, b3]
  refine (toStringS_c V _ _ (hh3.mono l.ext) (by omega)).mono ?_
  rintro w3 V ⟨ff3, o3, he, hfr, hnd⟩
  obtain ⟨p3, r3, rfl, _, _⟩ := o3.toS.slice
  replace l := l.cons he (osl 9 strO ff3 _ _) o3 hfr hnd
  have b0 := l.cell (i := 4) rfl (o := 0) rfl rfl
  have b1 := l.cell (i := 4) rfl (o := 1) rfl rfl
  have b2 := l.cell (i := 4) rfl (o := 2) rfl rfl
  have b3 := l.cell (i := 4) rfl (o := 3) rfl rfl
  simp (disch := omega) only [↓stp, vls, inf, frs, mark_eq, ↓reduceIte, Nat.reduceEqDiff, ite_tt, ite_ff, eq_self, and_true, true_and, and_self, implies_true, Bool.true_eq_false, Bool.false_eq_true, decide_true, decide_false, decide_eq_true_eq, decide_eq_false_iff_not, ne_eq, not_true_eq_false, not_false_eq_true, Bool.not_eq_true', Bool.not_eq_false', beq_self_eq_true, Bool.not_true, Bool.not_false, List.getElem?_toArray, List.getElem?_cons_zero, List.getElem?_cons_succ, add_at, b0, b1, b2, b3]
  refine led_store l 2 rfl sz25 (by rfl) (by rfl) (by rfl) fun V l => ?_
  have hp : V.part ⟨q2, 0, none⟩ 4 = some [.string x.1, .string x.2.1, .slice p2 _ r2, .slice p3 _ r3] := l.part (i := 2) rfl rfl
  simp (disch := omega) only [↓stp, vls, inf, frs, mark_eq, ↓reduceIte, Nat.reduceEqDiff, ite_tt, ite_ff, eq_self, and_true, true_and, and_self, implies_true, Bool.true_eq_false, Bool.false_eq_true, decide_true, decide_false, decide_eq_true_eq, decide_eq_false_iff_not, ne_eq, not_true_eq_false, not_false_eq_true, Bool.not_eq_true', Bool.not_eq_false', beq_self_eq_true, Bool.not_true, Bool.not_false, List.getElem?_toArray, List.getElem?_cons_zero, List.getElem?_cons_succ, hp]
  refine led_store l 3 rfl sz34 (by rfl) (by rfl) (by rfl) fun V l => ?_
  have hp : V.part ⟨q1, 0, none⟩ 4 = some [.string x.1, .string x.2.1, .slice p2 _ r2, .slice p3 _ r3] := l.part (i := 3) rfl rfl
  simp (disch := omega) only [↓stp, vls, inf, frs, mark_eq, ↓reduceIte, Nat.reduceEqDiff, ite_tt, ite_ff, eq_self, and_true, true_and, and_self, implies_true, Bool.true_eq_false, Bool.false_eq_true, decide_true, decide_false, decide_eq_true_eq, decide_eq_false_iff_not, ne_eq, not_true_eq_false, not_false_eq_true, Bool.not_eq_true', Bool.not_eq_false', beq_self_eq_true, Bool.not_true, Bool.not_false, List.getElem?_toArray, List.getElem?_cons_zero, List.getElem?_cons_succ, hp]
  refine ⟨ff2 ++ (ff3), _, rfl, testO_mk hh0 hh1 (l.at (i := 1) rfl) (l.at (i := 0) rfl), l.ext, fun b hb => ?_, ?_⟩
  · simp only [List.mem_append] at hb
    rcases hb with hb | hb
    · exact l.fresh (i := 1) rfl b hb
    · exact l.fresh (i := 0) rfl b hb
  · refine List.nodup_append.2 ⟨l.nodup1 (i := 1) rfl, ?_, fun a ha b hb e => ?_⟩
    · exact l.nodup1 (i := 0) rfl
    · subst e
      exact l.dis (i := 1) (j := 0) rfl rfl (by decide) _ ha hb

theorem eqTest_c (A : View) (d d' : List Value) (x y : TestD) (h : testS.rel A x d) (h' : testS.rel A y d') : ACalls Try.prog 76 #[.agg d.toArray, .agg d'.toArray] A fun r A' => r = .bool (decide (x = y)) ∧ Ext A A' := by
  obtain ⟨uu2, uu3, rfl, hh0, hh1, hh2, hh3⟩ := testS_open h
  obtain ⟨aa2, cc2, rfl, hc2, hl2⟩ := hh2.slice
  obtain ⟨aa3, cc3, rfl, hc3, hl3⟩ := hh3.slice
  obtain ⟨v2, v3, rfl, g0, g1, g2, g3⟩ := testS_open h'
  obtain ⟨aa2q, cc2q, rfl, hc2q, hl2q⟩ := g2.slice
  obtain ⟨aa3q, cc3q, rfl, hc3q, hl3q⟩ := g3.slice
  refine acalls Try.func76 rfl (by kernel_rfl) ?_
  simp (disch := omega) only [↓stp, vls, inf, frs, mark_eq, ↓reduceIte, Nat.reduceEqDiff, ite_tt, ite_ff, eq_self, and_true, true_and, and_self, implies_true, Bool.true_eq_false, Bool.false_eq_true, decide_true, decide_false, decide_eq_true_eq, decide_eq_false_iff_not, ne_eq, not_true_eq_false, not_false_eq_true, Bool.not_eq_true', Bool.not_eq_false', beq_self_eq_true, Bool.not_true, Bool.not_false, List.getElem?_toArray, List.getElem?_cons_zero, List.getElem?_cons_succ]
  refine led_box (Led.nil A) rfl fun q0 V _ l => ?_
  simp (disch := omega) only [↓stp, vls, inf, frs, mark_eq, ↓reduceIte, Nat.reduceEqDiff, ite_tt, ite_ff, eq_self, and_true, true_and, and_self, implies_true, Bool.true_eq_false, Bool.false_eq_true, decide_true, decide_false, decide_eq_true_eq, decide_eq_false_iff_not, ne_eq, not_true_eq_false, not_false_eq_true, Bool.not_eq_true', Bool.not_eq_false', beq_self_eq_true, Bool.not_true, Bool.not_false, List.getElem?_toArray, List.getElem?_cons_zero, List.getElem?_cons_succ]
  refine led_box l rfl fun q1 V _ l => ?_
  have b0 := l.cell (i := 1) rfl (o := 0) rfl rfl
  have b1 := l.cell (i := 1) rfl (o := 1) rfl rfl
  have b2 := l.cell (i := 1) rfl (o := 2) rfl rfl
  have b3 := l.cell (i := 1) rfl (o := 3) rfl rfl
  have d0 := l.cell (i := 0) rfl (o := 0) rfl rfl
  have d1 := l.cell (i := 0) rfl (o := 1) rfl rfl
  have d2 := l.cell (i := 0) rfl (o := 2) rfl rfl
  have d3 := l.cell (i := 0) rfl (o := 3) rfl rfl
  simp (disch := omega) only [↓stp, vls, inf, frs, mark_eq, ↓reduceIte, Nat.reduceEqDiff, ite_tt, ite_ff, eq_self, and_true, true_and, and_self, implies_true, Bool.true_eq_false, Bool.false_eq_true, decide_true, decide_false, decide_eq_true_eq, decide_eq_false_iff_not, ne_eq, not_true_eq_false, not_false_eq_true, Bool.not_eq_true', Bool.not_eq_false', beq_self_eq_true, Bool.not_true, Bool.not_false, List.getElem?_toArray, List.getElem?_cons_zero, List.getElem?_cons_succ, add_at, b0, b1, b2, b3, d0, d1, d2, d3]
  refine ⟨fun e => ?_, fun e => ?_⟩
  · have hne : ¬ x = y := fun he => by rw [he] at e; simp at e
    simp (disch := omega) only [↓stp, vls, inf, frs, mark_eq, ↓reduceIte, Nat.reduceEqDiff, ite_tt, ite_ff, eq_self, and_true, true_and, and_self, implies_true, Bool.true_eq_false, Bool.false_eq_true, decide_true, decide_false, decide_eq_true_eq, decide_eq_false_iff_not, ne_eq, not_true_eq_false, not_false_eq_true, Bool.not_eq_true', Bool.not_eq_false', beq_self_eq_true, Bool.not_true, Bool.not_false, List.getElem?_toArray, List.getElem?_cons_zero, List.getElem?_cons_succ, hne]
    exact l.ext
  have e0 : x.1 = y.1 := by simpa using e
  simp (disch := omega) only [↓stp, vls, inf, frs, mark_eq, ↓reduceIte, Nat.reduceEqDiff, ite_tt, ite_ff, eq_self, and_true, true_and, and_self, implies_true, Bool.true_eq_false, Bool.false_eq_true, decide_true, decide_false, decide_eq_true_eq, decide_eq_false_iff_not, ne_eq, not_true_eq_false, not_false_eq_true, Bool.not_eq_true', Bool.not_eq_false', beq_self_eq_true, Bool.not_true, Bool.not_false, List.getElem?_toArray, List.getElem?_cons_zero, List.getElem?_cons_succ, add_at, b0, b1, b2, b3, d0, d1, d2, d3]
  refine ⟨fun e => ?_, fun e => ?_⟩
  · have hne : ¬ x = y := fun he => by rw [he] at e; simp at e
    simp (disch := omega) only [↓stp, vls, inf, frs, mark_eq, ↓reduceIte, Nat.reduceEqDiff, ite_tt, ite_ff, eq_self, and_true, true_and, and_self, implies_true, Bool.true_eq_false, Bool.false_eq_true, decide_true, decide_false, decide_eq_true_eq, decide_eq_false_iff_not, ne_eq, not_true_eq_false, not_false_eq_true, Bool.not_eq_true', Bool.not_eq_false', beq_self_eq_true, Bool.not_true, Bool.not_false, List.getElem?_toArray, List.getElem?_cons_zero, List.getElem?_cons_succ, hne]
    exact l.ext
  have e1 : x.2.1 = y.2.1 := by simpa using e
  simp (disch := omega) only [↓stp, vls, inf, frs, mark_eq, ↓reduceIte, Nat.reduceEqDiff, ite_tt, ite_ff, eq_self, and_true, true_and, and_self, implies_true, Bool.true_eq_false, Bool.false_eq_true, decide_true, decide_false, decide_eq_true_eq, decide_eq_false_iff_not, ne_eq, not_true_eq_false, not_false_eq_true, Bool.not_eq_true', Bool.not_eq_false', beq_self_eq_true, Bool.not_true, Bool.not_false, List.getElem?_toArray, List.getElem?_cons_zero, List.getElem?_cons_succ, add_at, b0, b1, b2, b3, d0, d1, d2, d3]
  refine (eqStringS_c V _ _ _ _ (hh2.mono l.ext) (g2.mono l.ext)).mono ?_
  rintro _ V ⟨rfl, he⟩
  replace l := l.step he
  have b0 := l.cell (i := 1) rfl (o := 0) rfl rfl
  have b1 := l.cell (i := 1) rfl (o := 1) rfl rfl
  have b2 := l.cell (i := 1) rfl (o := 2) rfl rfl
  have b3 := l.cell (i := 1) rfl (o := 3) rfl rfl
  have d0 := l.cell (i := 0) rfl (o := 0) rfl rfl
  have d1 := l.cell (i := 0) rfl (o := 1) rfl rfl
  have d2 := l.cell (i := 0) rfl (o := 2) rfl rfl
  have d3 := l.cell (i := 0) rfl (o := 3) rfl rfl
  simp (disch := omega) only [↓stp, vls, inf, frs, mark_eq, ↓reduceIte, Nat.reduceEqDiff, ite_tt, ite_ff, eq_self, and_true, true_and, and_self, implies_true, Bool.true_eq_false, Bool.false_eq_true, decide_true, decide_false, decide_eq_true_eq, decide_eq_false_iff_not, ne_eq, not_true_eq_false, not_false_eq_true, Bool.not_eq_true', Bool.not_eq_false', beq_self_eq_true, Bool.not_true, Bool.not_false, List.getElem?_toArray, List.getElem?_cons_zero, List.getElem?_cons_succ, add_at, b0, b1, b2, b3, d0, d1, d2, d3]
  refine ⟨fun e => ?_, fun e => ?_⟩
  · have hne : ¬ x = y := fun he => by rw [he] at e; simp at e
    simp (disch := omega) only [↓stp, vls, inf, frs, mark_eq, ↓reduceIte, Nat.reduceEqDiff, ite_tt, ite_ff, eq_self, and_true, true_and, and_self, implies_true, Bool.true_eq_false, Bool.false_eq_true, decide_true, decide_false, decide_eq_true_eq, decide_eq_false_iff_not, ne_eq, not_true_eq_false, not_false_eq_true, Bool.not_eq_true', Bool.not_eq_false', beq_self_eq_true, Bool.not_true, Bool.not_false, List.getElem?_toArray, List.getElem?_cons_zero, List.getElem?_cons_succ, hne]
    exact l.ext
  have e2 : x.2.2.1 = y.2.2.1 := by simpa using e
  simp (disch := omega) only [↓stp, vls, inf, frs, mark_eq, ↓reduceIte, Nat.reduceEqDiff, ite_tt, ite_ff, eq_self, and_true, true_and, and_self, implies_true, Bool.true_eq_false, Bool.false_eq_true, decide_true, decide_false, decide_eq_true_eq, decide_eq_false_iff_not, ne_eq, not_true_eq_false, not_false_eq_true, Bool.not_eq_true', Bool.not_eq_false', beq_self_eq_true, Bool.not_true, Bool.not_false, List.getElem?_toArray, List.getElem?_cons_zero, List.getElem?_cons_succ, add_at, b0, b1, b2, b3, d0, d1, d2, d3]
  refine (eqStringS_c V _ _ _ _ (hh3.mono l.ext) (g3.mono l.ext)).mono ?_
  rintro _ V ⟨rfl, he⟩
  replace l := l.step he
  have b0 := l.cell (i := 1) rfl (o := 0) rfl rfl
  have b1 := l.cell (i := 1) rfl (o := 1) rfl rfl
  have b2 := l.cell (i := 1) rfl (o := 2) rfl rfl
  have b3 := l.cell (i := 1) rfl (o := 3) rfl rfl
  have d0 := l.cell (i := 0) rfl (o := 0) rfl rfl
  have d1 := l.cell (i := 0) rfl (o := 1) rfl rfl
  have d2 := l.cell (i := 0) rfl (o := 2) rfl rfl
  have d3 := l.cell (i := 0) rfl (o := 3) rfl rfl
  simp (disch := omega) only [↓stp, vls, inf, frs, mark_eq, ↓reduceIte, Nat.reduceEqDiff, ite_tt, ite_ff, eq_self, and_true, true_and, and_self, implies_true, Bool.true_eq_false, Bool.false_eq_true, decide_true, decide_false, decide_eq_true_eq, decide_eq_false_iff_not, ne_eq, not_true_eq_false, not_false_eq_true, Bool.not_eq_true', Bool.not_eq_false', beq_self_eq_true, Bool.not_true, Bool.not_false, List.getElem?_toArray, List.getElem?_cons_zero, List.getElem?_cons_succ, add_at, b0, b1, b2, b3, d0, d1, d2, d3]
  refine ⟨fun e => ?_, fun e => ?_⟩
  · have hne : ¬ x = y := fun he => by rw [he] at e; simp at e
    simp (disch := omega) only [↓stp, vls, inf, frs, mark_eq, ↓reduceIte, Nat.reduceEqDiff, ite_tt, ite_ff, eq_self, and_true, true_and, and_self, implies_true, Bool.true_eq_false, Bool.false_eq_true, decide_true, decide_false, decide_eq_true_eq, decide_eq_false_iff_not, ne_eq, not_true_eq_false, not_false_eq_true, Bool.not_eq_true', Bool.not_eq_false', beq_self_eq_true, Bool.not_true, Bool.not_false, List.getElem?_toArray, List.getElem?_cons_zero, List.getElem?_cons_succ, hne]
    exact l.ext
  have e3 : x.2.2.2.1 = y.2.2.2.1 := by simpa using e
  have he : x = y := Prod.ext e0 (Prod.ext e1 (Prod.ext e2 (Prod.ext e3 (rfl))))
  simp (disch := omega) only [↓stp, vls, inf, frs, mark_eq, ↓reduceIte, Nat.reduceEqDiff, ite_tt, ite_ff, eq_self, and_true, true_and, and_self, implies_true, Bool.true_eq_false, Bool.false_eq_true, decide_true, decide_false, decide_eq_true_eq, decide_eq_false_iff_not, ne_eq, not_true_eq_false, not_false_eq_true, Bool.not_eq_true', Bool.not_eq_false', beq_self_eq_true, Bool.not_true, Bool.not_false, List.getElem?_toArray, List.getElem?_cons_zero, List.getElem?_cons_succ, he]
  exact l.ext

theorem szTestS_c (A : View) (v : Value) (xs : List TestD) (k : Int) (h : Sl testS A v xs) (hk : 0 ≤ k ∧ k ≤ 1048576) : ACalls Try.prog 34 #[v, .int .i64 k] A fun r A' => (∃ j : Int, r = .int .i64 j ∧ (j = -1 ∨ (0 ≤ j ∧ j + (xs.length + wL testT xs : Nat) = k))) ∧ Ext A A' := by
  obtain ⟨a, c, rfl, hc, hl⟩ := h.slice
  refine acalls Try.func34 rfl (by kernel_rfl) ?_
  simp (disch := omega) only [↓stp, vls, inf, frs, mark_eq, ↓reduceIte, Nat.reduceEqDiff, ite_tt, ite_ff, eq_self, and_true, true_and, and_self, implies_true, Bool.true_eq_false, Bool.false_eq_true, decide_true, decide_false, decide_eq_true_eq, decide_eq_false_iff_not, ne_eq, not_true_eq_false, not_false_eq_true, Bool.not_eq_true', Bool.not_eq_false', beq_self_eq_true, Bool.not_true, Bool.not_false, List.getElem?_toArray, List.getElem?_cons_zero, List.getElem?_cons_succ]
  refine ⟨fun e => ?_, fun e => ?_⟩
  · simp (disch := omega) only [↓stp, vls, inf, frs, mark_eq, ↓reduceIte, Nat.reduceEqDiff, ite_tt, ite_ff, eq_self, and_true, true_and, and_self, implies_true, Bool.true_eq_false, Bool.false_eq_true, decide_true, decide_false, decide_eq_true_eq, decide_eq_false_iff_not, ne_eq, not_true_eq_false, not_false_eq_true, Bool.not_eq_true', Bool.not_eq_false', beq_self_eq_true, Bool.not_true, Bool.not_false, List.getElem?_toArray, List.getElem?_cons_zero, List.getElem?_cons_succ, e]
    exact ⟨⟨_, rfl, .inl rfl⟩, Ext.refl _⟩
  · simp (disch := omega) only [↓stp, vls, inf, frs, mark_eq, ↓reduceIte, Nat.reduceEqDiff, ite_tt, ite_ff, eq_self, and_true, true_and, and_self, implies_true, Bool.true_eq_false, Bool.false_eq_true, decide_true, decide_false, decide_eq_true_eq, decide_eq_false_iff_not, ne_eq, not_true_eq_false, not_false_eq_true, Bool.not_eq_true', Bool.not_eq_false', beq_self_eq_true, Bool.not_true, Bool.not_false, List.getElem?_toArray, List.getElem?_cons_zero, List.getElem?_cons_succ]
    refine aloop (fun d fr A' => ∃ (i : Nat) (kk : Int), i ≤ xs.length ∧ d = xs.length - i ∧ Ext A A' ∧ fr 0 = .slice a xs.length c ∧ fr 1 = .int .i64 kk ∧ fr 5 = .int .i64 i ∧ 0 ≤ kk ∧ kk + (xs.length + wL testT (xs.take i) : Nat) = k) xs.length ⟨0, k - xs.length, by omega, by omega, Ext.refl _, rfl, by rfl, by rfl, by omega, by simp [wL]⟩ ?_
    rintro d fr A' ⟨i, kk, hi, rfl, he, h0, h1, h5, hk1, hk2⟩
    simp (disch := omega) only [↓stp, vls, inf, frs, mark_eq, ↓reduceIte, Nat.reduceEqDiff, ite_tt, ite_ff, eq_self, and_true, true_and, and_self, implies_true, Bool.true_eq_false, Bool.false_eq_true, decide_true, decide_false, decide_eq_true_eq, decide_eq_false_iff_not, ne_eq, not_true_eq_false, not_false_eq_true, Bool.not_eq_true', Bool.not_eq_false', beq_self_eq_true, Bool.not_true, Bool.not_false, List.getElem?_toArray, List.getElem?_cons_zero, List.getElem?_cons_succ, h0, h1, h5]
    refine ⟨fun e => ?_, fun e => ?_⟩
    · have hlt : i < xs.length := by omega
      obtain ⟨ad, d, rfl, hd, hp, _⟩ := (h.mono he).at hlt
      have hp : A'.part (ad.add (i * 4)) 4 = some d := hp
      simp (disch := omega) only [↓stp, vls, inf, frs, mark_eq, ↓reduceIte, Nat.reduceEqDiff, ite_tt, ite_ff, eq_self, and_true, true_and, and_self, implies_true, Bool.true_eq_false, Bool.false_eq_true, decide_true, decide_false, decide_eq_true_eq, decide_eq_false_iff_not, ne_eq, not_true_eq_false, not_false_eq_true, Bool.not_eq_true', Bool.not_eq_false', beq_self_eq_true, Bool.not_true, Bool.not_false, List.getElem?_toArray, List.getElem?_cons_zero, List.getElem?_cons_succ, h0, h1, h5, hp]
      refine (szTest_c A' d xs[i] kk hd (by omega)).mono ?_
      rintro _ A1 ⟨⟨j, rfl, hj⟩, he1⟩
      simp (disch := omega) only [↓stp, vls, inf, frs, mark_eq, ↓reduceIte, Nat.reduceEqDiff, ite_tt, ite_ff, eq_self, and_true, true_and, and_self, implies_true, Bool.true_eq_false, Bool.false_eq_true, decide_true, decide_false, decide_eq_true_eq, decide_eq_false_iff_not, ne_eq, not_true_eq_false, not_false_eq_true, Bool.not_eq_true', Bool.not_eq_false', beq_self_eq_true, Bool.not_true, Bool.not_false, List.getElem?_toArray, List.getElem?_cons_zero, List.getElem?_cons_succ, h0, h1, h5]
      refine ⟨fun e1 => ?_, fun e1 => ?_⟩ <;> simp (disch := omega) only [↓stp, vls, inf, frs, mark_eq, ↓reduceIte, Nat.reduceEqDiff, ite_tt, ite_ff, eq_self, and_true, true_and, and_self, implies_true, Bool.true_eq_false, Bool.false_eq_true, decide_true, decide_false, decide_eq_true_eq, decide_eq_false_iff_not, ne_eq, not_true_eq_false, not_false_eq_true, Bool.not_eq_true', Bool.not_eq_false', beq_self_eq_true, Bool.not_true, Bool.not_false, List.getElem?_toArray, List.getElem?_cons_zero, List.getElem?_cons_succ, h0, h1, h5]
      · exact ⟨⟨_, rfl, .inl rfl⟩, he.trans he1⟩
      · have hj := hj.resolve_left (by omega)
        have hw := wL_take testT xs hlt
        exact ⟨_, by omega, i + 1, _, by omega, rfl, he.trans he1, rfl, rfl, by omega, by omega⟩
    · simp (disch := omega) only [↓stp, vls, inf, frs, mark_eq, ↓reduceIte, Nat.reduceEqDiff, ite_tt, ite_ff, eq_self, and_true, true_and, and_self, implies_true, Bool.true_eq_false, Bool.false_eq_true, decide_true, decide_false, decide_eq_true_eq, decide_eq_false_iff_not, ne_eq, not_true_eq_false, not_false_eq_true, Bool.not_eq_true', Bool.not_eq_false', beq_self_eq_true, Bool.not_true, Bool.not_false, List.getElem?_toArray, List.getElem?_cons_zero, List.getElem?_cons_succ, h0, h1, h5]
      rw [List.take_of_length_le (by omega)] at hk2
      exact ⟨⟨_, rfl, .inr ⟨hk1, hk2⟩⟩, he⟩

theorem toTestS_c (A : View) (v : Value) (xs : List TestD) (h : Sl testS A v xs) (hw : xs.length + wL testT xs ≤ 1048576) : ACalls Try.prog 36 #[v] A fun r A' => ∃ fp, OSl 34 testO A' fp r xs ∧ Ext A A' ∧ (∀ b, b ∈ fp → A b = none) ∧ fp.Nodup := by
  obtain ⟨a, c, rfl, hc, hl⟩ := h.slice
  refine acalls Try.func36 rfl (by kernel_rfl) ?_
  simp (disch := omega) only [↓stp, vls, inf, frs, mark_eq, ↓reduceIte, Nat.reduceEqDiff, ite_tt, ite_ff, eq_self, and_true, true_and, and_self, implies_true, Bool.true_eq_false, Bool.false_eq_true, decide_true, decide_false, decide_eq_true_eq, decide_eq_false_iff_not, ne_eq, not_true_eq_false, not_false_eq_true, Bool.not_eq_true', Bool.not_eq_false', beq_self_eq_true, Bool.not_true, Bool.not_false, List.getElem?_toArray, List.getElem?_cons_zero, List.getElem?_cons_succ]
  refine amake_at mk23 (by omega) (by omega) fun b hb => ?_
  simp (disch := omega) only [↓stp, vls, inf, frs, mark_eq, ↓reduceIte, Nat.reduceEqDiff, ite_tt, ite_ff, eq_self, and_true, true_and, and_self, implies_true, Bool.true_eq_false, Bool.false_eq_true, decide_true, decide_false, decide_eq_true_eq, decide_eq_false_iff_not, ne_eq, not_true_eq_false, not_false_eq_true, Bool.not_eq_true', Bool.not_eq_false', beq_self_eq_true, Bool.not_true, Bool.not_false, List.getElem?_toArray, List.getElem?_cons_zero, List.getElem?_cons_succ]
  refine aloop (fun d fr A' => ∃ (i : Nat) (fp : List Nat) (done : List Value), i ≤ xs.length ∧ d = xs.length - i ∧ A' b = some ⟨34, done ++ (List.replicate (xs.length - i) [.string ⟨#[]⟩, .string ⟨#[]⟩, .slice none 0 0, .slice none 0 0]).flatten, xs.length * 4, true⟩ ∧ OElems testO A' fp (xs.take i) done ∧ Ext A A' ∧ (∀ x, x ∈ fp → A x = none ∧ x ≠ b) ∧ fp.Nodup ∧ fr 0 = .slice a xs.length c ∧ fr 3 = .slice (some ⟨b, 0, none⟩) xs.length xs.length ∧ fr 4 = .int .i64 i) xs.length ⟨0, [], [], by omega, by omega, by rw [View.set_same]; rfl, .nil, Ext.new hb _, by simp, List.nodup_nil, rfl, by rfl, by rfl⟩ ?_
  rintro d fr A' ⟨i, fp, done, hi, rfl, hA, hd, he, hfr, hnd, h0, h3, h4⟩
  simp (disch := omega) only [↓stp, vls, inf, frs, mark_eq, ↓reduceIte, Nat.reduceEqDiff, ite_tt, ite_ff, eq_self, and_true, true_and, and_self, implies_true, Bool.true_eq_false, Bool.false_eq_true, decide_true, decide_false, decide_eq_true_eq, decide_eq_false_iff_not, ne_eq, not_true_eq_false, not_false_eq_true, Bool.not_eq_true', Bool.not_eq_false', beq_self_eq_true, Bool.not_true, Bool.not_false, List.getElem?_toArray, List.getElem?_cons_zero, List.getElem?_cons_succ, h0, h3, h4]
  refine ⟨fun e => ?_, fun e => ?_⟩
  · have hlt : i < xs.length := by omega
    obtain ⟨ad, d, rfl, hdd, hp, _⟩ := (h.mono he).at hlt
    have hp : A'.part (ad.add (i * 4)) 4 = some d := hp
    simp (disch := omega) only [↓stp, vls, inf, frs, mark_eq, ↓reduceIte, Nat.reduceEqDiff, ite_tt, ite_ff, eq_self, and_true, true_and, and_self, implies_true, Bool.true_eq_false, Bool.false_eq_true, decide_true, decide_false, decide_eq_true_eq, decide_eq_false_iff_not, ne_eq, not_true_eq_false, not_false_eq_true, Bool.not_eq_true', Bool.not_eq_false', beq_self_eq_true, Bool.not_true, Bool.not_false, List.getElem?_toArray, List.getElem?_cons_zero, List.getElem?_cons_succ, h0, h3, h4, hp]
    refine (toTest_c A' d xs[i] hdd (by have := wL_mem testT (List.getElem_mem hlt); omega)).mono ?_
    rintro _ A1 ⟨fq, d', rfl, hw', he1, hfq, hndq⟩
    have hdl : done.length = i * 4 := by
      have := hd.len
      rw [List.length_take, Nat.min_eq_left hi] at this
      exact this
    have hz : (List.replicate (xs.length - i) ([.string ⟨#[]⟩, .string ⟨#[]⟩, .slice none 0 0, .slice none 0 0] : List Value)).flatten = [.string ⟨#[]⟩, .string ⟨#[]⟩, .slice none 0 0, .slice none 0 0] ++ (List.replicate (xs.length - (i + 1)) [.string ⟨#[]⟩, .string ⟨#[]⟩, .slice none 0 0, .slice none 0 0]).flatten := by
      rw [show xs.length - i = (xs.length - (i + 1)) + 1 by omega, List.replicate_succ]; rfl
    have hA1 := he1 _ _ hA
    have hbq : b ∉ fq := fun hm => by rw [hfq _ hm] at hA; cases hA
    have hsz : d'.toArray.size = 4 := by rw [List.size_toArray]; exact testS.len (testO_S hw')
    have hone : (Value.agg d'.toArray).cells.toList.all (·.oneCell') = true := List.all_eq_true.2 (testS.one (testO_S hw'))
    have hst := storev_at (P := Try.prog) (v := .agg d'.toArray) sz34 (hA1.trans (by rw [hz])) hsz rfl hone (o := 0 + i * 4) (by omega)
    simp (disch := omega) only [↓stp, vls, inf, frs, mark_eq, ↓reduceIte, Nat.reduceEqDiff, ite_tt, ite_ff, eq_self, and_true, true_and, and_self, implies_true, Bool.true_eq_false, Bool.false_eq_true, decide_true, decide_false, decide_eq_true_eq, decide_eq_false_iff_not, ne_eq, not_true_eq_false, not_false_eq_true, Bool.not_eq_true', Bool.not_eq_false', beq_self_eq_true, Bool.not_true, Bool.not_false, List.getElem?_toArray, List.getElem?_cons_zero, List.getElem?_cons_succ, astore_at, h0, h3, h4, add_at, hst]
    have hqfp : ∀ x, x ∈ fp → x ∉ fq := fun x hx hm => by
      obtain ⟨k, hk⟩ := hd.has x hx
      rw [hfq x hm] at hk; cases hk
    refine ⟨_, by omega, i + 1, fp ++ fq, done ++ d', by omega, rfl, ?_, ?_, (he.trans he1).setOld hb _, ?_, ?_, rfl⟩
    · rw [View.set_same, List.append_assoc]; rfl
    · rw [List.take_succ_eq_append_getElem hlt]
      refine OElems.append (hd.stay fun x k hx hk => ?_) (OElems.single (testO.stay hw' fun x k hx hk => ?_))
      · rw [View.set_ne _ _ (hfr x hx).2]
        exact he1 _ _ hk
      · rw [View.set_ne _ _ (fun e => hbq (by rw [← e]; exact hx))]
        exact hk
    · intro x hx
      rcases List.mem_append.1 hx with hx | hx
      · exact hfr x hx
      · exact ⟨he.none (hfq x hx), fun e => hbq (by rw [← e]; exact hx)⟩
    · exact List.nodup_append.2 ⟨hnd, hndq, fun x hx y hy e => hqfp x hx (by rw [e]; exact hy)⟩
  · simp (disch := omega) only [↓stp, vls, inf, frs, mark_eq, ↓reduceIte, Nat.reduceEqDiff, ite_tt, ite_ff, eq_self, and_true, true_and, and_self, implies_true, Bool.true_eq_false, Bool.false_eq_true, decide_true, decide_false, decide_eq_true_eq, decide_eq_false_iff_not, ne_eq, not_true_eq_false, not_false_eq_true, Bool.not_eq_true', Bool.not_eq_false', beq_self_eq_true, Bool.not_true, Bool.not_false, List.getElem?_toArray, List.getElem?_cons_zero, List.getElem?_cons_succ, h0, h3, h4]
    have hi' : i = xs.length := by omega
    subst hi'
    rw [List.take_length] at hd
    simp only [Nat.sub_self, List.replicate_zero, List.flatten_nil, List.append_nil] at hA
    refine ⟨b :: fp, ⟨by omega, .inr ⟨b, _, done, fp, rfl, Nat.le_refl _, rfl, hA, hd⟩⟩, he, ?_, List.nodup_cons.2 ⟨fun hm => (hfr b hm).2 rfl, hnd⟩⟩
    intro x hx
    rcases List.mem_cons.1 hx with rfl | hx
    · exact hb
    · exact (hfr x hx).1

theorem eqTestS_c (A : View) (v u : Value) (xs ys : List TestD) (h : Sl testS A v xs) (h' : Sl testS A u ys) : ACalls Try.prog 38 #[v, u] A fun r A' => r = .bool (decide (xs = ys)) ∧ Ext A A' := by
  obtain ⟨a, c, rfl, hc, hl⟩ := h.slice
  obtain ⟨a', c', rfl, hc', hl'⟩ := h'.slice
  refine acalls Try.func38 rfl (by kernel_rfl) ?_
  simp (disch := omega) only [↓stp, vls, inf, frs, mark_eq, ↓reduceIte, Nat.reduceEqDiff, ite_tt, ite_ff, eq_self, and_true, true_and, and_self, implies_true, Bool.true_eq_false, Bool.false_eq_true, decide_true, decide_false, decide_eq_true_eq, decide_eq_false_iff_not, ne_eq, not_true_eq_false, not_false_eq_true, Bool.not_eq_true', Bool.not_eq_false', beq_self_eq_true, Bool.not_true, Bool.not_false, List.getElem?_toArray, List.getElem?_cons_zero, List.getElem?_cons_succ]
  refine ⟨fun e => ?_, fun e => ?_⟩
  · simp (disch := omega) only [↓stp, vls, inf, frs, mark_eq, ↓reduceIte, Nat.reduceEqDiff, ite_tt, ite_ff, eq_self, and_true, true_and, and_self, implies_true, Bool.true_eq_false, Bool.false_eq_true, decide_true, decide_false, decide_eq_true_eq, decide_eq_false_iff_not, ne_eq, not_true_eq_false, not_false_eq_true, Bool.not_eq_true', Bool.not_eq_false', beq_self_eq_true, Bool.not_true, Bool.not_false, List.getElem?_toArray, List.getElem?_cons_zero, List.getElem?_cons_succ]
    have : xs ≠ ys := fun he => e (by rw [he])
    exact ⟨by simp [this], Ext.refl _⟩
  · have hlen : xs.length = ys.length := by omega
    simp (disch := omega) only [↓stp, vls, inf, frs, mark_eq, ↓reduceIte, Nat.reduceEqDiff, ite_tt, ite_ff, eq_self, and_true, true_and, and_self, implies_true, Bool.true_eq_false, Bool.false_eq_true, decide_true, decide_false, decide_eq_true_eq, decide_eq_false_iff_not, ne_eq, not_true_eq_false, not_false_eq_true, Bool.not_eq_true', Bool.not_eq_false', beq_self_eq_true, Bool.not_true, Bool.not_false, List.getElem?_toArray, List.getElem?_cons_zero, List.getElem?_cons_succ]
    refine aloop (fun d fr A' => ∃ i : Nat, i ≤ xs.length ∧ d = xs.length - i ∧ Ext A A' ∧ fr 0 = .slice a xs.length c ∧ fr 1 = .slice a' ys.length c' ∧ fr 5 = .int .i64 i ∧ xs.take i = ys.take i) xs.length ⟨0, by omega, by omega, Ext.refl _, rfl, by rfl, by rfl, by simp⟩ ?_
    rintro d fr A' ⟨i, hi, rfl, he, h0, h1, h5, hn⟩
    simp (disch := omega) only [↓stp, vls, inf, frs, mark_eq, ↓reduceIte, Nat.reduceEqDiff, ite_tt, ite_ff, eq_self, and_true, true_and, and_self, implies_true, Bool.true_eq_false, Bool.false_eq_true, decide_true, decide_false, decide_eq_true_eq, decide_eq_false_iff_not, ne_eq, not_true_eq_false, not_false_eq_true, Bool.not_eq_true', Bool.not_eq_false', beq_self_eq_true, Bool.not_true, Bool.not_false, List.getElem?_toArray, List.getElem?_cons_zero, List.getElem?_cons_succ, h0, h1, h5]
    refine ⟨fun e => ?_, fun e => ?_⟩
    · obtain ⟨ad, d, rfl, hd, hp, _⟩ := (h.mono he).at (i := i) (by omega)
      obtain ⟨ad', d', rfl, hd', hp', _⟩ := (h'.mono he).at (i := i) (by omega)
      have hp : A'.part (ad.add (i * 4)) 4 = some d := hp
      have hp' : A'.part (ad'.add (i * 4)) 4 = some d' := hp'
      simp (disch := omega) only [↓stp, vls, inf, frs, mark_eq, ↓reduceIte, Nat.reduceEqDiff, ite_tt, ite_ff, eq_self, and_true, true_and, and_self, implies_true, Bool.true_eq_false, Bool.false_eq_true, decide_true, decide_false, decide_eq_true_eq, decide_eq_false_iff_not, ne_eq, not_true_eq_false, not_false_eq_true, Bool.not_eq_true', Bool.not_eq_false', beq_self_eq_true, Bool.not_true, Bool.not_false, List.getElem?_toArray, List.getElem?_cons_zero, List.getElem?_cons_succ, h0, h1, h5]
      refine adraw_items [.q 0, .q 1, .q 2, .l 3 false, .q 4, .q 5, .q 6, .l 7 false, .c 8 [], .q 9] (by kernel_rfl) (by kernel_rfl) ?_
      simp (disch := omega) only [↓stp, ↓pln, plv, nilOk, Nat.reduceBEq, Bool.or_false, Bool.or_true, Bool.false_or, Bool.true_or, vls, inf, frs, mark_eq, ↓reduceIte, Nat.reduceEqDiff, ite_tt, ite_ff, eq_self, and_true, true_and, and_self, implies_true, Bool.true_eq_false, Bool.false_eq_true, decide_true, decide_false, decide_eq_true_eq, decide_eq_false_iff_not, ne_eq, not_true_eq_false, not_false_eq_true, Bool.not_eq_true', Bool.not_eq_false', beq_self_eq_true, Bool.not_true, Bool.not_false, List.getElem?_toArray, List.getElem?_cons_zero, List.getElem?_cons_succ, h0, h1, h5, hp, hp']
      refine (eqTest_c A' d d' xs[i] ys[i] hd hd').mono ?_
      rintro _ A1 ⟨rfl, he1⟩
      simp (disch := omega) only [↓stp, ↓pln, plv, nilOk, Nat.reduceBEq, Bool.or_false, Bool.or_true, Bool.false_or, Bool.true_or, vls, inf, frs, mark_eq, ↓reduceIte, Nat.reduceEqDiff, ite_tt, ite_ff, eq_self, and_true, true_and, and_self, implies_true, Bool.true_eq_false, Bool.false_eq_true, decide_true, decide_false, decide_eq_true_eq, decide_eq_false_iff_not, ne_eq, not_true_eq_false, not_false_eq_true, Bool.not_eq_true', Bool.not_eq_false', beq_self_eq_true, Bool.not_true, Bool.not_false, List.getElem?_toArray, List.getElem?_cons_zero, List.getElem?_cons_succ, h0, h1, h5]
      refine ⟨fun e1 => ?_, fun e1 => ?_⟩ <;> simp (disch := omega) only [↓stp, vls, inf, frs, mark_eq, ↓reduceIte, Nat.reduceEqDiff, ite_tt, ite_ff, eq_self, and_true, true_and, and_self, implies_true, Bool.true_eq_false, Bool.false_eq_true, decide_true, decide_false, decide_eq_true_eq, decide_eq_false_iff_not, ne_eq, not_true_eq_false, not_false_eq_true, Bool.not_eq_true', Bool.not_eq_false', beq_self_eq_true, Bool.not_true, Bool.not_false, List.getElem?_toArray, List.getElem?_cons_zero, List.getElem?_cons_succ, h0, h1, h5]
      · have : xs ≠ ys := fun he => e1 (by simp only [he])
        exact ⟨by simp [this], he.trans he1⟩
      · refine ⟨_, by omega, i + 1, by omega, rfl, he.trans he1, rfl, ?_⟩
        rw [List.take_succ_eq_append_getElem (by omega), List.take_succ_eq_append_getElem (by omega), hn]
        have : xs[i] = ys[i] := by simpa using e1
        rw [this]
    · rw [List.take_of_length_le (by omega), List.take_of_length_le (by omega)] at hn
      simp (disch := omega) only [↓stp, vls, inf, frs, mark_eq, ↓reduceIte, Nat.reduceEqDiff, ite_tt, ite_ff, eq_self, and_true, true_and, and_self, implies_true, Bool.true_eq_false, Bool.false_eq_true, decide_true, decide_false, decide_eq_true_eq, decide_eq_false_iff_not, ne_eq, not_true_eq_false, not_false_eq_true, Bool.not_eq_true', Bool.not_eq_false', beq_self_eq_true, Bool.not_true, Bool.not_false, List.getElem?_toArray, List.getElem?_cons_zero, List.getElem?_cons_succ, h0, h1, h5, hn]
      exact he

theorem markTestS_c (A : View) (fp : List Nat) (v : Value) (xs : List TestD) (k : Nat) (h : OSl 34 testO A fp v xs) (hnd : fp.Nodup) (hk0 : 0 < k) (hk : k + cntL testT xs ≤ 68719476736) :
    ACalls Try.prog 39 #[v, .int .i64 k] A fun r A' => r = .int .i64 ((k + cntL testT xs : Nat) : Int) ∧ OSl 34 testO A' fp v (mkL testT k xs) ∧ Only fp A A' := by
  obtain ⟨hl, ⟨rfl, rfl, rfl⟩ | ⟨b, c, cells, f, rfl, hc, rfl, hbk, he⟩⟩ := h
  · refine acalls Try.func39 rfl (by kernel_rfl) ?_
    simp (disch := omega) only [↓stp, vls, inf, frs, mark_eq, ↓reduceIte, Nat.reduceEqDiff, ite_tt, ite_ff, eq_self, and_true, true_and, and_self, implies_true, Bool.true_eq_false, Bool.false_eq_true, decide_true, decide_false, decide_eq_true_eq, decide_eq_false_iff_not, ne_eq, not_true_eq_false, not_false_eq_true, Bool.not_eq_true', Bool.not_eq_false', beq_self_eq_true, Bool.not_true, Bool.not_false, List.getElem?_toArray, List.getElem?_cons_zero, List.getElem?_cons_succ]
    refine aloop (fun d fr A' => A' = A ∧ fr 0 = .slice none 0 0 ∧ fr 1 = .int .i64 k ∧ fr 5 = .int .i64 0) 0 ⟨rfl, by rfl, by rfl, by rfl⟩ ?_
    rintro d fr A ⟨rfl, z0, z1, z5⟩
    simp (disch := omega) only [↓stp, vls, inf, frs, mark_eq, ↓reduceIte, Nat.reduceEqDiff, ite_tt, ite_ff, eq_self, and_true, true_and, and_self, implies_true, Bool.true_eq_false, Bool.false_eq_true, decide_true, decide_false, decide_eq_true_eq, decide_eq_false_iff_not, ne_eq, not_true_eq_false, not_false_eq_true, Bool.not_eq_true', Bool.not_eq_false', beq_self_eq_true, Bool.not_true, Bool.not_false, List.getElem?_toArray, List.getElem?_cons_zero, List.getElem?_cons_succ, z0, z1, z5]
    refine ⟨fun e => by omega, fun e => ?_⟩
    simp (disch := omega) only [↓stp, vls, inf, frs, mark_eq, ↓reduceIte, Nat.reduceEqDiff, ite_tt, ite_ff, eq_self, and_true, true_and, and_self, implies_true, Bool.true_eq_false, Bool.false_eq_true, decide_true, decide_false, decide_eq_true_eq, decide_eq_false_iff_not, ne_eq, not_true_eq_false, not_false_eq_true, Bool.not_eq_true', Bool.not_eq_false', beq_self_eq_true, Bool.not_true, Bool.not_false, List.getElem?_toArray, List.getElem?_cons_zero, List.getElem?_cons_succ, z0, z1, z5]
    exact ⟨by simp [cntL], ⟨by simp [mkL], .inl ⟨rfl, rfl, rfl⟩⟩, Only.refl _ _⟩
  · have hcl := he.len
    refine acalls Try.func39 rfl (by kernel_rfl) ?_
    simp (disch := omega) only [↓stp, vls, inf, frs, mark_eq, ↓reduceIte, Nat.reduceEqDiff, ite_tt, ite_ff, eq_self, and_true, true_and, and_self, implies_true, Bool.true_eq_false, Bool.false_eq_true, decide_true, decide_false, decide_eq_true_eq, decide_eq_false_iff_not, ne_eq, not_true_eq_false, not_false_eq_true, Bool.not_eq_true', Bool.not_eq_false', beq_self_eq_true, Bool.not_true, Bool.not_false, List.getElem?_toArray, List.getElem?_cons_zero, List.getElem?_cons_succ]
    refine aloop (fun d fr A' => ∃ (i : Nat) (c1 c2 : List Value) (g1 g2 : List Nat), i ≤ xs.length ∧ d = xs.length - i ∧ c1.length = i * 4 ∧ Led (fun _ => none) [bx b ⟨34, c1 ++ c2, c * 4, true⟩, oel testO g1 (mkL testT k (xs.take i)) c1, oel testO g2 (xs.drop i) c2] A' ∧ f = g1 ++ g2 ∧ Only (b :: f) A A' ∧ fr 0 = .slice (some ⟨b, 0, none⟩) xs.length c ∧ fr 1 = .int .i64 ((k + cntL testT (xs.take i) : Nat) : Int) ∧ fr 5 = .int .i64 i) xs.length ⟨0, [], cells, [], f, by omega, by omega, rfl, led0 (by
      intro it hit
      simp only [List.mem_cons, List.not_mem_nil, or_false] at hit
      rcases hit with rfl | rfl | rfl
      · exact hbk
      · exact .nil
      · exact he) (by simpa [fps, bx, oel] using hnd), rfl, Only.refl _ _, rfl, by rfl, by rfl⟩ ?_
    rintro d fr A' ⟨i, c1, c2, g1, g2, hi, rfl, hc1, l, rfl, ho, z0, z1, z5⟩
    simp (disch := omega) only [↓stp, vls, inf, frs, mark_eq, ↓reduceIte, Nat.reduceEqDiff, ite_tt, ite_ff, eq_self, and_true, true_and, and_self, implies_true, Bool.true_eq_false, Bool.false_eq_true, decide_true, decide_false, decide_eq_true_eq, decide_eq_false_iff_not, ne_eq, not_true_eq_false, not_false_eq_true, Bool.not_eq_true', Bool.not_eq_false', beq_self_eq_true, Bool.not_true, Bool.not_false, List.getElem?_toArray, List.getElem?_cons_zero, List.getElem?_cons_succ, z0, z1, z5]
    refine ⟨fun e => ?_, fun e => ?_⟩
    · have hlt : i < xs.length := by omega
      have hsum := cntL_split testT xs hlt
      have hcx := testT_cnt xs[i]
      have hct := cntL_take testT xs hlt
      have hmt := mkL_take testT k xs hlt
      have hrest : OElems testO A' g2 (xs.drop i) c2 := l.at (i := 2) rfl
      rw [List.drop_eq_getElem_cons hlt] at hrest
      obtain ⟨ge, g3, d, c3, rfl, rfl, hx, hr3⟩ := hrest.uncons
      obtain ⟨ff2, uu2, ff3, uu3, rfl, rfl, hh0, hh1, hh2, hh3⟩ := testO_open hx
      obtain ⟨aa2, cc2, rfl, hc2, hl2⟩ := hh2.toS.slice
      obtain ⟨aa3, cc3, rfl, hc3, hl3⟩ := hh3.toS.slice
      replace l : Led (fun _ => none) [bx b ⟨34, c1 ++ ([.string (xs[i]).1, .string (xs[i]).2.1, .slice aa2 (xs[i]).2.2.1.length cc2, .slice aa3 (xs[i]).2.2.2.1.length cc3] ++ c3), c * 4, true⟩, oel testO g1 (mkL testT k (xs.take i)) c1, osl 9 strO ff2 (.slice aa2 (xs[i]).2.2.1.length cc2) (xs[i]).2.2.1, osl 9 strO ff3 (.slice aa3 (xs[i]).2.2.2.1.length cc3) (xs[i]).2.2.2.1, oel testO g3 (xs.drop (i + 1)) c3] A' := led0 (by
        intro it hit
        simp only [List.mem_cons, List.not_mem_nil, or_false] at hit
        rcases hit with rfl | rfl | rfl | rfl | rfl
        · exact l.at (i := 0) rfl
        · exact l.at (i := 1) rfl
        · exact hh2
        · exact hh3
        · exact hr3) (by simpa [fps, bx, oel, osl, List.append_assoc] using l.nd)
      have hlow : ∀ x, x ∈ ff2 ++ (ff3) → x ∈ b :: (g1 ++ ((ff2 ++ (ff3)) ++ g3)) := fun x hx => List.mem_cons_of_mem _ (List.mem_append_right _ (List.mem_append_left _ hx))
      simp (disch := omega) only [↓stp, vls, inf, frs, mark_eq, ↓reduceIte, Nat.reduceEqDiff, ite_tt, ite_ff, eq_self, and_true, true_and, and_self, implies_true, Bool.true_eq_false, Bool.false_eq_true, decide_true, decide_false, decide_eq_true_eq, decide_eq_false_iff_not, ne_eq, not_true_eq_false, not_false_eq_true, Bool.not_eq_true', Bool.not_eq_false', beq_self_eq_true, Bool.not_true, Bool.not_false, List.getElem?_toArray, List.getElem?_cons_zero, List.getElem?_cons_succ, z0, z1, z5]
      refine (markText_c _ (k + cntL testT (xs.take i)) (by omega) (by omega)).mono ?_
      rintro _ A1 ⟨rfl, hms0, he1⟩
      replace l := l.step he1
      replace ho := ho.trans (Only.ext he1 _)
      simp (disch := omega) only [↓stp, vls, inf, frs, mark_eq, ↓reduceIte, Nat.reduceEqDiff, ite_tt, ite_ff, eq_self, and_true, true_and, and_self, implies_true, Bool.true_eq_false, Bool.false_eq_true, decide_true, decide_false, decide_eq_true_eq, decide_eq_false_iff_not, ne_eq, not_true_eq_false, not_false_eq_true, Bool.not_eq_true', Bool.not_eq_false', beq_self_eq_true, Bool.not_true, Bool.not_false, List.getElem?_toArray, List.getElem?_cons_zero, List.getElem?_cons_succ, z0, z1, z5, add_at]
      refine led_mid (c1 := c1) l 0 rfl sz9 (j := 0) (d' := [.string (mtext (k + cntL testT (xs.take i))), .string (xs[i]).2.1, .slice aa2 (xs[i]).2.2.1.length cc2, .slice aa3 (xs[i]).2.2.2.1.length cc3]) (by omega) (by exact ⟨rfl, rfl⟩) (by exact ⟨by simp, rfl⟩) fun A1 ho1 l => ?_
      replace ho := ho.trans (ho1.more fun x hx => by rw [List.mem_singleton.1 hx]; exact List.mem_cons_self ..)
      simp (disch := omega) only [↓stp, vls, inf, frs, mark_eq, ↓reduceIte, Nat.reduceEqDiff, ite_tt, ite_ff, eq_self, and_true, true_and, and_self, implies_true, Bool.true_eq_false, Bool.false_eq_true, decide_true, decide_false, decide_eq_true_eq, decide_eq_false_iff_not, ne_eq, not_true_eq_false, not_false_eq_true, Bool.not_eq_true', Bool.not_eq_false', beq_self_eq_true, Bool.not_true, Bool.not_false, List.getElem?_toArray, List.getElem?_cons_zero, List.getElem?_cons_succ, z0, z1, z5]
      refine (markText_c _ (k + cntL testT (xs.take i) + 1) (by omega) (by omega)).mono ?_
      rintro _ A1 ⟨rfl, hms1, he1⟩
      replace l := l.step he1
      replace ho := ho.trans (Only.ext he1 _)
      simp (disch := omega) only [↓stp, vls, inf, frs, mark_eq, ↓reduceIte, Nat.reduceEqDiff, ite_tt, ite_ff, eq_self, and_true, true_and, and_self, implies_true, Bool.true_eq_false, Bool.false_eq_true, decide_true, decide_false, decide_eq_true_eq, decide_eq_false_iff_not, ne_eq, not_true_eq_false, not_false_eq_true, Bool.not_eq_true', Bool.not_eq_false', beq_self_eq_true, Bool.not_true, Bool.not_false, List.getElem?_toArray, List.getElem?_cons_zero, List.getElem?_cons_succ, z0, z1, z5, add_at]
      refine led_mid (c1 := c1) l 0 rfl sz9 (j := 1) (d' := [.string (mtext (k + cntL testT (xs.take i))), .string (mtext (k + cntL testT (xs.take i) + 1)), .slice aa2 (xs[i]).2.2.1.length cc2, .slice aa3 (xs[i]).2.2.2.1.length cc3]) (by omega) (by exact ⟨rfl, rfl⟩) (by exact ⟨by simp, rfl⟩) fun A1 ho1 l => ?_
      replace ho := ho.trans (ho1.more fun x hx => by rw [List.mem_singleton.1 hx]; exact List.mem_cons_self ..)
      simp (disch := omega) only [↓stp, vls, inf, frs, mark_eq, ↓reduceIte, Nat.reduceEqDiff, ite_tt, ite_ff, eq_self, and_true, true_and, and_self, implies_true, Bool.true_eq_false, Bool.false_eq_true, decide_true, decide_false, decide_eq_true_eq, decide_eq_false_iff_not, ne_eq, not_true_eq_false, not_false_eq_true, Bool.not_eq_true', Bool.not_eq_false', beq_self_eq_true, Bool.not_true, Bool.not_false, List.getElem?_toArray, List.getElem?_cons_zero, List.getElem?_cons_succ, z0, z1, z5]
      have q2 := led_midcell (c1 := c1) l (i := 0) rfl (o := 0 + i * 4 + 2) (j := 2) (by omega) rfl rfl
      simp (disch := omega) only [↓stp, vls, inf, frs, mark_eq, ↓reduceIte, Nat.reduceEqDiff, ite_tt, ite_ff, eq_self, and_true, true_and, and_self, implies_true, Bool.true_eq_false, Bool.false_eq_true, decide_true, decide_false, decide_eq_true_eq, decide_eq_false_iff_not, ne_eq, not_true_eq_false, not_false_eq_true, Bool.not_eq_true', Bool.not_eq_false', beq_self_eq_true, Bool.not_true, Bool.not_false, List.getElem?_toArray, List.getElem?_cons_zero, List.getElem?_cons_succ, z0, z1, z5, add_at, q2]
      refine (markStringS_c _ ff2 _ _ (k + cntL testT (xs.take i) + 1 + 1) (l.at (i := 2) rfl) (l.nodup1 (i := 2) rfl) (by omega) (by omega)).mono ?_
      rintro _ A1 ⟨rfl, o2, on1⟩
      replace l := l.upd (i := 2) (it := osl 9 strO ff2 _ _) (jt := osl 9 strO ff2 _ (mkL strT ((k + cntL testT (xs.take i) + 1 + 1)) (xs[i]).2.2.1)) rfl rfl on1 o2
      replace ho := ho.trans (on1.more fun x hx => hlow x (by first | exact hx | simp [hx]))
      simp (disch := omega) only [↓stp, vls, inf, frs, mark_eq, ↓reduceIte, Nat.reduceEqDiff, ite_tt, ite_ff, eq_self, and_true, true_and, and_self, implies_true, Bool.true_eq_false, Bool.false_eq_true, decide_true, decide_false, decide_eq_true_eq, decide_eq_false_iff_not, ne_eq, not_true_eq_false, not_false_eq_true, Bool.not_eq_true', Bool.not_eq_false', beq_self_eq_true, Bool.not_true, Bool.not_false, List.getElem?_toArray, List.getElem?_cons_zero, List.getElem?_cons_succ, z0, z1, z5]
      have q3 := led_midcell (c1 := c1) l (i := 0) rfl (o := 0 + i * 4 + 3) (j := 3) (by omega) rfl rfl
      simp (disch := omega) only [↓stp, vls, inf, frs, mark_eq, ↓reduceIte, Nat.reduceEqDiff, ite_tt, ite_ff, eq_self, and_true, true_and, and_self, implies_true, Bool.true_eq_false, Bool.false_eq_true, decide_true, decide_false, decide_eq_true_eq, decide_eq_false_iff_not, ne_eq, not_true_eq_false, not_false_eq_true, Bool.not_eq_true', Bool.not_eq_false', beq_self_eq_true, Bool.not_true, Bool.not_false, List.getElem?_toArray, List.getElem?_cons_zero, List.getElem?_cons_succ, z0, z1, z5, add_at, q3]
      refine (markStringS_c _ ff3 _ _ (k + cntL testT (xs.take i) + 1 + 1 + cntL strT (xs[i]).2.2.1) (l.at (i := 3) rfl) (l.nodup1 (i := 3) rfl) (by omega) (by omega)).mono ?_
      rintro _ A1 ⟨rfl, o3, on1⟩
      replace l := l.upd (i := 3) (it := osl 9 strO ff3 _ _) (jt := osl 9 strO ff3 _ (mkL strT ((k + cntL testT (xs.take i) + 1 + 1 + cntL strT (xs[i]).2.2.1)) (xs[i]).2.2.2.1)) rfl rfl on1 o3
      replace ho := ho.trans (on1.more fun x hx => hlow x (by first | exact hx | simp [hx]))
      simp (disch := omega) only [↓stp, vls, inf, frs, mark_eq, ↓reduceIte, Nat.reduceEqDiff, ite_tt, ite_ff, eq_self, and_true, true_and, and_self, implies_true, Bool.true_eq_false, Bool.false_eq_true, decide_true, decide_false, decide_eq_true_eq, decide_eq_false_iff_not, ne_eq, not_true_eq_false, not_false_eq_true, Bool.not_eq_true', Bool.not_eq_false', beq_self_eq_true, Bool.not_true, Bool.not_false, List.getElem?_toArray, List.getElem?_cons_zero, List.getElem?_cons_succ, z0, z1, z5]
      have hdone : testO.rel A1 (ff2 ++ (ff3)) (testT.mk (k + cntL testT (xs.take i)) xs[i]) [.string (mtext (k + cntL testT (xs.take i))), .string (mtext (k + cntL testT (xs.take i) + 1)), .slice aa2 (xs[i]).2.2.1.length cc2, .slice aa3 (xs[i]).2.2.2.1.length cc3] := testO_mk (by have := hms0; exact Nat.le_trans this (by decide)) (by have := hms1; exact Nat.le_trans this (by decide)) (l.at (i := 2) rfl) (l.at (i := 3) rfl)
      refine ⟨_, by omega, i + 1, c1 ++ [.string (mtext (k + cntL testT (xs.take i))), .string (mtext (k + cntL testT (xs.take i) + 1)), .slice aa2 (xs[i]).2.2.1.length cc2, .slice aa3 (xs[i]).2.2.2.1.length cc3], c3, g1 ++ (ff2 ++ (ff3)), g3, by omega, rfl, by simp; omega, led0 (by
        intro it hit
        simp only [List.mem_cons, List.not_mem_nil, or_false] at hit
        rcases hit with rfl | rfl | rfl
        · rw [List.append_assoc]; exact l.at (i := 0) rfl
        · rw [hmt]; exact OElems.append (l.at (i := 1) rfl) (OElems.single hdone)
        · exact l.at (i := 4) rfl) (by simpa [fps, bx, oel, osl, List.append_assoc] using l.nd), by simp [List.append_assoc], ho, ?_, rfl⟩
      rw [hct, hcx]
      all_goals (first | omega | (congr 1 <;> omega))
    · simp (disch := omega) only [↓stp, vls, inf, frs, mark_eq, ↓reduceIte, Nat.reduceEqDiff, ite_tt, ite_ff, eq_self, and_true, true_and, and_self, implies_true, Bool.true_eq_false, Bool.false_eq_true, decide_true, decide_false, decide_eq_true_eq, decide_eq_false_iff_not, ne_eq, not_true_eq_false, not_false_eq_true, Bool.not_eq_true', Bool.not_eq_false', beq_self_eq_true, Bool.not_true, Bool.not_false, List.getElem?_toArray, List.getElem?_cons_zero, List.getElem?_cons_succ, z0, z1, z5]
      have hi' : i = xs.length := by omega
      subst hi'
      rw [List.take_length] at l ⊢
      have hnil : OElems testO A' g2 (xs.drop xs.length) c2 := l.at (i := 2) rfl
      rw [List.drop_length] at hnil
      obtain ⟨rfl, rfl⟩ := hnil.nil_inv
      have hb : A' b = some ⟨34, c1 ++ [], c * 4, true⟩ := l.at (i := 0) rfl
      rw [List.append_nil] at hb
      have hml := mkL_len testT k xs
      refine ⟨rfl, ⟨by omega, .inr ⟨b, c, c1, g1, by rw [hml], by omega, by simp, hb, l.at (i := 1) rfl⟩⟩, ho⟩

theorem heldTestS_c (A : View) (v : Value) (xs : List TestD) (k : Nat) (h : Sl testS A v (mkL testT k xs)) (hk0 : 0 < k) (hk : k + cntL testT xs ≤ 68719476736) :
    ACalls Try.prog 40 #[v, .int .i64 k] A fun r A' => r = .int .i64 ((k + cntL testT xs : Nat) : Int) ∧ Ext A A' := by
  obtain ⟨a, c, rfl, hc, hl⟩ := h.slice
  have hml := mkL_len testT k xs
  rw [hml] at h hc hl
  simp only [hml]
  refine acalls Try.func40 rfl (by kernel_rfl) ?_
  simp (disch := omega) only [↓stp, vls, inf, frs, mark_eq, ↓reduceIte, Nat.reduceEqDiff, ite_tt, ite_ff, eq_self, and_true, true_and, and_self, implies_true, Bool.true_eq_false, Bool.false_eq_true, decide_true, decide_false, decide_eq_true_eq, decide_eq_false_iff_not, ne_eq, not_true_eq_false, not_false_eq_true, Bool.not_eq_true', Bool.not_eq_false', beq_self_eq_true, Bool.not_true, Bool.not_false, List.getElem?_toArray, List.getElem?_cons_zero, List.getElem?_cons_succ]
  refine aloop (fun d fr A' => ∃ i : Nat, i ≤ xs.length ∧ d = xs.length - i ∧ Ext A A' ∧ fr 0 = .slice a xs.length c ∧ fr 1 = .int .i64 ((k + cntL testT (xs.take i) : Nat) : Int) ∧ fr 5 = .int .i64 i) xs.length ⟨0, by omega, by omega, Ext.refl _, by rfl, by rfl, by rfl⟩ ?_
  rintro d fr A' ⟨i, hi, rfl, he, z0, z1, z5⟩
  simp (disch := omega) only [↓stp, vls, inf, frs, mark_eq, ↓reduceIte, Nat.reduceEqDiff, ite_tt, ite_ff, eq_self, and_true, true_and, and_self, implies_true, Bool.true_eq_false, Bool.false_eq_true, decide_true, decide_false, decide_eq_true_eq, decide_eq_false_iff_not, ne_eq, not_true_eq_false, not_false_eq_true, Bool.not_eq_true', Bool.not_eq_false', beq_self_eq_true, Bool.not_true, Bool.not_false, List.getElem?_toArray, List.getElem?_cons_zero, List.getElem?_cons_succ, z0, z1, z5]
  refine ⟨fun e => ?_, fun e => ?_⟩
  · have hlt : i < xs.length := by omega
    have hsum := cntL_split testT xs hlt
    have hcx := testT_cnt xs[i]
    have hct := cntL_take testT xs hlt
    obtain ⟨ad, d, rfl, hd, hp, _⟩ := (h.mono he).at (i := i) (by omega)
    rw [mkL_get testT k xs i hlt] at hd
    obtain ⟨uu2, uu3, rfl, hh0, hh1, hh2, hh3⟩ := testS_open hd
    obtain ⟨aa2, cc2, rfl, hc2, hl2⟩ := hh2.slice
    obtain ⟨aa3, cc3, rfl, hc3, hl3⟩ := hh3.slice
    have q0 : A'.cell ((ad.add (i * 4)).add 0) = some (.string (mtext (k + cntL testT (xs.take i)))) := View.part_cell hp (j := 0) rfl
    have q1 : A'.cell ((ad.add (i * 4)).add 1) = some (.string (mtext (k + cntL testT (xs.take i) + 1))) := View.part_cell hp (j := 1) rfl
    have q2 : A'.cell ((ad.add (i * 4)).add 2) = some (.slice aa2 _ cc2) := View.part_cell hp (j := 2) rfl
    have q3 : A'.cell ((ad.add (i * 4)).add 3) = some (.slice aa3 _ cc3) := View.part_cell hp (j := 3) rfl
    try simp (disch := omega) only [↓stp, vls, inf, frs, mark_eq, ↓reduceIte, Nat.reduceEqDiff, ite_tt, ite_ff, eq_self, and_true, true_and, and_self, implies_true, Bool.true_eq_false, Bool.false_eq_true, decide_true, decide_false, decide_eq_true_eq, decide_eq_false_iff_not, ne_eq, not_true_eq_false, not_false_eq_true, Bool.not_eq_true', Bool.not_eq_false', beq_self_eq_true, Bool.not_true, Bool.not_false, List.getElem?_toArray, List.getElem?_cons_zero, List.getElem?_cons_succ, z0, z1, z5, q0, q1, q2, q3]
    refine adraw_items [.q 0, .q 1, .q 2, .q 3, .l 4 true, .q 5, .c 6 [4], .q 7] (by kernel_rfl) (by kernel_rfl) ?_
    simp (disch := omega) only [↓stp, ↓pln, plv, nilOk, Nat.reduceBEq, Bool.or_false, Bool.or_true, Bool.false_or, Bool.true_or, vls, inf, frs, mark_eq, ↓reduceIte, Nat.reduceEqDiff, ite_tt, ite_ff, eq_self, and_true, true_and, and_self, implies_true, Bool.true_eq_false, Bool.false_eq_true, decide_true, decide_false, decide_eq_true_eq, decide_eq_false_iff_not, ne_eq, not_true_eq_false, not_false_eq_true, Bool.not_eq_true', Bool.not_eq_false', beq_self_eq_true, Bool.not_true, Bool.not_false, List.getElem?_toArray, List.getElem?_cons_zero, List.getElem?_cons_succ, z0, z1, z5, q0, q1, q2, q3]
    refine (markText_c A' (k + cntL testT (xs.take i)) (by omega) (by omega)).mono ?_
    rintro _ A' ⟨rfl, hms0, he1⟩
    replace q0 := he1.cell q0
    replace q1 := he1.cell q1
    replace q2 := he1.cell q2
    replace q3 := he1.cell q3
    replace he := he.trans he1
    replace hh2 := hh2.mono he1
    replace hh3 := hh3.mono he1
    simp (disch := omega) only [↓stp, ↓pln, plv, nilOk, Nat.reduceBEq, Bool.or_false, Bool.or_true, Bool.false_or, Bool.true_or, vls, inf, frs, mark_eq, ↓reduceIte, Nat.reduceEqDiff, ite_tt, ite_ff, eq_self, and_true, true_and, and_self, implies_true, Bool.true_eq_false, Bool.false_eq_true, decide_true, decide_false, decide_eq_true_eq, decide_eq_false_iff_not, ne_eq, not_true_eq_false, not_false_eq_true, Bool.not_eq_true', Bool.not_eq_false', beq_self_eq_true, Bool.not_true, Bool.not_false, List.getElem?_toArray, List.getElem?_cons_zero, List.getElem?_cons_succ, z0, z1, z5, q0, q1, q2, q3]
    try simp (disch := omega) only [↓stp, vls, inf, frs, mark_eq, ↓reduceIte, Nat.reduceEqDiff, ite_tt, ite_ff, eq_self, and_true, true_and, and_self, implies_true, Bool.true_eq_false, Bool.false_eq_true, decide_true, decide_false, decide_eq_true_eq, decide_eq_false_iff_not, ne_eq, not_true_eq_false, not_false_eq_true, Bool.not_eq_true', Bool.not_eq_false', beq_self_eq_true, Bool.not_true, Bool.not_false, List.getElem?_toArray, List.getElem?_cons_zero, List.getElem?_cons_succ, z0, z1, z5, q0, q1, q2, q3]
    refine adraw_items [.q 0, .q 1, .q 2, .q 3, .l 4 true, .q 5, .c 6 [4], .q 7] (by kernel_rfl) (by kernel_rfl) ?_
    simp (disch := omega) only [↓stp, ↓pln, plv, nilOk, Nat.reduceBEq, Bool.or_false, Bool.or_true, Bool.false_or, Bool.true_or, vls, inf, frs, mark_eq, ↓reduceIte, Nat.reduceEqDiff, ite_tt, ite_ff, eq_self, and_true, true_and, and_self, implies_true, Bool.true_eq_false, Bool.false_eq_true, decide_true, decide_false, decide_eq_true_eq, decide_eq_false_iff_not, ne_eq, not_true_eq_false, not_false_eq_true, Bool.not_eq_true', Bool.not_eq_false', beq_self_eq_true, Bool.not_true, Bool.not_false, List.getElem?_toArray, List.getElem?_cons_zero, List.getElem?_cons_succ, z0, z1, z5, q0, q1, q2, q3]
    refine (markText_c A' (k + cntL testT (xs.take i) + 1) (by omega) (by omega)).mono ?_
    rintro _ A' ⟨rfl, hms1, he1⟩
    replace q0 := he1.cell q0
    replace q1 := he1.cell q1
    replace q2 := he1.cell q2
    replace q3 := he1.cell q3
    replace he := he.trans he1
    replace hh2 := hh2.mono he1
    replace hh3 := hh3.mono he1
    simp (disch := omega) only [↓stp, ↓pln, plv, nilOk, Nat.reduceBEq, Bool.or_false, Bool.or_true, Bool.false_or, Bool.true_or, vls, inf, frs, mark_eq, ↓reduceIte, Nat.reduceEqDiff, ite_tt, ite_ff, eq_self, and_true, true_and, and_self, implies_true, Bool.true_eq_false, Bool.false_eq_true, decide_true, decide_false, decide_eq_true_eq, decide_eq_false_iff_not, ne_eq, not_true_eq_false, not_false_eq_true, Bool.not_eq_true', Bool.not_eq_false', beq_self_eq_true, Bool.not_true, Bool.not_false, List.getElem?_toArray, List.getElem?_cons_zero, List.getElem?_cons_succ, z0, z1, z5, q0, q1, q2, q3]
    simp (disch := omega) only [↓stp, vls, inf, frs, mark_eq, ↓reduceIte, Nat.reduceEqDiff, ite_tt, ite_ff, eq_self, and_true, true_and, and_self, implies_true, Bool.true_eq_false, Bool.false_eq_true, decide_true, decide_false, decide_eq_true_eq, decide_eq_false_iff_not, ne_eq, not_true_eq_false, not_false_eq_true, Bool.not_eq_true', Bool.not_eq_false', beq_self_eq_true, Bool.not_true, Bool.not_false, List.getElem?_toArray, List.getElem?_cons_zero, List.getElem?_cons_succ, z0, z1, z5, q0, q1, q2, q3]
    refine (heldStringS_c A' _ _ (k + cntL testT (xs.take i) + 1 + 1) hh2 (by omega) (by omega)).mono ?_
    rintro _ A' ⟨rfl, he1⟩
    replace q0 := he1.cell q0
    replace q1 := he1.cell q1
    replace q2 := he1.cell q2
    replace q3 := he1.cell q3
    replace he := he.trans he1
    replace hh2 := hh2.mono he1
    replace hh3 := hh3.mono he1
    simp (disch := omega) only [↓stp, vls, inf, frs, mark_eq, ↓reduceIte, Nat.reduceEqDiff, ite_tt, ite_ff, eq_self, and_true, true_and, and_self, implies_true, Bool.true_eq_false, Bool.false_eq_true, decide_true, decide_false, decide_eq_true_eq, decide_eq_false_iff_not, ne_eq, not_true_eq_false, not_false_eq_true, Bool.not_eq_true', Bool.not_eq_false', beq_self_eq_true, Bool.not_true, Bool.not_false, List.getElem?_toArray, List.getElem?_cons_zero, List.getElem?_cons_succ, z0, z1, z5, q0, q1, q2, q3]
    refine ⟨fun e => by omega, fun _ => ?_⟩
    simp (disch := omega) only [↓stp, vls, inf, frs, mark_eq, ↓reduceIte, Nat.reduceEqDiff, ite_tt, ite_ff, eq_self, and_true, true_and, and_self, implies_true, Bool.true_eq_false, Bool.false_eq_true, decide_true, decide_false, decide_eq_true_eq, decide_eq_false_iff_not, ne_eq, not_true_eq_false, not_false_eq_true, Bool.not_eq_true', Bool.not_eq_false', beq_self_eq_true, Bool.not_true, Bool.not_false, List.getElem?_toArray, List.getElem?_cons_zero, List.getElem?_cons_succ, z0, z1, z5, q0, q1, q2, q3]
    refine (heldStringS_c A' _ _ (k + cntL testT (xs.take i) + 1 + 1 + cntL strT (xs[i]).2.2.1) hh3 (by omega) (by omega)).mono ?_
    rintro _ A' ⟨rfl, he1⟩
    replace q0 := he1.cell q0
    replace q1 := he1.cell q1
    replace q2 := he1.cell q2
    replace q3 := he1.cell q3
    replace he := he.trans he1
    replace hh2 := hh2.mono he1
    replace hh3 := hh3.mono he1
    simp (disch := omega) only [↓stp, vls, inf, frs, mark_eq, ↓reduceIte, Nat.reduceEqDiff, ite_tt, ite_ff, eq_self, and_true, true_and, and_self, implies_true, Bool.true_eq_false, Bool.false_eq_true, decide_true, decide_false, decide_eq_true_eq, decide_eq_false_iff_not, ne_eq, not_true_eq_false, not_false_eq_true, Bool.not_eq_true', Bool.not_eq_false', beq_self_eq_true, Bool.not_true, Bool.not_false, List.getElem?_toArray, List.getElem?_cons_zero, List.getElem?_cons_succ, z0, z1, z5, q0, q1, q2, q3]
    refine ⟨fun e => by omega, fun _ => ?_⟩
    try simp (disch := omega) only [↓stp, vls, inf, frs, mark_eq, ↓reduceIte, Nat.reduceEqDiff, ite_tt, ite_ff, eq_self, and_true, true_and, and_self, implies_true, Bool.true_eq_false, Bool.false_eq_true, decide_true, decide_false, decide_eq_true_eq, decide_eq_false_iff_not, ne_eq, not_true_eq_false, not_false_eq_true, Bool.not_eq_true', Bool.not_eq_false', beq_self_eq_true, Bool.not_true, Bool.not_false, List.getElem?_toArray, List.getElem?_cons_zero, List.getElem?_cons_succ, z0, z1, z5]
    refine ⟨_, by omega, i + 1, by omega, rfl, he, ?_, rfl⟩
    rw [hct, hcx]
    all_goals (first | omega | (congr 1 <;> omega))
  · simp (disch := omega) only [↓stp, vls, inf, frs, mark_eq, ↓reduceIte, Nat.reduceEqDiff, ite_tt, ite_ff, eq_self, and_true, true_and, and_self, implies_true, Bool.true_eq_false, Bool.false_eq_true, decide_true, decide_false, decide_eq_true_eq, decide_eq_false_iff_not, ne_eq, not_true_eq_false, not_false_eq_true, Bool.not_eq_true', Bool.not_eq_false', beq_self_eq_true, Bool.not_true, Bool.not_false, List.getElem?_toArray, List.getElem?_cons_zero, List.getElem?_cons_succ, z0, z1, z5]
    have hi' : i = xs.length := by omega
    subst hi'
    rw [List.take_length]
    exact ⟨rfl, he⟩

end Go.Proofs.Ytbddklkfekiaeaa

