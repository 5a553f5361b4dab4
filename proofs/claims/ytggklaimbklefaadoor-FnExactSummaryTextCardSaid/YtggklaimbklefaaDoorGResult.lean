/- The helpers of the laws for Result: counted, copied, compared, marked. -/
import Derived.Test.YtggklaimbklefaaDoorE2
set_option maxHeartbeats 4000000
set_option synthInstance.maxHeartbeats 400000
set_option synthInstance.maxSize 4096
set_option linter.unusedSimpArgs false
set_option linter.unusedVariables false
namespace Go.Proofs.YtggklaimbklefaaDoor

set_option maxRecDepth 100000

abbrev ResultD := ByteArray × Int × Unit

def resultS : Shape ResultD := consS strS (consS intS unitS)

def resultO : OwnS ResultD := consO strO (consO intO unitO)

def resultT : GT ResultD := consT strT (consT intT unitT)

theorem resultS_open {A : View} {x : ResultD} {d : List Value} (h : resultS.rel A x d) : d = [.string x.1, .int .i64 x.2.1] ∧ x.1.size ≤ 140737488355328 ∧ (-9223372036854775808 ≤ x.2.1 ∧ x.2.1 < 9223372036854775808) := by
  obtain ⟨_, _, rfl, ⟨rfl, hh0⟩, ⟨_, _, rfl, ⟨rfl, hh1⟩, rfl⟩⟩ := h
  exact ⟨rfl, hh0, hh1⟩

theorem resultS_mk {A : View} {x : ResultD} (hh0 : x.1.size ≤ 140737488355328) (hh1 : (-9223372036854775808 ≤ x.2.1 ∧ x.2.1 < 9223372036854775808)) : resultS.rel A x [.string x.1, .int .i64 x.2.1] := ⟨_, _, rfl, ⟨rfl, hh0⟩, ⟨_, _, rfl, ⟨rfl, hh1⟩, rfl⟩⟩

theorem resultO_open {A : View} {fp : List Nat} {x : ResultD} {d : List Value} (h : resultO.rel A fp x d) : [] = fp ∧ d = [.string x.1, .int .i64 x.2.1] ∧ x.1.size ≤ 140737488355328 ∧ (-9223372036854775808 ≤ x.2.1 ∧ x.2.1 < 9223372036854775808) := by
  obtain ⟨_, _, _, _, rfl, rfl, ⟨rfl, rfl, hh0⟩, ⟨_, _, _, _, rfl, rfl, ⟨rfl, rfl, hh1⟩, ⟨rfl, rfl⟩⟩⟩ := h
  exact ⟨by simp, rfl, hh0, hh1⟩

theorem resultO_mk {A : View} {x : ResultD} (hh0 : x.1.size ≤ 140737488355328) (hh1 : (-9223372036854775808 ≤ x.2.1 ∧ x.2.1 < 9223372036854775808)) : resultO.rel A ([]) x [.string x.1, .int .i64 x.2.1] := ⟨[], [], [.string x.1], _, by simp, rfl, ⟨rfl, rfl, hh0⟩, ⟨[], [], [.int .i64 x.2.1], _, by simp, rfl, ⟨rfl, rfl, hh1⟩, ⟨rfl, rfl⟩⟩⟩

theorem resultO_S {A : View} {fp : List Nat} {x : ResultD} {d : List Value} (h : resultO.rel A fp x d) : resultS.rel A x d := resultO.toS h

theorem resultT_w (x : ResultD) : resultT.w x = x.1.size + (0 + 0) := rfl

theorem resultT_cnt (x : ResultD) : resultT.cnt x = 1 + (1 + 0) := rfl

theorem resultT_le (x : ResultD) : resultT.cnt x ≤ 4 + 4 * resultT.w x := by
  rw [resultT_cnt, resultT_w]
  omega

theorem resultL_le : ∀ (xs : List ResultD), cntL resultT xs ≤ 4 * (xs.length + wL resultT xs)
  | [] => by simp [cntL]
  | x :: xs => by
    have := resultT_le x
    have := resultL_le xs
    simp only [cntL, wL, List.length_cons]
    omega

theorem Sl.result {A : View} {a : Option Addr} {n c : Nat} {xs : List ResultD} (h : Sl resultS A (.slice a n c) xs) {i : Nat} (hi : i < xs.length) : ∃ (ad : Addr) , a = some ad ∧ A.part (ad.add (i * 2)) 2 = some [.string (xs[i]).1, .int .i64 (xs[i]).2.1] ∧ (xs[i]).1.size ≤ 140737488355328 ∧ (-9223372036854775808 ≤ (xs[i]).2.1 ∧ (xs[i]).2.1 < 9223372036854775808) := by
  obtain ⟨ad, d, h1, h2, h3, _⟩ := h.at hi
  obtain ⟨rfl, hh0, hh1⟩ := resultS_open h2
  exact ⟨ad, h1, h3, hh0, hh1⟩

theorem szResult_c (A : View) (d : List Value) (x : ResultD) (k : Int) (h : resultS.rel A x d) (hk : 0 ≤ k ∧ k ≤ 1048576) : ACalls Tryd.prog 23 #[.agg d.toArray, .int .i64 k] A fun r A' => (∃ j : Int, r = .int .i64 j ∧ (j = -1 ∨ (0 ≤ j ∧ j + resultT.w x = k))) ∧ Ext A A' := by
  obtain ⟨rfl, hh0, hh1⟩ := resultS_open h
  have hw := resultT_w x
  refine acalls Tryd.func23 rfl (by kernel_rfl) ?_
  simp (disch := omega) only [↓stp, vls, inf, frs, mark_eq, ↓reduceIte, Nat.reduceEqDiff, ite_tt, ite_ff, eq_self, and_true, true_and, and_self, implies_true, Bool.true_eq_false, Bool.false_eq_true, decide_true, decide_false, decide_eq_true_eq, decide_eq_false_iff_not, ne_eq, not_true_eq_false, not_false_eq_true, Bool.not_eq_true', Bool.not_eq_false', beq_self_eq_true, Bool.not_true, Bool.not_false, List.getElem?_toArray, List.getElem?_cons_zero, List.getElem?_cons_succ]
  refine led_box (Led.nil A) rfl fun b V _ l => ?_
  have b0 := l.cell (i := 0) rfl (o := 0) rfl rfl
  have b1 := l.cell (i := 0) rfl (o := 1) rfl rfl
  simp (disch := omega) only [↓stp, vls, inf, frs, mark_eq, ↓reduceIte, Nat.reduceEqDiff, ite_tt, ite_ff, eq_self, and_true, true_and, and_self, implies_true, Bool.true_eq_false, Bool.false_eq_true, decide_true, decide_false, decide_eq_true_eq, decide_eq_false_iff_not, ne_eq, not_true_eq_false, not_false_eq_true, Bool.not_eq_true', Bool.not_eq_false', beq_self_eq_true, Bool.not_true, Bool.not_false, List.getElem?_toArray, List.getElem?_cons_zero, List.getElem?_cons_succ, add_at, b0, b1]
  refine ⟨fun e => ?_, fun e => ?_⟩
  · simp (disch := omega) only [↓stp, vls, inf, frs, mark_eq, ↓reduceIte, Nat.reduceEqDiff, ite_tt, ite_ff, eq_self, and_true, true_and, and_self, implies_true, Bool.true_eq_false, Bool.false_eq_true, decide_true, decide_false, decide_eq_true_eq, decide_eq_false_iff_not, ne_eq, not_true_eq_false, not_false_eq_true, Bool.not_eq_true', Bool.not_eq_false', beq_self_eq_true, Bool.not_true, Bool.not_false, List.getElem?_toArray, List.getElem?_cons_zero, List.getElem?_cons_succ, add_at, b0, b1]
    exact ⟨⟨_, rfl, .inl rfl⟩, l.ext⟩
  simp (disch := omega) only [↓stp, vls, inf, frs, mark_eq, ↓reduceIte, Nat.reduceEqDiff, ite_tt, ite_ff, eq_self, and_true, true_and, and_self, implies_true, Bool.true_eq_false, Bool.false_eq_true, decide_true, decide_false, decide_eq_true_eq, decide_eq_false_iff_not, ne_eq, not_true_eq_false, not_false_eq_true, Bool.not_eq_true', Bool.not_eq_false', beq_self_eq_true, Bool.not_true, Bool.not_false, List.getElem?_toArray, List.getElem?_cons_zero, List.getElem?_cons_succ, add_at, b0, b1]
  exact ⟨⟨_, rfl, .inr ⟨by omega, by omega⟩⟩, l.ext⟩

theorem toResult_c (A : View) (d : List Value) (x : ResultD) (h : resultS.rel A x d) (hw : resultT.w x ≤ 1048576) : ACalls Tryd.prog 24 #[.agg d.toArray] A fun r A' => ∃ fp d', r = .agg d'.toArray ∧ resultO.rel A' fp x d' ∧ Ext A A' ∧ (∀ b, b ∈ fp → A b = none) ∧ fp.Nodup := by
  obtain ⟨rfl, hh0, hh1⟩ := resultS_open h
  rw [resultT_w] at hw
  refine acalls Tryd.func24 rfl (by kernel_rfl) ?_
  simp (disch := omega) only [↓stp, vls, inf, frs, mark_eq, ↓reduceIte, Nat.reduceEqDiff, ite_tt, ite_ff, eq_self, and_true, true_and, and_self, implies_true, Bool.true_eq_false, Bool.false_eq_true, decide_true, decide_false, decide_eq_true_eq, decide_eq_false_iff_not, ne_eq, not_true_eq_false, not_false_eq_true, Bool.not_eq_true', Bool.not_eq_false', beq_self_eq_true, Bool.not_true, Bool.not_false, List.getElem?_toArray, List.getElem?_cons_zero, List.getElem?_cons_succ]
  refine led_box (Led.nil A) rfl fun q0 V _ l => ?_
  simp (disch := omega) only [↓stp, vls, inf, frs, mark_eq, ↓reduceIte, Nat.reduceEqDiff, ite_tt, ite_ff, eq_self, and_true, true_and, and_self, implies_true, Bool.true_eq_false, Bool.false_eq_true, decide_true, decide_false, decide_eq_true_eq, decide_eq_false_iff_not, ne_eq, not_true_eq_false, not_false_eq_true, Bool.not_eq_true', Bool.not_eq_false', beq_self_eq_true, Bool.not_true, Bool.not_false, List.getElem?_toArray, List.getElem?_cons_zero, List.getElem?_cons_succ]
  refine led_alloc zc47 l fun q1 V _ l => ?_
  simp (disch := omega) only [↓stp, vls, inf, frs, mark_eq, ↓reduceIte, Nat.reduceEqDiff, ite_tt, ite_ff, eq_self, and_true, true_and, and_self, implies_true, Bool.true_eq_false, Bool.false_eq_true, decide_true, decide_false, decide_eq_true_eq, decide_eq_false_iff_not, ne_eq, not_true_eq_false, not_false_eq_true, Bool.not_eq_true', Bool.not_eq_false', beq_self_eq_true, Bool.not_true, Bool.not_false, List.getElem?_toArray, List.getElem?_cons_zero, List.getElem?_cons_succ]
  refine led_alloc zc47 l fun q2 V _ l => ?_
  have b0 := l.cell (i := 2) rfl (o := 0) rfl rfl
  have b1 := l.cell (i := 2) rfl (o := 1) rfl rfl
  simp (disch := omega) only [↓stp, vls, inf, frs, mark_eq, ↓reduceIte, Nat.reduceEqDiff, ite_tt, ite_ff, eq_self, and_true, true_and, and_self, implies_true, Bool.true_eq_false, Bool.false_eq_true, decide_true, decide_false, decide_eq_true_eq, decide_eq_false_iff_not, ne_eq, not_true_eq_false, not_false_eq_true, Bool.not_eq_true', Bool.not_eq_false', beq_self_eq_true, Bool.not_true, Bool.not_false, List.getElem?_toArray, List.getElem?_cons_zero, List.getElem?_cons_succ, add_at, b0, b1]
  refine led_store l 0 rfl sz9 (by rfl) (by rfl) (by rfl) fun V l => ?_
  have b0 := l.cell (i := 2) rfl (o := 0) rfl rfl
  have b1 := l.cell (i := 2) rfl (o := 1) rfl rfl
  simp (disch := omega) only [↓stp, vls, inf, frs, mark_eq, ↓reduceIte, Nat.reduceEqDiff, ite_tt, ite_ff, eq_self, and_true, true_and, and_self, implies_true, Bool.true_eq_false, Bool.false_eq_true, decide_true, decide_false, decide_eq_true_eq, decide_eq_false_iff_not, ne_eq, not_true_eq_false, not_false_eq_true, Bool.not_eq_true', Bool.not_eq_false', beq_self_eq_true, Bool.not_true, Bool.not_false, List.getElem?_toArray, List.getElem?_cons_zero, List.getElem?_cons_succ, add_at, b0, b1]
  refine led_store l 0 rfl sz3 (by rfl) (by rfl) (by rfl) fun V l => ?_
  have hp : V.part ⟨q2, 0, none⟩ 2 = some [.string x.1, .int .i64 x.2.1] := l.part (i := 0) rfl rfl
  simp (disch := omega) only [↓stp, vls, inf, frs, mark_eq, ↓reduceIte, Nat.reduceEqDiff, ite_tt, ite_ff, eq_self, and_true, true_and, and_self, implies_true, Bool.true_eq_false, Bool.false_eq_true, decide_true, decide_false, decide_eq_true_eq, decide_eq_false_iff_not, ne_eq, not_true_eq_false, not_false_eq_true, Bool.not_eq_true', Bool.not_eq_false', beq_self_eq_true, Bool.not_true, Bool.not_false, List.getElem?_toArray, List.getElem?_cons_zero, List.getElem?_cons_succ, hp]
  refine led_store l 1 rfl sz47 (by rfl) (by rfl) (by rfl) fun V l => ?_
  have hp : V.part ⟨q1, 0, none⟩ 2 = some [.string x.1, .int .i64 x.2.1] := l.part (i := 1) rfl rfl
  simp (disch := omega) only [↓stp, vls, inf, frs, mark_eq, ↓reduceIte, Nat.reduceEqDiff, ite_tt, ite_ff, eq_self, and_true, true_and, and_self, implies_true, Bool.true_eq_false, Bool.false_eq_true, decide_true, decide_false, decide_eq_true_eq, decide_eq_false_iff_not, ne_eq, not_true_eq_false, not_false_eq_true, Bool.not_eq_true', Bool.not_eq_false', beq_self_eq_true, Bool.not_true, Bool.not_false, List.getElem?_toArray, List.getElem?_cons_zero, List.getElem?_cons_succ, hp]
  exact ⟨[], _, rfl, resultO_mk hh0 hh1, l.ext, by simp, List.nodup_nil⟩

theorem eqResult_c (A : View) (d d' : List Value) (x y : ResultD) (h : resultS.rel A x d) (h' : resultS.rel A y d') : ACalls Tryd.prog 29 #[.agg d.toArray, .agg d'.toArray] A fun r A' => r = .bool (decide (x = y)) ∧ Ext A A' := by
  obtain ⟨rfl, hh0, hh1⟩ := resultS_open h
  obtain ⟨rfl, g0, g1⟩ := resultS_open h'
  refine acalls Tryd.func29 rfl (by kernel_rfl) ?_
  simp (disch := omega) only [↓stp, vls, inf, frs, mark_eq, ↓reduceIte, Nat.reduceEqDiff, ite_tt, ite_ff, eq_self, and_true, true_and, and_self, implies_true, Bool.true_eq_false, Bool.false_eq_true, decide_true, decide_false, decide_eq_true_eq, decide_eq_false_iff_not, ne_eq, not_true_eq_false, not_false_eq_true, Bool.not_eq_true', Bool.not_eq_false', beq_self_eq_true, Bool.not_true, Bool.not_false, List.getElem?_toArray, List.getElem?_cons_zero, List.getElem?_cons_succ]
  refine led_box (Led.nil A) rfl fun q0 V _ l => ?_
  simp (disch := omega) only [↓stp, vls, inf, frs, mark_eq, ↓reduceIte, Nat.reduceEqDiff, ite_tt, ite_ff, eq_self, and_true, true_and, and_self, implies_true, Bool.true_eq_false, Bool.false_eq_true, decide_true, decide_false, decide_eq_true_eq, decide_eq_false_iff_not, ne_eq, not_true_eq_false, not_false_eq_true, Bool.not_eq_true', Bool.not_eq_false', beq_self_eq_true, Bool.not_true, Bool.not_false, List.getElem?_toArray, List.getElem?_cons_zero, List.getElem?_cons_succ]
  refine led_box l rfl fun q1 V _ l => ?_
  have b0 := l.cell (i := 1) rfl (o := 0) rfl rfl
  have b1 := l.cell (i := 1) rfl (o := 1) rfl rfl
  have d0 := l.cell (i := 0) rfl (o := 0) rfl rfl
  have d1 := l.cell (i := 0) rfl (o := 1) rfl rfl
  simp (disch := omega) only [↓stp, vls, inf, frs, mark_eq, ↓reduceIte, Nat.reduceEqDiff, ite_tt, ite_ff, eq_self, and_true, true_and, and_self, implies_true, Bool.true_eq_false, Bool.false_eq_true, decide_true, decide_false, decide_eq_true_eq, decide_eq_false_iff_not, ne_eq, not_true_eq_false, not_false_eq_true, Bool.not_eq_true', Bool.not_eq_false', beq_self_eq_true, Bool.not_true, Bool.not_false, List.getElem?_toArray, List.getElem?_cons_zero, List.getElem?_cons_succ, add_at, b0, b1, d0, d1]
  refine ⟨fun e => ?_, fun e => ?_⟩
  · have hne : ¬ x = y := fun he => by rw [he] at e; simp at e
    simp (disch := omega) only [↓stp, vls, inf, frs, mark_eq, ↓reduceIte, Nat.reduceEqDiff, ite_tt, ite_ff, eq_self, and_true, true_and, and_self, implies_true, Bool.true_eq_false, Bool.false_eq_true, decide_true, decide_false, decide_eq_true_eq, decide_eq_false_iff_not, ne_eq, not_true_eq_false, not_false_eq_true, Bool.not_eq_true', Bool.not_eq_false', beq_self_eq_true, Bool.not_true, Bool.not_false, List.getElem?_toArray, List.getElem?_cons_zero, List.getElem?_cons_succ, hne]
    exact l.ext
  have e0 : x.1 = y.1 := by simpa using e
  simp (disch := omega) only [↓stp, vls, inf, frs, mark_eq, ↓reduceIte, Nat.reduceEqDiff, ite_tt, ite_ff, eq_self, and_true, true_and, and_self, implies_true, Bool.true_eq_false, Bool.false_eq_true, decide_true, decide_false, decide_eq_true_eq, decide_eq_false_iff_not, ne_eq, not_true_eq_false, not_false_eq_true, Bool.not_eq_true', Bool.not_eq_false', beq_self_eq_true, Bool.not_true, Bool.not_false, List.getElem?_toArray, List.getElem?_cons_zero, List.getElem?_cons_succ, add_at, b0, b1, d0, d1]
  refine ⟨fun e => ?_, fun e => ?_⟩
  · have hne : ¬ x = y := fun he => by rw [he] at e; simp at e
    simp (disch := omega) only [↓stp, vls, inf, frs, mark_eq, ↓reduceIte, Nat.reduceEqDiff, ite_tt, ite_ff, eq_self, and_true, true_and, and_self, implies_true, Bool.true_eq_false, Bool.false_eq_true, decide_true, decide_false, decide_eq_true_eq, decide_eq_false_iff_not, ne_eq, not_true_eq_false, not_false_eq_true, Bool.not_eq_true', Bool.not_eq_false', beq_self_eq_true, Bool.not_true, Bool.not_false, List.getElem?_toArray, List.getElem?_cons_zero, List.getElem?_cons_succ, hne]
    exact l.ext
  have e1 : x.2.1 = y.2.1 := by simpa using e
  have he : x = y := Prod.ext e0 (Prod.ext e1 (rfl))
  simp (disch := omega) only [↓stp, vls, inf, frs, mark_eq, ↓reduceIte, Nat.reduceEqDiff, ite_tt, ite_ff, eq_self, and_true, true_and, and_self, implies_true, Bool.true_eq_false, Bool.false_eq_true, decide_true, decide_false, decide_eq_true_eq, decide_eq_false_iff_not, ne_eq, not_true_eq_false, not_false_eq_true, Bool.not_eq_true', Bool.not_eq_false', beq_self_eq_true, Bool.not_true, Bool.not_false, List.getElem?_toArray, List.getElem?_cons_zero, List.getElem?_cons_succ, he]
  exact l.ext

theorem szResultS_c (A : View) (v : Value) (xs : List ResultD) (k : Int) (h : Sl resultS A v xs) (hk : 0 ≤ k ∧ k ≤ 1048576) : ACalls Tryd.prog 9 #[v, .int .i64 k] A fun r A' => (∃ j : Int, r = .int .i64 j ∧ (j = -1 ∨ (0 ≤ j ∧ j + (xs.length + wL resultT xs : Nat) = k))) ∧ Ext A A' := by
  obtain ⟨a, c, rfl, hc, hl⟩ := h.slice
  refine acalls Tryd.func9 rfl (by kernel_rfl) ?_
  simp (disch := omega) only [↓stp, vls, inf, frs, mark_eq, ↓reduceIte, Nat.reduceEqDiff, ite_tt, ite_ff, eq_self, and_true, true_and, and_self, implies_true, Bool.true_eq_false, Bool.false_eq_true, decide_true, decide_false, decide_eq_true_eq, decide_eq_false_iff_not, ne_eq, not_true_eq_false, not_false_eq_true, Bool.not_eq_true', Bool.not_eq_false', beq_self_eq_true, Bool.not_true, Bool.not_false, List.getElem?_toArray, List.getElem?_cons_zero, List.getElem?_cons_succ]
  refine ⟨fun e => ?_, fun e => ?_⟩
  · simp (disch := omega) only [↓stp, vls, inf, frs, mark_eq, ↓reduceIte, Nat.reduceEqDiff, ite_tt, ite_ff, eq_self, and_true, true_and, and_self, implies_true, Bool.true_eq_false, Bool.false_eq_true, decide_true, decide_false, decide_eq_true_eq, decide_eq_false_iff_not, ne_eq, not_true_eq_false, not_false_eq_true, Bool.not_eq_true', Bool.not_eq_false', beq_self_eq_true, Bool.not_true, Bool.not_false, List.getElem?_toArray, List.getElem?_cons_zero, List.getElem?_cons_succ, e]
    exact ⟨⟨_, rfl, .inl rfl⟩, Ext.refl _⟩
  · simp (disch := omega) only [↓stp, vls, inf, frs, mark_eq, ↓reduceIte, Nat.reduceEqDiff, ite_tt, ite_ff, eq_self, and_true, true_and, and_self, implies_true, Bool.true_eq_false, Bool.false_eq_true, decide_true, decide_false, decide_eq_true_eq, decide_eq_false_iff_not, ne_eq, not_true_eq_false, not_false_eq_true, Bool.not_eq_true', Bool.not_eq_false', beq_self_eq_true, Bool.not_true, Bool.not_false, List.getElem?_toArray, List.getElem?_cons_zero, List.getElem?_cons_succ]
    refine aloop (fun d fr A' => ∃ (i : Nat) (kk : Int), i ≤ xs.length ∧ d = xs.length - i ∧ Ext A A' ∧ fr 0 = .slice a xs.length c ∧ fr 1 = .int .i64 kk ∧ fr 5 = .int .i64 i ∧ 0 ≤ kk ∧ kk + (xs.length + wL resultT (xs.take i) : Nat) = k) xs.length ⟨0, k - xs.length, by omega, by omega, Ext.refl _, rfl, by rfl, by rfl, by omega, by simp [wL]⟩ ?_
    rintro d fr A' ⟨i, kk, hi, rfl, he, h0, h1, h5, hk1, hk2⟩
    simp (disch := omega) only [↓stp, vls, inf, frs, mark_eq, ↓reduceIte, Nat.reduceEqDiff, ite_tt, ite_ff, eq_self, and_true, true_and, and_self, implies_true, Bool.true_eq_false, Bool.false_eq_true, decide_true, decide_false, decide_eq_true_eq, decide_eq_false_iff_not, ne_eq, not_true_eq_false, not_false_eq_true, Bool.not_eq_true', Bool.not_eq_false', beq_self_eq_true, Bool.not_true, Bool.not_false, List.getElem?_toArray, List.getElem?_cons_zero, List.getElem?_cons_succ, h0, h1, h5]
    refine ⟨fun e => ?_, fun e => ?_⟩
    · have hlt : i < xs.length := by omega
      obtain ⟨ad, d, rfl, hd, hp, _⟩ := (h.mono he).at hlt
      have hp : A'.part (ad.add (i * 2)) 2 = some d := hp
      simp (disch := omega) only [↓stp, vls, inf, frs, mark_eq, ↓reduceIte, Nat.reduceEqDiff, ite_tt, ite_ff, eq_self, and_true, true_and, and_self, implies_true, Bool.true_eq_false, Bool.false_eq_true, decide_true, decide_false, decide_eq_true_eq, decide_eq_false_iff_not, ne_eq, not_true_eq_false, not_false_eq_true, Bool.not_eq_true', Bool.not_eq_false', beq_self_eq_true, Bool.not_true, Bool.not_false, List.getElem?_toArray, List.getElem?_cons_zero, List.getElem?_cons_succ, h0, h1, h5, hp]
      refine (szResult_c A' d xs[i] kk hd (by omega)).mono ?_
      rintro _ A1 ⟨⟨j, rfl, hj⟩, he1⟩
      simp (disch := omega) only [↓stp, vls, inf, frs, mark_eq, ↓reduceIte, Nat.reduceEqDiff, ite_tt, ite_ff, eq_self, and_true, true_and, and_self, implies_true, Bool.true_eq_false, Bool.false_eq_true, decide_true, decide_false, decide_eq_true_eq, decide_eq_false_iff_not, ne_eq, not_true_eq_false, not_false_eq_true, Bool.not_eq_true', Bool.not_eq_false', beq_self_eq_true, Bool.not_true, Bool.not_false, List.getElem?_toArray, List.getElem?_cons_zero, List.getElem?_cons_succ, h0, h1, h5]
      refine ⟨fun e1 => ?_, fun e1 => ?_⟩ <;> simp (disch := omega) only [↓stp, vls, inf, frs, mark_eq, ↓reduceIte, Nat.reduceEqDiff, ite_tt, ite_ff, eq_self, and_true, true_and, and_self, implies_true, Bool.true_eq_false, Bool.false_eq_true, decide_true, decide_false, decide_eq_true_eq, decide_eq_false_iff_not, ne_eq, not_true_eq_false, not_false_eq_true, Bool.not_eq_true', Bool.not_eq_false', beq_self_eq_true, Bool.not_true, Bool.not_false, List.getElem?_toArray, List.getElem?_cons_zero, List.getElem?_cons_succ, h0, h1, h5]
      · exact ⟨⟨_, rfl, .inl rfl⟩, he.trans he1⟩
      · have hj := hj.resolve_left (by omega)
        have hw := wL_take resultT xs hlt
        exact ⟨_, by omega, i + 1, _, by omega, rfl, he.trans he1, rfl, rfl, by omega, by omega⟩
    · simp (disch := omega) only [↓stp, vls, inf, frs, mark_eq, ↓reduceIte, Nat.reduceEqDiff, ite_tt, ite_ff, eq_self, and_true, true_and, and_self, implies_true, Bool.true_eq_false, Bool.false_eq_true, decide_true, decide_false, decide_eq_true_eq, decide_eq_false_iff_not, ne_eq, not_true_eq_false, not_false_eq_true, Bool.not_eq_true', Bool.not_eq_false', beq_self_eq_true, Bool.not_true, Bool.not_false, List.getElem?_toArray, List.getElem?_cons_zero, List.getElem?_cons_succ, h0, h1, h5]
      rw [List.take_of_length_le (by omega)] at hk2
      exact ⟨⟨_, rfl, .inr ⟨hk1, hk2⟩⟩, he⟩

theorem toResultS_c (A : View) (v : Value) (xs : List ResultD) (h : Sl resultS A v xs) (hw : xs.length + wL resultT xs ≤ 1048576) : ACalls Tryd.prog 15 #[v] A fun r A' => ∃ fp, OSl 47 resultO A' fp r xs ∧ Ext A A' ∧ (∀ b, b ∈ fp → A b = none) ∧ fp.Nodup := by
  obtain ⟨a, c, rfl, hc, hl⟩ := h.slice
  refine acalls Tryd.func15 rfl (by kernel_rfl) ?_
  simp (disch := omega) only [↓stp, vls, inf, frs, mark_eq, ↓reduceIte, Nat.reduceEqDiff, ite_tt, ite_ff, eq_self, and_true, true_and, and_self, implies_true, Bool.true_eq_false, Bool.false_eq_true, decide_true, decide_false, decide_eq_true_eq, decide_eq_false_iff_not, ne_eq, not_true_eq_false, not_false_eq_true, Bool.not_eq_true', Bool.not_eq_false', beq_self_eq_true, Bool.not_true, Bool.not_false, List.getElem?_toArray, List.getElem?_cons_zero, List.getElem?_cons_succ]
  refine amake_at mk28 (by omega) (by omega) fun b hb => ?_
  simp (disch := omega) only [↓stp, vls, inf, frs, mark_eq, ↓reduceIte, Nat.reduceEqDiff, ite_tt, ite_ff, eq_self, and_true, true_and, and_self, implies_true, Bool.true_eq_false, Bool.false_eq_true, decide_true, decide_false, decide_eq_true_eq, decide_eq_false_iff_not, ne_eq, not_true_eq_false, not_false_eq_true, Bool.not_eq_true', Bool.not_eq_false', beq_self_eq_true, Bool.not_true, Bool.not_false, List.getElem?_toArray, List.getElem?_cons_zero, List.getElem?_cons_succ]
  refine aloop (fun d fr A' => ∃ (i : Nat) (fp : List Nat) (done : List Value), i ≤ xs.length ∧ d = xs.length - i ∧ A' b = some ⟨47, done ++ (List.replicate (xs.length - i) [.string ⟨#[]⟩, .int .i64 0]).flatten, xs.length * 2, true⟩ ∧ OElems resultO A' fp (xs.take i) done ∧ Ext A A' ∧ (∀ x, x ∈ fp → A x = none ∧ x ≠ b) ∧ fp.Nodup ∧ fr 0 = .slice a xs.length c ∧ fr 3 = .slice (some ⟨b, 0, none⟩) xs.length xs.length ∧ fr 4 = .int .i64 i) xs.length ⟨0, [], [], by omega, by omega, by rw [View.set_same]; rfl, .nil, Ext.new hb _, by simp, List.nodup_nil, rfl, by rfl, by rfl⟩ ?_
  rintro d fr A' ⟨i, fp, done, hi, rfl, hA, hd, he, hfr, hnd, h0, h3, h4⟩
  simp (disch := omega) only [↓stp, vls, inf, frs, mark_eq, ↓reduceIte, Nat.reduceEqDiff, ite_tt, ite_ff, eq_self, and_true, true_and, and_self, implies_true, Bool.true_eq_false, Bool.false_eq_true, decide_true, decide_false, decide_eq_true_eq, decide_eq_false_iff_not, ne_eq, not_true_eq_false, not_false_eq_true, Bool.not_eq_true', Bool.not_eq_false', beq_self_eq_true, Bool.not_true, Bool.not_false, List.getElem?_toArray, List.getElem?_cons_zero, List.getElem?_cons_succ, h0, h3, h4]
  refine ⟨fun e => ?_, fun e => ?_⟩
  · have hlt : i < xs.length := by omega
    obtain ⟨ad, d, rfl, hdd, hp, _⟩ := (h.mono he).at hlt
    have hp : A'.part (ad.add (i * 2)) 2 = some d := hp
    simp (disch := omega) only [↓stp, vls, inf, frs, mark_eq, ↓reduceIte, Nat.reduceEqDiff, ite_tt, ite_ff, eq_self, and_true, true_and, and_self, implies_true, Bool.true_eq_false, Bool.false_eq_true, decide_true, decide_false, decide_eq_true_eq, decide_eq_false_iff_not, ne_eq, not_true_eq_false, not_false_eq_true, Bool.not_eq_true', Bool.not_eq_false', beq_self_eq_true, Bool.not_true, Bool.not_false, List.getElem?_toArray, List.getElem?_cons_zero, List.getElem?_cons_succ, h0, h3, h4, hp]
    refine (toResult_c A' d xs[i] hdd (by have := wL_mem resultT (List.getElem_mem hlt); omega)).mono ?_
    rintro _ A1 ⟨fq, d', rfl, hw', he1, hfq, hndq⟩
    have hdl : done.length = i * 2 := by
      have := hd.len
      rw [List.length_take, Nat.min_eq_left hi] at this
      exact this
    have hz : (List.replicate (xs.length - i) ([.string ⟨#[]⟩, .int .i64 0] : List Value)).flatten = [.string ⟨#[]⟩, .int .i64 0] ++ (List.replicate (xs.length - (i + 1)) [.string ⟨#[]⟩, .int .i64 0]).flatten := by
      rw [show xs.length - i = (xs.length - (i + 1)) + 1 by omega, List.replicate_succ]; rfl
    have hA1 := he1 _ _ hA
    have hbq : b ∉ fq := fun hm => by rw [hfq _ hm] at hA; cases hA
    have hsz : d'.toArray.size = 2 := by rw [List.size_toArray]; exact resultS.len (resultO_S hw')
    have hone : (Value.agg d'.toArray).cells.toList.all (·.oneCell') = true := List.all_eq_true.2 (resultS.one (resultO_S hw'))
    have hst := storev_at (P := Tryd.prog) (v := .agg d'.toArray) sz47 (hA1.trans (by rw [hz])) hsz rfl hone (o := 0 + i * 2) (by omega)
    simp (disch := omega) only [↓stp, vls, inf, frs, mark_eq, ↓reduceIte, Nat.reduceEqDiff, ite_tt, ite_ff, eq_self, and_true, true_and, and_self, implies_true, Bool.true_eq_false, Bool.false_eq_true, decide_true, decide_false, decide_eq_true_eq, decide_eq_false_iff_not, ne_eq, not_true_eq_false, not_false_eq_true, Bool.not_eq_true', Bool.not_eq_false', beq_self_eq_true, Bool.not_true, Bool.not_false, List.getElem?_toArray, List.getElem?_cons_zero, List.getElem?_cons_succ, astore_at, h0, h3, h4, add_at, hst]
    have hqfp : ∀ x, x ∈ fp → x ∉ fq := fun x hx hm => by
      obtain ⟨k, hk⟩ := hd.has x hx
      rw [hfq x hm] at hk; cases hk
    refine ⟨_, by omega, i + 1, fp ++ fq, done ++ d', by omega, rfl, ?_, ?_, (he.trans he1).setOld hb _, ?_, ?_, rfl⟩
    · rw [View.set_same, List.append_assoc]; rfl
    · rw [List.take_succ_eq_append_getElem hlt]
      refine OElems.append (hd.stay fun x k hx hk => ?_) (OElems.single (resultO.stay hw' fun x k hx hk => ?_))
      · rw [View.set_ne _ _ (hfr x hx).2]
        exact he1 _ _ hk
      · rw [View.set_ne _ _ (fun e => hbq (by rw [← e]; exact hx))]
        exact hk
    · intro x hx
      rcases List.mem_append.1 hx with hx | hx
      · exact hfr x hx
      · exact ⟨he.none (hfq x hx), fun e => hbq (by rw [← e]; exact hx)⟩
    · exact List.nodup_append.2 ⟨hnd, hndq, fun x hx y hy e => hqfp x hx (by rw [e]; exact hy)⟩
  · simp (disch := omega) only [↓stp, vls, inf, frs, mark_eq, ↓reduceIte, Nat.reduceEqDiff, ite_tt, ite_ff, eq_self, and_true, true_and, and_self, implies_true, Bool.true_eq_false, Bool.false_eq_true, decide_true, decide_false, decide_eq_true_eq, decide_eq_false_iff_not, ne_eq, not_true_eq_false, not_false_eq_true, Bool.not_eq_true', Bool.not_eq_false', beq_self_eq_true, Bool.not_true, Bool.not_false, List.getElem?_toArray, List.getElem?_cons_zero, List.getElem?_cons_succ, h0, h3, h4]
    have hi' : i = xs.length := by omega
    subst hi'
    rw [List.take_length] at hd
    simp only [Nat.sub_self, List.replicate_zero, List.flatten_nil, List.append_nil] at hA
    refine ⟨b :: fp, ⟨by omega, .inr ⟨b, _, done, fp, rfl, Nat.le_refl _, rfl, hA, hd⟩⟩, he, ?_, List.nodup_cons.2 ⟨fun hm => (hfr b hm).2 rfl, hnd⟩⟩
    intro x hx
    rcases List.mem_cons.1 hx with rfl | hx
    · exact hb
    · exact (hfr x hx).1

theorem eqResultS_c (A : View) (v u : Value) (xs ys : List ResultD) (h : Sl resultS A v xs) (h' : Sl resultS A u ys) : ACalls Tryd.prog 21 #[v, u] A fun r A' => r = .bool (decide (xs = ys)) ∧ Ext A A' := by
  obtain ⟨a, c, rfl, hc, hl⟩ := h.slice
  obtain ⟨a', c', rfl, hc', hl'⟩ := h'.slice
  refine acalls Tryd.func21 rfl (by kernel_rfl) ?_
  simp (disch := omega) only [↓stp, vls, inf, frs, mark_eq, ↓reduceIte, Nat.reduceEqDiff, ite_tt, ite_ff, eq_self, and_true, true_and, and_self, implies_true, Bool.true_eq_false, Bool.false_eq_true, decide_true, decide_false, decide_eq_true_eq, decide_eq_false_iff_not, ne_eq, not_true_eq_false, not_false_eq_true, Bool.not_eq_true', Bool.not_eq_false', beq_self_eq_true, Bool.not_true, Bool.not_false, List.getElem?_toArray, List.getElem?_cons_zero, List.getElem?_cons_succ]
  refine ⟨fun e => ?_, fun e => ?_⟩
  · simp (disch := omega) only [↓stp, vls, inf, frs, mark_eq, ↓reduceIte, Nat.reduceEqDiff, ite_tt, ite_ff, eq_self, and_true, true_and, and_self, implies_true, Bool.true_eq_false, Bool.false_eq_true, decide_true, decide_false, decide_eq_true_eq, decide_eq_false_iff_not, ne_eq, not_true_eq_false, not_false_eq_true, Bool.not_eq_true', Bool.not_eq_false', beq_self_eq_true, Bool.not_true, Bool.not_false, List.getElem?_toArray, List.getElem?_cons_zero, List.getElem?_cons_succ]
    have : xs ≠ ys := fun he => e (by rw [he])
    exact ⟨by simp [this], Ext.refl _⟩
  · have hlen : xs.length = ys.length := by omega
    simp (disch := omega) only [↓stp, vls, inf, frs, mark_eq, ↓reduceIte, Nat.reduceEqDiff, ite_tt, ite_ff, eq_self, and_true, true_and, and_self, implies_true, Bool.true_eq_false, Bool.false_eq_true, decide_true, decide_false, decide_eq_true_eq, decide_eq_false_iff_not, ne_eq, not_true_eq_false, not_false_eq_true, Bool.not_eq_true', Bool.not_eq_false', beq_self_eq_true, Bool.not_true, Bool.not_false, List.getElem?_toArray, List.getElem?_cons_zero, List.getElem?_cons_succ]
    refine aloop (fun d fr A' => ∃ i : Nat, i ≤ xs.length ∧ d = xs.length - i ∧ Ext A A' ∧ fr 0 = .slice a xs.length c ∧ fr 1 = .slice a' ys.length c' ∧ fr 5 = .int .i64 i ∧ xs.take i = ys.take i) xs.length ⟨0, by omega, by omega, Ext.refl _, rfl, by rfl, by rfl, by simp⟩ ?_
    rintro d fr A' ⟨i, hi, rfl, he, h0, h1, h5, hn⟩
    simp (disch := omega) only [↓stp, vls, inf, frs, mark_eq, ↓reduceIte, Nat.reduceEqDiff, ite_tt, ite_ff, eq_self, and_true, true_and, and_self, implies_true, Bool.true_eq_false, Bool.false_eq_true, decide_true, decide_false, decide_eq_true_eq, decide_eq_false_iff_not, ne_eq, not_true_eq_false, not_false_eq_true, Bool.not_eq_true', Bool.not_eq_false', beq_self_eq_true, Bool.not_true, Bool.not_false, List.getElem?_toArray, List.getElem?_cons_zero, List.getElem?_cons_succ, h0, h1, h5]
    refine ⟨fun e => ?_, fun e => ?_⟩
    · obtain ⟨ad, d, rfl, hd, hp, _⟩ := (h.mono he).at (i := i) (by omega)
      obtain ⟨ad', d', rfl, hd', hp', _⟩ := (h'.mono he).at (i := i) (by omega)
      have hp : A'.part (ad.add (i * 2)) 2 = some d := hp
      have hp' : A'.part (ad'.add (i * 2)) 2 = some d' := hp'
      simp (disch := omega) only [↓stp, vls, inf, frs, mark_eq, ↓reduceIte, Nat.reduceEqDiff, ite_tt, ite_ff, eq_self, and_true, true_and, and_self, implies_true, Bool.true_eq_false, Bool.false_eq_true, decide_true, decide_false, decide_eq_true_eq, decide_eq_false_iff_not, ne_eq, not_true_eq_false, not_false_eq_true, Bool.not_eq_true', Bool.not_eq_false', beq_self_eq_true, Bool.not_true, Bool.not_false, List.getElem?_toArray, List.getElem?_cons_zero, List.getElem?_cons_succ, h0, h1, h5]
      refine adraw_items [.q 0, .q 1, .q 2, .l 3 false, .q 4, .q 5, .q 6, .l 7 false, .c 8 [], .q 9] (by kernel_rfl) (by kernel_rfl) ?_
      simp (disch := omega) only [↓stp, ↓pln, plv, nilOk, Nat.reduceBEq, Bool.or_false, Bool.or_true, Bool.false_or, Bool.true_or, vls, inf, frs, mark_eq, ↓reduceIte, Nat.reduceEqDiff, ite_tt, ite_ff, eq_self, and_true, true_and, and_self, implies_true, Bool.true_eq_false, Bool.false_eq_true, decide_true, decide_false, decide_eq_true_eq, decide_eq_false_iff_not, ne_eq, not_true_eq_false, not_false_eq_true, Bool.not_eq_true', Bool.not_eq_false', beq_self_eq_true, Bool.not_true, Bool.not_false, List.getElem?_toArray, List.getElem?_cons_zero, List.getElem?_cons_succ, h0, h1, h5, hp, hp']
      refine (eqResult_c A' d d' xs[i] ys[i] hd hd').mono ?_
      rintro _ A1 ⟨rfl, he1⟩
      simp (disch := omega) only [↓stp, ↓pln, plv, nilOk, Nat.reduceBEq, Bool.or_false, Bool.or_true, Bool.false_or, Bool.true_or, vls, inf, frs, mark_eq, ↓reduceIte, Nat.reduceEqDiff, ite_tt, ite_ff, eq_self, and_true, true_and, and_self, implies_true, Bool.true_eq_false, Bool.false_eq_true, decide_true, decide_false, decide_eq_true_eq, decide_eq_false_iff_not, ne_eq, not_true_eq_false, not_false_eq_true, Bool.not_eq_true', Bool.not_eq_false', beq_self_eq_true, Bool.not_true, Bool.not_false, List.getElem?_toArray, List.getElem?_cons_zero, List.getElem?_cons_succ, h0, h1, h5]
      refine ⟨fun e1 => ?_, fun e1 => ?_⟩ <;> simp (disch := omega) only [↓stp, vls, inf, frs, mark_eq, ↓reduceIte, Nat.reduceEqDiff, ite_tt, ite_ff, eq_self, and_true, true_and, and_self, implies_true, Bool.true_eq_false, Bool.false_eq_true, decide_true, decide_false, decide_eq_true_eq, decide_eq_false_iff_not, ne_eq, not_true_eq_false, not_false_eq_true, Bool.not_eq_true', Bool.not_eq_false', beq_self_eq_true, Bool.not_true, Bool.not_false, List.getElem?_toArray, List.getElem?_cons_zero, List.getElem?_cons_succ, h0, h1, h5]
      · have : xs ≠ ys := fun he => e1 (by simp only [he])
        exact ⟨by simp [this], he.trans he1⟩
      · refine ⟨_, by omega, i + 1, by omega, rfl, he.trans he1, rfl, ?_⟩
        rw [List.take_succ_eq_append_getElem (by omega), List.take_succ_eq_append_getElem (by omega), hn]
        have : xs[i] = ys[i] := by simpa using e1
        rw [this]
    · rw [List.take_of_length_le (by omega), List.take_of_length_le (by omega)] at hn
      simp (disch := omega) only [↓stp, vls, inf, frs, mark_eq, ↓reduceIte, Nat.reduceEqDiff, ite_tt, ite_ff, eq_self, and_true, true_and, and_self, implies_true, Bool.true_eq_false, Bool.false_eq_true, decide_true, decide_false, decide_eq_true_eq, decide_eq_false_iff_not, ne_eq, not_true_eq_false, not_false_eq_true, Bool.not_eq_true', Bool.not_eq_false', beq_self_eq_true, Bool.not_true, Bool.not_false, List.getElem?_toArray, List.getElem?_cons_zero, List.getElem?_cons_succ, h0, h1, h5, hn]
      exact he

end Go.Proofs.YtggklaimbklefaaDoor

