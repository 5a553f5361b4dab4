/- The helpers of the laws for Past: counted, copied, compared, marked. -/
import Derived.Test.YthimfjonfaomgaaE2
set_option maxHeartbeats 4000000
set_option synthInstance.maxHeartbeats 400000
set_option synthInstance.maxSize 4096
set_option linter.unusedSimpArgs false
set_option linter.unusedVariables false
namespace Go.Proofs.Ythimfjonfaomgaa

set_option maxRecDepth 100000

abbrev PastD := ByteArray × Bool × Int × Unit

def pastS : Shape PastD := consS strS (consS boolS (consS intS unitS))

def pastO : OwnS PastD := consO strO (consO boolO (consO intO unitO))

def pastT : GT PastD := consT strT (consT boolT (consT intT unitT))

theorem pastS_open {A : View} {x : PastD} {d : List Value} (h : pastS.rel A x d) : d = [.string x.1, .bool x.2.1, .int .i64 x.2.2.1] ∧ x.1.size ≤ 140737488355328 ∧ (-9223372036854775808 ≤ x.2.2.1 ∧ x.2.2.1 < 9223372036854775808) := by
  obtain ⟨_, _, rfl, ⟨rfl, hh0⟩, ⟨_, _, rfl, rfl, ⟨_, _, rfl, ⟨rfl, hh2⟩, rfl⟩⟩⟩ := h
  exact ⟨rfl, hh0, hh2⟩

theorem pastS_mk {A : View} {x : PastD} (hh0 : x.1.size ≤ 140737488355328) (hh2 : (-9223372036854775808 ≤ x.2.2.1 ∧ x.2.2.1 < 9223372036854775808)) : pastS.rel A x [.string x.1, .bool x.2.1, .int .i64 x.2.2.1] := ⟨_, _, rfl, ⟨rfl, hh0⟩, ⟨_, _, rfl, rfl, ⟨_, _, rfl, ⟨rfl, hh2⟩, rfl⟩⟩⟩

theorem pastO_open {A : View} {fp : List Nat} {x : PastD} {d : List Value} (h : pastO.rel A fp x d) : [] = fp ∧ d = [.string x.1, .bool x.2.1, .int .i64 x.2.2.1] ∧ x.1.size ≤ 140737488355328 ∧ (-9223372036854775808 ≤ x.2.2.1 ∧ x.2.2.1 < 9223372036854775808) := by
  obtain ⟨_, _, _, _, rfl, rfl, ⟨rfl, rfl, hh0⟩, ⟨_, _, _, _, rfl, rfl, ⟨rfl, rfl⟩, ⟨_, _, _, _, rfl, rfl, ⟨rfl, rfl, hh2⟩, ⟨rfl, rfl⟩⟩⟩⟩ := h
  exact ⟨by simp, rfl, hh0, hh2⟩

theorem pastO_mk {A : View} {x : PastD} (hh0 : x.1.size ≤ 140737488355328) (hh2 : (-9223372036854775808 ≤ x.2.2.1 ∧ x.2.2.1 < 9223372036854775808)) : pastO.rel A ([]) x [.string x.1, .bool x.2.1, .int .i64 x.2.2.1] := ⟨[], [], [.string x.1], _, by simp, rfl, ⟨rfl, rfl, hh0⟩, ⟨[], [], [.bool x.2.1], _, by simp, rfl, ⟨rfl, rfl⟩, ⟨[], [], [.int .i64 x.2.2.1], _, by simp, rfl, ⟨rfl, rfl, hh2⟩, ⟨rfl, rfl⟩⟩⟩⟩

theorem pastO_S {A : View} {fp : List Nat} {x : PastD} {d : List Value} (h : pastO.rel A fp x d) : pastS.rel A x d := pastO.toS h

theorem pastT_w (x : PastD) : pastT.w x = x.1.size + (0 + (0 + 0)) := rfl

theorem pastT_cnt (x : PastD) : pastT.cnt x = 1 + (1 + (1 + 0)) := rfl

theorem pastT_le (x : PastD) : pastT.cnt x ≤ 4 + 4 * pastT.w x := by
  rw [pastT_cnt, pastT_w]
  omega

theorem pastL_le : ∀ (xs : List PastD), cntL pastT xs ≤ 4 * (xs.length + wL pastT xs)
  | [] => by simp [cntL]
  | x :: xs => by
    have := pastT_le x
    have := pastL_le xs
    simp only [cntL, wL, List.length_cons]
    omega

theorem Sl.past {A : View} {a : Option Addr} {n c : Nat} {xs : List PastD} (h : Sl pastS A (.slice a n c) xs) {i : Nat} (hi : i < xs.length) : ∃ (ad : Addr) , a = some ad ∧ A.part (ad.add (i * 3)) 3 = some [.string (xs[i]).1, .bool (xs[i]).2.1, .int .i64 (xs[i]).2.2.1] ∧ (xs[i]).1.size ≤ 140737488355328 ∧ (-9223372036854775808 ≤ (xs[i]).2.2.1 ∧ (xs[i]).2.2.1 < 9223372036854775808) := by
  obtain ⟨ad, d, h1, h2, h3, _⟩ := h.at hi
  obtain ⟨rfl, hh0, hh2⟩ := pastS_open h2
  exact ⟨ad, h1, h3, hh0, hh2⟩

theorem szPast_c (A : View) (d : List Value) (x : PastD) (k : Int) (h : pastS.rel A x d) (hk : 0 ≤ k ∧ k ≤ 1048576) : ACalls Try.prog 39 #[.agg d.toArray, .int .i64 k] A fun r A' => (∃ j : Int, r = .int .i64 j ∧ (j = -1 ∨ (0 ≤ j ∧ j + pastT.w x = k))) ∧ Ext A A' := by
  obtain ⟨rfl, hh0, hh2⟩ := pastS_open h
  have hw := pastT_w x
  refine acalls Try.func39 rfl (by kernel_rfl) ?_
  simp (disch := omega) only [↓stp, vls, inf, frs, mark_eq, ↓reduceIte, Nat.reduceEqDiff, ite_tt, ite_ff, eq_self, and_true, true_and, and_self, implies_true, Bool.true_eq_false, Bool.false_eq_true, decide_true, decide_false, decide_eq_true_eq, decide_eq_false_iff_not, ne_eq, not_true_eq_false, not_false_eq_true, Bool.not_eq_true', Bool.not_eq_false', beq_self_eq_true, Bool.not_true, Bool.not_false, List.getElem?_toArray, List.getElem?_cons_zero, List.getElem?_cons_succ]
  refine led_box (Led.nil A) rfl fun b V _ l => ?_
  have b0 := l.cell (i := 0) rfl (o := 0) rfl rfl
  have b1 := l.cell (i := 0) rfl (o := 1) rfl rfl
  have b2 := l.cell (i := 0) rfl (o := 2) rfl rfl
  simp (disch := omega) only [↓stp, vls, inf, frs, mark_eq, ↓reduceIte, Nat.reduceEqDiff, ite_tt, ite_ff, eq_self, and_true, true_and, and_self, implies_true, Bool.true_eq_false, Bool.false_eq_true, decide_true, decide_false, decide_eq_true_eq, decide_eq_false_iff_not, ne_eq, not_true_eq_false, not_false_eq_true, Bool.not_eq_true', Bool.not_eq_false', beq_self_eq_true, Bool.not_true, Bool.not_false, List.getElem?_toArray, List.getElem?_cons_zero, List.getElem?_cons_succ, add_at, b0, b1, b2]
  refine ⟨fun e => ?_, fun e => ?_⟩
  · simp (disch := omega) only [↓stp, vls, inf, frs, mark_eq, ↓reduceIte, Nat.reduceEqDiff, ite_tt, ite_ff, eq_self, and_true, true_and, and_self, implies_true, Bool.true_eq_false, Bool.false_eq_true, decide_true, decide_false, decide_eq_true_eq, decide_eq_false_iff_not, ne_eq, not_true_eq_false, not_false_eq_true, Bool.not_eq_true', Bool.not_eq_false', beq_self_eq_true, Bool.not_true, Bool.not_false, List.getElem?_toArray, List.getElem?_cons_zero, List.getElem?_cons_succ, add_at, b0, b1, b2]
    exact ⟨⟨_, rfl, .inl rfl⟩, l.ext⟩
  simp (disch := omega) only [↓stp, vls, inf, frs, mark_eq, ↓reduceIte, Nat.reduceEqDiff, ite_tt, ite_ff, eq_self, and_true, true_and, and_self, implies_true, Bool.true_eq_false, Bool.false_eq_true, decide_true, decide_false, decide_eq_true_eq, decide_eq_false_iff_not, ne_eq, not_true_eq_false, not_false_eq_true, Bool.not_eq_true', Bool.not_eq_false', beq_self_eq_true, Bool.not_true, Bool.not_false, List.getElem?_toArray, List.getElem?_cons_zero, List.getElem?_cons_succ, add_at, b0, b1, b2]
  exact ⟨⟨_, rfl, .inr ⟨by omega, by omega⟩⟩, l.ext⟩

theorem toPast_c (A : View) (d : List Value) (x : PastD) (h : pastS.rel A x d) (hw : pastT.w x ≤ 1048576) : ACalls Try.prog 44 #[.agg d.toArray] A fun r A' => ∃ fp d', r = .agg d'.toArray ∧ pastO.rel A' fp x d' ∧ Ext A A' ∧ (∀ b, b ∈ fp → A b = none) ∧ fp.Nodup := by
  obtain ⟨rfl, hh0, hh2⟩ := pastS_open h
  rw [pastT_w] at hw
  refine acalls Try.func44 rfl (by kernel_rfl) ?_
  simp (disch := omega) only [↓stp, vls, inf, frs, mark_eq, ↓reduceIte, Nat.reduceEqDiff, ite_tt, ite_ff, eq_self, and_true, true_and, and_self, implies_true, Bool.true_eq_false, Bool.false_eq_true, decide_true, decide_false, decide_eq_true_eq, decide_eq_false_iff_not, ne_eq, not_true_eq_false, not_false_eq_true, Bool.not_eq_true', Bool.not_eq_false', beq_self_eq_true, Bool.not_true, Bool.not_false, List.getElem?_toArray, List.getElem?_cons_zero, List.getElem?_cons_succ]
  refine led_box (Led.nil A) rfl fun q0 V _ l => ?_
  simp (disch := omega) only [↓stp, vls, inf, frs, mark_eq, ↓reduceIte, Nat.reduceEqDiff, ite_tt, ite_ff, eq_self, and_true, true_and, and_self, implies_true, Bool.true_eq_false, Bool.false_eq_true, decide_true, decide_false, decide_eq_true_eq, decide_eq_false_iff_not, ne_eq, not_true_eq_false, not_false_eq_true, Bool.not_eq_true', Bool.not_eq_false', beq_self_eq_true, Bool.not_true, Bool.not_false, List.getElem?_toArray, List.getElem?_cons_zero, List.getElem?_cons_succ]
  refine led_alloc zc69 l fun q1 V _ l => ?_
  simp (disch := omega) only [↓stp, vls, inf, frs, mark_eq, ↓reduceIte, Nat.reduceEqDiff, ite_tt, ite_ff, eq_self, and_true, true_and, and_self, implies_true, Bool.true_eq_false, Bool.false_eq_true, decide_true, decide_false, decide_eq_true_eq, decide_eq_false_iff_not, ne_eq, not_true_eq_false, not_false_eq_true, Bool.not_eq_true', Bool.not_eq_false', beq_self_eq_true, Bool.not_true, Bool.not_false, List.getElem?_toArray, List.getElem?_cons_zero, List.getElem?_cons_succ]
  refine led_alloc zc69 l fun q2 V _ l => ?_
  have b0 := l.cell (i := 2) rfl (o := 0) rfl rfl
  have b1 := l.cell (i := 2) rfl (o := 1) rfl rfl
  have b2 := l.cell (i := 2) rfl (o := 2) rfl rfl
  simp (disch := omega) only [↓stp, vls, inf, frs, mark_eq, ↓reduceIte, Nat.reduceEqDiff, ite_tt, ite_ff, eq_self, and_true, true_and, and_self, implies_true, Bool.true_eq_false, Bool.false_eq_true, decide_true, decide_false, decide_eq_true_eq, decide_eq_false_iff_not, ne_eq, not_true_eq_false, not_false_eq_true, Bool.not_eq_true', Bool.not_eq_false', beq_self_eq_true, Bool.not_true, Bool.not_false, List.getElem?_toArray, List.getElem?_cons_zero, List.getElem?_cons_succ, add_at, b0, b1, b2]
  refine led_store l 0 rfl sz9 (by rfl) (by rfl) (by rfl) fun V l => ?_
  have b0 := l.cell (i := 2) rfl (o := 0) rfl rfl
  have b1 := l.cell (i := 2) rfl (o := 1) rfl rfl
  have b2 := l.cell (i := 2) rfl (o := 2) rfl rfl
  simp (disch := omega) only [↓stp, vls, inf, frs, mark_eq, ↓reduceIte, Nat.reduceEqDiff, ite_tt, ite_ff, eq_self, and_true, true_and, and_self, implies_true, Bool.true_eq_false, Bool.false_eq_true, decide_true, decide_false, decide_eq_true_eq, decide_eq_false_iff_not, ne_eq, not_true_eq_false, not_false_eq_true, Bool.not_eq_true', Bool.not_eq_false', beq_self_eq_true, Bool.not_true, Bool.not_false, List.getElem?_toArray, List.getElem?_cons_zero, List.getElem?_cons_succ, add_at, b0, b1, b2]
  refine led_store l 0 rfl sz4 (by rfl) (by rfl) (by rfl) fun V l => ?_
  have b0 := l.cell (i := 2) rfl (o := 0) rfl rfl
  have b1 := l.cell (i := 2) rfl (o := 1) rfl rfl
  have b2 := l.cell (i := 2) rfl (o := 2) rfl rfl
  simp (disch := omega) only [↓stp, vls, inf, frs, mark_eq, ↓reduceIte, Nat.reduceEqDiff, ite_tt, ite_ff, eq_self, and_true, true_and, and_self, implies_true, Bool.true_eq_false, Bool.false_eq_true, decide_true, decide_false, decide_eq_true_eq, decide_eq_false_iff_not, ne_eq, not_true_eq_false, not_false_eq_true, Bool.not_eq_true', Bool.not_eq_false', beq_self_eq_true, Bool.not_true, Bool.not_false, List.getElem?_toArray, List.getElem?_cons_zero, List.getElem?_cons_succ, add_at, b0, b1, b2]
  refine led_store l 0 rfl sz3 (by rfl) (by rfl) (by rfl) fun V l => ?_
  have hp : V.part ⟨q2, 0, none⟩ 3 = some [.string x.1, .bool x.2.1, .int .i64 x.2.2.1] := l.part (i := 0) rfl rfl
  simp (disch := omega) only [↓stp, vls, inf, frs, mark_eq, ↓reduceIte, Nat.reduceEqDiff, ite_tt, ite_ff, eq_self, and_true, true_and, and_self, implies_true, Bool.true_eq_false, Bool.false_eq_true, decide_true, decide_false, decide_eq_true_eq, decide_eq_false_iff_not, ne_eq, not_true_eq_false, not_false_eq_true, Bool.not_eq_true', Bool.not_eq_false', beq_self_eq_true, Bool.not_true, Bool.not_false, List.getElem?_toArray, List.getElem?_cons_zero, List.getElem?_cons_succ, hp]
  refine led_store l 1 rfl sz69 (by rfl) (by rfl) (by rfl) fun V l => ?_
  have hp : V.part ⟨q1, 0, none⟩ 3 = some [.string x.1, .bool x.2.1, .int .i64 x.2.2.1] := l.part (i := 1) rfl rfl
  simp (disch := omega) only [↓stp, vls, inf, frs, mark_eq, ↓reduceIte, Nat.reduceEqDiff, ite_tt, ite_ff, eq_self, and_true, true_and, and_self, implies_true, Bool.true_eq_false, Bool.false_eq_true, decide_true, decide_false, decide_eq_true_eq, decide_eq_false_iff_not, ne_eq, not_true_eq_false, not_false_eq_true, Bool.not_eq_true', Bool.not_eq_false', beq_self_eq_true, Bool.not_true, Bool.not_false, List.getElem?_toArray, List.getElem?_cons_zero, List.getElem?_cons_succ, hp]
  exact ⟨[], _, rfl, pastO_mk hh0 hh2, l.ext, by simp, List.nodup_nil⟩

theorem eqPast_c (A : View) (d d' : List Value) (x y : PastD) (h : pastS.rel A x d) (h' : pastS.rel A y d') : ACalls Try.prog 50 #[.agg d.toArray, .agg d'.toArray] A fun r A' => r = .bool (decide (x = y)) ∧ Ext A A' := by
  obtain ⟨rfl, hh0, hh2⟩ := pastS_open h
  obtain ⟨rfl, g0, g2⟩ := pastS_open h'
  refine acalls Try.func50 rfl (by kernel_rfl) ?_
  simp (disch := omega) only [↓stp, vls, inf, frs, mark_eq, ↓reduceIte, Nat.reduceEqDiff, ite_tt, ite_ff, eq_self, and_true, true_and, and_self, implies_true, Bool.true_eq_false, Bool.false_eq_true, decide_true, decide_false, decide_eq_true_eq, decide_eq_false_iff_not, ne_eq, not_true_eq_false, not_false_eq_true, Bool.not_eq_true', Bool.not_eq_false', beq_self_eq_true, Bool.not_true, Bool.not_false, List.getElem?_toArray, List.getElem?_cons_zero, List.getElem?_cons_succ]
  refine led_box (Led.nil A) rfl fun q0 V _ l => ?_
  simp (disch := omega) only [↓stp, vls, inf, frs, mark_eq, ↓reduceIte, Nat.reduceEqDiff, ite_tt, ite_ff, eq_self, and_true, true_and, and_self, implies_true, Bool.true_eq_false, Bool.false_eq_true, decide_true, decide_false, decide_eq_true_eq, decide_eq_false_iff_not, ne_eq, not_true_eq_false, not_false_eq_true, Bool.not_eq_true', Bool.not_eq_false', beq_self_eq_true, Bool.not_true, Bool.not_false, List.getElem?_toArray, List.getElem?_cons_zero, List.getElem?_cons_succ]
  refine led_box l rfl fun q1 V _ l => ?_
  have b0 := l.cell (i := 1) rfl (o := 0) rfl rfl
  have b1 := l.cell (i := 1) rfl (o := 1) rfl rfl
  have b2 := l.cell (i := 1) rfl (o := 2) rfl rfl
  have d0 := l.cell (i := 0) rfl (o := 0) rfl rfl
  have d1 := l.cell (i := 0) rfl (o := 1) rfl rfl
  have d2 := l.cell (i := 0) rfl (o := 2) rfl rfl
  simp (disch := omega) only [↓stp, vls, inf, frs, mark_eq, ↓reduceIte, Nat.reduceEqDiff, ite_tt, ite_ff, eq_self, and_true, true_and, and_self, implies_true, Bool.true_eq_false, Bool.false_eq_true, decide_true, decide_false, decide_eq_true_eq, decide_eq_false_iff_not, ne_eq, not_true_eq_false, not_false_eq_true, Bool.not_eq_true', Bool.not_eq_false', beq_self_eq_true, Bool.not_true, Bool.not_false, List.getElem?_toArray, List.getElem?_cons_zero, List.getElem?_cons_succ, add_at, b0, b1, b2, d0, d1, d2]
  refine ⟨fun e => ?_, fun e => ?_⟩
  · have hne : ¬ x = y := fun he => by rw [he] at e; simp at e
    simp (disch := omega) only [↓stp, vls, inf, frs, mark_eq, ↓reduceIte, Nat.reduceEqDiff, ite_tt, ite_ff, eq_self, and_true, true_and, and_self, implies_true, Bool.true_eq_false, Bool.false_eq_true, decide_true, decide_false, decide_eq_true_eq, decide_eq_false_iff_not, ne_eq, not_true_eq_false, not_false_eq_true, Bool.not_eq_true', Bool.not_eq_false', beq_self_eq_true, Bool.not_true, Bool.not_false, List.getElem?_toArray, List.getElem?_cons_zero, List.getElem?_cons_succ, hne]
    exact l.ext
  have e0 : x.1 = y.1 := by simpa using e
  simp (disch := omega) only [↓stp, vls, inf, frs, mark_eq, ↓reduceIte, Nat.reduceEqDiff, ite_tt, ite_ff, eq_self, and_true, true_and, and_self, implies_true, Bool.true_eq_false, Bool.false_eq_true, decide_true, decide_false, decide_eq_true_eq, decide_eq_false_iff_not, ne_eq, not_true_eq_false, not_false_eq_true, Bool.not_eq_true', Bool.not_eq_false', beq_self_eq_true, Bool.not_true, Bool.not_false, List.getElem?_toArray, List.getElem?_cons_zero, List.getElem?_cons_succ, add_at, b0, b1, b2, d0, d1, d2]
  refine ⟨fun e => ?_, fun e => ?_⟩
  · have hne : ¬ x = y := fun he => by rw [he] at e; simp at e
    simp (disch := omega) only [↓stp, vls, inf, frs, mark_eq, ↓reduceIte, Nat.reduceEqDiff, ite_tt, ite_ff, eq_self, and_true, true_and, and_self, implies_true, Bool.true_eq_false, Bool.false_eq_true, decide_true, decide_false, decide_eq_true_eq, decide_eq_false_iff_not, ne_eq, not_true_eq_false, not_false_eq_true, Bool.not_eq_true', Bool.not_eq_false', beq_self_eq_true, Bool.not_true, Bool.not_false, List.getElem?_toArray, List.getElem?_cons_zero, List.getElem?_cons_succ, hne]
    exact l.ext
  have e1 : x.2.1 = y.2.1 := by simpa using e
  simp (disch := omega) only [↓stp, vls, inf, frs, mark_eq, ↓reduceIte, Nat.reduceEqDiff, ite_tt, ite_ff, eq_self, and_true, true_and, and_self, implies_true, Bool.true_eq_false, Bool.false_eq_true, decide_true, decide_false, decide_eq_true_eq, decide_eq_false_iff_not, ne_eq, not_true_eq_false, not_false_eq_true, Bool.not_eq_true', Bool.not_eq_false', beq_self_eq_true, Bool.not_true, Bool.not_false, List.getElem?_toArray, List.getElem?_cons_zero, List.getElem?_cons_succ, add_at, b0, b1, b2, d0, d1, d2]
  refine ⟨fun e => ?_, fun e => ?_⟩
  · have hne : ¬ x = y := fun he => by rw [he] at e; simp at e
    simp (disch := omega) only [↓stp, vls, inf, frs, mark_eq, ↓reduceIte, Nat.reduceEqDiff, ite_tt, ite_ff, eq_self, and_true, true_and, and_self, implies_true, Bool.true_eq_false, Bool.false_eq_true, decide_true, decide_false, decide_eq_true_eq, decide_eq_false_iff_not, ne_eq, not_true_eq_false, not_false_eq_true, Bool.not_eq_true', Bool.not_eq_false', beq_self_eq_true, Bool.not_true, Bool.not_false, List.getElem?_toArray, List.getElem?_cons_zero, List.getElem?_cons_succ, hne]
    exact l.ext
  have e2 : x.2.2.1 = y.2.2.1 := by simpa using e
  have he : x = y := Prod.ext e0 (Prod.ext e1 (Prod.ext e2 (rfl)))
  simp (disch := omega) only [↓stp, vls, inf, frs, mark_eq, ↓reduceIte, Nat.reduceEqDiff, ite_tt, ite_ff, eq_self, and_true, true_and, and_self, implies_true, Bool.true_eq_false, Bool.false_eq_true, decide_true, decide_false, decide_eq_true_eq, decide_eq_false_iff_not, ne_eq, not_true_eq_false, not_false_eq_true, Bool.not_eq_true', Bool.not_eq_false', beq_self_eq_true, Bool.not_true, Bool.not_false, List.getElem?_toArray, List.getElem?_cons_zero, List.getElem?_cons_succ, he]
  exact l.ext

theorem szPastS_c (A : View) (v : Value) (xs : List PastD) (k : Int) (h : Sl pastS A v xs) (hk : 0 ≤ k ∧ k ≤ 1048576) : ACalls Try.prog 8 #[v, .int .i64 k] A fun r A' => (∃ j : Int, r = .int .i64 j ∧ (j = -1 ∨ (0 ≤ j ∧ j + (xs.length + wL pastT xs : Nat) = k))) ∧ Ext A A' := by
  obtain ⟨a, c, rfl, hc, hl⟩ := h.slice
  refine acalls Try.func8 rfl (by kernel_rfl) ?_
  simp (disch := omega) only [↓stp, vls, inf, frs, mark_eq, ↓reduceIte, Nat.reduceEqDiff, ite_tt, ite_ff, eq_self, and_true, true_and, and_self, implies_true, Bool.true_eq_false, Bool.false_eq_true, decide_true, decide_false, decide_eq_true_eq, decide_eq_false_iff_not, ne_eq, not_true_eq_false, not_false_eq_true, Bool.not_eq_true', Bool.not_eq_false', beq_self_eq_true, Bool.not_true, Bool.not_false, List.getElem?_toArray, List.getElem?_cons_zero, List.getElem?_cons_succ]
  refine ⟨fun e => ?_, fun e => ?_⟩
  · simp (disch := omega) only [↓stp, vls, inf, frs, mark_eq, ↓reduceIte, Nat.reduceEqDiff, ite_tt, ite_ff, eq_self, and_true, true_and, and_self, implies_true, Bool.true_eq_false, Bool.false_eq_true, decide_true, decide_false, decide_eq_true_eq, decide_eq_false_iff_not, ne_eq, not_true_eq_false, not_false_eq_true, Bool.not_eq_true', Bool.not_eq_false', beq_self_eq_true, Bool.not_true, Bool.not_false, List.getElem?_toArray, List.getElem?_cons_zero, List.getElem?_cons_succ, e]
    exact ⟨⟨_, rfl, .inl rfl⟩, Ext.refl _⟩
  · simp (disch := omega) only [↓stp, vls, inf, frs, mark_eq, ↓reduceIte, Nat.reduceEqDiff, ite_tt, ite_ff, eq_self, and_true, true_and, and_self, implies_true, Bool.true_eq_false, Bool.false_eq_true, decide_true, decide_false, decide_eq_true_eq, decide_eq_false_iff_not, ne_eq, not_true_eq_false, not_false_eq_true, Bool.not_eq_true', Bool.not_eq_false', beq_self_eq_true, Bool.not_true, Bool.not_false, List.getElem?_toArray, List.getElem?_cons_zero, List.getElem?_cons_succ]
    refine aloop (fun d fr A' => ∃ (i : Nat) (kk : Int), i ≤ xs.length ∧ d = xs.length - i ∧ Ext A A' ∧ fr 0 = .slice a xs.length c ∧ fr 1 = .int .i64 kk ∧ fr 5 = .int .i64 i ∧ 0 ≤ kk ∧ kk + (xs.length + wL pastT (xs.take i) : Nat) = k) xs.length ⟨0, k - xs.length, by omega, by omega, Ext.refl _, rfl, by rfl, by rfl, by omega, by simp [wL]⟩ ?_
    rintro d fr A' ⟨i, kk, hi, rfl, he, h0, h1, h5, hk1, hk2⟩
    simp (disch := omega) only [↓stp, vls, inf, frs, mark_eq, ↓reduceIte, Nat.reduceEqDiff, ite_tt, ite_ff, eq_self, and_true, true_and, and_self, implies_true, Bool.true_eq_false, Bool.false_eq_true, decide_true, decide_false, decide_eq_true_eq, decide_eq_false_iff_not, ne_eq, not_true_eq_false, not_false_eq_true, Bool.not_eq_true', Bool.not_eq_false', beq_self_eq_true, Bool.not_true, Bool.not_false, List.getElem?_toArray, List.getElem?_cons_zero, List.getElem?_cons_succ, h0, h1, h5]
    refine ⟨fun e => ?_, fun e => ?_⟩
    · have hlt : i < xs.length := by omega
      obtain ⟨ad, d, rfl, hd, hp, _⟩ := (h.mono he).at hlt
      have hp : A'.part (ad.add (i * 3)) 3 = some d := hp
      simp (disch := omega) only [↓stp, vls, inf, frs, mark_eq, ↓reduceIte, Nat.reduceEqDiff, ite_tt, ite_ff, eq_self, and_true, true_and, and_self, implies_true, Bool.true_eq_false, Bool.false_eq_true, decide_true, decide_false, decide_eq_true_eq, decide_eq_false_iff_not, ne_eq, not_true_eq_false, not_false_eq_true, Bool.not_eq_true', Bool.not_eq_false', beq_self_eq_true, Bool.not_true, Bool.not_false, List.getElem?_toArray, List.getElem?_cons_zero, List.getElem?_cons_succ, h0, h1, h5, hp]
      refine (szPast_c A' d xs[i] kk hd (by omega)).mono ?_
      rintro _ A1 ⟨⟨j, rfl, hj⟩, he1⟩
      simp (disch := omega) only [↓stp, vls, inf, frs, mark_eq, ↓reduceIte, Nat.reduceEqDiff, ite_tt, ite_ff, eq_self, and_true, true_and, and_self, implies_true, Bool.true_eq_false, Bool.false_eq_true, decide_true, decide_false, decide_eq_true_eq, decide_eq_false_iff_not, ne_eq, not_true_eq_false, not_false_eq_true, Bool.not_eq_true', Bool.not_eq_false', beq_self_eq_true, Bool.not_true, Bool.not_false, List.getElem?_toArray, List.getElem?_cons_zero, List.getElem?_cons_succ, h0, h1, h5]
      refine ⟨fun e1 => ?_, fun e1 => ?_⟩ <;> simp (disch := omega) only [↓stp, vls, inf, frs, mark_eq, ↓reduceIte, Nat.reduceEqDiff, ite_tt, ite_ff, eq_self, and_true, true_and, and_self, implies_true, Bool.true_eq_false, Bool.false_eq_true, decide_true, decide_false, decide_eq_true_eq, decide_eq_false_iff_not, ne_eq, not_true_eq_false, not_false_eq_true, Bool.not_eq_true', Bool.not_eq_false', beq_self_eq_true, Bool.not_true, Bool.not_false, List.getElem?_toArray, List.getElem?_cons_zero, List.getElem?_cons_succ, h0, h1, h5]
      · exact ⟨⟨_, rfl, .inl rfl⟩, he.trans he1⟩
      · have hj := hj.resolve_left (by omega)
        have hw := wL_take pastT xs hlt
        exact ⟨_, by omega, i + 1, _, by omega, rfl, he.trans he1, rfl, rfl, by omega, by omega⟩
    · simp (disch := omega) only [↓stp, vls, inf, frs, mark_eq, ↓reduceIte, Nat.reduceEqDiff, ite_tt, ite_ff, eq_self, and_true, true_and, and_self, implies_true, Bool.true_eq_false, Bool.false_eq_true, decide_true, decide_false, decide_eq_true_eq, decide_eq_false_iff_not, ne_eq, not_true_eq_false, not_false_eq_true, Bool.not_eq_true', Bool.not_eq_false', beq_self_eq_true, Bool.not_true, Bool.not_false, List.getElem?_toArray, List.getElem?_cons_zero, List.getElem?_cons_succ, h0, h1, h5]
      rw [List.take_of_length_le (by omega)] at hk2
      exact ⟨⟨_, rfl, .inr ⟨hk1, hk2⟩⟩, he⟩

theorem toPastS_c (A : View) (v : Value) (xs : List PastD) (h : Sl pastS A v xs) (hw : xs.length + wL pastT xs ≤ 1048576) : ACalls Try.prog 11 #[v] A fun r A' => ∃ fp, OSl 69 pastO A' fp r xs ∧ Ext A A' ∧ (∀ b, b ∈ fp → A b = none) ∧ fp.Nodup := by
  obtain ⟨a, c, rfl, hc, hl⟩ := h.slice
  refine acalls Try.func11 rfl (by kernel_rfl) ?_
  simp (disch := omega) only [↓stp, vls, inf, frs, mark_eq, ↓reduceIte, Nat.reduceEqDiff, ite_tt, ite_ff, eq_self, and_true, true_and, and_self, implies_true, Bool.true_eq_false, Bool.false_eq_true, decide_true, decide_false, decide_eq_true_eq, decide_eq_false_iff_not, ne_eq, not_true_eq_false, not_false_eq_true, Bool.not_eq_true', Bool.not_eq_false', beq_self_eq_true, Bool.not_true, Bool.not_false, List.getElem?_toArray, List.getElem?_cons_zero, List.getElem?_cons_succ]
  refine amake_at mk29 (by omega) (by omega) fun b hb => ?_
  simp (disch := omega) only [↓stp, vls, inf, frs, mark_eq, ↓reduceIte, Nat.reduceEqDiff, ite_tt, ite_ff, eq_self, and_true, true_and, and_self, implies_true, Bool.true_eq_false, Bool.false_eq_true, decide_true, decide_false, decide_eq_true_eq, decide_eq_false_iff_not, ne_eq, not_true_eq_false, not_false_eq_true, Bool.not_eq_true', Bool.not_eq_false', beq_self_eq_true, Bool.not_true, Bool.not_false, List.getElem?_toArray, List.getElem?_cons_zero, List.getElem?_cons_succ]
  refine aloop (fun d fr A' => ∃ (i : Nat) (fp : List Nat) (done : List Value), i ≤ xs.length ∧ d = xs.length - i ∧ A' b = some ⟨69, done ++ (List.replicate (xs.length - i) [.string ⟨#[]⟩, .bool false, .int .i64 0]).flatten, xs.length * 3, true⟩ ∧ OElems pastO A' fp (xs.take i) done ∧ Ext A A' ∧ (∀ x, x ∈ fp → A x = none ∧ x ≠ b) ∧ fp.Nodup ∧ fr 0 = .slice a xs.length c ∧ fr 3 = .slice (some ⟨b, 0, none⟩) xs.length xs.length ∧ fr 4 = .int .i64 i) xs.length ⟨0, [], [], by omega, by omega, by rw [View.set_same]; rfl, .nil, Ext.new hb _, by simp, List.nodup_nil, rfl, by rfl, by rfl⟩ ?_
  rintro d fr A' ⟨i, fp, done, hi, rfl, hA, hd, he, hfr, hnd, h0, h3, h4⟩
  simp (disch := omega) only [↓stp, vls, inf, frs, mark_eq, ↓reduceIte, Nat.reduceEqDiff, ite_tt, ite_ff, eq_self, and_true, true_and, and_self, implies_true, Bool.true_eq_false, Bool.false_eq_true, decide_true, decide_false, decide_eq_true_eq, decide_eq_false_iff_not, ne_eq, not_true_eq_false, not_false_eq_true, Bool.not_eq_true', Bool.not_eq_false', beq_self_eq_true, Bool.not_true, Bool.not_false, List.getElem?_toArray, List.getElem?_cons_zero, List.getElem?_cons_succ, h0, h3, h4]
  refine ⟨fun e => ?_, fun e => ?_⟩
  · have hlt : i < xs.length := by omega
    obtain ⟨ad, d, rfl, hdd, hp, _⟩ := (h.mono he).at hlt
    have hp : A'.part (ad.add (i * 3)) 3 = some d := hp
    simp (disch := omega) only [↓stp, vls, inf, frs, mark_eq, ↓reduceIte, Nat.reduceEqDiff, ite_tt, ite_ff, eq_self, and_true, true_and, and_self, implies_true, Bool.true_eq_false, Bool.false_eq_true, decide_true, decide_false, decide_eq_true_eq, decide_eq_false_iff_not, ne_eq, not_true_eq_false, not_false_eq_true, Bool.not_eq_true', Bool.not_eq_false', beq_self_eq_true, Bool.not_true, Bool.not_false, List.getElem?_toArray, List.getElem?_cons_zero, List.getElem?_cons_succ, h0, h3, h4, hp]
    refine (toPast_c A' d xs[i] hdd (by have := wL_mem pastT (List.getElem_mem hlt); omega)).mono ?_
    rintro _ A1 ⟨fq, d', rfl, hw', he1, hfq, hndq⟩
    have hdl : done.length = i * 3 := by
      have := hd.len
      rw [List.length_take, Nat.min_eq_left hi] at this
      exact this
    have hz : (List.replicate (xs.length - i) ([.string ⟨#[]⟩, .bool false, .int .i64 0] : List Value)).flatten = [.string ⟨#[]⟩, .bool false, .int .i64 0] ++ (List.replicate (xs.length - (i + 1)) [.string ⟨#[]⟩, .bool false, .int .i64 0]).flatten := by
      rw [show xs.length - i = (xs.length - (i + 1)) + 1 by omega, List.replicate_succ]; rfl
    have hA1 := he1 _ _ hA
    have hbq : b ∉ fq := fun hm => by rw [hfq _ hm] at hA; cases hA
    have hsz : d'.toArray.size = 3 := by rw [List.size_toArray]; exact pastS.len (pastO_S hw')
    have hone : (Value.agg d'.toArray).cells.toList.all (·.oneCell') = true := List.all_eq_true.2 (pastS.one (pastO_S hw'))
    have hst := storev_at (P := Try.prog) (v := .agg d'.toArray) sz69 (hA1.trans (by rw [hz])) hsz rfl hone (o := 0 + i * 3) (by omega)
    simp (disch := omega) only [↓stp, vls, inf, frs, mark_eq, ↓reduceIte, Nat.reduceEqDiff, ite_tt, ite_ff, eq_self, and_true, true_and, and_self, implies_true, Bool.true_eq_false, Bool.false_eq_true, decide_true, decide_false, decide_eq_true_eq, decide_eq_false_iff_not, ne_eq, not_true_eq_false, not_false_eq_true, Bool.not_eq_true', Bool.not_eq_false', beq_self_eq_true, Bool.not_true, Bool.not_false, List.getElem?_toArray, List.getElem?_cons_zero, List.getElem?_cons_succ, astore_at, h0, h3, h4, add_at, hst]
    have hqfp : ∀ x, x ∈ fp → x ∉ fq := fun x hx hm => by
      obtain ⟨k, hk⟩ := hd.has x hx
      rw [hfq x hm] at hk; cases hk
    refine ⟨_, by omega, i + 1, fp ++ fq, done ++ d', by omega, rfl, ?_, ?_, (he.trans he1).setOld hb _, ?_, ?_, rfl⟩
    · rw [View.set_same, List.append_assoc]; rfl
    · rw [List.take_succ_eq_append_getElem hlt]
      refine OElems.append (hd.stay fun x k hx hk => ?_) (OElems.single (pastO.stay hw' fun x k hx hk => ?_))
      · rw [View.set_ne _ _ (hfr x hx).2]
        exact he1 _ _ hk
      · rw [View.set_ne _ _ (fun e => hbq (by rw [← e]; exact hx))]
        exact hk
    · intro x hx
      rcases List.mem_append.1 hx with hx | hx
      · exact hfr x hx
      · exact ⟨he.none (hfq x hx), fun e => hbq (by rw [← e]; exact hx)⟩
    · exact List.nodup_append.2 ⟨hnd, hndq, fun x hx y hy e => hqfp x hx (by rw [e]; exact hy)⟩
  · simp (disch := omega) only [↓stp, vls, inf, frs, mark_eq, ↓reduceIte, Nat.reduceEqDiff, ite_tt, ite_ff, eq_self, and_true, true_and, and_self, implies_true, Bool.true_eq_false, Bool.false_eq_true, decide_true, decide_false, decide_eq_true_eq, decide_eq_false_iff_not, ne_eq, not_true_eq_false, not_false_eq_true, Bool.not_eq_true', Bool.not_eq_false', beq_self_eq_true, Bool.not_true, Bool.not_false, List.getElem?_toArray, List.getElem?_cons_zero, List.getElem?_cons_succ, h0, h3, h4]
    have hi' : i = xs.length := by omega
    subst hi'
    rw [List.take_length] at hd
    simp only [Nat.sub_self, List.replicate_zero, List.flatten_nil, List.append_nil] at hA
    refine ⟨b :: fp, ⟨by omega, .inr ⟨b, _, done, fp, rfl, Nat.le_refl _, rfl, hA, hd⟩⟩, he, ?_, List.nodup_cons.2 ⟨fun hm => (hfr b hm).2 rfl, hnd⟩⟩
    intro x hx
    rcases List.mem_cons.1 hx with rfl | hx
    · exact hb
    · exact (hfr x hx).1

theorem eqPastS_c (A : View) (v u : Value) (xs ys : List PastD) (h : Sl pastS A v xs) (h' : Sl pastS A u ys) : ACalls Try.prog 14 #[v, u] A fun r A' => r = .bool (decide (xs = ys)) ∧ Ext A A' := by
  obtain ⟨a, c, rfl, hc, hl⟩ := h.slice
  obtain ⟨a', c', rfl, hc', hl'⟩ := h'.slice
  refine acalls Try.func14 rfl (by kernel_rfl) ?_
  simp (disch := omega) only [↓stp, vls, inf, frs, mark_eq, ↓reduceIte, Nat.reduceEqDiff, ite_tt, ite_ff, eq_self, and_true, true_and, and_self, implies_true, Bool.true_eq_false, Bool.false_eq_true, decide_true, decide_false, decide_eq_true_eq, decide_eq_false_iff_not, ne_eq, not_true_eq_false, not_false_eq_true, Bool.not_eq_true', Bool.not_eq_false', beq_self_eq_true, Bool.not_true, Bool.not_false, List.getElem?_toArray, List.getElem?_cons_zero, List.getElem?_cons_succ]
  refine ⟨fun e => ?_, fun e => ?_⟩
  · simp (disch := omega) only [↓stp, vls, inf, frs, mark_eq, ↓reduceIte, Nat.reduceEqDiff, ite_tt, ite_ff, eq_self, and_true, true_and, and_self, implies_true, Bool.true_eq_false, Bool.false_eq_true, decide_true, decide_false, decide_eq_true_eq, decide_eq_false_iff_not, ne_eq, not_true_eq_false, not_false_eq_true, Bool.not_eq_true', Bool.not_eq_false', beq_self_eq_true, Bool.not_true, Bool.not_false, List.getElem?_toArray, List.getElem?_cons_zero, List.getElem?_cons_succ]
    have : xs ≠ ys := fun he => e (by rw [he])
    exact ⟨by simp [this], Ext.refl _⟩
  · have hlen : xs.length = ys.length := by omega
    simp (disch := omega) only [↓stp, vls, inf, frs, mark_eq, ↓reduceIte, Nat.reduceEqDiff, ite_tt, ite_ff, eq_self, and_true, true_and, and_self, implies_true, Bool.true_eq_false, Bool.false_eq_true, decide_true, decide_false, decide_eq_true_eq, decide_eq_false_iff_not, ne_eq, not_true_eq_false, not_false_eq_true, Bool.not_eq_true', Bool.not_eq_false', beq_self_eq_true, Bool.not_true, Bool.not_false, List.getElem?_toArray, List.getElem?_cons_zero, List.getElem?_cons_succ]
    refine aloop (fun d fr A' => ∃ i : Nat, i ≤ xs.length ∧ d = xs.length - i ∧ Ext A A' ∧ fr 0 = .slice a xs.length c ∧ fr 1 = .slice a' ys.length c' ∧ fr 5 = .int .i64 i ∧ xs.take i = ys.take i) xs.length ⟨0, by omega, by omega, Ext.refl _, rfl, by rfl, by rfl, by simp⟩ ?_
    rintro d fr A' ⟨i, hi, rfl, he, h0, h1, h5, hn⟩
    simp (disch := omega) only [↓stp, vls, inf, frs, mark_eq, ↓reduceIte, Nat.reduceEqDiff, ite_tt, ite_ff, eq_self, and_true, true_and, and_self, implies_true, Bool.true_eq_false, Bool.false_eq_true, decide_true, decide_false, decide_eq_true_eq, decide_eq_false_iff_not, ne_eq, not_true_eq_false, not_false_eq_true, Bool.not_eq_true', Bool.not_eq_false', beq_self_eq_true, Bool.not_true, Bool.not_false, List.getElem?_toArray, List.getElem?_cons_zero, List.getElem?_cons_succ, h0, h1, h5]
    refine ⟨fun e => ?_, fun e => ?_⟩
    · obtain ⟨ad, d, rfl, hd, hp, _⟩ := (h.mono he).at (i := i) (by omega)
      obtain ⟨ad', d', rfl, hd', hp', _⟩ := (h'.mono he).at (i := i) (by omega)
      have hp : A'.part (ad.add (i * 3)) 3 = some d := hp
      have hp' : A'.part (ad'.add (i * 3)) 3 = some d' := hp'
      simp (disch := omega) only [↓stp, vls, inf, frs, mark_eq, ↓reduceIte, Nat.reduceEqDiff, ite_tt, ite_ff, eq_self, and_true, true_and, and_self, implies_true, Bool.true_eq_false, Bool.false_eq_true, decide_true, decide_false, decide_eq_true_eq, decide_eq_false_iff_not, ne_eq, not_true_eq_false, not_false_eq_true, Bool.not_eq_true', Bool.not_eq_false', beq_self_eq_true, Bool.not_true, Bool.not_false, List.getElem?_toArray, List.getElem?_cons_zero, List.getElem?_cons_succ, h0, h1, h5]
      refine adraw_items [.q 0, .q 1, .q 2, .l 3 false, .q 4, .q 5, .q 6, .l 7 false, .c 8 [], .q 9] (by kernel_rfl) (by kernel_rfl) ?_
      simp (disch := omega) only [↓stp, ↓pln, plv, nilOk, Nat.reduceBEq, Bool.or_false, Bool.or_true, Bool.false_or, Bool.true_or, vls, inf, frs, mark_eq, ↓reduceIte, Nat.reduceEqDiff, ite_tt, ite_ff, eq_self, and_true, true_and, and_self, implies_true, Bool.true_eq_false, Bool.false_eq_true, decide_true, decide_false, decide_eq_true_eq, decide_eq_false_iff_not, ne_eq, not_true_eq_false, not_false_eq_true, Bool.not_eq_true', Bool.not_eq_false', beq_self_eq_true, Bool.not_true, Bool.not_false, List.getElem?_toArray, List.getElem?_cons_zero, List.getElem?_cons_succ, h0, h1, h5, hp, hp']
      refine (eqPast_c A' d d' xs[i] ys[i] hd hd').mono ?_
      rintro _ A1 ⟨rfl, he1⟩
      simp (disch := omega) only [↓stp, ↓pln, plv, nilOk, Nat.reduceBEq, Bool.or_false, Bool.or_true, Bool.false_or, Bool.true_or, vls, inf, frs, mark_eq, ↓reduceIte, Nat.reduceEqDiff, ite_tt, ite_ff, eq_self, and_true, true_and, and_self, implies_true, Bool.true_eq_false, Bool.false_eq_true, decide_true, decide_false, decide_eq_true_eq, decide_eq_false_iff_not, ne_eq, not_true_eq_false, not_false_eq_true, Bool.not_eq_true', Bool.not_eq_false', beq_self_eq_true, Bool.not_true, Bool.not_false, List.getElem?_toArray, List.getElem?_cons_zero, List.getElem?_cons_succ, h0, h1, h5]
      refine ⟨fun e1 => ?_, fun e1 => ?_⟩ <;> simp (disch := omega) only [↓stp, vls, inf, frs, mark_eq, ↓reduceIte, Nat.reduceEqDiff, ite_tt, ite_ff, eq_self, and_true, true_and, and_self, implies_true, Bool.true_eq_false, Bool.false_eq_true, decide_true, decide_false, decide_eq_true_eq, decide_eq_false_iff_not, ne_eq, not_true_eq_false, not_false_eq_true, Bool.not_eq_true', Bool.not_eq_false', beq_self_eq_true, Bool.not_true, Bool.not_false, List.getElem?_toArray, List.getElem?_cons_zero, List.getElem?_cons_succ, h0, h1, h5]
      · have : xs ≠ ys := fun he => e1 (by simp only [he])
        exact ⟨by simp [this], he.trans he1⟩
      · refine ⟨_, by omega, i + 1, by omega, rfl, he.trans he1, rfl, ?_⟩
        rw [List.take_succ_eq_append_getElem (by omega), List.take_succ_eq_append_getElem (by omega), hn]
        have : xs[i] = ys[i] := by simpa using e1
        rw [this]
    · rw [List.take_of_length_le (by omega), List.take_of_length_le (by omega)] at hn
      simp (disch := omega) only [↓stp, vls, inf, frs, mark_eq, ↓reduceIte, Nat.reduceEqDiff, ite_tt, ite_ff, eq_self, and_true, true_and, and_self, implies_true, Bool.true_eq_false, Bool.false_eq_true, decide_true, decide_false, decide_eq_true_eq, decide_eq_false_iff_not, ne_eq, not_true_eq_false, not_false_eq_true, Bool.not_eq_true', Bool.not_eq_false', beq_self_eq_true, Bool.not_true, Bool.not_false, List.getElem?_toArray, List.getElem?_cons_zero, List.getElem?_cons_succ, h0, h1, h5, hn]
      exact he

theorem markPastS_c (A : View) (fp : List Nat) (v : Value) (xs : List PastD) (k : Nat) (h : OSl 69 pastO A fp v xs) (hnd : fp.Nodup) (hk0 : 0 < k) (hk : k + cntL pastT xs ≤ 68719476736) :
    ACalls Try.prog 16 #[v, .int .i64 k] A fun r A' => r = .int .i64 ((k + cntL pastT xs : Nat) : Int) ∧ OSl 69 pastO A' fp v (mkL pastT k xs) ∧ Only fp A A' := by
  obtain ⟨hl, ⟨rfl, rfl, rfl⟩ | ⟨b, c, cells, f, rfl, hc, rfl, hbk, he⟩⟩ := h
  · refine acalls Try.func16 rfl (by kernel_rfl) ?_
    simp (disch := omega) only [↓stp, vls, inf, frs, mark_eq, ↓reduceIte, Nat.reduceEqDiff, ite_tt, ite_ff, eq_self, and_true, true_and, and_self, implies_true, Bool.true_eq_false, Bool.false_eq_true, decide_true, decide_false, decide_eq_true_eq, decide_eq_false_iff_not, ne_eq, not_true_eq_false, not_false_eq_true, Bool.not_eq_true', Bool.not_eq_false', beq_self_eq_true, Bool.not_true, Bool.not_false, List.getElem?_toArray, List.getElem?_cons_zero, List.getElem?_cons_succ]
    refine aloop (fun d fr A' => A' = A ∧ fr 0 = .slice none 0 0 ∧ fr 1 = .int .i64 k ∧ fr 5 = .int .i64 0) 0 ⟨rfl, by rfl, by rfl, by rfl⟩ ?_
    rintro d fr A ⟨rfl, z0, z1, z5⟩
    simp (disch := omega) only [↓stp, vls, inf, frs, mark_eq, ↓reduceIte, Nat.reduceEqDiff, ite_tt, ite_ff, eq_self, and_true, true_and, and_self, implies_true, Bool.true_eq_false, Bool.false_eq_true, decide_true, decide_false, decide_eq_true_eq, decide_eq_false_iff_not, ne_eq, not_true_eq_false, not_false_eq_true, Bool.not_eq_true', Bool.not_eq_false', beq_self_eq_true, Bool.not_true, Bool.not_false, List.getElem?_toArray, List.getElem?_cons_zero, List.getElem?_cons_succ, z0, z1, z5]
    refine ⟨fun e => by omega, fun e => ?_⟩
    simp (disch := omega) only [↓stp, vls, inf, frs, mark_eq, ↓reduceIte, Nat.reduceEqDiff, ite_tt, ite_ff, eq_self, and_true, true_and, and_self, implies_true, Bool.true_eq_false, Bool.false_eq_true, decide_true, decide_false, decide_eq_true_eq, decide_eq_false_iff_not, ne_eq, not_true_eq_false, not_false_eq_true, Bool.not_eq_true', Bool.not_eq_false', beq_self_eq_true, Bool.not_true, Bool.not_false, List.getElem?_toArray, List.getElem?_cons_zero, List.getElem?_cons_succ, z0, z1, z5]
    exact ⟨by simp [cntL], ⟨by simp [mkL], .inl ⟨rfl, rfl, rfl⟩⟩, Only.refl _ _⟩
  · have hcl := he.len
    refine acalls Try.func16 rfl (by kernel_rfl) ?_
    simp (disch := omega) only [↓stp, vls, inf, frs, mark_eq, ↓reduceIte, Nat.reduceEqDiff, ite_tt, ite_ff, eq_self, and_true, true_and, and_self, implies_true, Bool.true_eq_false, Bool.false_eq_true, decide_true, decide_false, decide_eq_true_eq, decide_eq_false_iff_not, ne_eq, not_true_eq_false, not_false_eq_true, Bool.not_eq_true', Bool.not_eq_false', beq_self_eq_true, Bool.not_true, Bool.not_false, List.getElem?_toArray, List.getElem?_cons_zero, List.getElem?_cons_succ]
    refine aloop (fun d fr A' => ∃ (i : Nat) (c1 c2 : List Value) (g1 g2 : List Nat), i ≤ xs.length ∧ d = xs.length - i ∧ c1.length = i * 3 ∧ Led (fun _ => none) [bx b ⟨69, c1 ++ c2, c * 3, true⟩, oel pastO g1 (mkL pastT k (xs.take i)) c1, oel pastO g2 (xs.drop i) c2] A' ∧ f = g1 ++ g2 ∧ Only (b :: f) A A' ∧ fr 0 = .slice (some ⟨b, 0, none⟩) xs.length c ∧ fr 1 = .int .i64 ((k + cntL pastT (xs.take i) : Nat) : Int) ∧ fr 5 = .int .i64 i) xs.length ⟨0, [], cells, [], f, by omega, by omega, rfl, led0 (by
      intro it hit
      simp only [List.mem_cons, List.not_mem_nil, or_false] at hit
      rcases hit with rfl | rfl | rfl
      · exact hbk
      · exact .nil
      · exact he) (by simpa [fps, bx, oel] using hnd), rfl, Only.refl _ _, rfl, by rfl, by rfl⟩ ?_
    rintro d fr A' ⟨i, c1, c2, g1, g2, hi, rfl, hc1, l, rfl, ho, z0, z1, z5⟩
    simp (disch := omega) only [↓stp, vls, inf, frs, mark_eq, ↓reduceIte, Nat.reduceEqDiff, ite_tt, ite_ff, eq_self, and_true, true_and, and_self, implies_true, Bool.true_eq_false, Bool.false_eq_true, decide_true, decide_false, decide_eq_true_eq, decide_eq_false_iff_not, ne_eq, not_true_eq_false, not_false_eq_true, Bool.not_eq_true', Bool.not_eq_false', beq_self_eq_true, Bool.not_true, Bool.not_false, List.getElem?_toArray, List.getElem?_cons_zero, List.getElem?_cons_succ, z0, z1, z5]
    refine ⟨fun e => ?_, fun e => ?_⟩
    · have hlt : i < xs.length := by omega
      have hsum := cntL_split pastT xs hlt
      have hcx := pastT_cnt xs[i]
      have hct := cntL_take pastT xs hlt
      have hmt := mkL_take pastT k xs hlt
      have hrest : OElems pastO A' g2 (xs.drop i) c2 := l.at (i := 2) rfl
      rw [List.drop_eq_getElem_cons hlt] at hrest
      obtain ⟨ge, g3, d, c3, rfl, rfl, hx, hr3⟩ := hrest.uncons
      obtain ⟨rfl, rfl, hh0, hh2⟩ := pastO_open hx
      replace l : Led (fun _ => none) [bx b ⟨69, c1 ++ ([.string (xs[i]).1, .bool (xs[i]).2.1, .int .i64 (xs[i]).2.2.1] ++ c3), c * 3, true⟩, oel pastO g1 (mkL pastT k (xs.take i)) c1, oel pastO g3 (xs.drop (i + 1)) c3] A' := led0 (by
        intro it hit
        simp only [List.mem_cons, List.not_mem_nil, or_false] at hit
        rcases hit with rfl | rfl | rfl
        · exact l.at (i := 0) rfl
        · exact l.at (i := 1) rfl
        · exact hr3) (by simpa [fps, bx, oel, osl, List.append_assoc] using l.nd)
      simp (disch := omega) only [↓stp, vls, inf, frs, mark_eq, ↓reduceIte, Nat.reduceEqDiff, ite_tt, ite_ff, eq_self, and_true, true_and, and_self, implies_true, Bool.true_eq_false, Bool.false_eq_true, decide_true, decide_false, decide_eq_true_eq, decide_eq_false_iff_not, ne_eq, not_true_eq_false, not_false_eq_true, Bool.not_eq_true', Bool.not_eq_false', beq_self_eq_true, Bool.not_true, Bool.not_false, List.getElem?_toArray, List.getElem?_cons_zero, List.getElem?_cons_succ, z0, z1, z5]
      refine (markText_c _ (k + cntL pastT (xs.take i)) (by omega) (by omega)).mono ?_
      rintro _ A1 ⟨rfl, hms0, he1⟩
      replace l := l.step he1
      replace ho := ho.trans (Only.ext he1 _)
      simp (disch := omega) only [↓stp, vls, inf, frs, mark_eq, ↓reduceIte, Nat.reduceEqDiff, ite_tt, ite_ff, eq_self, and_true, true_and, and_self, implies_true, Bool.true_eq_false, Bool.false_eq_true, decide_true, decide_false, decide_eq_true_eq, decide_eq_false_iff_not, ne_eq, not_true_eq_false, not_false_eq_true, Bool.not_eq_true', Bool.not_eq_false', beq_self_eq_true, Bool.not_true, Bool.not_false, List.getElem?_toArray, List.getElem?_cons_zero, List.getElem?_cons_succ, z0, z1, z5, add_at]
      refine led_mid (c1 := c1) l 0 rfl sz9 (j := 0) (d' := [.string (mtext (k + cntL pastT (xs.take i))), .bool (xs[i]).2.1, .int .i64 (xs[i]).2.2.1]) (by omega) (by exact ⟨rfl, rfl⟩) (by exact ⟨by simp, rfl⟩) fun A1 ho1 l => ?_
      replace ho := ho.trans (ho1.more fun x hx => by rw [List.mem_singleton.1 hx]; exact List.mem_cons_self ..)
      simp (disch := omega) only [↓stp, vls, inf, frs, mark_eq, ↓reduceIte, Nat.reduceEqDiff, ite_tt, ite_ff, eq_self, and_true, true_and, and_self, implies_true, Bool.true_eq_false, Bool.false_eq_true, decide_true, decide_false, decide_eq_true_eq, decide_eq_false_iff_not, ne_eq, not_true_eq_false, not_false_eq_true, Bool.not_eq_true', Bool.not_eq_false', beq_self_eq_true, Bool.not_true, Bool.not_false, List.getElem?_toArray, List.getElem?_cons_zero, List.getElem?_cons_succ, z0, z1, z5]
      have hm1 := tmod_mk (m := (((k + cntL pastT (xs.take i) : Nat) : Int) + 1)) (n := (k + cntL pastT (xs.take i) + 1)) rfl
      simp (disch := omega) only [↓stp, vls, inf, frs, mark_eq, ↓reduceIte, Nat.reduceEqDiff, ite_tt, ite_ff, eq_self, and_true, true_and, and_self, implies_true, Bool.true_eq_false, Bool.false_eq_true, decide_true, decide_false, decide_eq_true_eq, decide_eq_false_iff_not, ne_eq, not_true_eq_false, not_false_eq_true, Bool.not_eq_true', Bool.not_eq_false', beq_self_eq_true, Bool.not_true, Bool.not_false, List.getElem?_toArray, List.getElem?_cons_zero, List.getElem?_cons_succ, z0, z1, z5, add_at, abin_rem, hm1]
      refine led_mid (c1 := c1) l 0 rfl sz4 (j := 1) (d' := [.string (mtext (k + cntL pastT (xs.take i))), .bool (mkBool (k + cntL pastT (xs.take i) + 1)), .int .i64 (xs[i]).2.2.1]) (by omega) (by exact ⟨rfl, rfl⟩) (by exact ⟨by simp, rfl⟩) fun A1 ho1 l => ?_
      replace ho := ho.trans (ho1.more fun x hx => by rw [List.mem_singleton.1 hx]; exact List.mem_cons_self ..)
      simp (disch := omega) only [↓stp, vls, inf, frs, mark_eq, ↓reduceIte, Nat.reduceEqDiff, ite_tt, ite_ff, eq_self, and_true, true_and, and_self, implies_true, Bool.true_eq_false, Bool.false_eq_true, decide_true, decide_false, decide_eq_true_eq, decide_eq_false_iff_not, ne_eq, not_true_eq_false, not_false_eq_true, Bool.not_eq_true', Bool.not_eq_false', beq_self_eq_true, Bool.not_true, Bool.not_false, List.getElem?_toArray, List.getElem?_cons_zero, List.getElem?_cons_succ, z0, z1, z5]
      simp (disch := omega) only [↓stp, vls, inf, frs, mark_eq, ↓reduceIte, Nat.reduceEqDiff, ite_tt, ite_ff, eq_self, and_true, true_and, and_self, implies_true, Bool.true_eq_false, Bool.false_eq_true, decide_true, decide_false, decide_eq_true_eq, decide_eq_false_iff_not, ne_eq, not_true_eq_false, not_false_eq_true, Bool.not_eq_true', Bool.not_eq_false', beq_self_eq_true, Bool.not_true, Bool.not_false, List.getElem?_toArray, List.getElem?_cons_zero, List.getElem?_cons_succ, z0, z1, z5, add_at]
      refine led_mid (c1 := c1) l 0 rfl sz3 (j := 2) (d' := [.string (mtext (k + cntL pastT (xs.take i))), .bool (mkBool (k + cntL pastT (xs.take i) + 1)), .int .i64 ((((k + cntL pastT (xs.take i) : Nat) : Int) + 1) + 1)]) (by omega) (by exact ⟨rfl, rfl⟩) (by exact ⟨by simp, rfl⟩) fun A1 ho1 l => ?_
      replace ho := ho.trans (ho1.more fun x hx => by rw [List.mem_singleton.1 hx]; exact List.mem_cons_self ..)
      simp (disch := omega) only [↓stp, vls, inf, frs, mark_eq, ↓reduceIte, Nat.reduceEqDiff, ite_tt, ite_ff, eq_self, and_true, true_and, and_self, implies_true, Bool.true_eq_false, Bool.false_eq_true, decide_true, decide_false, decide_eq_true_eq, decide_eq_false_iff_not, ne_eq, not_true_eq_false, not_false_eq_true, Bool.not_eq_true', Bool.not_eq_false', beq_self_eq_true, Bool.not_true, Bool.not_false, List.getElem?_toArray, List.getElem?_cons_zero, List.getElem?_cons_succ, z0, z1, z5]
      have hdone : pastO.rel A1 ([]) (pastT.mk (k + cntL pastT (xs.take i)) xs[i]) [.string (mtext (k + cntL pastT (xs.take i))), .bool (mkBool (k + cntL pastT (xs.take i) + 1)), .int .i64 ((((k + cntL pastT (xs.take i) : Nat) : Int) + 1) + 1)] := pastO_mk (by have := hms0; exact Nat.le_trans this (by decide)) ⟨by show (-9223372036854775808 : Int) ≤ (((k + cntL pastT (xs.take i) + 1 + 1) : Nat) : Int); omega, by show (((k + cntL pastT (xs.take i) + 1 + 1) : Nat) : Int) < 9223372036854775808; omega⟩
      refine ⟨_, by omega, i + 1, c1 ++ [.string (mtext (k + cntL pastT (xs.take i))), .bool (mkBool (k + cntL pastT (xs.take i) + 1)), .int .i64 ((((k + cntL pastT (xs.take i) : Nat) : Int) + 1) + 1)], c3, g1 ++ [], g3, by omega, rfl, by simp; omega, led0 (by
        intro it hit
        simp only [List.mem_cons, List.not_mem_nil, or_false] at hit
        rcases hit with rfl | rfl | rfl
        · rw [List.append_assoc]; exact l.at (i := 0) rfl
        · rw [hmt]; exact OElems.append (l.at (i := 1) rfl) (OElems.single hdone)
        · exact l.at (i := 2) rfl) (by simpa [fps, bx, oel, osl, List.append_assoc] using l.nd), by simp [List.append_assoc], ho, ?_, rfl⟩
      rw [hct, hcx]
      all_goals (first | omega | (congr 1 <;> omega))
    · simp (disch := omega) only [↓stp, vls, inf, frs, mark_eq, ↓reduceIte, Nat.reduceEqDiff, ite_tt, ite_ff, eq_self, and_true, true_and, and_self, implies_true, Bool.true_eq_false, Bool.false_eq_true, decide_true, decide_false, decide_eq_true_eq, decide_eq_false_iff_not, ne_eq, not_true_eq_false, not_false_eq_true, Bool.not_eq_true', Bool.not_eq_false', beq_self_eq_true, Bool.not_true, Bool.not_false, List.getElem?_toArray, List.getElem?_cons_zero, List.getElem?_cons_succ, z0, z1, z5]
      have hi' : i = xs.length := by omega
      subst hi'
      rw [List.take_length] at l ⊢
      have hnil : OElems pastO A' g2 (xs.drop xs.length) c2 := l.at (i := 2) rfl
      rw [List.drop_length] at hnil
      obtain ⟨rfl, rfl⟩ := hnil.nil_inv
      have hb : A' b = some ⟨69, c1 ++ [], c * 3, true⟩ := l.at (i := 0) rfl
      rw [List.append_nil] at hb
      have hml := mkL_len pastT k xs
      refine ⟨rfl, ⟨by omega, .inr ⟨b, c, c1, g1, by rw [hml], by omega, by simp, hb, l.at (i := 1) rfl⟩⟩, ho⟩

theorem heldPastS_c (A : View) (v : Value) (xs : List PastD) (k : Nat) (h : Sl pastS A v (mkL pastT k xs)) (hk0 : 0 < k) (hk : k + cntL pastT xs ≤ 68719476736) :
    ACalls Try.prog 18 #[v, .int .i64 k] A fun r A' => r = .int .i64 ((k + cntL pastT xs : Nat) : Int) ∧ Ext A A' := by
  obtain ⟨a, c, rfl, hc, hl⟩ := h.slice
  have hml := mkL_len pastT k xs
  rw [hml] at h hc hl
  simp only [hml]
  refine acalls Try.func18 rfl (by kernel_rfl) ?_
  simp (disch := omega) only [↓stp, vls, inf, frs, mark_eq, ↓reduceIte, Nat.reduceEqDiff, ite_tt, ite_ff, eq_self, and_true, true_and, and_self, implies_true, Bool.true_eq_false, Bool.false_eq_true, decide_true, decide_false, decide_eq_true_eq, decide_eq_false_iff_not, ne_eq, not_true_eq_false, not_false_eq_true, Bool.not_eq_true', Bool.not_eq_false', beq_self_eq_true, Bool.not_true, Bool.not_false, List.getElem?_toArray, List.getElem?_cons_zero, List.getElem?_cons_succ]
  refine aloop (fun d fr A' => ∃ i : Nat, i ≤ xs.length ∧ d = xs.length - i ∧ Ext A A' ∧ fr 0 = .slice a xs.length c ∧ fr 1 = .int .i64 ((k + cntL pastT (xs.take i) : Nat) : Int) ∧ fr 5 = .int .i64 i) xs.length ⟨0, by omega, by omega, Ext.refl _, by rfl, by rfl, by rfl⟩ ?_
  rintro d fr A' ⟨i, hi, rfl, he, z0, z1, z5⟩
  simp (disch := omega) only [↓stp, vls, inf, frs, mark_eq, ↓reduceIte, Nat.reduceEqDiff, ite_tt, ite_ff, eq_self, and_true, true_and, and_self, implies_true, Bool.true_eq_false, Bool.false_eq_true, decide_true, decide_false, decide_eq_true_eq, decide_eq_false_iff_not, ne_eq, not_true_eq_false, not_false_eq_true, Bool.not_eq_true', Bool.not_eq_false', beq_self_eq_true, Bool.not_true, Bool.not_false, List.getElem?_toArray, List.getElem?_cons_zero, List.getElem?_cons_succ, z0, z1, z5]
  refine ⟨fun e => ?_, fun e => ?_⟩
  · have hlt : i < xs.length := by omega
    have hsum := cntL_split pastT xs hlt
    have hcx := pastT_cnt xs[i]
    have hct := cntL_take pastT xs hlt
    obtain ⟨ad, d, rfl, hd, hp, _⟩ := (h.mono he).at (i := i) (by omega)
    rw [mkL_get pastT k xs i hlt] at hd
    obtain ⟨rfl, hh0, hh2⟩ := pastS_open hd
    have q0 : A'.cell ((ad.add (i * 3)).add 0) = some (.string (mtext (k + cntL pastT (xs.take i)))) := View.part_cell hp (j := 0) rfl
    have q1 : A'.cell ((ad.add (i * 3)).add 1) = some (.bool (mkBool (k + cntL pastT (xs.take i) + 1))) := View.part_cell hp (j := 1) rfl
    have q2 : A'.cell ((ad.add (i * 3)).add 2) = some (.int .i64 ((((k + cntL pastT (xs.take i) : Nat) : Int) + 1) + 1)) := View.part_cell hp (j := 2) rfl
    try simp (disch := omega) only [↓stp, vls, inf, frs, mark_eq, ↓reduceIte, Nat.reduceEqDiff, ite_tt, ite_ff, eq_self, and_true, true_and, and_self, implies_true, Bool.true_eq_false, Bool.false_eq_true, decide_true, decide_false, decide_eq_true_eq, decide_eq_false_iff_not, ne_eq, not_true_eq_false, not_false_eq_true, Bool.not_eq_true', Bool.not_eq_false', beq_self_eq_true, Bool.not_true, Bool.not_false, List.getElem?_toArray, List.getElem?_cons_zero, List.getElem?_cons_succ, z0, z1, z5, q0, q1, q2]
    refine adraw_items [.q 0, .q 1, .q 2, .q 3, .l 4 true, .q 5, .c 6 [4], .q 7] (by kernel_rfl) (by kernel_rfl) ?_
    simp (disch := omega) only [↓stp, ↓pln, plv, nilOk, Nat.reduceBEq, Bool.or_false, Bool.or_true, Bool.false_or, Bool.true_or, vls, inf, frs, mark_eq, ↓reduceIte, Nat.reduceEqDiff, ite_tt, ite_ff, eq_self, and_true, true_and, and_self, implies_true, Bool.true_eq_false, Bool.false_eq_true, decide_true, decide_false, decide_eq_true_eq, decide_eq_false_iff_not, ne_eq, not_true_eq_false, not_false_eq_true, Bool.not_eq_true', Bool.not_eq_false', beq_self_eq_true, Bool.not_true, Bool.not_false, List.getElem?_toArray, List.getElem?_cons_zero, List.getElem?_cons_succ, z0, z1, z5, q0, q1, q2]
    refine (markText_c A' (k + cntL pastT (xs.take i)) (by omega) (by omega)).mono ?_
    rintro _ A' ⟨rfl, hms0, he1⟩
    replace q0 := he1.cell q0
    replace q1 := he1.cell q1
    replace q2 := he1.cell q2
    replace he := he.trans he1
    simp (disch := omega) only [↓stp, ↓pln, plv, nilOk, Nat.reduceBEq, Bool.or_false, Bool.or_true, Bool.false_or, Bool.true_or, vls, inf, frs, mark_eq, ↓reduceIte, Nat.reduceEqDiff, ite_tt, ite_ff, eq_self, and_true, true_and, and_self, implies_true, Bool.true_eq_false, Bool.false_eq_true, decide_true, decide_false, decide_eq_true_eq, decide_eq_false_iff_not, ne_eq, not_true_eq_false, not_false_eq_true, Bool.not_eq_true', Bool.not_eq_false', beq_self_eq_true, Bool.not_true, Bool.not_false, List.getElem?_toArray, List.getElem?_cons_zero, List.getElem?_cons_succ, z0, z1, z5, q0, q1, q2]
    have hm1 := tmod_mk (m := (((k + cntL pastT (xs.take i) : Nat) : Int) + 1)) (n := (k + cntL pastT (xs.take i) + 1)) rfl
    try simp (disch := omega) only [↓stp, vls, inf, frs, mark_eq, ↓reduceIte, Nat.reduceEqDiff, ite_tt, ite_ff, eq_self, and_true, true_and, and_self, implies_true, Bool.true_eq_false, Bool.false_eq_true, decide_true, decide_false, decide_eq_true_eq, decide_eq_false_iff_not, ne_eq, not_true_eq_false, not_false_eq_true, Bool.not_eq_true', Bool.not_eq_false', beq_self_eq_true, Bool.not_true, Bool.not_false, List.getElem?_toArray, List.getElem?_cons_zero, List.getElem?_cons_succ, z0, z1, z5, q0, q1, q2, abin_rem, hm1, beq_self_eq_true, Bool.not_true]
    try simp (disch := omega) only [↓stp, vls, inf, frs, mark_eq, ↓reduceIte, Nat.reduceEqDiff, ite_tt, ite_ff, eq_self, and_true, true_and, and_self, implies_true, Bool.true_eq_false, Bool.false_eq_true, decide_true, decide_false, decide_eq_true_eq, decide_eq_false_iff_not, ne_eq, not_true_eq_false, not_false_eq_true, Bool.not_eq_true', Bool.not_eq_false', beq_self_eq_true, Bool.not_true, Bool.not_false, List.getElem?_toArray, List.getElem?_cons_zero, List.getElem?_cons_succ, z0, z1, z5, q0, q1, q2]
    try simp (disch := omega) only [↓stp, vls, inf, frs, mark_eq, ↓reduceIte, Nat.reduceEqDiff, ite_tt, ite_ff, eq_self, and_true, true_and, and_self, implies_true, Bool.true_eq_false, Bool.false_eq_true, decide_true, decide_false, decide_eq_true_eq, decide_eq_false_iff_not, ne_eq, not_true_eq_false, not_false_eq_true, Bool.not_eq_true', Bool.not_eq_false', beq_self_eq_true, Bool.not_true, Bool.not_false, List.getElem?_toArray, List.getElem?_cons_zero, List.getElem?_cons_succ, z0, z1, z5]
    refine ⟨_, by omega, i + 1, by omega, rfl, he, ?_, rfl⟩
    rw [hct, hcx]
    all_goals (first | omega | (congr 1 <;> omega))
  · simp (disch := omega) only [↓stp, vls, inf, frs, mark_eq, ↓reduceIte, Nat.reduceEqDiff, ite_tt, ite_ff, eq_self, and_true, true_and, and_self, implies_true, Bool.true_eq_false, Bool.false_eq_true, decide_true, decide_false, decide_eq_true_eq, decide_eq_false_iff_not, ne_eq, not_true_eq_false, not_false_eq_true, Bool.not_eq_true', Bool.not_eq_false', beq_self_eq_true, Bool.not_true, Bool.not_false, List.getElem?_toArray, List.getElem?_cons_zero, List.getElem?_cons_succ, z0, z1, z5]
    have hi' : i = xs.length := by omega
    subst hi'
    rw [List.take_length]
    exact ⟨rfl, he⟩

end Go.Proofs.Ythimfjonfaomgaa

