/- The helpers of the laws for Problem: counted, copied, compared, marked. -/
import Derived.Test.YtfhodofbccljmaaE2
set_option maxHeartbeats 4000000
set_option synthInstance.maxHeartbeats 400000
set_option synthInstance.maxSize 4096
set_option linter.unusedSimpArgs false
set_option linter.unusedVariables false
namespace Go.Proofs.Ytfhodofbccljmaa

set_option maxRecDepth 100000

abbrev ProblemD := Int × ByteArray × ByteArray × Unit

def problemS : Shape ProblemD := consS intS (consS strS (consS strS unitS))

def problemO : OwnS ProblemD := consO intO (consO strO (consO strO unitO))

def problemT : GT ProblemD := consT intT (consT strT (consT strT unitT))

theorem problemS_open {A : View} {x : ProblemD} {d : List Value} (h : problemS.rel A x d) : d = [.int .i64 x.1, .string x.2.1, .string x.2.2.1] ∧ (-9223372036854775808 ≤ x.1 ∧ x.1 < 9223372036854775808) ∧ x.2.1.size ≤ 140737488355328 ∧ x.2.2.1.size ≤ 140737488355328 := by
  obtain ⟨_, _, rfl, ⟨rfl, hh0⟩, ⟨_, _, rfl, ⟨rfl, hh1⟩, ⟨_, _, rfl, ⟨rfl, hh2⟩, rfl⟩⟩⟩ := h
  exact ⟨rfl, hh0, hh1, hh2⟩

theorem problemS_mk {A : View} {x : ProblemD} (hh0 : (-9223372036854775808 ≤ x.1 ∧ x.1 < 9223372036854775808)) (hh1 : x.2.1.size ≤ 140737488355328) (hh2 : x.2.2.1.size ≤ 140737488355328) : problemS.rel A x [.int .i64 x.1, .string x.2.1, .string x.2.2.1] := ⟨_, _, rfl, ⟨rfl, hh0⟩, ⟨_, _, rfl, ⟨rfl, hh1⟩, ⟨_, _, rfl, ⟨rfl, hh2⟩, rfl⟩⟩⟩

theorem problemO_open {A : View} {fp : List Nat} {x : ProblemD} {d : List Value} (h : problemO.rel A fp x d) : [] = fp ∧ d = [.int .i64 x.1, .string x.2.1, .string x.2.2.1] ∧ (-9223372036854775808 ≤ x.1 ∧ x.1 < 9223372036854775808) ∧ x.2.1.size ≤ 140737488355328 ∧ x.2.2.1.size ≤ 140737488355328 := by
  obtain ⟨_, _, _, _, rfl, rfl, ⟨rfl, rfl, hh0⟩, ⟨_, _, _, _, rfl, rfl, ⟨rfl, rfl, hh1⟩, ⟨_, _, _, _, rfl, rfl, ⟨rfl, rfl, hh2⟩, ⟨rfl, rfl⟩⟩⟩⟩ := h
  exact ⟨by simp, rfl, hh0, hh1, hh2⟩

theorem problemO_mk {A : View} {x : ProblemD} (hh0 : (-9223372036854775808 ≤ x.1 ∧ x.1 < 9223372036854775808)) (hh1 : x.2.1.size ≤ 140737488355328) (hh2 : x.2.2.1.size ≤ 140737488355328) : problemO.rel A ([]) x [.int .i64 x.1, .string x.2.1, .string x.2.2.1] := ⟨[], [], [.int .i64 x.1], _, by simp, rfl, ⟨rfl, rfl, hh0⟩, ⟨[], [], [.string x.2.1], _, by simp, rfl, ⟨rfl, rfl, hh1⟩, ⟨[], [], [.string x.2.2.1], _, by simp, rfl, ⟨rfl, rfl, hh2⟩, ⟨rfl, rfl⟩⟩⟩⟩

theorem problemO_S {A : View} {fp : List Nat} {x : ProblemD} {d : List Value} (h : problemO.rel A fp x d) : problemS.rel A x d := problemO.toS h

theorem problemT_w (x : ProblemD) : problemT.w x = 0 + (x.2.1.size + (x.2.2.1.size + 0)) := rfl

theorem problemT_cnt (x : ProblemD) : problemT.cnt x = 1 + (1 + (1 + 0)) := rfl

theorem problemT_le (x : ProblemD) : problemT.cnt x ≤ 4 + 4 * problemT.w x := by
  rw [problemT_cnt, problemT_w]
  omega

theorem problemL_le : ∀ (xs : List ProblemD), cntL problemT xs ≤ 4 * (xs.length + wL problemT xs)
  | [] => by simp [cntL]
  | x :: xs => by
    have := problemT_le x
    have := problemL_le xs
    simp only [cntL, wL, List.length_cons]
    omega

theorem Sl.problem {A : View} {a : Option Addr} {n c : Nat} {xs : List ProblemD} (h : Sl problemS A (.slice a n c) xs) {i : Nat} (hi : i < xs.length) : ∃ (ad : Addr) , a = some ad ∧ A.part (ad.add (i * 3)) 3 = some [.int .i64 (xs[i]).1, .string (xs[i]).2.1, .string (xs[i]).2.2.1] ∧ (-9223372036854775808 ≤ (xs[i]).1 ∧ (xs[i]).1 < 9223372036854775808) ∧ (xs[i]).2.1.size ≤ 140737488355328 ∧ (xs[i]).2.2.1.size ≤ 140737488355328 := by
  obtain ⟨ad, d, h1, h2, h3, _⟩ := h.at hi
  obtain ⟨rfl, hh0, hh1, hh2⟩ := problemS_open h2
  exact ⟨ad, h1, h3, hh0, hh1, hh2⟩

theorem eqProblem_c (A : View) (d d' : List Value) (x y : ProblemD) (h : problemS.rel A x d) (h' : problemS.rel A y d') : ACalls Try.prog 78 #[.agg d.toArray, .agg d'.toArray] A fun r A' => r = .bool (decide (x = y)) ∧ Ext A A' := by
  obtain ⟨rfl, hh0, hh1, hh2⟩ := problemS_open h
  obtain ⟨rfl, g0, g1, g2⟩ := problemS_open h'
  refine acalls Try.func78 rfl (by kernel_rfl) ?_
  simp (disch := omega) only [↓stp, vls, inf, frs, mark_eq, ↓reduceIte, Nat.reduceEqDiff, ite_tt, ite_ff, eq_self, and_true, true_and, and_self, implies_true, Bool.true_eq_false, Bool.false_eq_true, decide_true, decide_false, decide_eq_true_eq, decide_eq_false_iff_not, ne_eq, not_true_eq_false, not_false_eq_true, Bool.not_eq_true', Bool.not_eq_false', beq_self_eq_true, Bool.not_true, Bool.not_false, List.getElem?_toArray, List.getElem?_cons_zero, List.getElem?_cons_succ]
  refine led_box (Led.nil A) rfl fun q0 V _ l => ?_
  simp (disch := omega) only [↓stp, vls, inf, frs, mark_eq, ↓reduceIte, Nat.reduceEqDiff, ite_tt, ite_ff, eq_self, and_true, true_and, and_self, implies_true, Bool.true_eq_false, Bool.false_eq_true, decide_true, decide_false, decide_eq_true_eq, decide_eq_false_iff_not, ne_eq, not_true_eq_false, not_false_eq_true, Bool.not_eq_true', Bool.not_eq_false', beq_self_eq_true, Bool.not_true, Bool.not_false, List.getElem?_toArray, List.getElem?_cons_zero, List.getElem?_cons_succ]
  refine led_box l rfl fun q1 V _ l => ?_
  have b0 := l.cell (i := 1) rfl (o := 0) rfl rfl
  have b1 := l.cell (i := 1) rfl (o := 1) rfl rfl
  have b2 := l.cell (i := 1) rfl (o := 2) rfl rfl
  have d0 := l.cell (i := 0) rfl (o := 0) rfl rfl
  have d1 := l.cell (i := 0) rfl (o := 1) rfl rfl
  have d2 := l.cell (i := 0) rfl (o := 2) rfl rfl
  simp (disch := omega) only [↓stp, vls, inf, frs, mark_eq, ↓reduceIte, Nat.reduceEqDiff, ite_tt, ite_ff, eq_self, and_true, true_and, and_self, implies_true, Bool.true_eq_false, Bool.false_eq_true, decide_true, decide_false, decide_eq_true_eq, decide_eq_false_iff_not, ne_eq, not_true_eq_false, not_false_eq_true, Bool.not_eq_true', Bool.not_eq_false', beq_self_eq_true, Bool.not_true, Bool.not_false, List.getElem?_toArray, List.getElem?_cons_zero, List.getElem?_cons_succ, add_at, b0, b1, b2, d0, d1, d2]
  refine ⟨fun e => ?_, fun e => ?_⟩
  · have hne : ¬ x = y := fun he => by rw [he] at e; simp at e
    simp (disch := omega) only [↓stp, vls, inf, frs, mark_eq, ↓reduceIte, Nat.reduceEqDiff, ite_tt, ite_ff, eq_self, and_true, true_and, and_self, implies_true, Bool.true_eq_false, Bool.false_eq_true, decide_true, decide_false, decide_eq_true_eq, decide_eq_false_iff_not, ne_eq, not_true_eq_false, not_false_eq_true, Bool.not_eq_true', Bool.not_eq_false', beq_self_eq_true, Bool.not_true, Bool.not_false, List.getElem?_toArray, List.getElem?_cons_zero, List.getElem?_cons_succ, hne]
    exact l.ext
  have e0 : x.1 = y.1 := by simpa using e
  simp (disch := omega) only [↓stp, vls, inf, frs, mark_eq, ↓reduceIte, Nat.reduceEqDiff, ite_tt, ite_ff, eq_self, and_true, true_and, and_self, implies_true, Bool.true_eq_false, Bool.false_eq_true, decide_true, decide_false, decide_eq_true_eq, decide_eq_false_iff_not, ne_eq, not_true_eq_false, not_false_eq_true, Bool.not_eq_true', Bool.not_eq_false', beq_self_eq_true, Bool.not_true, Bool.not_false, List.getElem?_toArray, List.getElem?_cons_zero, List.getElem?_cons_succ, add_at, b0, b1, b2, d0, d1, d2]
  refine ⟨fun e => ?_, fun e => ?_⟩
  · have hne : ¬ x = y := fun he => by rw [he] at e; simp at e
    simp (disch := omega) only [↓stp, vls, inf, frs, mark_eq, ↓reduceIte, Nat.reduceEqDiff, ite_tt, ite_ff, eq_self, and_true, true_and, and_self, implies_true, Bool.true_eq_false, Bool.false_eq_true, decide_true, decide_false, decide_eq_true_eq, decide_eq_false_iff_not, ne_eq, not_true_eq_false, not_false_eq_true, Bool.not_eq_true', Bool.not_eq_false', beq_self_eq_true, Bool.not_true, Bool.not_false, List.getElem?_toArray, List.getElem?_cons_zero, List.getElem?_cons_succ, hne]
    exact l.ext
  have e1 : x.2.1 = y.2.1 := by simpa using e
  simp (disch := omega) only [↓stp, vls, inf, frs, mark_eq, ↓reduceIte, Nat.reduceEqDiff, ite_tt, ite_ff, eq_self, and_true, true_and, and_self, implies_true, Bool.true_eq_false, Bool.false_eq_true, decide_true, decide_false, decide_eq_true_eq, decide_eq_false_iff_not, ne_eq, not_true_eq_false, not_false_eq_true, Bool.not_eq_true', Bool.not_eq_false', beq_self_eq_true, Bool.not_true, Bool.not_false, List.getElem?_toArray, List.getElem?_cons_zero, List.getElem?_cons_succ, add_at, b0, b1, b2, d0, d1, d2]
  refine ⟨fun e => ?_, fun e => ?_⟩
  · have hne : ¬ x = y := fun he => by rw [he] at e; simp at e
    simp (disch := omega) only [↓stp, vls, inf, frs, mark_eq, ↓reduceIte, Nat.reduceEqDiff, ite_tt, ite_ff, eq_self, and_true, true_and, and_self, implies_true, Bool.true_eq_false, Bool.false_eq_true, decide_true, decide_false, decide_eq_true_eq, decide_eq_false_iff_not, ne_eq, not_true_eq_false, not_false_eq_true, Bool.not_eq_true', Bool.not_eq_false', beq_self_eq_true, Bool.not_true, Bool.not_false, List.getElem?_toArray, List.getElem?_cons_zero, List.getElem?_cons_succ, hne]
    exact l.ext
  have e2 : x.2.2.1 = y.2.2.1 := by simpa using e
  have he : x = y := Prod.ext e0 (Prod.ext e1 (Prod.ext e2 (rfl)))
  simp (disch := omega) only [↓stp, vls, inf, frs, mark_eq, ↓reduceIte, Nat.reduceEqDiff, ite_tt, ite_ff, eq_self, and_true, true_and, and_self, implies_true, Bool.true_eq_false, Bool.false_eq_true, decide_true, decide_false, decide_eq_true_eq, decide_eq_false_iff_not, ne_eq, not_true_eq_false, not_false_eq_true, Bool.not_eq_true', Bool.not_eq_false', beq_self_eq_true, Bool.not_true, Bool.not_false, List.getElem?_toArray, List.getElem?_cons_zero, List.getElem?_cons_succ, he]
  exact l.ext

theorem eqProblemS_c (A : View) (v u : Value) (xs ys : List ProblemD) (h : Sl problemS A v xs) (h' : Sl problemS A u ys) : ACalls Try.prog 36 #[v, u] A fun r A' => r = .bool (decide (xs = ys)) ∧ Ext A A' := by
  obtain ⟨a, c, rfl, hc, hl⟩ := h.slice
  obtain ⟨a', c', rfl, hc', hl'⟩ := h'.slice
  refine acalls Try.func36 rfl (by kernel_rfl) ?_
  simp (disch := omega) only [↓stp, vls, inf, frs, mark_eq, ↓reduceIte, Nat.reduceEqDiff, ite_tt, ite_ff, eq_self, and_true, true_and, and_self, implies_true, Bool.true_eq_false, Bool.false_eq_true, decide_true, decide_false, decide_eq_true_eq, decide_eq_false_iff_not, ne_eq, not_true_eq_false, not_false_eq_true, Bool.not_eq_true', Bool.not_eq_false', beq_self_eq_true, Bool.not_true, Bool.not_false, List.getElem?_toArray, List.getElem?_cons_zero, List.getElem?_cons_succ]
  refine ⟨fun e => ?_, fun e => ?_⟩
  · simp (disch := omega) only [↓stp, vls, inf, frs, mark_eq, ↓reduceIte, Nat.reduceEqDiff, ite_tt, ite_ff, eq_self, and_true, true_and, and_self, implies_true, Bool.true_eq_false, Bool.false_eq_true, decide_true, decide_false, decide_eq_true_eq, decide_eq_false_iff_not, ne_eq, not_true_eq_false, not_false_eq_true, Bool.not_eq_true', Bool.not_eq_false', beq_self_eq_true, Bool.not_true, Bool.not_false, List.getElem?_toArray, List.getElem?_cons_zero, List.getElem?_cons_succ]
    have : xs ≠ ys := fun he => e (by rw [he])
    exact ⟨by simp [this], Ext.refl _⟩
  · have hlen : xs.length = ys.length := by omega
    simp (disch := omega) only [↓stp, vls, inf, frs, mark_eq, ↓reduceIte, Nat.reduceEqDiff, ite_tt, ite_ff, eq_self, and_true, true_and, and_self, implies_true, Bool.true_eq_false, Bool.false_eq_true, decide_true, decide_false, decide_eq_true_eq, decide_eq_false_iff_not, ne_eq, not_true_eq_false, not_false_eq_true, Bool.not_eq_true', Bool.not_eq_false', beq_self_eq_true, Bool.not_true, Bool.not_false, List.getElem?_toArray, List.getElem?_cons_zero, List.getElem?_cons_succ]
    refine aloop (fun d fr A' => ∃ i : Nat, i ≤ xs.length ∧ d = xs.length - i ∧ Ext A A' ∧ fr 0 = .slice a xs.length c ∧ fr 1 = .slice a' ys.length c' ∧ fr 5 = .int .i64 i ∧ xs.take i = ys.take i) xs.length ⟨0, by omega, by omega, Ext.refl _, rfl, by rfl, by rfl, by simp⟩ ?_
    rintro d fr A' ⟨i, hi, rfl, he, h0, h1, h5, hn⟩
    simp (disch := omega) only [↓stp, vls, inf, frs, mark_eq, ↓reduceIte, Nat.reduceEqDiff, ite_tt, ite_ff, eq_self, and_true, true_and, and_self, implies_true, Bool.true_eq_false, Bool.false_eq_true, decide_true, decide_false, decide_eq_true_eq, decide_eq_false_iff_not, ne_eq, not_true_eq_false, not_false_eq_true, Bool.not_eq_true', Bool.not_eq_false', beq_self_eq_true, Bool.not_true, Bool.not_false, List.getElem?_toArray, List.getElem?_cons_zero, List.getElem?_cons_succ, h0, h1, h5]
    refine ⟨fun e => ?_, fun e => ?_⟩
    · obtain ⟨ad, d, rfl, hd, hp, _⟩ := (h.mono he).at (i := i) (by omega)
      obtain ⟨ad', d', rfl, hd', hp', _⟩ := (h'.mono he).at (i := i) (by omega)
      have hp : A'.part (ad.add (i * 3)) 3 = some d := hp
      have hp' : A'.part (ad'.add (i * 3)) 3 = some d' := hp'
      simp (disch := omega) only [↓stp, vls, inf, frs, mark_eq, ↓reduceIte, Nat.reduceEqDiff, ite_tt, ite_ff, eq_self, and_true, true_and, and_self, implies_true, Bool.true_eq_false, Bool.false_eq_true, decide_true, decide_false, decide_eq_true_eq, decide_eq_false_iff_not, ne_eq, not_true_eq_false, not_false_eq_true, Bool.not_eq_true', Bool.not_eq_false', beq_self_eq_true, Bool.not_true, Bool.not_false, List.getElem?_toArray, List.getElem?_cons_zero, List.getElem?_cons_succ, h0, h1, h5]
      refine adraw_items [.q 0, .q 1, .q 2, .l 3 false, .q 4, .q 5, .q 6, .l 7 false, .c 8 [], .q 9] (by kernel_rfl) (by kernel_rfl) ?_
      simp (disch := omega) only [↓stp, ↓pln, plv, nilOk, Nat.reduceBEq, Bool.or_false, Bool.or_true, Bool.false_or, Bool.true_or, vls, inf, frs, mark_eq, ↓reduceIte, Nat.reduceEqDiff, ite_tt, ite_ff, eq_self, and_true, true_and, and_self, implies_true, Bool.true_eq_false, Bool.false_eq_true, decide_true, decide_false, decide_eq_true_eq, decide_eq_false_iff_not, ne_eq, not_true_eq_false, not_false_eq_true, Bool.not_eq_true', Bool.not_eq_false', beq_self_eq_true, Bool.not_true, Bool.not_false, List.getElem?_toArray, List.getElem?_cons_zero, List.getElem?_cons_succ, h0, h1, h5, hp, hp']
      refine (eqProblem_c A' d d' xs[i] ys[i] hd hd').mono ?_
      rintro _ A1 ⟨rfl, he1⟩
      simp (disch := omega) only [↓stp, ↓pln, plv, nilOk, Nat.reduceBEq, Bool.or_false, Bool.or_true, Bool.false_or, Bool.true_or, vls, inf, frs, mark_eq, ↓reduceIte, Nat.reduceEqDiff, ite_tt, ite_ff, eq_self, and_true, true_and, and_self, implies_true, Bool.true_eq_false, Bool.false_eq_true, decide_true, decide_false, decide_eq_true_eq, decide_eq_false_iff_not, ne_eq, not_true_eq_false, not_false_eq_true, Bool.not_eq_true', Bool.not_eq_false', beq_self_eq_true, Bool.not_true, Bool.not_false, List.getElem?_toArray, List.getElem?_cons_zero, List.getElem?_cons_succ, h0, h1, h5]
      refine ⟨fun e1 => ?_, fun e1 => ?_⟩ <;> simp (disch := omega) only [↓stp, vls, inf, frs, mark_eq, ↓reduceIte, Nat.reduceEqDiff, ite_tt, ite_ff, eq_self, and_true, true_and, and_self, implies_true, Bool.true_eq_false, Bool.false_eq_true, decide_true, decide_false, decide_eq_true_eq, decide_eq_false_iff_not, ne_eq, not_true_eq_false, not_false_eq_true, Bool.not_eq_true', Bool.not_eq_false', beq_self_eq_true, Bool.not_true, Bool.not_false, List.getElem?_toArray, List.getElem?_cons_zero, List.getElem?_cons_succ, h0, h1, h5]
      · have : xs ≠ ys := fun he => e1 (by simp only [he])
        exact ⟨by simp [this], he.trans he1⟩
      · refine ⟨_, by omega, i + 1, by omega, rfl, he.trans he1, rfl, ?_⟩
        rw [List.take_succ_eq_append_getElem (by omega), List.take_succ_eq_append_getElem (by omega), hn]
        have : xs[i] = ys[i] := by simpa using e1
        rw [this]
    · rw [List.take_of_length_le (by omega), List.take_of_length_le (by omega)] at hn
      simp (disch := omega) only [↓stp, vls, inf, frs, mark_eq, ↓reduceIte, Nat.reduceEqDiff, ite_tt, ite_ff, eq_self, and_true, true_and, and_self, implies_true, Bool.true_eq_false, Bool.false_eq_true, decide_true, decide_false, decide_eq_true_eq, decide_eq_false_iff_not, ne_eq, not_true_eq_false, not_false_eq_true, Bool.not_eq_true', Bool.not_eq_false', beq_self_eq_true, Bool.not_true, Bool.not_false, List.getElem?_toArray, List.getElem?_cons_zero, List.getElem?_cons_succ, h0, h1, h5, hn]
      exact he

theorem markProblemS_c (A : View) (fp : List Nat) (v : Value) (xs : List ProblemD) (k : Nat) (h : OSl 88 problemO A fp v xs) (hnd : fp.Nodup) (hk0 : 0 < k) (hk : k + cntL problemT xs ≤ 68719476736) :
    ACalls Try.prog 37 #[v, .int .i64 k] A fun r A' => r = .int .i64 ((k + cntL problemT xs : Nat) : Int) ∧ OSl 88 problemO A' fp v (mkL problemT k xs) ∧ Only fp A A' := by
  obtain ⟨hl, ⟨rfl, rfl, rfl⟩ | ⟨b, c, cells, f, rfl, hc, rfl, hbk, he⟩⟩ := h
  · refine acalls Try.func37 rfl (by kernel_rfl) ?_
    simp (disch := omega) only [↓stp, vls, inf, frs, mark_eq, ↓reduceIte, Nat.reduceEqDiff, ite_tt, ite_ff, eq_self, and_true, true_and, and_self, implies_true, Bool.true_eq_false, Bool.false_eq_true, decide_true, decide_false, decide_eq_true_eq, decide_eq_false_iff_not, ne_eq, not_true_eq_false, not_false_eq_true, Bool.not_eq_true', Bool.not_eq_false', beq_self_eq_true, Bool.not_true, Bool.not_false, List.getElem?_toArray, List.getElem?_cons_zero, List.getElem?_cons_succ]
    refine aloop (fun d fr A' => A' = A ∧ fr 0 = .slice none 0 0 ∧ fr 1 = .int .i64 k ∧ fr 5 = .int .i64 0) 0 ⟨rfl, by rfl, by rfl, by rfl⟩ ?_
    rintro d fr A ⟨rfl, z0, z1, z5⟩
    simp (disch := omega) only [↓stp, vls, inf, frs, mark_eq, ↓reduceIte, Nat.reduceEqDiff, ite_tt, ite_ff, eq_self, and_true, true_and, and_self, implies_true, Bool.true_eq_false, Bool.false_eq_true, decide_true, decide_false, decide_eq_true_eq, decide_eq_false_iff_not, ne_eq, not_true_eq_false, not_false_eq_true, Bool.not_eq_true', Bool.not_eq_false', beq_self_eq_true, Bool.not_true, Bool.not_false, List.getElem?_toArray, List.getElem?_cons_zero, List.getElem?_cons_succ, z0, z1, z5]
    refine ⟨fun e => by omega, fun e => ?_⟩
    simp (disch := omega) only [↓stp, vls, inf, frs, mark_eq, ↓reduceIte, Nat.reduceEqDiff, ite_tt, ite_ff, eq_self, and_true, true_and, and_self, implies_true, Bool.true_eq_false, Bool.false_eq_true, decide_true, decide_false, decide_eq_true_eq, decide_eq_false_iff_not, ne_eq, not_true_eq_false, not_false_eq_true, Bool.not_eq_true', Bool.not_eq_false', beq_self_eq_true, Bool.not_true, Bool.not_false, List.getElem?_toArray, List.getElem?_cons_zero, List.getElem?_cons_succ, z0, z1, z5]
    exact ⟨by simp [cntL], ⟨by simp [mkL], .inl ⟨rfl, rfl, rfl⟩⟩, Only.refl _ _⟩
  · have hcl := he.len
    refine acalls Try.func37 rfl (by kernel_rfl) ?_
    simp (disch := omega) only [↓stp, vls, inf, frs, mark_eq, ↓reduceIte, Nat.reduceEqDiff, ite_tt, ite_ff, eq_self, and_true, true_and, and_self, implies_true, Bool.true_eq_false, Bool.false_eq_true, decide_true, decide_false, decide_eq_true_eq, decide_eq_false_iff_not, ne_eq, not_true_eq_false, not_false_eq_true, Bool.not_eq_true', Bool.not_eq_false', beq_self_eq_true, Bool.not_true, Bool.not_false, List.getElem?_toArray, List.getElem?_cons_zero, List.getElem?_cons_succ]
    refine aloop (fun d fr A' => ∃ (i : Nat) (c1 c2 : List Value) (g1 g2 : List Nat), i ≤ xs.length ∧ d = xs.length - i ∧ c1.length = i * 3 ∧ Led (fun _ => none) [bx b ⟨88, c1 ++ c2, c * 3, true⟩, oel problemO g1 (mkL problemT k (xs.take i)) c1, oel problemO g2 (xs.drop i) c2] A' ∧ f = g1 ++ g2 ∧ Only (b :: f) A A' ∧ fr 0 = .slice (some ⟨b, 0, none⟩) xs.length c ∧ fr 1 = .int .i64 ((k + cntL problemT (xs.take i) : Nat) : Int) ∧ fr 5 = .int .i64 i) xs.length ⟨0, [], cells, [], f, by omega, by omega, rfl, led0 (by
      intro it hit
      simp only [List.mem_cons, List.not_mem_nil, or_false] at hit
      rcases hit with rfl | rfl | rfl
      · exact hbk
      · exact .nil
      · exact he) (by simpa [fps, bx, oel] using hnd), rfl, Only.refl _ _, rfl, by rfl, by rfl⟩ ?_
    rintro d fr A' ⟨i, c1, c2, g1, g2, hi, rfl, hc1, l, rfl, ho, z0, z1, z5⟩
    simp (disch := omega) only [↓stp, vls, inf, frs, mark_eq, ↓reduceIte, Nat.reduceEqDiff, ite_tt, ite_ff, eq_self, and_true, true_and, and_self, implies_true, Bool.true_eq_false, Bool.false_eq_true, decide_true, decide_false, decide_eq_true_eq, decide_eq_false_iff_not, ne_eq, not_true_eq_false, not_false_eq_true, Bool.not_eq_true', Bool.not_eq_false', beq_self_eq_true, Bool.not_true, Bool.not_false, List.getElem?_toArray, List.getElem?_cons_zero, List.getElem?_cons_succ, z0, z1, z5]
    refine ⟨fun e => ?_, fun e => ?_⟩
    · have hlt : i < xs.length := by omega
      have hsum := cntL_split problemT xs hlt
      have hcx := problemT_cnt xs[i]
      have hct := cntL_take problemT xs hlt
      have hmt := mkL_take problemT k xs hlt
      have hrest : OElems problemO A' g2 (xs.drop i) c2 := l.at (i := 2) rfl
      rw [List.drop_eq_getElem_cons hlt] at hrest
      obtain ⟨ge, g3, d, c3, rfl, rfl, hx, hr3⟩ := hrest.uncons
      obtain ⟨rfl, rfl, hh0, hh1, hh2⟩ := problemO_open hx
      replace l : Led (fun _ => none) [bx b ⟨88, c1 ++ ([.int .i64 (xs[i]).1, .string (xs[i]).2.1, .string (xs[i]).2.2.1] ++ c3), c * 3, true⟩, oel problemO g1 (mkL problemT k (xs.take i)) c1, oel problemO g3 (xs.drop (i + 1)) c3] A' := led0 (by
        intro it hit
        simp only [List.mem_cons, List.not_mem_nil, or_false] at hit
        rcases hit with rfl | rfl | rfl
        · exact l.at (i := 0) rfl
        · exact l.at (i := 1) rfl
        · exact hr3) (by simpa [fps, bx, oel, osl, List.append_assoc] using l.nd)
      simp (disch := omega) only [↓stp, vls, inf, frs, mark_eq, ↓reduceIte, Nat.reduceEqDiff, ite_tt, ite_ff, eq_self, and_true, true_and, and_self, implies_true, Bool.true_eq_false, Bool.false_eq_true, decide_true, decide_false, decide_eq_true_eq, decide_eq_false_iff_not, ne_eq, not_true_eq_false, not_false_eq_true, Bool.not_eq_true', Bool.not_eq_false', beq_self_eq_true, Bool.not_true, Bool.not_false, List.getElem?_toArray, List.getElem?_cons_zero, List.getElem?_cons_succ, z0, z1, z5]
      simp (disch := omega) only [↓stp, vls, inf, frs, mark_eq, ↓reduceIte, Nat.reduceEqDiff, ite_tt, ite_ff, eq_self, and_true, true_and, and_self, implies_true, Bool.true_eq_false, Bool.false_eq_true, decide_true, decide_false, decide_eq_true_eq, decide_eq_false_iff_not, ne_eq, not_true_eq_false, not_false_eq_true, Bool.not_eq_true', Bool.not_eq_false', beq_self_eq_true, Bool.not_true, Bool.not_false, List.getElem?_toArray, List.getElem?_cons_zero, List.getElem?_cons_succ, z0, z1, z5, add_at]
      refine led_mid (c1 := c1) l 0 rfl sz3 (j := 0) (d' := [.int .i64 ((k + cntL problemT (xs.take i) : Nat) : Int), .string (xs[i]).2.1, .string (xs[i]).2.2.1]) (by omega) (by exact ⟨rfl, rfl⟩) (by exact ⟨by simp, rfl⟩) fun A1 ho1 l => ?_
      replace ho := ho.trans (ho1.more fun x hx => by rw [List.mem_singleton.1 hx]; exact List.mem_cons_self ..)
      simp (disch := omega) only [↓stp, vls, inf, frs, mark_eq, ↓reduceIte, Nat.reduceEqDiff, ite_tt, ite_ff, eq_self, and_true, true_and, and_self, implies_true, Bool.true_eq_false, Bool.false_eq_true, decide_true, decide_false, decide_eq_true_eq, decide_eq_false_iff_not, ne_eq, not_true_eq_false, not_false_eq_true, Bool.not_eq_true', Bool.not_eq_false', beq_self_eq_true, Bool.not_true, Bool.not_false, List.getElem?_toArray, List.getElem?_cons_zero, List.getElem?_cons_succ, z0, z1, z5]
      refine (markText_c _ (k + cntL problemT (xs.take i) + 1) (by omega) (by omega)).mono ?_
      rintro _ A1 ⟨rfl, hms1, he1⟩
      replace l := l.step he1
      replace ho := ho.trans (Only.ext he1 _)
      simp (disch := omega) only [↓stp, vls, inf, frs, mark_eq, ↓reduceIte, Nat.reduceEqDiff, ite_tt, ite_ff, eq_self, and_true, true_and, and_self, implies_true, Bool.true_eq_false, Bool.false_eq_true, decide_true, decide_false, decide_eq_true_eq, decide_eq_false_iff_not, ne_eq, not_true_eq_false, not_false_eq_true, Bool.not_eq_true', Bool.not_eq_false', beq_self_eq_true, Bool.not_true, Bool.not_false, List.getElem?_toArray, List.getElem?_cons_zero, List.getElem?_cons_succ, z0, z1, z5, add_at]
      refine led_mid (c1 := c1) l 0 rfl sz9 (j := 1) (d' := [.int .i64 ((k + cntL problemT (xs.take i) : Nat) : Int), .string (mtext (k + cntL problemT (xs.take i) + 1)), .string (xs[i]).2.2.1]) (by omega) (by exact ⟨rfl, rfl⟩) (by exact ⟨by simp, rfl⟩) fun A1 ho1 l => ?_
      replace ho := ho.trans (ho1.more fun x hx => by rw [List.mem_singleton.1 hx]; exact List.mem_cons_self ..)
      simp (disch := omega) only [↓stp, vls, inf, frs, mark_eq, ↓reduceIte, Nat.reduceEqDiff, ite_tt, ite_ff, eq_self, and_true, true_and, and_self, implies_true, Bool.true_eq_false, Bool.false_eq_true, decide_true, decide_false, decide_eq_true_eq, decide_eq_false_iff_not, ne_eq, not_true_eq_false, not_false_eq_true, Bool.not_eq_true', Bool.not_eq_false', beq_self_eq_true, Bool.not_true, Bool.not_false, List.getElem?_toArray, List.getElem?_cons_zero, List.getElem?_cons_succ, z0, z1, z5]
      refine (markText_c _ (k + cntL problemT (xs.take i) + 1 + 1) (by omega) (by omega)).mono ?_
      rintro _ A1 ⟨rfl, hms2, he1⟩
      replace l := l.step he1
      replace ho := ho.trans (Only.ext he1 _)
      simp (disch := omega) only [↓stp, vls, inf, frs, mark_eq, ↓reduceIte, Nat.reduceEqDiff, ite_tt, ite_ff, eq_self, and_true, true_and, and_self, implies_true, Bool.true_eq_false, Bool.false_eq_true, decide_true, decide_false, decide_eq_true_eq, decide_eq_false_iff_not, ne_eq, not_true_eq_false, not_false_eq_true, Bool.not_eq_true', Bool.not_eq_false', beq_self_eq_true, Bool.not_true, Bool.not_false, List.getElem?_toArray, List.getElem?_cons_zero, List.getElem?_cons_succ, z0, z1, z5, add_at]
      refine led_mid (c1 := c1) l 0 rfl sz9 (j := 2) (d' := [.int .i64 ((k + cntL problemT (xs.take i) : Nat) : Int), .string (mtext (k + cntL problemT (xs.take i) + 1)), .string (mtext (k + cntL problemT (xs.take i) + 1 + 1))]) (by omega) (by exact ⟨rfl, rfl⟩) (by exact ⟨by simp, rfl⟩) fun A1 ho1 l => ?_
      replace ho := ho.trans (ho1.more fun x hx => by rw [List.mem_singleton.1 hx]; exact List.mem_cons_self ..)
      simp (disch := omega) only [↓stp, vls, inf, frs, mark_eq, ↓reduceIte, Nat.reduceEqDiff, ite_tt, ite_ff, eq_self, and_true, true_and, and_self, implies_true, Bool.true_eq_false, Bool.false_eq_true, decide_true, decide_false, decide_eq_true_eq, decide_eq_false_iff_not, ne_eq, not_true_eq_false, not_false_eq_true, Bool.not_eq_true', Bool.not_eq_false', beq_self_eq_true, Bool.not_true, Bool.not_false, List.getElem?_toArray, List.getElem?_cons_zero, List.getElem?_cons_succ, z0, z1, z5]
      have hdone : problemO.rel A1 ([]) (problemT.mk (k + cntL problemT (xs.take i)) xs[i]) [.int .i64 ((k + cntL problemT (xs.take i) : Nat) : Int), .string (mtext (k + cntL problemT (xs.take i) + 1)), .string (mtext (k + cntL problemT (xs.take i) + 1 + 1))] := problemO_mk ⟨by show (-9223372036854775808 : Int) ≤ (((k + cntL problemT (xs.take i)) : Nat) : Int); omega, by show (((k + cntL problemT (xs.take i)) : Nat) : Int) < 9223372036854775808; omega⟩ (by have := hms1; exact Nat.le_trans this (by decide)) (by have := hms2; exact Nat.le_trans this (by decide))
      refine ⟨_, by omega, i + 1, c1 ++ [.int .i64 ((k + cntL problemT (xs.take i) : Nat) : Int), .string (mtext (k + cntL problemT (xs.take i) + 1)), .string (mtext (k + cntL problemT (xs.take i) + 1 + 1))], c3, g1 ++ [], g3, by omega, rfl, by simp; omega, led0 (by
        intro it hit
        simp only [List.mem_cons, List.not_mem_nil, or_false] at hit
        rcases hit with rfl | rfl | rfl
        · rw [List.append_assoc]; exact l.at (i := 0) rfl
        · rw [hmt]; exact OElems.append (l.at (i := 1) rfl) (OElems.single hdone)
        · exact l.at (i := 2) rfl) (by simpa [fps, bx, oel, osl, List.append_assoc] using l.nd), by simp [List.append_assoc], ho, ?_, rfl⟩
      rw [hct, hcx]
      all_goals (first | omega | (congr 1 <;> omega))
    · simp (disch := omega) only [↓stp, vls, inf, frs, mark_eq, ↓reduceIte, Nat.reduceEqDiff, ite_tt, ite_ff, eq_self, and_true, true_and, and_self, implies_true, Bool.true_eq_false, Bool.false_eq_true, decide_true, decide_false, decide_eq_true_eq, decide_eq_false_iff_not, ne_eq, not_true_eq_false, not_false_eq_true, Bool.not_eq_true', Bool.not_eq_false', beq_self_eq_true, Bool.not_true, Bool.not_false, List.getElem?_toArray, List.getElem?_cons_zero, List.getElem?_cons_succ, z0, z1, z5]
      have hi' : i = xs.length := by omega
      subst hi'
      rw [List.take_length] at l ⊢
      have hnil : OElems problemO A' g2 (xs.drop xs.length) c2 := l.at (i := 2) rfl
      rw [List.drop_length] at hnil
      obtain ⟨rfl, rfl⟩ := hnil.nil_inv
      have hb : A' b = some ⟨88, c1 ++ [], c * 3, true⟩ := l.at (i := 0) rfl
      rw [List.append_nil] at hb
      have hml := mkL_len problemT k xs
      refine ⟨rfl, ⟨by omega, .inr ⟨b, c, c1, g1, by rw [hml], by omega, by simp, hb, l.at (i := 1) rfl⟩⟩, ho⟩

theorem heldProblemS_c (A : View) (v : Value) (xs : List ProblemD) (k : Nat) (h : Sl problemS A v (mkL problemT k xs)) (hk0 : 0 < k) (hk : k + cntL problemT xs ≤ 68719476736) :
    ACalls Try.prog 38 #[v, .int .i64 k] A fun r A' => r = .int .i64 ((k + cntL problemT xs : Nat) : Int) ∧ Ext A A' := by
  obtain ⟨a, c, rfl, hc, hl⟩ := h.slice
  have hml := mkL_len problemT k xs
  rw [hml] at h hc hl
  simp only [hml]
  refine acalls Try.func38 rfl (by kernel_rfl) ?_
  simp (disch := omega) only [↓stp, vls, inf, frs, mark_eq, ↓reduceIte, Nat.reduceEqDiff, ite_tt, ite_ff, eq_self, and_true, true_and, and_self, implies_true, Bool.true_eq_false, Bool.false_eq_true, decide_true, decide_false, decide_eq_true_eq, decide_eq_false_iff_not, ne_eq, not_true_eq_false, not_false_eq_true, Bool.not_eq_true', Bool.not_eq_false', beq_self_eq_true, Bool.not_true, Bool.not_false, List.getElem?_toArray, List.getElem?_cons_zero, List.getElem?_cons_succ]
  refine aloop (fun d fr A' => ∃ i : Nat, i ≤ xs.length ∧ d = xs.length - i ∧ Ext A A' ∧ fr 0 = .slice a xs.length c ∧ fr 1 = .int .i64 ((k + cntL problemT (xs.take i) : Nat) : Int) ∧ fr 5 = .int .i64 i) xs.length ⟨0, by omega, by omega, Ext.refl _, by rfl, by rfl, by rfl⟩ ?_
  rintro d fr A' ⟨i, hi, rfl, he, z0, z1, z5⟩
  simp (disch := omega) only [↓stp, vls, inf, frs, mark_eq, ↓reduceIte, Nat.reduceEqDiff, ite_tt, ite_ff, eq_self, and_true, true_and, and_self, implies_true, Bool.true_eq_false, Bool.false_eq_true, decide_true, decide_false, decide_eq_true_eq, decide_eq_false_iff_not, ne_eq, not_true_eq_false, not_false_eq_true, Bool.not_eq_true', Bool.not_eq_false', beq_self_eq_true, Bool.not_true, Bool.not_false, List.getElem?_toArray, List.getElem?_cons_zero, List.getElem?_cons_succ, z0, z1, z5]
  refine ⟨fun e => ?_, fun e => ?_⟩
  · have hlt : i < xs.length := by omega
    have hsum := cntL_split problemT xs hlt
    have hcx := problemT_cnt xs[i]
    have hct := cntL_take problemT xs hlt
    obtain ⟨ad, d, rfl, hd, hp, _⟩ := (h.mono he).at (i := i) (by omega)
    rw [mkL_get problemT k xs i hlt] at hd
    obtain ⟨rfl, hh0, hh1, hh2⟩ := problemS_open hd
    have q0 : A'.cell ((ad.add (i * 3)).add 0) = some (.int .i64 ((k + cntL problemT (xs.take i) : Nat) : Int)) := View.part_cell hp (j := 0) rfl
    have q1 : A'.cell ((ad.add (i * 3)).add 1) = some (.string (mtext (k + cntL problemT (xs.take i) + 1))) := View.part_cell hp (j := 1) rfl
    have q2 : A'.cell ((ad.add (i * 3)).add 2) = some (.string (mtext (k + cntL problemT (xs.take i) + 1 + 1))) := View.part_cell hp (j := 2) rfl
    try simp (disch := omega) only [↓stp, vls, inf, frs, mark_eq, ↓reduceIte, Nat.reduceEqDiff, ite_tt, ite_ff, eq_self, and_true, true_and, and_self, implies_true, Bool.true_eq_false, Bool.false_eq_true, decide_true, decide_false, decide_eq_true_eq, decide_eq_false_iff_not, ne_eq, not_true_eq_false, not_false_eq_true, Bool.not_eq_true', Bool.not_eq_false', beq_self_eq_true, Bool.not_true, Bool.not_false, List.getElem?_toArray, List.getElem?_cons_zero, List.getElem?_cons_succ, z0, z1, z5, q0, q1, q2]
    try simp (disch := omega) only [↓stp, vls, inf, frs, mark_eq, ↓reduceIte, Nat.reduceEqDiff, ite_tt, ite_ff, eq_self, and_true, true_and, and_self, implies_true, Bool.true_eq_false, Bool.false_eq_true, decide_true, decide_false, decide_eq_true_eq, decide_eq_false_iff_not, ne_eq, not_true_eq_false, not_false_eq_true, Bool.not_eq_true', Bool.not_eq_false', beq_self_eq_true, Bool.not_true, Bool.not_false, List.getElem?_toArray, List.getElem?_cons_zero, List.getElem?_cons_succ, z0, z1, z5, q0, q1, q2]
    refine adraw_items [.q 0, .q 1, .q 2, .q 3, .l 4 true, .q 5, .c 6 [4], .q 7] (by kernel_rfl) (by kernel_rfl) ?_
    simp (disch := omega) only [↓stp, ↓pln, plv, nilOk, Nat.reduceBEq, Bool.or_false, Bool.or_true, Bool.false_or, Bool.true_or, vls, inf, frs, mark_eq, ↓reduceIte, Nat.reduceEqDiff, ite_tt, ite_ff, eq_self, and_true, true_and, and_self, implies_true, Bool.true_eq_false, Bool.false_eq_true, decide_true, decide_false, decide_eq_true_eq, decide_eq_false_iff_not, ne_eq, not_true_eq_false, not_false_eq_true, Bool.not_eq_true', Bool.not_eq_false', beq_self_eq_true, Bool.not_true, Bool.not_false, List.getElem?_toArray, List.getElem?_cons_zero, List.getElem?_cons_succ, z0, z1, z5, q0, q1, q2]
    refine (markText_c A' (k + cntL problemT (xs.take i) + 1) (by omega) (by omega)).mono ?_
    rintro _ A' ⟨rfl, hms1, he1⟩
    replace q0 := he1.cell q0
    replace q1 := he1.cell q1
    replace q2 := he1.cell q2
    replace he := he.trans he1
    simp (disch := omega) only [↓stp, ↓pln, plv, nilOk, Nat.reduceBEq, Bool.or_false, Bool.or_true, Bool.false_or, Bool.true_or, vls, inf, frs, mark_eq, ↓reduceIte, Nat.reduceEqDiff, ite_tt, ite_ff, eq_self, and_true, true_and, and_self, implies_true, Bool.true_eq_false, Bool.false_eq_true, decide_true, decide_false, decide_eq_true_eq, decide_eq_false_iff_not, ne_eq, not_true_eq_false, not_false_eq_true, Bool.not_eq_true', Bool.not_eq_false', beq_self_eq_true, Bool.not_true, Bool.not_false, List.getElem?_toArray, List.getElem?_cons_zero, List.getElem?_cons_succ, z0, z1, z5, q0, q1, q2]
    try simp (disch := omega) only [↓stp, vls, inf, frs, mark_eq, ↓reduceIte, Nat.reduceEqDiff, ite_tt, ite_ff, eq_self, and_true, true_and, and_self, implies_true, Bool.true_eq_false, Bool.false_eq_true, decide_true, decide_false, decide_eq_true_eq, decide_eq_false_iff_not, ne_eq, not_true_eq_false, not_false_eq_true, Bool.not_eq_true', Bool.not_eq_false', beq_self_eq_true, Bool.not_true, Bool.not_false, List.getElem?_toArray, List.getElem?_cons_zero, List.getElem?_cons_succ, z0, z1, z5, q0, q1, q2]
    refine adraw_items [.q 0, .q 1, .q 2, .q 3, .l 4 true, .q 5, .c 6 [4], .q 7] (by kernel_rfl) (by kernel_rfl) ?_
    simp (disch := omega) only [↓stp, ↓pln, plv, nilOk, Nat.reduceBEq, Bool.or_false, Bool.or_true, Bool.false_or, Bool.true_or, vls, inf, frs, mark_eq, ↓reduceIte, Nat.reduceEqDiff, ite_tt, ite_ff, eq_self, and_true, true_and, and_self, implies_true, Bool.true_eq_false, Bool.false_eq_true, decide_true, decide_false, decide_eq_true_eq, decide_eq_false_iff_not, ne_eq, not_true_eq_false, not_false_eq_true, Bool.not_eq_true', Bool.not_eq_false', beq_self_eq_true, Bool.not_true, Bool.not_false, List.getElem?_toArray, List.getElem?_cons_zero, List.getElem?_cons_succ, z0, z1, z5, q0, q1, q2]
    refine (markText_c A' (k + cntL problemT (xs.take i) + 1 + 1) (by omega) (by omega)).mono ?_
    rintro _ A' ⟨rfl, hms2, he1⟩
    replace q0 := he1.cell q0
    replace q1 := he1.cell q1
    replace q2 := he1.cell q2
    replace he := he.trans he1
    simp (disch := omega) only [↓stp, ↓pln, plv, nilOk, Nat.reduceBEq, Bool.or_false, Bool.or_true, Bool.false_or, Bool.true_or, vls, inf, frs, mark_eq, ↓reduceIte, Nat.reduceEqDiff, ite_tt, ite_ff, eq_self, and_true, true_and, and_self, implies_true, Bool.true_eq_false, Bool.false_eq_true, decide_true, decide_false, decide_eq_true_eq, decide_eq_false_iff_not, ne_eq, not_true_eq_false, not_false_eq_true, Bool.not_eq_true', Bool.not_eq_false', beq_self_eq_true, Bool.not_true, Bool.not_false, List.getElem?_toArray, List.getElem?_cons_zero, List.getElem?_cons_succ, z0, z1, z5, q0, q1, q2]
    try simp (disch := omega) only [↓stp, vls, inf, frs, mark_eq, ↓reduceIte, Nat.reduceEqDiff, ite_tt, ite_ff, eq_self, and_true, true_and, and_self, implies_true, Bool.true_eq_false, Bool.false_eq_true, decide_true, decide_false, decide_eq_true_eq, decide_eq_false_iff_not, ne_eq, not_true_eq_false, not_false_eq_true, Bool.not_eq_true', Bool.not_eq_false', beq_self_eq_true, Bool.not_true, Bool.not_false, List.getElem?_toArray, List.getElem?_cons_zero, List.getElem?_cons_succ, z0, z1, z5]
    refine ⟨_, by omega, i + 1, by omega, rfl, he, ?_, rfl⟩
    rw [hct, hcx]
    all_goals (first | omega | (congr 1 <;> omega))
  · simp (disch := omega) only [↓stp, vls, inf, frs, mark_eq, ↓reduceIte, Nat.reduceEqDiff, ite_tt, ite_ff, eq_self, and_true, true_and, and_self, implies_true, Bool.true_eq_false, Bool.false_eq_true, decide_true, decide_false, decide_eq_true_eq, decide_eq_false_iff_not, ne_eq, not_true_eq_false, not_false_eq_true, Bool.not_eq_true', Bool.not_eq_false', beq_self_eq_true, Bool.not_true, Bool.not_false, List.getElem?_toArray, List.getElem?_cons_zero, List.getElem?_cons_succ, z0, z1, z5]
    have hi' : i = xs.length := by omega
    subst hi'
    rw [List.take_length]
    exact ⟨rfl, he⟩

end Go.Proofs.Ytfhodofbccljmaa

