/- Tests within a limit of cost. -/
import Derived.Test.YthimfjonfaomgaaP1
set_option maxHeartbeats 4000000
set_option synthInstance.maxHeartbeats 400000
set_option synthInstance.maxSize 4096
set_option linter.unusedSimpArgs false
set_option linter.unusedVariables false
namespace Go.Proofs.Ythimfjonfaomgaa

set_option maxRecDepth 100000

def pstep (xs : List PastD) (s : List ByteArray × Int) (id : ByteArray) : List ByteArray × Int := if costF xs id ≤ s.2 then (s.1 ++ [id], s.2 - costF xs id) else s
def pst (xs : List PastD) (ids : List ByteArray) (lim : Int) : List ByteArray × Int := ids.foldl (pstep xs) ([], lim)
/-- The tests that are picked. -/
def picked (ids : List ByteArray) (xs : List PastD) (lim : Int) : List ByteArray := if idsB ids && pastB xs && decide (0 ≤ lim) && decide (lim ≤ 999) then (pst xs ids lim).1 else []

theorem foldl_take1 {α β : Type} (f : β → α → β) (b : β) {xs : List α} {i : Nat} (h : i < xs.length) : (xs.take (i + 1)).foldl f b = f ((xs.take i).foldl f b) xs[i] := by
  rw [List.take_succ_eq_append_getElem h, List.foldl_append]; rfl

theorem pst_take {xs : List PastD} {ids : List ByteArray} {lim : Int} {i : Nat} (h : i < ids.length) : pst xs (ids.take (i + 1)) lim = pstep xs (pst xs (ids.take i) lim) ids[i] := foldl_take1 _ _ h

theorem pst_inv {xs : List PastD} (hv : pastB xs = true) (ids : List ByteArray) (lim : Int) (h0 : 0 ≤ lim) : ∀ i, i ≤ ids.length → (pst xs (ids.take i) lim).1.length ≤ i ∧ 0 ≤ (pst xs (ids.take i) lim).2 ∧ (pst xs (ids.take i) lim).2 ≤ lim := by
  intro i
  induction i with
  | zero => intro _; simp [pst, h0]
  | succ i ih =>
    intro hi
    have := ih (by omega)
    rw [pst_take (by omega)]
    have hc := costF_range hv ids[i]
    unfold pstep
    split
    · simp only [List.length_append, List.length_singleton]; omega
    · omega

theorem idsB_len {ids : List ByteArray} (h : idsB ids = true) : ids.length ≤ 10 := by
  unfold idsB at h
  rw [Bool.and_eq_true, decide_eq_true_eq] at h
  exact h.2

theorem picked_len (ids : List ByteArray) (xs : List PastD) (lim : Int) : (picked ids xs lim).length ≤ 10 := by
  unfold picked
  split
  · rename_i h
    simp only [Bool.and_eq_true, decide_eq_true_eq] at h
    have h1 := (pst_inv h.1.1.2 ids lim h.1.2 ids.length (by omega)).1
    have h2 := idsB_len h.1.1.1
    rw [List.take_length] at h1
    omega
  · simp

theorem spec_goodOrder_c (A : View) (v u : Value) (ids : List ByteArray) (xs : List PastD) (h : Sl strS A v ids) (h' : Sl pastS A u xs) : ACalls Try.prog 61 #[v, u] A fun r A' => r = .bool (idsB ids && pastB xs) ∧ A' = A := by
  refine acalls Try.func61 rfl (by kernel_rfl) ?_
  simp (disch := omega) only [↓stp, vls, inf, frs, mark_eq, ↓reduceIte, Nat.reduceEqDiff, ite_tt, ite_ff, eq_self, and_true, true_and, and_self, implies_true, Bool.true_eq_false, Bool.false_eq_true, decide_true, decide_false, decide_eq_true_eq, decide_eq_false_iff_not, ne_eq, not_true_eq_false, not_false_eq_true, Bool.not_eq_true', Bool.not_eq_false', beq_self_eq_true, Bool.not_true, Bool.not_false, List.getElem?_toArray, List.getElem?_cons_zero, List.getElem?_cons_succ]
  refine (spec_validOrder_c A _ ids h).mono ?_
  rintro _ A ⟨rfl, rfl⟩
  simp (disch := omega) only [↓stp, vls, inf, frs, mark_eq, ↓reduceIte, Nat.reduceEqDiff, ite_tt, ite_ff, eq_self, and_true, true_and, and_self, implies_true, Bool.true_eq_false, Bool.false_eq_true, decide_true, decide_false, decide_eq_true_eq, decide_eq_false_iff_not, ne_eq, not_true_eq_false, not_false_eq_true, Bool.not_eq_true', Bool.not_eq_false', beq_self_eq_true, Bool.not_true, Bool.not_false, List.getElem?_toArray, List.getElem?_cons_zero, List.getElem?_cons_succ]
  refine ⟨fun e1 => ?_, fun e1 => ?_⟩ <;> simp (disch := omega) only [↓stp, vls, inf, frs, mark_eq, ↓reduceIte, Nat.reduceEqDiff, ite_tt, ite_ff, eq_self, and_true, true_and, and_self, implies_true, Bool.true_eq_false, Bool.false_eq_true, decide_true, decide_false, decide_eq_true_eq, decide_eq_false_iff_not, ne_eq, not_true_eq_false, not_false_eq_true, Bool.not_eq_true', Bool.not_eq_false', beq_self_eq_true, Bool.not_true, Bool.not_false, List.getElem?_toArray, List.getElem?_cons_zero, List.getElem?_cons_succ, e1]
  · refine (spec_validPast_c A _ xs h').mono ?_
    rintro _ A ⟨rfl, rfl⟩
    simp (disch := omega) only [↓stp, vls, inf, frs, mark_eq, ↓reduceIte, Nat.reduceEqDiff, ite_tt, ite_ff, eq_self, and_true, true_and, and_self, implies_true, Bool.true_eq_false, Bool.false_eq_true, decide_true, decide_false, decide_eq_true_eq, decide_eq_false_iff_not, ne_eq, not_true_eq_false, not_false_eq_true, Bool.not_eq_true', Bool.not_eq_false', beq_self_eq_true, Bool.not_true, Bool.not_false, List.getElem?_toArray, List.getElem?_cons_zero, List.getElem?_cons_succ, e1, Bool.true_and]
  · simp (disch := omega) only [↓stp, vls, inf, frs, mark_eq, ↓reduceIte, Nat.reduceEqDiff, ite_tt, ite_ff, eq_self, and_true, true_and, and_self, implies_true, Bool.true_eq_false, Bool.false_eq_true, decide_true, decide_false, decide_eq_true_eq, decide_eq_false_iff_not, ne_eq, not_true_eq_false, not_false_eq_true, Bool.not_eq_true', Bool.not_eq_false', beq_self_eq_true, Bool.not_true, Bool.not_false, List.getElem?_toArray, List.getElem?_cons_zero, List.getElem?_cons_succ, Bool.false_and]

end Go.Proofs.Ythimfjonfaomgaa

