/- Tests within a limit of cost. -/
import Derived.Test.YtbbhhdcimmofoaaP1
set_option maxHeartbeats 4000000
set_option synthInstance.maxHeartbeats 400000
set_option synthInstance.maxSize 4096
set_option linter.unusedSimpArgs false
set_option linter.unusedVariables false
namespace Go.Proofs.Ytbbhhdcimmofoaa

set_option maxRecDepth 100000

def pstep (xs : List PastD) (s : List ByteArray × Int) (id : ByteArray) : List ByteArray × Int := if costF xs id ≤ s.2 then (s.1 ++ [id], s.2 - costF xs id) else s
def pst (xs : List PastD) (ids : List ByteArray) (lim : Int) : List ByteArray × Int := ids.foldl (pstep xs) ([], lim)
/-- The tests that are picked. -/
def picked (ids : List ByteArray) (xs : List PastD) (lim : Int) : List ByteArray := if idsB ids && pastB xs && decide (0 ≤ lim) && decide (lim ≤ 999) then (pst xs ids lim).1 else []

theorem foldl_take1 {α β : Type} (f : β → α → β) (b : β) {xs : List α} {i : Nat} (h : i < xs.length) : (xs.take (i + 1)).foldl f b = f ((xs.take i).foldl f b) xs[i] := by
  rw [List.take_succ_eq_append_getElem h, List.foldl_append]; rfl

theorem pst_take {xs : List PastD} {ids : List ByteArray} {lim : Int} {i : Nat} (h : i < ids.length) : pst xs (ids.take (i + 1)) lim = pstep xs (pst xs (ids.take i) lim) ids[i] := foldl_take1 _ _ h

theorem pst_inv {xs : List PastD} (hv : pastB xs = true) (ids : List ByteArray) (lim : Int) (h0 : 0 ≤ lim) : ∀ i, i ≤ ids.length → (pst xs (ids.take i) lim).1.length ≤ i ∧ 0 ≤ (pst xs (ids.take i) lim).2 ∧ (pst xs (ids.take i) lim).2 ≤ lim := by
  intro i
  induction i with
  | zero => intro _; simp [pst, h0]
  | succ i ih =>
    intro hi
    have := ih (by omega)
    rw [pst_take (by omega)]
    have hc := costF_range hv ids[i]
    unfold pstep
    split
    · simp only [List.length_append, List.length_singleton]; omega
    · omega

theorem idsB_len {ids : List ByteArray} (h : idsB ids = true) : ids.length ≤ 10 := by
  unfold idsB at h
  rw [Bool.and_eq_true, decide_eq_true_eq] at h
  exact h.2

theorem picked_len (ids : List ByteArray) (xs : List PastD) (lim : Int) : (picked ids xs lim).length ≤ 10 := by
  unfold picked
  split
  · rename_i h
    simp only [Bool.and_eq_true, decide_eq_true_eq] at h
    have h1 := (pst_inv h.1.1.2 ids lim h.1.2 ids.length (by omega)).1
    have h2 := idsB_len h.1.1.1
    rw [List.take_length] at h1
    omega
  · simp

theorem spec_goodOrder_c (A : View) (v u : Value) (ids : List ByteArray) (xs : List PastD) (h : Sl strS A v ids) (h' : Sl pastS A u xs) : ACalls Try.prog 63 #[v, u] A fun r A' => r = .bool (idsB ids && pastB xs) ∧ A' = A := by
  refine acalls Try.func63 rfl (by kernel_rfl) ?_
  simp (disch := omega) only [↓stp, vls, inf, frs, mark_eq, ↓reduceIte, Nat.reduceEqDiff, ite_tt, ite_ff, eq_self, and_true, true_and, and_self, implies_true, Bool.true_eq_false, Bool.false_eq_true, decide_true, decide_false, decide_eq_true_eq, decide_eq_false_iff_not, ne_eq, not_true_eq_false, not_false_eq_true, Bool.not_eq_true', Bool.not_eq_false', beq_self_eq_true, Bool.not_true, Bool.not_false, List.getElem?_toArray, List.getElem?_cons_zero, List.getElem?_cons_succ]
  refine (spec_validOrder_c A _ ids h).mono ?_
  rintro _ A ⟨rfl, rfl⟩
  simp (disch := omega) only [↓stp, vls, inf, frs, mark_eq, ↓reduceIte, Nat.reduceEqDiff, ite_tt, ite_ff, eq_self, and_true, true_and, and_self, implies_true, Bool.true_eq_false, Bool.false_eq_true, decide_true, decide_false, decide_eq_true_eq, decide_eq_false_iff_not, ne_eq, not_true_eq_false, not_false_eq_true, Bool.not_eq_true', Bool.not_eq_false', beq_self_eq_true, Bool.not_true, Bool.not_false, List.getElem?_toArray, List.getElem?_cons_zero, List.getElem?_cons_succ]
  refine ⟨fun e1 => ?_, fun e1 => ?_⟩ <;> simp (disch := omega) only [↓stp, vls, inf, frs, mark_eq, ↓reduceIte, Nat.reduceEqDiff, ite_tt, ite_ff, eq_self, and_true, true_and, and_self, implies_true, Bool.true_eq_false, Bool.false_eq_true, decide_true, decide_false, decide_eq_true_eq, decide_eq_false_iff_not, ne_eq, not_true_eq_false, not_false_eq_true, Bool.not_eq_true', Bool.not_eq_false', beq_self_eq_true, Bool.not_true, Bool.not_false, List.getElem?_toArray, List.getElem?_cons_zero, List.getElem?_cons_succ, e1]
  · refine (spec_validPast_c A _ xs h').mono ?_
    rintro _ A ⟨rfl, rfl⟩
    simp (disch := omega) only [↓stp, vls, inf, frs, mark_eq, ↓reduceIte, Nat.reduceEqDiff, ite_tt, ite_ff, eq_self, and_true, true_and, and_self, implies_true, Bool.true_eq_false, Bool.false_eq_true, decide_true, decide_false, decide_eq_true_eq, decide_eq_false_iff_not, ne_eq, not_true_eq_false, not_false_eq_true, Bool.not_eq_true', Bool.not_eq_false', beq_self_eq_true, Bool.not_true, Bool.not_false, List.getElem?_toArray, List.getElem?_cons_zero, List.getElem?_cons_succ, e1, Bool.true_and]
  · simp (disch := omega) only [↓stp, vls, inf, frs, mark_eq, ↓reduceIte, Nat.reduceEqDiff, ite_tt, ite_ff, eq_self, and_true, true_and, and_self, implies_true, Bool.true_eq_false, Bool.false_eq_true, decide_true, decide_false, decide_eq_true_eq, decide_eq_false_iff_not, ne_eq, not_true_eq_false, not_false_eq_true, Bool.not_eq_true', Bool.not_eq_false', beq_self_eq_true, Bool.not_true, Bool.not_false, List.getElem?_toArray, List.getElem?_cons_zero, List.getElem?_cons_succ, Bool.false_and]

def tot (xs : List PastD) (ids : List ByteArray) : Int := (ids.map (costF xs)).sum
theorem tot_take {xs : List PastD} {ids : List ByteArray} {i : Nat} (h : i < ids.length) : tot xs (ids.take (i + 1)) = tot xs (ids.take i) + costF xs ids[i] := by
  unfold tot
  rw [List.take_succ_eq_append_getElem h, List.map_append, List.sum_append]
  simp
theorem tot_range {xs : List PastD} (hv : pastB xs = true) (ids : List ByteArray) : 0 ≤ tot xs ids ∧ tot xs ids ≤ 99 * ids.length := by
  induction ids with
  | nil => simp [tot]
  | cons x ids ih =>
    have := costF_range hv x
    unfold tot at *
    rw [List.map_cons, List.sum_cons, List.length_cons]
    omega

theorem impl_totalCost_c (A : View) (u v : Value) (ids : List ByteArray) (xs : List PastD) (h : Sl strS A u ids) (h' : Sl pastS A v xs) (hv : pastB xs = true) (hsm : ids.length ≤ 16777216) : ACalls Try.prog 46 #[u, v] A fun r A' => r = .int .i64 (tot xs ids) ∧ Ext A A' := by
  obtain ⟨a, c, rfl, hc, hl⟩ := h.slice
  refine acalls Try.func46 rfl (by kernel_rfl) ?_
  simp (disch := omega) only [↓stp, vls, inf, frs, mark_eq, ↓reduceIte, Nat.reduceEqDiff, ite_tt, ite_ff, eq_self, and_true, true_and, and_self, implies_true, Bool.true_eq_false, Bool.false_eq_true, decide_true, decide_false, decide_eq_true_eq, decide_eq_false_iff_not, ne_eq, not_true_eq_false, not_false_eq_true, Bool.not_eq_true', Bool.not_eq_false', beq_self_eq_true, Bool.not_true, Bool.not_false, List.getElem?_toArray, List.getElem?_cons_zero, List.getElem?_cons_succ]
  refine aloop (fun d fr V => ∃ i : Nat, i ≤ ids.length ∧ d = ids.length - i ∧ Ext A V ∧ fr 1 = v ∧ fr 5 = .int .i64 (tot xs (ids.take i)) ∧ fr 8 = .slice a ids.length c ∧ fr 9 = .int .i64 ids.length ∧ fr 10 = .int .i64 i) ids.length (by exact ⟨0, by omega, by omega, Ext.refl _, rfl, rfl, rfl, rfl, rfl⟩) ?_
  rintro d fr V ⟨i, hi, rfl, he, h1, h5, h8, h9, h10⟩
  simp (disch := omega) only [↓stp, vls, inf, frs, mark_eq, ↓reduceIte, Nat.reduceEqDiff, ite_tt, ite_ff, eq_self, and_true, true_and, and_self, implies_true, Bool.true_eq_false, Bool.false_eq_true, decide_true, decide_false, decide_eq_true_eq, decide_eq_false_iff_not, ne_eq, not_true_eq_false, not_false_eq_true, Bool.not_eq_true', Bool.not_eq_false', beq_self_eq_true, Bool.not_true, Bool.not_false, List.getElem?_toArray, List.getElem?_cons_zero, List.getElem?_cons_succ, h1, h5, h8, h9, h10]
  refine ⟨fun e => ?_, fun e => ?_⟩
  · have hlt : i < ids.length := by omega
    obtain ⟨ad, rfl, k0, z0⟩ := (h.mono he).str hlt
    have r1 := tot_range hv (ids.take i)
    have r2 := costF_range hv ids[i]
    have r3 := tot_take (xs := xs) hlt
    rw [List.length_take] at r1
    simp (disch := omega) only [↓stp, vls, inf, frs, mark_eq, ↓reduceIte, Nat.reduceEqDiff, ite_tt, ite_ff, eq_self, and_true, true_and, and_self, implies_true, Bool.true_eq_false, Bool.false_eq_true, decide_true, decide_false, decide_eq_true_eq, decide_eq_false_iff_not, ne_eq, not_true_eq_false, not_false_eq_true, Bool.not_eq_true', Bool.not_eq_false', beq_self_eq_true, Bool.not_true, Bool.not_false, List.getElem?_toArray, List.getElem?_cons_zero, List.getElem?_cons_succ, h1, h5, h8, h9, h10, k0]
    refine (impl_costOf_c V v xs ids[i] (h'.mono he)).mono ?_
    rintro _ V1 ⟨rfl, he2⟩
    have hE : Ext A V1 := by first | exact he.trans he2 | (subst he2; exact he)
    simp (disch := omega) only [↓stp, vls, inf, frs, mark_eq, ↓reduceIte, Nat.reduceEqDiff, ite_tt, ite_ff, eq_self, and_true, true_and, and_self, implies_true, Bool.true_eq_false, Bool.false_eq_true, decide_true, decide_false, decide_eq_true_eq, decide_eq_false_iff_not, ne_eq, not_true_eq_false, not_false_eq_true, Bool.not_eq_true', Bool.not_eq_false', beq_self_eq_true, Bool.not_true, Bool.not_false, List.getElem?_toArray, List.getElem?_cons_zero, List.getElem?_cons_succ, h1, h5, h8, h9, h10, k0]
    exact ⟨_, by omega, i + 1, by omega, rfl, hE, congrArg (Value.int .i64) r3.symm, rfl⟩
  · simp (disch := omega) only [↓stp, vls, inf, frs, mark_eq, ↓reduceIte, Nat.reduceEqDiff, ite_tt, ite_ff, eq_self, and_true, true_and, and_self, implies_true, Bool.true_eq_false, Bool.false_eq_true, decide_true, decide_false, decide_eq_true_eq, decide_eq_false_iff_not, ne_eq, not_true_eq_false, not_false_eq_true, Bool.not_eq_true', Bool.not_eq_false', beq_self_eq_true, Bool.not_true, Bool.not_false, List.getElem?_toArray, List.getElem?_cons_zero, List.getElem?_cons_succ, h1, h5, h8, h9, h10]
    obtain rfl : i = ids.length := by omega
    rw [List.take_length]
    exact ⟨rfl, he⟩

theorem spec_totalCost_c (A : View) (u v : Value) (ids : List ByteArray) (xs : List PastD) (h : Sl strS A u ids) (h' : Sl pastS A v xs) (hv : pastB xs = true) (hsm : ids.length ≤ 16777216) : ACalls Try.prog 86 #[u, v] A fun r A' => r = .int .i64 (tot xs ids) ∧ Ext A A' := by
  obtain ⟨a, c, rfl, hc, hl⟩ := h.slice
  refine acalls Try.func86 rfl (by kernel_rfl) ?_
  simp (disch := omega) only [↓stp, vls, inf, frs, mark_eq, ↓reduceIte, Nat.reduceEqDiff, ite_tt, ite_ff, eq_self, and_true, true_and, and_self, implies_true, Bool.true_eq_false, Bool.false_eq_true, decide_true, decide_false, decide_eq_true_eq, decide_eq_false_iff_not, ne_eq, not_true_eq_false, not_false_eq_true, Bool.not_eq_true', Bool.not_eq_false', beq_self_eq_true, Bool.not_true, Bool.not_false, List.getElem?_toArray, List.getElem?_cons_zero, List.getElem?_cons_succ]
  refine aloop (fun d fr V => ∃ i : Nat, i ≤ ids.length ∧ d = ids.length - i ∧ Ext A V ∧ fr 1 = v ∧ fr 5 = .int .i64 (tot xs (ids.take i)) ∧ fr 0 = .slice a ids.length c ∧ fr 6 = .int .i64 i) ids.length (by exact ⟨0, by omega, by omega, Ext.refl _, rfl, rfl, rfl, rfl⟩) ?_
  rintro d fr V ⟨i, hi, rfl, he, h1, h5, h0, h6⟩
  simp (disch := omega) only [↓stp, vls, inf, frs, mark_eq, ↓reduceIte, Nat.reduceEqDiff, ite_tt, ite_ff, eq_self, and_true, true_and, and_self, implies_true, Bool.true_eq_false, Bool.false_eq_true, decide_true, decide_false, decide_eq_true_eq, decide_eq_false_iff_not, ne_eq, not_true_eq_false, not_false_eq_true, Bool.not_eq_true', Bool.not_eq_false', beq_self_eq_true, Bool.not_true, Bool.not_false, List.getElem?_toArray, List.getElem?_cons_zero, List.getElem?_cons_succ, h1, h5, h0, h6]
  refine ⟨fun e => ?_, fun e => ?_⟩
  · have hlt : i < ids.length := by omega
    obtain ⟨ad, rfl, k0, z0⟩ := (h.mono he).str hlt
    have r1 := tot_range hv (ids.take i)
    have r2 := costF_range hv ids[i]
    have r3 := tot_take (xs := xs) hlt
    rw [List.length_take] at r1
    simp (disch := omega) only [↓stp, vls, inf, frs, mark_eq, ↓reduceIte, Nat.reduceEqDiff, ite_tt, ite_ff, eq_self, and_true, true_and, and_self, implies_true, Bool.true_eq_false, Bool.false_eq_true, decide_true, decide_false, decide_eq_true_eq, decide_eq_false_iff_not, ne_eq, not_true_eq_false, not_false_eq_true, Bool.not_eq_true', Bool.not_eq_false', beq_self_eq_true, Bool.not_true, Bool.not_false, List.getElem?_toArray, List.getElem?_cons_zero, List.getElem?_cons_succ, h1, h5, h0, h6, k0]
    refine (spec_costOf_c V v xs ids[i] (h'.mono he)).mono ?_
    rintro _ V1 ⟨rfl, he2⟩
    have hE : Ext A V1 := by first | exact he.trans he2 | (subst he2; exact he)
    simp (disch := omega) only [↓stp, vls, inf, frs, mark_eq, ↓reduceIte, Nat.reduceEqDiff, ite_tt, ite_ff, eq_self, and_true, true_and, and_self, implies_true, Bool.true_eq_false, Bool.false_eq_true, decide_true, decide_false, decide_eq_true_eq, decide_eq_false_iff_not, ne_eq, not_true_eq_false, not_false_eq_true, Bool.not_eq_true', Bool.not_eq_false', beq_self_eq_true, Bool.not_true, Bool.not_false, List.getElem?_toArray, List.getElem?_cons_zero, List.getElem?_cons_succ, h1, h5, h0, h6, k0]
    exact ⟨_, by omega, i + 1, by omega, rfl, hE, congrArg (Value.int .i64) r3.symm, rfl⟩
  · simp (disch := omega) only [↓stp, vls, inf, frs, mark_eq, ↓reduceIte, Nat.reduceEqDiff, ite_tt, ite_ff, eq_self, and_true, true_and, and_self, implies_true, Bool.true_eq_false, Bool.false_eq_true, decide_true, decide_false, decide_eq_true_eq, decide_eq_false_iff_not, ne_eq, not_true_eq_false, not_false_eq_true, Bool.not_eq_true', Bool.not_eq_false', beq_self_eq_true, Bool.not_true, Bool.not_false, List.getElem?_toArray, List.getElem?_cons_zero, List.getElem?_cons_succ, h1, h5, h0, h6]
    obtain rfl : i = ids.length := by omega
    rw [List.take_length]
    exact ⟨rfl, he⟩

end Go.Proofs.Ytbbhhdcimmofoaa

