/- Tests within a limit of cost. -/
import Derived.Test.YtaknlfkoomagoaaP1
set_option maxHeartbeats 4000000
set_option synthInstance.maxHeartbeats 400000
set_option synthInstance.maxSize 4096
set_option linter.unusedSimpArgs false
set_option linter.unusedVariables false
namespace Go.Proofs.Ytaknlfkoomagoaa

set_option maxRecDepth 100000

def pstep (xs : List PastD) (s : List ByteArray × Int) (id : ByteArray) : List ByteArray × Int := if costF xs id ≤ s.2 then (s.1 ++ [id], s.2 - costF xs id) else s
def pst (xs : List PastD) (ids : List ByteArray) (lim : Int) : List ByteArray × Int := ids.foldl (pstep xs) ([], lim)
/-- The tests that are picked. -/
def picked (ids : List ByteArray) (xs : List PastD) (lim : Int) : List ByteArray := if idsB ids && pastB xs && decide (0 ≤ lim) && decide (lim ≤ 999) then (pst xs ids lim).1 else []

theorem foldl_take1 {α β : Type} (f : β → α → β) (b : β) {xs : List α} {i : Nat} (h : i < xs.length) : (xs.take (i + 1)).foldl f b = f ((xs.take i).foldl f b) xs[i] := by
  rw [List.take_succ_eq_append_getElem h, List.foldl_append]; rfl

theorem pst_take {xs : List PastD} {ids : List ByteArray} {lim : Int} {i : Nat} (h : i < ids.length) : pst xs (ids.take (i + 1)) lim = pstep xs (pst xs (ids.take i) lim) ids[i] := foldl_take1 _ _ h

theorem pst_inv {xs : List PastD} (hv : pastB xs = true) (ids : List ByteArray) (lim : Int) (h0 : 0 ≤ lim) : ∀ i, i ≤ ids.length → (pst xs (ids.take i) lim).1.length ≤ i ∧ 0 ≤ (pst xs (ids.take i) lim).2 ∧ (pst xs (ids.take i) lim).2 ≤ lim := by
  intro i
  induction i with
  | zero => intro _; simp [pst, h0]
  | succ i ih =>
    intro hi
    have := ih (by omega)
    rw [pst_take (by omega)]
    have hc := costF_range hv ids[i]
    unfold pstep
    split
    · simp only [List.length_append, List.length_singleton]; omega
    · omega

theorem idsB_len {ids : List ByteArray} (h : idsB ids = true) : ids.length ≤ 10 := by
  unfold idsB at h
  rw [Bool.and_eq_true, decide_eq_true_eq] at h
  exact h.2

theorem picked_len (ids : List ByteArray) (xs : List PastD) (lim : Int) : (picked ids xs lim).length ≤ 10 := by
  unfold picked
  split
  · rename_i h
    simp only [Bool.and_eq_true, decide_eq_true_eq] at h
    have h1 := (pst_inv h.1.1.2 ids lim h.1.2 ids.length (by omega)).1
    have h2 := idsB_len h.1.1.1
    rw [List.take_length] at h1
    omega
  · simp

theorem impl_pickBudget_c (A : View) (v u : Value) (ids : List ByteArray) (xs : List PastD) (lim : Int) (h : Sl strS A v ids) (h' : Sl pastS A u xs) (hsm : xs.length ≤ 16777215) : ACalls Try.prog 30 #[v, u, .int .i64 lim] A fun r A' => NewSl 9 strO A r A' (picked ids xs lim) := by
  obtain ⟨a, c, rfl, hc, hl⟩ := h.slice
  refine acalls Try.func30 rfl (by kernel_rfl) ?_
  simp (disch := omega) only [↓stp, vls, inf, frs, mark_eq, ↓reduceIte, Nat.reduceEqDiff, ite_tt, ite_ff, eq_self, and_true, true_and, and_self, implies_true, Bool.true_eq_false, Bool.false_eq_true, decide_true, decide_false, decide_eq_true_eq, decide_eq_false_iff_not, ne_eq, not_true_eq_false, not_false_eq_true, Bool.not_eq_true', Bool.not_eq_false', beq_self_eq_true, Bool.not_true, Bool.not_false, List.getElem?_toArray, List.getElem?_cons_zero, List.getElem?_cons_succ]
  refine (impl_idsOk_c A _ ids h).mono ?_
  rintro _ A ⟨rfl, rfl⟩
  simp (disch := omega) only [↓stp, vls, inf, frs, mark_eq, ↓reduceIte, Nat.reduceEqDiff, ite_tt, ite_ff, eq_self, and_true, true_and, and_self, implies_true, Bool.true_eq_false, Bool.false_eq_true, decide_true, decide_false, decide_eq_true_eq, decide_eq_false_iff_not, ne_eq, not_true_eq_false, not_false_eq_true, Bool.not_eq_true', Bool.not_eq_false', beq_self_eq_true, Bool.not_true, Bool.not_false, List.getElem?_toArray, List.getElem?_cons_zero, List.getElem?_cons_succ]
  refine ⟨fun e1 => ?_, fun e1 => ?_⟩ <;> simp (disch := omega) only [↓stp, vls, inf, frs, mark_eq, ↓reduceIte, Nat.reduceEqDiff, ite_tt, ite_ff, eq_self, and_true, true_and, and_self, implies_true, Bool.true_eq_false, Bool.false_eq_true, decide_true, decide_false, decide_eq_true_eq, decide_eq_false_iff_not, ne_eq, not_true_eq_false, not_false_eq_true, Bool.not_eq_true', Bool.not_eq_false', beq_self_eq_true, Bool.not_true, Bool.not_false, List.getElem?_toArray, List.getElem?_cons_zero, List.getElem?_cons_succ, e1]
  · refine (impl_validPast_c A u xs h' hsm).mono ?_
    rintro _ V ⟨rfl, he⟩
    simp (disch := omega) only [↓stp, vls, inf, frs, mark_eq, ↓reduceIte, Nat.reduceEqDiff, ite_tt, ite_ff, eq_self, and_true, true_and, and_self, implies_true, Bool.true_eq_false, Bool.false_eq_true, decide_true, decide_false, decide_eq_true_eq, decide_eq_false_iff_not, ne_eq, not_true_eq_false, not_false_eq_true, Bool.not_eq_true', Bool.not_eq_false', beq_self_eq_true, Bool.not_true, Bool.not_false, List.getElem?_toArray, List.getElem?_cons_zero, List.getElem?_cons_succ, e1]
    refine ⟨fun e2 => ?_, fun e2 => ?_⟩ <;> simp (disch := omega) only [↓stp, vls, inf, frs, mark_eq, ↓reduceIte, Nat.reduceEqDiff, ite_tt, ite_ff, eq_self, and_true, true_and, and_self, implies_true, Bool.true_eq_false, Bool.false_eq_true, decide_true, decide_false, decide_eq_true_eq, decide_eq_false_iff_not, ne_eq, not_true_eq_false, not_false_eq_true, Bool.not_eq_true', Bool.not_eq_false', beq_self_eq_true, Bool.not_true, Bool.not_false, List.getElem?_toArray, List.getElem?_cons_zero, List.getElem?_cons_succ, e1, e2]
    · refine ⟨fun e3 => ?_, fun e3 => ?_⟩ <;> simp (disch := omega) only [↓stp, vls, inf, frs, mark_eq, ↓reduceIte, Nat.reduceEqDiff, ite_tt, ite_ff, eq_self, and_true, true_and, and_self, implies_true, Bool.true_eq_false, Bool.false_eq_true, decide_true, decide_false, decide_eq_true_eq, decide_eq_false_iff_not, ne_eq, not_true_eq_false, not_false_eq_true, Bool.not_eq_true', Bool.not_eq_false', beq_self_eq_true, Bool.not_true, Bool.not_false, List.getElem?_toArray, List.getElem?_cons_zero, List.getElem?_cons_succ, e1, e2, e3]
      · refine ⟨fun e4 => ?_, fun e4 => ?_⟩ <;> simp (disch := omega) only [↓stp, vls, inf, frs, mark_eq, ↓reduceIte, Nat.reduceEqDiff, ite_tt, ite_ff, eq_self, and_true, true_and, and_self, implies_true, Bool.true_eq_false, Bool.false_eq_true, decide_true, decide_false, decide_eq_true_eq, decide_eq_false_iff_not, ne_eq, not_true_eq_false, not_false_eq_true, Bool.not_eq_true', Bool.not_eq_false', beq_self_eq_true, Bool.not_true, Bool.not_false, List.getElem?_toArray, List.getElem?_cons_zero, List.getElem?_cons_succ]
        · have : picked ids xs lim = [] := by unfold picked; rw [if_neg (by simp; omega)]
          rw [this]; exact NewSl.nil he
        · have hp : picked ids xs lim = (pst xs ids lim).1 := by unfold picked; rw [if_pos (by simp [e1, e2]; omega)]
          have hlen := idsB_len e1
          refine led_lit0 (O := strO) li25 (Led.nil V) fun b V2 _ l => ?_
          simp (disch := omega) only [↓stp, vls, inf, frs, mark_eq, ↓reduceIte, Nat.reduceEqDiff, ite_tt, ite_ff, eq_self, and_true, true_and, and_self, implies_true, Bool.true_eq_false, Bool.false_eq_true, decide_true, decide_false, decide_eq_true_eq, decide_eq_false_iff_not, ne_eq, not_true_eq_false, not_false_eq_true, Bool.not_eq_true', Bool.not_eq_false', beq_self_eq_true, Bool.not_true, Bool.not_false, List.getElem?_toArray, List.getElem?_cons_zero, List.getElem?_cons_succ]
          refine aloop (fun d fr A' => ∃ (i : Nat) (fp : List Nat) (w : Value), i ≤ ids.length ∧ d = ids.length - i ∧ Led V [osl 9 strO fp w (pst xs (ids.take i) lim).1] A' ∧ fr 1 = u ∧ fr 2 = .int .i64 (pst xs (ids.take i) lim).2 ∧ fr 7 = w ∧ fr 28 = .slice a ids.length c ∧ fr 29 = .int .i64 ids.length ∧ fr 30 = .int .i64 i) ids.length ⟨0, _, _, by omega, by omega, l, by rfl, by rfl, by rfl, by rfl, by rfl, by rfl⟩ ?_
          rintro d fr A' ⟨i, fp, w, hi, rfl, l, h1, h2, h7, h28, h29, h30⟩
          simp (disch := omega) only [↓stp, vls, inf, frs, mark_eq, ↓reduceIte, Nat.reduceEqDiff, ite_tt, ite_ff, eq_self, and_true, true_and, and_self, implies_true, Bool.true_eq_false, Bool.false_eq_true, decide_true, decide_false, decide_eq_true_eq, decide_eq_false_iff_not, ne_eq, not_true_eq_false, not_false_eq_true, Bool.not_eq_true', Bool.not_eq_false', beq_self_eq_true, Bool.not_true, Bool.not_false, List.getElem?_toArray, List.getElem?_cons_zero, List.getElem?_cons_succ, h1, h2, h7, h28, h29, h30]
          refine ⟨fun e => ?_, fun e => ?_⟩
          · have hlt : i < ids.length := by omega
            have hE := he.trans l.ext
            obtain ⟨ad, rfl, hcl, hsz⟩ := (h.mono hE).str hlt
            have hin := pst_inv e2 ids lim (by omega) i hi
            have hco := costF_range e2 ids[i]
            have htk := pst_take (xs := xs) (lim := lim) hlt
            simp (disch := omega) only [↓stp, vls, inf, frs, mark_eq, ↓reduceIte, Nat.reduceEqDiff, ite_tt, ite_ff, eq_self, and_true, true_and, and_self, implies_true, Bool.true_eq_false, Bool.false_eq_true, decide_true, decide_false, decide_eq_true_eq, decide_eq_false_iff_not, ne_eq, not_true_eq_false, not_false_eq_true, Bool.not_eq_true', Bool.not_eq_false', beq_self_eq_true, Bool.not_true, Bool.not_false, List.getElem?_toArray, List.getElem?_cons_zero, List.getElem?_cons_succ, h1, h2, h7, h28, h29, h30, hcl]
            refine (impl_costOf_c A' u xs _ (h'.mono hE)).mono ?_
            rintro _ W ⟨rfl, he2⟩
            replace l := l.step he2
            simp (disch := omega) only [↓stp, vls, inf, frs, mark_eq, ↓reduceIte, Nat.reduceEqDiff, ite_tt, ite_ff, eq_self, and_true, true_and, and_self, implies_true, Bool.true_eq_false, Bool.false_eq_true, decide_true, decide_false, decide_eq_true_eq, decide_eq_false_iff_not, ne_eq, not_true_eq_false, not_false_eq_true, Bool.not_eq_true', Bool.not_eq_false', beq_self_eq_true, Bool.not_true, Bool.not_false, List.getElem?_toArray, List.getElem?_cons_zero, List.getElem?_cons_succ, h1, h2, h7, h28, h29, h30]
            refine ⟨fun e5 => ?_, fun e5 => ?_⟩ <;> simp (disch := omega) only [↓stp, vls, inf, frs, mark_eq, ↓reduceIte, Nat.reduceEqDiff, ite_tt, ite_ff, eq_self, and_true, true_and, and_self, implies_true, Bool.true_eq_false, Bool.false_eq_true, decide_true, decide_false, decide_eq_true_eq, decide_eq_false_iff_not, ne_eq, not_true_eq_false, not_false_eq_true, Bool.not_eq_true', Bool.not_eq_false', beq_self_eq_true, Bool.not_true, Bool.not_false, List.getElem?_toArray, List.getElem?_cons_zero, List.getElem?_cons_succ, h1, h2, h7, h28, h29, h30]
            · refine led_lit li25 (by omega) rfl (by simp [Value.cells, Value.oneCell']) l fun bl W2 _ l => ?_
              simp (disch := omega) only [↓stp, vls, inf, frs, mark_eq, ↓reduceIte, Nat.reduceEqDiff, ite_tt, ite_ff, eq_self, and_true, true_and, and_self, implies_true, Bool.true_eq_false, Bool.false_eq_true, decide_true, decide_false, decide_eq_true_eq, decide_eq_false_iff_not, ne_eq, not_true_eq_false, not_false_eq_true, Bool.not_eq_true', Bool.not_eq_false', beq_self_eq_true, Bool.not_true, Bool.not_false, List.getElem?_toArray, List.getElem?_cons_zero, List.getElem?_cons_succ, h1, h2, h7, h28, h29, h30]
              refine led_app (O := strO) ap25_25 (by decide) l (i := 1) rfl (l.src1 (S := strS) (j := 0) rfl ⟨rfl, hsz⟩) (by simp; omega) fun fp' w' W3 _ l => ?_
              simp (disch := omega) only [↓stp, vls, inf, frs, mark_eq, ↓reduceIte, Nat.reduceEqDiff, ite_tt, ite_ff, eq_self, and_true, true_and, and_self, implies_true, Bool.true_eq_false, Bool.false_eq_true, decide_true, decide_false, decide_eq_true_eq, decide_eq_false_iff_not, ne_eq, not_true_eq_false, not_false_eq_true, Bool.not_eq_true', Bool.not_eq_false', beq_self_eq_true, Bool.not_true, Bool.not_false, List.getElem?_toArray, List.getElem?_cons_zero, List.getElem?_cons_succ, h1, h2, h7, h28, h29, h30]
              unfold pstep at htk
              rw [if_pos e5] at htk
              exact ⟨_, by omega, i + 1, fp', _, by omega, rfl, by rw [htk]; exact l.tail, by rw [htk], rfl, rfl⟩
            · unfold pstep at htk
              rw [if_neg e5] at htk
              exact ⟨_, by omega, i + 1, fp, _, by omega, rfl, by rw [htk]; exact l, by rw [htk], rfl, rfl⟩
          · simp (disch := omega) only [↓stp, vls, inf, frs, mark_eq, ↓reduceIte, Nat.reduceEqDiff, ite_tt, ite_ff, eq_self, and_true, true_and, and_self, implies_true, Bool.true_eq_false, Bool.false_eq_true, decide_true, decide_false, decide_eq_true_eq, decide_eq_false_iff_not, ne_eq, not_true_eq_false, not_false_eq_true, Bool.not_eq_true', Bool.not_eq_false', beq_self_eq_true, Bool.not_true, Bool.not_false, List.getElem?_toArray, List.getElem?_cons_zero, List.getElem?_cons_succ, h1, h2, h7, h28, h29, h30]
            have hi' : i = ids.length := by omega
            subst hi'
            rw [List.take_length] at l
            rw [hp]
            exact (NewSl.of l (i := 0) rfl).base he
      · have : picked ids xs lim = [] := by unfold picked; rw [if_neg (by simp; omega)]
        rw [this]; exact NewSl.nil he
    · have : picked ids xs lim = [] := by unfold picked; rw [if_neg (by simp [e2])]
      rw [this]; exact NewSl.nil he
  · have : picked ids xs lim = [] := by unfold picked; rw [if_neg (by simp [e1])]
    rw [this]; exact NewSl.nil (Ext.refl _)

theorem spec_goodOrder_c (A : View) (v u : Value) (ids : List ByteArray) (xs : List PastD) (h : Sl strS A v ids) (h' : Sl pastS A u xs) : ACalls Try.prog 70 #[v, u] A fun r A' => r = .bool (idsB ids && pastB xs) ∧ A' = A := by
  refine acalls Try.func70 rfl (by kernel_rfl) ?_
  simp (disch := omega) only [↓stp, vls, inf, frs, mark_eq, ↓reduceIte, Nat.reduceEqDiff, ite_tt, ite_ff, eq_self, and_true, true_and, and_self, implies_true, Bool.true_eq_false, Bool.false_eq_true, decide_true, decide_false, decide_eq_true_eq, decide_eq_false_iff_not, ne_eq, not_true_eq_false, not_false_eq_true, Bool.not_eq_true', Bool.not_eq_false', beq_self_eq_true, Bool.not_true, Bool.not_false, List.getElem?_toArray, List.getElem?_cons_zero, List.getElem?_cons_succ]
  refine (spec_validOrder_c A _ ids h).mono ?_
  rintro _ A ⟨rfl, rfl⟩
  simp (disch := omega) only [↓stp, vls, inf, frs, mark_eq, ↓reduceIte, Nat.reduceEqDiff, ite_tt, ite_ff, eq_self, and_true, true_and, and_self, implies_true, Bool.true_eq_false, Bool.false_eq_true, decide_true, decide_false, decide_eq_true_eq, decide_eq_false_iff_not, ne_eq, not_true_eq_false, not_false_eq_true, Bool.not_eq_true', Bool.not_eq_false', beq_self_eq_true, Bool.not_true, Bool.not_false, List.getElem?_toArray, List.getElem?_cons_zero, List.getElem?_cons_succ]
  refine ⟨fun e1 => ?_, fun e1 => ?_⟩ <;> simp (disch := omega) only [↓stp, vls, inf, frs, mark_eq, ↓reduceIte, Nat.reduceEqDiff, ite_tt, ite_ff, eq_self, and_true, true_and, and_self, implies_true, Bool.true_eq_false, Bool.false_eq_true, decide_true, decide_false, decide_eq_true_eq, decide_eq_false_iff_not, ne_eq, not_true_eq_false, not_false_eq_true, Bool.not_eq_true', Bool.not_eq_false', beq_self_eq_true, Bool.not_true, Bool.not_false, List.getElem?_toArray, List.getElem?_cons_zero, List.getElem?_cons_succ, e1]
  · refine (spec_validPast_c A _ xs h').mono ?_
    rintro _ A ⟨rfl, rfl⟩
    simp (disch := omega) only [↓stp, vls, inf, frs, mark_eq, ↓reduceIte, Nat.reduceEqDiff, ite_tt, ite_ff, eq_self, and_true, true_and, and_self, implies_true, Bool.true_eq_false, Bool.false_eq_true, decide_true, decide_false, decide_eq_true_eq, decide_eq_false_iff_not, ne_eq, not_true_eq_false, not_false_eq_true, Bool.not_eq_true', Bool.not_eq_false', beq_self_eq_true, Bool.not_true, Bool.not_false, List.getElem?_toArray, List.getElem?_cons_zero, List.getElem?_cons_succ, e1, Bool.true_and]
  · simp (disch := omega) only [↓stp, vls, inf, frs, mark_eq, ↓reduceIte, Nat.reduceEqDiff, ite_tt, ite_ff, eq_self, and_true, true_and, and_self, implies_true, Bool.true_eq_false, Bool.false_eq_true, decide_true, decide_false, decide_eq_true_eq, decide_eq_false_iff_not, ne_eq, not_true_eq_false, not_false_eq_true, Bool.not_eq_true', Bool.not_eq_false', beq_self_eq_true, Bool.not_true, Bool.not_false, List.getElem?_toArray, List.getElem?_cons_zero, List.getElem?_cons_succ, Bool.false_and]

theorem spec_pickBudget_c (A : View) (v u : Value) (ids : List ByteArray) (xs : List PastD) (lim : Int) (h : Sl strS A v ids) (h' : Sl pastS A u xs) (hsm : xs.length ≤ 16777215) : ACalls Try.prog 27 #[v, u, .int .i64 lim] A fun r A' => NewSl 9 strO A r A' (picked ids xs lim) := by
  obtain ⟨a, c, rfl, hc, hl⟩ := h.slice
  refine acalls Try.func27 rfl (by kernel_rfl) ?_
  simp (disch := omega) only [↓stp, vls, inf, frs, mark_eq, ↓reduceIte, Nat.reduceEqDiff, ite_tt, ite_ff, eq_self, and_true, true_and, and_self, implies_true, Bool.true_eq_false, Bool.false_eq_true, decide_true, decide_false, decide_eq_true_eq, decide_eq_false_iff_not, ne_eq, not_true_eq_false, not_false_eq_true, Bool.not_eq_true', Bool.not_eq_false', beq_self_eq_true, Bool.not_true, Bool.not_false, List.getElem?_toArray, List.getElem?_cons_zero, List.getElem?_cons_succ]
  refine (spec_goodOrder_c A _ _ ids xs h h').mono ?_
  rintro _ A ⟨rfl, rfl⟩
  simp (disch := omega) only [↓stp, vls, inf, frs, mark_eq, ↓reduceIte, Nat.reduceEqDiff, ite_tt, ite_ff, eq_self, and_true, true_and, and_self, implies_true, Bool.true_eq_false, Bool.false_eq_true, decide_true, decide_false, decide_eq_true_eq, decide_eq_false_iff_not, ne_eq, not_true_eq_false, not_false_eq_true, Bool.not_eq_true', Bool.not_eq_false', beq_self_eq_true, Bool.not_true, Bool.not_false, List.getElem?_toArray, List.getElem?_cons_zero, List.getElem?_cons_succ]
  refine ⟨fun e1 => ?_, fun e1 => ?_⟩ <;> simp (disch := omega) only [↓stp, vls, inf, frs, mark_eq, ↓reduceIte, Nat.reduceEqDiff, ite_tt, ite_ff, eq_self, and_true, true_and, and_self, implies_true, Bool.true_eq_false, Bool.false_eq_true, decide_true, decide_false, decide_eq_true_eq, decide_eq_false_iff_not, ne_eq, not_true_eq_false, not_false_eq_true, Bool.not_eq_true', Bool.not_eq_false', beq_self_eq_true, Bool.not_true, Bool.not_false, List.getElem?_toArray, List.getElem?_cons_zero, List.getElem?_cons_succ, e1]
  · refine (spec_inRange_c A _ _ _).mono ?_
    rintro _ A ⟨rfl, rfl⟩
    simp (disch := omega) only [↓stp, vls, inf, frs, mark_eq, ↓reduceIte, Nat.reduceEqDiff, ite_tt, ite_ff, eq_self, and_true, true_and, and_self, implies_true, Bool.true_eq_false, Bool.false_eq_true, decide_true, decide_false, decide_eq_true_eq, decide_eq_false_iff_not, ne_eq, not_true_eq_false, not_false_eq_true, Bool.not_eq_true', Bool.not_eq_false', beq_self_eq_true, Bool.not_true, Bool.not_false, List.getElem?_toArray, List.getElem?_cons_zero, List.getElem?_cons_succ, e1]
    refine ⟨fun e2 => ?_, fun e2 => ?_⟩ <;> simp (disch := omega) only [↓stp, vls, inf, frs, mark_eq, ↓reduceIte, Nat.reduceEqDiff, ite_tt, ite_ff, eq_self, and_true, true_and, and_self, implies_true, Bool.true_eq_false, Bool.false_eq_true, decide_true, decide_false, decide_eq_true_eq, decide_eq_false_iff_not, ne_eq, not_true_eq_false, not_false_eq_true, Bool.not_eq_true', Bool.not_eq_false', beq_self_eq_true, Bool.not_true, Bool.not_false, List.getElem?_toArray, List.getElem?_cons_zero, List.getElem?_cons_succ]
    · have : picked ids xs lim = [] := by unfold picked; rw [if_neg (by simp at e2 ⊢; omega)]
      rw [this]; exact NewSl.nil (Ext.refl _)
    · rw [Bool.and_eq_true, decide_eq_true_eq, decide_eq_true_eq] at e2
      rw [Bool.and_eq_true] at e1
      have hp : picked ids xs lim = (pst xs ids lim).1 := by unfold picked; rw [if_pos (by simp [e1.1, e1.2]; omega)]
      have hlen := idsB_len e1.1
      refine led_lit0 (O := strO) li25 (Led.nil A) fun b V2 _ l => ?_
      simp (disch := omega) only [↓stp, vls, inf, frs, mark_eq, ↓reduceIte, Nat.reduceEqDiff, ite_tt, ite_ff, eq_self, and_true, true_and, and_self, implies_true, Bool.true_eq_false, Bool.false_eq_true, decide_true, decide_false, decide_eq_true_eq, decide_eq_false_iff_not, ne_eq, not_true_eq_false, not_false_eq_true, Bool.not_eq_true', Bool.not_eq_false', beq_self_eq_true, Bool.not_true, Bool.not_false, List.getElem?_toArray, List.getElem?_cons_zero, List.getElem?_cons_succ]
      refine aloop (fun d fr A' => ∃ (i : Nat) (fp : List Nat) (w : Value), i ≤ ids.length ∧ d = ids.length - i ∧ Led A [osl 9 strO fp w (pst xs (ids.take i) lim).1] A' ∧ fr 0 = .slice a ids.length c ∧ fr 1 = u ∧ fr 2 = .int .i64 lim ∧ fr 7 = w ∧ fr 8 = .int .i64 (lim - (pst xs (ids.take i) lim).2) ∧ fr 9 = .int .i64 i) ids.length ⟨0, _, _, by omega, by omega, l, by rfl, by rfl, by rfl, by rfl, by show Value.int .i64 0 = _; congr 1; simp [pst], by rfl⟩ ?_
      rintro d fr A' ⟨i, fp, w, hi, rfl, l, h0, h1, h2, h7, h8, h9⟩
      simp (disch := omega) only [↓stp, vls, inf, frs, mark_eq, ↓reduceIte, Nat.reduceEqDiff, ite_tt, ite_ff, eq_self, and_true, true_and, and_self, implies_true, Bool.true_eq_false, Bool.false_eq_true, decide_true, decide_false, decide_eq_true_eq, decide_eq_false_iff_not, ne_eq, not_true_eq_false, not_false_eq_true, Bool.not_eq_true', Bool.not_eq_false', beq_self_eq_true, Bool.not_true, Bool.not_false, List.getElem?_toArray, List.getElem?_cons_zero, List.getElem?_cons_succ, h0, h1, h2, h7, h8, h9]
      refine ⟨fun e => ?_, fun e => ?_⟩
      · have hlt : i < ids.length := by omega
        have hE := l.ext
        obtain ⟨ad, rfl, hcl, hsz⟩ := (h.mono hE).str hlt
        have hin := pst_inv e1.2 ids lim (by omega) i hi
        have hco := costF_range e1.2 ids[i]
        have htk := pst_take (xs := xs) (lim := lim) hlt
        simp (disch := omega) only [↓stp, vls, inf, frs, mark_eq, ↓reduceIte, Nat.reduceEqDiff, ite_tt, ite_ff, eq_self, and_true, true_and, and_self, implies_true, Bool.true_eq_false, Bool.false_eq_true, decide_true, decide_false, decide_eq_true_eq, decide_eq_false_iff_not, ne_eq, not_true_eq_false, not_false_eq_true, Bool.not_eq_true', Bool.not_eq_false', beq_self_eq_true, Bool.not_true, Bool.not_false, List.getElem?_toArray, List.getElem?_cons_zero, List.getElem?_cons_succ, h0, h1, h2, h7, h8, h9, hcl]
        refine (spec_costOf_c A' u xs _ (h'.mono hE)).mono ?_
        rintro _ W ⟨rfl, rfl⟩
        simp (disch := omega) only [↓stp, vls, inf, frs, mark_eq, ↓reduceIte, Nat.reduceEqDiff, ite_tt, ite_ff, eq_self, and_true, true_and, and_self, implies_true, Bool.true_eq_false, Bool.false_eq_true, decide_true, decide_false, decide_eq_true_eq, decide_eq_false_iff_not, ne_eq, not_true_eq_false, not_false_eq_true, Bool.not_eq_true', Bool.not_eq_false', beq_self_eq_true, Bool.not_true, Bool.not_false, List.getElem?_toArray, List.getElem?_cons_zero, List.getElem?_cons_succ, h0, h1, h2, h7, h8, h9]
        refine ⟨fun e5 => ?_, fun e5 => ?_⟩ <;> simp (disch := omega) only [↓stp, vls, inf, frs, mark_eq, ↓reduceIte, Nat.reduceEqDiff, ite_tt, ite_ff, eq_self, and_true, true_and, and_self, implies_true, Bool.true_eq_false, Bool.false_eq_true, decide_true, decide_false, decide_eq_true_eq, decide_eq_false_iff_not, ne_eq, not_true_eq_false, not_false_eq_true, Bool.not_eq_true', Bool.not_eq_false', beq_self_eq_true, Bool.not_true, Bool.not_false, List.getElem?_toArray, List.getElem?_cons_zero, List.getElem?_cons_succ, h0, h1, h2, h7, h8, h9, hcl]
        · refine led_lit li25 (by omega) rfl (by simp [Value.cells, Value.oneCell']) l fun bl W2 _ l => ?_
          simp (disch := omega) only [↓stp, vls, inf, frs, mark_eq, ↓reduceIte, Nat.reduceEqDiff, ite_tt, ite_ff, eq_self, and_true, true_and, and_self, implies_true, Bool.true_eq_false, Bool.false_eq_true, decide_true, decide_false, decide_eq_true_eq, decide_eq_false_iff_not, ne_eq, not_true_eq_false, not_false_eq_true, Bool.not_eq_true', Bool.not_eq_false', beq_self_eq_true, Bool.not_true, Bool.not_false, List.getElem?_toArray, List.getElem?_cons_zero, List.getElem?_cons_succ, h0, h1, h2, h7, h8, h9]
          refine led_app (O := strO) ap25_25 (by decide) l (i := 1) rfl (l.src1 (S := strS) (j := 0) rfl ⟨rfl, hsz⟩) (by simp; omega) fun fp' w' W3 _ l => ?_
          simp (disch := omega) only [↓stp, vls, inf, frs, mark_eq, ↓reduceIte, Nat.reduceEqDiff, ite_tt, ite_ff, eq_self, and_true, true_and, and_self, implies_true, Bool.true_eq_false, Bool.false_eq_true, decide_true, decide_false, decide_eq_true_eq, decide_eq_false_iff_not, ne_eq, not_true_eq_false, not_false_eq_true, Bool.not_eq_true', Bool.not_eq_false', beq_self_eq_true, Bool.not_true, Bool.not_false, List.getElem?_toArray, List.getElem?_cons_zero, List.getElem?_cons_succ, h0, h1, h2, h7, h8, h9]
          unfold pstep at htk
          rw [if_pos (by omega)] at htk
          refine ⟨_, by omega, i + 1, fp', _, by omega, rfl, by rw [htk]; exact l.tail, rfl, ?_, rfl⟩
          rw [htk]; congr 1; simp only; omega
        · unfold pstep at htk
          rw [if_neg (by omega)] at htk
          exact ⟨_, by omega, i + 1, fp, _, by omega, rfl, by rw [htk]; exact l, rfl, by rw [htk], rfl⟩
      · simp (disch := omega) only [↓stp, vls, inf, frs, mark_eq, ↓reduceIte, Nat.reduceEqDiff, ite_tt, ite_ff, eq_self, and_true, true_and, and_self, implies_true, Bool.true_eq_false, Bool.false_eq_true, decide_true, decide_false, decide_eq_true_eq, decide_eq_false_iff_not, ne_eq, not_true_eq_false, not_false_eq_true, Bool.not_eq_true', Bool.not_eq_false', beq_self_eq_true, Bool.not_true, Bool.not_false, List.getElem?_toArray, List.getElem?_cons_zero, List.getElem?_cons_succ, h0, h1, h2, h7, h8, h9]
        have hi' : i = ids.length := by omega
        subst hi'
        rw [List.take_length] at l
        rw [hp]
        exact NewSl.of l (i := 0) rfl
  · have : picked ids xs lim = [] := by unfold picked; rw [if_neg (by rw [e1]; simp)]
    rw [this]; exact NewSl.nil (Ext.refl _)

end Go.Proofs.Ytaknlfkoomagoaa

