/- Causes: valid, failing; tests in order; what is shrunk. -/
import Derived.Test.YthimfjonfaomgaaQ1
import Derived.Test.YthimfjonfaomgaaGStringS
set_option maxHeartbeats 4000000
set_option synthInstance.maxHeartbeats 400000
set_option synthInstance.maxSize 4096
set_option linter.unusedSimpArgs false
set_option linter.unusedVariables false
namespace Go.Proofs.Ythimfjonfaomgaa

set_option maxRecDepth 100000

def causeB (c : List ByteArray) : Bool := decide (1 ≤ c.length) && decide (c.length ≤ 3) && idsB c
def causesB (cs : List (List ByteArray)) : Bool := cs.all causeB && decide (cs.length ≤ 4)
def inOrd (ids some : List ByteArray) : List ByteArray := ids.filter fun x => decide (x ∈ some)
def without (list drop : List ByteArray) : List ByteArray := list.filter fun x => !decide (x ∈ drop)
def failsI (cs : List (List ByteArray)) (ids : List ByteArray) : Bool := cs.any fun c => decide ((inOrd ids c).length = c.length)
def failsS (cs : List (List ByteArray)) (ids : List ByteArray) : Bool := cs.any fun c => decide ((without c ids).length = 0)

theorem idsB_len' {ids : List ByteArray} (h : idsB ids = true) : ids.length ≤ 10 := by
  unfold idsB at h
  rw [Bool.and_eq_true, decide_eq_true_eq] at h
  exact h.2
theorem idsB_nodup {ids : List ByteArray} (h : idsB ids = true) : ids.Nodup := by
  unfold idsB at h
  simp only [Bool.and_eq_true, decide_eq_true_eq] at h
  exact h.1.2

theorem filter_take1 {α : Type} {p : α → Bool} {xs : List α} {i : Nat} (h : i < xs.length) : (xs.take (i + 1)).filter p = (xs.take i).filter p ++ (if p xs[i] then [xs[i]] else []) := by
  rw [List.take_succ_eq_append_getElem h, List.filter_append]
  congr 1
  cases hp : p xs[i] <;> simp [List.filter_cons, hp]

theorem spec_inOrderOf_c (A : View) (v u : Value) (ids some : List ByteArray) (h : Sl strS A v ids) (h' : Sl strS A u some) (hsm : ids.length ≤ 16777215) : ACalls Try.prog 86 #[v, u] A fun r A' => NewSl 9 strO A r A' (inOrd ids some) := by
  obtain ⟨a, c, rfl, hc, hl⟩ := h.slice
  refine acalls Try.func86 rfl (by kernel_rfl) ?_
  simp (disch := omega) only [↓stp, vls, inf, frs, mark_eq, ↓reduceIte, Nat.reduceEqDiff, ite_tt, ite_ff, eq_self, and_true, true_and, and_self, implies_true, Bool.true_eq_false, Bool.false_eq_true, decide_true, decide_false, decide_eq_true_eq, decide_eq_false_iff_not, ne_eq, not_true_eq_false, not_false_eq_true, Bool.not_eq_true', Bool.not_eq_false', beq_self_eq_true, Bool.not_true, Bool.not_false, List.getElem?_toArray, List.getElem?_cons_zero, List.getElem?_cons_succ]
  refine led_lit0 (O := strO) li24 (Led.nil A) fun b V _ l => ?_
  simp (disch := omega) only [↓stp, vls, inf, frs, mark_eq, ↓reduceIte, Nat.reduceEqDiff, ite_tt, ite_ff, eq_self, and_true, true_and, and_self, implies_true, Bool.true_eq_false, Bool.false_eq_true, decide_true, decide_false, decide_eq_true_eq, decide_eq_false_iff_not, ne_eq, not_true_eq_false, not_false_eq_true, Bool.not_eq_true', Bool.not_eq_false', beq_self_eq_true, Bool.not_true, Bool.not_false, List.getElem?_toArray, List.getElem?_cons_zero, List.getElem?_cons_succ]
  refine aloop (fun d fr A' => ∃ (i : Nat) (fp : List Nat) (w : Value), i ≤ ids.length ∧ d = ids.length - i ∧ Led A [osl 9 strO fp w ((ids.take i).filter (fun x => decide (x ∈ some)))] A' ∧ fr 0 = .slice a ids.length c ∧ fr 1 = u ∧ fr 5 = w ∧ fr 6 = .int .i64 i) ids.length ⟨0, _, _, by omega, by omega, l, by rfl, by rfl, by rfl, by rfl⟩ ?_
  rintro d fr A' ⟨i, fp, w, hi, rfl, l, h0, h1, h5, h6⟩
  simp (disch := omega) only [↓stp, vls, inf, frs, mark_eq, ↓reduceIte, Nat.reduceEqDiff, ite_tt, ite_ff, eq_self, and_true, true_and, and_self, implies_true, Bool.true_eq_false, Bool.false_eq_true, decide_true, decide_false, decide_eq_true_eq, decide_eq_false_iff_not, ne_eq, not_true_eq_false, not_false_eq_true, Bool.not_eq_true', Bool.not_eq_false', beq_self_eq_true, Bool.not_true, Bool.not_false, List.getElem?_toArray, List.getElem?_cons_zero, List.getElem?_cons_succ, h0, h1, h5, h6]
  refine ⟨fun e => ?_, fun e => ?_⟩
  · have hlt : i < ids.length := by omega
    obtain ⟨ad, rfl, hcl, hsz⟩ := (h.mono l.ext).str hlt
    have hft := filter_take1 (p := fun x => decide (x ∈ some)) hlt
    simp (disch := omega) only [↓stp, vls, inf, frs, mark_eq, ↓reduceIte, Nat.reduceEqDiff, ite_tt, ite_ff, eq_self, and_true, true_and, and_self, implies_true, Bool.true_eq_false, Bool.false_eq_true, decide_true, decide_false, decide_eq_true_eq, decide_eq_false_iff_not, ne_eq, not_true_eq_false, not_false_eq_true, Bool.not_eq_true', Bool.not_eq_false', beq_self_eq_true, Bool.not_true, Bool.not_false, List.getElem?_toArray, List.getElem?_cons_zero, List.getElem?_cons_succ, h0, h1, h5, h6, hcl]
    refine (spec_hasText_c A' u some _ (h'.mono l.ext)).mono ?_
    rintro _ A' ⟨rfl, rfl⟩
    simp (disch := omega) only [↓stp, vls, inf, frs, mark_eq, ↓reduceIte, Nat.reduceEqDiff, ite_tt, ite_ff, eq_self, and_true, true_and, and_self, implies_true, Bool.true_eq_false, Bool.false_eq_true, decide_true, decide_false, decide_eq_true_eq, decide_eq_false_iff_not, ne_eq, not_true_eq_false, not_false_eq_true, Bool.not_eq_true', Bool.not_eq_false', beq_self_eq_true, Bool.not_true, Bool.not_false, List.getElem?_toArray, List.getElem?_cons_zero, List.getElem?_cons_succ, h0, h1, h5, h6]
    refine ⟨fun e1 => ?_, fun e1 => ?_⟩ <;> simp (disch := omega) only [↓stp, vls, inf, frs, mark_eq, ↓reduceIte, Nat.reduceEqDiff, ite_tt, ite_ff, eq_self, and_true, true_and, and_self, implies_true, Bool.true_eq_false, Bool.false_eq_true, decide_true, decide_false, decide_eq_true_eq, decide_eq_false_iff_not, ne_eq, not_true_eq_false, not_false_eq_true, Bool.not_eq_true', Bool.not_eq_false', beq_self_eq_true, Bool.not_true, Bool.not_false, List.getElem?_toArray, List.getElem?_cons_zero, List.getElem?_cons_succ, h0, h1, h5, h6, hcl]
    · rw [if_pos (decide_eq_true e1)] at hft
      have hfl : (List.filter (fun x => decide (x ∈ some)) (ids.take i)).length ≤ i := Nat.le_trans (List.length_filter_le _ _) (by simp; omega)
      refine led_lit li24 (by omega) rfl (by simp [Value.cells, Value.oneCell']) l fun bl W2 _ l => ?_
      simp (disch := omega) only [↓stp, vls, inf, frs, mark_eq, ↓reduceIte, Nat.reduceEqDiff, ite_tt, ite_ff, eq_self, and_true, true_and, and_self, implies_true, Bool.true_eq_false, Bool.false_eq_true, decide_true, decide_false, decide_eq_true_eq, decide_eq_false_iff_not, ne_eq, not_true_eq_false, not_false_eq_true, Bool.not_eq_true', Bool.not_eq_false', beq_self_eq_true, Bool.not_true, Bool.not_false, List.getElem?_toArray, List.getElem?_cons_zero, List.getElem?_cons_succ, h0, h1, h5, h6]
      refine led_app (O := strO) ap24_24 (by decide) l (i := 1) rfl (l.src1 (S := strS) (j := 0) rfl ⟨rfl, hsz⟩) (by rw [List.length_singleton]; omega) fun fp' w' W3 _ l => ?_
      simp (disch := omega) only [↓stp, vls, inf, frs, mark_eq, ↓reduceIte, Nat.reduceEqDiff, ite_tt, ite_ff, eq_self, and_true, true_and, and_self, implies_true, Bool.true_eq_false, Bool.false_eq_true, decide_true, decide_false, decide_eq_true_eq, decide_eq_false_iff_not, ne_eq, not_true_eq_false, not_false_eq_true, Bool.not_eq_true', Bool.not_eq_false', beq_self_eq_true, Bool.not_true, Bool.not_false, List.getElem?_toArray, List.getElem?_cons_zero, List.getElem?_cons_succ, h0, h1, h5, h6]
      exact ⟨_, by omega, i + 1, fp', _, by omega, rfl, by rw [hft]; exact l.tail, rfl, rfl⟩
    · rw [if_neg (by rw [decide_eq_false e1]; simp), List.append_nil] at hft
      exact ⟨_, by omega, i + 1, fp, _, by omega, rfl, by rw [hft]; exact l, rfl, rfl⟩
  · simp (disch := omega) only [↓stp, vls, inf, frs, mark_eq, ↓reduceIte, Nat.reduceEqDiff, ite_tt, ite_ff, eq_self, and_true, true_and, and_self, implies_true, Bool.true_eq_false, Bool.false_eq_true, decide_true, decide_false, decide_eq_true_eq, decide_eq_false_iff_not, ne_eq, not_true_eq_false, not_false_eq_true, Bool.not_eq_true', Bool.not_eq_false', beq_self_eq_true, Bool.not_true, Bool.not_false, List.getElem?_toArray, List.getElem?_cons_zero, List.getElem?_cons_succ, h0, h1, h5, h6]
    have hi' : i = ids.length := by omega
    subst hi'
    rw [List.take_length] at l
    exact NewSl.of l (i := 0) rfl

theorem impl_inOrderOf_c (A : View) (v u : Value) (ids some : List ByteArray) (h : Sl strS A v ids) (h' : Sl strS A u some) (hsm : ids.length ≤ 16777215) : ACalls Try.prog 66 #[v, u] A fun r A' => NewSl 9 strO A r A' (inOrd ids some) := by
  obtain ⟨a, c, rfl, hc, hl⟩ := h.slice
  refine acalls Try.func66 rfl (by kernel_rfl) ?_
  simp (disch := omega) only [↓stp, vls, inf, frs, mark_eq, ↓reduceIte, Nat.reduceEqDiff, ite_tt, ite_ff, eq_self, and_true, true_and, and_self, implies_true, Bool.true_eq_false, Bool.false_eq_true, decide_true, decide_false, decide_eq_true_eq, decide_eq_false_iff_not, ne_eq, not_true_eq_false, not_false_eq_true, Bool.not_eq_true', Bool.not_eq_false', beq_self_eq_true, Bool.not_true, Bool.not_false, List.getElem?_toArray, List.getElem?_cons_zero, List.getElem?_cons_succ]
  refine led_lit0 (O := strO) li24 (Led.nil A) fun b V _ l => ?_
  simp (disch := omega) only [↓stp, vls, inf, frs, mark_eq, ↓reduceIte, Nat.reduceEqDiff, ite_tt, ite_ff, eq_self, and_true, true_and, and_self, implies_true, Bool.true_eq_false, Bool.false_eq_true, decide_true, decide_false, decide_eq_true_eq, decide_eq_false_iff_not, ne_eq, not_true_eq_false, not_false_eq_true, Bool.not_eq_true', Bool.not_eq_false', beq_self_eq_true, Bool.not_true, Bool.not_false, List.getElem?_toArray, List.getElem?_cons_zero, List.getElem?_cons_succ]
  refine aloop (fun d fr A' => ∃ (i : Nat) (fp : List Nat) (w : Value), i ≤ ids.length ∧ d = ids.length - i ∧ Led A [osl 9 strO fp w ((ids.take i).filter (fun x => decide (x ∈ some)))] A' ∧ fr 1 = u ∧ fr 5 = w ∧ fr 9 = .slice a ids.length c ∧ fr 10 = .int .i64 ids.length ∧ fr 11 = .int .i64 i) ids.length ⟨0, _, _, by omega, by omega, l, by rfl, by rfl, by rfl, by rfl, by rfl⟩ ?_
  rintro d fr A' ⟨i, fp, w, hi, rfl, l, h1, h5, h9, h10, h11⟩
  simp (disch := omega) only [↓stp, vls, inf, frs, mark_eq, ↓reduceIte, Nat.reduceEqDiff, ite_tt, ite_ff, eq_self, and_true, true_and, and_self, implies_true, Bool.true_eq_false, Bool.false_eq_true, decide_true, decide_false, decide_eq_true_eq, decide_eq_false_iff_not, ne_eq, not_true_eq_false, not_false_eq_true, Bool.not_eq_true', Bool.not_eq_false', beq_self_eq_true, Bool.not_true, Bool.not_false, List.getElem?_toArray, List.getElem?_cons_zero, List.getElem?_cons_succ, h1, h5, h9, h10, h11]
  refine ⟨fun e => ?_, fun e => ?_⟩
  · have hlt : i < ids.length := by omega
    obtain ⟨ad, rfl, hcl, hsz⟩ := (h.mono l.ext).str hlt
    have hft := filter_take1 (p := fun x => decide (x ∈ some)) hlt
    simp (disch := omega) only [↓stp, vls, inf, frs, mark_eq, ↓reduceIte, Nat.reduceEqDiff, ite_tt, ite_ff, eq_self, and_true, true_and, and_self, implies_true, Bool.true_eq_false, Bool.false_eq_true, decide_true, decide_false, decide_eq_true_eq, decide_eq_false_iff_not, ne_eq, not_true_eq_false, not_false_eq_true, Bool.not_eq_true', Bool.not_eq_false', beq_self_eq_true, Bool.not_true, Bool.not_false, List.getElem?_toArray, List.getElem?_cons_zero, List.getElem?_cons_succ, h1, h5, h9, h10, h11, hcl]
    refine (contains_str_c A' u some _ (h'.mono l.ext)).mono ?_
    rintro _ A' ⟨rfl, rfl⟩
    simp (disch := omega) only [↓stp, vls, inf, frs, mark_eq, ↓reduceIte, Nat.reduceEqDiff, ite_tt, ite_ff, eq_self, and_true, true_and, and_self, implies_true, Bool.true_eq_false, Bool.false_eq_true, decide_true, decide_false, decide_eq_true_eq, decide_eq_false_iff_not, ne_eq, not_true_eq_false, not_false_eq_true, Bool.not_eq_true', Bool.not_eq_false', beq_self_eq_true, Bool.not_true, Bool.not_false, List.getElem?_toArray, List.getElem?_cons_zero, List.getElem?_cons_succ, h1, h5, h9, h10, h11]
    refine ⟨fun e1 => ?_, fun e1 => ?_⟩ <;> simp (disch := omega) only [↓stp, vls, inf, frs, mark_eq, ↓reduceIte, Nat.reduceEqDiff, ite_tt, ite_ff, eq_self, and_true, true_and, and_self, implies_true, Bool.true_eq_false, Bool.false_eq_true, decide_true, decide_false, decide_eq_true_eq, decide_eq_false_iff_not, ne_eq, not_true_eq_false, not_false_eq_true, Bool.not_eq_true', Bool.not_eq_false', beq_self_eq_true, Bool.not_true, Bool.not_false, List.getElem?_toArray, List.getElem?_cons_zero, List.getElem?_cons_succ, h1, h5, h9, h10, h11]
    · rw [if_pos (decide_eq_true e1)] at hft
      have hfl : (List.filter (fun x => decide (x ∈ some)) (ids.take i)).length ≤ i := Nat.le_trans (List.length_filter_le _ _) (by simp; omega)
      refine led_lit li24 (by omega) rfl (by simp [Value.cells, Value.oneCell']) l fun bl W2 _ l => ?_
      simp (disch := omega) only [↓stp, vls, inf, frs, mark_eq, ↓reduceIte, Nat.reduceEqDiff, ite_tt, ite_ff, eq_self, and_true, true_and, and_self, implies_true, Bool.true_eq_false, Bool.false_eq_true, decide_true, decide_false, decide_eq_true_eq, decide_eq_false_iff_not, ne_eq, not_true_eq_false, not_false_eq_true, Bool.not_eq_true', Bool.not_eq_false', beq_self_eq_true, Bool.not_true, Bool.not_false, List.getElem?_toArray, List.getElem?_cons_zero, List.getElem?_cons_succ, h1, h5, h9, h10, h11]
      refine led_app (O := strO) ap24_24 (by decide) l (i := 1) rfl (l.src1 (S := strS) (j := 0) rfl ⟨rfl, hsz⟩) (by rw [List.length_singleton]; omega) fun fp' w' W3 _ l => ?_
      simp (disch := omega) only [↓stp, vls, inf, frs, mark_eq, ↓reduceIte, Nat.reduceEqDiff, ite_tt, ite_ff, eq_self, and_true, true_and, and_self, implies_true, Bool.true_eq_false, Bool.false_eq_true, decide_true, decide_false, decide_eq_true_eq, decide_eq_false_iff_not, ne_eq, not_true_eq_false, not_false_eq_true, Bool.not_eq_true', Bool.not_eq_false', beq_self_eq_true, Bool.not_true, Bool.not_false, List.getElem?_toArray, List.getElem?_cons_zero, List.getElem?_cons_succ, h1, h5, h9, h10, h11]
      exact ⟨_, by omega, i + 1, fp', _, by omega, rfl, by rw [hft]; exact l.tail, rfl, rfl⟩
    · rw [if_neg (by rw [decide_eq_false e1]; simp), List.append_nil] at hft
      exact ⟨_, by omega, i + 1, fp, _, by omega, rfl, by rw [hft]; exact l, rfl, rfl⟩
  · simp (disch := omega) only [↓stp, vls, inf, frs, mark_eq, ↓reduceIte, Nat.reduceEqDiff, ite_tt, ite_ff, eq_self, and_true, true_and, and_self, implies_true, Bool.true_eq_false, Bool.false_eq_true, decide_true, decide_false, decide_eq_true_eq, decide_eq_false_iff_not, ne_eq, not_true_eq_false, not_false_eq_true, Bool.not_eq_true', Bool.not_eq_false', beq_self_eq_true, Bool.not_true, Bool.not_false, List.getElem?_toArray, List.getElem?_cons_zero, List.getElem?_cons_succ, h1, h5, h9, h10, h11]
    have hi' : i = ids.length := by omega
    subst hi'
    rw [List.take_length] at l
    exact NewSl.of l (i := 0) rfl

end Go.Proofs.Ythimfjonfaomgaa

