/- Expressions: the reference's scanner. -/
import Derived.Test.YtbddklkfekiaeaaU2
import Derived.Test.YtbddklkfekiaeaaV2
import Derived.Test.YtbddklkfekiaeaaZ0
set_option maxHeartbeats 4000000
set_option synthInstance.maxHeartbeats 400000
set_option synthInstance.maxSize 4096
set_option linter.unusedSimpArgs false
set_option linter.unusedVariables false
namespace Go.Proofs.Ytbddklkfekiaeaa

set_option maxRecDepth 100000

theorem decide_pre {t w : ByteArray} {i : Nat} (hi : i ≤ t.size) (h1 : i + w.size ≤ t.size) : decide (t.extract i (i + w.size) = w) = w.data.toList.isPrefixOf (t.data.toList.drop i) := by
  rw [Bool.eq_iff_iff, decide_eq_true_eq, ← pre_iff hi]
  exact ⟨fun h => ⟨h1, h⟩, fun h => h.2⟩

theorem spec_eat_c (B A : View) (L : List It) (q : Nat) (t w : ByteArray) (i : Nat) (rest : List Value) (hi : i ≤ t.size) (ht : t.size ≤ 60) (hw : w.size ≤ 100) (l : Led B (bx q ⟨97, .string t :: .int .i64 (i : Int) :: rest, 7, true⟩ :: L) A) :
    ACalls Try.prog 116 #[.pointer (some ⟨q, 0, none⟩), .string w] A fun r V => r = .bool (w.data.toList.isPrefixOf (t.data.toList.drop i)) ∧ Led B (bx q ⟨97, .string t :: .int .i64 ((if w.data.toList.isPrefixOf (t.data.toList.drop i) then i + w.size else i : Nat) : Int) :: rest, 7, true⟩ :: L) V := by
  have hpi := pre_iff (t := t) (w := w) hi
  have k0 := l.cell (i := 0) rfl (o := 0) rfl rfl
  have k1 := l.cell (i := 0) rfl (o := 1) rfl rfl
  have hsum : (i : Int) + (w.size : Int) = ((i + w.size : Nat) : Int) := by omega
  refine acalls Try.func116 rfl (by kernel_rfl) ?_
  simp (disch := omega) only [↓stq, amv_at, vls, inf, frs, mark_eq, ↓reduceIte, Nat.reduceEqDiff, ite_tt, ite_ff, eq_self, and_true, true_and, and_self, implies_true, Bool.true_eq_false, Bool.false_eq_true, decide_true, decide_false, decide_eq_true_eq, decide_eq_false_iff_not, ne_eq, not_true_eq_false, not_false_eq_true, Bool.not_eq_true', Bool.not_eq_false', beq_self_eq_true, Bool.not_true, Bool.not_false, List.getElem?_toArray, List.getElem?_cons_zero, List.getElem?_cons_succ]
  simp (disch := omega) only [↓stq, amv_at, vls, inf, frs, mark_eq, ↓reduceIte, Nat.reduceEqDiff, ite_tt, ite_ff, eq_self, and_true, true_and, and_self, implies_true, Bool.true_eq_false, Bool.false_eq_true, decide_true, decide_false, decide_eq_true_eq, decide_eq_false_iff_not, ne_eq, not_true_eq_false, not_false_eq_true, Bool.not_eq_true', Bool.not_eq_false', beq_self_eq_true, Bool.not_true, Bool.not_false, List.getElem?_toArray, List.getElem?_cons_zero, List.getElem?_cons_succ, ↓aop_nilV, anilV_ptr, add_at, k0, k1, hsum]
  refine adraw_items [.q 0, .q 1, .q 2, .q 3, .l 4 false, .q 5, .q 6, .q 7, .q 8, .q 9, .q 10, .l 11 false, .q 12, .q 13, .q 14, .l 15 false, .q 16, .q 17, .q 18, .q 19, .q 20] (by kernel_rfl) (by kernel_rfl) ?_
  simp (disch := omega) only [↓stq, amv_at, ↓pln, plv, nilOk, Nat.reduceBEq, Bool.or_false, Bool.or_true, Bool.false_or, Bool.true_or, vls, inf, frs, mark_eq, ↓reduceIte, Nat.reduceEqDiff, ite_tt, ite_ff, eq_self, and_true, true_and, and_self, implies_true, Bool.true_eq_false, Bool.false_eq_true, decide_true, decide_false, decide_eq_true_eq, decide_eq_false_iff_not, ne_eq, not_true_eq_false, not_false_eq_true, Bool.not_eq_true', Bool.not_eq_false', beq_self_eq_true, Bool.not_true, Bool.not_false, List.getElem?_toArray, List.getElem?_cons_zero, List.getElem?_cons_succ, ↓aop_nilV, anilV_ptr, add_at, k0, k1, hsum]
  refine ⟨fun e1 => ?_, fun e1 => ?_⟩
  · have hle : i + w.size ≤ t.size := by omega
    have hd := decide_pre hi hle
    simp (disch := omega) only [↓stq, amv_at, ↓pln, plv, nilOk, Nat.reduceBEq, Bool.or_false, Bool.or_true, Bool.false_or, Bool.true_or, vls, inf, frs, mark_eq, ↓reduceIte, Nat.reduceEqDiff, ite_tt, ite_ff, eq_self, and_true, true_and, and_self, implies_true, Bool.true_eq_false, Bool.false_eq_true, decide_true, decide_false, decide_eq_true_eq, decide_eq_false_iff_not, ne_eq, not_true_eq_false, not_false_eq_true, Bool.not_eq_true', Bool.not_eq_false', beq_self_eq_true, Bool.not_true, Bool.not_false, List.getElem?_toArray, List.getElem?_cons_zero, List.getElem?_cons_succ, ↓aop_nilV, anilV_ptr, add_at, k0, k1, e1, hsum]
    refine ⟨fun e2 => ?_, fun e2 => ?_⟩
    · rw [decide_eq_false e2] at hd
      simp (disch := omega) only [↓stq, amv_at, vls, inf, frs, mark_eq, ↓reduceIte, Nat.reduceEqDiff, ite_tt, ite_ff, eq_self, and_true, true_and, and_self, implies_true, Bool.true_eq_false, Bool.false_eq_true, decide_true, decide_false, decide_eq_true_eq, decide_eq_false_iff_not, ne_eq, not_true_eq_false, not_false_eq_true, Bool.not_eq_true', Bool.not_eq_false', beq_self_eq_true, Bool.not_true, Bool.not_false, List.getElem?_toArray, List.getElem?_cons_zero, List.getElem?_cons_succ]
      rw [← hd]
      exact ⟨rfl, l⟩
    · have e3 : t.extract i (i + w.size) = w := Classical.byContradiction e2
      rw [decide_eq_true e3] at hd
      simp (disch := omega) only [↓stq, amv_at, vls, inf, frs, mark_eq, ↓reduceIte, Nat.reduceEqDiff, ite_tt, ite_ff, eq_self, and_true, true_and, and_self, implies_true, Bool.true_eq_false, Bool.false_eq_true, decide_true, decide_false, decide_eq_true_eq, decide_eq_false_iff_not, ne_eq, not_true_eq_false, not_false_eq_true, Bool.not_eq_true', Bool.not_eq_false', beq_self_eq_true, Bool.not_true, Bool.not_false, List.getElem?_toArray, List.getElem?_cons_zero, List.getElem?_cons_succ, ↓aop_nilV, anilV_ptr, add_at]
      refine led_store l 0 rfl sz3 (by rfl) (by simp) (by rfl) fun V l => ?_
      simp (disch := omega) only [↓stq, amv_at, vls, inf, frs, mark_eq, ↓reduceIte, Nat.reduceEqDiff, ite_tt, ite_ff, eq_self, and_true, true_and, and_self, implies_true, Bool.true_eq_false, Bool.false_eq_true, decide_true, decide_false, decide_eq_true_eq, decide_eq_false_iff_not, ne_eq, not_true_eq_false, not_false_eq_true, Bool.not_eq_true', Bool.not_eq_false', beq_self_eq_true, Bool.not_true, Bool.not_false, List.getElem?_toArray, List.getElem?_cons_zero, List.getElem?_cons_succ]
      rw [← hd]
      exact ⟨rfl, l⟩
  · have hf : w.data.toList.isPrefixOf (t.data.toList.drop i) = false := by
      cases hq : w.data.toList.isPrefixOf (t.data.toList.drop i) with
      | false => rfl
      | true => have := (hpi.2 hq).1; omega
    simp (disch := omega) only [↓stq, amv_at, ↓pln, plv, nilOk, Nat.reduceBEq, Bool.or_false, Bool.or_true, Bool.false_or, Bool.true_or, vls, inf, frs, mark_eq, ↓reduceIte, Nat.reduceEqDiff, ite_tt, ite_ff, eq_self, and_true, true_and, and_self, implies_true, Bool.true_eq_false, Bool.false_eq_true, decide_true, decide_false, decide_eq_true_eq, decide_eq_false_iff_not, ne_eq, not_true_eq_false, not_false_eq_true, Bool.not_eq_true', Bool.not_eq_false', beq_self_eq_true, Bool.not_true, Bool.not_false, List.getElem?_toArray, List.getElem?_cons_zero, List.getElem?_cons_succ, ↓aop_nilV, anilV_ptr, add_at, k0, k1, e1]
    rw [hf]
    exact ⟨rfl, l⟩

/-- The letters at a place. -/
def wordAt (t : ByteArray) (i : Nat) : Bs := (t.data.toList.drop i).takeWhile lettr
theorem wordAt_drop (t : ByteArray) (i : Nat) : t.data.toList.drop (i + (wordAt t i).length) = (t.data.toList.drop i).dropWhile lettr := by
  unfold wordAt
  rw [← List.drop_drop]
  generalize t.data.toList.drop i = l
  conv => lhs; arg 2; rw [← List.takeWhile_append_dropWhile (p := lettr) (l := l)]
  rw [List.drop_append_of_le_length (Nat.le_refl _), List.drop_length, List.nil_append]
theorem wordAt_len {t : ByteArray} {i : Nat} (hi : i ≤ t.size) : i + (wordAt t i).length ≤ t.size := by
  have := take_drop_len lettr (t.data.toList.drop i)
  unfold wordAt
  rw [List.length_drop, toList_len] at this
  omega
theorem word_end {t : ByteArray} {i n : Nat} (h1 : ((t.data.toList.drop i).take n).all lettr = true) (hn : i + n ≤ t.size) (h2 : i + n = t.size ∨ ∃ h : i + n < t.size, lettr (t.data.toList[i + n]'(by rw [toList_len]; exact h)) = false) : (wordAt t i) = (t.data.toList.drop i).take n ∧ (wordAt t i).length = n ∧ t.extract i (i + n) = tx (wordAt t i) := by
  have hl : (t.data.toList.drop i).length = t.size - i := by rw [List.length_drop, toList_len]
  have h := letters_end (l := t.data.toList.drop i) (n := n) h1 (by
    rcases h2 with h2 | ⟨h2, h3⟩
    · left; omega
    · right
      refine ⟨by omega, ?_⟩
      rw [List.getElem_drop]; exact h3) (by omega)
  have h0 : wordAt t i = (t.data.toList.drop i).take n := h.1
  refine ⟨h0, by rw [h0, List.length_take]; omega, ba_ext ?_⟩
  rw [toList_extract, Nat.add_sub_cancel_left, h0]
  rfl
theorem all_take_drop {t : ByteArray} {i n : Nat} (h : i + n < t.size) (h1 : ((t.data.toList.drop i).take n).all lettr = true) (h2 : lettr (t.data.toList[i + n]'(by rw [toList_len]; exact h)) = true) : ((t.data.toList.drop i).take (n + 1)).all lettr = true := by
  have hl : n < (t.data.toList.drop i).length := by rw [List.length_drop, toList_len]; omega
  rw [List.take_succ_eq_append_getElem hl, List.all_append, h1, List.getElem_drop, List.all_cons, List.all_nil, Bool.and_true, Bool.true_and]
  exact h2

theorem spec_nameAt_c (B A : View) (L : List It) (q : Nat) (t : ByteArray) (i : Nat) (rest : List Value) (hi : i ≤ t.size) (ht : t.size ≤ 60) (l : Led B (bx q ⟨97, .string t :: .int .i64 (i : Int) :: rest, 7, true⟩ :: L) A) :
    ACalls Try.prog 127 #[.pointer (some ⟨q, 0, none⟩)] A fun r V => r = .string (tx (wordAt t i)) ∧ Led B (bx q ⟨97, .string t :: .int .i64 ((i + (wordAt t i).length : Nat) : Int) :: rest, 7, true⟩ :: L) V := by
  have k0 := l.cell (i := 0) rfl (o := 0) rfl rfl
  have k1 := l.cell (i := 0) rfl (o := 1) rfl rfl
  refine acalls Try.func127 rfl (by kernel_rfl) ?_
  simp (disch := omega) only [↓stq, amv_at, vls, inf, frs, mark_eq, ↓reduceIte, Nat.reduceEqDiff, ite_tt, ite_ff, eq_self, and_true, true_and, and_self, implies_true, Bool.true_eq_false, Bool.false_eq_true, decide_true, decide_false, decide_eq_true_eq, decide_eq_false_iff_not, ne_eq, not_true_eq_false, not_false_eq_true, Bool.not_eq_true', Bool.not_eq_false', beq_self_eq_true, Bool.not_true, Bool.not_false, List.getElem?_toArray, List.getElem?_cons_zero, List.getElem?_cons_succ]
  simp (disch := omega) only [↓stq, amv_at, vls, inf, frs, mark_eq, ↓reduceIte, Nat.reduceEqDiff, ite_tt, ite_ff, eq_self, and_true, true_and, and_self, implies_true, Bool.true_eq_false, Bool.false_eq_true, decide_true, decide_false, decide_eq_true_eq, decide_eq_false_iff_not, ne_eq, not_true_eq_false, not_false_eq_true, Bool.not_eq_true', Bool.not_eq_false', beq_self_eq_true, Bool.not_true, Bool.not_false, List.getElem?_toArray, List.getElem?_cons_zero, List.getElem?_cons_succ, ↓aop_nilV, anilV_ptr, add_at, k0, k1]
  refine aloop (fun d fr V => ∃ n : Nat, i + n ≤ t.size ∧ d = t.size - (i + n) ∧ Led B (bx q ⟨97, .string t :: .int .i64 ((i + n : Nat) : Int) :: rest, 7, true⟩ :: L) V ∧ fr 0 = .pointer (some ⟨q, 0, none⟩) ∧ fr 3 = .int .i64 i ∧ ((t.data.toList.drop i).take n).all lettr = true) (t.size - i) ⟨0, by omega, by omega, l, by rfl, by rfl, by simp⟩ ?_
  clear l k0 k1
  rintro d fr V ⟨n, hn, rfl, l, h0, h3, hall⟩
  have k0 := l.cell (i := 0) rfl (o := 0) rfl rfl
  have k1 := l.cell (i := 0) rfl (o := 1) rfl rfl
  have fin : (i + n = t.size ∨ ∃ h : i + n < t.size, lettr (t.data.toList[i + n]'(by rw [toList_len]; exact h)) = false) → Value.string (t.extract i (i + n)) = .string (tx (wordAt t i)) ∧ Led B (bx q ⟨97, .string t :: .int .i64 ((i + (wordAt t i).length : Nat) : Int) :: rest, 7, true⟩ :: L) V := fun h => by
    obtain ⟨h1, h2, h3⟩ := word_end hall hn h
    rw [h2, h3]
    exact ⟨rfl, l⟩
  simp (disch := omega) only [↓stq, amv_at, vls, inf, frs, mark_eq, ↓reduceIte, Nat.reduceEqDiff, ite_tt, ite_ff, eq_self, and_true, true_and, and_self, implies_true, Bool.true_eq_false, Bool.false_eq_true, decide_true, decide_false, decide_eq_true_eq, decide_eq_false_iff_not, ne_eq, not_true_eq_false, not_false_eq_true, Bool.not_eq_true', Bool.not_eq_false', beq_self_eq_true, Bool.not_true, Bool.not_false, List.getElem?_toArray, List.getElem?_cons_zero, List.getElem?_cons_succ, h0, h3]
  refine adraw_itemsF [.q 0, .q 1, .q 2, .l 3 false, .q 4, .q 5, .q 6, .l 7 false, .q 8, .q 9, .q 10, .q 11, .q 12, .q 13, .l 14 false, .q 15, .q 16, .q 17, .l 18 false, .q 19, .q 20, .q 21, .q 22, .q 23, .q 24, .q 25, .l 26 false, .q 27, .q 28, .q 29, .l 30 false, .q 31, .q 32, .q 33] (by kernel_rfl) (by kernel_rfl) ?_
  simp (disch := omega) only [↓stq, amv_at, ↓pln, plv, nilOk, Nat.reduceBEq, Bool.or_false, Bool.or_true, Bool.false_or, Bool.true_or, vls, inf, frs, mark_eq, ↓reduceIte, Nat.reduceEqDiff, ite_tt, ite_ff, eq_self, and_true, true_and, and_self, implies_true, Bool.true_eq_false, Bool.false_eq_true, decide_true, decide_false, decide_eq_true_eq, decide_eq_false_iff_not, ne_eq, not_true_eq_false, not_false_eq_true, Bool.not_eq_true', Bool.not_eq_false', beq_self_eq_true, Bool.not_true, Bool.not_false, List.getElem?_toArray, List.getElem?_cons_zero, List.getElem?_cons_succ, h0, h3, ↓aop_nilV, anilV_ptr, add_at, k0, k1]
  refine ⟨fun e1 => ?_, fun e1 => ?_⟩
  · have hlt : i + n < t.size := by omega
    have hls := lettr_sbyte hlt
    simp (disch := omega) only [↓stq, amv_at, ↓pln, plv, nilOk, Nat.reduceBEq, Bool.or_false, Bool.or_true, Bool.false_or, Bool.true_or, vls, inf, frs, mark_eq, ↓reduceIte, Nat.reduceEqDiff, ite_tt, ite_ff, eq_self, and_true, true_and, and_self, implies_true, Bool.true_eq_false, Bool.false_eq_true, decide_true, decide_false, decide_eq_true_eq, decide_eq_false_iff_not, ne_eq, not_true_eq_false, not_false_eq_true, Bool.not_eq_true', Bool.not_eq_false', beq_self_eq_true, Bool.not_true, Bool.not_false, List.getElem?_toArray, List.getElem?_cons_zero, List.getElem?_cons_succ, h0, h3, ↓aop_nilV, anilV_ptr, add_at, k0, k1, e1]
    refine ⟨fun e2 => ?_, fun e2 => ?_⟩
    · simp (disch := omega) only [↓stq, amv_at, ↓pln, plv, nilOk, Nat.reduceBEq, Bool.or_false, Bool.or_true, Bool.false_or, Bool.true_or, vls, inf, frs, mark_eq, ↓reduceIte, Nat.reduceEqDiff, ite_tt, ite_ff, eq_self, and_true, true_and, and_self, implies_true, Bool.true_eq_false, Bool.false_eq_true, decide_true, decide_false, decide_eq_true_eq, decide_eq_false_iff_not, ne_eq, not_true_eq_false, not_false_eq_true, Bool.not_eq_true', Bool.not_eq_false', beq_self_eq_true, Bool.not_true, Bool.not_false, List.getElem?_toArray, List.getElem?_cons_zero, List.getElem?_cons_succ, h0, h3, ↓aop_nilV, anilV_ptr, add_at, k0, k1, e1, e2]
      refine ⟨fun e3 => ?_, fun e3 => ?_⟩
      · rw [decide_eq_true (by omega), decide_eq_true (by omega)] at hls
        simp (disch := omega) only [↓stq, amv_at, vls, inf, frs, mark_eq, ↓reduceIte, Nat.reduceEqDiff, ite_tt, ite_ff, eq_self, and_true, true_and, and_self, implies_true, Bool.true_eq_false, Bool.false_eq_true, decide_true, decide_false, decide_eq_true_eq, decide_eq_false_iff_not, ne_eq, not_true_eq_false, not_false_eq_true, Bool.not_eq_true', Bool.not_eq_false', beq_self_eq_true, Bool.not_true, Bool.not_false, List.getElem?_toArray, List.getElem?_cons_zero, List.getElem?_cons_succ, h0, h3, ↓aop_nilV, anilV_ptr, add_at, k0, k1]
        refine led_store l 0 rfl sz3 (by rfl) (by simp) (by rfl) fun V l => ?_
        simp (disch := omega) only [↓stq, amv_at, vls, inf, frs, mark_eq, ↓reduceIte, Nat.reduceEqDiff, ite_tt, ite_ff, eq_self, and_true, true_and, and_self, implies_true, Bool.true_eq_false, Bool.false_eq_true, decide_true, decide_false, decide_eq_true_eq, decide_eq_false_iff_not, ne_eq, not_true_eq_false, not_false_eq_true, Bool.not_eq_true', Bool.not_eq_false', beq_self_eq_true, Bool.not_true, Bool.not_false, List.getElem?_toArray, List.getElem?_cons_zero, List.getElem?_cons_succ, h0, h3]
        refine ⟨_, by omega, n + 1, by omega, rfl, ?_, all_take_drop hlt hall hls⟩
        rw [show (((i + (n + 1) : Nat)) : Int) = ((i + n : Nat) : Int) + 1 by omega]
        exact l
      · rw [decide_eq_false (show ¬ sbyte t (i + n) ≤ 122 by omega), Bool.and_false] at hls
        simp (disch := omega) only [↓stq, amv_at, vls, inf, frs, mark_eq, ↓reduceIte, Nat.reduceEqDiff, ite_tt, ite_ff, eq_self, and_true, true_and, and_self, implies_true, Bool.true_eq_false, Bool.false_eq_true, decide_true, decide_false, decide_eq_true_eq, decide_eq_false_iff_not, ne_eq, not_true_eq_false, not_false_eq_true, Bool.not_eq_true', Bool.not_eq_false', beq_self_eq_true, Bool.not_true, Bool.not_false, List.getElem?_toArray, List.getElem?_cons_zero, List.getElem?_cons_succ, h0, h3]
        refine adraw_items [.q 0, .q 1, .q 2, .l 3 false, .q 4, .q 5, .q 6, .q 7, .l 8 false, .q 9, .q 10] (by kernel_rfl) (by kernel_rfl) ?_
        simp (disch := omega) only [↓stq, amv_at, ↓pln, plv, nilOk, Nat.reduceBEq, Bool.or_false, Bool.or_true, Bool.false_or, Bool.true_or, vls, inf, frs, mark_eq, ↓reduceIte, Nat.reduceEqDiff, ite_tt, ite_ff, eq_self, and_true, true_and, and_self, implies_true, Bool.true_eq_false, Bool.false_eq_true, decide_true, decide_false, decide_eq_true_eq, decide_eq_false_iff_not, ne_eq, not_true_eq_false, not_false_eq_true, Bool.not_eq_true', Bool.not_eq_false', beq_self_eq_true, Bool.not_true, Bool.not_false, List.getElem?_toArray, List.getElem?_cons_zero, List.getElem?_cons_succ, h0, h3, ↓aop_nilV, anilV_ptr, add_at, k0, k1]
        exact fin (.inr ⟨hlt, hls⟩)
    · rw [decide_eq_false (show ¬ 97 ≤ sbyte t (i + n) by omega), Bool.false_and] at hls
      simp (disch := omega) only [↓stq, amv_at, ↓pln, plv, nilOk, Nat.reduceBEq, Bool.or_false, Bool.or_true, Bool.false_or, Bool.true_or, vls, inf, frs, mark_eq, ↓reduceIte, Nat.reduceEqDiff, ite_tt, ite_ff, eq_self, and_true, true_and, and_self, implies_true, Bool.true_eq_false, Bool.false_eq_true, decide_true, decide_false, decide_eq_true_eq, decide_eq_false_iff_not, ne_eq, not_true_eq_false, not_false_eq_true, Bool.not_eq_true', Bool.not_eq_false', beq_self_eq_true, Bool.not_true, Bool.not_false, List.getElem?_toArray, List.getElem?_cons_zero, List.getElem?_cons_succ, h0, h3, ↓aop_nilV, anilV_ptr, add_at, k0, k1, e1, e2]
      refine adraw_items [.q 0, .q 1, .q 2, .l 3 false, .q 4, .q 5, .q 6, .q 7, .l 8 false, .q 9, .q 10] (by kernel_rfl) (by kernel_rfl) ?_
      simp (disch := omega) only [↓stq, amv_at, ↓pln, plv, nilOk, Nat.reduceBEq, Bool.or_false, Bool.or_true, Bool.false_or, Bool.true_or, vls, inf, frs, mark_eq, ↓reduceIte, Nat.reduceEqDiff, ite_tt, ite_ff, eq_self, and_true, true_and, and_self, implies_true, Bool.true_eq_false, Bool.false_eq_true, decide_true, decide_false, decide_eq_true_eq, decide_eq_false_iff_not, ne_eq, not_true_eq_false, not_false_eq_true, Bool.not_eq_true', Bool.not_eq_false', beq_self_eq_true, Bool.not_true, Bool.not_false, List.getElem?_toArray, List.getElem?_cons_zero, List.getElem?_cons_succ, h0, h3, ↓aop_nilV, anilV_ptr, add_at, k0, k1]
      exact fin (.inr ⟨hlt, hls⟩)
  · simp (disch := omega) only [↓stq, amv_at, ↓pln, plv, nilOk, Nat.reduceBEq, Bool.or_false, Bool.or_true, Bool.false_or, Bool.true_or, vls, inf, frs, mark_eq, ↓reduceIte, Nat.reduceEqDiff, ite_tt, ite_ff, eq_self, and_true, true_and, and_self, implies_true, Bool.true_eq_false, Bool.false_eq_true, decide_true, decide_false, decide_eq_true_eq, decide_eq_false_iff_not, ne_eq, not_true_eq_false, not_false_eq_true, Bool.not_eq_true', Bool.not_eq_false', beq_self_eq_true, Bool.not_true, Bool.not_false, List.getElem?_toArray, List.getElem?_cons_zero, List.getElem?_cons_succ, h0, h3, ↓aop_nilV, anilV_ptr, add_at, k0, k1, e1]
    refine adraw_items [.q 0, .q 1, .q 2, .l 3 false, .q 4, .q 5, .q 6, .q 7, .l 8 false, .q 9, .q 10] (by kernel_rfl) (by kernel_rfl) ?_
    simp (disch := omega) only [↓stq, amv_at, ↓pln, plv, nilOk, Nat.reduceBEq, Bool.or_false, Bool.or_true, Bool.false_or, Bool.true_or, vls, inf, frs, mark_eq, ↓reduceIte, Nat.reduceEqDiff, ite_tt, ite_ff, eq_self, and_true, true_and, and_self, implies_true, Bool.true_eq_false, Bool.false_eq_true, decide_true, decide_false, decide_eq_true_eq, decide_eq_false_iff_not, ne_eq, not_true_eq_false, not_false_eq_true, Bool.not_eq_true', Bool.not_eq_false', beq_self_eq_true, Bool.not_true, Bool.not_false, List.getElem?_toArray, List.getElem?_cons_zero, List.getElem?_cons_succ, h0, h3, ↓aop_nilV, anilV_ptr, add_at, k0, k1]
    exact fin (.inl (by omega))

end Go.Proofs.Ytbddklkfekiaeaa

