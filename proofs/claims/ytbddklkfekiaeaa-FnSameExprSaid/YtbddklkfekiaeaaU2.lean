/- Expressions: texts cut and held against words, in plain words. -/
import Derived.Test.YtbddklkfekiaeaaU1
set_option maxHeartbeats 4000000
set_option synthInstance.maxHeartbeats 400000
set_option synthInstance.maxSize 4096
set_option linter.unusedSimpArgs false
set_option linter.unusedVariables false
namespace Go.Proofs.Ytbddklkfekiaeaa

set_option maxRecDepth 100000

theorem toList_len (s : ByteArray) : s.data.toList.length = s.size := by rw [Array.length_toList]; rfl
theorem toList_extract (s : ByteArray) (i j : Nat) : (s.extract i j).data.toList = (s.data.toList.drop i).take (j - i) := by
  rw [ByteArray.data_extract, Array.toList_extract, List.extract_eq_take_drop]
theorem ba_ext {s t : ByteArray} (h : s.data.toList = t.data.toList) : s = t := ByteArray.ext (Array.toList_inj.1 h)
theorem extract_tx (s : ByteArray) (i : Nat) : s.extract i s.size = tx (s.data.toList.drop i) := by
  refine ba_ext ?_
  rw [toList_extract, List.take_of_length_le (by rw [List.length_drop, toList_len]; omega)]
  rfl

/-- A word stands at a place. -/
theorem pre_iff {t w : ByteArray} {i : Nat} (hi : i ≤ t.size) : (i + w.size ≤ t.size ∧ t.extract i (i + w.size) = w) ↔ w.data.toList.isPrefixOf (t.data.toList.drop i) = true := by
  rw [List.isPrefixOf_iff_prefix, List.prefix_iff_eq_take, toList_len]
  constructor
  · rintro ⟨_, h2⟩
    conv => lhs; rw [← h2]
    rw [toList_extract, Nat.add_sub_cancel_left]
  · intro h
    have hl := congrArg List.length h
    rw [toList_len, List.length_take, List.length_drop, toList_len] at hl
    refine ⟨by omega, ba_ext ?_⟩
    rw [toList_extract, Nat.add_sub_cancel_left, ← h]

/-- The letters that come first. -/
theorem letters_end {l : Bs} {n : Nat} (h1 : (l.take n).all lettr = true) (h2 : n = l.length ∨ ∃ h : n < l.length, lettr l[n] = false) (hn : n ≤ l.length) : l.takeWhile lettr = l.take n ∧ l.dropWhile lettr = l.drop n := by
  have key : ∀ (a b : Bs), a.all lettr = true → (b = [] ∨ ∃ x t, b = x :: t ∧ lettr x = false) → (a ++ b).takeWhile lettr = a ∧ (a ++ b).dropWhile lettr = b := by
    intro a b ha hb
    induction a with
    | nil =>
      rcases hb with rfl | ⟨x, t, rfl, hx⟩
      · exact ⟨rfl, rfl⟩
      · rw [List.nil_append, List.takeWhile_cons, List.dropWhile_cons, hx]
        exact ⟨rfl, rfl⟩
    | cons y a ih =>
      rw [List.all_cons, Bool.and_eq_true] at ha
      have := ih ha.2
      rw [List.cons_append, List.takeWhile_cons, List.dropWhile_cons, ha.1, this.1, this.2]
      exact ⟨rfl, rfl⟩
  have := key (l.take n) (l.drop n) h1 (by
    rcases h2 with h2 | ⟨h2, h3⟩
    · left; rw [List.drop_eq_nil_iff]; omega
    · right; exact ⟨_, _, List.drop_eq_getElem_cons h2, h3⟩)
  rw [List.take_append_drop] at this
  exact this

theorem lettr_sbyte {s : ByteArray} {i : Nat} (hi : i < s.size) : lettr (s.data.toList[i]'(by rw [toList_len]; exact hi)) = (decide (97 ≤ sbyte s i) && decide (sbyte s i ≤ 122)) := by
  obtain ⟨b, h1, h2⟩ := sbyte_at hi
  rw [List.getElem?_eq_getElem (by rw [toList_len]; exact hi)] at h1
  rw [Option.some.inj h1, h2]
  rfl

theorem exprP_of {s : ByteArray} (hle : s.size ≤ 60) : (parse 1000 .dis s.data.toList = none → exprP s = none) ∧ (∀ e, parse 1000 .dis s.data.toList = some (e, []) → exprP s = some e) ∧ (∀ e r, parse 1000 .dis s.data.toList = some (e, r) → r ≠ [] → exprP s = none) := by
  unfold exprP
  rw [if_pos hle]
  refine ⟨fun h => by rw [h], fun e h => by rw [h], fun e r h hr => ?_⟩
  rw [h]
  cases r with
  | nil => exact absurd rfl hr
  | cons x r => rfl
theorem exprP_long {s : ByteArray} (h : ¬ s.size ≤ 60) : exprP s = none := by
  unfold exprP
  rw [if_neg h]
/-- The text is an expression. -/
def isE (s : ByteArray) : Bool := (exprP s).isSome

end Go.Proofs.Ytbddklkfekiaeaa

