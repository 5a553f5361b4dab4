/- The order of texts; places in it. -/
import Derived.Test.YtbddklkfekiaeaaRA
import Derived.Test.YtbddklkfekiaeaaC3
import Derived.Lib.Bytealg
set_option maxHeartbeats 4000000
set_option synthInstance.maxHeartbeats 400000
set_option synthInstance.maxSize 4096
set_option linter.unusedSimpArgs false
set_option linter.unusedVariables false
namespace Go.Proofs.Ytbddklkfekiaeaa

set_option maxRecDepth 100000

theorem bl_eq : ∀ x y : List UInt8, Op.bytesLess x y = decide (x < y)
  | x, [] => by cases x <;> simp [Op.bytesLess]
  | [], b :: y => by simp [Op.bytesLess]
  | a :: x, b :: y => by
    unfold Op.bytesLess
    rw [bl_eq x y, Bool.eq_iff_iff]
    simp [List.cons_lt_cons_iff]
theorem sLt_eq (a b : ByteArray) : sLt a b = decide (a.data.toList < b.data.toList) := by
  unfold sLt
  rw [ByteArray.toList_eq, ByteArray.toList_eq]
  exact bl_eq ..
theorem sLt_irr (a : ByteArray) : sLt a a = false := by
  rw [sLt_eq, decide_eq_false_iff_not]
  exact List.lt_irrefl _
theorem sLt_trans {a b c : ByteArray} (h1 : sLt a b = true) (h2 : sLt b c = true) : sLt a c = true := by
  rw [sLt_eq, decide_eq_true_eq] at *
  exact List.lt_trans h1 h2
theorem sLt_total {a b : ByteArray} (h : a ≠ b) : sLt a b = true ∨ sLt b a = true := by
  rw [sLt_eq, sLt_eq, decide_eq_true_eq, decide_eq_true_eq]
  by_cases h1 : a.data.toList < b.data.toList
  · exact .inl h1
  · refine .inr ?_
    by_cases h3 : b.data.toList < a.data.toList
    · exact h3
    · exact absurd (ByteArray.ext (Array.toList_inj.1 (List.le_antisymm (List.not_lt.1 h3) (List.not_lt.1 h1)))) h
theorem cmpB_neg : ∀ (a b : List UInt8), Go.Lib.compareBytes a b < 0 ↔ a < b
  | [], [] => by simp [Go.Lib.compareBytes]
  | [], _ :: _ => by simp [Go.Lib.compareBytes]
  | _ :: _, [] => by simp [Go.Lib.compareBytes]
  | x :: a, y :: b => by
    unfold Go.Lib.compareBytes
    rw [List.cons_lt_cons_iff]
    by_cases h1 : x < y
    · simp [h1]
    · by_cases h2 : y < x
      · have h3 : ¬ x = y := fun h => UInt8.lt_irrefl x (by rw [h] at h2; exact (UInt8.lt_irrefl y h2).elim)
        simp [h1, h2, h3]
      · have h3 : x = y := UInt8.le_antisymm (UInt8.not_lt.1 h2) (UInt8.not_lt.1 h1)
        simp only [h1, h2, if_false, h3, true_and, false_or, UInt8.lt_irrefl]
        exact cmpB_neg a b
theorem cmpB_small : ∀ (a b : List UInt8), -1 ≤ Go.Lib.compareBytes a b ∧ Go.Lib.compareBytes a b ≤ 1
  | [], [] => by simp [Go.Lib.compareBytes]
  | [], _ :: _ => by simp [Go.Lib.compareBytes]
  | _ :: _, [] => by simp [Go.Lib.compareBytes]
  | x :: a, y :: b => by
    unfold Go.Lib.compareBytes
    split
    · simp
    · split
      · simp
      · exact cmpB_small a b

/-- How many texts stand before one. -/
def rankI (ids : List ByteArray) (a : ByteArray) : Int := -((ids.filter fun c => sLt c a).length : Int)
theorem filter_le {α : Type} {p q : α → Bool} : ∀ {xs : List α}, (∀ x, x ∈ xs → p x = true → q x = true) → (xs.filter p).length ≤ (xs.filter q).length
  | [], _ => Nat.le_refl _
  | x :: xs, h => by
    have ih := filter_le (xs := xs) (p := p) (q := q) fun y hy => h y (List.mem_cons_of_mem _ hy)
    have hx := h x (List.mem_cons_self ..)
    rw [List.filter_cons, List.filter_cons]
    split
    · rename_i hp
      rw [if_pos (hx hp), List.length_cons, List.length_cons]; omega
    · split
      · rw [List.length_cons]; omega
      · exact ih
theorem filter_lt {α : Type} {p q : α → Bool} {a : α} : ∀ {xs : List α}, (∀ x, x ∈ xs → p x = true → q x = true) → a ∈ xs → p a = false → q a = true → (xs.filter p).length < (xs.filter q).length
  | [], _, ha, _, _ => (List.not_mem_nil ha).elim
  | x :: xs, h, ha, hp, hq => by
    have hle := filter_le (xs := xs) (p := p) (q := q) fun y hy => h y (List.mem_cons_of_mem _ hy)
    have hx := h x (List.mem_cons_self ..)
    rw [List.filter_cons, List.filter_cons]
    rcases List.mem_cons.1 ha with rfl | ha
    · rw [if_neg (by rw [hp]; decide), if_pos hq, List.length_cons]; omega
    · have ih := filter_lt (xs := xs) (p := p) (q := q) (fun y hy => h y (List.mem_cons_of_mem _ hy)) ha hp hq
      split
      · rename_i hpx
        rw [if_pos (hx hpx), List.length_cons, List.length_cons]; omega
      · split
        · rw [List.length_cons]; omega
        · exact ih
theorem rank_lt {ids : List ByteArray} {a b : ByteArray} (ha : a ∈ ids) (hb : b ∈ ids) : sLt a b = true ↔ rankI ids b < rankI ids a := by
  have key : ∀ {a b : ByteArray}, a ∈ ids → sLt a b = true → rankI ids b < rankI ids a := fun {a b} ha h => by
    have := filter_lt (p := fun c => sLt c a) (q := fun c => sLt c b) (xs := ids) (fun c _ hc => sLt_trans hc h) ha (sLt_irr a) h
    unfold rankI
    omega
  refine ⟨key ha, fun h => ?_⟩
  by_cases he : a = b
  · subst he; omega
  · rcases sLt_total he with h1 | h1
    · exact h1
    · have := key hb h1; omega
theorem rank_inj {ids : List ByteArray} {a b : ByteArray} (ha : a ∈ ids) (hb : b ∈ ids) (h : rankI ids a = rankI ids b) : a = b := by
  by_cases he : a = b
  · exact he
  · rcases sLt_total he with h1 | h1
    · have := (rank_lt ha hb).1 h1; omega
    · have := (rank_lt hb ha).1 h1; omega
theorem rank_perm {ids jds : List ByteArray} (h : ids.Perm jds) (a : ByteArray) : rankI ids a = rankI jds a := by
  unfold rankI
  rw [(h.filter _).length_eq]

end Go.Proofs.Ytbddklkfekiaeaa

