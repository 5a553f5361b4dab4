/- Sorting by insertion, as plain lists. -/
import Derived.Test.YtbddklkfekiaeaaFw12
set_option maxHeartbeats 4000000
set_option synthInstance.maxHeartbeats 400000
set_option synthInstance.maxSize 4096
set_option linter.unusedSimpArgs false
set_option linter.unusedVariables false
namespace Go.Proofs.Ytbddklkfekiaeaa

section
variable {α : Type} {f : α → Int} {x : α} {S R : List α} {j : Nat}

/-- x put behind all that is as great. -/
def ssIns (f : α → Int) (x : α) (S : List α) : List α := S.takeWhile (fun y => decide (f x ≤ f y)) ++ x :: S.dropWhile (fun y => decide (f x ≤ f y))
def ssort (f : α → Int) (xs : List α) : List α := xs.foldl (fun S x => ssIns f x S) []
/-- Great values come first. -/
def Desc (f : α → Int) (S : List α) : Prop := S.Pairwise fun a b => f b ≤ f a

theorem ssIns_cons (s : α) : ssIns f x (s :: S) = if f x ≤ f s then s :: ssIns f x S else x :: s :: S := by
  unfold ssIns
  by_cases h : f x ≤ f s <;> simp [List.takeWhile, List.dropWhile, h]
theorem ssIns_mem {y : α} : y ∈ ssIns f x S ↔ y = x ∨ y ∈ S := by
  induction S with
  | nil => simp [ssIns]
  | cons s S ih =>
    rw [ssIns_cons]
    split
    · rw [List.mem_cons, ih, List.mem_cons]
      constructor <;> rintro (h | h | h) <;> simp [h]
    · simp
theorem ssIns_len : (ssIns f x S).length = S.length + 1 := by
  induction S with
  | nil => simp [ssIns]
  | cons s S ih =>
    rw [ssIns_cons]
    split
    · simp [ih]
    · simp
theorem ssIns_desc (h : Desc f S) : Desc f (ssIns f x S) := by
  unfold Desc at *
  induction S with
  | nil => simp [ssIns]
  | cons s S ih =>
    rw [List.pairwise_cons] at h
    rw [ssIns_cons]
    split
    · rename_i hx
      refine List.pairwise_cons.2 ⟨fun y hy => ?_, ih h.2⟩
      rcases ssIns_mem.1 hy with rfl | hy
      · exact hx
      · exact h.1 y hy
    · rename_i hx
      refine List.pairwise_cons.2 ⟨fun y hy => ?_, List.pairwise_cons.2 h⟩
      rcases List.mem_cons.1 hy with rfl | hy
      · omega
      · have := h.1 y hy; omega
theorem ssIns_split {P Q : List α} (hp : ∀ y, y ∈ P → f x ≤ f y) (hq : ∀ y, y ∈ Q → f y < f x) : ssIns f x (P ++ Q) = P ++ x :: Q := by
  induction P with
  | nil =>
    cases Q with
    | nil => simp [ssIns]
    | cons q Q =>
      have := hq q (by simp)
      rw [List.nil_append, ssIns_cons, if_neg (by omega)]; rfl
  | cons p P ih =>
    rw [List.cons_append, ssIns_cons, if_pos (hp p (by simp)), ih fun y hy => hp y (by simp [hy])]; rfl

theorem ssort_take {xs : List α} {i : Nat} (h : i < xs.length) : ssort f (xs.take (i + 1)) = ssIns f xs[i] (ssort f (xs.take i)) := by
  unfold ssort
  rw [List.take_succ_eq_append_getElem h, List.foldl_append]; rfl
theorem ssort_snoc (xs : List α) (x : α) : ssort f (xs ++ [x]) = ssIns f x (ssort f xs) := by
  unfold ssort
  rw [List.foldl_append]; rfl
theorem ssort_len (xs : List α) : (ssort f xs).length = xs.length := by
  rw [← List.reverse_reverse xs]
  induction xs.reverse with
  | nil => rfl
  | cons y ys ih => rw [List.reverse_cons, ssort_snoc, ssIns_len, ih, List.length_append]; rfl
theorem ssort_desc (xs : List α) : Desc f (ssort f xs) := by
  rw [← List.reverse_reverse xs]
  induction xs.reverse with
  | nil => exact List.Pairwise.nil
  | cons y ys ih => rw [List.reverse_cons, ssort_snoc]; exact ssIns_desc ih
theorem ssort_mem (xs : List α) (z : α) : z ∈ ssort f xs ↔ z ∈ xs := by
  rw [← List.reverse_reverse xs]
  induction xs.reverse with
  | nil => simp [ssort]
  | cons y ys ih =>
    rw [List.reverse_cons, ssort_snoc, ssIns_mem, ih, List.mem_append, List.mem_singleton]
    exact Or.comm
theorem ssort_one (xs : List α) : ssort f (xs.take 1) ++ xs.drop 1 = xs := by
  cases xs <;> rfl

theorem desc_upto (h : Desc f S) (h0 : 0 < j) (hj : j ≤ S.length) {y : α} (hy : y ∈ S.take j) : f S[j - 1] ≤ f y := by
  obtain ⟨k, hk, rfl⟩ := List.mem_iff_getElem.1 hy
  rw [List.length_take] at hk
  rw [List.getElem_take]
  by_cases hkj : k = j - 1
  · subst hkj; omega
  · exact List.pairwise_iff_getElem.1 h k (j - 1) (by omega) (by omega) (by omega)
theorem desc_from (h : Desc f S) (hj : j < S.length) {y : α} (hy : y ∈ S.drop j) : f y ≤ f S[j] := by
  obtain ⟨k, hk, rfl⟩ := List.mem_iff_getElem.1 hy
  rw [List.length_drop] at hk
  rw [List.getElem_drop]
  by_cases hkj : k = 0
  · subst hkj; exact Int.le_refl _
  · exact List.pairwise_iff_getElem.1 h j (j + k) (by omega) (by omega) (by omega)

/-- x stands at j among S. -/
def ssW (S : List α) (x : α) (j : Nat) : List α := S.take j ++ x :: S.drop j
theorem ssW_len (hj : j ≤ S.length) : (ssW S x j ++ R).length = S.length + 1 + R.length := by
  simp [ssW]; omega
theorem ssW_at (hj : j ≤ S.length) : (ssW S x j ++ R)[j]? = some x := by
  unfold ssW
  rw [List.append_assoc, List.getElem?_append_right (by simp; omega)]
  simp [Nat.min_eq_left hj]
theorem ssW_prev (h0 : 0 < j) (hj : j ≤ S.length) : (ssW S x j ++ R)[j - 1]? = some S[j - 1] := by
  unfold ssW
  rw [List.append_assoc, List.getElem?_append_left (by simp; omega), List.getElem?_take_of_lt (by omega), List.getElem?_eq_getElem (by omega)]
theorem ssW_swap (h0 : 0 < j) (hj : j ≤ S.length) : ((ssW S x j ++ R).set j S[j - 1]).set (j - 1) x = ssW S x (j - 1) ++ R := by
  obtain ⟨m, rfl⟩ : ∃ m, j = m + 1 := ⟨j - 1, by omega⟩
  have h1 : S.take (m + 1) = S.take m ++ [S[m]] := List.take_succ_eq_append_getElem (by omega)
  have h2 : S.drop m = S[m] :: S.drop (m + 1) := List.drop_eq_getElem_cons (by omega)
  have h3 : (S.take m).length = m := by simp; omega
  unfold ssW
  simp only [Nat.add_sub_cancel]
  rw [h1, h2]
  simp only [List.append_assoc, List.cons_append, List.nil_append]
  rw [List.set_append_right _ _ (by omega), h3, show m + 1 - m = 1 by omega, List.set_append_right _ _ (by omega), h3, Nat.sub_self]
  rfl
theorem ssW_full (h : R = x :: R.tail) : S ++ R = ssW S x S.length ++ R.tail := by
  unfold ssW
  rw [List.take_length, List.drop_length, List.append_assoc]
  conv => lhs; rw [h]
  rfl
end

end Go.Proofs.Ytbddklkfekiaeaa

