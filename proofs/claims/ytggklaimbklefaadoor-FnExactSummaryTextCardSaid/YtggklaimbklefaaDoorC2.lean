/- Texts and numbers in lists; lists of ids. -/
import Derived.Test.YtggklaimbklefaaDoorC1
set_option maxHeartbeats 4000000
set_option synthInstance.maxHeartbeats 400000
set_option synthInstance.maxSize 4096
set_option linter.unusedSimpArgs false
set_option linter.unusedVariables false
namespace Go.Proofs.YtggklaimbklefaaDoor

set_option maxRecDepth 100000

theorem Sl.str {A : View} {a : Option Addr} {n c : Nat} {xs : List ByteArray} (h : Sl strS A (.slice a n c) xs) {i : Nat} (hi : i < xs.length) : ∃ ad, a = some ad ∧ A.cell (ad.add i) = some (.string xs[i]) ∧ xs[i].size ≤ 140737488355328 := by
  obtain ⟨ad, d, h1, h2, h3, h4⟩ := h.at hi
  have := h4 0 (.string xs[i]) (by rw [h2.1]; rfl)
  refine ⟨ad, h1, ?_, h2.2⟩
  rw [addr_add_add] at this
  simpa [strS] using this

theorem Sl.int {A : View} {a : Option Addr} {n c : Nat} {xs : List Int} (h : Sl intS A (.slice a n c) xs) {i : Nat} (hi : i < xs.length) : ∃ ad, a = some ad ∧ A.cell (ad.add i) = some (.int .i64 xs[i]) ∧ -9223372036854775808 ≤ xs[i] ∧ xs[i] < 9223372036854775808 := by
  obtain ⟨ad, d, h1, h2, h3, h4⟩ := h.at hi
  have := h4 0 (.int .i64 xs[i]) (by rw [h2.1]; rfl)
  refine ⟨ad, h1, ?_, h2.2⟩
  rw [addr_add_add] at this
  simpa [intS] using this

/-- The first place at which something holds, or -1. -/
def idxI {α : Type} (p : α → Bool) (xs : List α) : Int := if xs.any p then (xs.findIdx p : Nat) else -1

theorem idxI_found {α : Type} {p : α → Bool} {xs : List α} {i : Nat} (hi : i < xs.length) (hn : ∀ j (hj : j < i), p (xs[j]) = false) (h : p xs[i] = true) : idxI p xs = i := by
  unfold idxI
  rw [if_pos (List.any_eq_true.2 ⟨_, List.getElem_mem hi, h⟩)]
  congr 1
  exact (List.findIdx_eq hi).2 ⟨h, fun j hj => hn j hj⟩

theorem idxI_none {α : Type} {p : α → Bool} {xs : List α} (hn : ∀ j (hj : j < xs.length), p (xs[j]) = false) : idxI p xs = -1 := by
  unfold idxI
  rw [if_neg]
  rw [List.any_eq_true]
  rintro ⟨x, hx, h⟩
  obtain ⟨j, hj, rfl⟩ := List.getElem_of_mem hx
  rw [hn j hj] at h
  cases h

theorem idxI_ge {α : Type} (p : α → Bool) (xs : List α) : (0 ≤ idxI p xs) = (xs.any p = true) := by
  unfold idxI
  split
  · rename_i h; simp [h]
  · rename_i h; simp [h]

theorem idxI_range {α : Type} (p : α → Bool) (xs : List α) : -1 ≤ idxI p xs ∧ (xs.any p = true → idxI p xs < xs.length) := by
  unfold idxI
  split
  · rename_i h
    refine ⟨by omega, fun _ => ?_⟩
    have := List.findIdx_lt_length.2 (List.any_eq_true.1 h)
    omega
  · exact ⟨by omega, fun h => by simp_all⟩

theorem notin_take {α : Type} {s : α} {xs : List α} {i : Nat} (hi : i < xs.length) (h1 : s ∉ xs.take i) (h2 : ¬ xs[i] = s) : s ∉ xs.take (i + 1) := by
  rw [List.take_succ_eq_append_getElem hi, List.mem_append, List.mem_singleton]
  rintro (h | h)
  · exact h1 h
  · exact h2 h.symm

theorem all_take {α : Type} {p : α → Bool} {xs : List α} {i : Nat} (hi : i < xs.length) (h1 : (xs.take i).all p = true) (h2 : p xs[i] = true) : (xs.take (i + 1)).all p = true := by
  rw [List.take_succ_eq_append_getElem hi, List.all_append, h1, Bool.true_and]
  simp [h2]

theorem all_no {α : Type} {p : α → Bool} {xs : List α} {i : Nat} (hi : i < xs.length) (h2 : p xs[i] = false) : xs.all p = false :=
  List.all_eq_false.2 ⟨_, List.getElem_mem hi, by simp [h2]⟩

/-- Different ids, at most ten. -/
def idsB (xs : List ByteArray) : Bool := xs.all idB && decide xs.Nodup && decide (xs.length ≤ 10)

theorem nodup_take_succ {α : Type} [DecidableEq α] {xs : List α} {i : Nat} (hi : i < xs.length) : (xs.take (i + 1)).Nodup ↔ (xs.take i).Nodup ∧ xs[i] ∉ xs.take i := by
  rw [List.take_succ_eq_append_getElem hi, List.nodup_append]
  constructor
  · rintro ⟨h1, _, h3⟩
    exact ⟨h1, fun hm => h3 _ hm _ (List.mem_singleton.2 rfl) rfl⟩
  · rintro ⟨h1, h2⟩
    refine ⟨h1, List.nodup_cons.2 ⟨by simp, List.nodup_nil⟩, fun a ha b hb e => ?_⟩
    rw [List.mem_singleton] at hb
    subst e; subst hb
    exact h2 ha

theorem nodup_no {α : Type} [DecidableEq α] {xs : List α} {i : Nat} (hi : i < xs.length) (h : xs[i] ∈ xs.take i) : ¬ xs.Nodup := fun hn =>
  ((nodup_take_succ hi).1 (List.Sublist.nodup (List.take_sublist _ _) hn)).2 h

end Go.Proofs.YtggklaimbklefaaDoor

