/- Expressions: marks chosen by the bits of a number. -/
import Derived.Test.YtbddklkfekiaeaaUN
set_option maxHeartbeats 4000000
set_option synthInstance.maxHeartbeats 400000
set_option synthInstance.maxSize 4096
set_option linter.unusedSimpArgs false
set_option linter.unusedVariables false
namespace Go.Proofs.Ytbddklkfekiaeaa

set_option maxRecDepth 100000

section
variable {P : Program} {A : View} {K : Value → View → Prop}
theorem abin_shl1 (t : TypeId) (x y : Operand) : ∀ (n : Nat), n ≤ 6 → abin P .shl t x y (.int .i64 1) (.int .i64 n) A K = K (.int .i64 ((2 ^ n : Nat) : Int)) A
  | 0, _ => rfl
  | 1, _ => rfl
  | 2, _ => rfl
  | 3, _ => rfl
  | 4, _ => rfl
  | 5, _ => rfl
  | 6, _ => rfl
  | n + 7, h => absurd h (by omega)
theorem abin_shrN (t : TypeId) (x y : Operand) (u i : Nat) (hi : i ≤ 60) : abin P .shr t x y (.int .i64 u) (.int .i64 i) A K = K (.int .i64 ((u / 2 ^ i : Nat) : Int)) A := by
  have e : Op.shift .shr .i64 u .i64 i = pure (.int .i64 ((u / 2 ^ i : Nat) : Int)) := by
    unfold Op.shift
    rw [if_neg (by omega)]
    have h1 : min (i : Int).toNat IntKind.i64.bits = i := by
      show min (i : Int).toNat 64 = i
      omega
    simp only [h1]
    rw [Int.fdiv_eq_ediv_of_nonneg _ (by exact Int.pow_nonneg (by decide))]
    congr 2
  show sawp P (binOp .shr t (.int .i64 u) (.int .i64 i)) K A = _
  have e2 : binOp .shr t (.int .i64 u) (.int .i64 i) = Op.shift .shr .i64 u .i64 i := rfl
  rw [e2, e]
  rfl
theorem abin_and1 (t : TypeId) (x y : Operand) : ∀ (u : Nat), u < 64 → abin P .and t x y (.int .i64 u) (.int .i64 1) A K = K (.int .i64 ((u % 2 : Nat) : Int)) A
  | 0, _ => rfl
  | 1, _ => rfl
  | 2, _ => rfl
  | 3, _ => rfl
  | 4, _ => rfl
  | 5, _ => rfl
  | 6, _ => rfl
  | 7, _ => rfl
  | 8, _ => rfl
  | 9, _ => rfl
  | 10, _ => rfl
  | 11, _ => rfl
  | 12, _ => rfl
  | 13, _ => rfl
  | 14, _ => rfl
  | 15, _ => rfl
  | 16, _ => rfl
  | 17, _ => rfl
  | 18, _ => rfl
  | 19, _ => rfl
  | 20, _ => rfl
  | 21, _ => rfl
  | 22, _ => rfl
  | 23, _ => rfl
  | 24, _ => rfl
  | 25, _ => rfl
  | 26, _ => rfl
  | 27, _ => rfl
  | 28, _ => rfl
  | 29, _ => rfl
  | 30, _ => rfl
  | 31, _ => rfl
  | 32, _ => rfl
  | 33, _ => rfl
  | 34, _ => rfl
  | 35, _ => rfl
  | 36, _ => rfl
  | 37, _ => rfl
  | 38, _ => rfl
  | 39, _ => rfl
  | 40, _ => rfl
  | 41, _ => rfl
  | 42, _ => rfl
  | 43, _ => rfl
  | 44, _ => rfl
  | 45, _ => rfl
  | 46, _ => rfl
  | 47, _ => rfl
  | 48, _ => rfl
  | 49, _ => rfl
  | 50, _ => rfl
  | 51, _ => rfl
  | 52, _ => rfl
  | 53, _ => rfl
  | 54, _ => rfl
  | 55, _ => rfl
  | 56, _ => rfl
  | 57, _ => rfl
  | 58, _ => rfl
  | 59, _ => rfl
  | 60, _ => rfl
  | 61, _ => rfl
  | 62, _ => rfl
  | 63, _ => rfl
  | n + 64, h => absurd h (by omega)
end

/-- What the bits of a number choose. -/
def maskL (xs : List ByteArray) (u : Nat) : List ByteArray := xs.zipIdx.filterMap fun p => if u / 2 ^ p.2 % 2 = 1 then some p.1 else none
theorem maskL_snoc (xs : List ByteArray) (a : ByteArray) (u : Nat) : maskL (xs ++ [a]) u = maskL xs u ++ (if u / 2 ^ xs.length % 2 = 1 then [a] else []) := by
  unfold maskL
  rw [List.zipIdx_append, List.filterMap_append, List.zipIdx_singleton, List.filterMap_cons]
  simp only [Nat.zero_add]
  congr 1
  by_cases h : u / 2 ^ xs.length % 2 = 1
  · rw [if_pos h, if_pos h]; rfl
  · rw [if_neg h, if_neg h]; rfl
theorem maskL_take {xs : List ByteArray} {i : Nat} (h : i < xs.length) (u : Nat) : maskL (xs.take (i + 1)) u = maskL (xs.take i) u ++ (if u / 2 ^ i % 2 = 1 then [xs[i]] else []) := by
  rw [List.take_succ_eq_append_getElem h, maskL_snoc, List.length_take, Nat.min_eq_left (Nat.le_of_lt h)]
theorem maskL_len (u : Nat) : ∀ (xs : List ByteArray), (maskL xs u).length ≤ xs.length := fun xs => by
  unfold maskL
  refine Nat.le_trans (List.length_filterMap_le ..) ?_
  rw [List.length_zipIdx]
  exact Nat.le_refl _
theorem maskL_high : ∀ (m : List ByteArray) (u n : Nat), m.length ≤ n → maskL m.reverse (u + 2 ^ n) = maskL m.reverse u
  | [], _, _, _ => rfl
  | a :: m, u, n, h => by
    rw [List.length_cons] at h
    rw [List.reverse_cons, maskL_snoc, maskL_snoc, maskL_high m u n (by omega)]
    congr 1
    have h1 : 2 ^ n = 2 ^ m.reverse.length * 2 ^ (n - m.reverse.length) := by
      rw [← Nat.pow_add]
      congr 1
      rw [List.length_reverse]
      omega
    have h2 : (u + 2 ^ n) / 2 ^ m.reverse.length = u / 2 ^ m.reverse.length + 2 ^ (n - m.reverse.length) := by
      rw [h1, Nat.add_mul_div_left _ _ (Nat.two_pow_pos _)]
    have h3 : 2 ^ (n - m.reverse.length) % 2 = 0 := by
      rw [List.length_reverse]
      have : n - m.length = (n - m.length - 1) + 1 := by omega
      rw [this, Nat.pow_succ]
      omega
    rw [h2]
    have h4 : (u / 2 ^ m.reverse.length + 2 ^ (n - m.reverse.length)) % 2 = u / 2 ^ m.reverse.length % 2 := by omega
    rw [h4]
/-- The worlds, as modules and chosen marks. -/
theorem worlds_mem : ∀ (m : List ByteArray) (base : List TestD) (k : ByteArray → Prop), (∀ t, t ∈ base ↔ ∃ b, k b ∧ t = wld b []) → ∀ t, t ∈ m.reverse.foldl dblW base ↔ ∃ b u, k b ∧ u < 2 ^ m.length ∧ t = wld b (maskL m.reverse u)
  | [], base, k, hb, t => by
    show t ∈ base ↔ _
    rw [hb]
    constructor
    · rintro ⟨b, h1, rfl⟩
      exact ⟨b, 0, h1, by decide, rfl⟩
    · rintro ⟨b, u, h1, _, rfl⟩
      exact ⟨b, h1, rfl⟩
  | a :: m, base, k, hb, t => by
    have ih := worlds_mem m base k hb
    rw [List.reverse_cons, List.foldl_append]
    show t ∈ dblW (m.reverse.foldl dblW base) a ↔ _
    have hlow : ∀ u, u < 2 ^ m.length → u / 2 ^ m.reverse.length % 2 = 0 := fun u hu => by
      rw [List.length_reverse, Nat.div_eq_of_lt hu]
    unfold dblW
    rw [List.mem_append, List.mem_map]
    constructor
    · rintro (h | ⟨w, h, rfl⟩)
      · obtain ⟨b, u, h1, h2, rfl⟩ := (ih t).1 h
        refine ⟨b, u, h1, by rw [List.length_cons, Nat.pow_succ]; omega, ?_⟩
        rw [maskL_snoc, if_neg (by have := hlow u h2; omega), List.append_nil]
      · obtain ⟨b, u, h1, h2, rfl⟩ := (ih w).1 h
        refine ⟨b, u + 2 ^ m.length, h1, by rw [List.length_cons, Nat.pow_succ]; omega, ?_⟩
        rw [maskL_snoc, maskL_high m u m.length (Nat.le_refl _), List.length_reverse, Nat.add_div_right _ (Nat.two_pow_pos _), Nat.div_eq_of_lt h2, if_pos rfl]
        rfl
    · rintro ⟨b, u, h1, h2, rfl⟩
      rw [List.length_cons, Nat.pow_succ] at h2
      by_cases h3 : u < 2 ^ m.length
      · refine .inl ((ih _).2 ⟨b, u, h1, h3, ?_⟩)
        rw [maskL_snoc, if_neg (by have := hlow u h3; omega), List.append_nil]
      · obtain ⟨v, rfl⟩ : ∃ v, u = v + 2 ^ m.length := ⟨u - 2 ^ m.length, by omega⟩
        refine .inr ⟨wld b (maskL m.reverse v), (ih _).2 ⟨b, v, h1, by omega, rfl⟩, ?_⟩
        rw [maskL_snoc, maskL_high m v m.length (Nat.le_refl _), List.length_reverse, Nat.add_div_right _ (Nat.two_pow_pos _), Nat.div_eq_of_lt (by omega), if_pos rfl]
        rfl

end Go.Proofs.Ytbddklkfekiaeaa

