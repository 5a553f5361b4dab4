/- Marks. -/
import Derived.Test.YtggklaimbklefaaDoorE1
import Derived.Test.YtggklaimbklefaaDoorFw10
set_option maxHeartbeats 4000000
set_option synthInstance.maxHeartbeats 400000
set_option synthInstance.maxSize 4096
set_option linter.unusedSimpArgs false
set_option linter.unusedVariables false
namespace Go.Proofs.YtggklaimbklefaaDoor

set_option maxRecDepth 100000

/-- One digit. -/
def dgt (k : Int) : ByteArray := [IntKind.u8.wrap (IntKind.i64.wrap (48 + k.tmod 10))].foldl (fun r n => r.push (UInt8.ofNat n.toNat)) ByteArray.empty
theorem dgt_size (k : Int) : (dgt k).size = 1 := rfl

/-- The digits of a number ahead of a text. -/
def mdig (k : Nat) (out : ByteArray) : ByteArray := if h : k = 0 then out else mdig (k / 10) (dgt k ++ out)
termination_by k
decreasing_by omega

/-- The text of a mark. -/
def mtext (k : Nat) : ByteArray := ⟨#[109]⟩ ++ mdig k ⟨#[]⟩

theorem cvII {A : View} {K : Value → View → Prop} (q : IntKind) (n : Int) : aconv Tryd.prog 3 5 (.int q n) A K = K (.int .u8 (IntKind.u8.wrap n)) A := aconv_int (s := .i64) (by kernel_rfl) (by kernel_rfl) q n

/-- Marks, one behind the other. -/
def marksI (k n : Nat) : List Int := (List.range' k n).map Int.ofNat
def marksT (k n : Nat) : List ByteArray := (List.range' k n).map mtext

theorem range'_snoc (k i : Nat) : List.range' k (i + 1) = List.range' k i ++ [k + i] := by
  rw [List.range'_concat]; simp

theorem marksI_len (k n : Nat) : (marksI k n).length = n := by simp [marksI]
theorem marksT_len (k n : Nat) : (marksT k n).length = n := by simp [marksT]

theorem elems_int {A : View} : ∀ (xs : List Int), (∀ x ∈ xs, -9223372036854775808 ≤ x ∧ x < 9223372036854775808) → Elems intS A xs (xs.map (.int .i64))
  | [], _ => .nil
  | x :: xs, h => .cons (S := intS) (c := [.int .i64 x]) ⟨rfl, h x (List.mem_cons_self ..)⟩ (elems_int xs fun y hy => h y (List.mem_cons_of_mem _ hy))

theorem elems_str {A : View} : ∀ (xs : List ByteArray), (∀ x ∈ xs, x.size ≤ 140737488355328) → Elems strS A xs (xs.map .string)
  | [], _ => .nil
  | x :: xs, h => .cons (S := strS) (c := [.string x]) ⟨rfl, h x (List.mem_cons_self ..)⟩ (elems_str xs fun y hy => h y (List.mem_cons_of_mem _ hy))

theorem marksI_elems {A : View} (k n : Nat) (hk : k + n ≤ 4398046511104) : Elems intS A (marksI k n) ((marksI k n).map (.int .i64)) := elems_int _ fun x hx => by
  simp [marksI] at hx
  obtain ⟨a, ha, rfl⟩ := hx
  omega

theorem OElems.scal_nil {α : Type} {S : Shape α} {hS : ∀ {A B x cs}, S.rel A x cs → S.rel B x cs} {A : View} {fp : List Nat} {xs : List α} {cs : List Value} (h : OElems (scalO S hS) A fp xs cs) : fp = [] := by
  induction h with
  | nil => rfl
  | cons h1 _ ih => rw [h1.1, ih]; rfl

theorem mtext_size {k : Nat} (hk : 0 < k) (hk2 : k ≤ 1099511627776) : (mtext k).size ≤ 2199023255552 := by
  have key : ∀ (m j : Nat) (out : ByteArray), m * 2 ^ j ≤ k → out.size = j → j ≤ 1099511627777 → (mdig m out).size ≤ 1099511627778 := by
    intro m
    induction m using Nat.strongRecOn with
    | ind m ih =>
      intro j out hj hs hj2
      unfold mdig
      split
      · omega
      · rename_i hm
        have hjs : j < 1099511627776 := by
          have h1 : 2 ^ j ≤ m * 2 ^ j := Nat.le_mul_of_pos_left _ (by omega)
          have h2 : j < 2 ^ j := Nat.lt_two_pow_self
          omega
        refine ih (m / 10) (by omega) (j + 1) _ ?_ ?_ (by omega)
        · have : m / 10 * 2 ^ (j + 1) ≤ m * 2 ^ j := by
            rw [Nat.pow_succ, Nat.mul_comm (2 ^ j) 2, ← Nat.mul_assoc]
            exact Nat.mul_le_mul_right _ (by omega)
          omega
        · rw [ByteArray.size_append, dgt_size, hs]; omega
  have h1 := key k 0 ⟨#[]⟩ (by omega) rfl (by omega)
  have h2 : (⟨#[109]⟩ : ByteArray).size = 1 := rfl
  unfold mtext
  rw [ByteArray.size_append, h2]
  omega

theorem marksT_elems {A : View} (k n : Nat) (hk0 : 0 < k) (hk : k + n ≤ 1099511627776) : Elems strS A (marksT k n) ((marksT k n).map .string) := elems_str _ fun x hx => by
  simp [marksT] at hx
  obtain ⟨a, ha, rfl⟩ := hx
  have := mtext_size (k := a) (by omega) (by omega)
  omega

theorem marksT_get {k n i : Nat} (h : i < n) : (marksT k n)[i]'(by rw [marksT_len]; exact h) = mtext (k + i) := by simp [marksT]

/-- Texts, with marks. -/
def strT : GT ByteArray := ⟨strO, fun _ => 1, fun k _ => mtext k, fun s => s.size⟩

theorem cntL_str (xs : List ByteArray) : cntL strT xs = xs.length := by
  induction xs with
  | nil => rfl
  | cons x xs ih =>
    simp only [cntL, ih, List.length_cons]
    show 1 + _ = _
    omega

theorem cntL_str_le (xs : List ByteArray) : cntL strT xs ≤ 4 * (xs.length + wL strT xs) := by rw [cntL_str]; omega

theorem wL_str (xs : List ByteArray) : wL strT xs = wStr xs := by
  induction xs with
  | nil => rfl
  | cons x xs ih => simp only [wL, ih, wStr]; rfl

theorem mkL_str : ∀ (xs : List ByteArray) (k : Nat), mkL strT k xs = marksT k xs.length
  | [], k => rfl
  | x :: xs, k => by
    have h1 := mkL_str xs (k + 1)
    simp only [mkL, marksT, List.length_cons, List.range'_succ, List.map_cons]
    have h2 : mkL strT (k + strT.cnt x) xs = marksT (k + 1) xs.length := h1
    rw [h2]; rfl

theorem mkL_int : ∀ (xs : List Int) (k : Nat), mkL intT k xs = marksI k xs.length
  | [], k => rfl
  | x :: xs, k => by
    have h1 := mkL_int xs (k + 1)
    simp only [mkL, marksI, List.length_cons, List.range'_succ, List.map_cons]
    have h2 : mkL intT (k + intT.cnt x) xs = marksI (k + 1) xs.length := h1
    rw [h2]; rfl

theorem szStringS_c (A : View) (v : Value) (xs : List ByteArray) (k : Int) (h : Sl strS A v xs) (hk : 0 ≤ k ∧ k ≤ 1048576) : ACalls Tryd.prog 10 #[v, .int .i64 k] A fun r A' => (∃ j : Int, r = .int .i64 j ∧ (j = -1 ∨ (0 ≤ j ∧ j + (xs.length + wL strT xs : Nat) = k))) ∧ Ext A A' := by
  rw [wL_str]; exact szStringS_c0 A v xs k h hk

end Go.Proofs.YtggklaimbklefaaDoor

