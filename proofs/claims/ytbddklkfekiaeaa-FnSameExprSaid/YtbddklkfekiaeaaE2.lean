/- Marks. -/
import Derived.Test.YtbddklkfekiaeaaE1
import Derived.Test.YtbddklkfekiaeaaFw10
set_option maxHeartbeats 4000000
set_option synthInstance.maxHeartbeats 400000
set_option synthInstance.maxSize 4096
set_option linter.unusedSimpArgs false
set_option linter.unusedVariables false
namespace Go.Proofs.Ytbddklkfekiaeaa

set_option maxRecDepth 100000

/-- One digit. -/
def dgt (k : Int) : ByteArray := [IntKind.u8.wrap (IntKind.i64.wrap (48 + k.tmod 10))].foldl (fun r n => r.push (UInt8.ofNat n.toNat)) ByteArray.empty
theorem dgt_size (k : Int) : (dgt k).size = 1 := rfl

/-- The digits of a number ahead of a text. -/
def mdig (k : Nat) (out : ByteArray) : ByteArray := if h : k = 0 then out else mdig (k / 10) (dgt k ++ out)
termination_by k
decreasing_by omega

/-- The text of a mark. -/
def mtext (k : Nat) : ByteArray := ⟨#[109]⟩ ++ mdig k ⟨#[]⟩

theorem cvII {A : View} {K : Value → View → Prop} (q : IntKind) (n : Int) : aconv Try.prog 3 5 (.int q n) A K = K (.int .u8 (IntKind.u8.wrap n)) A := aconv_int (s := .i64) (by kernel_rfl) (by kernel_rfl) q n

theorem markText_c (A : View) (k : Nat) (hk : 0 < k) (hk2 : k ≤ 1099511627776) : ACalls Try.prog 77 #[.int .i64 k] A fun r A' => r = .string (mtext k) ∧ (mtext k).size ≤ 2199023255552 ∧ Ext A A' := by
  refine acalls Try.func77 rfl (by kernel_rfl) ?_
  simp (disch := omega) only [↓stp, vls, inf, frs, mark_eq, ↓reduceIte, Nat.reduceEqDiff, ite_tt, ite_ff, eq_self, and_true, true_and, and_self, implies_true, Bool.true_eq_false, Bool.false_eq_true, decide_true, decide_false, decide_eq_true_eq, decide_eq_false_iff_not, ne_eq, not_true_eq_false, not_false_eq_true, Bool.not_eq_true', Bool.not_eq_false', beq_self_eq_true, Bool.not_true, Bool.not_false, List.getElem?_toArray, List.getElem?_cons_zero, List.getElem?_cons_succ]
  refine ⟨fun e => by omega, fun e => ?_⟩
  simp (disch := omega) only [↓stp, vls, inf, frs, mark_eq, ↓reduceIte, Nat.reduceEqDiff, ite_tt, ite_ff, eq_self, and_true, true_and, and_self, implies_true, Bool.true_eq_false, Bool.false_eq_true, decide_true, decide_false, decide_eq_true_eq, decide_eq_false_iff_not, ne_eq, not_true_eq_false, not_false_eq_true, Bool.not_eq_true', Bool.not_eq_false', beq_self_eq_true, Bool.not_true, Bool.not_false, List.getElem?_toArray, List.getElem?_cons_zero, List.getElem?_cons_succ]
  refine aloop (fun d fr A' => ∃ (m : Nat) (out : ByteArray) (j : Nat), d = m ∧ fr 0 = .int .i64 m ∧ fr 3 = .string out ∧ mdig k ⟨#[]⟩ = mdig m out ∧ m * 2 ^ j ≤ k ∧ out.size = j ∧ j ≤ 1099511627777 ∧ Ext A A') k ⟨k, ⟨#[]⟩, 0, rfl, rfl, rfl, rfl, by omega, rfl, by omega, Ext.refl _⟩ ?_
  rintro m fr A' ⟨_, out, j, rfl, h0, h3, hm, hj, hs, hj2, he⟩
  simp (disch := omega) only [↓stp, vls, inf, frs, mark_eq, ↓reduceIte, Nat.reduceEqDiff, ite_tt, ite_ff, eq_self, and_true, true_and, and_self, implies_true, Bool.true_eq_false, Bool.false_eq_true, decide_true, decide_false, decide_eq_true_eq, decide_eq_false_iff_not, ne_eq, not_true_eq_false, not_false_eq_true, Bool.not_eq_true', Bool.not_eq_false', beq_self_eq_true, Bool.not_true, Bool.not_false, List.getElem?_toArray, List.getElem?_cons_zero, List.getElem?_cons_succ, h0, h3]
  refine ⟨fun e1 => ?_, fun e1 => ?_⟩
  · have hmk : m ≤ k := Nat.le_trans (Nat.le_mul_of_pos_right _ (Nat.two_pow_pos j)) hj
    have hjs : j < 1099511627776 := by
      have h1 : 2 ^ j ≤ m * 2 ^ j := Nat.le_mul_of_pos_left _ (by omega)
      have h2 : j < 2 ^ j := Nat.lt_two_pow_self
      omega
    simp (disch := omega) only [↓stp, vls, inf, frs, mark_eq, ↓reduceIte, Nat.reduceEqDiff, ite_tt, ite_ff, eq_self, and_true, true_and, and_self, implies_true, Bool.true_eq_false, Bool.false_eq_true, decide_true, decide_false, decide_eq_true_eq, decide_eq_false_iff_not, ne_eq, not_true_eq_false, not_false_eq_true, Bool.not_eq_true', Bool.not_eq_false', beq_self_eq_true, Bool.not_true, Bool.not_false, List.getElem?_toArray, List.getElem?_cons_zero, List.getElem?_cons_succ, h0, h3, abin_rem, cvII]
    refine alit_at (n := 1) li22 (by omega) rfl (by simp [Value.cells, Value.oneCell']) fun b hb => ?_
    generalize hB : A'.set b _ = B
    have hBb : B b = some ⟨5, [.int .u8 (IntKind.u8.wrap (IntKind.i64.wrap (48 + (m : Int).tmod 10)))], 1, true⟩ := by rw [← hB]; exact View.set_same ..
    have hBe : Ext A' B := by rw [← hB]; exact Ext.new hb _
    have hcv : ∀ K : Value → View → Prop, aconv Try.prog 22 9 (.slice (some ⟨b, 0, none⟩) 1 1) B K = K (.string (dgt m)) B := fun K =>
      aconv_bytes (e := 5) (by kernel_rfl) (by kernel_rfl) (by kernel_rfl) (ns := [IntKind.u8.wrap (IntKind.i64.wrap (48 + (m : Int).tmod 10))]) (fun j v hj => by
        rw [add_at, Nat.zero_add]
        refine cell_at hBb (by simpa using hj) ?_
        have := List.mem_of_getElem? hj
        simp at this
        rw [this]; rfl)
    have hd := dgt_size m
    have hdiv : (m : Int).tdiv 10 = ((m / 10 : Nat) : Int) := (Int.ofNat_tdiv m 10).symm
    simp (disch := omega) only [↓stp, vls, inf, frs, mark_eq, ↓reduceIte, Nat.reduceEqDiff, ite_tt, ite_ff, eq_self, and_true, true_and, and_self, implies_true, Bool.true_eq_false, Bool.false_eq_true, decide_true, decide_false, decide_eq_true_eq, decide_eq_false_iff_not, ne_eq, not_true_eq_false, not_false_eq_true, Bool.not_eq_true', Bool.not_eq_false', beq_self_eq_true, Bool.not_true, Bool.not_false, List.getElem?_toArray, List.getElem?_cons_zero, List.getElem?_cons_succ, h0, h3, hcv, abin_quo, hdiv]
    refine ⟨m / 10, by omega, m / 10, _, j + 1, rfl, rfl, rfl, ?_, ?_, ?_, by omega, he.trans hBe⟩
    · rw [hm]
      conv => lhs; unfold mdig
      rw [dif_neg (by omega)]
    · have : m / 10 * 2 ^ (j + 1) ≤ m * 2 ^ j := by
        rw [Nat.pow_succ, Nat.mul_comm (2 ^ j) 2, ← Nat.mul_assoc]
        exact Nat.mul_le_mul_right _ (by omega)
      omega
    · rw [ByteArray.size_append, hd, hs]; omega
  · have hm0 : m = 0 := by omega
    have hs1 : (⟨#[109]⟩ : ByteArray).size = 1 := rfl
    simp (disch := omega) only [↓stp, vls, inf, frs, mark_eq, ↓reduceIte, Nat.reduceEqDiff, ite_tt, ite_ff, eq_self, and_true, true_and, and_self, implies_true, Bool.true_eq_false, Bool.false_eq_true, decide_true, decide_false, decide_eq_true_eq, decide_eq_false_iff_not, ne_eq, not_true_eq_false, not_false_eq_true, Bool.not_eq_true', Bool.not_eq_false', beq_self_eq_true, Bool.not_true, Bool.not_false, List.getElem?_toArray, List.getElem?_cons_zero, List.getElem?_cons_succ, h0, h3]
    have he2 : mtext k = ⟨#[109]⟩ ++ out := by
      unfold mtext
      rw [hm, hm0]
      unfold mdig
      rw [dif_pos rfl]
    rw [he2]
    refine ⟨rfl, ?_, he⟩
    rw [ByteArray.size_append, hs1, hs]; omega

/-- Marks, one behind the other. -/
def marksI (k n : Nat) : List Int := (List.range' k n).map Int.ofNat
def marksT (k n : Nat) : List ByteArray := (List.range' k n).map mtext

theorem range'_snoc (k i : Nat) : List.range' k (i + 1) = List.range' k i ++ [k + i] := by
  rw [List.range'_concat]; simp

theorem marksI_len (k n : Nat) : (marksI k n).length = n := by simp [marksI]
theorem marksT_len (k n : Nat) : (marksT k n).length = n := by simp [marksT]

theorem elems_int {A : View} : ∀ (xs : List Int), (∀ x ∈ xs, -9223372036854775808 ≤ x ∧ x < 9223372036854775808) → Elems intS A xs (xs.map (.int .i64))
  | [], _ => .nil
  | x :: xs, h => .cons (S := intS) (c := [.int .i64 x]) ⟨rfl, h x (List.mem_cons_self ..)⟩ (elems_int xs fun y hy => h y (List.mem_cons_of_mem _ hy))

theorem elems_str {A : View} : ∀ (xs : List ByteArray), (∀ x ∈ xs, x.size ≤ 140737488355328) → Elems strS A xs (xs.map .string)
  | [], _ => .nil
  | x :: xs, h => .cons (S := strS) (c := [.string x]) ⟨rfl, h x (List.mem_cons_self ..)⟩ (elems_str xs fun y hy => h y (List.mem_cons_of_mem _ hy))

theorem marksI_elems {A : View} (k n : Nat) (hk : k + n ≤ 4398046511104) : Elems intS A (marksI k n) ((marksI k n).map (.int .i64)) := elems_int _ fun x hx => by
  simp [marksI] at hx
  obtain ⟨a, ha, rfl⟩ := hx
  omega

theorem OElems.scal_nil {α : Type} {S : Shape α} {hS : ∀ {A B x cs}, S.rel A x cs → S.rel B x cs} {A : View} {fp : List Nat} {xs : List α} {cs : List Value} (h : OElems (scalO S hS) A fp xs cs) : fp = [] := by
  induction h with
  | nil => rfl
  | cons h1 _ ih => rw [h1.1, ih]; rfl

theorem mtext_size {k : Nat} (hk : 0 < k) (hk2 : k ≤ 1099511627776) : (mtext k).size ≤ 2199023255552 := by
  have key : ∀ (m j : Nat) (out : ByteArray), m * 2 ^ j ≤ k → out.size = j → j ≤ 1099511627777 → (mdig m out).size ≤ 1099511627778 := by
    intro m
    induction m using Nat.strongRecOn with
    | ind m ih =>
      intro j out hj hs hj2
      unfold mdig
      split
      · omega
      · rename_i hm
        have hjs : j < 1099511627776 := by
          have h1 : 2 ^ j ≤ m * 2 ^ j := Nat.le_mul_of_pos_left _ (by omega)
          have h2 : j < 2 ^ j := Nat.lt_two_pow_self
          omega
        refine ih (m / 10) (by omega) (j + 1) _ ?_ ?_ (by omega)
        · have : m / 10 * 2 ^ (j + 1) ≤ m * 2 ^ j := by
            rw [Nat.pow_succ, Nat.mul_comm (2 ^ j) 2, ← Nat.mul_assoc]
            exact Nat.mul_le_mul_right _ (by omega)
          omega
        · rw [ByteArray.size_append, dgt_size, hs]; omega
  have h1 := key k 0 ⟨#[]⟩ (by omega) rfl (by omega)
  have h2 : (⟨#[109]⟩ : ByteArray).size = 1 := rfl
  unfold mtext
  rw [ByteArray.size_append, h2]
  omega

theorem marksT_elems {A : View} (k n : Nat) (hk0 : 0 < k) (hk : k + n ≤ 1099511627776) : Elems strS A (marksT k n) ((marksT k n).map .string) := elems_str _ fun x hx => by
  simp [marksT] at hx
  obtain ⟨a, ha, rfl⟩ := hx
  have := mtext_size (k := a) (by omega) (by omega)
  omega

theorem markStringS_c0 (A : View) (fp : List Nat) (v : Value) (xs : List ByteArray) (k : Nat) (h : OSl 9 strO A fp v xs) (hk0 : 0 < k) (hk : k + xs.length ≤ 68719476736) :
    ACalls Try.prog 78 #[v, .int .i64 k] A fun r A' => r = .int .i64 ((k + xs.length : Nat) : Int) ∧ OSl 9 strO A' fp v (marksT k xs.length) ∧ Only fp A A' := by
  obtain ⟨hl, ⟨rfl, rfl, rfl⟩ | ⟨b, c, cells, f, rfl, hc, rfl, hbk, he⟩⟩ := h
  · refine acalls Try.func78 rfl (by kernel_rfl) ?_
    simp (disch := omega) only [↓stp, vls, inf, frs, mark_eq, ↓reduceIte, Nat.reduceEqDiff, ite_tt, ite_ff, eq_self, and_true, true_and, and_self, implies_true, Bool.true_eq_false, Bool.false_eq_true, decide_true, decide_false, decide_eq_true_eq, decide_eq_false_iff_not, ne_eq, not_true_eq_false, not_false_eq_true, Bool.not_eq_true', Bool.not_eq_false', beq_self_eq_true, Bool.not_true, Bool.not_false, List.getElem?_toArray, List.getElem?_cons_zero, List.getElem?_cons_succ]
    refine aloop (fun d fr A' => A' = A ∧ fr 0 = .slice none 0 0 ∧ fr 1 = .int .i64 k ∧ fr 5 = .int .i64 0) 0 ⟨rfl, by rfl, by rfl, by rfl⟩ ?_
    rintro d fr A ⟨rfl, h0, h1, h5⟩
    simp (disch := omega) only [↓stp, vls, inf, frs, mark_eq, ↓reduceIte, Nat.reduceEqDiff, ite_tt, ite_ff, eq_self, and_true, true_and, and_self, implies_true, Bool.true_eq_false, Bool.false_eq_true, decide_true, decide_false, decide_eq_true_eq, decide_eq_false_iff_not, ne_eq, not_true_eq_false, not_false_eq_true, Bool.not_eq_true', Bool.not_eq_false', beq_self_eq_true, Bool.not_true, Bool.not_false, List.getElem?_toArray, List.getElem?_cons_zero, List.getElem?_cons_succ, h0, h1, h5]
    refine ⟨fun e => by omega, fun e => ?_⟩
    simp (disch := omega) only [↓stp, vls, inf, frs, mark_eq, ↓reduceIte, Nat.reduceEqDiff, ite_tt, ite_ff, eq_self, and_true, true_and, and_self, implies_true, Bool.true_eq_false, Bool.false_eq_true, decide_true, decide_false, decide_eq_true_eq, decide_eq_false_iff_not, ne_eq, not_true_eq_false, not_false_eq_true, Bool.not_eq_true', Bool.not_eq_false', beq_self_eq_true, Bool.not_true, Bool.not_false, List.getElem?_toArray, List.getElem?_cons_zero, List.getElem?_cons_succ, h0, h1, h5]
    exact ⟨by simp, ⟨by simp [marksT], .inl ⟨rfl, rfl, rfl⟩⟩, Only.refl _ _⟩
  · have hcl := he.len
    have hcl' : cells.length = xs.length := by rw [hcl]; simp [strO, scalO, strS]
    obtain rfl := OElems.scal_nil he
    refine acalls Try.func78 rfl (by kernel_rfl) ?_
    simp (disch := omega) only [↓stp, vls, inf, frs, mark_eq, ↓reduceIte, Nat.reduceEqDiff, ite_tt, ite_ff, eq_self, and_true, true_and, and_self, implies_true, Bool.true_eq_false, Bool.false_eq_true, decide_true, decide_false, decide_eq_true_eq, decide_eq_false_iff_not, ne_eq, not_true_eq_false, not_false_eq_true, Bool.not_eq_true', Bool.not_eq_false', beq_self_eq_true, Bool.not_true, Bool.not_false, List.getElem?_toArray, List.getElem?_cons_zero, List.getElem?_cons_succ]
    refine aloop (fun d fr A' => ∃ i : Nat, i ≤ xs.length ∧ d = xs.length - i ∧ A' b = some ⟨9, (marksT k i).map .string ++ cells.drop i, c * strO.S.size, true⟩ ∧ Only [b] A A' ∧ fr 0 = .slice (some ⟨b, 0, none⟩) xs.length c ∧ fr 1 = .int .i64 ((k + i : Nat) : Int) ∧ fr 5 = .int .i64 i) xs.length ⟨0, by omega, by omega, hbk, Only.refl _ _, by rfl, by rfl, by rfl⟩ ?_
    rintro d fr A' ⟨i, hi, rfl, hA, ho, h0, h1, h5⟩
    simp (disch := omega) only [↓stp, vls, inf, frs, mark_eq, ↓reduceIte, Nat.reduceEqDiff, ite_tt, ite_ff, eq_self, and_true, true_and, and_self, implies_true, Bool.true_eq_false, Bool.false_eq_true, decide_true, decide_false, decide_eq_true_eq, decide_eq_false_iff_not, ne_eq, not_true_eq_false, not_false_eq_true, Bool.not_eq_true', Bool.not_eq_false', beq_self_eq_true, Bool.not_true, Bool.not_false, List.getElem?_toArray, List.getElem?_cons_zero, List.getElem?_cons_succ, h0, h1, h5]
    refine ⟨fun e => ?_, fun e => ?_⟩
    · have hlt : i < xs.length := by omega
      have hz : cells.drop i = [cells[i]] ++ cells.drop (i + 1) := by rw [List.drop_eq_getElem_cons (by omega)]; rfl
      simp (disch := omega) only [↓stp, vls, inf, frs, mark_eq, ↓reduceIte, Nat.reduceEqDiff, ite_tt, ite_ff, eq_self, and_true, true_and, and_self, implies_true, Bool.true_eq_false, Bool.false_eq_true, decide_true, decide_false, decide_eq_true_eq, decide_eq_false_iff_not, ne_eq, not_true_eq_false, not_false_eq_true, Bool.not_eq_true', Bool.not_eq_false', beq_self_eq_true, Bool.not_true, Bool.not_false, List.getElem?_toArray, List.getElem?_cons_zero, List.getElem?_cons_succ, h0, h1, h5]
      refine (markText_c A' (k + i) (by omega) (by omega)).mono ?_
      rintro _ A1 ⟨rfl, hms, hext⟩
      have hA1 := hext _ _ hA
      have hst := storev_at (P := Try.prog) (v := .string (mtext (k + i))) sz9 (hA1.trans (by rw [hz])) rfl rfl rfl (o := 0 + i) (by simp [marksT])
      simp (disch := omega) only [↓stp, vls, inf, frs, mark_eq, ↓reduceIte, Nat.reduceEqDiff, ite_tt, ite_ff, eq_self, and_true, true_and, and_self, implies_true, Bool.true_eq_false, Bool.false_eq_true, decide_true, decide_false, decide_eq_true_eq, decide_eq_false_iff_not, ne_eq, not_true_eq_false, not_false_eq_true, Bool.not_eq_true', Bool.not_eq_false', beq_self_eq_true, Bool.not_true, Bool.not_false, List.getElem?_toArray, List.getElem?_cons_zero, List.getElem?_cons_succ, astore_at, h0, h1, h5, add_at, hst]
      refine ⟨_, by omega, i + 1, by omega, rfl, ?_, (ho.trans (Only.ext hext _)).trans (Only.set _ (by simp)), ?_, rfl⟩
      · simp only [View.set_same, marksT, range'_snoc, List.map_append, List.append_assoc]
        rfl
      · congr 1
    · simp (disch := omega) only [↓stp, vls, inf, frs, mark_eq, ↓reduceIte, Nat.reduceEqDiff, ite_tt, ite_ff, eq_self, and_true, true_and, and_self, implies_true, Bool.true_eq_false, Bool.false_eq_true, decide_true, decide_false, decide_eq_true_eq, decide_eq_false_iff_not, ne_eq, not_true_eq_false, not_false_eq_true, Bool.not_eq_true', Bool.not_eq_false', beq_self_eq_true, Bool.not_true, Bool.not_false, List.getElem?_toArray, List.getElem?_cons_zero, List.getElem?_cons_succ, h0, h1, h5]
      have hi' : i = xs.length := by omega
      subst hi'
      rw [List.drop_of_length_le (by omega), List.append_nil] at hA
      have hml := marksT_len k xs.length
      exact ⟨rfl, ⟨by omega, .inr ⟨b, c, _, [], by rw [hml], by omega, rfl, hA, OElems.scal (marksT_elems (A := A') k _ hk0 (by omega))⟩⟩, ho⟩

theorem marksT_get {k n i : Nat} (h : i < n) : (marksT k n)[i]'(by rw [marksT_len]; exact h) = mtext (k + i) := by simp [marksT]

theorem heldStringS_c0 (A : View) (v : Value) (n k : Nat) (h : Sl strS A v (marksT k n)) (hk0 : 0 < k) (hk : k + n ≤ 68719476736) :
    ACalls Try.prog 79 #[v, .int .i64 k] A fun r A' => r = .int .i64 ((k + n : Nat) : Int) ∧ Ext A A' := by
  obtain ⟨a, c, rfl, hc, hl⟩ := h.slice
  have hml := marksT_len k n
  rw [hml] at h hc
  simp only [hml]
  refine acalls Try.func79 rfl (by kernel_rfl) ?_
  simp (disch := omega) only [↓stp, vls, inf, frs, mark_eq, ↓reduceIte, Nat.reduceEqDiff, ite_tt, ite_ff, eq_self, and_true, true_and, and_self, implies_true, Bool.true_eq_false, Bool.false_eq_true, decide_true, decide_false, decide_eq_true_eq, decide_eq_false_iff_not, ne_eq, not_true_eq_false, not_false_eq_true, Bool.not_eq_true', Bool.not_eq_false', beq_self_eq_true, Bool.not_true, Bool.not_false, List.getElem?_toArray, List.getElem?_cons_zero, List.getElem?_cons_succ]
  refine aloop (fun d fr A' => ∃ i : Nat, i ≤ n ∧ d = n - i ∧ Ext A A' ∧ fr 0 = .slice a n c ∧ fr 1 = .int .i64 ((k + i : Nat) : Int) ∧ fr 5 = .int .i64 i) n ⟨0, by omega, by omega, Ext.refl _, by rfl, by rfl, by rfl⟩ ?_
  rintro d fr A' ⟨i, hi, rfl, he, h0, h1, h5⟩
  simp (disch := omega) only [↓stp, vls, inf, frs, mark_eq, ↓reduceIte, Nat.reduceEqDiff, ite_tt, ite_ff, eq_self, and_true, true_and, and_self, implies_true, Bool.true_eq_false, Bool.false_eq_true, decide_true, decide_false, decide_eq_true_eq, decide_eq_false_iff_not, ne_eq, not_true_eq_false, not_false_eq_true, Bool.not_eq_true', Bool.not_eq_false', beq_self_eq_true, Bool.not_true, Bool.not_false, List.getElem?_toArray, List.getElem?_cons_zero, List.getElem?_cons_succ, h0, h1, h5]
  refine ⟨fun e => ?_, fun e => ?_⟩
  · have hlt : i < n := by omega
    obtain ⟨ad, rfl, hcl, hsz⟩ := (h.mono he).str (i := i) (by omega)
    rw [marksT_get hlt] at hcl
    simp (disch := omega) only [↓stp, vls, inf, frs, mark_eq, ↓reduceIte, Nat.reduceEqDiff, ite_tt, ite_ff, eq_self, and_true, true_and, and_self, implies_true, Bool.true_eq_false, Bool.false_eq_true, decide_true, decide_false, decide_eq_true_eq, decide_eq_false_iff_not, ne_eq, not_true_eq_false, not_false_eq_true, Bool.not_eq_true', Bool.not_eq_false', beq_self_eq_true, Bool.not_true, Bool.not_false, List.getElem?_toArray, List.getElem?_cons_zero, List.getElem?_cons_succ, h0, h1, h5]
    refine adraw_items [.q 0, .q 1, .q 2, .l 3 true, .q 4, .c 5 [3], .q 6] (by kernel_rfl) (by kernel_rfl) ?_
    simp (disch := omega) only [↓stp, ↓pln, plv, nilOk, Nat.reduceBEq, Bool.or_false, Bool.or_true, Bool.false_or, Bool.true_or, vls, inf, frs, mark_eq, ↓reduceIte, Nat.reduceEqDiff, ite_tt, ite_ff, eq_self, and_true, true_and, and_self, implies_true, Bool.true_eq_false, Bool.false_eq_true, decide_true, decide_false, decide_eq_true_eq, decide_eq_false_iff_not, ne_eq, not_true_eq_false, not_false_eq_true, Bool.not_eq_true', Bool.not_eq_false', beq_self_eq_true, Bool.not_true, Bool.not_false, List.getElem?_toArray, List.getElem?_cons_zero, List.getElem?_cons_succ, h0, h1, h5, hcl]
    refine (markText_c A' (k + i) (by omega) (by omega)).mono ?_
    rintro _ A1 ⟨rfl, hms, hext⟩
    have hcl1 := hext.cell hcl
    simp (disch := omega) only [↓stp, ↓pln, plv, nilOk, Nat.reduceBEq, Bool.or_false, Bool.or_true, Bool.false_or, Bool.true_or, vls, inf, frs, mark_eq, ↓reduceIte, Nat.reduceEqDiff, ite_tt, ite_ff, eq_self, and_true, true_and, and_self, implies_true, Bool.true_eq_false, Bool.false_eq_true, decide_true, decide_false, decide_eq_true_eq, decide_eq_false_iff_not, ne_eq, not_true_eq_false, not_false_eq_true, Bool.not_eq_true', Bool.not_eq_false', beq_self_eq_true, Bool.not_true, Bool.not_false, List.getElem?_toArray, List.getElem?_cons_zero, List.getElem?_cons_succ, h0, h1, h5, hcl1]
    exact ⟨_, by omega, i + 1, by omega, rfl, he.trans hext, by congr 1, rfl⟩
  · simp (disch := omega) only [↓stp, vls, inf, frs, mark_eq, ↓reduceIte, Nat.reduceEqDiff, ite_tt, ite_ff, eq_self, and_true, true_and, and_self, implies_true, Bool.true_eq_false, Bool.false_eq_true, decide_true, decide_false, decide_eq_true_eq, decide_eq_false_iff_not, ne_eq, not_true_eq_false, not_false_eq_true, Bool.not_eq_true', Bool.not_eq_false', beq_self_eq_true, Bool.not_true, Bool.not_false, List.getElem?_toArray, List.getElem?_cons_zero, List.getElem?_cons_succ, h0, h1, h5]
    have : i = n := by omega
    subst this
    exact ⟨rfl, he⟩

/-- Texts, with marks. -/
def strT : GT ByteArray := ⟨strO, fun _ => 1, fun k _ => mtext k, fun s => s.size⟩

theorem cntL_str (xs : List ByteArray) : cntL strT xs = xs.length := by
  induction xs with
  | nil => rfl
  | cons x xs ih =>
    simp only [cntL, ih, List.length_cons]
    show 1 + _ = _
    omega

theorem cntL_str_le (xs : List ByteArray) : cntL strT xs ≤ 4 * (xs.length + wL strT xs) := by rw [cntL_str]; omega

theorem wL_str (xs : List ByteArray) : wL strT xs = wStr xs := by
  induction xs with
  | nil => rfl
  | cons x xs ih => simp only [wL, ih, wStr]; rfl

theorem mkL_str : ∀ (xs : List ByteArray) (k : Nat), mkL strT k xs = marksT k xs.length
  | [], k => rfl
  | x :: xs, k => by
    have h1 := mkL_str xs (k + 1)
    simp only [mkL, marksT, List.length_cons, List.range'_succ, List.map_cons]
    have h2 : mkL strT (k + strT.cnt x) xs = marksT (k + 1) xs.length := h1
    rw [h2]; rfl

theorem mkL_int : ∀ (xs : List Int) (k : Nat), mkL intT k xs = marksI k xs.length
  | [], k => rfl
  | x :: xs, k => by
    have h1 := mkL_int xs (k + 1)
    simp only [mkL, marksI, List.length_cons, List.range'_succ, List.map_cons]
    have h2 : mkL intT (k + intT.cnt x) xs = marksI (k + 1) xs.length := h1
    rw [h2]; rfl

theorem szStringS_c (A : View) (v : Value) (xs : List ByteArray) (k : Int) (h : Sl strS A v xs) (hk : 0 ≤ k ∧ k ≤ 1048576) : ACalls Try.prog 102 #[v, .int .i64 k] A fun r A' => (∃ j : Int, r = .int .i64 j ∧ (j = -1 ∨ (0 ≤ j ∧ j + (xs.length + wL strT xs : Nat) = k))) ∧ Ext A A' := by
  rw [wL_str]; exact szStringS_c0 A v xs k h hk

theorem markStringS_c (A : View) (fp : List Nat) (v : Value) (xs : List ByteArray) (k : Nat) (h : OSl 9 strO A fp v xs) (hnd : fp.Nodup) (hk0 : 0 < k) (hk : k + cntL strT xs ≤ 68719476736):
    ACalls Try.prog 78 #[v, .int .i64 k] A fun r A' => r = .int .i64 ((k + cntL strT xs : Nat) : Int) ∧ OSl 9 strO A' fp v (mkL strT k xs) ∧ Only fp A A' := by
  rw [cntL_str] at hk
  rw [cntL_str, mkL_str]; exact markStringS_c0 A fp v xs k h hk0 (by omega)

theorem heldStringS_c (A : View) (v : Value) (xs : List ByteArray) (k : Nat) (h : Sl strS A v (mkL strT k xs)) (hk0 : 0 < k) (hk : k + cntL strT xs ≤ 68719476736):
    ACalls Try.prog 79 #[v, .int .i64 k] A fun r A' => r = .int .i64 ((k + cntL strT xs : Nat) : Int) ∧ Ext A A' := by
  rw [mkL_str] at h
  rw [cntL_str] at hk
  rw [cntL_str]; exact heldStringS_c0 A v xs.length k h hk0 (by omega)

end Go.Proofs.Ytbddklkfekiaeaa

