/- Expressions: the reference's walk for atoms. -/
import Derived.Test.YtbddklkfekiaeaaUK
set_option maxHeartbeats 4000000
set_option synthInstance.maxHeartbeats 400000
set_option synthInstance.maxSize 4096
set_option linter.unusedSimpArgs false
set_option linter.unusedVariables false
namespace Go.Proofs.Ytbddklkfekiaeaa

set_option maxRecDepth 100000

def stS (s : ByteArray) (i : Nat) : List ByteArray × Bs := (s.data.toList.take i).foldl stepS ([], [])
theorem stS_next {s : ByteArray} {i : Nat} (h : i < s.size) : stS s (i + 1) = stepS (stS s i) (s.data.toList[i]'(by rw [toList_len]; exact h)) := by
  unfold stS
  rw [List.take_succ_eq_append_getElem (by rw [toList_len]; exact h), List.foldl_append]
  rfl
theorem addT_le (xs : List ByteArray) (n : ByteArray) : (addT xs n).length ≤ xs.length + 1 := by
  unfold addT
  split
  · omega
  · rw [List.length_append]; exact Nat.le_refl _
theorem flush_le (acc : List ByteArray) (w : ByteArray) : (flushS acc w).length ≤ acc.length + 1 := by
  unfold flushS
  split
  · omega
  · exact addT_le ..
theorem tx_snoc (cu : Bs) {s : ByteArray} {i : Nat} (h : i < s.size) : tx cu ++ s.extract i (i + 1) = tx (cu ++ [s.data.toList[i]'(by rw [toList_len]; exact h)]) := by
  refine ba_ext ?_
  rw [ByteArray.data_append, Array.toList_append, toList_extract, Nat.add_sub_cancel_left, List.drop_eq_getElem_cons (by rw [toList_len]; exact h)]
  rfl

theorem spec_atoms_c (A : View) (s : ByteArray) (hs : s.size ≤ 100000) : ACalls Try.prog 70 #[.string s] A fun r V => NewSl 9 strO A r V (scanS [] [] s.data.toList) := by
  have n10 : ((⟨#[97, 110, 100]⟩ : ByteArray) = (⟨#[]⟩ : ByteArray)) = False := eq_false (by decide)
  have n20 : ((⟨#[111, 114]⟩ : ByteArray) = (⟨#[]⟩ : ByteArray)) = False := eq_false (by decide)
  have n21 : ((⟨#[111, 114]⟩ : ByteArray) = (⟨#[97, 110, 100]⟩ : ByteArray)) = False := eq_false (by decide)
  have n30 : ((⟨#[110, 111, 116]⟩ : ByteArray) = (⟨#[]⟩ : ByteArray)) = False := eq_false (by decide)
  have n31 : ((⟨#[110, 111, 116]⟩ : ByteArray) = (⟨#[97, 110, 100]⟩ : ByteArray)) = False := eq_false (by decide)
  have n32 : ((⟨#[110, 111, 116]⟩ : ByteArray) = (⟨#[111, 114]⟩ : ByteArray)) = False := eq_false (by decide)
  refine acalls Try.func70 rfl (by kernel_rfl) ?_
  simp (disch := omega) only [↓stq, amv_at, vls, inf, frs, mark_eq, ↓reduceIte, Nat.reduceEqDiff, ite_tt, ite_ff, eq_self, and_true, true_and, and_self, implies_true, Bool.true_eq_false, Bool.false_eq_true, decide_true, decide_false, decide_eq_true_eq, decide_eq_false_iff_not, ne_eq, not_true_eq_false, not_false_eq_true, Bool.not_eq_true', Bool.not_eq_false', beq_self_eq_true, Bool.not_true, Bool.not_false, List.getElem?_toArray, List.getElem?_cons_zero, List.getElem?_cons_succ]
  refine led_lit0 (O := strO) li25 (Led.nil A) fun b V _ l => ?_
  simp (disch := omega) only [↓stq, amv_at, vls, inf, frs, mark_eq, ↓reduceIte, Nat.reduceEqDiff, ite_tt, ite_ff, eq_self, and_true, true_and, and_self, implies_true, Bool.true_eq_false, Bool.false_eq_true, decide_true, decide_false, decide_eq_true_eq, decide_eq_false_iff_not, ne_eq, not_true_eq_false, not_false_eq_true, Bool.not_eq_true', Bool.not_eq_false', beq_self_eq_true, Bool.not_true, Bool.not_false, List.getElem?_toArray, List.getElem?_cons_zero, List.getElem?_cons_succ]
  refine aloop (fun d fr V => ∃ (i : Nat) (fp : List Nat) (w : Value) (ac : List ByteArray) (cu : Bs), i ≤ s.size + 1 ∧ d = s.size + 1 - i ∧ Led A [osl 9 strO fp w ac] V ∧ ((i ≤ s.size → (ac, cu) = stS s i) ∧ (i = s.size + 1 → ac = scanS [] [] s.data.toList)) ∧ ac.length ≤ i ∧ cu.length ≤ i ∧ fr 0 = .string s ∧ fr 3 = w ∧ fr 4 = .string (tx cu) ∧ fr 5 = .int .i64 i) (s.size + 1) ⟨0, _, _, [], [], by omega, by omega, l, ⟨fun _ => rfl, fun h => absurd h (by omega)⟩, by simp, by simp, by rfl, by rfl, by rfl, by rfl⟩ ?_
  clear l
  rintro d fr V ⟨i, fp, w, ac, cu, hi, rfl, l, ⟨hst0, hst1⟩, hal, hcl, q0, q3, q4, q5⟩
  simp (disch := omega) only [↓stq, amv_at, vls, inf, frs, mark_eq, ↓reduceIte, Nat.reduceEqDiff, ite_tt, ite_ff, eq_self, and_true, true_and, and_self, implies_true, Bool.true_eq_false, Bool.false_eq_true, decide_true, decide_false, decide_eq_true_eq, decide_eq_false_iff_not, ne_eq, not_true_eq_false, not_false_eq_true, Bool.not_eq_true', Bool.not_eq_false', beq_self_eq_true, Bool.not_true, Bool.not_false, List.getElem?_toArray, List.getElem?_cons_zero, List.getElem?_cons_succ, q0, q3, q4, q5]
  refine ⟨fun e0 => ?_, fun e0 => ?_⟩
  · have hil : i ≤ s.size := by omega
    have hst1' := hst0 hil
    have hcz : (tx cu).size ≤ i := by rw [tx_size]; exact hcl
    have flen : (flushS ac (tx cu)).length ≤ i + 1 := by have := flush_le ac (tx cu); omega
    by_cases c0 : i < s.size
    · have hnx := stS_next c0
      rw [← hst1'] at hnx
      have e1 : (i : Int) < s.size := by omega
      have hlb := lettr_sbyte c0
      obtain ⟨by0, hb1, hb2⟩ := sbyte_at c0
      rw [List.getElem?_eq_getElem (by rw [toList_len]; exact c0)] at hb1
      have hb1 := Option.some.inj hb1
      have h64 : (s.data.toList[i]'(by rw [toList_len]; exact c0)) = 64 ↔ sbyte s i = 64 := by
        rw [hb2, hb1]
        exact ⟨fun h => by rw [h]; rfl, fun h => UInt8.toNat_inj.1 h⟩
      have hxz : (s.extract i (i + 1)).size = 1 := by rw [ByteArray.size_extract]; omega
      have hdd : ((i : Int) + 1).toNat = i + 1 := by omega
      have word : wordB (s.data.toList[i]'(by rw [toList_len]; exact c0)) = true → stS s (i + 1) = (ac, cu ++ [s.data.toList[i]'(by rw [toList_len]; exact c0)]) := fun h => by rw [hnx, stepS, if_pos h]
      have other : wordB (s.data.toList[i]'(by rw [toList_len]; exact c0)) = false → stS s (i + 1) = (flushS ac (tx cu), []) := fun h => by rw [hnx, stepS, if_neg (by rw [h]; decide)]
      by_cases c1 : sbyte s i = 64
      · have f1 : ((sbyte s i : Nat) : Int) = 64 := by omega
        have hstep := word (by unfold wordB; rw [decide_eq_true (h64.2 c1)]; rfl)
        simp (disch := omega) only [↓stq, amv_at, vls, inf, frs, mark_eq, ↓reduceIte, Nat.reduceEqDiff, ite_tt, ite_ff, eq_self, and_true, true_and, and_self, implies_true, Bool.true_eq_false, Bool.false_eq_true, decide_true, decide_false, decide_eq_true_eq, decide_eq_false_iff_not, ne_eq, not_true_eq_false, not_false_eq_true, Bool.not_eq_true', Bool.not_eq_false', beq_self_eq_true, Bool.not_true, Bool.not_false, List.getElem?_toArray, List.getElem?_cons_zero, List.getElem?_cons_succ, q0, q3, q4, q5, e1, f1, hdd]
        exact ⟨_, by omega, i + 1, fp, w, ac, cu ++ [s.data.toList[i]'(by rw [toList_len]; exact c0)], by omega, rfl, l, ⟨fun _ => hstep.symm, fun h => absurd h (by omega)⟩, by omega, by rw [List.length_append, List.length_singleton]; omega, rfl, by rw [tx_snoc cu c0], rfl⟩
      · have f1 : ¬ ((sbyte s i : Nat) : Int) = 64 := by omega
        have d64 : decide ((s.data.toList[i]'(by rw [toList_len]; exact c0)) = 64) = false := decide_eq_false fun h => c1 (h64.1 h)
        by_cases c2 : 97 ≤ sbyte s i
        · have f2 : (97 : Int) ≤ ((sbyte s i : Nat) : Int) := by omega
          by_cases c3 : sbyte s i ≤ 122
          · have f3 : ((sbyte s i : Nat) : Int) ≤ 122 := by omega
            have hstep := word (by unfold wordB; rw [d64, hlb, decide_eq_true c2, decide_eq_true c3]; rfl)
            simp (disch := omega) only [↓stq, amv_at, vls, inf, frs, mark_eq, ↓reduceIte, Nat.reduceEqDiff, ite_tt, ite_ff, eq_self, and_true, true_and, and_self, implies_true, Bool.true_eq_false, Bool.false_eq_true, decide_true, decide_false, decide_eq_true_eq, decide_eq_false_iff_not, ne_eq, not_true_eq_false, not_false_eq_true, Bool.not_eq_true', Bool.not_eq_false', beq_self_eq_true, Bool.not_true, Bool.not_false, List.getElem?_toArray, List.getElem?_cons_zero, List.getElem?_cons_succ, q0, q3, q4, q5, e1, f1, f2, f3, hdd]
            exact ⟨_, by omega, i + 1, fp, w, ac, cu ++ [s.data.toList[i]'(by rw [toList_len]; exact c0)], by omega, rfl, l, ⟨fun _ => hstep.symm, fun h => absurd h (by omega)⟩, by omega, by rw [List.length_append, List.length_singleton]; omega, rfl, by rw [tx_snoc cu c0], rfl⟩
          · have f3 : ¬ ((sbyte s i : Nat) : Int) ≤ 122 := by omega
            have hstep := other (by unfold wordB; rw [d64, hlb, decide_eq_false c3, Bool.and_false]; rfl)
            by_cases hk : tx cu = (⟨#[]⟩ : ByteArray)
            · have hfl : flushS ac (tx cu) = ac := if_pos (.inl hk)
              simp (disch := omega) only [↓stq, amv_at, vls, inf, frs, mark_eq, ↓reduceIte, Nat.reduceEqDiff, ite_tt, ite_ff, eq_self, and_true, true_and, and_self, implies_true, Bool.true_eq_false, Bool.false_eq_true, decide_true, decide_false, decide_eq_true_eq, decide_eq_false_iff_not, ne_eq, not_true_eq_false, not_false_eq_true, Bool.not_eq_true', Bool.not_eq_false', beq_self_eq_true, Bool.not_true, Bool.not_false, List.getElem?_toArray, List.getElem?_cons_zero, List.getElem?_cons_succ, q0, q3, q4, q5, e1, f1, f2, f3, hk]
              exact ⟨_, by omega, i + 1, fp, w, flushS ac (tx cu), [], by omega, rfl, by rw [hfl]; exact l, ⟨fun _ => hstep.symm, fun h => absurd h (by omega)⟩, flen, by show (0 : Nat) ≤ _; omega, rfl, rfl, rfl⟩
            have h0 := hk
            clear hk
            by_cases hk : tx cu = (⟨#[97, 110, 100]⟩ : ByteArray)
            · have hfl : flushS ac (tx cu) = ac := if_pos (.inr (.inl hk))
              simp (disch := omega) only [↓stq, amv_at, vls, inf, frs, mark_eq, ↓reduceIte, Nat.reduceEqDiff, ite_tt, ite_ff, eq_self, and_true, true_and, and_self, implies_true, Bool.true_eq_false, Bool.false_eq_true, decide_true, decide_false, decide_eq_true_eq, decide_eq_false_iff_not, ne_eq, not_true_eq_false, not_false_eq_true, Bool.not_eq_true', Bool.not_eq_false', beq_self_eq_true, Bool.not_true, Bool.not_false, List.getElem?_toArray, List.getElem?_cons_zero, List.getElem?_cons_succ, q0, q3, q4, q5, e1, f1, f2, f3, hk, n10]
              exact ⟨_, by omega, i + 1, fp, w, flushS ac (tx cu), [], by omega, rfl, by rw [hfl]; exact l, ⟨fun _ => hstep.symm, fun h => absurd h (by omega)⟩, flen, by show (0 : Nat) ≤ _; omega, rfl, rfl, rfl⟩
            have h1 := hk
            clear hk
            by_cases hk : tx cu = (⟨#[111, 114]⟩ : ByteArray)
            · have hfl : flushS ac (tx cu) = ac := if_pos (.inr (.inr (.inl hk)))
              simp (disch := omega) only [↓stq, amv_at, vls, inf, frs, mark_eq, ↓reduceIte, Nat.reduceEqDiff, ite_tt, ite_ff, eq_self, and_true, true_and, and_self, implies_true, Bool.true_eq_false, Bool.false_eq_true, decide_true, decide_false, decide_eq_true_eq, decide_eq_false_iff_not, ne_eq, not_true_eq_false, not_false_eq_true, Bool.not_eq_true', Bool.not_eq_false', beq_self_eq_true, Bool.not_true, Bool.not_false, List.getElem?_toArray, List.getElem?_cons_zero, List.getElem?_cons_succ, q0, q3, q4, q5, e1, f1, f2, f3, hk, n20, n21]
              exact ⟨_, by omega, i + 1, fp, w, flushS ac (tx cu), [], by omega, rfl, by rw [hfl]; exact l, ⟨fun _ => hstep.symm, fun h => absurd h (by omega)⟩, flen, by show (0 : Nat) ≤ _; omega, rfl, rfl, rfl⟩
            have h2 := hk
            clear hk
            by_cases hk : tx cu = (⟨#[110, 111, 116]⟩ : ByteArray)
            · have hfl : flushS ac (tx cu) = ac := if_pos (.inr (.inr (.inr hk)))
              simp (disch := omega) only [↓stq, amv_at, vls, inf, frs, mark_eq, ↓reduceIte, Nat.reduceEqDiff, ite_tt, ite_ff, eq_self, and_true, true_and, and_self, implies_true, Bool.true_eq_false, Bool.false_eq_true, decide_true, decide_false, decide_eq_true_eq, decide_eq_false_iff_not, ne_eq, not_true_eq_false, not_false_eq_true, Bool.not_eq_true', Bool.not_eq_false', beq_self_eq_true, Bool.not_true, Bool.not_false, List.getElem?_toArray, List.getElem?_cons_zero, List.getElem?_cons_succ, q0, q3, q4, q5, e1, f1, f2, f3, hk, n30, n31, n32]
              exact ⟨_, by omega, i + 1, fp, w, flushS ac (tx cu), [], by omega, rfl, by rw [hfl]; exact l, ⟨fun _ => hstep.symm, fun h => absurd h (by omega)⟩, flen, by show (0 : Nat) ≤ _; omega, rfl, rfl, rfl⟩
            have h3 := hk
            clear hk
            have hfl : flushS ac (tx cu) = addT ac (tx cu) := if_neg (by rintro (h | h | h | h) <;> contradiction)
            simp (disch := omega) only [↓stq, amv_at, vls, inf, frs, mark_eq, ↓reduceIte, Nat.reduceEqDiff, ite_tt, ite_ff, eq_self, and_true, true_and, and_self, implies_true, Bool.true_eq_false, Bool.false_eq_true, decide_true, decide_false, decide_eq_true_eq, decide_eq_false_iff_not, ne_eq, not_true_eq_false, not_false_eq_true, Bool.not_eq_true', Bool.not_eq_false', beq_self_eq_true, Bool.not_true, Bool.not_false, List.getElem?_toArray, List.getElem?_cons_zero, List.getElem?_cons_succ, q0, q3, q4, q5, e1, f1, f2, f3, h0, h1, h2, h3]
            refine (addText_c A V [] fp w ac (tx cu) (by omega) (by omega) l).mono ?_
            rintro r V2 ⟨fp2, l⟩
            simp (disch := omega) only [↓stq, amv_at, vls, inf, frs, mark_eq, ↓reduceIte, Nat.reduceEqDiff, ite_tt, ite_ff, eq_self, and_true, true_and, and_self, implies_true, Bool.true_eq_false, Bool.false_eq_true, decide_true, decide_false, decide_eq_true_eq, decide_eq_false_iff_not, ne_eq, not_true_eq_false, not_false_eq_true, Bool.not_eq_true', Bool.not_eq_false', beq_self_eq_true, Bool.not_true, Bool.not_false, List.getElem?_toArray, List.getElem?_cons_zero, List.getElem?_cons_succ, q0, q3, q4, q5]
            exact ⟨_, by omega, i + 1, fp2, r, flushS ac (tx cu), [], by omega, rfl, by rw [hfl]; exact l, ⟨fun _ => hstep.symm, fun h => absurd h (by omega)⟩, flen, by show (0 : Nat) ≤ _; omega, rfl, rfl, rfl⟩
        · have f2 : ¬ (97 : Int) ≤ ((sbyte s i : Nat) : Int) := by omega
          have hstep := other (by unfold wordB; rw [d64, hlb, decide_eq_false c2, Bool.false_and]; rfl)
          by_cases hk : tx cu = (⟨#[]⟩ : ByteArray)
          · have hfl : flushS ac (tx cu) = ac := if_pos (.inl hk)
            simp (disch := omega) only [↓stq, amv_at, vls, inf, frs, mark_eq, ↓reduceIte, Nat.reduceEqDiff, ite_tt, ite_ff, eq_self, and_true, true_and, and_self, implies_true, Bool.true_eq_false, Bool.false_eq_true, decide_true, decide_false, decide_eq_true_eq, decide_eq_false_iff_not, ne_eq, not_true_eq_false, not_false_eq_true, Bool.not_eq_true', Bool.not_eq_false', beq_self_eq_true, Bool.not_true, Bool.not_false, List.getElem?_toArray, List.getElem?_cons_zero, List.getElem?_cons_succ, q0, q3, q4, q5, e1, f1, f2, hk]
            exact ⟨_, by omega, i + 1, fp, w, flushS ac (tx cu), [], by omega, rfl, by rw [hfl]; exact l, ⟨fun _ => hstep.symm, fun h => absurd h (by omega)⟩, flen, by show (0 : Nat) ≤ _; omega, rfl, rfl, rfl⟩
          have h0 := hk
          clear hk
          by_cases hk : tx cu = (⟨#[97, 110, 100]⟩ : ByteArray)
          · have hfl : flushS ac (tx cu) = ac := if_pos (.inr (.inl hk))
            simp (disch := omega) only [↓stq, amv_at, vls, inf, frs, mark_eq, ↓reduceIte, Nat.reduceEqDiff, ite_tt, ite_ff, eq_self, and_true, true_and, and_self, implies_true, Bool.true_eq_false, Bool.false_eq_true, decide_true, decide_false, decide_eq_true_eq, decide_eq_false_iff_not, ne_eq, not_true_eq_false, not_false_eq_true, Bool.not_eq_true', Bool.not_eq_false', beq_self_eq_true, Bool.not_true, Bool.not_false, List.getElem?_toArray, List.getElem?_cons_zero, List.getElem?_cons_succ, q0, q3, q4, q5, e1, f1, f2, hk, n10]
            exact ⟨_, by omega, i + 1, fp, w, flushS ac (tx cu), [], by omega, rfl, by rw [hfl]; exact l, ⟨fun _ => hstep.symm, fun h => absurd h (by omega)⟩, flen, by show (0 : Nat) ≤ _; omega, rfl, rfl, rfl⟩
          have h1 := hk
          clear hk
          by_cases hk : tx cu = (⟨#[111, 114]⟩ : ByteArray)
          · have hfl : flushS ac (tx cu) = ac := if_pos (.inr (.inr (.inl hk)))
            simp (disch := omega) only [↓stq, amv_at, vls, inf, frs, mark_eq, ↓reduceIte, Nat.reduceEqDiff, ite_tt, ite_ff, eq_self, and_true, true_and, and_self, implies_true, Bool.true_eq_false, Bool.false_eq_true, decide_true, decide_false, decide_eq_true_eq, decide_eq_false_iff_not, ne_eq, not_true_eq_false, not_false_eq_true, Bool.not_eq_true', Bool.not_eq_false', beq_self_eq_true, Bool.not_true, Bool.not_false, List.getElem?_toArray, List.getElem?_cons_zero, List.getElem?_cons_succ, q0, q3, q4, q5, e1, f1, f2, hk, n20, n21]
            exact ⟨_, by omega, i + 1, fp, w, flushS ac (tx cu), [], by omega, rfl, by rw [hfl]; exact l, ⟨fun _ => hstep.symm, fun h => absurd h (by omega)⟩, flen, by show (0 : Nat) ≤ _; omega, rfl, rfl, rfl⟩
          have h2 := hk
          clear hk
          by_cases hk : tx cu = (⟨#[110, 111, 116]⟩ : ByteArray)
          · have hfl : flushS ac (tx cu) = ac := if_pos (.inr (.inr (.inr hk)))
            simp (disch := omega) only [↓stq, amv_at, vls, inf, frs, mark_eq, ↓reduceIte, Nat.reduceEqDiff, ite_tt, ite_ff, eq_self, and_true, true_and, and_self, implies_true, Bool.true_eq_false, Bool.false_eq_true, decide_true, decide_false, decide_eq_true_eq, decide_eq_false_iff_not, ne_eq, not_true_eq_false, not_false_eq_true, Bool.not_eq_true', Bool.not_eq_false', beq_self_eq_true, Bool.not_true, Bool.not_false, List.getElem?_toArray, List.getElem?_cons_zero, List.getElem?_cons_succ, q0, q3, q4, q5, e1, f1, f2, hk, n30, n31, n32]
            exact ⟨_, by omega, i + 1, fp, w, flushS ac (tx cu), [], by omega, rfl, by rw [hfl]; exact l, ⟨fun _ => hstep.symm, fun h => absurd h (by omega)⟩, flen, by show (0 : Nat) ≤ _; omega, rfl, rfl, rfl⟩
          have h3 := hk
          clear hk
          have hfl : flushS ac (tx cu) = addT ac (tx cu) := if_neg (by rintro (h | h | h | h) <;> contradiction)
          simp (disch := omega) only [↓stq, amv_at, vls, inf, frs, mark_eq, ↓reduceIte, Nat.reduceEqDiff, ite_tt, ite_ff, eq_self, and_true, true_and, and_self, implies_true, Bool.true_eq_false, Bool.false_eq_true, decide_true, decide_false, decide_eq_true_eq, decide_eq_false_iff_not, ne_eq, not_true_eq_false, not_false_eq_true, Bool.not_eq_true', Bool.not_eq_false', beq_self_eq_true, Bool.not_true, Bool.not_false, List.getElem?_toArray, List.getElem?_cons_zero, List.getElem?_cons_succ, q0, q3, q4, q5, e1, f1, f2, h0, h1, h2, h3]
          refine (addText_c A V [] fp w ac (tx cu) (by omega) (by omega) l).mono ?_
          rintro r V2 ⟨fp2, l⟩
          simp (disch := omega) only [↓stq, amv_at, vls, inf, frs, mark_eq, ↓reduceIte, Nat.reduceEqDiff, ite_tt, ite_ff, eq_self, and_true, true_and, and_self, implies_true, Bool.true_eq_false, Bool.false_eq_true, decide_true, decide_false, decide_eq_true_eq, decide_eq_false_iff_not, ne_eq, not_true_eq_false, not_false_eq_true, Bool.not_eq_true', Bool.not_eq_false', beq_self_eq_true, Bool.not_true, Bool.not_false, List.getElem?_toArray, List.getElem?_cons_zero, List.getElem?_cons_succ, q0, q3, q4, q5]
          exact ⟨_, by omega, i + 1, fp2, r, flushS ac (tx cu), [], by omega, rfl, by rw [hfl]; exact l, ⟨fun _ => hstep.symm, fun h => absurd h (by omega)⟩, flen, by show (0 : Nat) ≤ _; omega, rfl, rfl, rfl⟩
    · have e1 : ¬ (i : Int) < s.size := by omega
      have hie : i = s.size := by omega
      have hend : flushS ac (tx cu) = scanS [] [] s.data.toList := by
        rw [scan_fold]
        have h2 : stS s i = s.data.toList.foldl stepS ([], []) := by
          unfold stS
          rw [List.take_of_length_le (by rw [toList_len]; omega)]
        rw [← h2, ← hst1']
      by_cases hk : tx cu = (⟨#[]⟩ : ByteArray)
      · have hfl : flushS ac (tx cu) = ac := if_pos (.inl hk)
        simp (disch := omega) only [↓stq, amv_at, vls, inf, frs, mark_eq, ↓reduceIte, Nat.reduceEqDiff, ite_tt, ite_ff, eq_self, and_true, true_and, and_self, implies_true, Bool.true_eq_false, Bool.false_eq_true, decide_true, decide_false, decide_eq_true_eq, decide_eq_false_iff_not, ne_eq, not_true_eq_false, not_false_eq_true, Bool.not_eq_true', Bool.not_eq_false', beq_self_eq_true, Bool.not_true, Bool.not_false, List.getElem?_toArray, List.getElem?_cons_zero, List.getElem?_cons_succ, q0, q3, q4, q5, e1, hk]
        exact ⟨_, by omega, i + 1, fp, w, flushS ac (tx cu), [], by omega, rfl, by rw [hfl]; exact l, ⟨fun h => absurd h (by omega), fun _ => hend⟩, flen, by show (0 : Nat) ≤ _; omega, rfl, rfl, rfl⟩
      have h0 := hk
      clear hk
      by_cases hk : tx cu = (⟨#[97, 110, 100]⟩ : ByteArray)
      · have hfl : flushS ac (tx cu) = ac := if_pos (.inr (.inl hk))
        simp (disch := omega) only [↓stq, amv_at, vls, inf, frs, mark_eq, ↓reduceIte, Nat.reduceEqDiff, ite_tt, ite_ff, eq_self, and_true, true_and, and_self, implies_true, Bool.true_eq_false, Bool.false_eq_true, decide_true, decide_false, decide_eq_true_eq, decide_eq_false_iff_not, ne_eq, not_true_eq_false, not_false_eq_true, Bool.not_eq_true', Bool.not_eq_false', beq_self_eq_true, Bool.not_true, Bool.not_false, List.getElem?_toArray, List.getElem?_cons_zero, List.getElem?_cons_succ, q0, q3, q4, q5, e1, hk, n10]
        exact ⟨_, by omega, i + 1, fp, w, flushS ac (tx cu), [], by omega, rfl, by rw [hfl]; exact l, ⟨fun h => absurd h (by omega), fun _ => hend⟩, flen, by show (0 : Nat) ≤ _; omega, rfl, rfl, rfl⟩
      have h1 := hk
      clear hk
      by_cases hk : tx cu = (⟨#[111, 114]⟩ : ByteArray)
      · have hfl : flushS ac (tx cu) = ac := if_pos (.inr (.inr (.inl hk)))
        simp (disch := omega) only [↓stq, amv_at, vls, inf, frs, mark_eq, ↓reduceIte, Nat.reduceEqDiff, ite_tt, ite_ff, eq_self, and_true, true_and, and_self, implies_true, Bool.true_eq_false, Bool.false_eq_true, decide_true, decide_false, decide_eq_true_eq, decide_eq_false_iff_not, ne_eq, not_true_eq_false, not_false_eq_true, Bool.not_eq_true', Bool.not_eq_false', beq_self_eq_true, Bool.not_true, Bool.not_false, List.getElem?_toArray, List.getElem?_cons_zero, List.getElem?_cons_succ, q0, q3, q4, q5, e1, hk, n20, n21]
        exact ⟨_, by omega, i + 1, fp, w, flushS ac (tx cu), [], by omega, rfl, by rw [hfl]; exact l, ⟨fun h => absurd h (by omega), fun _ => hend⟩, flen, by show (0 : Nat) ≤ _; omega, rfl, rfl, rfl⟩
      have h2 := hk
      clear hk
      by_cases hk : tx cu = (⟨#[110, 111, 116]⟩ : ByteArray)
      · have hfl : flushS ac (tx cu) = ac := if_pos (.inr (.inr (.inr hk)))
        simp (disch := omega) only [↓stq, amv_at, vls, inf, frs, mark_eq, ↓reduceIte, Nat.reduceEqDiff, ite_tt, ite_ff, eq_self, and_true, true_and, and_self, implies_true, Bool.true_eq_false, Bool.false_eq_true, decide_true, decide_false, decide_eq_true_eq, decide_eq_false_iff_not, ne_eq, not_true_eq_false, not_false_eq_true, Bool.not_eq_true', Bool.not_eq_false', beq_self_eq_true, Bool.not_true, Bool.not_false, List.getElem?_toArray, List.getElem?_cons_zero, List.getElem?_cons_succ, q0, q3, q4, q5, e1, hk, n30, n31, n32]
        exact ⟨_, by omega, i + 1, fp, w, flushS ac (tx cu), [], by omega, rfl, by rw [hfl]; exact l, ⟨fun h => absurd h (by omega), fun _ => hend⟩, flen, by show (0 : Nat) ≤ _; omega, rfl, rfl, rfl⟩
      have h3 := hk
      clear hk
      have hfl : flushS ac (tx cu) = addT ac (tx cu) := if_neg (by rintro (h | h | h | h) <;> contradiction)
      simp (disch := omega) only [↓stq, amv_at, vls, inf, frs, mark_eq, ↓reduceIte, Nat.reduceEqDiff, ite_tt, ite_ff, eq_self, and_true, true_and, and_self, implies_true, Bool.true_eq_false, Bool.false_eq_true, decide_true, decide_false, decide_eq_true_eq, decide_eq_false_iff_not, ne_eq, not_true_eq_false, not_false_eq_true, Bool.not_eq_true', Bool.not_eq_false', beq_self_eq_true, Bool.not_true, Bool.not_false, List.getElem?_toArray, List.getElem?_cons_zero, List.getElem?_cons_succ, q0, q3, q4, q5, e1, h0, h1, h2, h3]
      refine (addText_c A V [] fp w ac (tx cu) (by omega) (by omega) l).mono ?_
      rintro r V2 ⟨fp2, l⟩
      simp (disch := omega) only [↓stq, amv_at, vls, inf, frs, mark_eq, ↓reduceIte, Nat.reduceEqDiff, ite_tt, ite_ff, eq_self, and_true, true_and, and_self, implies_true, Bool.true_eq_false, Bool.false_eq_true, decide_true, decide_false, decide_eq_true_eq, decide_eq_false_iff_not, ne_eq, not_true_eq_false, not_false_eq_true, Bool.not_eq_true', Bool.not_eq_false', beq_self_eq_true, Bool.not_true, Bool.not_false, List.getElem?_toArray, List.getElem?_cons_zero, List.getElem?_cons_succ, q0, q3, q4, q5]
      exact ⟨_, by omega, i + 1, fp2, r, flushS ac (tx cu), [], by omega, rfl, by rw [hfl]; exact l, ⟨fun h => absurd h (by omega), fun _ => hend⟩, flen, by show (0 : Nat) ≤ _; omega, rfl, rfl, rfl⟩
  · have hie : i = s.size + 1 := by omega
    rw [hst1 hie] at l
    simp (disch := omega) only [↓stq, amv_at, vls, inf, frs, mark_eq, ↓reduceIte, Nat.reduceEqDiff, ite_tt, ite_ff, eq_self, and_true, true_and, and_self, implies_true, Bool.true_eq_false, Bool.false_eq_true, decide_true, decide_false, decide_eq_true_eq, decide_eq_false_iff_not, ne_eq, not_true_eq_false, not_false_eq_true, Bool.not_eq_true', Bool.not_eq_false', beq_self_eq_true, Bool.not_true, Bool.not_false, List.getElem?_toArray, List.getElem?_cons_zero, List.getElem?_cons_succ, q0, q3, q4, q5]
    exact NewSl.of l (i := 0) rfl

end Go.Proofs.Ytbddklkfekiaeaa

