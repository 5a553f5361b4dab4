/- Where a Test stands in a list. -/
import Derived.Test.YtjojofnkgeiadaaGTest
import Derived.Test.YtjojofnkgeiadaaC3
set_option maxHeartbeats 4000000
set_option synthInstance.maxHeartbeats 400000
set_option synthInstance.maxSize 4096
set_option linter.unusedSimpArgs false
set_option linter.unusedVariables false
namespace Go.Proofs.Ytjojofnkgeiadaa

set_option maxRecDepth 100000

theorem indexFunc_Test_c (A : View) (v f : Value) (xs : List TestD) (p : TestD → Bool) (h : Sl testS A v xs) (hf : Tells A f (agR testS) p) : ACalls Try.prog 62 #[v, f] A fun r A' => r = .int .i64 (idxI p xs) ∧ Ext A A' := by
  obtain ⟨a, c, rfl, hc, hl⟩ := h.slice
  obtain ⟨g, first, cap, rfl, hg, hp⟩ := hf
  refine acalls Try.func62 rfl (by kernel_rfl) ?_
  simp (disch := omega) only [↓stp, vls, inf, frs, mark_eq, ↓reduceIte, Nat.reduceEqDiff, ite_tt, ite_ff, eq_self, and_true, true_and, and_self, implies_true, Bool.true_eq_false, Bool.false_eq_true, decide_true, decide_false, decide_eq_true_eq, decide_eq_false_iff_not, ne_eq, not_true_eq_false, not_false_eq_true, Bool.not_eq_true', Bool.not_eq_false', beq_self_eq_true, Bool.not_true, Bool.not_false, List.getElem?_toArray, List.getElem?_cons_zero, List.getElem?_cons_succ]
  refine aloop (fun d fr A' => ∃ i : Nat, i ≤ xs.length ∧ d = xs.length - i ∧ Ext A A' ∧ fr 0 = .slice a xs.length c ∧ fr 1 = .func (.func g) first cap ∧ fr 7 = .int .i64 xs.length ∧ fr 8 = .int .i64 i ∧ (∀ j (hj : j < i) (hl : j < xs.length), p xs[j] = false)) xs.length ⟨0, by omega, by omega, Ext.refl _, rfl, by rfl, by rfl, by rfl, by omega⟩ ?_
  rintro d fr A' ⟨i, hi, rfl, he, h0, h1, h7, h8, hn⟩
  simp (disch := omega) only [↓stp, vls, inf, frs, mark_eq, ↓reduceIte, Nat.reduceEqDiff, ite_tt, ite_ff, eq_self, and_true, true_and, and_self, implies_true, Bool.true_eq_false, Bool.false_eq_true, decide_true, decide_false, decide_eq_true_eq, decide_eq_false_iff_not, ne_eq, not_true_eq_false, not_false_eq_true, Bool.not_eq_true', Bool.not_eq_false', beq_self_eq_true, Bool.not_true, Bool.not_false, List.getElem?_toArray, List.getElem?_cons_zero, List.getElem?_cons_succ, h0, h1, h7, h8]
  refine ⟨fun e => ?_, fun e => ?_⟩
  · have hlt : i < xs.length := by omega
    obtain ⟨ad, d, rfl, hd, hcl, _⟩ := (h.mono he).at hlt
    have hcl : A'.part (ad.add (i * 4)) 4 = some d := hcl
    simp (disch := omega) only [↓stp, vls, inf, frs, mark_eq, ↓reduceIte, Nat.reduceEqDiff, ite_tt, ite_ff, eq_self, and_true, true_and, and_self, implies_true, Bool.true_eq_false, Bool.false_eq_true, decide_true, decide_false, decide_eq_true_eq, decide_eq_false_iff_not, ne_eq, not_true_eq_false, not_false_eq_true, Bool.not_eq_true', Bool.not_eq_false', beq_self_eq_true, Bool.not_true, Bool.not_false, List.getElem?_toArray, List.getElem?_cons_zero, List.getElem?_cons_succ, h0, h1, h7, h8, hcl]
    rw [acall_at hg]
    refine (hp A' he _ xs[i] ⟨d, rfl, hd⟩).mono ?_
    rintro _ A1 ⟨rfl, he1⟩
    simp (disch := omega) only [↓stp, vls, inf, frs, mark_eq, ↓reduceIte, Nat.reduceEqDiff, ite_tt, ite_ff, eq_self, and_true, true_and, and_self, implies_true, Bool.true_eq_false, Bool.false_eq_true, decide_true, decide_false, decide_eq_true_eq, decide_eq_false_iff_not, ne_eq, not_true_eq_false, not_false_eq_true, Bool.not_eq_true', Bool.not_eq_false', beq_self_eq_true, Bool.not_true, Bool.not_false, List.getElem?_toArray, List.getElem?_cons_zero, List.getElem?_cons_succ, h0, h1, h7, h8]
    refine ⟨fun e1 => ?_, fun e1 => ?_⟩ <;> simp (disch := omega) only [↓stp, vls, inf, frs, mark_eq, ↓reduceIte, Nat.reduceEqDiff, ite_tt, ite_ff, eq_self, and_true, true_and, and_self, implies_true, Bool.true_eq_false, Bool.false_eq_true, decide_true, decide_false, decide_eq_true_eq, decide_eq_false_iff_not, ne_eq, not_true_eq_false, not_false_eq_true, Bool.not_eq_true', Bool.not_eq_false', beq_self_eq_true, Bool.not_true, Bool.not_false, List.getElem?_toArray, List.getElem?_cons_zero, List.getElem?_cons_succ, h0, h1, h7, h8]
    · rw [idxI_found hlt (fun j hj => hn j hj (by omega)) e1]
      exact ⟨rfl, he.trans he1⟩
    · refine ⟨_, by omega, i + 1, by omega, rfl, he.trans he1, rfl, fun j hj hl => ?_⟩
      by_cases hji : j = i
      · subst hji; exact e1
      · exact hn j (by omega) hl
  · simp (disch := omega) only [↓stp, vls, inf, frs, mark_eq, ↓reduceIte, Nat.reduceEqDiff, ite_tt, ite_ff, eq_self, and_true, true_and, and_self, implies_true, Bool.true_eq_false, Bool.false_eq_true, decide_true, decide_false, decide_eq_true_eq, decide_eq_false_iff_not, ne_eq, not_true_eq_false, not_false_eq_true, Bool.not_eq_true', Bool.not_eq_false', beq_self_eq_true, Bool.not_true, Bool.not_false, List.getElem?_toArray, List.getElem?_cons_zero, List.getElem?_cons_succ, h0, h1, h7, h8]
    rw [idxI_none (fun j hj => hn j (by omega) hj)]
    exact ⟨rfl, he⟩

end Go.Proofs.Ytjojofnkgeiadaa

