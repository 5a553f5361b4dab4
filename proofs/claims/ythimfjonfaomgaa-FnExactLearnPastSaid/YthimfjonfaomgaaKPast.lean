/- Copies of lists. -/
import Derived.Test.YthimfjonfaomgaaC3
import Derived.Test.YthimfjonfaomgaaGPast
set_option maxHeartbeats 4000000
set_option synthInstance.maxHeartbeats 400000
set_option synthInstance.maxSize 4096
set_option linter.unusedSimpArgs false
set_option linter.unusedVariables false
namespace Go.Proofs.Ythimfjonfaomgaa

set_option maxRecDepth 100000

instance flatPast : Flat pastO := inferInstanceAs (Flat (consO strO (consO boolO (consO intO unitO))))

theorem clonePast_c (A : View) (v : Value) (xs : List PastD) (h : Sl pastS A v xs) (hsm : xs.length ≤ 16777216) : ACalls Try.prog 47 #[v] A fun r A' => NewSl 69 pastO A r A' xs := by
  obtain ⟨a, c, rfl, hc, hl⟩ := h.slice
  cases a with
  | none =>
    have hx : xs = [] := by
      obtain ⟨_, a, c, h1, _, h3⟩ := h
      cases xs with
      | nil => rfl
      | cons x xs =>
        injection h1 with h1
        obtain ⟨ad, _, h4, _⟩ := h3 (by simp)
        rw [h4] at h1; cases h1
    subst hx
    refine acalls Try.func47 rfl (by kernel_rfl) ?_
    simp (disch := omega) only [↓stp, vls, inf, frs, mark_eq, ↓reduceIte, Nat.reduceEqDiff, ite_tt, ite_ff, eq_self, and_true, true_and, and_self, implies_true, Bool.true_eq_false, Bool.false_eq_true, decide_true, decide_false, decide_eq_true_eq, decide_eq_false_iff_not, ne_eq, not_true_eq_false, not_false_eq_true, Bool.not_eq_true', Bool.not_eq_false', beq_self_eq_true, Bool.not_true, Bool.not_false, List.getElem?_toArray, List.getElem?_cons_zero, List.getElem?_cons_succ]
    exact NewSl.nil (Ext.refl _)
  | some ad =>
    refine acalls Try.func47 rfl (by kernel_rfl) ?_
    simp (disch := omega) only [↓stp, vls, inf, frs, mark_eq, ↓reduceIte, Nat.reduceEqDiff, ite_tt, ite_ff, eq_self, and_true, true_and, and_self, implies_true, Bool.true_eq_false, Bool.false_eq_true, decide_true, decide_false, decide_eq_true_eq, decide_eq_false_iff_not, ne_eq, not_true_eq_false, not_false_eq_true, Bool.not_eq_true', Bool.not_eq_false', beq_self_eq_true, Bool.not_true, Bool.not_false, List.getElem?_toArray, List.getElem?_cons_zero, List.getElem?_cons_succ]
    refine led_lit0 (O := pastO) li29 (Led.nil A) fun b V he l => ?_
    simp (disch := omega) only [↓stp, vls, inf, frs, mark_eq, ↓reduceIte, Nat.reduceEqDiff, ite_tt, ite_ff, eq_self, and_true, true_and, and_self, implies_true, Bool.true_eq_false, Bool.false_eq_true, decide_true, decide_false, decide_eq_true_eq, decide_eq_false_iff_not, ne_eq, not_true_eq_false, not_false_eq_true, Bool.not_eq_true', Bool.not_eq_false', beq_self_eq_true, Bool.not_true, Bool.not_false, List.getElem?_toArray, List.getElem?_cons_zero, List.getElem?_cons_succ]
    refine led_app (O := pastO) ap29_29 (by decide) l (i := 0) rfl (Sl.srcOf (h.mono he)) (by simpa using hsm) fun fp' w' W _ l => ?_
    simp (disch := omega) only [↓stp, vls, inf, frs, mark_eq, ↓reduceIte, Nat.reduceEqDiff, ite_tt, ite_ff, eq_self, and_true, true_and, and_self, implies_true, Bool.true_eq_false, Bool.false_eq_true, decide_true, decide_false, decide_eq_true_eq, decide_eq_false_iff_not, ne_eq, not_true_eq_false, not_false_eq_true, Bool.not_eq_true', Bool.not_eq_false', beq_self_eq_true, Bool.not_true, Bool.not_false, List.getElem?_toArray, List.getElem?_cons_zero, List.getElem?_cons_succ]
    exact NewSl.of (i := 0) l rfl

end Go.Proofs.Ythimfjonfaomgaa

