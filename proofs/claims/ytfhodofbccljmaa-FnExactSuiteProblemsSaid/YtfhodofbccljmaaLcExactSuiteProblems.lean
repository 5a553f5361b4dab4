/- The law FnExactSuiteProblems, over the contracts. -/
import Derived.Test.YtfhodofbccljmaaLaSuiteProblems
import Derived.Test.YtfhodofbccljmaaV9
set_option maxHeartbeats 4000000
set_option synthInstance.maxHeartbeats 400000
set_option synthInstance.maxSize 4096
set_option linter.unusedSimpArgs false
set_option linter.unusedVariables false
namespace Go.Proofs.Ytfhodofbccljmaa

theorem law_FnExactSuiteProblems (A : View) (d0 : List Value) (x0 : SuiteD) (h0 : suiteS.rel A x0 d0) : ACalls Try.prog 9 #[.agg d0.toArray] A fun r _ => r = .bool true := by
  refine walkFnExactSuiteProblems A d0 x0 h0 (probsR (formedB x0) (probR x0)) ?_
    (fun B d0 h0 w0 => (spec_SuiteProblems_c B d0 x0 h0).mono fun r B' h => h.out)
    (fun B d0 h0 w0 => (impl_SuiteProblems_c B d0 x0 h0 (by rw [suiteT_w] at w0; omega) (by rw [suiteT_w] at w0; omega)).mono fun r B' h => h.out)
  have key : ∀ xs : List ProblemD, cntL problemT xs ≤ 3 * xs.length := by
    intro xs
    induction xs with
    | nil => simp [cntL]
    | cons x xs ih =>
      have h2 : problemT.cnt x = 3 := rfl
      simp only [cntL, List.length_cons, h2]
      omega
  have h1 := key (probsR (formedB x0) (probR x0))
  have h2 := probsR_len x0
  omega

end Go.Proofs.Ytfhodofbccljmaa

