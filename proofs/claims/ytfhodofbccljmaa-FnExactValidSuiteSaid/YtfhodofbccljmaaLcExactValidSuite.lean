/- The law FnExactValidSuite, over the contracts. -/
import Derived.Test.YtfhodofbccljmaaLaValidSuite
import Derived.Test.YtfhodofbccljmaaV9
set_option maxHeartbeats 4000000
set_option synthInstance.maxHeartbeats 400000
set_option synthInstance.maxSize 4096
set_option linter.unusedSimpArgs false
set_option linter.unusedVariables false
namespace Go.Proofs.Ytfhodofbccljmaa

theorem law_FnExactValidSuite (A : View) (d0 : List Value) (x0 : SuiteD) (h0 : suiteS.rel A x0 d0) : ACalls Try.prog 6 #[.agg d0.toArray] A fun r _ => r = .bool true := by
  refine walkFnExactValidSuite A d0 x0 h0 (validB x0)
    (fun B d0 h0 w0 => (spec_ValidSuite_c B d0 x0 h0).mono fun r B' h => ⟨h.1, (Led.nil B).step h.2⟩)
    (fun B d0 h0 w0 => (impl_validB_c B d0 x0 h0 ?_ ?_).mono fun r B' h => ⟨h.1, (Led.nil B).step h.2⟩)
  · rw [suiteT_w] at w0; omega
  · rw [suiteT_w] at w0; omega

end Go.Proofs.Ytfhodofbccljmaa

