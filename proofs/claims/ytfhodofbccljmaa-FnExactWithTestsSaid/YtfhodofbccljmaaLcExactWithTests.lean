/- The law FnExactWithTests, over the contracts. -/
import Derived.Test.YtfhodofbccljmaaLaWithTests
import Derived.Test.YtfhodofbccljmaaW7
set_option maxHeartbeats 4000000
set_option synthInstance.maxHeartbeats 400000
set_option synthInstance.maxSize 4096
set_option linter.unusedSimpArgs false
set_option linter.unusedVariables false
namespace Go.Proofs.Ytfhodofbccljmaa

theorem law_FnExactWithTests (A : View) (d0 : List Value) (x0 : SuiteD) (v1 : Value) (x1 : List TestD) (h0 : suiteS.rel A x0 d0) (h1 : Sl testS A v1 x1) : ACalls Try.prog 10 #[.agg d0.toArray, v1] A fun r _ => r = .bool true := by
  refine walkFnExactWithTests A d0 x0 v1 x1 h0 h1 (sel (validB x0) (chk (x0.1, x1, ()))) ?_ (validB x0 && validB (x0.1, x1, ()))
    (fun B d0 v1 h0 h1 w0 w1 => (spec_WithTests_c B d0 x0 v1 x1 h0 h1 (by rw [suiteT_w] at w0; omega) (by omega)).mono fun r B' h => h)
    (fun B d0 v1 h0 h1 w0 w1 => (impl_WithTests_c B d0 x0 v1 x1 h0 h1 (by rw [suiteT_w] at w0; omega) (by rw [suiteT_w] at w0; omega) (by omega)).mono fun r B' h => h)
  unfold sel
  split
  · exact chk_cnt _
  · exact none_cnt

end Go.Proofs.Ytfhodofbccljmaa

