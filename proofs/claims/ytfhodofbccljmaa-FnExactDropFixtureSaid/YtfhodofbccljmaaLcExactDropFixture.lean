/- The law FnExactDropFixture, over the contracts. -/
import Derived.Test.YtfhodofbccljmaaLaDropFixture
import Derived.Test.YtfhodofbccljmaaW6
set_option maxHeartbeats 4000000
set_option synthInstance.maxHeartbeats 400000
set_option synthInstance.maxSize 4096
set_option linter.unusedSimpArgs false
set_option linter.unusedVariables false
namespace Go.Proofs.Ytfhodofbccljmaa

theorem law_FnExactDropFixture (A : View) (d0 : List Value) (x0 : SuiteD) (x1 : ByteArray) (h0 : suiteS.rel A x0 d0) (h1 : x1.size ≤ 140737488355328) : ACalls Try.prog 5 #[.agg d0.toArray, .string x1] A fun r _ => r = .bool true := by
  refine walkFnExactDropFixture A d0 x0 x1 h0 h1 (sel (withC x0 x1) (chk (dropFY x0 x1))) ?_ (withC x0 x1 && validB (dropFY x0 x1))
    (fun B d0 h0 w0 w1 => (spec_DropFixture_c B d0 x0 x1 h0).mono fun r B' h => h)
    (fun B d0 h0 w0 w1 => (impl_DropFixture_c B d0 x0 x1 h0 (by rw [suiteT_w] at w0; omega) (by rw [suiteT_w] at w0; omega)).mono fun r B' h => h)
  unfold sel
  split
  · exact chk_cnt _
  · exact none_cnt

end Go.Proofs.Ytfhodofbccljmaa

