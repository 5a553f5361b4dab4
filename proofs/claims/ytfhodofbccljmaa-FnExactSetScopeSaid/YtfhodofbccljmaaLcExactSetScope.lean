/- The law FnExactSetScope, over the contracts. -/
import Derived.Test.YtfhodofbccljmaaLaSetScope
import Derived.Test.YtfhodofbccljmaaW6
set_option maxHeartbeats 4000000
set_option synthInstance.maxHeartbeats 400000
set_option synthInstance.maxSize 4096
set_option linter.unusedSimpArgs false
set_option linter.unusedVariables false
namespace Go.Proofs.Ytfhodofbccljmaa

theorem law_FnExactSetScope (A : View) (d0 : List Value) (x0 : SuiteD) (x1 : ByteArray) (x2 : Int) (h0 : suiteS.rel A x0 d0) (h1 : x1.size ≤ 140737488355328) (h2 : -9223372036854775808 ≤ x2 ∧ x2 < 9223372036854775808) : ACalls Try.prog 11 #[.agg d0.toArray, .string x1, .int .i64 x2] A fun r _ => r = .bool true := by
  refine walkFnExactSetScope A d0 x0 x1 x2 h0 h1 h2 (sel (withC x0 x1) (chk (setScY x0 x1 x2))) ?_ (withC x0 x1 && validB (setScY x0 x1 x2))
    (fun B d0 h0 w0 w1 => (spec_SetScope_c B d0 x0 x1 x2 h2 h0).mono fun r B' h => h)
    (fun B d0 h0 w0 w1 => (impl_SetScope_c B d0 x0 x1 x2 h2 h0 (by rw [suiteT_w] at w0; omega) (by rw [suiteT_w] at w0; omega)).mono fun r B' h => h)
  unfold sel
  split
  · exact chk_cnt _
  · exact none_cnt

end Go.Proofs.Ytfhodofbccljmaa

