/- The law FnExactAddNeed, over the contracts. -/
import Derived.Test.YtfhodofbccljmaaLaAddNeed
import Derived.Test.YtfhodofbccljmaaW6
set_option maxHeartbeats 4000000
set_option synthInstance.maxHeartbeats 400000
set_option synthInstance.maxSize 4096
set_option linter.unusedSimpArgs false
set_option linter.unusedVariables false
namespace Go.Proofs.Ytfhodofbccljmaa

theorem law_FnExactAddNeed (A : View) (d0 : List Value) (x0 : SuiteD) (x1 x2 : ByteArray) (h0 : suiteS.rel A x0 d0) (h1 : x1.size ≤ 140737488355328) (h2 : x2.size ≤ 140737488355328) : ACalls Try.prog 4 #[.agg d0.toArray, .string x1, .string x2] A fun r _ => r = .bool true := by
  refine walkFnExactAddNeed A d0 x0 x1 x2 h0 h1 h2 (sel (dropTC x0 x1) (chk (addNY x0 x1 x2))) ?_ (dropTC x0 x1 && validB (addNY x0 x1 x2))
    (fun B d0 h0 w0 w1 w2 => (spec_AddNeed_c B d0 x0 x1 x2 (by omega) h0).mono fun r B' h => h)
    (fun B d0 h0 w0 w1 w2 => (impl_AddNeed_c B d0 x0 x1 x2 (by omega) h0 (by rw [suiteT_w] at w0; omega) (by rw [suiteT_w] at w0; omega)).mono fun r B' h => h)
  unfold sel
  split
  · exact chk_cnt _
  · exact none_cnt

end Go.Proofs.Ytfhodofbccljmaa

