/- The law FnExactNeedsOf, over the contracts. -/
import Derived.Test.YtfhodofbccljmaaLaNeedsOf
import Derived.Test.YtfhodofbccljmaaW0
set_option maxHeartbeats 4000000
set_option synthInstance.maxHeartbeats 400000
set_option synthInstance.maxSize 4096
set_option linter.unusedSimpArgs false
set_option linter.unusedVariables false
namespace Go.Proofs.Ytfhodofbccljmaa

theorem law_FnExactNeedsOf (A : View) (d0 : List Value) (x0 : SuiteD) (x1 : ByteArray) (h0 : suiteS.rel A x0 d0) (h1 : x1.size ≤ 140737488355328) : ACalls Try.prog 8 #[.agg d0.toArray, .string x1] A fun r _ => r = .bool true := by
  refine walkFnExactNeedsOf A d0 x0 x1 h0 h1 (needsOfR x0 x1) ?_
    (fun B d0 h0 w0 w1 => (spec_NeedsOf_c B d0 x0 x1 h0 (by omega) (by rw [suiteT_w] at w0; omega)).mono fun r B' h => h.out)
    (fun B d0 h0 w0 w1 => (impl_NeedsOf_c B d0 x0 x1 h0 (by omega) (by rw [suiteT_w] at w0; omega) (by rw [suiteT_w] at w0; omega)).mono fun r B' h => h.out)
  rw [cntL_str]
  have := needsOfR_len x0 x1
  omega

end Go.Proofs.Ytfhodofbccljmaa

