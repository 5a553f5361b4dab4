/- The law FnExactSlowFirst, over the contracts. -/
import Derived.Test.YthimfjonfaomgaaLaSlowFirst
import Derived.Test.YthimfjonfaomgaaR3
set_option maxHeartbeats 4000000
set_option synthInstance.maxHeartbeats 400000
set_option synthInstance.maxSize 4096
set_option linter.unusedSimpArgs false
set_option linter.unusedVariables false
namespace Go.Proofs.Ythimfjonfaomgaa

theorem law_FnExactSlowFirst (A : View) (v0 : Value) (x0 : List ByteArray) (v1 : Value) (x1 : List PastD) (h0 : Sl strS A v0 x0) (h1 : Sl pastS A v1 x1) : ACalls Try.prog 5 #[v0, v1] A fun r _ => r = .bool true := by
  refine walkFnExactSlowFirst A v0 x0 v1 x1 h0 h1 (slowR x0 x1) ?_
    (fun B v0 v1 h0 h1 w0 w1 => (spec_slowFirst_c B v0 v1 x0 x1 h0 h1).mono fun r B' h => h.out)
    (fun B v0 v1 h0 h1 w0 w1 => (impl_slowFirst_c B v0 v1 x0 x1 h0 h1 (by omega)).mono fun r B' h => h.out)
  rw [cntL_str]
  have := slowR_len x0 x1
  omega

end Go.Proofs.Ythimfjonfaomgaa

