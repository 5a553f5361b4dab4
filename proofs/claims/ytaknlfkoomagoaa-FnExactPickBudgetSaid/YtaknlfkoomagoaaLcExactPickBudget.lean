/- The law FnExactPickBudget, over the contracts. -/
import Derived.Test.YtaknlfkoomagoaaLaPickBudget
import Derived.Test.YtaknlfkoomagoaaP2
set_option maxHeartbeats 4000000
set_option synthInstance.maxHeartbeats 400000
set_option synthInstance.maxSize 4096
set_option linter.unusedSimpArgs false
set_option linter.unusedVariables false
namespace Go.Proofs.Ytaknlfkoomagoaa

theorem law_FnExactPickBudget (A : View) (v0 : Value) (x0 : List ByteArray) (v1 : Value) (x1 : List PastD) (x2 : Int) (h0 : Sl strS A v0 x0) (h1 : Sl pastS A v1 x1) (h2 : -9223372036854775808 ≤ x2 ∧ x2 < 9223372036854775808) : ACalls Try.prog 4 #[v0, v1, .int .i64 x2] A fun r _ => r = .bool true := by
  refine walkFnExactPickBudget A v0 x0 v1 x1 x2 h0 h1 h2 (picked x0 x1 x2) ?_
    (fun B v0 v1 h0 h1 w0 w1 => (spec_pickBudget_c B v0 v1 x0 x1 x2 h0 h1 (by omega)).mono fun r B' h => h.out)
    (fun B v0 v1 h0 h1 w0 w1 => (impl_pickBudget_c B v0 v1 x0 x1 x2 h0 h1 (by omega)).mono fun r B' h => h.out)
  rw [cntL_str]
  have := picked_len x0 x1 x2
  omega

end Go.Proofs.Ytaknlfkoomagoaa

