/- The law FnExactRejectTests, over the contracts. -/
import Derived.Test.YtbddklkfekiaeaaLaRejectTests
import Derived.Test.YtbddklkfekiaeaaUA
set_option maxHeartbeats 4000000
set_option synthInstance.maxHeartbeats 400000
set_option synthInstance.maxSize 4096
set_option linter.unusedSimpArgs false
set_option linter.unusedVariables false
namespace Go.Proofs.Ytbddklkfekiaeaa

theorem law_FnExactRejectTests (A : View) (v0 : Value) (x0 : List TestD) (x1 : ByteArray) (h0 : Sl testS A v0 x0) (h1 : x1.size ≤ 140737488355328) : ACalls Try.prog 7 #[v0, .string x1] A fun r _ => r = .bool true :=
  walkFnExactRejectTests A v0 x0 x1 h0 h1 (selE false x1 x0) (selE_cnt _ _ _)
    (fun B v0 h0 w0 w1 => (spec_RejectTests_c B v0 x1 x0 h0).mono fun r B' h => h.out)
    (fun B v0 h0 w0 w1 => (impl_RejectTests_c B v0 x1 x0 h0 h1 (by omega)).mono fun r B' h => h.out)

end Go.Proofs.Ytbddklkfekiaeaa

