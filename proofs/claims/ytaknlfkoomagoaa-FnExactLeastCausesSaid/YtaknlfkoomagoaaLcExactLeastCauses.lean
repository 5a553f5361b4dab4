/- The law FnExactLeastCauses, over the contracts. -/
import Derived.Test.YtaknlfkoomagoaaLaLeastCauses
import Derived.Test.YtaknlfkoomagoaaQ6
set_option maxHeartbeats 4000000
set_option synthInstance.maxHeartbeats 400000
set_option synthInstance.maxSize 4096
set_option linter.unusedSimpArgs false
set_option linter.unusedVariables false
namespace Go.Proofs.Ytaknlfkoomagoaa

theorem law_FnExactLeastCauses (A : View) (v0 : Value) (x0 : List (List ByteArray)) (v1 : Value) (x1 : List ByteArray) (h0 : Sl (slS strS) A v0 x0) (h1 : Sl strS A v1 x1) : ACalls Try.prog 7 #[v0, v1] A fun r _ => r = .bool true :=
  walkFnExactLeastCauses A v0 x0 v1 x1 h0 h1 (leastR x0 x1) (leastR_cnt x0 x1)
    (fun B v0 v1 h0 h1 w0 w1 => (spec_leastCauses_c B v0 v1 x0 x1 h0 h1).mono fun r B' h => h.out)
    (fun B v0 v1 h0 h1 w0 w1 => (impl_leastCauses_c B v0 v1 x0 x1 h0 h1).mono fun r B' h => h.out)

end Go.Proofs.Ytaknlfkoomagoaa

