/- The law FnExactValidWorld, over the contracts. -/
import Derived.Test.YtfhodofbccljmaaLaValidWorld
import Derived.Test.YtfhodofbccljmaaY2
set_option maxHeartbeats 4000000
set_option synthInstance.maxHeartbeats 400000
set_option synthInstance.maxSize 4096
set_option linter.unusedSimpArgs false
set_option linter.unusedVariables false
namespace Go.Proofs.Ytfhodofbccljmaa

theorem law_FnExactValidWorld (A : View) (d0 : List Value) (x0 : SuiteD) (d1 : List Value) (x1 : WorldD) (h0 : suiteS.rel A x0 d0) (h1 : worldS.rel A x1 d1) : ACalls Try.prog 12 #[.agg d0.toArray, .agg d1.toArray] A fun r _ => r = .bool true := by
  refine walkFnExactValidWorld A d0 x0 d1 x1 h0 h1 (worldB x0 x1)
    (fun B d0 d1 h0 h1 w0 w1 => (spec_ValidWorld_c B d0 d1 x0 x1 h0 h1 (by rw [worldT_w] at w1; omega)).mono fun r B' h => ⟨h.1, (Led.nil B).step h.2⟩)
    (fun B d0 d1 h0 h1 w0 w1 => (impl_ValidWorld_c B d0 d1 x0 x1 h0 h1 (by rw [suiteT_w] at w0; omega) (by rw [suiteT_w] at w0; omega) (by rw [worldT_w] at w1; omega) (by rw [worldT_w] at w1; omega) (by rw [worldT_w] at w1; omega) (by rw [worldT_w] at w1; omega)).mono fun r B' h => ⟨h.1, (Led.nil B).step h.2⟩)

end Go.Proofs.Ytfhodofbccljmaa

