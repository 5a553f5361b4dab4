/- The law FnExactFixtureAt, over the contracts. -/
import Derived.Test.YtfhodofbccljmaaLaFixtureAt
import Derived.Test.YtfhodofbccljmaaV9
set_option maxHeartbeats 4000000
set_option synthInstance.maxHeartbeats 400000
set_option synthInstance.maxSize 4096
set_option linter.unusedSimpArgs false
set_option linter.unusedVariables false
namespace Go.Proofs.Ytfhodofbccljmaa

theorem law_FnExactFixtureAt (A : View) (d0 : List Value) (x0 : SuiteD) (x1 : ByteArray) (h0 : suiteS.rel A x0 d0) (h1 : x1.size ≤ 140737488355328) : ACalls Try.prog 7 #[.agg d0.toArray, .string x1] A fun r _ => r = .bool true := by
  refine walkFnExactFixtureAt A d0 x0 x1 h0 h1 (fAtR (validB x0) x0 x1)
    (fun B d0 h0 w0 w1 => (spec_FixtureAt_c B d0 x0 x1 h0).mono fun r B' h => ⟨h.1, (Led.nil B).step h.2⟩)
    (fun B d0 h0 w0 w1 => (impl_FixtureAt_c B d0 x0 x1 h0 ?_ ?_).mono fun r B' h => ⟨h.1, (Led.nil B).step h.2⟩)
  · rw [suiteT_w] at w0; omega
  · rw [suiteT_w] at w0; omega

end Go.Proofs.Ytfhodofbccljmaa

