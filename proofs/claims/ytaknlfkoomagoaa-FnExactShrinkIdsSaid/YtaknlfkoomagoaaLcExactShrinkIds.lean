/- The law FnExactShrinkIds, over the contracts. -/
import Derived.Test.YtaknlfkoomagoaaLaShrinkIds
import Derived.Test.YtaknlfkoomagoaaQ4
set_option maxHeartbeats 4000000
set_option synthInstance.maxHeartbeats 400000
set_option synthInstance.maxSize 4096
set_option linter.unusedSimpArgs false
set_option linter.unusedVariables false
namespace Go.Proofs.Ytaknlfkoomagoaa

theorem law_FnExactShrinkIds (A : View) (v0 : Value) (x0 : List (List ByteArray)) (v1 : Value) (x1 : List ByteArray) (h0 : Sl (slS strS) A v0 x0) (h1 : Sl strS A v1 x1) : ACalls Try.prog 5 #[v0, v1] A fun r _ => r = .bool true := by
  have out : ∀ {B B' : View} {r : Value}, (∃ u0, r = .tuple #[u0, .bool (failB x0 x1)] ∧ NewSl 9 strO B u0 B' (shrunkR x0 x1)) → ∃ (f0 : List Nat) (u0 : Value), r = .tuple #[u0, .bool (failB x0 x1)] ∧ Led B [osl 9 strO f0 u0 (shrunkR x0 x1)] B' := fun ⟨u0, hr, fp, hl⟩ => ⟨fp, u0, hr, hl⟩
  refine walkFnExactShrinkIds A v0 x0 v1 x1 h0 h1 (shrunkR x0 x1) ?_ (failB x0 x1)
    (fun B v0 v1 h0 h1 w0 w1 => (spec_shrinkIds_c B v0 v1 x0 x1 h0 h1 (fun c hc => ?_)).mono fun r B' h => out h)
    (fun B v0 v1 h0 h1 w0 w1 => (impl_shrinkIds_c B v0 v1 x0 x1 h0 h1).mono fun r B' h => out h)
  · rw [cntL_str]
    have := shrunkR_len x0 x1
    omega
  · have h1 := wL_mem (slT 9 strT) hc
    have h2 : (slT 9 strT).w c = c.length + wL strT c := rfl
    omega

end Go.Proofs.Ytaknlfkoomagoaa

