/- The law FnExactHalveIds, over the contracts. -/
import Derived.Test.YtaknlfkoomagoaaLaHalveIds
import Derived.Test.YtaknlfkoomagoaaQ4
set_option maxHeartbeats 4000000
set_option synthInstance.maxHeartbeats 400000
set_option synthInstance.maxSize 4096
set_option linter.unusedSimpArgs false
set_option linter.unusedVariables false
namespace Go.Proofs.Ytaknlfkoomagoaa

theorem law_FnExactHalveIds (A : View) (v0 : Value) (x0 : List (List ByteArray)) (v1 : Value) (x1 : List ByteArray) (h0 : Sl (slS strS) A v0 x0) (h1 : Sl strS A v1 x1) : ACalls Try.prog 6 #[v0, v1] A fun r _ => r = .bool true := by
  have out : ∀ {B B' : View} {r : Value}, (∃ u0, r = .tuple #[u0, .bool (failB x0 x1)] ∧ NewSl 9 strO B u0 B' (halvedR x0 x1)) → ∃ (f0 : List Nat) (u0 : Value), r = .tuple #[u0, .bool (failB x0 x1)] ∧ Led B [osl 9 strO f0 u0 (halvedR x0 x1)] B' := fun ⟨u0, hr, fp, hl⟩ => ⟨fp, u0, hr, hl⟩
  refine walkFnExactHalveIds A v0 x0 v1 x1 h0 h1 (halvedR x0 x1) ?_ (failB x0 x1)
    (fun B v0 v1 h0 h1 w0 w1 => (spec_halveIds_c B v0 v1 x0 x1 h0 h1 (fun c hc => ?_)).mono fun r B' h => out h)
    (fun B v0 v1 h0 h1 w0 w1 => (impl_halveIds_c B v0 v1 x0 x1 h0 h1).mono fun r B' h => out h)
  · rw [cntL_str]
    have := halvedR_len x0 x1
    omega
  · have h1 := wL_mem (slT 9 strT) hc
    have h2 : (slT 9 strT).w c = c.length + wL strT c := rfl
    omega

end Go.Proofs.Ytaknlfkoomagoaa

