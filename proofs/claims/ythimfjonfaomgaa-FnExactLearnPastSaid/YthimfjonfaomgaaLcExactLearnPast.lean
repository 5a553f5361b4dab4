/- The law FnExactLearnPast, over the contracts. -/
import Derived.Test.YthimfjonfaomgaaLaLearnPast
import Derived.Test.YthimfjonfaomgaaR1
set_option maxHeartbeats 4000000
set_option synthInstance.maxHeartbeats 400000
set_option synthInstance.maxSize 4096
set_option linter.unusedSimpArgs false
set_option linter.unusedVariables false
namespace Go.Proofs.Ythimfjonfaomgaa

theorem law_FnExactLearnPast (A : View) (v0 : Value) (x0 : List PastD) (d1 : List Value) (x1 : ReportD) (h0 : Sl pastS A v0 x0) (h1 : reportS.rel A x1 d1) : ACalls Try.prog 3 #[v0, .agg d1.toArray] A fun r _ => r = .bool true := by
  have out : ∀ {B B' : View} {r : Value}, (∃ u0, r = .tuple #[u0, .bool (learnB x0 x1)] ∧ NewSl 69 pastO B u0 B' (learnR x0 x1)) → ∃ (f0 : List Nat) (u0 : Value), r = .tuple #[u0, .bool (learnB x0 x1)] ∧ Led B [osl 69 pastO f0 u0 (learnR x0 x1)] B' := fun ⟨u0, hr, fp, hl⟩ => ⟨fp, u0, hr, hl⟩
  have hw : reportT.w x1 ≤ 1048576 → x1.1.length ≤ 1048576 := fun h => by rw [reportT_w] at h; omega
  exact walkFnExactLearnPast A v0 x0 d1 x1 h0 h1 (learnR x0 x1) (learnR_cnt x0 x1) (learnB x0 x1)
    (fun B v0 d1 h0 h1 w0 w1 => (spec_learnPast_c B v0 d1 x0 x1 h0 h1 (by omega) (hw w1)).mono fun r B' h => out h)
    (fun B v0 d1 h0 h1 w0 w1 => (impl_learnPast_c B v0 d1 x0 x1 h0 h1 (by omega) (hw w1)).mono fun r B' h => out h)

end Go.Proofs.Ythimfjonfaomgaa

