/- The law FnExactSummaryText, over the contracts. -/
import Derived.Test.YtggklaimbklefaaDoorLaSummaryText
import Derived.Test.YtggklaimbklefaaDoorSB
set_option maxHeartbeats 4000000
set_option synthInstance.maxHeartbeats 400000
set_option synthInstance.maxSize 4096
set_option linter.unusedSimpArgs false
set_option linter.unusedVariables false
namespace Go.Proofs.YtggklaimbklefaaDoor

theorem law_FnExactSummaryText (A : View) (d0 : List Value) (x0 : ReportD) (h0 : reportS.rel A x0 d0) (hT : TabV A) : ACalls Tryd.prog 3 #[.agg d0.toArray] A fun r _ => r = .bool true :=
  walkFnExactSummaryText A d0 x0 h0 (summR x0)
    (fun B d0 h0 w0 => (spec_SummaryText_c B d0 x0 h0 (by rw [reportT_w] at w0; omega) (by rw [reportT_w] at w0; omega)).mono fun r B' h => ⟨h.1, (Led.nil B).step h.2⟩)
    (fun B d0 h0 he w0 => (impl_SummaryText_c B d0 x0 h0 (by rw [reportT_w] at w0; omega) (by rw [reportT_w] at w0; omega) (hT.mono he)).mono fun r B' h => ⟨h.1, (Led.nil B).step h.2⟩)

end Go.Proofs.YtggklaimbklefaaDoor

