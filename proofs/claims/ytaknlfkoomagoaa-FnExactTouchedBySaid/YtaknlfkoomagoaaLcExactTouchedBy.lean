/- The law FnExactTouchedBy, over the contracts. -/
import Derived.Test.YtaknlfkoomagoaaLaTouchedBy
import Derived.Test.YtaknlfkoomagoaaD3
import Derived.Test.YtaknlfkoomagoaaFw12
set_option maxHeartbeats 4000000
set_option synthInstance.maxHeartbeats 400000
set_option synthInstance.maxSize 4096
set_option linter.unusedSimpArgs false
set_option linter.unusedVariables false
namespace Go.Proofs.Ytaknlfkoomagoaa

theorem NewStrs.led {A A' : View} {r : Value} {ys : List ByteArray} (h : NewStrs A A' r ys) : ∃ (f0 : List Nat) (u0 : Value), r = u0 ∧ Led A [osl 9 strO f0 u0 ys] A' :=
  let ⟨fp, h1, h2, h3, h4⟩ := h
  ⟨fp, r, rfl, Led.one h1 h2 h3 h4⟩

theorem law_FnExactTouchedBy (A : View) (v0 : Value) (x0 : List CoverD) (v1 : Value) (x1 : List Int) (h0 : Sl coverS A v0 x0) (h1 : Sl intS A v1 x1) : ACalls Try.prog 3 #[v0, v1] A fun r _ => r = .bool true := by
  refine walkFnExactTouchedBy A v0 x0 v1 x1 h0 h1 (if coversB x0 then touched x0 x1 else []) ?_
    (fun B v0 v1 h0 h1 w0 _ => (spec_touchedBy_c B v0 v1 x0 x1 h0 h1 (by omega)).mono fun r B' h => h.led)
    (fun B v0 v1 h0 h1 w0 _ => (impl_touchedBy_c B v0 v1 x0 x1 h0 h1 (by omega)).mono fun r B' h => h.led)
  rw [cntL_str]
  split
  · rename_i hv
    have h1 := touched_len x0 x1
    unfold coversB idsB at hv
    simp only [Bool.and_eq_true, decide_eq_true_eq, List.length_map] at hv
    omega
  · simp

end Go.Proofs.Ytaknlfkoomagoaa

