/- Suites copied. -/
import Derived.Test.YtjojofnkgeiadaaV9
import Derived.Test.YtjojofnkgeiadaaQ1
set_option maxHeartbeats 4000000
set_option synthInstance.maxHeartbeats 400000
set_option synthInstance.maxSize 4096
set_option linter.unusedSimpArgs false
set_option linter.unusedVariables false
namespace Go.Proofs.Ytjojofnkgeiadaa

set_option maxRecDepth 100000

def smallT (t : TestD) : Prop := t.2.2.1.length ≤ 1024 ∧ t.2.2.2.1.length ≤ 1024
def smallF (f : FixtureD) : Prop := f.2.2.1.length ≤ 1024
structure Small (x : SuiteD) : Prop where
  l0 : x.1.length ≤ 1024
  l1 : x.2.1.length ≤ 1024
  s0 : ∀ f, f ∈ x.1 → smallF f
  s1 : ∀ t, t ∈ x.2.1 → smallT t
theorem testB_small {t : TestD} (h : testB t = true) : smallT t := by
  unfold testB at h
  simp only [Bool.and_eq_true] at h
  have h1 := namesB_len h.1.1.2
  have h2 := namesB_len h.2
  exact ⟨by omega, by omega⟩
theorem Formed.small {x : SuiteD} (h : Formed x) : Small x := ⟨by have := h.fl; omega, by have := h.tl; omega, fun f hf => by have := (h.fs f hf).1; show _ ≤ _; omega, fun t ht => testB_small (h.ts t ht).1⟩

end Go.Proofs.Ytjojofnkgeiadaa

