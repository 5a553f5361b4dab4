/- The helpers of the laws for lists of lists of texts: counted, copied, compared, marked. -/
import Derived.Test.YtbbhhdcimmofoaaE2
set_option maxHeartbeats 4000000
set_option synthInstance.maxHeartbeats 400000
set_option synthInstance.maxSize 4096
set_option linter.unusedSimpArgs false
set_option linter.unusedVariables false
namespace Go.Proofs.Ytbbhhdcimmofoaa

set_option maxRecDepth 100000

theorem cntL_strs_le : ∀ (xs : List (List ByteArray)), cntL (slT 9 strT) xs ≤ 4 * (xs.length + wL (slT 9 strT) xs)
  | [] => by simp [cntL]
  | x :: xs => by
    have h1 := cntL_str_le x
    have h2 := cntL_strs_le xs
    have h3 : (slT 9 strT).cnt x = cntL strT x := rfl
    have h4 : (slT 9 strT).w x = x.length + wL strT x := rfl
    simp only [cntL, wL, List.length_cons, h3, h4]
    omega

theorem Sl.strs {A : View} {a : Option Addr} {n c : Nat} {xs : List (List ByteArray)} (h : Sl (slS strS) A (.slice a n c) xs) {i : Nat} (hi : i < xs.length) : ∃ (ad : Addr) (b : Option Addr) (m : Nat), a = some ad ∧ A.cell (ad.add i) = some (.slice b (xs[i]).length m) ∧ Sl strS A (.slice b (xs[i]).length m) xs[i] := by
  obtain ⟨ad, d, h1, ⟨v, rfl, hv⟩, h3, h4⟩ := h.at hi
  obtain ⟨b, m, rfl, _⟩ := hv.slice
  have := h4 0 _ rfl
  rw [addr_add_add] at this
  exact ⟨ad, b, m, h1, by simpa [slS] using this, hv⟩

end Go.Proofs.Ytbbhhdcimmofoaa

