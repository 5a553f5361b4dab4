/- The helpers of the laws for Flaky: counted, copied, compared, marked. -/
import Derived.Test.YtjiioedohbbceaaE2
set_option maxHeartbeats 4000000
set_option synthInstance.maxHeartbeats 400000
set_option synthInstance.maxSize 4096
set_option linter.unusedSimpArgs false
set_option linter.unusedVariables false
namespace Go.Proofs.Ytjiioedohbbceaa

set_option maxRecDepth 100000

abbrev FlakyD := ByteArray × Int × Unit

def flakyS : Shape FlakyD := consS strS (consS intS unitS)

def flakyO : OwnS FlakyD := consO strO (consO intO unitO)

def flakyT : GT FlakyD := consT strT (consT intT unitT)

theorem flakyS_open {A : View} {x : FlakyD} {d : List Value} (h : flakyS.rel A x d) : d = [.string x.1, .int .i64 x.2.1] ∧ x.1.size ≤ 140737488355328 ∧ (-9223372036854775808 ≤ x.2.1 ∧ x.2.1 < 9223372036854775808) := by
  obtain ⟨_, _, rfl, ⟨rfl, hh0⟩, ⟨_, _, rfl, ⟨rfl, hh1⟩, rfl⟩⟩ := h
  exact ⟨rfl, hh0, hh1⟩

theorem flakyS_mk {A : View} {x : FlakyD} (hh0 : x.1.size ≤ 140737488355328) (hh1 : (-9223372036854775808 ≤ x.2.1 ∧ x.2.1 < 9223372036854775808)) : flakyS.rel A x [.string x.1, .int .i64 x.2.1] := ⟨_, _, rfl, ⟨rfl, hh0⟩, ⟨_, _, rfl, ⟨rfl, hh1⟩, rfl⟩⟩

theorem flakyO_open {A : View} {fp : List Nat} {x : FlakyD} {d : List Value} (h : flakyO.rel A fp x d) : [] = fp ∧ d = [.string x.1, .int .i64 x.2.1] ∧ x.1.size ≤ 140737488355328 ∧ (-9223372036854775808 ≤ x.2.1 ∧ x.2.1 < 9223372036854775808) := by
  obtain ⟨_, _, _, _, rfl, rfl, ⟨rfl, rfl, hh0⟩, ⟨_, _, _, _, rfl, rfl, ⟨rfl, rfl, hh1⟩, ⟨rfl, rfl⟩⟩⟩ := h
  exact ⟨by simp, rfl, hh0, hh1⟩

theorem flakyO_mk {A : View} {x : FlakyD} (hh0 : x.1.size ≤ 140737488355328) (hh1 : (-9223372036854775808 ≤ x.2.1 ∧ x.2.1 < 9223372036854775808)) : flakyO.rel A ([]) x [.string x.1, .int .i64 x.2.1] := ⟨[], [], [.string x.1], _, by simp, rfl, ⟨rfl, rfl, hh0⟩, ⟨[], [], [.int .i64 x.2.1], _, by simp, rfl, ⟨rfl, rfl, hh1⟩, ⟨rfl, rfl⟩⟩⟩

theorem flakyO_S {A : View} {fp : List Nat} {x : FlakyD} {d : List Value} (h : flakyO.rel A fp x d) : flakyS.rel A x d := flakyO.toS h

theorem flakyT_w (x : FlakyD) : flakyT.w x = x.1.size + (0 + 0) := rfl

theorem flakyT_cnt (x : FlakyD) : flakyT.cnt x = 1 + (1 + 0) := rfl

theorem flakyT_le (x : FlakyD) : flakyT.cnt x ≤ 4 + 4 * flakyT.w x := by
  rw [flakyT_cnt, flakyT_w]
  omega

theorem flakyL_le : ∀ (xs : List FlakyD), cntL flakyT xs ≤ 4 * (xs.length + wL flakyT xs)
  | [] => by simp [cntL]
  | x :: xs => by
    have := flakyT_le x
    have := flakyL_le xs
    simp only [cntL, wL, List.length_cons]
    omega

theorem Sl.flaky {A : View} {a : Option Addr} {n c : Nat} {xs : List FlakyD} (h : Sl flakyS A (.slice a n c) xs) {i : Nat} (hi : i < xs.length) : ∃ (ad : Addr) , a = some ad ∧ A.part (ad.add (i * 2)) 2 = some [.string (xs[i]).1, .int .i64 (xs[i]).2.1] ∧ (xs[i]).1.size ≤ 140737488355328 ∧ (-9223372036854775808 ≤ (xs[i]).2.1 ∧ (xs[i]).2.1 < 9223372036854775808) := by
  obtain ⟨ad, d, h1, h2, h3, _⟩ := h.at hi
  obtain ⟨rfl, hh0, hh1⟩ := flakyS_open h2
  exact ⟨ad, h1, h3, hh0, hh1⟩

end Go.Proofs.Ytjiioedohbbceaa

