/- The helpers of the laws for Test: counted, copied, compared, marked. -/
import Derived.Test.YtjiioedohbbceaaE2
set_option maxHeartbeats 4000000
set_option synthInstance.maxHeartbeats 400000
set_option synthInstance.maxSize 4096
set_option linter.unusedSimpArgs false
set_option linter.unusedVariables false
namespace Go.Proofs.Ytjiioedohbbceaa

set_option maxRecDepth 100000

abbrev TestD := ByteArray × ByteArray × List ByteArray × List ByteArray × Unit

def testS : Shape TestD := consS strS (consS strS (consS (slS strS) (consS (slS strS) unitS)))

def testO : OwnS TestD := consO strO (consO strO (consO (slO 9 strO) (consO (slO 9 strO) unitO)))

def testT : GT TestD := consT strT (consT strT (consT (slT 9 strT) (consT (slT 9 strT) unitT)))

theorem testS_open {A : View} {x : TestD} {d : List Value} (h : testS.rel A x d) : ∃ uu2 uu3 : Value, d = [.string x.1, .string x.2.1, uu2, uu3] ∧ x.1.size ≤ 140737488355328 ∧ x.2.1.size ≤ 140737488355328 ∧ Sl strS A uu2 x.2.2.1 ∧ Sl strS A uu3 x.2.2.2.1 := by
  obtain ⟨_, _, rfl, ⟨rfl, hh0⟩, ⟨_, _, rfl, ⟨rfl, hh1⟩, ⟨_, _, rfl, ⟨uu2, rfl, hh2⟩, ⟨_, _, rfl, ⟨uu3, rfl, hh3⟩, rfl⟩⟩⟩⟩ := h
  exact ⟨uu2, uu3, rfl, hh0, hh1, hh2, hh3⟩

theorem testS_mk {A : View} {x : TestD} {uu2 uu3 : Value} (hh0 : x.1.size ≤ 140737488355328) (hh1 : x.2.1.size ≤ 140737488355328) (hh2 : Sl strS A uu2 x.2.2.1) (hh3 : Sl strS A uu3 x.2.2.2.1) : testS.rel A x [.string x.1, .string x.2.1, uu2, uu3] := ⟨_, _, rfl, ⟨rfl, hh0⟩, ⟨_, _, rfl, ⟨rfl, hh1⟩, ⟨_, _, rfl, ⟨_, rfl, hh2⟩, ⟨_, _, rfl, ⟨_, rfl, hh3⟩, rfl⟩⟩⟩⟩

theorem testO_open {A : View} {fp : List Nat} {x : TestD} {d : List Value} (h : testO.rel A fp x d) : ∃ (ff2 : List Nat) (uu2 : Value) (ff3 : List Nat) (uu3 : Value), ff2 ++ (ff3) = fp ∧ d = [.string x.1, .string x.2.1, uu2, uu3] ∧ x.1.size ≤ 140737488355328 ∧ x.2.1.size ≤ 140737488355328 ∧ OSl 9 strO A ff2 uu2 x.2.2.1 ∧ OSl 9 strO A ff3 uu3 x.2.2.2.1 := by
  obtain ⟨_, _, _, _, rfl, rfl, ⟨rfl, rfl, hh0⟩, ⟨_, _, _, _, rfl, rfl, ⟨rfl, rfl, hh1⟩, ⟨_, _, _, _, rfl, rfl, ⟨uu2, rfl, hh2⟩, ⟨_, _, _, _, rfl, rfl, ⟨uu3, rfl, hh3⟩, ⟨rfl, rfl⟩⟩⟩⟩⟩ := h
  exact ⟨_, uu2, _, uu3, by simp, rfl, hh0, hh1, hh2, hh3⟩

theorem testO_mk {A : View} {x : TestD} {ff2 ff3 : List Nat} {uu2 uu3 : Value} (hh0 : x.1.size ≤ 140737488355328) (hh1 : x.2.1.size ≤ 140737488355328) (hh2 : OSl 9 strO A ff2 uu2 x.2.2.1) (hh3 : OSl 9 strO A ff3 uu3 x.2.2.2.1) : testO.rel A (ff2 ++ (ff3)) x [.string x.1, .string x.2.1, uu2, uu3] := ⟨[], ff2 ++ ff3, [.string x.1], _, by simp, rfl, ⟨rfl, rfl, hh0⟩, ⟨[], ff2 ++ ff3, [.string x.2.1], _, by simp, rfl, ⟨rfl, rfl, hh1⟩, ⟨ff2, ff3, [uu2], _, by simp, rfl, ⟨_, rfl, hh2⟩, ⟨ff3, [], [uu3], _, by simp, rfl, ⟨_, rfl, hh3⟩, ⟨rfl, rfl⟩⟩⟩⟩⟩

theorem testO_S {A : View} {fp : List Nat} {x : TestD} {d : List Value} (h : testO.rel A fp x d) : testS.rel A x d := testO.toS h

theorem testT_w (x : TestD) : testT.w x = x.1.size + (x.2.1.size + ((x.2.2.1.length + wL strT x.2.2.1) + ((x.2.2.2.1.length + wL strT x.2.2.2.1) + 0))) := rfl

theorem testT_cnt (x : TestD) : testT.cnt x = 1 + (1 + (cntL strT x.2.2.1 + (cntL strT x.2.2.2.1 + 0))) := rfl

theorem testT_le (x : TestD) : testT.cnt x ≤ 4 + 4 * testT.w x := by
  rw [testT_cnt, testT_w]
  have e2 := cntL_str_le x.2.2.1
  have e3 := cntL_str_le x.2.2.2.1
  omega

theorem testL_le : ∀ (xs : List TestD), cntL testT xs ≤ 4 * (xs.length + wL testT xs)
  | [] => by simp [cntL]
  | x :: xs => by
    have := testT_le x
    have := testL_le xs
    simp only [cntL, wL, List.length_cons]
    omega

theorem Sl.test {A : View} {a : Option Addr} {n c : Nat} {xs : List TestD} (h : Sl testS A (.slice a n c) xs) {i : Nat} (hi : i < xs.length) : ∃ (ad : Addr) (uu2 uu3 : Value), a = some ad ∧ A.part (ad.add (i * 4)) 4 = some [.string (xs[i]).1, .string (xs[i]).2.1, uu2, uu3] ∧ (xs[i]).1.size ≤ 140737488355328 ∧ (xs[i]).2.1.size ≤ 140737488355328 ∧ Sl strS A uu2 (xs[i]).2.2.1 ∧ Sl strS A uu3 (xs[i]).2.2.2.1 := by
  obtain ⟨ad, d, h1, h2, h3, _⟩ := h.at hi
  obtain ⟨uu2, uu3, rfl, hh0, hh1, hh2, hh3⟩ := testS_open h2
  exact ⟨ad, uu2, uu3, h1, h3, hh0, hh1, hh2, hh3⟩

end Go.Proofs.Ytjiioedohbbceaa

