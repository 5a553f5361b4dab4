/- The helpers of the laws for Problem: counted, copied, compared, marked. -/
import Derived.Test.YtjojofnkgeiadaaE2
set_option maxHeartbeats 4000000
set_option synthInstance.maxHeartbeats 400000
set_option synthInstance.maxSize 4096
set_option linter.unusedSimpArgs false
set_option linter.unusedVariables false
namespace Go.Proofs.Ytjojofnkgeiadaa

set_option maxRecDepth 100000

abbrev ProblemD := Int × ByteArray × ByteArray × Unit

def problemS : Shape ProblemD := consS intS (consS strS (consS strS unitS))

def problemO : OwnS ProblemD := consO intO (consO strO (consO strO unitO))

def problemT : GT ProblemD := consT intT (consT strT (consT strT unitT))

theorem problemS_open {A : View} {x : ProblemD} {d : List Value} (h : problemS.rel A x d) : d = [.int .i64 x.1, .string x.2.1, .string x.2.2.1] ∧ (-9223372036854775808 ≤ x.1 ∧ x.1 < 9223372036854775808) ∧ x.2.1.size ≤ 140737488355328 ∧ x.2.2.1.size ≤ 140737488355328 := by
  obtain ⟨_, _, rfl, ⟨rfl, hh0⟩, ⟨_, _, rfl, ⟨rfl, hh1⟩, ⟨_, _, rfl, ⟨rfl, hh2⟩, rfl⟩⟩⟩ := h
  exact ⟨rfl, hh0, hh1, hh2⟩

theorem problemS_mk {A : View} {x : ProblemD} (hh0 : (-9223372036854775808 ≤ x.1 ∧ x.1 < 9223372036854775808)) (hh1 : x.2.1.size ≤ 140737488355328) (hh2 : x.2.2.1.size ≤ 140737488355328) : problemS.rel A x [.int .i64 x.1, .string x.2.1, .string x.2.2.1] := ⟨_, _, rfl, ⟨rfl, hh0⟩, ⟨_, _, rfl, ⟨rfl, hh1⟩, ⟨_, _, rfl, ⟨rfl, hh2⟩, rfl⟩⟩⟩

theorem problemO_open {A : View} {fp : List Nat} {x : ProblemD} {d : List Value} (h : problemO.rel A fp x d) : [] = fp ∧ d = [.int .i64 x.1, .string x.2.1, .string x.2.2.1] ∧ (-9223372036854775808 ≤ x.1 ∧ x.1 < 9223372036854775808) ∧ x.2.1.size ≤ 140737488355328 ∧ x.2.2.1.size ≤ 140737488355328 := by
  obtain ⟨_, _, _, _, rfl, rfl, ⟨rfl, rfl, hh0⟩, ⟨_, _, _, _, rfl, rfl, ⟨rfl, rfl, hh1⟩, ⟨_, _, _, _, rfl, rfl, ⟨rfl, rfl, hh2⟩, ⟨rfl, rfl⟩⟩⟩⟩ := h
  exact ⟨by simp, rfl, hh0, hh1, hh2⟩

theorem problemO_mk {A : View} {x : ProblemD} (hh0 : (-9223372036854775808 ≤ x.1 ∧ x.1 < 9223372036854775808)) (hh1 : x.2.1.size ≤ 140737488355328) (hh2 : x.2.2.1.size ≤ 140737488355328) : problemO.rel A ([]) x [.int .i64 x.1, .string x.2.1, .string x.2.2.1] := ⟨[], [], [.int .i64 x.1], _, by simp, rfl, ⟨rfl, rfl, hh0⟩, ⟨[], [], [.string x.2.1], _, by simp, rfl, ⟨rfl, rfl, hh1⟩, ⟨[], [], [.string x.2.2.1], _, by simp, rfl, ⟨rfl, rfl, hh2⟩, ⟨rfl, rfl⟩⟩⟩⟩

theorem problemO_S {A : View} {fp : List Nat} {x : ProblemD} {d : List Value} (h : problemO.rel A fp x d) : problemS.rel A x d := problemO.toS h

theorem problemT_w (x : ProblemD) : problemT.w x = 0 + (x.2.1.size + (x.2.2.1.size + 0)) := rfl

theorem problemT_cnt (x : ProblemD) : problemT.cnt x = 1 + (1 + (1 + 0)) := rfl

theorem problemT_le (x : ProblemD) : problemT.cnt x ≤ 4 + 4 * problemT.w x := by
  rw [problemT_cnt, problemT_w]
  omega

theorem problemL_le : ∀ (xs : List ProblemD), cntL problemT xs ≤ 4 * (xs.length + wL problemT xs)
  | [] => by simp [cntL]
  | x :: xs => by
    have := problemT_le x
    have := problemL_le xs
    simp only [cntL, wL, List.length_cons]
    omega

theorem Sl.problem {A : View} {a : Option Addr} {n c : Nat} {xs : List ProblemD} (h : Sl problemS A (.slice a n c) xs) {i : Nat} (hi : i < xs.length) : ∃ (ad : Addr) , a = some ad ∧ A.part (ad.add (i * 3)) 3 = some [.int .i64 (xs[i]).1, .string (xs[i]).2.1, .string (xs[i]).2.2.1] ∧ (-9223372036854775808 ≤ (xs[i]).1 ∧ (xs[i]).1 < 9223372036854775808) ∧ (xs[i]).2.1.size ≤ 140737488355328 ∧ (xs[i]).2.2.1.size ≤ 140737488355328 := by
  obtain ⟨ad, d, h1, h2, h3, _⟩ := h.at hi
  obtain ⟨rfl, hh0, hh1, hh2⟩ := problemS_open h2
  exact ⟨ad, h1, h3, hh0, hh1, hh2⟩

end Go.Proofs.Ytjojofnkgeiadaa

