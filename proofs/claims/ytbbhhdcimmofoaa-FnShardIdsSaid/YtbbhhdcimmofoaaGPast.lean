/- The helpers of the laws for Past: counted, copied, compared, marked. -/
import Derived.Test.YtbbhhdcimmofoaaE2
set_option maxHeartbeats 4000000
set_option synthInstance.maxHeartbeats 400000
set_option synthInstance.maxSize 4096
set_option linter.unusedSimpArgs false
set_option linter.unusedVariables false
namespace Go.Proofs.Ytbbhhdcimmofoaa

set_option maxRecDepth 100000

abbrev PastD := ByteArray × Bool × Int × Unit

def pastS : Shape PastD := consS strS (consS boolS (consS intS unitS))

def pastO : OwnS PastD := consO strO (consO boolO (consO intO unitO))

def pastT : GT PastD := consT strT (consT boolT (consT intT unitT))

theorem pastS_open {A : View} {x : PastD} {d : List Value} (h : pastS.rel A x d) : d = [.string x.1, .bool x.2.1, .int .i64 x.2.2.1] ∧ x.1.size ≤ 140737488355328 ∧ (-9223372036854775808 ≤ x.2.2.1 ∧ x.2.2.1 < 9223372036854775808) := by
  obtain ⟨_, _, rfl, ⟨rfl, hh0⟩, ⟨_, _, rfl, rfl, ⟨_, _, rfl, ⟨rfl, hh2⟩, rfl⟩⟩⟩ := h
  exact ⟨rfl, hh0, hh2⟩

theorem pastS_mk {A : View} {x : PastD} (hh0 : x.1.size ≤ 140737488355328) (hh2 : (-9223372036854775808 ≤ x.2.2.1 ∧ x.2.2.1 < 9223372036854775808)) : pastS.rel A x [.string x.1, .bool x.2.1, .int .i64 x.2.2.1] := ⟨_, _, rfl, ⟨rfl, hh0⟩, ⟨_, _, rfl, rfl, ⟨_, _, rfl, ⟨rfl, hh2⟩, rfl⟩⟩⟩

theorem pastO_open {A : View} {fp : List Nat} {x : PastD} {d : List Value} (h : pastO.rel A fp x d) : [] = fp ∧ d = [.string x.1, .bool x.2.1, .int .i64 x.2.2.1] ∧ x.1.size ≤ 140737488355328 ∧ (-9223372036854775808 ≤ x.2.2.1 ∧ x.2.2.1 < 9223372036854775808) := by
  obtain ⟨_, _, _, _, rfl, rfl, ⟨rfl, rfl, hh0⟩, ⟨_, _, _, _, rfl, rfl, ⟨rfl, rfl⟩, ⟨_, _, _, _, rfl, rfl, ⟨rfl, rfl, hh2⟩, ⟨rfl, rfl⟩⟩⟩⟩ := h
  exact ⟨by simp, rfl, hh0, hh2⟩

theorem pastO_mk {A : View} {x : PastD} (hh0 : x.1.size ≤ 140737488355328) (hh2 : (-9223372036854775808 ≤ x.2.2.1 ∧ x.2.2.1 < 9223372036854775808)) : pastO.rel A ([]) x [.string x.1, .bool x.2.1, .int .i64 x.2.2.1] := ⟨[], [], [.string x.1], _, by simp, rfl, ⟨rfl, rfl, hh0⟩, ⟨[], [], [.bool x.2.1], _, by simp, rfl, ⟨rfl, rfl⟩, ⟨[], [], [.int .i64 x.2.2.1], _, by simp, rfl, ⟨rfl, rfl, hh2⟩, ⟨rfl, rfl⟩⟩⟩⟩

theorem pastO_S {A : View} {fp : List Nat} {x : PastD} {d : List Value} (h : pastO.rel A fp x d) : pastS.rel A x d := pastO.toS h

theorem pastT_w (x : PastD) : pastT.w x = x.1.size + (0 + (0 + 0)) := rfl

theorem pastT_cnt (x : PastD) : pastT.cnt x = 1 + (1 + (1 + 0)) := rfl

theorem pastT_le (x : PastD) : pastT.cnt x ≤ 4 + 4 * pastT.w x := by
  rw [pastT_cnt, pastT_w]
  omega

theorem pastL_le : ∀ (xs : List PastD), cntL pastT xs ≤ 4 * (xs.length + wL pastT xs)
  | [] => by simp [cntL]
  | x :: xs => by
    have := pastT_le x
    have := pastL_le xs
    simp only [cntL, wL, List.length_cons]
    omega

theorem Sl.past {A : View} {a : Option Addr} {n c : Nat} {xs : List PastD} (h : Sl pastS A (.slice a n c) xs) {i : Nat} (hi : i < xs.length) : ∃ (ad : Addr) , a = some ad ∧ A.part (ad.add (i * 3)) 3 = some [.string (xs[i]).1, .bool (xs[i]).2.1, .int .i64 (xs[i]).2.2.1] ∧ (xs[i]).1.size ≤ 140737488355328 ∧ (-9223372036854775808 ≤ (xs[i]).2.2.1 ∧ (xs[i]).2.2.1 < 9223372036854775808) := by
  obtain ⟨ad, d, h1, h2, h3, _⟩ := h.at hi
  obtain ⟨rfl, hh0, hh2⟩ := pastS_open h2
  exact ⟨ad, h1, h3, hh0, hh2⟩

end Go.Proofs.Ytbbhhdcimmofoaa

