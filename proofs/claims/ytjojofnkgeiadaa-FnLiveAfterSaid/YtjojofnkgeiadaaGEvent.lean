/- The helpers of the laws for Event: counted, copied, compared, marked. -/
import Derived.Test.YtjojofnkgeiadaaE2
set_option maxHeartbeats 4000000
set_option synthInstance.maxHeartbeats 400000
set_option synthInstance.maxSize 4096
set_option linter.unusedSimpArgs false
set_option linter.unusedVariables false
namespace Go.Proofs.Ytjojofnkgeiadaa

set_option maxRecDepth 100000

abbrev EventD := Int × ByteArray × Unit

def eventS : Shape EventD := consS intS (consS strS unitS)

def eventO : OwnS EventD := consO intO (consO strO unitO)

def eventT : GT EventD := consT intT (consT strT unitT)

theorem eventS_open {A : View} {x : EventD} {d : List Value} (h : eventS.rel A x d) : d = [.int .i64 x.1, .string x.2.1] ∧ (-9223372036854775808 ≤ x.1 ∧ x.1 < 9223372036854775808) ∧ x.2.1.size ≤ 140737488355328 := by
  obtain ⟨_, _, rfl, ⟨rfl, hh0⟩, ⟨_, _, rfl, ⟨rfl, hh1⟩, rfl⟩⟩ := h
  exact ⟨rfl, hh0, hh1⟩

theorem eventS_mk {A : View} {x : EventD} (hh0 : (-9223372036854775808 ≤ x.1 ∧ x.1 < 9223372036854775808)) (hh1 : x.2.1.size ≤ 140737488355328) : eventS.rel A x [.int .i64 x.1, .string x.2.1] := ⟨_, _, rfl, ⟨rfl, hh0⟩, ⟨_, _, rfl, ⟨rfl, hh1⟩, rfl⟩⟩

theorem eventO_open {A : View} {fp : List Nat} {x : EventD} {d : List Value} (h : eventO.rel A fp x d) : [] = fp ∧ d = [.int .i64 x.1, .string x.2.1] ∧ (-9223372036854775808 ≤ x.1 ∧ x.1 < 9223372036854775808) ∧ x.2.1.size ≤ 140737488355328 := by
  obtain ⟨_, _, _, _, rfl, rfl, ⟨rfl, rfl, hh0⟩, ⟨_, _, _, _, rfl, rfl, ⟨rfl, rfl, hh1⟩, ⟨rfl, rfl⟩⟩⟩ := h
  exact ⟨by simp, rfl, hh0, hh1⟩

theorem eventO_mk {A : View} {x : EventD} (hh0 : (-9223372036854775808 ≤ x.1 ∧ x.1 < 9223372036854775808)) (hh1 : x.2.1.size ≤ 140737488355328) : eventO.rel A ([]) x [.int .i64 x.1, .string x.2.1] := ⟨[], [], [.int .i64 x.1], _, by simp, rfl, ⟨rfl, rfl, hh0⟩, ⟨[], [], [.string x.2.1], _, by simp, rfl, ⟨rfl, rfl, hh1⟩, ⟨rfl, rfl⟩⟩⟩

theorem eventO_S {A : View} {fp : List Nat} {x : EventD} {d : List Value} (h : eventO.rel A fp x d) : eventS.rel A x d := eventO.toS h

theorem eventT_w (x : EventD) : eventT.w x = 0 + (x.2.1.size + 0) := rfl

theorem eventT_cnt (x : EventD) : eventT.cnt x = 1 + (1 + 0) := rfl

theorem eventT_le (x : EventD) : eventT.cnt x ≤ 4 + 4 * eventT.w x := by
  rw [eventT_cnt, eventT_w]
  omega

theorem eventL_le : ∀ (xs : List EventD), cntL eventT xs ≤ 4 * (xs.length + wL eventT xs)
  | [] => by simp [cntL]
  | x :: xs => by
    have := eventT_le x
    have := eventL_le xs
    simp only [cntL, wL, List.length_cons]
    omega

theorem Sl.event {A : View} {a : Option Addr} {n c : Nat} {xs : List EventD} (h : Sl eventS A (.slice a n c) xs) {i : Nat} (hi : i < xs.length) : ∃ (ad : Addr) , a = some ad ∧ A.part (ad.add (i * 2)) 2 = some [.int .i64 (xs[i]).1, .string (xs[i]).2.1] ∧ (-9223372036854775808 ≤ (xs[i]).1 ∧ (xs[i]).1 < 9223372036854775808) ∧ (xs[i]).2.1.size ≤ 140737488355328 := by
  obtain ⟨ad, d, h1, h2, h3, _⟩ := h.at hi
  obtain ⟨rfl, hh0, hh1⟩ := eventS_open h2
  exact ⟨ad, h1, h3, hh0, hh1⟩

end Go.Proofs.Ytjojofnkgeiadaa

