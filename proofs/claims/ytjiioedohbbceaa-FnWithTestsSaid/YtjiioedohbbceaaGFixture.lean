/- The helpers of the laws for Fixture: counted, copied, compared, marked. -/
import Derived.Test.YtjiioedohbbceaaGTest
set_option maxHeartbeats 4000000
set_option synthInstance.maxHeartbeats 400000
set_option synthInstance.maxSize 4096
set_option linter.unusedSimpArgs false
set_option linter.unusedVariables false
namespace Go.Proofs.Ytjiioedohbbceaa

set_option maxRecDepth 100000

abbrev FixtureD := ByteArray × Int × List ByteArray × Bool × Unit

def fixtureS : Shape FixtureD := consS strS (consS intS (consS (slS strS) (consS boolS unitS)))

def fixtureO : OwnS FixtureD := consO strO (consO intO (consO (slO 9 strO) (consO boolO unitO)))

def fixtureT : GT FixtureD := consT strT (consT intT (consT (slT 9 strT) (consT boolT unitT)))

theorem fixtureS_open {A : View} {x : FixtureD} {d : List Value} (h : fixtureS.rel A x d) : ∃ uu2 : Value, d = [.string x.1, .int .i64 x.2.1, uu2, .bool x.2.2.2.1] ∧ x.1.size ≤ 140737488355328 ∧ (-9223372036854775808 ≤ x.2.1 ∧ x.2.1 < 9223372036854775808) ∧ Sl strS A uu2 x.2.2.1 := by
  obtain ⟨_, _, rfl, ⟨rfl, hh0⟩, ⟨_, _, rfl, ⟨rfl, hh1⟩, ⟨_, _, rfl, ⟨uu2, rfl, hh2⟩, ⟨_, _, rfl, rfl, rfl⟩⟩⟩⟩ := h
  exact ⟨uu2, rfl, hh0, hh1, hh2⟩

theorem fixtureS_mk {A : View} {x : FixtureD} {uu2 : Value} (hh0 : x.1.size ≤ 140737488355328) (hh1 : (-9223372036854775808 ≤ x.2.1 ∧ x.2.1 < 9223372036854775808)) (hh2 : Sl strS A uu2 x.2.2.1) : fixtureS.rel A x [.string x.1, .int .i64 x.2.1, uu2, .bool x.2.2.2.1] := ⟨_, _, rfl, ⟨rfl, hh0⟩, ⟨_, _, rfl, ⟨rfl, hh1⟩, ⟨_, _, rfl, ⟨_, rfl, hh2⟩, ⟨_, _, rfl, rfl, rfl⟩⟩⟩⟩

theorem fixtureO_open {A : View} {fp : List Nat} {x : FixtureD} {d : List Value} (h : fixtureO.rel A fp x d) : ∃ (ff2 : List Nat) (uu2 : Value), ff2 = fp ∧ d = [.string x.1, .int .i64 x.2.1, uu2, .bool x.2.2.2.1] ∧ x.1.size ≤ 140737488355328 ∧ (-9223372036854775808 ≤ x.2.1 ∧ x.2.1 < 9223372036854775808) ∧ OSl 9 strO A ff2 uu2 x.2.2.1 := by
  obtain ⟨_, _, _, _, rfl, rfl, ⟨rfl, rfl, hh0⟩, ⟨_, _, _, _, rfl, rfl, ⟨rfl, rfl, hh1⟩, ⟨_, _, _, _, rfl, rfl, ⟨uu2, rfl, hh2⟩, ⟨_, _, _, _, rfl, rfl, ⟨rfl, rfl⟩, ⟨rfl, rfl⟩⟩⟩⟩⟩ := h
  exact ⟨_, uu2, by simp, rfl, hh0, hh1, hh2⟩

theorem fixtureO_mk {A : View} {x : FixtureD} {ff2 : List Nat} {uu2 : Value} (hh0 : x.1.size ≤ 140737488355328) (hh1 : (-9223372036854775808 ≤ x.2.1 ∧ x.2.1 < 9223372036854775808)) (hh2 : OSl 9 strO A ff2 uu2 x.2.2.1) : fixtureO.rel A (ff2) x [.string x.1, .int .i64 x.2.1, uu2, .bool x.2.2.2.1] := ⟨[], ff2, [.string x.1], _, by simp, rfl, ⟨rfl, rfl, hh0⟩, ⟨[], ff2, [.int .i64 x.2.1], _, by simp, rfl, ⟨rfl, rfl, hh1⟩, ⟨ff2, [], [uu2], _, by simp, rfl, ⟨_, rfl, hh2⟩, ⟨[], [], [.bool x.2.2.2.1], _, by simp, rfl, ⟨rfl, rfl⟩, ⟨rfl, rfl⟩⟩⟩⟩⟩

theorem fixtureO_S {A : View} {fp : List Nat} {x : FixtureD} {d : List Value} (h : fixtureO.rel A fp x d) : fixtureS.rel A x d := fixtureO.toS h

theorem fixtureT_w (x : FixtureD) : fixtureT.w x = x.1.size + (0 + ((x.2.2.1.length + wL strT x.2.2.1) + (0 + 0))) := rfl

theorem fixtureT_cnt (x : FixtureD) : fixtureT.cnt x = 1 + (1 + (cntL strT x.2.2.1 + (1 + 0))) := rfl

theorem fixtureT_le (x : FixtureD) : fixtureT.cnt x ≤ 4 + 4 * fixtureT.w x := by
  rw [fixtureT_cnt, fixtureT_w]
  have e2 := cntL_str_le x.2.2.1
  omega

theorem fixtureL_le : ∀ (xs : List FixtureD), cntL fixtureT xs ≤ 4 * (xs.length + wL fixtureT xs)
  | [] => by simp [cntL]
  | x :: xs => by
    have := fixtureT_le x
    have := fixtureL_le xs
    simp only [cntL, wL, List.length_cons]
    omega

theorem Sl.fixture {A : View} {a : Option Addr} {n c : Nat} {xs : List FixtureD} (h : Sl fixtureS A (.slice a n c) xs) {i : Nat} (hi : i < xs.length) : ∃ (ad : Addr) (uu2 : Value), a = some ad ∧ A.part (ad.add (i * 4)) 4 = some [.string (xs[i]).1, .int .i64 (xs[i]).2.1, uu2, .bool (xs[i]).2.2.2.1] ∧ (xs[i]).1.size ≤ 140737488355328 ∧ (-9223372036854775808 ≤ (xs[i]).2.1 ∧ (xs[i]).2.1 < 9223372036854775808) ∧ Sl strS A uu2 (xs[i]).2.2.1 := by
  obtain ⟨ad, d, h1, h2, h3, _⟩ := h.at hi
  obtain ⟨uu2, rfl, hh0, hh1, hh2⟩ := fixtureS_open h2
  exact ⟨ad, uu2, h1, h3, hh0, hh1, hh2⟩

end Go.Proofs.Ytjiioedohbbceaa

