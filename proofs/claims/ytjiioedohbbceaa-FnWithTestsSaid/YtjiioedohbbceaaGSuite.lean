/- The helpers of the laws for Suite: counted, copied, compared, marked. -/
import Derived.Test.YtjiioedohbbceaaGFixture
set_option maxHeartbeats 4000000
set_option synthInstance.maxHeartbeats 400000
set_option synthInstance.maxSize 4096
set_option linter.unusedSimpArgs false
set_option linter.unusedVariables false
namespace Go.Proofs.Ytjiioedohbbceaa

set_option maxRecDepth 100000

abbrev SuiteD := List FixtureD × List TestD × Unit

def suiteS : Shape SuiteD := consS (slS fixtureS) (consS (slS testS) unitS)

def suiteO : OwnS SuiteD := consO (slO 33 fixtureO) (consO (slO 43 testO) unitO)

def suiteT : GT SuiteD := consT (slT 33 fixtureT) (consT (slT 43 testT) unitT)

theorem suiteS_open {A : View} {x : SuiteD} {d : List Value} (h : suiteS.rel A x d) : ∃ uu0 uu1 : Value, d = [uu0, uu1] ∧ Sl fixtureS A uu0 x.1 ∧ Sl testS A uu1 x.2.1 := by
  obtain ⟨_, _, rfl, ⟨uu0, rfl, hh0⟩, ⟨_, _, rfl, ⟨uu1, rfl, hh1⟩, rfl⟩⟩ := h
  exact ⟨uu0, uu1, rfl, hh0, hh1⟩

theorem suiteS_mk {A : View} {x : SuiteD} {uu0 uu1 : Value} (hh0 : Sl fixtureS A uu0 x.1) (hh1 : Sl testS A uu1 x.2.1) : suiteS.rel A x [uu0, uu1] := ⟨_, _, rfl, ⟨_, rfl, hh0⟩, ⟨_, _, rfl, ⟨_, rfl, hh1⟩, rfl⟩⟩

theorem suiteO_open {A : View} {fp : List Nat} {x : SuiteD} {d : List Value} (h : suiteO.rel A fp x d) : ∃ (ff0 : List Nat) (uu0 : Value) (ff1 : List Nat) (uu1 : Value), ff0 ++ (ff1) = fp ∧ d = [uu0, uu1] ∧ OSl 33 fixtureO A ff0 uu0 x.1 ∧ OSl 43 testO A ff1 uu1 x.2.1 := by
  obtain ⟨_, _, _, _, rfl, rfl, ⟨uu0, rfl, hh0⟩, ⟨_, _, _, _, rfl, rfl, ⟨uu1, rfl, hh1⟩, ⟨rfl, rfl⟩⟩⟩ := h
  exact ⟨_, uu0, _, uu1, by simp, rfl, hh0, hh1⟩

theorem suiteO_mk {A : View} {x : SuiteD} {ff0 ff1 : List Nat} {uu0 uu1 : Value} (hh0 : OSl 33 fixtureO A ff0 uu0 x.1) (hh1 : OSl 43 testO A ff1 uu1 x.2.1) : suiteO.rel A (ff0 ++ (ff1)) x [uu0, uu1] := ⟨ff0, ff1, [uu0], _, by simp, rfl, ⟨_, rfl, hh0⟩, ⟨ff1, [], [uu1], _, by simp, rfl, ⟨_, rfl, hh1⟩, ⟨rfl, rfl⟩⟩⟩

theorem suiteO_S {A : View} {fp : List Nat} {x : SuiteD} {d : List Value} (h : suiteO.rel A fp x d) : suiteS.rel A x d := suiteO.toS h

theorem suiteT_w (x : SuiteD) : suiteT.w x = (x.1.length + wL fixtureT x.1) + ((x.2.1.length + wL testT x.2.1) + 0) := rfl

theorem suiteT_cnt (x : SuiteD) : suiteT.cnt x = cntL fixtureT x.1 + (cntL testT x.2.1 + 0) := rfl

theorem suiteT_le (x : SuiteD) : suiteT.cnt x ≤ 4 + 4 * suiteT.w x := by
  rw [suiteT_cnt, suiteT_w]
  have e0 := fixtureL_le x.1
  have e1 := testL_le x.2.1
  omega

end Go.Proofs.Ytjiioedohbbceaa

