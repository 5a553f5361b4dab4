/- The helpers of the laws for World: counted, copied, compared, marked. -/
import Derived.Test.YtjiioedohbbceaaGFlaky
set_option maxHeartbeats 4000000
set_option synthInstance.maxHeartbeats 400000
set_option synthInstance.maxSize 4096
set_option linter.unusedSimpArgs false
set_option linter.unusedVariables false
namespace Go.Proofs.Ytjiioedohbbceaa

set_option maxRecDepth 100000

abbrev WorldD := List ByteArray × List ByteArray × List ByteArray × List FlakyD × Unit

def worldS : Shape WorldD := consS (slS strS) (consS (slS strS) (consS (slS strS) (consS (slS flakyS) unitS)))

def worldO : OwnS WorldD := consO (slO 9 strO) (consO (slO 9 strO) (consO (slO 9 strO) (consO (slO 95 flakyO) unitO)))

def worldT : GT WorldD := consT (slT 9 strT) (consT (slT 9 strT) (consT (slT 9 strT) (consT (slT 95 flakyT) unitT)))

theorem worldS_open {A : View} {x : WorldD} {d : List Value} (h : worldS.rel A x d) : ∃ uu0 uu1 uu2 uu3 : Value, d = [uu0, uu1, uu2, uu3] ∧ Sl strS A uu0 x.1 ∧ Sl strS A uu1 x.2.1 ∧ Sl strS A uu2 x.2.2.1 ∧ Sl flakyS A uu3 x.2.2.2.1 := by
  obtain ⟨_, _, rfl, ⟨uu0, rfl, hh0⟩, ⟨_, _, rfl, ⟨uu1, rfl, hh1⟩, ⟨_, _, rfl, ⟨uu2, rfl, hh2⟩, ⟨_, _, rfl, ⟨uu3, rfl, hh3⟩, rfl⟩⟩⟩⟩ := h
  exact ⟨uu0, uu1, uu2, uu3, rfl, hh0, hh1, hh2, hh3⟩

theorem worldS_mk {A : View} {x : WorldD} {uu0 uu1 uu2 uu3 : Value} (hh0 : Sl strS A uu0 x.1) (hh1 : Sl strS A uu1 x.2.1) (hh2 : Sl strS A uu2 x.2.2.1) (hh3 : Sl flakyS A uu3 x.2.2.2.1) : worldS.rel A x [uu0, uu1, uu2, uu3] := ⟨_, _, rfl, ⟨_, rfl, hh0⟩, ⟨_, _, rfl, ⟨_, rfl, hh1⟩, ⟨_, _, rfl, ⟨_, rfl, hh2⟩, ⟨_, _, rfl, ⟨_, rfl, hh3⟩, rfl⟩⟩⟩⟩

theorem worldO_open {A : View} {fp : List Nat} {x : WorldD} {d : List Value} (h : worldO.rel A fp x d) : ∃ (ff0 : List Nat) (uu0 : Value) (ff1 : List Nat) (uu1 : Value) (ff2 : List Nat) (uu2 : Value) (ff3 : List Nat) (uu3 : Value), ff0 ++ (ff1 ++ (ff2 ++ (ff3))) = fp ∧ d = [uu0, uu1, uu2, uu3] ∧ OSl 9 strO A ff0 uu0 x.1 ∧ OSl 9 strO A ff1 uu1 x.2.1 ∧ OSl 9 strO A ff2 uu2 x.2.2.1 ∧ OSl 95 flakyO A ff3 uu3 x.2.2.2.1 := by
  obtain ⟨_, _, _, _, rfl, rfl, ⟨uu0, rfl, hh0⟩, ⟨_, _, _, _, rfl, rfl, ⟨uu1, rfl, hh1⟩, ⟨_, _, _, _, rfl, rfl, ⟨uu2, rfl, hh2⟩, ⟨_, _, _, _, rfl, rfl, ⟨uu3, rfl, hh3⟩, ⟨rfl, rfl⟩⟩⟩⟩⟩ := h
  exact ⟨_, uu0, _, uu1, _, uu2, _, uu3, by simp, rfl, hh0, hh1, hh2, hh3⟩

theorem worldO_mk {A : View} {x : WorldD} {ff0 ff1 ff2 ff3 : List Nat} {uu0 uu1 uu2 uu3 : Value} (hh0 : OSl 9 strO A ff0 uu0 x.1) (hh1 : OSl 9 strO A ff1 uu1 x.2.1) (hh2 : OSl 9 strO A ff2 uu2 x.2.2.1) (hh3 : OSl 95 flakyO A ff3 uu3 x.2.2.2.1) : worldO.rel A (ff0 ++ (ff1 ++ (ff2 ++ (ff3)))) x [uu0, uu1, uu2, uu3] := ⟨ff0, ff1 ++ (ff2 ++ ff3), [uu0], _, by simp, rfl, ⟨_, rfl, hh0⟩, ⟨ff1, ff2 ++ ff3, [uu1], _, by simp, rfl, ⟨_, rfl, hh1⟩, ⟨ff2, ff3, [uu2], _, by simp, rfl, ⟨_, rfl, hh2⟩, ⟨ff3, [], [uu3], _, by simp, rfl, ⟨_, rfl, hh3⟩, ⟨rfl, rfl⟩⟩⟩⟩⟩

theorem worldO_S {A : View} {fp : List Nat} {x : WorldD} {d : List Value} (h : worldO.rel A fp x d) : worldS.rel A x d := worldO.toS h

theorem worldT_w (x : WorldD) : worldT.w x = (x.1.length + wL strT x.1) + ((x.2.1.length + wL strT x.2.1) + ((x.2.2.1.length + wL strT x.2.2.1) + ((x.2.2.2.1.length + wL flakyT x.2.2.2.1) + 0))) := rfl

theorem worldT_cnt (x : WorldD) : worldT.cnt x = cntL strT x.1 + (cntL strT x.2.1 + (cntL strT x.2.2.1 + (cntL flakyT x.2.2.2.1 + 0))) := rfl

theorem worldT_le (x : WorldD) : worldT.cnt x ≤ 4 + 4 * worldT.w x := by
  rw [worldT_cnt, worldT_w]
  have e0 := cntL_str_le x.1
  have e1 := cntL_str_le x.2.1
  have e2 := cntL_str_le x.2.2.1
  have e3 := flakyL_le x.2.2.2.1
  omega

end Go.Proofs.Ytjiioedohbbceaa

