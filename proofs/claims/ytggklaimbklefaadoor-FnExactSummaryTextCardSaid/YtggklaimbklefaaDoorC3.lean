/- Function values that tell whether something holds; small contracts. -/
import Derived.Test.YtggklaimbklefaaDoorE2
import Derived.Test.YtggklaimbklefaaDoorFw12
set_option maxHeartbeats 4000000
set_option synthInstance.maxHeartbeats 400000
set_option synthInstance.maxSize 4096
set_option linter.unusedSimpArgs false
set_option linter.unusedVariables false
namespace Go.Proofs.YtggklaimbklefaaDoor

set_option maxRecDepth 100000

/-- A function value that tells of data whether something holds, and changes nothing that is known. -/
def Tells {α : Type} (A : View) (f : Value) (rel : View → Value → α → Prop) (p : α → Bool) : Prop := ∃ g first cap, f = .func (.func g) first cap ∧ callable Tryd.prog g = true ∧ ∀ B, Ext A B → ∀ v x, rel B v x → ACalls Tryd.prog g (first ++ #[v] ++ cap) B fun r B' => r = .bool (p x) ∧ Ext B B'

/-- A struct as a value. -/
def agR {α : Type} (S : Shape α) : View → Value → α → Prop := fun B v x => ∃ d, v = .agg d.toArray ∧ S.rel B x d
def slR {α : Type} (S : Shape α) : View → Value → List α → Prop := fun B v x => Sl S B v x

/-- A slice of one's own that came of a call. -/
def NewSl {α : Type} (e : TypeId) (O : OwnS α) (A : View) (r : Value) (A' : View) (xs : List α) : Prop := ∃ fp, Led A [osl e O fp r xs] A'
theorem NewSl.out {α : Type} {e : TypeId} {O : OwnS α} {A A' : View} {r : Value} {xs : List α} (h : NewSl e O A r A' xs) : ∃ (f0 : List Nat) (u0 : Value), r = u0 ∧ Led A [osl e O f0 u0 xs] A' := let ⟨fp, h⟩ := h; ⟨fp, r, rfl, h⟩
theorem NewSl.nil {α : Type} {e : TypeId} {O : OwnS α} {A A' : View} (h : Ext A A') : NewSl e O A (.slice none 0 0) A' ([] : List α) := ⟨[], (Led.nilO e O (Led.nil A')).base h⟩
theorem NewSl.of {α : Type} {e : TypeId} {O : OwnS α} {A A' : View} {r : Value} {xs : List α} {L : List It} {fp : List Nat} (h : Led A L A') {i : Nat} (hi : L[i]? = some (osl e O fp r xs)) : NewSl e O A r A' xs :=
  ⟨fp, (h.sub (M := [osl e O fp r xs]) (by
    have hlt := (List.getElem?_eq_some_iff.1 hi).1
    have := (List.getElem?_eq_some_iff.1 hi).2
    rw [← this]
    exact List.singleton_sublist.2 (List.getElem_mem hlt)))⟩
theorem NewSl.ext {α : Type} {e : TypeId} {O : OwnS α} {A A' : View} {r : Value} {xs : List α} (h : NewSl e O A r A' xs) : Ext A A' := let ⟨_, h⟩ := h; h.ext
theorem NewSl.sl {α : Type} {e : TypeId} {O : OwnS α} {A A' : View} {r : Value} {xs : List α} (h : NewSl e O A r A' xs) : Sl O.S A' r xs := let ⟨_, h⟩ := h; OSl.toS (h.at (i := 0) rfl)
theorem NewSl.base {α : Type} {e : TypeId} {O : OwnS α} {A B A' : View} {r : Value} {xs : List α} (h : NewSl e O B r A' xs) (he : Ext A B) : NewSl e O A r A' xs := let ⟨fp, h⟩ := h; ⟨fp, h.base he⟩

theorem idxI_lt {α : Type} {p : α → Bool} {xs : List α} (h : 0 ≤ idxI p xs) : ∃ i : Nat, idxI p xs = i ∧ ∃ hi : i < xs.length, p xs[i] = true ∧ xs.find? p = some xs[i] := by
  rw [idxI_ge] at h
  have hlt := List.findIdx_lt_length.2 (List.any_eq_true.1 h)
  refine ⟨xs.findIdx p, by unfold idxI; rw [if_pos h], hlt, List.findIdx_getElem (w := hlt), ?_⟩
  rw [List.find?_eq_some_iff_getElem]
  exact ⟨List.findIdx_getElem (w := hlt), _, hlt, rfl, fun j hj => by simpa using List.not_of_lt_findIdx hj⟩
theorem idxI_no {α : Type} {p : α → Bool} {xs : List α} (h : ¬ 0 ≤ idxI p xs) : xs.any p = false ∧ idxI p xs = -1 ∧ xs.find? p = none := by
  rw [idxI_ge] at h
  have h0 : xs.any p = false := by simpa using h
  refine ⟨h0, by unfold idxI; rw [if_neg h], ?_⟩
  rw [List.find?_eq_none]
  intro x hx hp
  exact h (List.any_eq_true.2 ⟨x, hx, hp⟩)

theorem Led.perm {A V : View} {L M : List It} (h : Led A L V) (hp : M.Perm L) : Led A M V :=
  h.pick M (fun it hit => hp.mem_iff.1 hit) ((List.Perm.nodup_iff (hp.flatMap_right It.fp)).2 h.nd)

/-- One text stands before another one. -/
def sLt (a b : ByteArray) : Bool := Op.bytesLess a.toList b.toList

section
variable {P : Program} {A : View} {K : Value → View → Prop}
theorem abin_lts (t : TypeId) (x y : Operand) (a b : ByteArray) : abin P .lss t x y (.string a) (.string b) A K = K (.bool (sLt a b)) A := rfl
theorem abin_les (t : TypeId) (x y : Operand) (a b : ByteArray) : abin P .leq t x y (.string a) (.string b) A K = K (.bool (sLt a b || decide (a = b))) A := by
  rw [← bytes_eq]; rfl
end

end Go.Proofs.YtggklaimbklefaaDoor

