/- The helpers of the laws for numbers and texts: copied, compared, counted, marked. -/
import Derived.Test.YtbbhhdcimmofoaaFw11
import Derived.Test.YtbbhhdcimmofoaaC2
set_option maxHeartbeats 4000000
set_option synthInstance.maxHeartbeats 400000
set_option synthInstance.maxSize 4096
set_option linter.unusedSimpArgs false
set_option linter.unusedVariables false
namespace Go.Proofs.Ytbbhhdcimmofoaa

set_option maxRecDepth 100000

theorem Elems.map {α : Type} {S : Shape α} {A : View} {g : α → Value} (hg : ∀ A x cs, S.rel A x cs → cs = [g x]) {xs : List α} {cs : List Value} (h : Elems S A xs cs) : cs = xs.map g := by
  induction h with
  | nil => rfl
  | cons h1 _ ih => rw [hg _ _ _ h1, ih]; rfl

theorem Sl.elems {α : Type} {S : Shape α} {A : View} {g : α → Value} (hg : ∀ A x cs, S.rel A x cs → cs = [g x]) {v : Value} {xs : List α} (h : Sl S A v xs) : Elems S A xs (xs.map g) := by
  obtain ⟨_, a, c, _, _, h3⟩ := h
  cases xs with
  | nil => exact .nil
  | cons x xs =>
    obtain ⟨ad, cs, _, _, he⟩ := h3 (by simp)
    have := he.map hg
    subst this
    exact he

theorem OElems.scal {α : Type} {S : Shape α} {hS : ∀ {A B x cs}, S.rel A x cs → S.rel B x cs} {A B : View} {xs : List α} {cs : List Value} (h : Elems S A xs cs) : OElems (scalO S hS) B [] xs cs := by
  induction h with
  | nil => exact .nil
  | cons h1 _ ih =>
    have := OElems.cons (O := scalO S hS) (A := B) (f := []) (fp := []) ⟨rfl, hS h1⟩ ih
    exact this

theorem int_map (A : View) (x : Int) (cs : List Value) (h : intS.rel A x cs) : cs = [.int .i64 x] := h.1
theorem str_map (A : View) (x : ByteArray) (cs : List Value) (h : strS.rel A x cs) : cs = [.string x] := h.1

/-- The digits of a mark are in E2; texts weigh their bytes. -/
def wStr : List ByteArray → Nat
  | [] => 0
  | x :: xs => x.size + wStr xs

theorem wStr_append (xs ys : List ByteArray) : wStr (xs ++ ys) = wStr xs + wStr ys := by
  induction xs with
  | nil => simp [wStr]
  | cons x xs ih => simp only [List.cons_append, wStr, ih, Nat.add_assoc]

theorem wStr_take (xs : List ByteArray) {i : Nat} (h : i < xs.length) : wStr (xs.take (i + 1)) = wStr (xs.take i) + (xs[i]).size := by
  rw [List.take_succ_eq_append_getElem h, wStr_append]; simp [wStr]

end Go.Proofs.Ytbbhhdcimmofoaa

