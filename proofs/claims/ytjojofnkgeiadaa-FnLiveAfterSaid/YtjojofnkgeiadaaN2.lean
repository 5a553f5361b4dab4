/- What a fixture of a valid suite needs, in order: both ways. -/
import Derived.Test.YtjojofnkgeiadaaV5
set_option maxHeartbeats 4000000
set_option synthInstance.maxHeartbeats 400000
set_option synthInstance.maxSize 4096
set_option linter.unusedSimpArgs false
set_option linter.unusedVariables false
namespace Go.Proofs.Ytjojofnkgeiadaa

section
variable {fs : List FixtureD} {a b : ByteArray}

/-- One more name, once. -/
def addO (l : List ByteArray) (b : ByteArray) : List ByteArray := if b ∈ l then l else l ++ [b]
/-- The program's way, with fuel. -/
def nOf (fs : List FixtureD) : Nat → ByteArray → List ByteArray → List ByteArray
  | 0, _, l => l
  | n + 1, a, l => (needsAt fs a).foldl (fun l b => addO (nOf fs n b l) b) l
/-- With each of its names a list has what that needs. -/
def Shut (fs : List FixtureD) (l : List ByteArray) : Prop := ∀ x, x ∈ l → ∀ y, y ∈ needsAt fs x → y ∈ l

theorem nOf_in (n : Nat) : ∀ (a : ByteArray) (l : List ByteArray), (∀ y, y ∈ needsAt fs a → y ∈ l) → Shut fs l → nOf fs n a l = l := by
  induction n with
  | zero => intro a l _ _; rfl
  | succ n ih =>
    intro a l ha hl
    unfold nOf
    have key : ∀ ns : List ByteArray, (∀ y, y ∈ ns → y ∈ l) → ns.foldl (fun l b => addO (nOf fs n b l) b) l = l := by
      intro ns
      induction ns with
      | nil => intro _; rfl
      | cons m ns ihn =>
        intro hs
        have hm := hs m (List.mem_cons_self ..)
        rw [List.foldl_cons, ih m l (hl m hm) hl, addO, if_pos hm]
        exact ihn fun y hy => hs y (List.mem_cons_of_mem _ hy)
    exact key _ ha
/-- All that is needed is there, and nothing needs itself. -/
structure Sound (fs : List FixtureD) : Prop where
  all : ∀ a b, b ∈ needsAt fs a → hasF fs b
  no : ∀ a, ¬ Rch fs a a

theorem nOf_rchF (h : Sound fs) (n : Nat) : ∀ (a : ByteArray) (op l : List ByteArray), freeN fs op ≤ n → hasF fs a → (∀ o, o ∈ op → Rch fs o a) → Shut fs l → addO (nOf fs n a l) a = rchF fs n a op l ∧ Shut fs (rchF fs n a op l) ∧ (a ∉ l → a ∉ nOf fs n a l) := by
  induction n with
  | zero =>
    intro a op l hn ha hop hl
    have := freeN_pos (op := op) ha fun hm => h.no a (hop a hm)
    omega
  | succ n ih =>
    intro a op l hn ha hop hl
    have hao : a ∉ op := fun hm => h.no a (hop a hm)
    by_cases hal : a ∈ l
    · rw [nOf_in (n + 1) a l (hl a hal) hl, rchF_stop (n + 1) fun hc => hc.2.1 hal, addO, if_pos hal]
      exact ⟨rfl, hl, fun hn => absurd hal hn⟩
    · have hn' : freeN fs (op ++ [a]) ≤ n := by have := freeN_lt ha hao; omega
      have key : ∀ ns : List ByteArray, (∀ y, y ∈ ns → y ∈ needsAt fs a) → ∀ l, Shut fs l → a ∉ l → ns.foldl (fun l b => addO (nOf fs n b l) b) l = ns.foldl (fun out b => rchF fs n b (op ++ [a]) out) l ∧ Shut fs (ns.foldl (fun out b => rchF fs n b (op ++ [a]) out) l) ∧ (∀ y, y ∈ ns → y ∈ ns.foldl (fun out b => rchF fs n b (op ++ [a]) out) l) ∧ (∀ y, y ∈ l → y ∈ ns.foldl (fun out b => rchF fs n b (op ++ [a]) out) l) ∧ a ∉ ns.foldl (fun out b => rchF fs n b (op ++ [a]) out) l := by
        intro ns
        induction ns with
        | nil => intro _ l hl hal; exact ⟨rfl, hl, (by intro y hy; cases hy), fun _ h => h, hal⟩
        | cons m ns ihn =>
          intro hs l hl hal
          have hm := hs m (List.mem_cons_self ..)
          have hF := h.all a m hm
          have h1 := ih m (op ++ [a]) l hn' hF (fun o ho => by
            rcases List.mem_append.1 ho with ho | ho
            · exact .more (hop o ho) hm
            · rw [List.mem_singleton.1 ho]; exact .one hm) hl
          have hal' : a ∉ rchF fs n m (op ++ [a]) l := fun hq => hal (rchF_open n m (op ++ [a]) l a (List.mem_append_right _ (List.mem_singleton.2 rfl)) hq)
          have h2 := ihn (fun y hy => hs y (List.mem_cons_of_mem _ hy)) _ h1.2.1 hal'
          rw [List.foldl_cons, List.foldl_cons, h1.1]
          refine ⟨h2.1, h2.2.1, fun y hy => ?_, fun y hy => h2.2.2.2.1 y ((rchF_sub n m (op ++ [a]) l).1 y hy), h2.2.2.2.2⟩
          rcases List.mem_cons.1 hy with rfl | hy
          · refine h2.2.2.2.1 _ ?_
            rw [← h1.1, addO]
            split
            · assumption
            · exact List.mem_append_right _ (List.mem_singleton.2 rfl)
          · exact h2.2.2.1 y hy
      have hk := key (needsAt fs a) (fun _ h => h) l hl hal
      have hrw : rchF fs (n + 1) a op l = (needsAt fs a).foldl (fun o b => rchF fs n b (op ++ [a]) o) l ++ [a] := by
        rw [rchF, if_pos ⟨ha, hal, hao⟩]
      have hno : nOf fs (n + 1) a l = (needsAt fs a).foldl (fun o b => rchF fs n b (op ++ [a]) o) l := by
        rw [nOf, hk.1]
      rw [hrw, hno, addO, if_neg hk.2.2.2.2]
      refine ⟨rfl, fun x hx y hy => ?_, fun _ => hk.2.2.2.2⟩
      rcases List.mem_append.1 hx with hx | hx
      · exact List.mem_append_left _ (hk.2.1 x hx y hy)
      · rw [List.mem_singleton.1 hx] at hy
        exact List.mem_append_left _ (hk.2.2.1 y hy)
/-- Both ways give the same. -/
theorem nOf_needsR (h : Sound fs) (ha : hasF fs a) : nOf fs (fuel fs) a [] = needsR fs a := by
  have h1 := nOf_rchF h (fuel fs) a [] [] (fuel_ok fs) ha (by intro o ho; cases ho) (by intro x hx; cases hx)
  rw [needsR, ← h1.1, addO, if_neg (h1.2.2 (by intro hx; cases hx)), List.dropLast_concat]
/-- What is found on the way is names. -/
theorem nOf_names (h : Sound fs) {n : Nat} {op l : List ByteArray} (hn : freeN fs op ≤ n) (ha : hasF fs a) (hop : ∀ o, o ∈ op → Rch fs o a) (hl : Shut fs l) (hN : Names fs l) : Names fs (nOf fs n a l) ∧ Names fs (addO (nOf fs n a l) a) ∧ Shut fs (addO (nOf fs n a l) a) := by
  have h1 := nOf_rchF h n a op l hn ha hop hl
  have h2 := rchF_names (fs := fs) n a op l hN
  rw [← h1.1] at h2
  refine ⟨?_, h2, by rw [h1.1]; exact h1.2.1⟩
  unfold addO at h2
  split at h2
  · exact h2
  · exact ⟨(List.nodup_append.1 h2.1).1, fun x hx => h2.2 x (List.mem_append_left _ hx)⟩
end

end Go.Proofs.Ytjojofnkgeiadaa

