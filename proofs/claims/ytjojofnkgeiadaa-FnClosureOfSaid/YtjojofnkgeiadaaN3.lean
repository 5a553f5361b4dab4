/- What is needed stands ahead. -/
import Derived.Test.YtjojofnkgeiadaaW0
set_option maxHeartbeats 4000000
set_option synthInstance.maxHeartbeats 400000
set_option synthInstance.maxSize 4096
set_option linter.unusedSimpArgs false
set_option linter.unusedVariables false
namespace Go.Proofs.Ytjojofnkgeiadaa

section
variable {fs : List FixtureD} {a b : ByteArray}

/-- Each stands behind all that it needs. -/
def Ord (fs : List FixtureD) (l : List ByteArray) : Prop := ∀ p x s, l = p ++ x :: s → ∀ y, y ∈ needsAt fs x → y ∈ p
theorem Ord.snoc {l : List ByteArray} (h : Ord fs l) (ha : ∀ y, y ∈ needsAt fs a → y ∈ l) : Ord fs (l ++ [a]) := by
  intro p x s he y hy
  rcases List.eq_nil_or_concat s with rfl | ⟨s', z, rfl⟩
  · have h1 : l = p ∧ a = x := by
      have := List.append_inj' he rfl
      exact ⟨this.1, by simpa using this.2⟩
    rw [← h1.1]
    rw [← h1.2] at hy
    exact ha y hy
  · have he2 : l ++ [a] = (p ++ x :: s') ++ [z] := by rw [he]; simp
    have h1 := (List.append_inj' he2 rfl).1
    exact h p x s' h1 y hy

theorem rchF_ord (h : Sound fs) (n : Nat) : ∀ (a : ByteArray) (op l : List ByteArray), freeN fs op ≤ n → hasF fs a → (∀ o, o ∈ op → Rch fs o a) → Shut fs l → Ord fs l → Ord fs (rchF fs n a op l) := by
  induction n with
  | zero => intro a op l _ _ _ _ ho; exact ho
  | succ n ih =>
    intro a op l hn ha hop hl ho
    have hao : a ∉ op := fun hm => h.no a (hop a hm)
    by_cases hal : a ∈ l
    · rw [rchF_stop (n + 1) fun hc => hc.2.1 hal]
      exact ho
    · have hn' : freeN fs (op ++ [a]) ≤ n := by have := freeN_lt ha hao; omega
      have hrw : rchF fs (n + 1) a op l = (needsAt fs a).foldl (fun o b => rchF fs n b (op ++ [a]) o) l ++ [a] := by
        rw [rchF, if_pos ⟨ha, hal, hao⟩]
      have key : ∀ ns : List ByteArray, (∀ y, y ∈ ns → y ∈ needsAt fs a) → ∀ l, Shut fs l → Ord fs l → Shut fs (ns.foldl (fun out b => rchF fs n b (op ++ [a]) out) l) ∧ Ord fs (ns.foldl (fun out b => rchF fs n b (op ++ [a]) out) l) ∧ (∀ y, y ∈ ns → y ∈ ns.foldl (fun out b => rchF fs n b (op ++ [a]) out) l) ∧ (∀ y, y ∈ l → y ∈ ns.foldl (fun out b => rchF fs n b (op ++ [a]) out) l) := by
        intro ns
        induction ns with
        | nil => intro _ l hl ho; exact ⟨hl, ho, (by intro y hy; cases hy), fun _ h => h⟩
        | cons m ns ihn =>
          intro hs l hl ho
          have hm := hs m (List.mem_cons_self ..)
          have hF := h.all a m hm
          have hch : ∀ o, o ∈ op ++ [a] → Rch fs o m := fun o ho => by
            rcases List.mem_append.1 ho with ho | ho
            · exact .more (hop o ho) hm
            · rw [List.mem_singleton.1 ho]; exact .one hm
          have h1 := nOf_rchF h n m (op ++ [a]) l hn' hF hch hl
          have h3 := ih m (op ++ [a]) l hn' hF hch hl ho
          have h2 := ihn (fun y hy => hs y (List.mem_cons_of_mem _ hy)) _ h1.2.1 h3
          rw [List.foldl_cons]
          refine ⟨h2.1, h2.2.1, fun y hy => ?_, fun y hy => h2.2.2.2 y ((rchF_sub n m (op ++ [a]) l).1 y hy)⟩
          rcases List.mem_cons.1 hy with rfl | hy
          · refine h2.2.2.2 _ ?_
            rw [← h1.1, addO]
            split
            · assumption
            · exact List.mem_append_right _ (List.mem_singleton.2 rfl)
          · exact h2.2.2.1 y hy
      have hk := key (needsAt fs a) (fun _ h => h) l hl ho
      rw [hrw]
      exact hk.2.1.snoc hk.2.2.1

theorem needsR_ord (h : Sound fs) (ha : hasF fs a) : Ord fs (needsR fs a) ∧ (∀ y, y ∈ needsAt fs a → y ∈ needsR fs a) ∧ a ∉ needsR fs a ∧ (∀ x, x ∈ needsR fs a → Rch fs a x ∧ hasF fs x) := by
  have h1 := rchF_ord h (fuel fs) a [] [] (fuel_ok fs) ha (by intro o ho; cases ho) (by intro x hx; cases hx) (by intro p x s he; simp at he)
  have h2 := rchF_last ha
  rw [← h2] at h1
  have hN := rchF_names (fs := fs) (fuel fs) a [] [] ⟨List.nodup_nil, (by intro x hx; cases hx)⟩
  rw [← h2] at hN
  have hna : a ∉ needsR fs a := fun hm => by
    have := (List.nodup_append.1 hN.1).2.2 a hm a (List.mem_singleton.2 rfl)
    exact this rfl
  refine ⟨fun p x s he => h1 p x (s ++ [a]) (by rw [he]; simp), fun y hy => h1 (needsR fs a) a [] rfl y hy, hna, fun x hx => ?_⟩
  have h3 := (rchF_all (fuel_ok fs) ha x).1 (by rw [← h2]; exact List.mem_append_left _ hx)
  refine ⟨h3.1.resolve_left fun e => by subst e; exact hna hx, h3.2⟩

/-- What is needed has no lesser scope. -/
theorem scope_rch {x : SuiteD} (hv : validB x = true) {a b : ByteArray} (h : Rch x.1 a b) : scopeAt x.1 a ≤ scopeAt x.1 b := by
  have hp := (validB_parts hv).2
  have step : ∀ a b, b ∈ needsAt x.1 a → scopeAt x.1 a ≤ scopeAt x.1 b := fun a b hb => by
    obtain ⟨i, _, hi, hnd, hsc, hnm⟩ := scope_idx (hasF_idx.1 (hasF_of hb))
    rw [hnd] at hb
    rw [hsc]
    exact ((prFix_nil hp (List.getElem_mem hi)).1 b hb).2
  induction h with
  | one h => exact step _ _ h
  | more _ h ih => exact Int.le_trans ih (step _ _ h)
end

end Go.Proofs.Ytjojofnkgeiadaa

