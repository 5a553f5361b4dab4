/- What fixtures need, directly and by others. -/
import Derived.Test.YtjojofnkgeiadaaV3
set_option maxHeartbeats 4000000
set_option synthInstance.maxHeartbeats 400000
set_option synthInstance.maxSize 4096
set_option linter.unusedSimpArgs false
set_option linter.unusedVariables false
namespace Go.Proofs.Ytjojofnkgeiadaa

section
variable {fs : List FixtureD} {a b c : ByteArray}

/-- What a fixture of a name needs itself. -/
def needsAt (fs : List FixtureD) (a : ByteArray) : List ByteArray := ((fs.find? (isF a)).map (·.2.2.1)).getD []
/-- One fixture needs another one, in one or more steps. -/
inductive Rch (fs : List FixtureD) (a : ByteArray) : ByteArray → Prop where
  | one {b : ByteArray} : b ∈ needsAt fs a → Rch fs a b
  | more {b c : ByteArray} : Rch fs a b → c ∈ needsAt fs b → Rch fs a c

theorem Rch.trans (h : Rch fs a b) (h' : Rch fs b c) : Rch fs a c := by
  induction h' with
  | one h1 => exact .more h h1
  | more _ h1 ih => exact .more ih h1
/-- There is a fixture of a name. -/
def hasF (fs : List FixtureD) (a : ByteArray) : Prop := a ∈ fs.map (·.1)
instance : Decidable (hasF fs a) := inferInstanceAs (Decidable (a ∈ fs.map (·.1)))
theorem needsAt_no (h : ¬ hasF fs a) : needsAt fs a = [] := by
  unfold needsAt
  rw [List.find?_eq_none.2 ?_]
  · rfl
  · intro f hf hq
    exact h (List.mem_map.2 ⟨f, hf, of_decide_eq_true hq⟩)
theorem hasF_of (h : b ∈ needsAt fs a) : hasF fs a := Classical.byContradiction fun hn => by
  rw [needsAt_no hn] at h
  cases h

/-! ### a list that is closed -/

/-- What is added of some needs. -/
def addN (r : List ByteArray) (ns : List ByteArray) : List ByteArray := ns.foldl (fun r n => if n ∈ r then r else r ++ [n]) r
theorem addN_cons (r : List ByteArray) (n : ByteArray) (ns : List ByteArray) : addN r (n :: ns) = addN (if n ∈ r then r else r ++ [n]) ns := rfl
theorem addN_take {r ns : List ByteArray} {i : Nat} (h : i < ns.length) : addN r (ns.take (i + 1)) = if ns[i] ∈ addN r (ns.take i) then addN r (ns.take i) else addN r (ns.take i) ++ [ns[i]] := by
  unfold addN
  rw [List.take_succ_eq_append_getElem h, List.foldl_append]; rfl
theorem addN_mem {ns : List ByteArray} : ∀ {r : List ByteArray} {y : ByteArray}, y ∈ addN r ns ↔ y ∈ r ∨ y ∈ ns := by
  induction ns with
  | nil => intro r y; simp [addN]
  | cons n ns ih =>
    intro r y
    rw [addN_cons, ih, List.mem_cons]
    split
    · rename_i hn
      constructor
      · rintro (h | h) <;> simp [h]
      · rintro (h | rfl | h)
        · exact .inl h
        · exact .inl hn
        · exact .inr h
    · rw [List.mem_append, List.mem_singleton]
      constructor
      · rintro ((h | h) | h) <;> simp [h]
      · rintro (h | h | h) <;> simp [h]
theorem addN_nodup {ns : List ByteArray} : ∀ {r : List ByteArray}, r.Nodup → (addN r ns).Nodup := by
  induction ns with
  | nil => intro r h; exact h
  | cons n ns ih =>
    intro r h
    rw [addN_cons]
    refine ih ?_
    split
    · exact h
    · rename_i hn
      rw [List.nodup_append]
      exact ⟨h, by simp, fun x hx y hy => by rw [List.mem_singleton.1 hy]; rintro rfl; exact hn hx⟩
theorem addN_pre {ns : List ByteArray} : ∀ {r : List ByteArray}, r <+: addN r ns := by
  induction ns with
  | nil => intro r; exact List.prefix_refl r
  | cons n ns ih =>
    intro r
    rw [addN_cons]
    refine List.IsPrefix.trans ?_ ih
    split
    · exact List.prefix_refl r
    · exact List.prefix_append r _

/-- The closing of what a fixture needs, up to a place: what is known of it. -/
structure Closing (fs : List FixtureD) (a : ByteArray) (r : List ByteArray) (i : Nat) : Prop where
  nd : r.Nodup
  base : ∀ n, n ∈ needsAt fs a → n ∈ r
  from_ : ∀ n, n ∈ r → Rch fs a n
  upto : ∀ k (h : k < r.length), k < i → ∀ n, n ∈ needsAt fs r[k] → n ∈ r
theorem Closing.start (h : (needsAt fs a).Nodup) : Closing fs a (needsAt fs a) 0 := ⟨h, fun _ h => h, fun _ h => .one h, fun _ _ h => by omega⟩
theorem Closing.next {r : List ByteArray} {i : Nat} (h : Closing fs a r i) (hi : i < r.length) : Closing fs a (addN r (needsAt fs r[i])) (i + 1) := by
  refine ⟨addN_nodup h.nd, fun n hn => addN_mem.2 (.inl (h.base n hn)), fun n hn => ?_, fun k hk hki n hn => ?_⟩
  · rcases addN_mem.1 hn with hn | hn
    · exact h.from_ n hn
    · exact .more (h.from_ _ (List.getElem_mem hi)) hn
  · obtain ⟨t, ht⟩ := addN_pre (r := r) (ns := needsAt fs r[i])
    have hk' : k < r.length := by omega
    have hq : (addN r (needsAt fs r[i]))[k] = r[k] := by
      simp only [← ht]
      rw [List.getElem_append_left hk']
    rw [hq] at hn
    by_cases hki' : k = i
    · subst hki'; exact addN_mem.2 (.inr hn)
    · exact addN_mem.2 (.inl (h.upto k hk' (by omega) n hn))
theorem Closing.done {r : List ByteArray} {i : Nat} (h : Closing fs a r i) (hi : r.length ≤ i) (n : ByteArray) : n ∈ r ↔ Rch fs a n := by
  refine ⟨h.from_ n, fun hr => ?_⟩
  induction hr with
  | one h1 => exact h.base _ h1
  | more _ h1 ih =>
    obtain ⟨k, hk, rfl⟩ := List.mem_iff_getElem.1 ih
    exact h.upto k hk (by omega) _ h1
theorem needs_sub (h : b ∈ needsAt fs a) : b ∈ fs.flatMap (·.2.2.1) := by
  unfold needsAt at h
  cases hf : fs.find? (isF a) with
  | none => rw [hf] at h; cases h
  | some f =>
    rw [hf] at h
    exact List.mem_flatMap.2 ⟨f, List.mem_of_find?_eq_some hf, h⟩
theorem Rch.sub (h : Rch fs a b) : b ∈ fs.flatMap (·.2.2.1) := by
  cases h with
  | one h1 => exact needs_sub h1
  | more _ h1 => exact needs_sub h1
theorem nodup_len {α : Type} [BEq α] [LawfulBEq α] : ∀ {r U : List α}, r.Nodup → (∀ x, x ∈ r → x ∈ U) → r.length ≤ U.length
  | [], _, _, _ => Nat.zero_le _
  | x :: r, U, h, hs => by
    have hx := hs x (List.mem_cons_self ..)
    have h1 := nodup_len (r := r) (U := U.erase x) (List.nodup_cons.1 h).2 fun y hy => (List.mem_erase_of_ne (show y ≠ x from by rintro rfl; exact (List.nodup_cons.1 h).1 hy)).2 (hs y (List.mem_cons_of_mem _ hy))
    have h2 := List.length_erase_of_mem hx
    have h3 := List.length_pos_of_mem hx
    rw [List.length_cons]
    omega
theorem Closing.len {r : List ByteArray} {i : Nat} (h : Closing fs a r i) : r.length ≤ (fs.flatMap (·.2.2.1)).length :=
  nodup_len h.nd fun _ hn => (h.from_ _ hn).sub

/-! ### the search in depth -/

/-- The reference's search, with fuel. -/
def rchF (fs : List FixtureD) : Nat → ByteArray → List ByteArray → List ByteArray → List ByteArray
  | 0, _, _, out => out
  | n + 1, a, op, out => if hasF fs a ∧ a ∉ out ∧ a ∉ op then (needsAt fs a).foldl (fun out b => rchF fs n b (op ++ [a]) out) out ++ [a] else out
/-- How many fixtures are not open. -/
def freeN (fs : List FixtureD) (op : List ByteArray) : Nat := (fs.map (·.1)).countP fun a => decide (a ∉ op)
theorem countP_lt {α : Type} {p q : α → Bool} {xs : List α} (h : ∀ x, x ∈ xs → q x = true → p x = true) {a : α} (ha : a ∈ xs) (h1 : p a = true) (h2 : q a = false) : xs.countP q < xs.countP p := by
  induction xs with
  | nil => cases ha
  | cons x xs ih =>
    have hle : xs.countP q ≤ xs.countP p := List.countP_mono_left fun y hy => h y (List.mem_cons_of_mem _ hy)
    rw [List.countP_cons, List.countP_cons]
    rcases List.mem_cons.1 ha with rfl | ha
    · rw [h1, h2]; simp; omega
    · have := ih (fun y hy => h y (List.mem_cons_of_mem _ hy)) ha
      have hx := h x (List.mem_cons_self ..)
      cases hq : q x
      · simp; split <;> omega
      · rw [hx hq]; simp; omega
theorem freeN_lt {op : List ByteArray} (h : hasF fs a) (ho : a ∉ op) : freeN fs (op ++ [a]) < freeN fs op := by
  unfold freeN
  refine countP_lt (a := a) (fun x _ hx => ?_) h (by simpa using ho) (by simp)
  simp only [List.mem_append, not_or, decide_eq_true_eq] at hx ⊢
  exact hx.1
theorem freeN_pos {op : List ByteArray} (h : hasF fs a) (ho : a ∉ op) : 0 < freeN fs op := by
  have := freeN_lt h ho
  omega

/-- What is found is closed, but for what is open. -/
def Inv (fs : List FixtureD) (out op : List ByteArray) : Prop := ∀ x, x ∈ out → ∀ y, y ∈ needsAt fs x → hasF fs y → y ∈ out ∨ y ∈ op

theorem foldl_inv {α β : Type} {f : β → α → β} {I : β → Prop} {xs : List α} (hs : ∀ b x, x ∈ xs → I b → I (f b x)) {b : β} (h : I b) : I (xs.foldl f b) := by
  induction xs generalizing b with
  | nil => exact h
  | cons x xs ih => exact ih (fun b y hy => hs b y (List.mem_cons_of_mem _ hy)) (hs b x (List.mem_cons_self ..) h)

theorem rchF_sub (n : Nat) : ∀ (a : ByteArray) (op out : List ByteArray), (∀ x, x ∈ out → x ∈ rchF fs n a op out) ∧ (∀ x, x ∈ rchF fs n a op out → x ∈ out ∨ ((x = a ∨ Rch fs a x) ∧ hasF fs x)) := by
  induction n with
  | zero => intro a op out; exact ⟨fun x h => h, fun x h => .inl h⟩
  | succ n ih =>
    intro a op out
    unfold rchF
    split
    · rename_i hc
      have key := foldl_inv (xs := needsAt fs a) (f := fun out b => rchF fs n b (op ++ [a]) out) (b := out) (I := fun o => (∀ x, x ∈ out → x ∈ o) ∧ (∀ x, x ∈ o → x ∈ out ∨ (Rch fs a x ∧ hasF fs x))) (fun o b hb ho => by
        refine ⟨fun x hx => (ih b (op ++ [a]) o).1 x (ho.1 x hx), fun x hx => ?_⟩
        rcases (ih b (op ++ [a]) o).2 x hx with h | ⟨h, h2⟩
        · exact ho.2 x h
        · rcases h with rfl | h
          · exact .inr ⟨.one hb, h2⟩
          · exact .inr ⟨(Rch.one hb).trans h, h2⟩) ⟨fun x h => h, fun x h => .inl h⟩
      refine ⟨fun x hx => List.mem_append_left _ (key.1 x hx), fun x hx => ?_⟩
      rcases List.mem_append.1 hx with hx | hx
      · rcases key.2 x hx with h | h
        · exact .inl h
        · exact .inr ⟨.inr h.1, h.2⟩
      · rw [List.mem_singleton.1 hx]
        exact .inr ⟨.inl rfl, hc.1⟩
    · exact ⟨fun x h => h, fun x h => .inl h⟩

theorem rchF_inv (n : Nat) : ∀ (a : ByteArray) (op out : List ByteArray), freeN fs op ≤ n → Inv fs out op → Inv fs (rchF fs n a op out) op ∧ (hasF fs a → a ∈ rchF fs n a op out ∨ a ∈ op) := by
  induction n with
  | zero =>
    intro a op out hn hi
    refine ⟨hi, fun ha => .inr (Classical.byContradiction fun ho => ?_)⟩
    have := freeN_pos ha ho
    omega
  | succ n ih =>
    intro a op out hn hi
    unfold rchF
    split
    · rename_i hc
      have hn' : freeN fs (op ++ [a]) ≤ n := by have := freeN_lt hc.1 hc.2.2; omega
      have key : ∀ (ns : List ByteArray) (o : List ByteArray), Inv fs o (op ++ [a]) → Inv fs (ns.foldl (fun out b => rchF fs n b (op ++ [a]) out) o) (op ++ [a]) ∧ (∀ b, b ∈ ns → hasF fs b → b ∈ ns.foldl (fun out b => rchF fs n b (op ++ [a]) out) o ∨ b ∈ op ++ [a]) ∧ (∀ x, x ∈ o → x ∈ ns.foldl (fun out b => rchF fs n b (op ++ [a]) out) o) := by
        intro ns
        induction ns with
        | nil => intro o ho; exact ⟨ho, (by intro b hb; cases hb), fun x h => h⟩
        | cons m ns ihn =>
          intro o ho
          rw [List.foldl_cons]
          have h1 := ih m (op ++ [a]) o hn' ho
          have h2 := ihn _ h1.1
          refine ⟨h2.1, fun b hb hf => ?_, fun x hx => h2.2.2 x ((rchF_sub n m (op ++ [a]) o).1 x hx)⟩
          rcases List.mem_cons.1 hb with rfl | hb
          · rcases h1.2 hf with h | h
            · exact .inl (h2.2.2 _ h)
            · exact .inr h
          · exact h2.2.1 b hb hf
      have hk := key (needsAt fs a) out fun x hx y hy hf => by
        rcases hi x hx y hy hf with h | h
        · exact .inl h
        · exact .inr (List.mem_append_left _ h)
      refine ⟨fun x hx y hy hf => ?_, fun _ => .inl (List.mem_append_right _ (List.mem_singleton.2 rfl))⟩
      have : y ∈ (needsAt fs a).foldl (fun out b => rchF fs n b (op ++ [a]) out) out ∨ y ∈ op ++ [a] := by
        rcases List.mem_append.1 hx with hx | hx
        · exact hk.1 x hx y hy hf
        · rw [List.mem_singleton.1 hx] at hy
          exact hk.2.1 y hy hf
      rcases this with h | h
      · exact .inl (List.mem_append_left _ h)
      · rcases List.mem_append.1 h with h | h
        · exact .inr h
        · exact .inl (List.mem_append_right _ h)
    · rename_i hc
      refine ⟨hi, fun ha => ?_⟩
      by_cases h1 : a ∈ out
      · exact .inl h1
      · exact .inr (Classical.byContradiction fun h2 => hc ⟨ha, h1, h2⟩)

/-- All that is found from a fixture. -/
theorem rchF_all {n : Nat} (hn : freeN fs [] ≤ n) (ha : hasF fs a) (x : ByteArray) : x ∈ rchF fs n a [] [] ↔ (x = a ∨ Rch fs a x) ∧ hasF fs x := by
  have h1 := rchF_inv (fs := fs) n a [] [] hn (by intro x hx; cases hx)
  have h0 : a ∈ rchF fs n a [] [] := by
    rcases h1.2 ha with h | h
    · exact h
    · cases h
  constructor
  · intro hx
    rcases (rchF_sub (fs := fs) n a [] []).2 x hx with h | h
    · cases h
    · exact h
  · rintro ⟨hx, hf⟩
    rcases hx with rfl | hx
    · exact h0
    · have step : ∀ b c, b ∈ rchF fs n a [] [] → c ∈ needsAt fs b → hasF fs c → c ∈ rchF fs n a [] [] := fun b c hb hc hf => by
        rcases h1.1 b hb c hc hf with h | h
        · exact h
        · cases h
      clear h1
      induction hx with
      | one hb => exact step a _ h0 hb hf
      | more _ hb ih => exact step _ _ (ih (hasF_of hb)) hb hf

/-- A fixture needs itself: some that is found has it among its needs. -/
theorem circle_iff {n : Nat} (hn : freeN fs [] ≤ n) (ha : hasF fs a) : (∃ x, x ∈ rchF fs n a [] [] ∧ a ∈ needsAt fs x) ↔ Rch fs a a := by
  constructor
  · rintro ⟨x, hx, h⟩
    rcases ((rchF_all hn ha x).1 hx).1 with rfl | hr
    · exact .one h
    · exact .more hr h
  · intro h
    cases h with
    | one h => exact ⟨a, (rchF_all hn ha a).2 ⟨.inl rfl, ha⟩, h⟩
    | more hr h => exact ⟨_, (rchF_all hn ha _).2 ⟨.inr hr, hasF_of h⟩, h⟩
end

end Go.Proofs.Ytjojofnkgeiadaa

