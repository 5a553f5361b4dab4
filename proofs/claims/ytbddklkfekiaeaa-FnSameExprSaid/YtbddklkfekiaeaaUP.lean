/- Expressions: the program tells whether two of them are the same. -/
import Derived.Test.YtbddklkfekiaeaaUO
set_option maxHeartbeats 4000000
set_option synthInstance.maxHeartbeats 400000
set_option synthInstance.maxSize 4096
set_option linter.unusedSimpArgs false
set_option linter.unusedVariables false
namespace Go.Proofs.Ytbddklkfekiaeaa

set_option maxRecDepth 100000

theorem addAll_snoc (acc ls : List ByteArray) (y : ByteArray) : addAll acc (ls ++ [y]) = addT (addAll acc ls) y := by
  unfold addAll
  rw [List.foldl_append]
  rfl
theorem addT_old {xs : List ByteArray} {y : ByteArray} (h : y ∈ xs) : addT xs y = xs := by unfold addT; rw [if_pos h]
theorem addAll_dedup (acc : List ByteArray) : ∀ (m : List ByteArray), addAll acc (addAll [] m.reverse) = addAll acc m.reverse
  | [] => rfl
  | y :: m => by
    rw [List.reverse_cons, addAll_snoc, addAll_snoc]
    by_cases h : y ∈ addAll [] m.reverse
    · rw [addT_old h, addAll_dedup acc m, addT_old]
      rcases (addAll_mem _ _ _).1 h with h | h
      · cases h
      · exact (addAll_mem _ _ _).2 (.inr h)
    · have : addT (addAll [] m.reverse) y = addAll [] m.reverse ++ [y] := by unfold addT; rw [if_neg h]
      rw [this, addAll_snoc, addAll_dedup acc m]
theorem twoA_eq (a b : Ex) : twoA a b = addAll (addAll [] a.leaves) b.leaves := by
  unfold twoA
  have := addAll_dedup (addAll [] a.leaves) b.leaves.reverse
  rwa [List.reverse_reverse] at this
/-- The modules that are tried. -/
def modW (L : List ByteArray) : List ByteArray := ⟨#[]⟩ :: ((L.filter isAt).map cut1)
theorem baseW_mem (L : List ByteArray) (t : TestD) : t ∈ baseW L ↔ ∃ b, b ∈ modW L ∧ t = wld b [] := by
  unfold baseW modW
  rw [List.mem_cons, List.mem_map]
  constructor
  · rintro (rfl | ⟨a, h, rfl⟩)
    · exact ⟨_, List.mem_cons_self .., rfl⟩
    · exact ⟨cut1 a, List.mem_cons_of_mem _ (List.mem_map_of_mem h), rfl⟩
  · rintro ⟨b, h, rfl⟩
    rcases List.mem_cons.1 h with rfl | h
    · exact .inl rfl
    · obtain ⟨a, ha, rfl⟩ := List.mem_map.1 h
      exact .inr ⟨a, ha, rfl⟩
theorem alike_iff (a b : Ex) (L : List ByteArray) : alike a b (worldsR L) = true ↔ ∀ m, m ∈ modW L → ∀ u, u < 2 ^ (mrk L).length → a.ev m (maskL (mrk L) u) = b.ev m (maskL (mrk L) u) := by
  have hw := worlds_mem (mrk L).reverse (baseW L) (fun b => b ∈ modW L) (baseW_mem L)
  rw [List.reverse_reverse, List.length_reverse] at hw
  unfold alike worldsR
  rw [List.all_eq_true]
  constructor
  · intro h m hm u hu
    have := h _ ((hw _).2 ⟨m, u, hm, hu, rfl⟩)
    rwa [beq_iff_eq] at this
  · intro h t ht
    obtain ⟨m, u, hm, hu, rfl⟩ := (hw t).1 ht
    rw [beq_iff_eq]
    exact h m hm u hu
theorem modW_take {L : List ByteArray} {i : Nat} (h : i < L.length) : modW (L.take (i + 1)) = modW (L.take i) ++ (if isAt L[i] = true then [cut1 L[i]] else []) := by
  unfold modW
  rw [List.take_succ_eq_append_getElem h, List.filter_append, List.map_append, List.filter_cons]
  by_cases hq : isAt L[i] = true
  · rw [if_pos hq, if_pos hq]; rfl
  · rw [if_neg hq, if_neg hq]; rfl
theorem mrk_take1 {L : List ByteArray} {i : Nat} (h : i < L.length) : mrk (L.take (i + 1)) = mrk (L.take i) ++ (if isAt L[i] = true then [] else [L[i]]) := by
  unfold mrk
  rw [List.take_succ_eq_append_getElem h, List.filter_append, List.filter_cons]
  cases isAt L[i] <;> rfl
theorem modW_len (L : List ByteArray) : (modW L).length ≤ L.length + 1 := by
  unfold modW
  rw [List.length_cons, List.length_map]
  have : (L.filter isAt).length ≤ L.length := List.length_filter_le ..
  omega
theorem mrk_len (L : List ByteArray) : (mrk L).length ≤ L.length := List.length_filter_le ..

def CntP (take : Bs → Option (Ex × Bs)) : Prop := ∀ s e r, take s = some (e, r) → e.leaves.length + r.length ≤ s.length
theorem atomP_cnt : CntP atomP := fun s e r h => by
  have h1 := (atomP_short s e r h).2
  have h2 : e.leaves.length = 1 := by
    unfold atomP at h
    split at h <;> split at h
    · injection h with h; injection h with h _; subst h; rfl
    · cases h
    · injection h with h; injection h with h _; subst h; rfl
    · cases h
  omega
theorem loopP_cnt {take : Bs → Option (Ex × Bs)} {w : Bs} {op : Ex → Ex → Ex} (ht : CntP take) (hop : ∀ a b, (op a b).leaves = a.leaves ++ b.leaves) : ∀ (n : Nat) (e : Ex) (r0 : Bs) (e' : Ex) (r : Bs), loopP take w op n e r0 = some (e', r) → e'.leaves.length + r.length ≤ e.leaves.length + r0.length
  | 0, _, _, _, _, h => by cases h
  | n + 1, e, r0, e', r, h => by
    unfold loopP at h
    split at h
    · split at h
      · rename_i e2 r2 hq
        have h1 := loopP_cnt ht hop n (op e e2) r2 e' r h
        have h2 := ht _ _ _ hq
        rw [hop, List.length_append] at h1
        rw [List.length_drop] at h2
        omega
      · cases h
    · injection h with h
      injection h with h1 h2
      subst h1; subst h2
      exact Nat.le_refl _
theorem rowP_cnt {take : Bs → Option (Ex × Bs)} {w : Bs} {op : Ex → Ex → Ex} (ht : CntP take) (hop : ∀ a b, (op a b).leaves = a.leaves ++ b.leaves) (n : Nat) : CntP (rowP take w op n) := fun s e r h => by
  unfold rowP at h
  split at h
  · rename_i e1 r1 hq
    have h1 := loopP_cnt ht hop n e1 r1 e r h
    have h2 := ht _ _ _ hq
    omega
  · cases h
theorem facP_cnt {row fac : Bs → Option (Ex × Bs)} (hrow : CntP row) (hfac : CntP fac) : CntP (facP row fac) := fun s e r h => by
  unfold facP at h
  split at h
  · split at h
    · rename_i e1 r1 hq
      injection h with h
      injection h with h1 h2
      subst h1; subst h2
      have h3 := hfac _ _ _ hq
      rw [List.length_drop] at h3
      have h4 : (Ex.neg e1).leaves.length = e1.leaves.length := rfl
      omega
    · cases h
  · split at h
    · split at h
      · rename_i e1 r1 hq
        split at h
        · injection h with h
          injection h with h1 h2
          subst h1; subst h2
          have h3 := hrow _ _ _ hq
          rw [List.length_drop] at h3 ⊢
          omega
        · cases h
      · cases h
    · exact atomP_cnt _ _ _ h
theorem parse_cnt : ∀ (n : Nat) (l : Lv), CntP (parse n l)
  | 0, _ => fun s e r h => by cases h
  | n + 1, .fac => facP_cnt (parse_cnt n .dis) (parse_cnt n .fac)
  | n + 1, .con => rowP_cnt (parse_cnt n .fac) (fun _ _ => rfl) n
  | n + 1, .dis => rowP_cnt (parse_cnt n .con) (fun _ _ => rfl) n
theorem leaves_cnt {s : ByteArray} {e : Ex} (h : exprP s = some e) : e.leaves.length ≤ 60 := by
  have h0 := exprP_small h
  unfold exprP at h
  rw [if_pos h0] at h
  split at h
  · rename_i e1 hq
    injection h with h
    subst h
    have := parse_cnt _ _ _ _ _ hq
    rw [toList_len, List.length_nil] at this
    omega
  · cases h

/-- What is left to do once both are read: the program's own search of worlds. -/
theorem impl_SameExpr_c (A : View) (a b : ByteArray) (hsa : a.size ≤ 100000) (hsb : b.size ≤ 100000) : ACalls Try.prog 31 #[.string a, .string b] A fun r V => r = .bool (sameE a b) ∧ Ext A V := by
  refine acalls Try.func31 rfl (by kernel_rfl) ?_
  simp (disch := omega) only [↓stq, amv_at, vls, inf, frs, mark_eq, ↓reduceIte, Nat.reduceEqDiff, ite_tt, ite_ff, eq_self, and_true, true_and, and_self, implies_true, Bool.true_eq_false, Bool.false_eq_true, decide_true, decide_false, decide_eq_true_eq, decide_eq_false_iff_not, ne_eq, not_true_eq_false, not_false_eq_true, Bool.not_eq_true', Bool.not_eq_false', beq_self_eq_true, Bool.not_true, Bool.not_false, List.getElem?_toArray, List.getElem?_cons_zero, List.getElem?_cons_succ]
  refine (impl_readExpr_c A a (by omega)).mono ?_
  rintro _ V ⟨d1, rfl, hd1, hg1⟩
  simp (disch := omega) only [↓stq, amv_at, vls, inf, frs, mark_eq, ↓reduceIte, Nat.reduceEqDiff, ite_tt, ite_ff, eq_self, and_true, true_and, and_self, implies_true, Bool.true_eq_false, Bool.false_eq_true, decide_true, decide_false, decide_eq_true_eq, decide_eq_false_iff_not, ne_eq, not_true_eq_false, not_false_eq_true, Bool.not_eq_true', Bool.not_eq_false', beq_self_eq_true, Bool.not_true, Bool.not_false, List.getElem?_toArray, List.getElem?_cons_zero, List.getElem?_cons_succ]
  cases hA : isE a with
  | false =>
    refine led_alloc zc64 ((Led.nil A).step hg1.ext) fun q5 V2 _ l => ?_
    simp (disch := omega) only [↓stq, amv_at, vls, inf, frs, mark_eq, ↓reduceIte, Nat.reduceEqDiff, ite_tt, ite_ff, eq_self, and_true, true_and, and_self, implies_true, Bool.true_eq_false, Bool.false_eq_true, decide_true, decide_false, decide_eq_true_eq, decide_eq_false_iff_not, ne_eq, not_true_eq_false, not_false_eq_true, Bool.not_eq_true', Bool.not_eq_false', beq_self_eq_true, Bool.not_true, Bool.not_false, List.getElem?_toArray, List.getElem?_cons_zero, List.getElem?_cons_succ]
    refine led_storeAll l 0 rfl sz64 hd1.1 rfl hd1.2 fun V2 l => ?_
    simp (disch := omega) only [↓stq, amv_at, vls, inf, frs, mark_eq, ↓reduceIte, Nat.reduceEqDiff, ite_tt, ite_ff, eq_self, and_true, true_and, and_self, implies_true, Bool.true_eq_false, Bool.false_eq_true, decide_true, decide_false, decide_eq_true_eq, decide_eq_false_iff_not, ne_eq, not_true_eq_false, not_false_eq_true, Bool.not_eq_true', Bool.not_eq_false', beq_self_eq_true, Bool.not_true, Bool.not_false, List.getElem?_toArray, List.getElem?_cons_zero, List.getElem?_cons_succ]
    refine (impl_readExpr_c V2 b (by omega)).mono ?_
    rintro _ V3 ⟨d2, rfl, hd2, hg2⟩
    simp (disch := omega) only [↓stq, amv_at, vls, inf, frs, mark_eq, ↓reduceIte, Nat.reduceEqDiff, ite_tt, ite_ff, eq_self, and_true, true_and, and_self, implies_true, Bool.true_eq_false, Bool.false_eq_true, decide_true, decide_false, decide_eq_true_eq, decide_eq_false_iff_not, ne_eq, not_true_eq_false, not_false_eq_true, Bool.not_eq_true', Bool.not_eq_false', beq_self_eq_true, Bool.not_true, Bool.not_false, List.getElem?_toArray, List.getElem?_cons_zero, List.getElem?_cons_succ]
    refine led_alloc zc64 (l.step hg2.ext) fun q7 V4 _ l => ?_
    simp (disch := omega) only [↓stq, amv_at, vls, inf, frs, mark_eq, ↓reduceIte, Nat.reduceEqDiff, ite_tt, ite_ff, eq_self, and_true, true_and, and_self, implies_true, Bool.true_eq_false, Bool.false_eq_true, decide_true, decide_false, decide_eq_true_eq, decide_eq_false_iff_not, ne_eq, not_true_eq_false, not_false_eq_true, Bool.not_eq_true', Bool.not_eq_false', beq_self_eq_true, Bool.not_true, Bool.not_false, List.getElem?_toArray, List.getElem?_cons_zero, List.getElem?_cons_succ]
    refine led_storeAll l 0 rfl sz64 hd2.1 rfl hd2.2 fun V4 l => ?_
    rw [sameE_no (.inl hA)]
    simp (disch := omega) only [↓stq, amv_at, vls, inf, frs, mark_eq, ↓reduceIte, Nat.reduceEqDiff, ite_tt, ite_ff, eq_self, and_true, true_and, and_self, implies_true, Bool.true_eq_false, Bool.false_eq_true, decide_true, decide_false, decide_eq_true_eq, decide_eq_false_iff_not, ne_eq, not_true_eq_false, not_false_eq_true, Bool.not_eq_true', Bool.not_eq_false', beq_self_eq_true, Bool.not_true, Bool.not_false, List.getElem?_toArray, List.getElem?_cons_zero, List.getElem?_cons_succ]
    exact l.ext
  | true =>
    obtain ⟨ea, ha⟩ := isE_some hA
    rw [ha] at hg1
    obtain ⟨f1, le1⟩ := hg1
    refine led_alloc zc64 le1 fun q5 V2 _ l => ?_
    simp (disch := omega) only [↓stq, amv_at, vls, inf, frs, mark_eq, ↓reduceIte, Nat.reduceEqDiff, ite_tt, ite_ff, eq_self, and_true, true_and, and_self, implies_true, Bool.true_eq_false, Bool.false_eq_true, decide_true, decide_false, decide_eq_true_eq, decide_eq_false_iff_not, ne_eq, not_true_eq_false, not_false_eq_true, Bool.not_eq_true', Bool.not_eq_false', beq_self_eq_true, Bool.not_true, Bool.not_false, List.getElem?_toArray, List.getElem?_cons_zero, List.getElem?_cons_succ]
    refine led_storeAll l 0 rfl sz64 hd1.1 rfl hd1.2 fun V2 l => ?_
    simp (disch := omega) only [↓stq, amv_at, vls, inf, frs, mark_eq, ↓reduceIte, Nat.reduceEqDiff, ite_tt, ite_ff, eq_self, and_true, true_and, and_self, implies_true, Bool.true_eq_false, Bool.false_eq_true, decide_true, decide_false, decide_eq_true_eq, decide_eq_false_iff_not, ne_eq, not_true_eq_false, not_false_eq_true, Bool.not_eq_true', Bool.not_eq_false', beq_self_eq_true, Bool.not_true, Bool.not_false, List.getElem?_toArray, List.getElem?_cons_zero, List.getElem?_cons_succ]
    refine (impl_readExpr_c V2 b (by omega)).mono ?_
    rintro _ V3 ⟨d2, rfl, hd2, hg2⟩
    simp (disch := omega) only [↓stq, amv_at, vls, inf, frs, mark_eq, ↓reduceIte, Nat.reduceEqDiff, ite_tt, ite_ff, eq_self, and_true, true_and, and_self, implies_true, Bool.true_eq_false, Bool.false_eq_true, decide_true, decide_false, decide_eq_true_eq, decide_eq_false_iff_not, ne_eq, not_true_eq_false, not_false_eq_true, Bool.not_eq_true', Bool.not_eq_false', beq_self_eq_true, Bool.not_true, Bool.not_false, List.getElem?_toArray, List.getElem?_cons_zero, List.getElem?_cons_succ]
    cases hB : isE b with
    | false =>
      refine led_alloc zc64 (l.step hg2.ext) fun q7 V4 _ l => ?_
      simp (disch := omega) only [↓stq, amv_at, vls, inf, frs, mark_eq, ↓reduceIte, Nat.reduceEqDiff, ite_tt, ite_ff, eq_self, and_true, true_and, and_self, implies_true, Bool.true_eq_false, Bool.false_eq_true, decide_true, decide_false, decide_eq_true_eq, decide_eq_false_iff_not, ne_eq, not_true_eq_false, not_false_eq_true, Bool.not_eq_true', Bool.not_eq_false', beq_self_eq_true, Bool.not_true, Bool.not_false, List.getElem?_toArray, List.getElem?_cons_zero, List.getElem?_cons_succ]
      refine led_storeAll l 0 rfl sz64 hd2.1 rfl hd2.2 fun V4 l => ?_
      rw [sameE_no (.inr hB)]
      simp (disch := omega) only [↓stq, amv_at, vls, inf, frs, mark_eq, ↓reduceIte, Nat.reduceEqDiff, ite_tt, ite_ff, eq_self, and_true, true_and, and_self, implies_true, Bool.true_eq_false, Bool.false_eq_true, decide_true, decide_false, decide_eq_true_eq, decide_eq_false_iff_not, ne_eq, not_true_eq_false, not_false_eq_true, Bool.not_eq_true', Bool.not_eq_false', beq_self_eq_true, Bool.not_true, Bool.not_false, List.getElem?_toArray, List.getElem?_cons_zero, List.getElem?_cons_succ]
      exact l.ext
    | true =>
      obtain ⟨eb, hb⟩ := isE_some hB
      rw [hb] at hg2
      obtain ⟨f2, le2⟩ := hg2
      replace l := l.append le2
      refine led_alloc zc64 l fun q7 V4 _ l => ?_
      simp (disch := omega) only [↓stq, amv_at, vls, inf, frs, mark_eq, ↓reduceIte, Nat.reduceEqDiff, ite_tt, ite_ff, eq_self, and_true, true_and, and_self, implies_true, Bool.true_eq_false, Bool.false_eq_true, decide_true, decide_false, decide_eq_true_eq, decide_eq_false_iff_not, ne_eq, not_true_eq_false, not_false_eq_true, Bool.not_eq_true', Bool.not_eq_false', beq_self_eq_true, Bool.not_true, Bool.not_false, List.getElem?_toArray, List.getElem?_cons_zero, List.getElem?_cons_succ]
      refine led_storeAll l 0 rfl sz64 hd2.1 rfl hd2.2 fun V4 l => ?_
      rw [sameE_of ha hb, twoA_eq]
      have hl1 := leaves_len ha
      have x1 : ExR V4 ea d1 := exI_r (l.at (i := 3) rfl)
      have x2 : ExR V4 eb d2 := exI_r (l.at (i := 1) rfl)
      have k5 : V4.part ⟨q5, 0, none⟩ 2 = some d1 := l.partn (i := 2) rfl hd1.1 hd1.2
      have k7 : V4.part ⟨q7, 0, none⟩ 2 = some d2 := l.partn (i := 0) rfl hd2.1 hd2.2
      simp (disch := omega) only [↓stq, amv_at, vls, inf, frs, mark_eq, ↓reduceIte, Nat.reduceEqDiff, ite_tt, ite_ff, eq_self, and_true, true_and, and_self, implies_true, Bool.true_eq_false, Bool.false_eq_true, decide_true, decide_false, decide_eq_true_eq, decide_eq_false_iff_not, ne_eq, not_true_eq_false, not_false_eq_true, Bool.not_eq_true', Bool.not_eq_false', beq_self_eq_true, Bool.not_true, Bool.not_false, List.getElem?_toArray, List.getElem?_cons_zero, List.getElem?_cons_succ]
      refine adraw_items [.l 0 true, .l 1 false, .c 2 [0], .c 3 [], .q 4] (by kernel_rfl) (by kernel_rfl) ?_
      simp (disch := omega) only [↓stq, amv_at, ↓pln, plv, nilOk, Nat.reduceBEq, Bool.or_false, Bool.or_true, Bool.false_or, Bool.true_or, vls, inf, frs, mark_eq, ↓reduceIte, Nat.reduceEqDiff, ite_tt, ite_ff, eq_self, and_true, true_and, and_self, implies_true, Bool.true_eq_false, Bool.false_eq_true, decide_true, decide_false, decide_eq_true_eq, decide_eq_false_iff_not, ne_eq, not_true_eq_false, not_false_eq_true, Bool.not_eq_true', Bool.not_eq_false', beq_self_eq_true, Bool.not_true, Bool.not_false, List.getElem?_toArray, List.getElem?_cons_zero, List.getElem?_cons_succ, k5, k7]
      have hca := leaves_cnt ha
      have hcb := leaves_cnt hb
      refine (impl_atoms_c V4 ea d1 V4 [] [] _ [] x1 (by rw [List.length_nil]; omega) (Led.nilO 9 strO (Led.nil V4))).mono ?_
      rintro r3 V5 ⟨f3, l3⟩
      have k5 := l3.ext.part k5
      have k7 := l3.ext.part k7
      obtain ⟨a3, c3, rfl, _, _⟩ := (OSl.toS (show OSl 9 strO V5 f3 r3 _ from l3.at (i := 0) rfl)).slice
      simp (disch := omega) only [↓stq, amv_at, ↓pln, plv, nilOk, Nat.reduceBEq, Bool.or_false, Bool.or_true, Bool.false_or, Bool.true_or, vls, inf, frs, mark_eq, ↓reduceIte, Nat.reduceEqDiff, ite_tt, ite_ff, eq_self, and_true, true_and, and_self, implies_true, Bool.true_eq_false, Bool.false_eq_true, decide_true, decide_false, decide_eq_true_eq, decide_eq_false_iff_not, ne_eq, not_true_eq_false, not_false_eq_true, Bool.not_eq_true', Bool.not_eq_false', beq_self_eq_true, Bool.not_true, Bool.not_false, List.getElem?_toArray, List.getElem?_cons_zero, List.getElem?_cons_succ, k5, k7]
      refine (impl_atoms_c V4 eb d2 V5 [] f3 _ _ x2 (by omega) l3).mono ?_
      rintro r4 V6 ⟨f4, l4⟩
      replace l := l.append l4
      have hzL : ∀ y, y ∈ addAll (addAll [] ea.leaves) eb.leaves → 1 ≤ y.size ∧ y.size ≤ 1000 := fun y hy => by
        have h60a := exprP_small ha
        have h60b := exprP_small hb
        rcases (addAll_mem _ _ _).1 hy with h | h
        · rcases (addAll_mem _ _ _).1 h with h | h
          · cases h
          · exact leaf_size ha (by omega) y h
        · exact leaf_size hb (by omega) y h
      generalize addAll (addAll [] ea.leaves) eb.leaves = L at l4 l hzL ⊢
      obtain ⟨aL, cL, rfl, _, _⟩ := (OSl.toS (show OSl 9 strO V6 f4 r4 L from l.at (i := 0) rfl)).slice
      have k5 : V6.part ⟨q5, 0, none⟩ 2 = some d1 := l.partn (i := 3) rfl hd1.1 hd1.2
      have k7 : V6.part ⟨q7, 0, none⟩ 2 = some d2 := l.partn (i := 1) rfl hd2.1 hd2.2
      simp (disch := omega) only [↓stq, amv_at, ↓pln, plv, nilOk, Nat.reduceBEq, Bool.or_false, Bool.or_true, Bool.false_or, Bool.true_or, vls, inf, frs, mark_eq, ↓reduceIte, Nat.reduceEqDiff, ite_tt, ite_ff, eq_self, and_true, true_and, and_self, implies_true, Bool.true_eq_false, Bool.false_eq_true, decide_true, decide_false, decide_eq_true_eq, decide_eq_false_iff_not, ne_eq, not_true_eq_false, not_false_eq_true, Bool.not_eq_true', Bool.not_eq_false', beq_self_eq_true, Bool.not_true, Bool.not_false, List.getElem?_toArray, List.getElem?_cons_zero, List.getElem?_cons_succ, k5, k7]
      clear l3 l4 k5 k7 x1 x2 le1 le2
      simp (disch := omega) only [↓stq, amv_at, vls, inf, frs, mark_eq, ↓reduceIte, Nat.reduceEqDiff, ite_tt, ite_ff, eq_self, and_true, true_and, and_self, implies_true, Bool.true_eq_false, Bool.false_eq_true, decide_true, decide_false, decide_eq_true_eq, decide_eq_false_iff_not, ne_eq, not_true_eq_false, not_false_eq_true, Bool.not_eq_true', Bool.not_eq_false', beq_self_eq_true, Bool.not_true, Bool.not_false, List.getElem?_toArray, List.getElem?_cons_zero, List.getElem?_cons_succ]
      refine ⟨fun e1 => ?_, fun e1 => ?_⟩
      · simp (disch := omega) only [↓stq, amv_at, vls, inf, frs, mark_eq, ↓reduceIte, Nat.reduceEqDiff, ite_tt, ite_ff, eq_self, and_true, true_and, and_self, implies_true, Bool.true_eq_false, Bool.false_eq_true, decide_true, decide_false, decide_eq_true_eq, decide_eq_false_iff_not, ne_eq, not_true_eq_false, not_false_eq_true, Bool.not_eq_true', Bool.not_eq_false', beq_self_eq_true, Bool.not_true, Bool.not_false, List.getElem?_toArray, List.getElem?_cons_zero, List.getElem?_cons_succ]
        rw [decide_eq_false (by omega), Bool.false_and]
        exact ⟨rfl, l.ext⟩
      rw [decide_eq_true (by omega), Bool.true_and]
      simp (disch := omega) only [↓stq, amv_at, vls, inf, frs, mark_eq, ↓reduceIte, Nat.reduceEqDiff, ite_tt, ite_ff, eq_self, and_true, true_and, and_self, implies_true, Bool.true_eq_false, Bool.false_eq_true, decide_true, decide_false, decide_eq_true_eq, decide_eq_false_iff_not, ne_eq, not_true_eq_false, not_false_eq_true, Bool.not_eq_true', Bool.not_eq_false', beq_self_eq_true, Bool.not_true, Bool.not_false, List.getElem?_toArray, List.getElem?_cons_zero, List.getElem?_cons_succ]
      refine led_lit li25 (by omega) rfl (by simp [Value.cells, Value.oneCell']) l fun bm V _ l => ?_
      replace l : Led A [osl 9 strO [bm] (.slice (some ⟨bm, 0, none⟩) 1 1) (modW []), osl 9 strO f4 (.slice aL L.length cL) L, bx q7 ⟨64, d2, 2, true⟩, exI f2 eb d2, bx q5 ⟨64, d1, 2, true⟩, exI f1 ea d1] V := l.upd (i := 0) (jt := osl 9 strO [bm] (.slice (some ⟨bm, 0, none⟩) 1 1) (modW [])) rfl rfl (Only.refl _ _) ⟨by show (1 : Nat) ≤ _; omega, .inr ⟨bm, 1, _, [], rfl, Nat.le_refl _, rfl, l.at (i := 0) rfl, OElems.cons (f := []) (fp := []) ⟨rfl, rfl, by show (0 : Nat) ≤ _; omega⟩ .nil⟩⟩
      simp (disch := omega) only [↓stq, amv_at, vls, inf, frs, mark_eq, ↓reduceIte, Nat.reduceEqDiff, ite_tt, ite_ff, eq_self, and_true, true_and, and_self, implies_true, Bool.true_eq_false, Bool.false_eq_true, decide_true, decide_false, decide_eq_true_eq, decide_eq_false_iff_not, ne_eq, not_true_eq_false, not_false_eq_true, Bool.not_eq_true', Bool.not_eq_false', beq_self_eq_true, Bool.not_true, Bool.not_false, List.getElem?_toArray, List.getElem?_cons_zero, List.getElem?_cons_succ]
      refine led_lit0 (O := strO) li25 l fun bk V _ l => ?_
      simp (disch := omega) only [↓stq, amv_at, vls, inf, frs, mark_eq, ↓reduceIte, Nat.reduceEqDiff, ite_tt, ite_ff, eq_self, and_true, true_and, and_self, implies_true, Bool.true_eq_false, Bool.false_eq_true, decide_true, decide_false, decide_eq_true_eq, decide_eq_false_iff_not, ne_eq, not_true_eq_false, not_false_eq_true, Bool.not_eq_true', Bool.not_eq_false', beq_self_eq_true, Bool.not_true, Bool.not_false, List.getElem?_toArray, List.getElem?_cons_zero, List.getElem?_cons_succ]
      refine aloop (fun d fr V => ∃ (i : Nat) (fm : List Nat) (wm : Value) (fo : List Nat) (wo : Value), i ≤ L.length ∧ d = L.length - i ∧ Led A [osl 9 strO fm wm (mrk (L.take i)), osl 9 strO fo wo (modW (L.take i)), osl 9 strO f4 (.slice aL L.length cL) L, bx q7 ⟨64, d2, 2, true⟩, exI f2 eb d2, bx q5 ⟨64, d1, 2, true⟩, exI f1 ea d1] V ∧ fr 5 = .pointer (some ⟨q5, 0, none⟩) ∧ fr 7 = .pointer (some ⟨q7, 0, none⟩) ∧ fr 10 = wo ∧ fr 11 = wm ∧ fr 45 = .slice aL L.length cL ∧ fr 46 = .int .i64 L.length ∧ fr 47 = .int .i64 i) L.length ⟨0, _, _, _, _, by omega, by omega, l, by rfl, by rfl, by rfl, by rfl, by rfl, by rfl, by rfl⟩ ?_
      clear l
      rintro d fr V ⟨i, fm, wm, fo, wo, hi, rfl, l, q5', q7', q10, q11, q45, q46, q47⟩
      simp (disch := omega) only [↓stq, amv_at, vls, inf, frs, mark_eq, ↓reduceIte, Nat.reduceEqDiff, ite_tt, ite_ff, eq_self, and_true, true_and, and_self, implies_true, Bool.true_eq_false, Bool.false_eq_true, decide_true, decide_false, decide_eq_true_eq, decide_eq_false_iff_not, ne_eq, not_true_eq_false, not_false_eq_true, Bool.not_eq_true', Bool.not_eq_false', beq_self_eq_true, Bool.not_true, Bool.not_false, List.getElem?_toArray, List.getElem?_cons_zero, List.getElem?_cons_succ, q5', q7', q10, q11, q45, q46, q47]
      refine ⟨fun e2 => ?_, fun e2 => ?_⟩
      · have hlt : i < L.length := by omega
        have hmo := modW_take hlt
        have hmk := mrk_take1 hlt
        have hol := modW_len (L.take i)
        have hkl := mrk_len (L.take i)
        rw [List.length_take] at hol hkl
        have hzi := hzL _ (List.getElem_mem hlt)
        have hcz : (cut1 L[i]).size ≤ 1000 := by unfold cut1; rw [ByteArray.size_extract]; omega
        have hone : Int.toNat 1 = 1 := rfl
        obtain ⟨ad, hq, kk, zk⟩ := (OSl.toS (show OSl 9 strO V f4 _ L from l.at (i := 2) rfl)).str hlt
        subst hq
        simp (disch := omega) only [↓stq, amv_at, vls, inf, frs, mark_eq, ↓reduceIte, Nat.reduceEqDiff, ite_tt, ite_ff, eq_self, and_true, true_and, and_self, implies_true, Bool.true_eq_false, Bool.false_eq_true, decide_true, decide_false, decide_eq_true_eq, decide_eq_false_iff_not, ne_eq, not_true_eq_false, not_false_eq_true, Bool.not_eq_true', Bool.not_eq_false', beq_self_eq_true, Bool.not_true, Bool.not_false, List.getElem?_toArray, List.getElem?_cons_zero, List.getElem?_cons_succ, q5', q7', q10, q11, q45, q46, q47, kk, Int.toNat_zero]
        refine ⟨fun e3 => ?_, fun e3 => ?_⟩ <;> simp (disch := omega) only [↓stq, amv_at, vls, inf, frs, mark_eq, ↓reduceIte, Nat.reduceEqDiff, ite_tt, ite_ff, eq_self, and_true, true_and, and_self, implies_true, Bool.true_eq_false, Bool.false_eq_true, decide_true, decide_false, decide_eq_true_eq, decide_eq_false_iff_not, ne_eq, not_true_eq_false, not_false_eq_true, Bool.not_eq_true', Bool.not_eq_false', beq_self_eq_true, Bool.not_true, Bool.not_false, List.getElem?_toArray, List.getElem?_cons_zero, List.getElem?_cons_succ, q5', q7', q10, q11, q45, q46, q47, hone]
        · have hat : isAt L[i] = true := by unfold isAt; exact decide_eq_true (by omega)
          rw [if_pos hat] at hmo hmk
          rw [List.append_nil] at hmk
          rw [hone, show L[i].extract 1 L[i].size = cut1 L[i] from rfl]
          refine led_lit li25 (by omega) rfl (by simp [Value.cells, Value.oneCell']) l fun bl V _ l => ?_
          simp (disch := omega) only [↓stq, amv_at, vls, inf, frs, mark_eq, ↓reduceIte, Nat.reduceEqDiff, ite_tt, ite_ff, eq_self, and_true, true_and, and_self, implies_true, Bool.true_eq_false, Bool.false_eq_true, decide_true, decide_false, decide_eq_true_eq, decide_eq_false_iff_not, ne_eq, not_true_eq_false, not_false_eq_true, Bool.not_eq_true', Bool.not_eq_false', beq_self_eq_true, Bool.not_true, Bool.not_false, List.getElem?_toArray, List.getElem?_cons_zero, List.getElem?_cons_succ, q5', q7', q10, q11, q45, q46, q47]
          refine led_app (O := strO) ap25_25 (by decide) l (i := 2) rfl (l.src1 (S := strS) (j := 0) rfl ⟨rfl, by omega⟩) (by rw [List.length_singleton]; omega) fun f9 w9 V _ l => ?_
          simp (disch := omega) only [↓stq, amv_at, vls, inf, frs, mark_eq, ↓reduceIte, Nat.reduceEqDiff, ite_tt, ite_ff, eq_self, and_true, true_and, and_self, implies_true, Bool.true_eq_false, Bool.false_eq_true, decide_true, decide_false, decide_eq_true_eq, decide_eq_false_iff_not, ne_eq, not_true_eq_false, not_false_eq_true, Bool.not_eq_true', Bool.not_eq_false', beq_self_eq_true, Bool.not_true, Bool.not_false, List.getElem?_toArray, List.getElem?_cons_zero, List.getElem?_cons_succ, q5', q7', q10, q11, q45, q46, q47]
          exact ⟨_, by omega, i + 1, fm, wm, f9, w9, by omega, rfl, by rw [hmo, hmk]; exact l.tail, rfl, rfl, rfl⟩
        · have hat : ¬ isAt L[i] = true := by unfold isAt; rw [decide_eq_true_eq]; omega
          rw [if_neg hat] at hmo hmk
          rw [List.append_nil] at hmo
          refine led_lit li25 (by omega) rfl (by simp [Value.cells, Value.oneCell']) l fun bl V _ l => ?_
          simp (disch := omega) only [↓stq, amv_at, vls, inf, frs, mark_eq, ↓reduceIte, Nat.reduceEqDiff, ite_tt, ite_ff, eq_self, and_true, true_and, and_self, implies_true, Bool.true_eq_false, Bool.false_eq_true, decide_true, decide_false, decide_eq_true_eq, decide_eq_false_iff_not, ne_eq, not_true_eq_false, not_false_eq_true, Bool.not_eq_true', Bool.not_eq_false', beq_self_eq_true, Bool.not_true, Bool.not_false, List.getElem?_toArray, List.getElem?_cons_zero, List.getElem?_cons_succ, q5', q7', q10, q11, q45, q46, q47]
          refine led_app (O := strO) ap25_25 (by decide) l (i := 1) rfl (l.src1 (S := strS) (j := 0) rfl ⟨rfl, by omega⟩) (by rw [List.length_singleton]; omega) fun f9 w9 V _ l => ?_
          simp (disch := omega) only [↓stq, amv_at, vls, inf, frs, mark_eq, ↓reduceIte, Nat.reduceEqDiff, ite_tt, ite_ff, eq_self, and_true, true_and, and_self, implies_true, Bool.true_eq_false, Bool.false_eq_true, decide_true, decide_false, decide_eq_true_eq, decide_eq_false_iff_not, ne_eq, not_true_eq_false, not_false_eq_true, Bool.not_eq_true', Bool.not_eq_false', beq_self_eq_true, Bool.not_true, Bool.not_false, List.getElem?_toArray, List.getElem?_cons_zero, List.getElem?_cons_succ, q5', q7', q10, q11, q45, q46, q47]
          exact ⟨_, by omega, i + 1, f9, w9, fo, wo, by omega, rfl, by rw [hmo, hmk]; exact l.tail, rfl, rfl, rfl⟩
      have hie : i = L.length := by omega
      rw [hie, List.take_length] at l
      have hml := mrk_len L
      have hol := modW_len L
      have hiff := alike_iff ea eb L
      generalize mrk L = ms at l hml hiff
      generalize modW L = mo at l hol hiff
      obtain ⟨am, cm, rfl, _, _⟩ := (OSl.toS (show OSl 9 strO V fm wm ms from l.at (i := 0) rfl)).slice
      obtain ⟨ao, co, rfl, _, _⟩ := (OSl.toS (show OSl 9 strO V fo wo mo from l.at (i := 1) rfl)).slice
      · simp (disch := omega) only [↓stq, amv_at, vls, inf, frs, mark_eq, ↓reduceIte, Nat.reduceEqDiff, ite_tt, ite_ff, eq_self, and_true, true_and, and_self, implies_true, Bool.true_eq_false, Bool.false_eq_true, decide_true, decide_false, decide_eq_true_eq, decide_eq_false_iff_not, ne_eq, not_true_eq_false, not_false_eq_true, Bool.not_eq_true', Bool.not_eq_false', beq_self_eq_true, Bool.not_true, Bool.not_false, List.getElem?_toArray, List.getElem?_cons_zero, List.getElem?_cons_succ, q5', q7', q10, q11]
        refine aloop (fun d fr V => ∃ k : Nat, k ≤ mo.length ∧ d = mo.length - k ∧ Led A [osl 9 strO fm (.slice am ms.length cm) ms, osl 9 strO fo (.slice ao mo.length co) mo, osl 9 strO f4 (.slice aL L.length cL) L, bx q7 ⟨64, d2, 2, true⟩, exI f2 eb d2, bx q5 ⟨64, d1, 2, true⟩, exI f1 ea d1] V ∧ (∀ j (hj : j < mo.length), j < k → ∀ u, u < 2 ^ ms.length → ea.ev mo[j] (maskL ms u) = eb.ev mo[j] (maskL ms u)) ∧ fr 5 = .pointer (some ⟨q5, 0, none⟩) ∧ fr 7 = .pointer (some ⟨q7, 0, none⟩) ∧ fr 11 = .slice am ms.length cm ∧ fr 64 = .slice ao mo.length co ∧ fr 65 = .int .i64 mo.length ∧ fr 66 = .int .i64 k) mo.length ⟨0, by omega, by omega, l, fun j hj h => absurd h (Nat.not_lt_zero _), q5', q7', q11, by rfl, by rfl, by rfl⟩ ?_
        clear l q5' q7' q10 q11 q45 q46 q47
        rintro d fr V ⟨k, hk, rfl, l, hall, q5', q7', q11, q64, q65, q66⟩
        simp (disch := omega) only [↓stq, amv_at, vls, inf, frs, mark_eq, ↓reduceIte, Nat.reduceEqDiff, ite_tt, ite_ff, eq_self, and_true, true_and, and_self, implies_true, Bool.true_eq_false, Bool.false_eq_true, decide_true, decide_false, decide_eq_true_eq, decide_eq_false_iff_not, ne_eq, not_true_eq_false, not_false_eq_true, Bool.not_eq_true', Bool.not_eq_false', beq_self_eq_true, Bool.not_true, Bool.not_false, List.getElem?_toArray, List.getElem?_cons_zero, List.getElem?_cons_succ, q5', q7', q11, q64, q65, q66]
        refine ⟨fun e4 => ?_, fun e4 => ?_⟩
        · have hlt : k < mo.length := by omega
          obtain ⟨ad, hq, kk, zk⟩ := (OSl.toS (show OSl 9 strO V fo _ mo from l.at (i := 1) rfl)).str hlt
          subst hq
          have h6 : ms.length ≤ 6 := by omega
          have hpw : 2 ^ ms.length ≤ 64 := Nat.pow_le_pow_right (n := 2) (by omega) h6
          simp (disch := omega) only [↓stq, amv_at, vls, inf, frs, mark_eq, ↓reduceIte, Nat.reduceEqDiff, ite_tt, ite_ff, eq_self, and_true, true_and, and_self, implies_true, Bool.true_eq_false, Bool.false_eq_true, decide_true, decide_false, decide_eq_true_eq, decide_eq_false_iff_not, ne_eq, not_true_eq_false, not_false_eq_true, Bool.not_eq_true', Bool.not_eq_false', beq_self_eq_true, Bool.not_true, Bool.not_false, List.getElem?_toArray, List.getElem?_cons_zero, List.getElem?_cons_succ, q5', q7', q11, q64, q65, q66, kk, abin_shl1 _ _ _ ms.length h6]
          generalize hN : 2 ^ ms.length = N at hpw hall hiff
          refine aloop (fun d fr V => ∃ u : Nat, u ≤ N ∧ d = N - u ∧ Led A [osl 9 strO fm (.slice am ms.length cm) ms, osl 9 strO fo (.slice (some ad) mo.length co) mo, osl 9 strO f4 (.slice aL L.length cL) L, bx q7 ⟨64, d2, 2, true⟩, exI f2 eb d2, bx q5 ⟨64, d1, 2, true⟩, exI f1 ea d1] V ∧ (∀ v, v < u → ea.ev mo[k] (maskL ms v) = eb.ev mo[k] (maskL ms v)) ∧ fr 5 = .pointer (some ⟨q5, 0, none⟩) ∧ fr 7 = .pointer (some ⟨q7, 0, none⟩) ∧ fr 11 = .slice am ms.length cm ∧ fr 15 = .string mo[k] ∧ fr 64 = .slice (some ad) mo.length co ∧ fr 65 = .int .i64 mo.length ∧ fr 66 = .int .i64 k ∧ fr 72 = .int .i64 N ∧ fr 73 = .int .i64 u) N ⟨0, by omega, by omega, l, fun v h => absurd h (Nat.not_lt_zero _), q5', q7', q11, by rfl, q64, q65, q66, by rfl, by rfl⟩ ?_
          clear l kk q5' q7' q11 q64 q65 q66
          rintro d fr V ⟨u, hu, rfl, l, hal2, q5', q7', q11, q15, q64, q65, q66, q72, q73⟩
          simp (disch := omega) only [↓stq, amv_at, vls, inf, frs, mark_eq, ↓reduceIte, Nat.reduceEqDiff, ite_tt, ite_ff, eq_self, and_true, true_and, and_self, implies_true, Bool.true_eq_false, Bool.false_eq_true, decide_true, decide_false, decide_eq_true_eq, decide_eq_false_iff_not, ne_eq, not_true_eq_false, not_false_eq_true, Bool.not_eq_true', Bool.not_eq_false', beq_self_eq_true, Bool.not_true, Bool.not_false, List.getElem?_toArray, List.getElem?_cons_zero, List.getElem?_cons_succ, q5', q7', q11, q15, q64, q65, q66, q72, q73]
          refine ⟨fun e5 => ?_, fun e5 => ?_⟩
          · have hul : u < N := by omega
            simp (disch := omega) only [↓stq, amv_at, vls, inf, frs, mark_eq, ↓reduceIte, Nat.reduceEqDiff, ite_tt, ite_ff, eq_self, and_true, true_and, and_self, implies_true, Bool.true_eq_false, Bool.false_eq_true, decide_true, decide_false, decide_eq_true_eq, decide_eq_false_iff_not, ne_eq, not_true_eq_false, not_false_eq_true, Bool.not_eq_true', Bool.not_eq_false', beq_self_eq_true, Bool.not_true, Bool.not_false, List.getElem?_toArray, List.getElem?_cons_zero, List.getElem?_cons_succ, q5', q7', q11, q15, q64, q65, q66, q72, q73]
            refine led_lit0 (O := strO) li25 l fun bs V _ l => ?_
            simp (disch := omega) only [↓stq, amv_at, vls, inf, frs, mark_eq, ↓reduceIte, Nat.reduceEqDiff, ite_tt, ite_ff, eq_self, and_true, true_and, and_self, implies_true, Bool.true_eq_false, Bool.false_eq_true, decide_true, decide_false, decide_eq_true_eq, decide_eq_false_iff_not, ne_eq, not_true_eq_false, not_false_eq_true, Bool.not_eq_true', Bool.not_eq_false', beq_self_eq_true, Bool.not_true, Bool.not_false, List.getElem?_toArray, List.getElem?_cons_zero, List.getElem?_cons_succ, q5', q7', q11, q15, q64, q65, q66, q72, q73]
            refine aloop (fun d fr V => ∃ (i : Nat) (fs : List Nat) (ws : Value), i ≤ ms.length ∧ d = ms.length - i ∧ Led A [osl 9 strO fs ws (maskL (ms.take i) u), osl 9 strO fm (.slice am ms.length cm) ms, osl 9 strO fo (.slice (some ad) mo.length co) mo, osl 9 strO f4 (.slice aL L.length cL) L, bx q7 ⟨64, d2, 2, true⟩, exI f2 eb d2, bx q5 ⟨64, d1, 2, true⟩, exI f1 ea d1] V ∧ fr 5 = .pointer (some ⟨q5, 0, none⟩) ∧ fr 7 = .pointer (some ⟨q7, 0, none⟩) ∧ fr 11 = .slice am ms.length cm ∧ fr 15 = .string mo[k] ∧ fr 16 = .int .i64 u ∧ fr 17 = ws ∧ fr 64 = .slice (some ad) mo.length co ∧ fr 65 = .int .i64 mo.length ∧ fr 66 = .int .i64 k ∧ fr 72 = .int .i64 N ∧ fr 73 = .int .i64 u ∧ fr 77 = .slice am ms.length cm ∧ fr 78 = .int .i64 ms.length ∧ fr 79 = .int .i64 i) ms.length ⟨0, _, _, by omega, by omega, l, q5', q7', q11, q15, by rfl, by rfl, q64, q65, q66, q72, q73, by rfl, by rfl, by rfl⟩ ?_
            clear l q5' q7' q11 q15 q64 q65 q66 q72 q73
            rintro d fr V ⟨i, fs, ws, hi, rfl, l, q5', q7', q11, q15, q16, q17, q64, q65, q66, q72, q73, q77, q78, q79⟩
            simp (disch := omega) only [↓stq, amv_at, vls, inf, frs, mark_eq, ↓reduceIte, Nat.reduceEqDiff, ite_tt, ite_ff, eq_self, and_true, true_and, and_self, implies_true, Bool.true_eq_false, Bool.false_eq_true, decide_true, decide_false, decide_eq_true_eq, decide_eq_false_iff_not, ne_eq, not_true_eq_false, not_false_eq_true, Bool.not_eq_true', Bool.not_eq_false', beq_self_eq_true, Bool.not_true, Bool.not_false, List.getElem?_toArray, List.getElem?_cons_zero, List.getElem?_cons_succ, q5', q7', q11, q15, q16, q17, q64, q65, q66, q72, q73, q77, q78, q79]
            refine ⟨fun e6 => ?_, fun e6 => ?_⟩
            · have hil : i < ms.length := by omega
              have hmt := maskL_take hil u
              have hmx := maskL_len u (ms.take i)
              rw [List.length_take] at hmx
              have hdv : u / 2 ^ i < 64 := Nat.lt_of_le_of_lt (Nat.div_le_self ..) (by omega)
              obtain ⟨adm, hq, km, zm⟩ := (OSl.toS (show OSl 9 strO V fm _ ms from l.at (i := 1) rfl)).str hil
              simp (disch := omega) only [↓stq, amv_at, vls, inf, frs, mark_eq, ↓reduceIte, Nat.reduceEqDiff, ite_tt, ite_ff, eq_self, and_true, true_and, and_self, implies_true, Bool.true_eq_false, Bool.false_eq_true, decide_true, decide_false, decide_eq_true_eq, decide_eq_false_iff_not, ne_eq, not_true_eq_false, not_false_eq_true, Bool.not_eq_true', Bool.not_eq_false', beq_self_eq_true, Bool.not_true, Bool.not_false, List.getElem?_toArray, List.getElem?_cons_zero, List.getElem?_cons_succ, q5', q7', q11, q15, q16, q17, q64, q65, q66, q72, q73, q77, q78, q79, hq, km, abin_shrN _ _ _ u i (by omega), abin_and1 _ _ _ _ hdv]
              refine ⟨fun e7 => ?_, fun e7 => ?_⟩ <;> simp (disch := omega) only [↓stq, amv_at, vls, inf, frs, mark_eq, ↓reduceIte, Nat.reduceEqDiff, ite_tt, ite_ff, eq_self, and_true, true_and, and_self, implies_true, Bool.true_eq_false, Bool.false_eq_true, decide_true, decide_false, decide_eq_true_eq, decide_eq_false_iff_not, ne_eq, not_true_eq_false, not_false_eq_true, Bool.not_eq_true', Bool.not_eq_false', beq_self_eq_true, Bool.not_true, Bool.not_false, List.getElem?_toArray, List.getElem?_cons_zero, List.getElem?_cons_succ, q5', q7', q11, q15, q16, q17, q64, q65, q66, q72, q73, q77, q78, q79]
              · refine led_lit li25 (by omega) rfl (by simp [Value.cells, Value.oneCell']) l fun bl V _ l => ?_
                simp (disch := omega) only [↓stq, amv_at, vls, inf, frs, mark_eq, ↓reduceIte, Nat.reduceEqDiff, ite_tt, ite_ff, eq_self, and_true, true_and, and_self, implies_true, Bool.true_eq_false, Bool.false_eq_true, decide_true, decide_false, decide_eq_true_eq, decide_eq_false_iff_not, ne_eq, not_true_eq_false, not_false_eq_true, Bool.not_eq_true', Bool.not_eq_false', beq_self_eq_true, Bool.not_true, Bool.not_false, List.getElem?_toArray, List.getElem?_cons_zero, List.getElem?_cons_succ, q5', q7', q11, q15, q16, q17, q64, q65, q66, q72, q73, q77, q78, q79]
                refine led_app (O := strO) ap25_25 (by decide) l (i := 1) rfl (l.src1 (S := strS) (j := 0) rfl ⟨rfl, zm⟩) (by rw [List.length_singleton]; omega) fun f9 w9 V _ l => ?_
                simp (disch := omega) only [↓stq, amv_at, vls, inf, frs, mark_eq, ↓reduceIte, Nat.reduceEqDiff, ite_tt, ite_ff, eq_self, and_true, true_and, and_self, implies_true, Bool.true_eq_false, Bool.false_eq_true, decide_true, decide_false, decide_eq_true_eq, decide_eq_false_iff_not, ne_eq, not_true_eq_false, not_false_eq_true, Bool.not_eq_true', Bool.not_eq_false', beq_self_eq_true, Bool.not_true, Bool.not_false, List.getElem?_toArray, List.getElem?_cons_zero, List.getElem?_cons_succ, q5', q7', q11, q15, q16, q17, q64, q65, q66, q72, q73, q77, q78, q79]
                rw [if_pos (by omega)] at hmt
                exact ⟨_, by omega, i + 1, f9, w9, by omega, rfl, by rw [hmt]; exact l.tail, rfl, rfl⟩
              · rw [if_neg (by omega), List.append_nil] at hmt
                exact ⟨_, by omega, i + 1, fs, ws, by omega, rfl, by rw [hmt]; exact l, rfl, rfl⟩
            · have hie : i = ms.length := by omega
              rw [hie, List.take_length] at l
              obtain ⟨as', cs', rfl, _, _⟩ := (OSl.toS (show OSl 9 strO V fs ws _ from l.at (i := 0) rfl)).slice
              have x1 : ExR V ea d1 := exI_r (l.at (i := 7) rfl)
              have x2 : ExR V eb d2 := exI_r (l.at (i := 5) rfl)
              have k5 : V.part ⟨q5, 0, none⟩ 2 = some d1 := l.partn (i := 6) rfl hd1.1 hd1.2
              have k7 : V.part ⟨q7, 0, none⟩ 2 = some d2 := l.partn (i := 4) rfl hd2.1 hd2.2
              simp (disch := omega) only [↓stq, amv_at, vls, inf, frs, mark_eq, ↓reduceIte, Nat.reduceEqDiff, ite_tt, ite_ff, eq_self, and_true, true_and, and_self, implies_true, Bool.true_eq_false, Bool.false_eq_true, decide_true, decide_false, decide_eq_true_eq, decide_eq_false_iff_not, ne_eq, not_true_eq_false, not_false_eq_true, Bool.not_eq_true', Bool.not_eq_false', beq_self_eq_true, Bool.not_true, Bool.not_false, List.getElem?_toArray, List.getElem?_cons_zero, List.getElem?_cons_succ, q5', q7', q11, q15, q16, q17, q64, q65, q66, q72, q73, q77, q78, q79]
              refine adraw_items [.l 0 false, .q 1, .q 2, .l 4 true, .q 5, .q 6, .c 3 [4], .c 7 [], .q 8] (by kernel_rfl) (by kernel_rfl) ?_
              simp (disch := omega) only [↓stq, amv_at, ↓pln, plv, nilOk, Nat.reduceBEq, Bool.or_false, Bool.or_true, Bool.false_or, Bool.true_or, vls, inf, frs, mark_eq, ↓reduceIte, Nat.reduceEqDiff, ite_tt, ite_ff, eq_self, and_true, true_and, and_self, implies_true, Bool.true_eq_false, Bool.false_eq_true, decide_true, decide_false, decide_eq_true_eq, decide_eq_false_iff_not, ne_eq, not_true_eq_false, not_false_eq_true, Bool.not_eq_true', Bool.not_eq_false', beq_self_eq_true, Bool.not_true, Bool.not_false, List.getElem?_toArray, List.getElem?_cons_zero, List.getElem?_cons_succ, q5', q7', q11, q15, q16, q17, q64, q65, q66, q72, q73, q77, q78, q79, k5, k7]
              refine (impl_holds_c mo[k] _ (maskL ms u) ea V d1 x1 (OSl.toS (l.at (i := 0) rfl))).mono ?_
              rintro _ V7 ⟨rfl, he7⟩
              replace l := l.step he7
              have k5 := he7.part k5
              have k7 := he7.part k7
              simp (disch := omega) only [↓stq, amv_at, ↓pln, plv, nilOk, Nat.reduceBEq, Bool.or_false, Bool.or_true, Bool.false_or, Bool.true_or, vls, inf, frs, mark_eq, ↓reduceIte, Nat.reduceEqDiff, ite_tt, ite_ff, eq_self, and_true, true_and, and_self, implies_true, Bool.true_eq_false, Bool.false_eq_true, decide_true, decide_false, decide_eq_true_eq, decide_eq_false_iff_not, ne_eq, not_true_eq_false, not_false_eq_true, Bool.not_eq_true', Bool.not_eq_false', beq_self_eq_true, Bool.not_true, Bool.not_false, List.getElem?_toArray, List.getElem?_cons_zero, List.getElem?_cons_succ, q5', q7', q11, q15, q16, q17, q64, q65, q66, q72, q73, q77, q78, q79, k5, k7]
              refine (impl_holds_c mo[k] _ (maskL ms u) eb V7 d2 (x2.mono he7) (OSl.toS (l.at (i := 0) rfl))).mono ?_
              rintro _ V8 ⟨rfl, he8⟩
              replace l := l.step he8
              have k5 := he8.part k5
              have k7 := he8.part k7
              by_cases hq : ea.ev mo[k] (maskL ms u) = eb.ev mo[k] (maskL ms u)
              · have hbb : (!(ea.ev mo[k] (maskL ms u) == eb.ev mo[k] (maskL ms u))) = false := by rw [hq]; simp
                simp (disch := omega) only [↓stq, amv_at, ↓pln, plv, nilOk, Nat.reduceBEq, Bool.or_false, Bool.or_true, Bool.false_or, Bool.true_or, vls, inf, frs, mark_eq, ↓reduceIte, Nat.reduceEqDiff, ite_tt, ite_ff, eq_self, and_true, true_and, and_self, implies_true, Bool.true_eq_false, Bool.false_eq_true, decide_true, decide_false, decide_eq_true_eq, decide_eq_false_iff_not, ne_eq, not_true_eq_false, not_false_eq_true, Bool.not_eq_true', Bool.not_eq_false', beq_self_eq_true, Bool.not_true, Bool.not_false, List.getElem?_toArray, List.getElem?_cons_zero, List.getElem?_cons_succ, q5', q7', q11, q15, q16, q17, q64, q65, q66, q72, q73, q77, q78, q79, k5, k7, hbb]
                refine ⟨_, by omega, u + 1, by omega, rfl, l.tail, fun v hv => ?_, rfl⟩
                rcases Nat.lt_succ_iff_lt_or_eq.1 hv with hv | rfl
                · exact hal2 v hv
                · exact hq
              · have hbb : (!(ea.ev mo[k] (maskL ms u) == eb.ev mo[k] (maskL ms u))) = true := by
                  rw [Bool.not_eq_true', beq_eq_false_iff_ne]
                  exact hq
                have hfalse : alike ea eb (worldsR L) = false := by
                  rw [← Bool.not_eq_true]
                  exact fun h => hq (hiff.1 h _ (List.getElem_mem hlt) u hul)
                simp (disch := omega) only [↓stq, amv_at, ↓pln, plv, nilOk, Nat.reduceBEq, Bool.or_false, Bool.or_true, Bool.false_or, Bool.true_or, vls, inf, frs, mark_eq, ↓reduceIte, Nat.reduceEqDiff, ite_tt, ite_ff, eq_self, and_true, true_and, and_self, implies_true, Bool.true_eq_false, Bool.false_eq_true, decide_true, decide_false, decide_eq_true_eq, decide_eq_false_iff_not, ne_eq, not_true_eq_false, not_false_eq_true, Bool.not_eq_true', Bool.not_eq_false', beq_self_eq_true, Bool.not_true, Bool.not_false, List.getElem?_toArray, List.getElem?_cons_zero, List.getElem?_cons_succ, q5', q7', q11, q15, q16, q17, q64, q65, q66, q72, q73, q77, q78, q79, k5, k7, hbb]
                rw [hfalse]
                exact ⟨rfl, l.ext⟩
          · have hue : u = N := by omega
            simp (disch := omega) only [↓stq, amv_at, vls, inf, frs, mark_eq, ↓reduceIte, Nat.reduceEqDiff, ite_tt, ite_ff, eq_self, and_true, true_and, and_self, implies_true, Bool.true_eq_false, Bool.false_eq_true, decide_true, decide_false, decide_eq_true_eq, decide_eq_false_iff_not, ne_eq, not_true_eq_false, not_false_eq_true, Bool.not_eq_true', Bool.not_eq_false', beq_self_eq_true, Bool.not_true, Bool.not_false, List.getElem?_toArray, List.getElem?_cons_zero, List.getElem?_cons_succ, q5', q7', q11, q64, q65, q66, q72, q73]
            refine ⟨_, by omega, k + 1, by omega, rfl, l, fun j hj h => ?_, rfl⟩
            rcases Nat.lt_succ_iff_lt_or_eq.1 h with h | rfl
            · exact hall j hj h
            · intro v hv
              exact hal2 v (by omega)
        · have hal : alike ea eb (worldsR L) = true := hiff.2 fun m hm u hu => by
            obtain ⟨j, hj, rfl⟩ := List.mem_iff_getElem.1 hm
            exact hall j hj (by omega) u hu
          simp (disch := omega) only [↓stq, amv_at, vls, inf, frs, mark_eq, ↓reduceIte, Nat.reduceEqDiff, ite_tt, ite_ff, eq_self, and_true, true_and, and_self, implies_true, Bool.true_eq_false, Bool.false_eq_true, decide_true, decide_false, decide_eq_true_eq, decide_eq_false_iff_not, ne_eq, not_true_eq_false, not_false_eq_true, Bool.not_eq_true', Bool.not_eq_false', beq_self_eq_true, Bool.not_true, Bool.not_false, List.getElem?_toArray, List.getElem?_cons_zero, List.getElem?_cons_succ, q5', q7', q11, q64, q65, q66]
          rw [hal]
          exact ⟨rfl, l.ext⟩

end Go.Proofs.Ytbddklkfekiaeaa

