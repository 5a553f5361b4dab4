/- Closures: sorting by scope, plain words, the program and the reference. -/
import Derived.Test.YtjojofnkgeiadaaZ7
import Derived.Test.YtjojofnkgeiadaaN3
import Derived.Test.YtjojofnkgeiadaaY3
set_option maxHeartbeats 4000000
set_option synthInstance.maxHeartbeats 400000
set_option synthInstance.maxSize 4096
set_option linter.unusedSimpArgs false
set_option linter.unusedVariables false
namespace Go.Proofs.Ytjojofnkgeiadaa

set_option maxRecDepth 100000

section
variable {α : Type} {f : α → Int} {x : α} {S R : List α} {j : Nat}

/-- x put behind all that is az great. -/
def ssIns (f : α → Int) (x : α) (S : List α) : List α := S.takeWhile (fun y => decide (f x ≤ f y)) ++ x :: S.dropWhile (fun y => decide (f x ≤ f y))
def ssort (f : α → Int) (xs : List α) : List α := xs.foldl (fun S x => ssIns f x S) []
/-- Great values come first. -/
def Desc (f : α → Int) (S : List α) : Prop := S.Pairwise fun a b => f b ≤ f a

theorem ssIns_cons (s : α) : ssIns f x (s :: S) = if f x ≤ f s then s :: ssIns f x S else x :: s :: S := by
  unfold ssIns
  by_cases h : f x ≤ f s <;> simp [List.takeWhile, List.dropWhile, h]
theorem ssIns_mem {y : α} : y ∈ ssIns f x S ↔ y = x ∨ y ∈ S := by
  induction S with
  | nil => simp [ssIns]
  | cons s S ih =>
    rw [ssIns_cons]
    split
    · rw [List.mem_cons, ih, List.mem_cons]
      constructor <;> rintro (h | h | h) <;> simp [h]
    · simp
theorem ssIns_len : (ssIns f x S).length = S.length + 1 := by
  induction S with
  | nil => simp [ssIns]
  | cons s S ih =>
    rw [ssIns_cons]
    split
    · simp [ih]
    · simp
theorem ssIns_desc (h : Desc f S) : Desc f (ssIns f x S) := by
  unfold Desc at *
  induction S with
  | nil => simp [ssIns]
  | cons s S ih =>
    rw [List.pairwise_cons] at h
    rw [ssIns_cons]
    split
    · rename_i hx
      refine List.pairwise_cons.2 ⟨fun y hy => ?_, ih h.2⟩
      rcases ssIns_mem.1 hy with rfl | hy
      · exact hx
      · exact h.1 y hy
    · rename_i hx
      refine List.pairwise_cons.2 ⟨fun y hy => ?_, List.pairwise_cons.2 h⟩
      rcases List.mem_cons.1 hy with rfl | hy
      · omega
      · have := h.1 y hy; omega
theorem ssIns_split {P Q : List α} (hp : ∀ y, y ∈ P → f x ≤ f y) (hq : ∀ y, y ∈ Q → f y < f x) : ssIns f x (P ++ Q) = P ++ x :: Q := by
  induction P with
  | nil =>
    cases Q with
    | nil => simp [ssIns]
    | cons q Q =>
      have := hq q (by simp)
      rw [List.nil_append, ssIns_cons, if_neg (by omega)]; rfl
  | cons p P ih =>
    rw [List.cons_append, ssIns_cons, if_pos (hp p (by simp)), ih fun y hy => hp y (by simp [hy])]; rfl

theorem ssort_take {xs : List α} {i : Nat} (h : i < xs.length) : ssort f (xs.take (i + 1)) = ssIns f xs[i] (ssort f (xs.take i)) := by
  unfold ssort
  rw [List.take_succ_eq_append_getElem h, List.foldl_append]; rfl
theorem ssort_snoc (xs : List α) (x : α) : ssort f (xs ++ [x]) = ssIns f x (ssort f xs) := by
  unfold ssort
  rw [List.foldl_append]; rfl
theorem ssort_len (xs : List α) : (ssort f xs).length = xs.length := by
  rw [← List.reverse_reverse xs]
  induction xs.reverse with
  | nil => rfl
  | cons y ys ih => rw [List.reverse_cons, ssort_snoc, ssIns_len, ih, List.length_append]; rfl
theorem ssort_desc (xs : List α) : Desc f (ssort f xs) := by
  rw [← List.reverse_reverse xs]
  induction xs.reverse with
  | nil => exact List.Pairwise.nil
  | cons y ys ih => rw [List.reverse_cons, ssort_snoc]; exact ssIns_desc ih
theorem ssort_mem (xs : List α) (z : α) : z ∈ ssort f xs ↔ z ∈ xs := by
  rw [← List.reverse_reverse xs]
  induction xs.reverse with
  | nil => simp [ssort]
  | cons y ys ih =>
    rw [List.reverse_cons, ssort_snoc, ssIns_mem, ih, List.mem_append, List.mem_singleton]
    exact Or.comm
theorem ssort_one (xs : List α) : ssort f (xs.take 1) ++ xs.drop 1 = xs := by
  cases xs <;> rfl

theorem desc_upto (h : Desc f S) (h0 : 0 < j) (hj : j ≤ S.length) {y : α} (hy : y ∈ S.take j) : f S[j - 1] ≤ f y := by
  obtain ⟨k, hk, rfl⟩ := List.mem_iff_getElem.1 hy
  rw [List.length_take] at hk
  rw [List.getElem_take]
  by_cases hkj : k = j - 1
  · subst hkj; omega
  · exact List.pairwise_iff_getElem.1 h k (j - 1) (by omega) (by omega) (by omega)
theorem desc_from (h : Desc f S) (hj : j < S.length) {y : α} (hy : y ∈ S.drop j) : f y ≤ f S[j] := by
  obtain ⟨k, hk, rfl⟩ := List.mem_iff_getElem.1 hy
  rw [List.length_drop] at hk
  rw [List.getElem_drop]
  by_cases hkj : k = 0
  · subst hkj; exact Int.le_refl _
  · exact List.pairwise_iff_getElem.1 h j (j + k) (by omega) (by omega) (by omega)

/-- x stands at j among S. -/
def ssW (S : List α) (x : α) (j : Nat) : List α := S.take j ++ x :: S.drop j
theorem ssW_len (hj : j ≤ S.length) : (ssW S x j ++ R).length = S.length + 1 + R.length := by
  simp [ssW]; omega
theorem ssW_at (hj : j ≤ S.length) : (ssW S x j ++ R)[j]? = some x := by
  unfold ssW
  rw [List.append_assoc, List.getElem?_append_right (by simp; omega)]
  simp [Nat.min_eq_left hj]
theorem ssW_prev (h0 : 0 < j) (hj : j ≤ S.length) : (ssW S x j ++ R)[j - 1]? = some S[j - 1] := by
  unfold ssW
  rw [List.append_assoc, List.getElem?_append_left (by simp; omega), List.getElem?_take_of_lt (by omega), List.getElem?_eq_getElem (by omega)]
theorem ssW_swap (h0 : 0 < j) (hj : j ≤ S.length) : ((ssW S x j ++ R).set j S[j - 1]).set (j - 1) x = ssW S x (j - 1) ++ R := by
  obtain ⟨m, rfl⟩ : ∃ m, j = m + 1 := ⟨j - 1, by omega⟩
  have h1 : S.take (m + 1) = S.take m ++ [S[m]] := List.take_succ_eq_append_getElem (by omega)
  have h2 : S.drop m = S[m] :: S.drop (m + 1) := List.drop_eq_getElem_cons (by omega)
  have h3 : (S.take m).length = m := by simp; omega
  unfold ssW
  simp only [Nat.add_sub_cancel]
  rw [h1, h2]
  simp only [List.append_assoc, List.cons_append, List.nil_append]
  rw [List.set_append_right _ _ (by omega), h3, show m + 1 - m = 1 by omega, List.set_append_right _ _ (by omega), h3, Nat.sub_self]
  rfl
theorem ssW_full (h : R = x :: R.tail) : S ++ R = ssW S x S.length ++ R.tail := by
  unfold ssW
  rw [List.take_length, List.drop_length, List.append_assoc]
  conv => lhs; rw [h]
  rfl
end

theorem led_setelem {P : Program} {A V : View} {L : List It} {K : Value → View → Prop} {α : Type} {O : OwnS α} [Flat O] {t e : TypeId} {i k j b c o n : Nat} {fp : List Nat} {xs : List α} {val : Value} {x' : α} (h : Led A L V) (hi : L[i]? = some (osl e O fp (.slice (some ⟨b, 0, none⟩) n c) xs)) (hk : k < xs.length) (hs : (P.info? t).map (·.size) = some 1)
    (ho : o = k * O.S.size + j) (hv : val.cells = #[val] ∧ val.oneCell' = true) (hx : ∀ d, O.S.rel V xs[k] d → j < d.length ∧ O.S.rel V x' (d.set j val))
    (hK : ∀ W, Only fp V W → Led A (L.set i (osl e O fp (.slice (some ⟨b, 0, none⟩) n c) (xs.set k x'))) W → K undef W) : astore P t (.pointer (some ⟨b, o, none⟩)) val V K := by
  have hn : n = xs.length := by
    obtain ⟨_, ⟨hq, _⟩ | ⟨_, _, _, _, hq, _⟩⟩ := (show OSl e O V fp _ xs from h.at hi)
    · cases hq
    · injection hq
  subst hn
  exact led_setfield h hi hk hs ho hv hx hK

theorem insSort_c (B A : View) (L : List It) (fp : List Nat) (v : Value) (xs : List ByteArray) (g : Nat) (first cap : Array Value) (f : ByteArray → Int) (hg : callable Try.prog g = true) (hsm : xs.length ≤ 16777216)
    (hcmp : ∀ V w, Led B (osl 9 strO fp v w :: L) V → ∀ x y : ByteArray, x ∈ xs → y ∈ xs → ACalls Try.prog g (first ++ #[.string x, .string y] ++ cap) V fun r V' => r = .int .i64 (f y - f x) ∧ Ext V V')
    (l : Led B (osl 9 strO fp v xs :: L) A) : ACalls Try.prog 146 #[v, .int .i64 0, .int .i64 xs.length, .func (.func g) first cap] A fun _ V => Led B (osl 9 strO fp v (ssort f xs) :: L) V := by
  obtain ⟨ar, c, rfl, hc, hl⟩ := (show Sl strS A v xs from OSl.toS (show OSl 9 strO A fp v xs from l.at (i := 0) rfl)).slice
  refine acalls Try.func146 rfl (by kernel_rfl) ?_
  simp (disch := omega) only [↓stq, amv_at, vls, inf, frs, mark_eq, ↓reduceIte, Nat.reduceEqDiff, ite_tt, ite_ff, eq_self, and_true, true_and, and_self, implies_true, Bool.true_eq_false, Bool.false_eq_true, decide_true, decide_false, decide_eq_true_eq, decide_eq_false_iff_not, ne_eq, not_true_eq_false, not_false_eq_true, Bool.not_eq_true', Bool.not_eq_false', beq_self_eq_true, Bool.not_true, Bool.not_false, List.getElem?_toArray, List.getElem?_cons_zero, List.getElem?_cons_succ]
  refine aloop (fun d fr V => ∃ i : Nat, 1 ≤ i ∧ (i ≤ xs.length ∨ i = 1) ∧ d = xs.length - i ∧ Led B (osl 9 strO fp (.slice ar xs.length c) (ssort f (xs.take i) ++ xs.drop i) :: L) V ∧ fr 0 = .slice ar xs.length c ∧ fr 1 = .int .i64 0 ∧ fr 2 = .int .i64 xs.length ∧ fr 3 = .func (.func g) first cap ∧ fr 8 = .int .i64 i) (xs.length - 1) ⟨1, by omega, .inr rfl, rfl, by rw [ssort_one]; exact l, rfl, rfl, rfl, rfl, rfl⟩ ?_
  rintro d fr V ⟨i, hi1, hi, rfl, l, h0, h1, h2, h3, h8⟩
  simp (disch := omega) only [↓stq, amv_at, vls, inf, frs, mark_eq, ↓reduceIte, Nat.reduceEqDiff, ite_tt, ite_ff, eq_self, and_true, true_and, and_self, implies_true, Bool.true_eq_false, Bool.false_eq_true, decide_true, decide_false, decide_eq_true_eq, decide_eq_false_iff_not, ne_eq, not_true_eq_false, not_false_eq_true, Bool.not_eq_true', Bool.not_eq_false', beq_self_eq_true, Bool.not_true, Bool.not_false, List.getElem?_toArray, List.getElem?_cons_zero, List.getElem?_cons_succ, h0, h1, h2, h3, h8]
  refine ⟨fun e => ?_, fun e => ?_⟩
  · have hlt : i < xs.length := by omega
    have hR : xs.drop i = xs[i] :: (xs.drop i).tail := by rw [List.tail_drop, ← List.drop_eq_getElem_cons]
    have hS : (ssort f (xs.take i)).length = i := by rw [ssort_len, List.length_take]; omega
    have hD := ssort_desc (f := f) (xs.take i)
    have hts := ssort_take (f := f) hlt
    have hSm : ∀ y, y ∈ ssort f (xs.take i) → y ∈ xs := fun y hy => List.mem_of_mem_take ((ssort_mem ..).1 hy)
    rw [ssW_full hR, hS, List.tail_drop] at l
    generalize ssort f (xs.take i) = S at l hS hD hts hSm
    simp (disch := omega) only [↓stq, amv_at, vls, inf, frs, mark_eq, ↓reduceIte, Nat.reduceEqDiff, ite_tt, ite_ff, eq_self, and_true, true_and, and_self, implies_true, Bool.true_eq_false, Bool.false_eq_true, decide_true, decide_false, decide_eq_true_eq, decide_eq_false_iff_not, ne_eq, not_true_eq_false, not_false_eq_true, Bool.not_eq_true', Bool.not_eq_false', beq_self_eq_true, Bool.not_true, Bool.not_false, List.getElem?_toArray, List.getElem?_cons_zero, List.getElem?_cons_succ, h0, h1, h2, h3, h8]
    refine aloop (fun d fr V => ∃ j : Nat, j ≤ i ∧ d = j ∧ (∀ y, y ∈ S.drop j → f y < f xs[i]) ∧ Led B (osl 9 strO fp (.slice ar xs.length c) (ssW S xs[i] j ++ xs.drop (i + 1)) :: L) V ∧ fr 0 = .slice ar xs.length c ∧ fr 1 = .int .i64 0 ∧ fr 2 = .int .i64 xs.length ∧ fr 3 = .func (.func g) first cap ∧ fr 8 = .int .i64 i ∧ fr 9 = .int .i64 j) i ⟨i, by omega, rfl, ?_, l, h0, h1, h2, h3, h8, rfl⟩ ?_
    · intro y hy
      rw [← hS, List.drop_length] at hy
      cases hy
    clear l
    rintro d fr V ⟨j, hj, rfl, hgt, l, h0, h1, h2, h3, h8, h9⟩
    have hwl : (ssW S xs[i] d ++ xs.drop (i + 1)).length = xs.length := by rw [ssW_len (by omega), List.length_drop]; omega
    have hat : (ssW S xs[i] d ++ xs.drop (i + 1))[d]? = some xs[i] := ssW_at (by omega)
    have hfin : (∀ y, y ∈ S.take d → f xs[i] ≤ f y) → ssort f (xs.take (i + 1)) = ssW S xs[i] d := fun hq => by
      rw [hts]
      conv => lhs; rw [← List.take_append_drop d S]
      exact ssIns_split hq hgt
    refine adraw_items [.q 0, .q 1, .q 2, .q 3, .q 4, .q 5, .q 6, .q 7, .l 8 false, .q 9, .q 10, .q 11, .q 12, .l 13 false, .c 14 [], .q 15, .q 16] (by kernel_rfl) (by kernel_rfl) ?_
    simp (disch := omega) only [↓stq, amv_at, ↓pln, plv, nilOk, Nat.reduceBEq, Bool.or_false, Bool.or_true, Bool.false_or, Bool.true_or, vls, inf, frs, mark_eq, ↓reduceIte, Nat.reduceEqDiff, ite_tt, ite_ff, eq_self, and_true, true_and, and_self, implies_true, Bool.true_eq_false, Bool.false_eq_true, decide_true, decide_false, decide_eq_true_eq, decide_eq_false_iff_not, ne_eq, not_true_eq_false, not_false_eq_true, Bool.not_eq_true', Bool.not_eq_false', beq_self_eq_true, Bool.not_true, Bool.not_false, List.getElem?_toArray, List.getElem?_cons_zero, List.getElem?_cons_succ, h0, h1, h2, h3, h8, h9]
    refine ⟨fun e1 => ?_, fun e1 => ?_⟩
    · have hpr := ssW_prev (S := S) (x := xs[i]) (R := xs.drop (i + 1)) (j := d) (by omega) (by omega)
      have hsw := ssW_swap (S := S) (x := xs[i]) (R := xs.drop (i + 1)) (j := d) (by omega) (by omega)
      have hm : (S[d - 1]'(by omega)) ∈ S.take d := by
        rw [List.mem_iff_getElem]
        exact ⟨d - 1, by rw [List.length_take]; omega, by rw [List.getElem_take]⟩
      generalize hw : ssW S xs[i] d ++ xs.drop (i + 1) = w at l hwl hat hpr hsw
      have hO : OSl 9 strO V fp (.slice ar xs.length c) w := l.at (i := 0) rfl
      obtain ⟨ad, rfl, k1, z1⟩ := Sl.str (OSl.toS hO) (i := d) (by omega)
      obtain ⟨ad', hq, k2, z2⟩ := Sl.str (OSl.toS hO) (i := d - 1) (by omega)
      obtain rfl := Option.some.inj hq
      rw [List.getElem?_eq_getElem (by omega)] at hat hpr
      have hat := Option.some.inj hat
      have hpr := Option.some.inj hpr
      rw [hat] at k1 z1
      rw [hpr] at k2 z2
      have hdd : ((d : Int) - 1).toNat = d - 1 := by omega
      simp (disch := omega) only [↓stq, amv_at, ↓pln, plv, nilOk, Nat.reduceBEq, Bool.or_false, Bool.or_true, Bool.false_or, Bool.true_or, vls, inf, frs, mark_eq, ↓reduceIte, Nat.reduceEqDiff, ite_tt, ite_ff, eq_self, and_true, true_and, and_self, implies_true, Bool.true_eq_false, Bool.false_eq_true, decide_true, decide_false, decide_eq_true_eq, decide_eq_false_iff_not, ne_eq, not_true_eq_false, not_false_eq_true, Bool.not_eq_true', Bool.not_eq_false', beq_self_eq_true, Bool.not_true, Bool.not_false, List.getElem?_toArray, List.getElem?_cons_zero, List.getElem?_cons_succ, h0, h1, h2, h3, h8, h9, e1, k1, k2, hdd]
      rw [acall_at hg]
      refine (hcmp V w l xs[i] (S[d - 1]'(by omega)) (List.getElem_mem _) (hSm _ (List.getElem_mem _))).mono ?_
      rintro _ V' ⟨rfl, he⟩
      replace k1 := he.cell k1
      replace k2 := he.cell k2
      replace l := l.step he
      simp (disch := omega) only [↓stq, amv_at, ↓pln, plv, nilOk, Nat.reduceBEq, Bool.or_false, Bool.or_true, Bool.false_or, Bool.true_or, vls, inf, frs, mark_eq, ↓reduceIte, Nat.reduceEqDiff, ite_tt, ite_ff, eq_self, and_true, true_and, and_self, implies_true, Bool.true_eq_false, Bool.false_eq_true, decide_true, decide_false, decide_eq_true_eq, decide_eq_false_iff_not, ne_eq, not_true_eq_false, not_false_eq_true, Bool.not_eq_true', Bool.not_eq_false', beq_self_eq_true, Bool.not_true, Bool.not_false, List.getElem?_toArray, List.getElem?_cons_zero, List.getElem?_cons_succ, h0, h1, h2, h3, h8, h9, e1, k1, k2, hdd]
      refine ⟨fun e2 => ?_, fun e2 => ?_⟩
      · simp (disch := omega) only [↓stq, amv_at, vls, inf, frs, mark_eq, ↓reduceIte, Nat.reduceEqDiff, ite_tt, ite_ff, eq_self, and_true, true_and, and_self, implies_true, Bool.true_eq_false, Bool.false_eq_true, decide_true, decide_false, decide_eq_true_eq, decide_eq_false_iff_not, ne_eq, not_true_eq_false, not_false_eq_true, Bool.not_eq_true', Bool.not_eq_false', beq_self_eq_true, Bool.not_true, Bool.not_false, List.getElem?_toArray, List.getElem?_cons_zero, List.getElem?_cons_succ, h0, h1, h2, h3, h8, h9]
        refine adraw_items [.q 0, .q 1, .q 2, .q 3, .q 4, .q 5, .q 6, .q 7, .q 8, .l 9 false, .q 10, .q 11, .q 12, .l 13 false, .q 14, .c 15 [], .q 16, .c 17 []] (by kernel_rfl) (by kernel_rfl) ?_
        simp (disch := omega) only [↓stq, amv_at, ↓pln, plv, nilOk, Nat.reduceBEq, Bool.or_false, Bool.or_true, Bool.false_or, Bool.true_or, vls, inf, frs, mark_eq, ↓reduceIte, Nat.reduceEqDiff, ite_tt, ite_ff, eq_self, and_true, true_and, and_self, implies_true, Bool.true_eq_false, Bool.false_eq_true, decide_true, decide_false, decide_eq_true_eq, decide_eq_false_iff_not, ne_eq, not_true_eq_false, not_false_eq_true, Bool.not_eq_true', Bool.not_eq_false', beq_self_eq_true, Bool.not_true, Bool.not_false, List.getElem?_toArray, List.getElem?_cons_zero, List.getElem?_cons_succ, h0, h1, h2, h3, h8, h9, k1, k2, hdd]
        obtain ⟨b, rfl⟩ : ∃ b, ad = ⟨b, 0, none⟩ := by
          obtain ⟨_, ⟨hq, _⟩ | ⟨b, _, _, _, hq, _⟩⟩ := hO
          · cases hq
          · injection hq with hq; exact ⟨b, Option.some.inj hq⟩
        rw [add_at]
        refine led_setelem (x' := S[d - 1]'(by omega)) l (i := 0) (k := d) rfl (by omega) sz9 (j := 0) (by show 0 + d = d * 1 + 0; omega) ⟨rfl, rfl⟩ (fun q hq => by rw [hq.1]; exact ⟨Nat.one_pos, rfl, z2⟩) fun W _ l => ?_
        simp (disch := omega) only [↓stq, amv_at, ↓pln, plv, nilOk, Nat.reduceBEq, Bool.or_false, Bool.or_true, Bool.false_or, Bool.true_or, vls, inf, frs, mark_eq, ↓reduceIte, Nat.reduceEqDiff, ite_tt, ite_ff, eq_self, and_true, true_and, and_self, implies_true, Bool.true_eq_false, Bool.false_eq_true, decide_true, decide_false, decide_eq_true_eq, decide_eq_false_iff_not, ne_eq, not_true_eq_false, not_false_eq_true, Bool.not_eq_true', Bool.not_eq_false', beq_self_eq_true, Bool.not_true, Bool.not_false, List.getElem?_toArray, List.getElem?_cons_zero, List.getElem?_cons_succ, h0, h1, h2, h3, h8, h9, k1, k2, hdd]
        rw [add_at]
        refine led_setelem (x' := xs[i]) l (i := 0) (k := d - 1) rfl (by rw [List.length_set]; omega) sz9 (j := 0) (by show 0 + (d - 1) = (d - 1) * 1 + 0; omega) ⟨rfl, rfl⟩ (fun q hq => by rw [hq.1]; exact ⟨Nat.one_pos, rfl, z1⟩) fun W2 _ l => ?_
        simp (disch := omega) only [↓stq, amv_at, ↓pln, plv, nilOk, Nat.reduceBEq, Bool.or_false, Bool.or_true, Bool.false_or, Bool.true_or, vls, inf, frs, mark_eq, ↓reduceIte, Nat.reduceEqDiff, ite_tt, ite_ff, eq_self, and_true, true_and, and_self, implies_true, Bool.true_eq_false, Bool.false_eq_true, decide_true, decide_false, decide_eq_true_eq, decide_eq_false_iff_not, ne_eq, not_true_eq_false, not_false_eq_true, Bool.not_eq_true', Bool.not_eq_false', beq_self_eq_true, Bool.not_true, Bool.not_false, List.getElem?_toArray, List.getElem?_cons_zero, List.getElem?_cons_succ, h0, h1, h2, h3, h8, h9, k1, k2, hdd]
        replace l : Led B (osl 9 strO fp (.slice (some ⟨b, 0, none⟩) xs.length c) (ssW S xs[i] (d - 1) ++ xs.drop (i + 1)) :: L) W2 := by rw [← hsw]; exact l
        refine ⟨_, ?_, d - 1, by omega, rfl, fun y hy => ?_, l, congrArg (Value.int .i64) (by omega)⟩
        · omega
        · rw [show S.drop (d - 1) = (S[d - 1]'(by omega)) :: S.drop d by rw [List.drop_eq_getElem_cons (by omega)]; congr 2; omega] at hy
          rcases List.mem_cons.1 hy with rfl | hy
          · omega
          · exact hgt y hy
      · simp (disch := omega) only [↓stq, amv_at, vls, inf, frs, mark_eq, ↓reduceIte, Nat.reduceEqDiff, ite_tt, ite_ff, eq_self, and_true, true_and, and_self, implies_true, Bool.true_eq_false, Bool.false_eq_true, decide_true, decide_false, decide_eq_true_eq, decide_eq_false_iff_not, ne_eq, not_true_eq_false, not_false_eq_true, Bool.not_eq_true', Bool.not_eq_false', beq_self_eq_true, Bool.not_true, Bool.not_false, List.getElem?_toArray, List.getElem?_cons_zero, List.getElem?_cons_succ, h0, h1, h2, h3, h8, h9]
        refine ⟨_, by omega, i + 1, by omega, .inl (by omega), rfl, ?_, rfl⟩
        rw [hfin fun y hy => ?_, hw]
        · exact l
        · have := desc_upto hD (j := d) (by omega) (by omega) hy
          omega
    · simp (disch := omega) only [↓stq, amv_at, ↓pln, plv, nilOk, Nat.reduceBEq, Bool.or_false, Bool.or_true, Bool.false_or, Bool.true_or, vls, inf, frs, mark_eq, ↓reduceIte, Nat.reduceEqDiff, ite_tt, ite_ff, eq_self, and_true, true_and, and_self, implies_true, Bool.true_eq_false, Bool.false_eq_true, decide_true, decide_false, decide_eq_true_eq, decide_eq_false_iff_not, ne_eq, not_true_eq_false, not_false_eq_true, Bool.not_eq_true', Bool.not_eq_false', beq_self_eq_true, Bool.not_true, Bool.not_false, List.getElem?_toArray, List.getElem?_cons_zero, List.getElem?_cons_succ, h0, h1, h2, h3, h8, h9, e1]
      refine ⟨_, by omega, i + 1, by omega, .inl (by omega), rfl, ?_, rfl⟩
      rw [hfin fun y hy => ?_]
      · exact l
      · obtain rfl : d = 0 := by omega
        cases hy
  · simp (disch := omega) only [↓stq, amv_at, vls, inf, frs, mark_eq, ↓reduceIte, Nat.reduceEqDiff, ite_tt, ite_ff, eq_self, and_true, true_and, and_self, implies_true, Bool.true_eq_false, Bool.false_eq_true, decide_true, decide_false, decide_eq_true_eq, decide_eq_false_iff_not, ne_eq, not_true_eq_false, not_false_eq_true, Bool.not_eq_true', Bool.not_eq_false', beq_self_eq_true, Bool.not_true, Bool.not_false, List.getElem?_toArray, List.getElem?_cons_zero, List.getElem?_cons_succ, h0, h1, h2, h3, h8]
    have hn : i = xs.length ∨ xs = [] := by
      rcases hi with hi | rfl
      · exact .inl (by omega)
      · rcases xs with _ | ⟨x, _ | ⟨y, ys⟩⟩
        · exact .inr rfl
        · exact .inl rfl
        · simp only [List.length_cons] at e ⊢; omega
    rcases hn with rfl | rfl
    · rw [List.take_length, List.drop_length, List.append_nil] at l
      exact l
    · rw [List.take_nil, List.drop_nil, List.append_nil] at l
      exact l

theorem sortStable_c (B A : View) (L : List It) (fp : List Nat) (v : Value) (xs : List ByteArray) (g : Nat) (first cap : Array Value) (f : ByteArray → Int) (hg : callable Try.prog g = true) (hsm : xs.length < 20)
    (hcmp : ∀ V w, Led B (osl 9 strO fp v w :: L) V → ∀ x y : ByteArray, x ∈ xs → y ∈ xs → ACalls Try.prog g (first ++ #[.string x, .string y] ++ cap) V fun r V' => r = .int .i64 (f y - f x) ∧ Ext V V')
    (l : Led B (osl 9 strO fp v xs :: L) A) : ACalls Try.prog 106 #[v, .func (.func g) first cap] A fun _ V => Led B (osl 9 strO fp v (ssort f xs) :: L) V := by
  have hs := (show Sl strS A v xs from OSl.toS (show OSl 9 strO A fp v xs from l.at (i := 0) rfl))
  obtain ⟨ar, c, rfl, hc, hl⟩ := hs.slice
  refine acalls Try.func106 rfl (by kernel_rfl) ?_
  simp (disch := omega) only [↓stq, amv_at, vls, inf, frs, mark_eq, ↓reduceIte, Nat.reduceEqDiff, ite_tt, ite_ff, eq_self, and_true, true_and, and_self, implies_true, Bool.true_eq_false, Bool.false_eq_true, decide_true, decide_false, decide_eq_true_eq, decide_eq_false_iff_not, ne_eq, not_true_eq_false, not_false_eq_true, Bool.not_eq_true', Bool.not_eq_false', beq_self_eq_true, Bool.not_true, Bool.not_false, List.getElem?_toArray, List.getElem?_cons_zero, List.getElem?_cons_succ]
  refine acalls Try.func134 rfl (by kernel_rfl) ?_
  simp (disch := omega) only [↓stq, amv_at, vls, inf, frs, mark_eq, ↓reduceIte, Nat.reduceEqDiff, ite_tt, ite_ff, eq_self, and_true, true_and, and_self, implies_true, Bool.true_eq_false, Bool.false_eq_true, decide_true, decide_false, decide_eq_true_eq, decide_eq_false_iff_not, ne_eq, not_true_eq_false, not_false_eq_true, Bool.not_eq_true', Bool.not_eq_false', beq_self_eq_true, Bool.not_true, Bool.not_false, List.getElem?_toArray, List.getElem?_cons_zero, List.getElem?_cons_succ]
  refine aloop (fun d fr V => d = 0 ∧ Led B (osl 9 strO fp (.slice ar xs.length c) xs :: L) V ∧ fr 0 = .slice ar xs.length c ∧ fr 1 = .int .i64 xs.length ∧ fr 2 = .func (.func g) first cap ∧ fr 6 = .int .i64 20 ∧ fr 7 = .int .i64 0 ∧ fr 8 = .int .i64 20) 0 ⟨rfl, l, by rfl, by rfl, by rfl, by rfl, by rfl, by rfl⟩ ?_
  rintro d fr V ⟨rfl, l, h0, h1, h2, h6, h7, h8⟩
  simp (disch := omega) only [↓stq, amv_at, vls, inf, frs, mark_eq, ↓reduceIte, Nat.reduceEqDiff, ite_tt, ite_ff, eq_self, and_true, true_and, and_self, implies_true, Bool.true_eq_false, Bool.false_eq_true, decide_true, decide_false, decide_eq_true_eq, decide_eq_false_iff_not, ne_eq, not_true_eq_false, not_false_eq_true, Bool.not_eq_true', Bool.not_eq_false', beq_self_eq_true, Bool.not_true, Bool.not_false, List.getElem?_toArray, List.getElem?_cons_zero, List.getElem?_cons_succ, h0, h1, h2, h6, h7, h8]
  refine ⟨fun e => by omega, fun e => ?_⟩
  simp (disch := omega) only [↓stq, amv_at, vls, inf, frs, mark_eq, ↓reduceIte, Nat.reduceEqDiff, ite_tt, ite_ff, eq_self, and_true, true_and, and_self, implies_true, Bool.true_eq_false, Bool.false_eq_true, decide_true, decide_false, decide_eq_true_eq, decide_eq_false_iff_not, ne_eq, not_true_eq_false, not_false_eq_true, Bool.not_eq_true', Bool.not_eq_false', beq_self_eq_true, Bool.not_true, Bool.not_false, List.getElem?_toArray, List.getElem?_cons_zero, List.getElem?_cons_succ, h0, h1, h2, h6, h7, h8]
  refine (insSort_c B V L fp _ xs g first cap f hg (by omega) hcmp l).mono ?_
  rintro _ V l
  simp (disch := omega) only [↓stq, amv_at, vls, inf, frs, mark_eq, ↓reduceIte, Nat.reduceEqDiff, ite_tt, ite_ff, eq_self, and_true, true_and, and_self, implies_true, Bool.true_eq_false, Bool.false_eq_true, decide_true, decide_false, decide_eq_true_eq, decide_eq_false_iff_not, ne_eq, not_true_eq_false, not_false_eq_true, Bool.not_eq_true', Bool.not_eq_false', beq_self_eq_true, Bool.not_true, Bool.not_false, List.getElem?_toArray, List.getElem?_cons_zero, List.getElem?_cons_succ, h0, h1, h2, h6, h7, h8]
  refine aloop (fun d fr V => d = 0 ∧ Led B (osl 9 strO fp (.slice ar xs.length c) (ssort f xs) :: L) V ∧ fr 1 = .int .i64 xs.length ∧ fr 6 = .int .i64 20) 0 ⟨rfl, l, h1, h6⟩ ?_
  rintro d fr V ⟨rfl, l, h1, h6⟩
  simp (disch := omega) only [↓stq, amv_at, vls, inf, frs, mark_eq, ↓reduceIte, Nat.reduceEqDiff, ite_tt, ite_ff, eq_self, and_true, true_and, and_self, implies_true, Bool.true_eq_false, Bool.false_eq_true, decide_true, decide_false, decide_eq_true_eq, decide_eq_false_iff_not, ne_eq, not_true_eq_false, not_false_eq_true, Bool.not_eq_true', Bool.not_eq_false', beq_self_eq_true, Bool.not_true, Bool.not_false, List.getElem?_toArray, List.getElem?_cons_zero, List.getElem?_cons_succ, h1, h6]
  refine ⟨fun e => by omega, fun e => ?_⟩
  simp (disch := omega) only [↓stq, amv_at, vls, inf, frs, mark_eq, ↓reduceIte, Nat.reduceEqDiff, ite_tt, ite_ff, eq_self, and_true, true_and, and_self, implies_true, Bool.true_eq_false, Bool.false_eq_true, decide_true, decide_false, decide_eq_true_eq, decide_eq_false_iff_not, ne_eq, not_true_eq_false, not_false_eq_true, Bool.not_eq_true', Bool.not_eq_false', beq_self_eq_true, Bool.not_true, Bool.not_false, List.getElem?_toArray, List.getElem?_cons_zero, List.getElem?_cons_succ, h1, h6]
  exact l

/-! ### closures, in plain words -/
def preR (x : SuiteD) (t : TestD) : List ByteArray := (x.1.filter fun f => f.2.2.2.1).map (·.1) ++ t.2.2.2.1
def rawR (fs : List FixtureD) (ns : List ByteArray) : List ByteArray := ns.foldl (fun l a => rchF fs (fuel fs) a [] l) []
def bucket (fs : List FixtureD) (l : List ByteArray) (s : Int) : List ByteArray := l.filter fun a => decide (scopeAt fs a = s)
def cloR (fs : List FixtureD) (ns : List ByteArray) : List ByteArray := bucket fs (rawR fs ns) 2 ++ (bucket fs (rawR fs ns) 1 ++ bucket fs (rawR fs ns) 0)
theorem rawR_snoc (fs : List FixtureD) (ns : List ByteArray) (a : ByteArray) : rawR fs (ns ++ [a]) = rchF fs (fuel fs) a [] (rawR fs ns) := by
  unfold rawR
  rw [List.foldl_append]
  rfl
theorem rawR_names (fs : List FixtureD) (ns : List ByteArray) : Names fs (rawR fs ns) := by
  rw [← List.reverse_reverse ns]
  induction ns.reverse with
  | nil => exact ⟨List.nodup_nil, fun x hx => by cases hx⟩
  | cons a az ih => rw [List.reverse_cons, rawR_snoc]; exact rchF_names _ _ _ _ ih
theorem names_nil (fs : List FixtureD) : Names fs [] := ⟨List.nodup_nil, fun x hx => by cases hx⟩
/-- The program's way: what is needed, and the name. -/
def clo1 (fs : List FixtureD) (l : List ByteArray) (a : ByteArray) : List ByteArray := addO (nOf fs (fuel fs) a l) a
theorem clo1_eq {fs : List FixtureD} (h : Sound fs) {l : List ByteArray} {a : ByteArray} (ha : hasF fs a) (hl : Shut fs l) : clo1 fs l a = rchF fs (fuel fs) a [] l ∧ Shut fs (clo1 fs l a) := by
  have := nOf_rchF h (fuel fs) a [] l (fuel_ok fs) ha (fun o ho => by cases ho) hl
  exact ⟨this.1, by unfold clo1; rw [this.1]; exact this.2.1⟩
theorem rawR_shut {fs : List FixtureD} (h : Sound fs) (ns : List ByteArray) (hn : ∀ a, a ∈ ns → hasF fs a) : Shut fs (rawR fs ns) := by
  rw [← List.reverse_reverse ns] at hn ⊢
  generalize ns.reverse = m at hn ⊢
  induction m with
  | nil => exact fun x hx => by cases hx
  | cons a az ih =>
    rw [List.reverse_cons] at hn ⊢
    rw [rawR_snoc]
    have ih := ih fun b hb => hn b (List.mem_append_left _ hb)
    have h1 := clo1_eq h (hn a (List.mem_append_right _ (List.mem_singleton.2 rfl))) ih
    rw [← h1.1]
    exact h1.2
theorem rawR_next {fs : List FixtureD} (h : Sound fs) {ns : List ByteArray} (hn : ∀ a, a ∈ ns → hasF fs a) {a : ByteArray} (ha : hasF fs a) : rawR fs (ns ++ [a]) = clo1 fs (rawR fs ns) a := by
  rw [rawR_snoc]
  exact (clo1_eq h ha (rawR_shut h ns hn)).1.symm

theorem bucket_mem {fs : List FixtureD} {l : List ByteArray} {s : Int} {a : ByteArray} : a ∈ bucket fs l s ↔ a ∈ l ∧ scopeAt fs a = s := by
  unfold bucket
  rw [List.mem_filter, decide_eq_true_eq]
theorem bucket_snoc {fs : List FixtureD} {l : List ByteArray} {s : Int} {a : ByteArray} : bucket fs (l ++ [a]) s = bucket fs l s ++ (if scopeAt fs a = s then [a] else []) := by
  unfold bucket
  rw [List.filter_append, List.filter_cons]
  by_cases h : scopeAt fs a = s
  · rw [if_pos (decide_eq_true h), if_pos h]; rfl
  · rw [if_neg (by rw [decide_eq_false h]; decide), if_neg h]; rfl
theorem bucket_take {fs : List FixtureD} {l : List ByteArray} {s : Int} {i : Nat} (h : i < l.length) : bucket fs (l.take (i + 1)) s = bucket fs (l.take i) s ++ (if scopeAt fs l[i] = s then [l[i]] else []) := by
  rw [List.take_succ_eq_append_getElem h, bucket_snoc]
theorem sort_buckets {fs : List FixtureD} (l : List ByteArray) : (∀ a, a ∈ l → 0 ≤ scopeAt fs a ∧ scopeAt fs a ≤ 2) → ssort (scopeAt fs) l = bucket fs l 2 ++ (bucket fs l 1 ++ bucket fs l 0) := by
  rw [← List.reverse_reverse l]
  induction l.reverse with
  | nil => exact fun _ => rfl
  | cons a az ih =>
    rw [List.reverse_cons]
    intro h
    have ih := ih fun b hb => h b (List.mem_append_left _ hb)
    have ha := h a (List.mem_append_right _ (List.mem_singleton.2 rfl))
    rw [ssort_snoc, ih, bucket_snoc, bucket_snoc, bucket_snoc]
    have hs : scopeAt fs a = 2 ∨ scopeAt fs a = 1 ∨ scopeAt fs a = 0 := by omega
    rcases hs with e | e | e
    · rw [if_pos e, if_neg (by omega), if_neg (by omega), List.append_nil, List.append_nil]
      rw [ssIns_split (fun y hy => ?_) fun y hy => ?_]
      · rw [List.append_assoc]; rfl
      · have := (bucket_mem.1 hy).2; omega
      · rcases List.mem_append.1 hy with hy | hy <;> · have := (bucket_mem.1 hy).2; omega
    · rw [if_pos e, if_neg (by omega), if_neg (by omega), List.append_nil, List.append_nil, ← List.append_assoc]
      rw [ssIns_split (fun y hy => ?_) fun y hy => ?_]
      · simp only [List.append_assoc]; rfl
      · rcases List.mem_append.1 hy with hy | hy <;> · have := (bucket_mem.1 hy).2; omega
      · have := (bucket_mem.1 hy).2; omega
    · rw [if_pos e, if_neg (by omega), if_neg (by omega), List.append_nil, List.append_nil, ← List.append_assoc, ← List.append_assoc]
      have := ssIns_split (f := scopeAt fs) (x := a) (P := bucket fs az.reverse 2 ++ bucket fs az.reverse 1 ++ bucket fs az.reverse 0) (Q := []) (fun y hy => by
        rcases List.mem_append.1 hy with hy | hy
        · rcases List.mem_append.1 hy with hy | hy <;> · have := (bucket_mem.1 hy).2; omega
        · have := (bucket_mem.1 hy).2; omega) fun y hy => by cases hy
      rw [List.append_nil] at this
      rw [this]
      simp only [List.append_assoc]

theorem auto_take {fs : List FixtureD} {i : Nat} (h : i < fs.length) : ((fs.take (i + 1)).filter fun f => f.2.2.2.1).map (·.1) = ((fs.take i).filter fun f => f.2.2.2.1).map (·.1) ++ (if (fs[i]).2.2.2.1 = true then [(fs[i]).1] else []) := by
  rw [List.take_succ_eq_append_getElem h, List.filter_append, List.map_append, List.filter_cons]
  by_cases hq : (fs[i]).2.2.2.1 = true
  · rw [if_pos hq, if_pos hq]; rfl
  · rw [if_neg hq, if_neg hq]; rfl

def outsR (fs : List FixtureD) (l : List ByteArray) : Nat → List ByteArray
  | 0 => []
  | k + 1 => outsR fs l k ++ bucket fs l (2 - (k : Int))
theorem outsR_end (fs : List FixtureD) (l : List ByteArray) : outsR fs l 3 = bucket fs l 2 ++ (bucket fs l 1 ++ bucket fs l 0) := by
  show (([] ++ bucket fs l 2) ++ bucket fs l 1) ++ bucket fs l 0 = _
  simp
theorem bucket_len (fs : List FixtureD) (l : List ByteArray) (s : Int) : (bucket fs l s).length ≤ l.length := List.length_filter_le ..
theorem outsR_len (fs : List FixtureD) (l : List ByteArray) : ∀ k, (outsR fs l k).length ≤ k * l.length
  | 0 => by simp [outsR]
  | k + 1 => by
    have := outsR_len fs l k
    have := bucket_len fs l (2 - (k : Int))
    rw [outsR, List.length_append, Nat.succ_mul]
    omega

theorem spec_closure_c (A : View) (d d' : List Value) (x : SuiteD) (t : TestD) (hx : suiteS.rel A x d) (ht : testS.rel A t d') (hsm : x.1.length ≤ 1048576) : ACalls Try.prog 60 #[.agg d.toArray, .agg d'.toArray] A fun r V => NewSl 9 strO A r V (cloR x.1 (preR x t)) := by
  obtain ⟨u0, u1, rfl, g0, g1⟩ := suiteS_open hx
  obtain ⟨a0, c0, rfl, _, _⟩ := g0.slice
  obtain ⟨a1, c1, rfl, _, _⟩ := g1.slice
  obtain ⟨v2, v3, rfl, z1, z2, f2, f3⟩ := testS_open ht
  obtain ⟨a2, c2, rfl, _, _⟩ := f2.slice
  obtain ⟨a3, c3, rfl, _, _⟩ := f3.slice
  have hSx : ∀ V, Ext A V → suiteS.rel V x [.slice a0 x.1.length c0, .slice a1 x.2.1.length c1] := fun V he => suiteS_mk (g0.mono he) (g1.mono he)
  have hx0 := hSx A (Ext.refl A)
  refine acalls Try.func60 rfl (by kernel_rfl) ?_
  simp (disch := omega) only [↓stq, amv_at, vls, inf, frs, mark_eq, ↓reduceIte, Nat.reduceEqDiff, ite_tt, ite_ff, eq_self, and_true, true_and, and_self, implies_true, Bool.true_eq_false, Bool.false_eq_true, decide_true, decide_false, decide_eq_true_eq, decide_eq_false_iff_not, ne_eq, not_true_eq_false, not_false_eq_true, Bool.not_eq_true', Bool.not_eq_false', beq_self_eq_true, Bool.not_true, Bool.not_false, List.getElem?_toArray, List.getElem?_cons_zero, List.getElem?_cons_succ]
  refine led_box (Led.nil A) rfl fun q2 V _ l => ?_
  simp (disch := omega) only [↓stq, amv_at, vls, inf, frs, mark_eq, ↓reduceIte, Nat.reduceEqDiff, ite_tt, ite_ff, eq_self, and_true, true_and, and_self, implies_true, Bool.true_eq_false, Bool.false_eq_true, decide_true, decide_false, decide_eq_true_eq, decide_eq_false_iff_not, ne_eq, not_true_eq_false, not_false_eq_true, Bool.not_eq_true', Bool.not_eq_false', beq_self_eq_true, Bool.not_true, Bool.not_false, List.getElem?_toArray, List.getElem?_cons_zero, List.getElem?_cons_succ]
  refine led_box l rfl fun q3 V _ l => ?_
  simp (disch := omega) only [↓stq, amv_at, vls, inf, frs, mark_eq, ↓reduceIte, Nat.reduceEqDiff, ite_tt, ite_ff, eq_self, and_true, true_and, and_self, implies_true, Bool.true_eq_false, Bool.false_eq_true, decide_true, decide_false, decide_eq_true_eq, decide_eq_false_iff_not, ne_eq, not_true_eq_false, not_false_eq_true, Bool.not_eq_true', Bool.not_eq_false', beq_self_eq_true, Bool.not_true, Bool.not_false, List.getElem?_toArray, List.getElem?_cons_zero, List.getElem?_cons_succ]
  refine led_lit0 (O := strO) li31 l fun b V _ l => ?_
  simp (disch := omega) only [↓stq, amv_at, vls, inf, frs, mark_eq, ↓reduceIte, Nat.reduceEqDiff, ite_tt, ite_ff, eq_self, and_true, true_and, and_self, implies_true, Bool.true_eq_false, Bool.false_eq_true, decide_true, decide_false, decide_eq_true_eq, decide_eq_false_iff_not, ne_eq, not_true_eq_false, not_false_eq_true, Bool.not_eq_true', Bool.not_eq_false', beq_self_eq_true, Bool.not_true, Bool.not_false, List.getElem?_toArray, List.getElem?_cons_zero, List.getElem?_cons_succ]
  refine aloop (fun d fr V => ∃ (i : Nat) (fp : List Nat) (w : Value), i ≤ x.1.length ∧ d = x.1.length - i ∧ Led A [osl 9 strO fp w (rawR x.1 (((x.1.take i).filter fun f => f.2.2.2.1).map (·.1))), bx q3 ⟨38, [.string t.1, .string t.2.1, .slice a2 t.2.2.1.length c2, .slice a3 t.2.2.2.1.length c3], 4, true⟩, bx q2 ⟨26, [.slice a0 x.1.length c0, .slice a1 x.2.1.length c1], 2, true⟩] V ∧ fr 2 = .pointer (some ⟨q2, 0, none⟩) ∧ fr 3 = .pointer (some ⟨q3, 0, none⟩) ∧ fr 5 = w ∧ fr 6 = .int .i64 i) x.1.length ⟨0, _, _, by omega, by omega, l, by rfl, by rfl, by rfl, by rfl⟩ ?_
  clear l
  rintro d fr V ⟨i, fp, w, hi, rfl, l, h2, h3, h5, h6⟩
  have k0 := l.cell (i := 2) rfl (o := 0) rfl rfl
  simp (disch := omega) only [↓stq, amv_at, vls, inf, frs, mark_eq, ↓reduceIte, Nat.reduceEqDiff, ite_tt, ite_ff, eq_self, and_true, true_and, and_self, implies_true, Bool.true_eq_false, Bool.false_eq_true, decide_true, decide_false, decide_eq_true_eq, decide_eq_false_iff_not, ne_eq, not_true_eq_false, not_false_eq_true, Bool.not_eq_true', Bool.not_eq_false', beq_self_eq_true, Bool.not_true, Bool.not_false, List.getElem?_toArray, List.getElem?_cons_zero, List.getElem?_cons_succ, h2, h3, h5, h6, add_at, k0]
  refine ⟨fun e1 => ?_, fun e1 => ?_⟩
  · have hlt : i < x.1.length := by omega
    have htk := auto_take hlt
    obtain ⟨ad, u2, rfl, hclA, y1, y2, _⟩ := g0.fixture hlt
    have hcl := l.ext.part hclA
    have s3 := View.part_cell hcl (j := 3) rfl
    have s0 := View.part_cell hcl (j := 0) rfl
    simp (disch := omega) only [↓stq, amv_at, vls, inf, frs, mark_eq, ↓reduceIte, Nat.reduceEqDiff, ite_tt, ite_ff, eq_self, and_true, true_and, and_self, implies_true, Bool.true_eq_false, Bool.false_eq_true, decide_true, decide_false, decide_eq_true_eq, decide_eq_false_iff_not, ne_eq, not_true_eq_false, not_false_eq_true, Bool.not_eq_true', Bool.not_eq_false', beq_self_eq_true, Bool.not_true, Bool.not_false, List.getElem?_toArray, List.getElem?_cons_zero, List.getElem?_cons_succ, h2, h3, h5, h6, add_at, k0, s3]
    have hN := rawR_names x.1 (((x.1.take i).filter fun f => f.2.2.2.1).map (·.1))
    refine ⟨fun e2 => ?_, fun e2 => ?_⟩ <;> simp (disch := omega) only [↓stq, amv_at, vls, inf, frs, mark_eq, ↓reduceIte, Nat.reduceEqDiff, ite_tt, ite_ff, eq_self, and_true, true_and, and_self, implies_true, Bool.true_eq_false, Bool.false_eq_true, decide_true, decide_false, decide_eq_true_eq, decide_eq_false_iff_not, ne_eq, not_true_eq_false, not_false_eq_true, Bool.not_eq_true', Bool.not_eq_false', beq_self_eq_true, Bool.not_true, Bool.not_false, List.getElem?_toArray, List.getElem?_cons_zero, List.getElem?_cons_succ, h2, h3, h5, h6, add_at, k0, s3]
    · refine adraw_items [.l 0 false, .q 1, .l 2 false, .q 3, .q 4, .q 5, .l 6 false, .q 8, .c 7 [], .c 9 [], .q 10] (by kernel_rfl) (by kernel_rfl) ?_
      have kp : V.part ⟨q2, 0, none⟩ 2 = some [.slice (some ad) x.1.length c0, .slice a1 x.2.1.length c1] := l.part (i := 2) rfl rfl
      simp (disch := omega) only [↓stq, amv_at, ↓pln, plv, nilOk, Nat.reduceBEq, Bool.or_false, Bool.or_true, Bool.false_or, Bool.true_or, vls, inf, frs, mark_eq, ↓reduceIte, Nat.reduceEqDiff, ite_tt, ite_ff, eq_self, and_true, true_and, and_self, implies_true, Bool.true_eq_false, Bool.false_eq_true, decide_true, decide_false, decide_eq_true_eq, decide_eq_false_iff_not, ne_eq, not_true_eq_false, not_false_eq_true, Bool.not_eq_true', Bool.not_eq_false', beq_self_eq_true, Bool.not_true, Bool.not_false, List.getElem?_toArray, List.getElem?_cons_zero, List.getElem?_cons_succ, h2, h3, h5, h6, add_at, k0, kp, s0]
      refine led_lit0 (O := strO) li31 l fun bo V _ l => ?_
      have k0 := l.cell (i := 3) rfl (o := 0) rfl rfl
      have kp : V.part ⟨q2, 0, none⟩ 2 = some [.slice (some ad) x.1.length c0, .slice a1 x.2.1.length c1] := l.part (i := 3) rfl rfl
      have s0 := View.part_cell (l.ext.part hclA) (j := 0) rfl
      simp (disch := omega) only [↓stq, amv_at, ↓pln, plv, nilOk, Nat.reduceBEq, Bool.or_false, Bool.or_true, Bool.false_or, Bool.true_or, vls, inf, frs, mark_eq, ↓reduceIte, Nat.reduceEqDiff, ite_tt, ite_ff, eq_self, and_true, true_and, and_self, implies_true, Bool.true_eq_false, Bool.false_eq_true, decide_true, decide_false, decide_eq_true_eq, decide_eq_false_iff_not, ne_eq, not_true_eq_false, not_false_eq_true, Bool.not_eq_true', Bool.not_eq_false', beq_self_eq_true, Bool.not_true, Bool.not_false, List.getElem?_toArray, List.getElem?_cons_zero, List.getElem?_cons_succ, h2, h3, h5, h6, add_at, k0, kp, s0, false_implies]
      refine (spec_reach_c A _ x hx0 hsm (fuel x.1) V _ (x.1[i]).1 _ [] fp w _ y1 (fun V fp w out l => Sl.empty ..) (fuel_ok _) (names_nil _) hN l.tail).mono ?_
      rintro r V2 ⟨fp2, l⟩
      have k0 := l.cell (i := 2) rfl (o := 0) rfl rfl
      have kp : V2.part ⟨q2, 0, none⟩ 2 = some [.slice (some ad) x.1.length c0, .slice a1 x.2.1.length c1] := l.part (i := 2) rfl rfl
      have s0 := View.part_cell (l.ext.part hclA) (j := 0) rfl
      simp (disch := omega) only [↓stq, amv_at, ↓pln, plv, nilOk, Nat.reduceBEq, Bool.or_false, Bool.or_true, Bool.false_or, Bool.true_or, vls, inf, frs, mark_eq, ↓reduceIte, Nat.reduceEqDiff, ite_tt, ite_ff, eq_self, and_true, true_and, and_self, implies_true, Bool.true_eq_false, Bool.false_eq_true, decide_true, decide_false, decide_eq_true_eq, decide_eq_false_iff_not, ne_eq, not_true_eq_false, not_false_eq_true, Bool.not_eq_true', Bool.not_eq_false', beq_self_eq_true, Bool.not_true, Bool.not_false, List.getElem?_toArray, List.getElem?_cons_zero, List.getElem?_cons_succ, h2, h3, h5, h6, add_at, k0, kp, s0, false_implies]
      rw [if_pos e2] at htk
      exact ⟨_, by omega, i + 1, fp2, r, by omega, rfl, by rw [htk, rawR_snoc]; exact l, rfl, rfl⟩
    · rw [if_neg (by simpa using e2), List.append_nil] at htk
      exact ⟨_, by omega, i + 1, fp, w, by omega, rfl, by rw [htk]; exact l, rfl, rfl⟩
  have hie : i = x.1.length := by omega
  subst hie
  rw [List.take_length] at l
  generalize hau : (x.1.filter fun f => f.2.2.2.1).map (·.1) = autos at l
  · simp (disch := omega) only [↓stq, amv_at, vls, inf, frs, mark_eq, ↓reduceIte, Nat.reduceEqDiff, ite_tt, ite_ff, eq_self, and_true, true_and, and_self, implies_true, Bool.true_eq_false, Bool.false_eq_true, decide_true, decide_false, decide_eq_true_eq, decide_eq_false_iff_not, ne_eq, not_true_eq_false, not_false_eq_true, Bool.not_eq_true', Bool.not_eq_false', beq_self_eq_true, Bool.not_true, Bool.not_false, List.getElem?_toArray, List.getElem?_cons_zero, List.getElem?_cons_succ, h2, h3, h5, h6]
    refine aloop (fun d fr V => ∃ (i : Nat) (fp : List Nat) (w : Value), i ≤ t.2.2.2.1.length ∧ d = t.2.2.2.1.length - i ∧ Led A [osl 9 strO fp w (rawR x.1 (autos ++ t.2.2.2.1.take i)), bx q3 ⟨38, [.string t.1, .string t.2.1, .slice a2 t.2.2.1.length c2, .slice a3 t.2.2.2.1.length c3], 4, true⟩, bx q2 ⟨26, [.slice a0 x.1.length c0, .slice a1 x.2.1.length c1], 2, true⟩] V ∧ fr 2 = .pointer (some ⟨q2, 0, none⟩) ∧ fr 3 = .pointer (some ⟨q3, 0, none⟩) ∧ fr 5 = w ∧ fr 7 = .int .i64 i) t.2.2.2.1.length ⟨0, _, _, by omega, by omega, by rw [List.take_zero, List.append_nil]; exact l, h2, h3, h5, by rfl⟩ ?_
    clear l k0 h2 h3 h5 h6
    rintro d fr V ⟨i, fp, w, hi, rfl, l, h2, h3, h5, h7⟩
    have n3 := l.cell (i := 1) rfl (o := 3) rfl rfl
    simp (disch := omega) only [↓stq, amv_at, vls, inf, frs, mark_eq, ↓reduceIte, Nat.reduceEqDiff, ite_tt, ite_ff, eq_self, and_true, true_and, and_self, implies_true, Bool.true_eq_false, Bool.false_eq_true, decide_true, decide_false, decide_eq_true_eq, decide_eq_false_iff_not, ne_eq, not_true_eq_false, not_false_eq_true, Bool.not_eq_true', Bool.not_eq_false', beq_self_eq_true, Bool.not_true, Bool.not_false, List.getElem?_toArray, List.getElem?_cons_zero, List.getElem?_cons_succ, h2, h3, h5, h7, add_at, n3]
    refine ⟨fun e2 => ?_, fun e2 => ?_⟩
    · have hlt : i < t.2.2.2.1.length := by omega
      have hN := rawR_names x.1 (autos ++ t.2.2.2.1.take i)
      obtain ⟨ad, rfl, kk, zk⟩ := (f3.mono l.ext).str hlt
      have htk : autos ++ t.2.2.2.1.take (i + 1) = (autos ++ t.2.2.2.1.take i) ++ [(t.2.2.2.1)[i]] := by rw [List.take_succ_eq_append_getElem hlt, List.append_assoc]
      simp (disch := omega) only [↓stq, amv_at, vls, inf, frs, mark_eq, ↓reduceIte, Nat.reduceEqDiff, ite_tt, ite_ff, eq_self, and_true, true_and, and_self, implies_true, Bool.true_eq_false, Bool.false_eq_true, decide_true, decide_false, decide_eq_true_eq, decide_eq_false_iff_not, ne_eq, not_true_eq_false, not_false_eq_true, Bool.not_eq_true', Bool.not_eq_false', beq_self_eq_true, Bool.not_true, Bool.not_false, List.getElem?_toArray, List.getElem?_cons_zero, List.getElem?_cons_succ, h2, h3, h5, h7]
      refine adraw_items [.l 0 false, .q 1, .l 2 false, .q 3, .q 4, .l 5 false, .q 7, .c 6 [], .c 8 [], .q 9] (by kernel_rfl) (by kernel_rfl) ?_
      have kp : V.part ⟨q2, 0, none⟩ 2 = some [.slice a0 x.1.length c0, .slice a1 x.2.1.length c1] := l.part (i := 2) rfl rfl
      simp (disch := omega) only [↓stq, amv_at, ↓pln, plv, nilOk, Nat.reduceBEq, Bool.or_false, Bool.or_true, Bool.false_or, Bool.true_or, vls, inf, frs, mark_eq, ↓reduceIte, Nat.reduceEqDiff, ite_tt, ite_ff, eq_self, and_true, true_and, and_self, implies_true, Bool.true_eq_false, Bool.false_eq_true, decide_true, decide_false, decide_eq_true_eq, decide_eq_false_iff_not, ne_eq, not_true_eq_false, not_false_eq_true, Bool.not_eq_true', Bool.not_eq_false', beq_self_eq_true, Bool.not_true, Bool.not_false, List.getElem?_toArray, List.getElem?_cons_zero, List.getElem?_cons_succ, h2, h3, h5, h7, add_at, n3, kp, kk]
      refine led_lit0 (O := strO) li31 l fun bo V _ l => ?_
      have n3 := l.cell (i := 2) rfl (o := 3) rfl rfl
      have kp : V.part ⟨q2, 0, none⟩ 2 = some [.slice a0 x.1.length c0, .slice a1 x.2.1.length c1] := l.part (i := 3) rfl rfl
      obtain ⟨_, hq, kk, _⟩ := (f3.mono l.ext).str hlt
      obtain rfl := Option.some.inj hq
      simp (disch := omega) only [↓stq, amv_at, ↓pln, plv, nilOk, Nat.reduceBEq, Bool.or_false, Bool.or_true, Bool.false_or, Bool.true_or, vls, inf, frs, mark_eq, ↓reduceIte, Nat.reduceEqDiff, ite_tt, ite_ff, eq_self, and_true, true_and, and_self, implies_true, Bool.true_eq_false, Bool.false_eq_true, decide_true, decide_false, decide_eq_true_eq, decide_eq_false_iff_not, ne_eq, not_true_eq_false, not_false_eq_true, Bool.not_eq_true', Bool.not_eq_false', beq_self_eq_true, Bool.not_true, Bool.not_false, List.getElem?_toArray, List.getElem?_cons_zero, List.getElem?_cons_succ, h2, h3, h5, h7, add_at, n3, kp, kk, false_implies]
      refine (spec_reach_c A _ x hx0 hsm (fuel x.1) V _ _ _ [] fp w _ zk (fun V fp w out l => Sl.empty ..) (fuel_ok _) (names_nil _) hN l.tail).mono ?_
      rintro r V2 ⟨fp2, l⟩
      have n3 := l.cell (i := 1) rfl (o := 3) rfl rfl
      have kp : V2.part ⟨q2, 0, none⟩ 2 = some [.slice a0 x.1.length c0, .slice a1 x.2.1.length c1] := l.part (i := 2) rfl rfl
      obtain ⟨_, hq, kk, _⟩ := (f3.mono l.ext).str hlt
      obtain rfl := Option.some.inj hq
      simp (disch := omega) only [↓stq, amv_at, ↓pln, plv, nilOk, Nat.reduceBEq, Bool.or_false, Bool.or_true, Bool.false_or, Bool.true_or, vls, inf, frs, mark_eq, ↓reduceIte, Nat.reduceEqDiff, ite_tt, ite_ff, eq_self, and_true, true_and, and_self, implies_true, Bool.true_eq_false, Bool.false_eq_true, decide_true, decide_false, decide_eq_true_eq, decide_eq_false_iff_not, ne_eq, not_true_eq_false, not_false_eq_true, Bool.not_eq_true', Bool.not_eq_false', beq_self_eq_true, Bool.not_true, Bool.not_false, List.getElem?_toArray, List.getElem?_cons_zero, List.getElem?_cons_succ, h2, h3, h5, h7, add_at, n3, kp, kk, false_implies]
      exact ⟨_, by omega, i + 1, fp2, r, by omega, rfl, by rw [htk, rawR_snoc]; exact l, rfl, rfl⟩
    have hie : i = t.2.2.2.1.length := by omega
    rw [hie, List.take_length] at l
    have hpre : autos ++ t.2.2.2.1 = preR x t := by rw [← hau]; rfl
    rw [hpre] at l
    unfold cloR
    have hN := rawR_names x.1 (preR x t)
    generalize rawR x.1 (preR x t) = raw at l hN ⊢
    have hNl := hN.len
    obtain ⟨aw, cw, rfl, _, _⟩ := (OSl.toS (show OSl 9 strO V fp w raw from l.at (i := 0) rfl)).slice
    · simp (disch := omega) only [↓stq, amv_at, vls, inf, frs, mark_eq, ↓reduceIte, Nat.reduceEqDiff, ite_tt, ite_ff, eq_self, and_true, true_and, and_self, implies_true, Bool.true_eq_false, Bool.false_eq_true, decide_true, decide_false, decide_eq_true_eq, decide_eq_false_iff_not, ne_eq, not_true_eq_false, not_false_eq_true, Bool.not_eq_true', Bool.not_eq_false', beq_self_eq_true, Bool.not_true, Bool.not_false, List.getElem?_toArray, List.getElem?_cons_zero, List.getElem?_cons_succ, h2, h3, h5, h7]
      refine led_lit0 (O := strO) li31 l fun b8 V _ l => ?_
      simp (disch := omega) only [↓stq, amv_at, vls, inf, frs, mark_eq, ↓reduceIte, Nat.reduceEqDiff, ite_tt, ite_ff, eq_self, and_true, true_and, and_self, implies_true, Bool.true_eq_false, Bool.false_eq_true, decide_true, decide_false, decide_eq_true_eq, decide_eq_false_iff_not, ne_eq, not_true_eq_false, not_false_eq_true, Bool.not_eq_true', Bool.not_eq_false', beq_self_eq_true, Bool.not_true, Bool.not_false, List.getElem?_toArray, List.getElem?_cons_zero, List.getElem?_cons_succ, h2, h3, h5, h7]
      refine aloop (fun d fr V => ∃ (k : Nat) (fo : List Nat) (wo : Value), k ≤ 3 ∧ d = 3 - k ∧ Led A [osl 9 strO fo wo (outsR x.1 raw k), osl 9 strO fp (.slice aw raw.length cw) raw, bx q3 ⟨38, [.string t.1, .string t.2.1, .slice a2 t.2.2.1.length c2, .slice a3 t.2.2.2.1.length c3], 4, true⟩, bx q2 ⟨26, [.slice a0 x.1.length c0, .slice a1 x.2.1.length c1], 2, true⟩] V ∧ fr 2 = .pointer (some ⟨q2, 0, none⟩) ∧ fr 5 = .slice aw raw.length cw ∧ fr 8 = wo ∧ fr 9 = .int .i64 (2 - (k : Int))) 3 ⟨0, _, _, by omega, by omega, l, h2, h5, by rfl, by rfl⟩ ?_
      clear l h2 h3 h5 h7 n3
      rintro d fr V ⟨k, fo, wo, hk, rfl, l, h2, h5, h8, h9⟩
      simp (disch := omega) only [↓stq, amv_at, vls, inf, frs, mark_eq, ↓reduceIte, Nat.reduceEqDiff, ite_tt, ite_ff, eq_self, and_true, true_and, and_self, implies_true, Bool.true_eq_false, Bool.false_eq_true, decide_true, decide_false, decide_eq_true_eq, decide_eq_false_iff_not, ne_eq, not_true_eq_false, not_false_eq_true, Bool.not_eq_true', Bool.not_eq_false', beq_self_eq_true, Bool.not_true, Bool.not_false, List.getElem?_toArray, List.getElem?_cons_zero, List.getElem?_cons_succ, h2, h5, h8, h9]
      refine ⟨fun e3 => ?_, fun e3 => ?_⟩
      · have hk3 : k < 3 := by omega
        simp (disch := omega) only [↓stq, amv_at, vls, inf, frs, mark_eq, ↓reduceIte, Nat.reduceEqDiff, ite_tt, ite_ff, eq_self, and_true, true_and, and_self, implies_true, Bool.true_eq_false, Bool.false_eq_true, decide_true, decide_false, decide_eq_true_eq, decide_eq_false_iff_not, ne_eq, not_true_eq_false, not_false_eq_true, Bool.not_eq_true', Bool.not_eq_false', beq_self_eq_true, Bool.not_true, Bool.not_false, List.getElem?_toArray, List.getElem?_cons_zero, List.getElem?_cons_succ, h2, h5, h8, h9]
        refine aloop (fun d fr V => ∃ (i : Nat) (fo : List Nat) (wo : Value), i ≤ raw.length ∧ d = raw.length - i ∧ Led A [osl 9 strO fo wo (outsR x.1 raw k ++ bucket x.1 (raw.take i) (2 - (k : Int))), osl 9 strO fp (.slice aw raw.length cw) raw, bx q3 ⟨38, [.string t.1, .string t.2.1, .slice a2 t.2.2.1.length c2, .slice a3 t.2.2.2.1.length c3], 4, true⟩, bx q2 ⟨26, [.slice a0 x.1.length c0, .slice a1 x.2.1.length c1], 2, true⟩] V ∧ fr 2 = .pointer (some ⟨q2, 0, none⟩) ∧ fr 5 = .slice aw raw.length cw ∧ fr 8 = wo ∧ fr 9 = .int .i64 (2 - (k : Int)) ∧ fr 10 = .int .i64 i) raw.length ⟨0, _, _, by omega, by omega, by rw [List.take_zero]; show Led A [osl _ _ _ _ (_ ++ []), _, _, _] _; rw [List.append_nil]; exact l, h2, h5, h8, h9, by rfl⟩ ?_
        clear l h2 h5 h8 h9
        rintro d fr V ⟨i, fo, wo, hi, rfl, l, h2, h5, h8, h9, h10⟩
        simp (disch := omega) only [↓stq, amv_at, vls, inf, frs, mark_eq, ↓reduceIte, Nat.reduceEqDiff, ite_tt, ite_ff, eq_self, and_true, true_and, and_self, implies_true, Bool.true_eq_false, Bool.false_eq_true, decide_true, decide_false, decide_eq_true_eq, decide_eq_false_iff_not, ne_eq, not_true_eq_false, not_false_eq_true, Bool.not_eq_true', Bool.not_eq_false', beq_self_eq_true, Bool.not_true, Bool.not_false, List.getElem?_toArray, List.getElem?_cons_zero, List.getElem?_cons_succ, h2, h5, h8, h9, h10]
        refine ⟨fun e4 => ?_, fun e4 => ?_⟩
        · have hlt : i < raw.length := by omega
          have hF := hN.2 _ (List.getElem_mem hlt)
          obtain ⟨j, hj, hjl, _, hsc, _⟩ := scope_idx (fs := x.1) (a := raw[i]) (hasF_idx.1 hF)
          obtain ⟨adj, uj, rfl, hclA, _, _, _⟩ := g0.fixture hjl
          have hcl := l.ext.part hclA
          have s1 := View.part_cell hcl (j := 1) rfl
          obtain ⟨adr, hq, kr, zr⟩ := (OSl.toS (show OSl 9 strO V fp _ raw from l.at (i := 1) rfl)).str hlt
          subst hq
          have k0 := l.cell (i := 3) rfl (o := 0) rfl rfl
          have hbt := bucket_take (fs := x.1) (s := 2 - (k : Int)) hlt
          have hb1 := outsR_len x.1 raw k
          have hb2 := bucket_len x.1 (raw.take i) (2 - (k : Int))
          rw [List.length_take] at hb2
          have hb3 : k * raw.length ≤ 3 * raw.length := Nat.mul_le_mul_right _ hk
          simp (disch := omega) only [↓stq, amv_at, vls, inf, frs, mark_eq, ↓reduceIte, Nat.reduceEqDiff, ite_tt, ite_ff, eq_self, and_true, true_and, and_self, implies_true, Bool.true_eq_false, Bool.false_eq_true, decide_true, decide_false, decide_eq_true_eq, decide_eq_false_iff_not, ne_eq, not_true_eq_false, not_false_eq_true, Bool.not_eq_true', Bool.not_eq_false', beq_self_eq_true, Bool.not_true, Bool.not_false, List.getElem?_toArray, List.getElem?_cons_zero, List.getElem?_cons_succ, h2, h5, h8, h9, h10]
          refine adraw_items [.q 0, .l 1 true, .q 2, .l 3 false, .q 4, .q 5, .q 6, .l 7 false, .q 12, .c 8 [1], .q 9, .q 10, .l 11 false, .q 13] (by kernel_rfl) (by kernel_rfl) ?_
          simp (disch := omega) only [↓stq, amv_at, ↓pln, plv, nilOk, Nat.reduceBEq, Bool.or_false, Bool.or_true, Bool.false_or, Bool.true_or, vls, inf, frs, mark_eq, ↓reduceIte, Nat.reduceEqDiff, ite_tt, ite_ff, eq_self, and_true, true_and, and_self, implies_true, Bool.true_eq_false, Bool.false_eq_true, decide_true, decide_false, decide_eq_true_eq, decide_eq_false_iff_not, ne_eq, not_true_eq_false, not_false_eq_true, Bool.not_eq_true', Bool.not_eq_false', beq_self_eq_true, Bool.not_true, Bool.not_false, List.getElem?_toArray, List.getElem?_cons_zero, List.getElem?_cons_succ, h2, h5, h8, h9, h10, add_at, k0, kr]
          refine (spec_fixtureAt_c V _ x.1 raw[i] (g0.mono l.ext)).mono ?_
          rintro _ V ⟨rfl, rfl⟩
          rw [hj]
          simp (disch := omega) only [↓stq, amv_at, ↓pln, plv, nilOk, Nat.reduceBEq, Bool.or_false, Bool.or_true, Bool.false_or, Bool.true_or, vls, inf, frs, mark_eq, ↓reduceIte, Nat.reduceEqDiff, ite_tt, ite_ff, eq_self, and_true, true_and, and_self, implies_true, Bool.true_eq_false, Bool.false_eq_true, decide_true, decide_false, decide_eq_true_eq, decide_eq_false_iff_not, ne_eq, not_true_eq_false, not_false_eq_true, Bool.not_eq_true', Bool.not_eq_false', beq_self_eq_true, Bool.not_true, Bool.not_false, List.getElem?_toArray, List.getElem?_cons_zero, List.getElem?_cons_succ, h2, h5, h8, h9, h10, add_at, k0, kr, s1]
          rw [← hsc]
          refine ⟨fun e5 => ?_, fun e5 => ?_⟩ <;> simp (disch := omega) only [↓stq, amv_at, vls, inf, frs, mark_eq, ↓reduceIte, Nat.reduceEqDiff, ite_tt, ite_ff, eq_self, and_true, true_and, and_self, implies_true, Bool.true_eq_false, Bool.false_eq_true, decide_true, decide_false, decide_eq_true_eq, decide_eq_false_iff_not, ne_eq, not_true_eq_false, not_false_eq_true, Bool.not_eq_true', Bool.not_eq_false', beq_self_eq_true, Bool.not_true, Bool.not_false, List.getElem?_toArray, List.getElem?_cons_zero, List.getElem?_cons_succ, h2, h5, h8, h9, h10, kr]
          · refine led_lit li31 (by omega) rfl (by simp [Value.cells, Value.oneCell']) l fun bl V _ l => ?_
            simp (disch := omega) only [↓stq, amv_at, vls, inf, frs, mark_eq, ↓reduceIte, Nat.reduceEqDiff, ite_tt, ite_ff, eq_self, and_true, true_and, and_self, implies_true, Bool.true_eq_false, Bool.false_eq_true, decide_true, decide_false, decide_eq_true_eq, decide_eq_false_iff_not, ne_eq, not_true_eq_false, not_false_eq_true, Bool.not_eq_true', Bool.not_eq_false', beq_self_eq_true, Bool.not_true, Bool.not_false, List.getElem?_toArray, List.getElem?_cons_zero, List.getElem?_cons_succ, h2, h5, h8, h9, h10]
            refine led_app (O := strO) ap31_31 (by decide) l (i := 1) rfl (l.src1 (S := strS) (j := 0) rfl ⟨rfl, zr⟩) (by rw [List.length_singleton, List.length_append]; omega) fun fp2 w2 V4 _ l => ?_
            simp (disch := omega) only [↓stq, amv_at, vls, inf, frs, mark_eq, ↓reduceIte, Nat.reduceEqDiff, ite_tt, ite_ff, eq_self, and_true, true_and, and_self, implies_true, Bool.true_eq_false, Bool.false_eq_true, decide_true, decide_false, decide_eq_true_eq, decide_eq_false_iff_not, ne_eq, not_true_eq_false, not_false_eq_true, Bool.not_eq_true', Bool.not_eq_false', beq_self_eq_true, Bool.not_true, Bool.not_false, List.getElem?_toArray, List.getElem?_cons_zero, List.getElem?_cons_succ, h2, h5, h8, h9, h10]
            rw [if_pos e5] at hbt
            exact ⟨_, by omega, i + 1, fp2, w2, by omega, rfl, by rw [hbt, ← List.append_assoc]; exact l.tail, rfl, rfl⟩
          · rw [if_neg e5, List.append_nil] at hbt
            exact ⟨_, by omega, i + 1, fo, wo, by omega, rfl, by rw [hbt]; exact l, rfl, rfl⟩
        · have hie : i = raw.length := by omega
          rw [hie, List.take_length] at l
          simp (disch := omega) only [↓stq, amv_at, vls, inf, frs, mark_eq, ↓reduceIte, Nat.reduceEqDiff, ite_tt, ite_ff, eq_self, and_true, true_and, and_self, implies_true, Bool.true_eq_false, Bool.false_eq_true, decide_true, decide_false, decide_eq_true_eq, decide_eq_false_iff_not, ne_eq, not_true_eq_false, not_false_eq_true, Bool.not_eq_true', Bool.not_eq_false', beq_self_eq_true, Bool.not_true, Bool.not_false, List.getElem?_toArray, List.getElem?_cons_zero, List.getElem?_cons_succ, h2, h5, h8, h9, h10]
          exact ⟨_, by omega, k + 1, fo, wo, by omega, rfl, l, rfl, congrArg (Value.int .i64) (by omega)⟩
      · have hk3 : k = 3 := by omega
        subst hk3
        rw [outsR_end] at l
        simp (disch := omega) only [↓stq, amv_at, vls, inf, frs, mark_eq, ↓reduceIte, Nat.reduceEqDiff, ite_tt, ite_ff, eq_self, and_true, true_and, and_self, implies_true, Bool.true_eq_false, Bool.false_eq_true, decide_true, decide_false, decide_eq_true_eq, decide_eq_false_iff_not, ne_eq, not_true_eq_false, not_false_eq_true, Bool.not_eq_true', Bool.not_eq_false', beq_self_eq_true, Bool.not_true, Bool.not_false, List.getElem?_toArray, List.getElem?_cons_zero, List.getElem?_cons_succ, h2, h5, h8, h9]
        exact NewSl.of l (i := 0) rfl

theorem impl_addClo_c (A : View) (x : SuiteD) (a0 a1 : Option Addr) (c0 c1 : Nat) (hx : suiteS.rel A x [.slice a0 x.1.length c0, .slice a1 x.2.1.length c1]) (hsm : x.1.length ≤ 1048576) (hso : Sound x.1) (V : View) (L : List It) (q2 q5 : Nat) (fp : List Nat) (aw : Option Addr) (cw : Nat) (lst : List ByteArray) (name : ByteArray) (hz : name.size ≤ 140737488355328) (hF : hasF x.1 name) (hSh : Shut x.1 lst) (hN : Names x.1 lst)
    (l : Led A (bx q5 ⟨31, [.slice aw lst.length cw], 1, true⟩ :: osl 9 strO fp (.slice aw lst.length cw) lst :: bx q2 ⟨26, [.slice a0 x.1.length c0, .slice a1 x.2.1.length c1], 2, true⟩ :: L) V) :
    ACalls Try.prog 105 #[.string name, .pointer (some ⟨q2, 0, none⟩), .pointer (some ⟨q5, 0, none⟩)] V fun _ V' => ∃ fp' aw' cw', Led A (bx q5 ⟨31, [.slice aw' (clo1 x.1 lst name).length cw'], 1, true⟩ :: osl 9 strO fp' (.slice aw' (clo1 x.1 lst name).length cw') (clo1 x.1 lst name) :: bx q2 ⟨26, [.slice a0 x.1.length c0, .slice a1 x.2.1.length c1], 2, true⟩ :: L) V' := by
  have hnn := nOf_names hso (fuel_ok x.1) hF (fun o ho => by cases ho) hSh hN
  have hlen := hnn.1.len
  refine acalls Try.func105 rfl (by kernel_rfl) ?_
  simp (disch := omega) only [↓stq, amv_at, vls, inf, frs, mark_eq, ↓reduceIte, Nat.reduceEqDiff, ite_tt, ite_ff, eq_self, and_true, true_and, and_self, implies_true, Bool.true_eq_false, Bool.false_eq_true, decide_true, decide_false, decide_eq_true_eq, decide_eq_false_iff_not, ne_eq, not_true_eq_false, not_false_eq_true, Bool.not_eq_true', Bool.not_eq_false', beq_self_eq_true, Bool.not_true, Bool.not_false, List.getElem?_toArray, List.getElem?_cons_zero, List.getElem?_cons_succ]
  have kp : V.part ⟨q2, 0, none⟩ 2 = some [.slice a0 x.1.length c0, .slice a1 x.2.1.length c1] := l.part (i := 2) rfl rfl
  have k5 := l.cell (i := 0) rfl (o := 0) rfl rfl
  simp (disch := omega) only [↓stq, amv_at, vls, inf, frs, mark_eq, ↓reduceIte, Nat.reduceEqDiff, ite_tt, ite_ff, eq_self, and_true, true_and, and_self, implies_true, Bool.true_eq_false, Bool.false_eq_true, decide_true, decide_false, decide_eq_true_eq, decide_eq_false_iff_not, ne_eq, not_true_eq_false, not_false_eq_true, Bool.not_eq_true', Bool.not_eq_false', beq_self_eq_true, Bool.not_true, Bool.not_false, List.getElem?_toArray, List.getElem?_cons_zero, List.getElem?_cons_succ, kp, k5]
  refine (impl_needsOf_c A _ x hx hsm hso (fuel x.1) V _ name [] fp _ lst hz (fuel_ok _) hF (fun o ho => by cases ho) hSh hN (l.perm (List.Perm.swap ..))).mono ?_
  rintro r V2 ⟨fp2, l⟩
  unfold clo1
  generalize nOf x.1 (fuel x.1) name lst = lst2 at l hlen ⊢
  obtain ⟨aw2, cw2, rfl, _, _⟩ := (OSl.toS (show OSl 9 strO V2 fp2 r lst2 from l.at (i := 0) rfl)).slice
  replace l := l.perm (List.Perm.swap ..)
  simp (disch := omega) only [↓stq, amv_at, vls, inf, frs, mark_eq, ↓reduceIte, Nat.reduceEqDiff, ite_tt, ite_ff, eq_self, and_true, true_and, and_self, implies_true, Bool.true_eq_false, Bool.false_eq_true, decide_true, decide_false, decide_eq_true_eq, decide_eq_false_iff_not, ne_eq, not_true_eq_false, not_false_eq_true, Bool.not_eq_true', Bool.not_eq_false', beq_self_eq_true, Bool.not_true, Bool.not_false, List.getElem?_toArray, List.getElem?_cons_zero, List.getElem?_cons_succ]
  refine led_store l 0 rfl sz31 rfl (by rfl) (by rfl) fun V3 l => ?_
  replace l : Led A (bx q5 ⟨31, [.slice aw2 lst2.length cw2], 1, true⟩ :: osl 9 strO fp2 (.slice aw2 lst2.length cw2) lst2 :: bx q2 ⟨26, [.slice a0 x.1.length c0, .slice a1 x.2.1.length c1], 2, true⟩ :: L) V3 := l
  have k5 := l.cell (i := 0) rfl (o := 0) rfl rfl
  simp (disch := omega) only [↓stq, amv_at, vls, inf, frs, mark_eq, ↓reduceIte, Nat.reduceEqDiff, ite_tt, ite_ff, eq_self, and_true, true_and, and_self, implies_true, Bool.true_eq_false, Bool.false_eq_true, decide_true, decide_false, decide_eq_true_eq, decide_eq_false_iff_not, ne_eq, not_true_eq_false, not_false_eq_true, Bool.not_eq_true', Bool.not_eq_false', beq_self_eq_true, Bool.not_true, Bool.not_false, List.getElem?_toArray, List.getElem?_cons_zero, List.getElem?_cons_succ, k5]
  refine (contains_str_c V3 _ lst2 name (OSl.toS (l.at (i := 1) rfl))).mono ?_
  rintro _ V3 ⟨rfl, rfl⟩
  unfold addO
  simp (disch := omega) only [↓stq, amv_at, vls, inf, frs, mark_eq, ↓reduceIte, Nat.reduceEqDiff, ite_tt, ite_ff, eq_self, and_true, true_and, and_self, implies_true, Bool.true_eq_false, Bool.false_eq_true, decide_true, decide_false, decide_eq_true_eq, decide_eq_false_iff_not, ne_eq, not_true_eq_false, not_false_eq_true, Bool.not_eq_true', Bool.not_eq_false', beq_self_eq_true, Bool.not_true, Bool.not_false, List.getElem?_toArray, List.getElem?_cons_zero, List.getElem?_cons_succ]
  refine ⟨fun e1 => ?_, fun e1 => ?_⟩ <;> simp (disch := omega) only [↓stq, amv_at, vls, inf, frs, mark_eq, ↓reduceIte, Nat.reduceEqDiff, ite_tt, ite_ff, eq_self, and_true, true_and, and_self, implies_true, Bool.true_eq_false, Bool.false_eq_true, decide_true, decide_false, decide_eq_true_eq, decide_eq_false_iff_not, ne_eq, not_true_eq_false, not_false_eq_true, Bool.not_eq_true', Bool.not_eq_false', beq_self_eq_true, Bool.not_true, Bool.not_false, List.getElem?_toArray, List.getElem?_cons_zero, List.getElem?_cons_succ, k5]
  · refine led_lit li31 (by omega) rfl (by simp [Value.cells, Value.oneCell']) l fun bl V4 _ l => ?_
    simp (disch := omega) only [↓stq, amv_at, vls, inf, frs, mark_eq, ↓reduceIte, Nat.reduceEqDiff, ite_tt, ite_ff, eq_self, and_true, true_and, and_self, implies_true, Bool.true_eq_false, Bool.false_eq_true, decide_true, decide_false, decide_eq_true_eq, decide_eq_false_iff_not, ne_eq, not_true_eq_false, not_false_eq_true, Bool.not_eq_true', Bool.not_eq_false', beq_self_eq_true, Bool.not_true, Bool.not_false, List.getElem?_toArray, List.getElem?_cons_zero, List.getElem?_cons_succ]
    refine led_app (O := strO) ap31_31 (by decide) l (i := 2) rfl (l.src1 (S := strS) (j := 0) rfl ⟨rfl, hz⟩) (by rw [List.length_singleton]; omega) fun fp3 w3 V5 _ l => ?_
    replace l := l.tail
    obtain ⟨aw3, cw3, rfl, _, _⟩ := (OSl.toS (show OSl 9 strO V5 fp3 w3 (lst2 ++ [name]) from l.at (i := 1) rfl)).slice
    simp (disch := omega) only [↓stq, amv_at, vls, inf, frs, mark_eq, ↓reduceIte, Nat.reduceEqDiff, ite_tt, ite_ff, eq_self, and_true, true_and, and_self, implies_true, Bool.true_eq_false, Bool.false_eq_true, decide_true, decide_false, decide_eq_true_eq, decide_eq_false_iff_not, ne_eq, not_true_eq_false, not_false_eq_true, Bool.not_eq_true', Bool.not_eq_false', beq_self_eq_true, Bool.not_true, Bool.not_false, List.getElem?_toArray, List.getElem?_cons_zero, List.getElem?_cons_succ]
    refine led_store l 0 rfl sz31 rfl (by rfl) (by rfl) fun V6 l => ?_
    simp (disch := omega) only [↓stq, amv_at, vls, inf, frs, mark_eq, ↓reduceIte, Nat.reduceEqDiff, ite_tt, ite_ff, eq_self, and_true, true_and, and_self, implies_true, Bool.true_eq_false, Bool.false_eq_true, decide_true, decide_false, decide_eq_true_eq, decide_eq_false_iff_not, ne_eq, not_true_eq_false, not_false_eq_true, Bool.not_eq_true', Bool.not_eq_false', beq_self_eq_true, Bool.not_true, Bool.not_false, List.getElem?_toArray, List.getElem?_cons_zero, List.getElem?_cons_succ]
    rw [if_neg e1]
    exact ⟨fp3, aw3, cw3, l⟩
  · rw [if_pos e1]
    exact ⟨fp2, aw2, cw2, l⟩

theorem impl_cmpClo_c (A V : View) (x : SuiteD) (a0 a1 : Option Addr) (c0 c1 : Nat) (hx : suiteS.rel A x [.slice a0 x.1.length c0, .slice a1 x.2.1.length c1]) (q2 : Nat) (he : Ext A V) (kb : V q2 = some ⟨26, [.slice a0 x.1.length c0, .slice a1 x.2.1.length c1], 2, true⟩) (hs : ∀ a, hasF x.1 a → 0 ≤ scopeAt x.1 a ∧ scopeAt x.1 a ≤ 2) (m n : ByteArray) (hm : hasF x.1 m) (hn : hasF x.1 n) :
    ACalls Try.prog 107 #[.string m, .string n, .pointer (some ⟨q2, 0, none⟩)] V fun r V' => r = .int .i64 (scopeAt x.1 n - scopeAt x.1 m) ∧ Ext V V' := by
  obtain ⟨u0, u1, hq, g0, g1⟩ := suiteS_open hx
  injection hq with hq0 hq
  injection hq with hq1 _
  subst hq0; subst hq1
  obtain ⟨i, hi, hil, _, hsi, _⟩ := scope_idx (fs := x.1) (a := m) (hasF_idx.1 hm)
  obtain ⟨j, hj, hjl, _, hsj, _⟩ := scope_idx (fs := x.1) (a := n) (hasF_idx.1 hn)
  have s1 := hs m hm
  have s2 := hs n hn
  obtain ⟨ad, ui, rfl, hclA, _, _, _⟩ := g0.fixture hil
  obtain ⟨_, uj, hq, hclB, _, _, _⟩ := g0.fixture hjl
  obtain rfl := Option.some.inj hq
  have ki := View.part_cell (he.part hclA) (j := 1) rfl
  have kj := View.part_cell (he.part hclB) (j := 1) rfl
  rw [← hsi] at ki
  rw [← hsj] at kj
  have kp : V.part ⟨q2, 0, none⟩ 2 = some [.slice (some ad) x.1.length c0, .slice a1 x.2.1.length c1] := by
    have := part_at (off := 0) (n := 2) kb (by show 0 + 2 ≤ 2; omega) (fun v hv => by
      have hv := List.mem_of_mem_drop (List.mem_of_mem_take hv)
      rcases List.mem_cons.1 hv with rfl | hv
      · rfl
      · rw [List.mem_singleton.1 hv]; rfl)
    exact this
  have k0 := View.part_cell kp (j := 0) rfl
  rw [add_at] at k0
  refine acalls Try.func107 rfl (by kernel_rfl) ?_
  simp (disch := omega) only [↓stq, amv_at, vls, inf, frs, mark_eq, ↓reduceIte, Nat.reduceEqDiff, ite_tt, ite_ff, eq_self, and_true, true_and, and_self, implies_true, Bool.true_eq_false, Bool.false_eq_true, decide_true, decide_false, decide_eq_true_eq, decide_eq_false_iff_not, ne_eq, not_true_eq_false, not_false_eq_true, Bool.not_eq_true', Bool.not_eq_false', beq_self_eq_true, Bool.not_true, Bool.not_false, List.getElem?_toArray, List.getElem?_cons_zero, List.getElem?_cons_succ]
  refine adraw_items [.q 0, .l 1 true, .l 2 false, .q 3, .q 8, .l 9 true, .l 10 true, .q 11, .c 4 [1, 9, 10], .q 5, .q 6, .l 7 true, .c 12 [1, 9, 7], .q 13, .q 14, .l 15 false, .q 16, .q 17] (by kernel_rfl) (by kernel_rfl) ?_
  simp (disch := omega) only [↓stq, amv_at, ↓pln, plv, nilOk, Nat.reduceBEq, Bool.or_false, Bool.or_true, Bool.false_or, Bool.true_or, vls, inf, frs, mark_eq, ↓reduceIte, Nat.reduceEqDiff, ite_tt, ite_ff, eq_self, and_true, true_and, and_self, implies_true, Bool.true_eq_false, Bool.false_eq_true, decide_true, decide_false, decide_eq_true_eq, decide_eq_false_iff_not, ne_eq, not_true_eq_false, not_false_eq_true, Bool.not_eq_true', Bool.not_eq_false', beq_self_eq_true, Bool.not_true, Bool.not_false, List.getElem?_toArray, List.getElem?_cons_zero, List.getElem?_cons_succ, add_at, k0, kp]
  refine (impl_fixtureAt_c V _ x n (suiteS_mk (g0.mono he) (g1.mono he))).mono ?_
  rintro _ V2 ⟨rfl, he2⟩
  rw [hj]
  replace kp := he2.part kp
  replace k0 := he2.cell k0
  replace kj := he2.cell kj
  replace ki := he2.cell ki
  simp (disch := omega) only [↓stq, amv_at, ↓pln, plv, nilOk, Nat.reduceBEq, Bool.or_false, Bool.or_true, Bool.false_or, Bool.true_or, vls, inf, frs, mark_eq, ↓reduceIte, Nat.reduceEqDiff, ite_tt, ite_ff, eq_self, and_true, true_and, and_self, implies_true, Bool.true_eq_false, Bool.false_eq_true, decide_true, decide_false, decide_eq_true_eq, decide_eq_false_iff_not, ne_eq, not_true_eq_false, not_false_eq_true, Bool.not_eq_true', Bool.not_eq_false', beq_self_eq_true, Bool.not_true, Bool.not_false, List.getElem?_toArray, List.getElem?_cons_zero, List.getElem?_cons_succ, add_at, k0, kp, kj]
  refine (impl_fixtureAt_c V2 _ x m (suiteS_mk ((g0.mono he).mono he2) ((g1.mono he).mono he2))).mono ?_
  rintro _ V3 ⟨rfl, he3⟩
  rw [hi]
  replace kp := he3.part kp
  replace k0 := he3.cell k0
  replace kj := he3.cell kj
  replace ki := he3.cell ki
  simp (disch := omega) only [↓stq, amv_at, ↓pln, plv, nilOk, Nat.reduceBEq, Bool.or_false, Bool.or_true, Bool.false_or, Bool.true_or, vls, inf, frs, mark_eq, ↓reduceIte, Nat.reduceEqDiff, ite_tt, ite_ff, eq_self, and_true, true_and, and_self, implies_true, Bool.true_eq_false, Bool.false_eq_true, decide_true, decide_false, decide_eq_true_eq, decide_eq_false_iff_not, ne_eq, not_true_eq_false, not_false_eq_true, Bool.not_eq_true', Bool.not_eq_false', beq_self_eq_true, Bool.not_true, Bool.not_false, List.getElem?_toArray, List.getElem?_cons_zero, List.getElem?_cons_succ, add_at, k0, kp, kj, ki]
  exact he2.trans he3

theorem scope_rng {x : SuiteD} (hv : validB x = true) {a : ByteArray} (ha : hasF x.1 a) : 0 ≤ scopeAt x.1 a ∧ scopeAt x.1 a ≤ 2 := by
  obtain ⟨i, _, hi, _, hs, _⟩ := scope_idx (fs := x.1) (a := a) (hasF_idx.1 ha)
  have := (validB_parts hv).1.fs _ (List.getElem_mem hi)
  rw [hs]
  exact this.2.2
theorem autos_has {x : SuiteD} {a : ByteArray} {k : Nat} (h : a ∈ ((x.1.take k).filter fun f => f.2.2.2.1).map (·.1)) : hasF x.1 a := by
  obtain ⟨f, hf, rfl⟩ := List.mem_map.1 h
  exact List.mem_map_of_mem (List.mem_of_mem_take (List.mem_filter.1 hf).1)

theorem impl_closureOf_c (A : View) (d d' : List Value) (x : SuiteD) (t : TestD) (hx : suiteS.rel A x d) (ht : testS.rel A t d') (hsm : x.1.length ≤ 1048576) (hv : validB x = true) (htm : ∀ a, a ∈ t.2.2.2.1 → hasF x.1 a) : ACalls Try.prog 57 #[.agg d.toArray, .agg d'.toArray] A fun r V => NewSl 9 strO A r V (cloR x.1 (preR x t)) := by
  obtain ⟨u0, u1, rfl, g0, g1⟩ := suiteS_open hx
  obtain ⟨a0, c0, rfl, _, _⟩ := g0.slice
  obtain ⟨a1, c1, rfl, _, _⟩ := g1.slice
  obtain ⟨v2, v3, rfl, z1, z2, f2, f3⟩ := testS_open ht
  obtain ⟨a2, c2, rfl, _, _⟩ := f2.slice
  obtain ⟨a3, c3, rfl, _, _⟩ := f3.slice
  have hso := sound_of hv
  have hsc : ∀ a, hasF x.1 a → 0 ≤ scopeAt x.1 a ∧ scopeAt x.1 a ≤ 2 := fun a ha => scope_rng hv ha
  have hfl := (validB_parts hv).1.fl
  refine acalls Try.func57 rfl (by kernel_rfl) ?_
  simp (disch := omega) only [↓stq, amv_at, vls, inf, frs, mark_eq, ↓reduceIte, Nat.reduceEqDiff, ite_tt, ite_ff, eq_self, and_true, true_and, and_self, implies_true, Bool.true_eq_false, Bool.false_eq_true, decide_true, decide_false, decide_eq_true_eq, decide_eq_false_iff_not, ne_eq, not_true_eq_false, not_false_eq_true, Bool.not_eq_true', Bool.not_eq_false', beq_self_eq_true, Bool.not_true, Bool.not_false, List.getElem?_toArray, List.getElem?_cons_zero, List.getElem?_cons_succ]
  refine led_box (Led.nil A) rfl fun q2 V _ l => ?_
  simp (disch := omega) only [↓stq, amv_at, vls, inf, frs, mark_eq, ↓reduceIte, Nat.reduceEqDiff, ite_tt, ite_ff, eq_self, and_true, true_and, and_self, implies_true, Bool.true_eq_false, Bool.false_eq_true, decide_true, decide_false, decide_eq_true_eq, decide_eq_false_iff_not, ne_eq, not_true_eq_false, not_false_eq_true, Bool.not_eq_true', Bool.not_eq_false', beq_self_eq_true, Bool.not_true, Bool.not_false, List.getElem?_toArray, List.getElem?_cons_zero, List.getElem?_cons_succ]
  refine led_box l rfl fun q3 V _ l => ?_
  simp (disch := omega) only [↓stq, amv_at, vls, inf, frs, mark_eq, ↓reduceIte, Nat.reduceEqDiff, ite_tt, ite_ff, eq_self, and_true, true_and, and_self, implies_true, Bool.true_eq_false, Bool.false_eq_true, decide_true, decide_false, decide_eq_true_eq, decide_eq_false_iff_not, ne_eq, not_true_eq_false, not_false_eq_true, Bool.not_eq_true', Bool.not_eq_false', beq_self_eq_true, Bool.not_true, Bool.not_false, List.getElem?_toArray, List.getElem?_cons_zero, List.getElem?_cons_succ]
  refine led_lit0 (O := strO) li31 l fun b V _ l => ?_
  simp (disch := omega) only [↓stq, amv_at, vls, inf, frs, mark_eq, ↓reduceIte, Nat.reduceEqDiff, ite_tt, ite_ff, eq_self, and_true, true_and, and_self, implies_true, Bool.true_eq_false, Bool.false_eq_true, decide_true, decide_false, decide_eq_true_eq, decide_eq_false_iff_not, ne_eq, not_true_eq_false, not_false_eq_true, Bool.not_eq_true', Bool.not_eq_false', beq_self_eq_true, Bool.not_true, Bool.not_false, List.getElem?_toArray, List.getElem?_cons_zero, List.getElem?_cons_succ]
  refine led_alloc zc31 l fun q5 V _ l => ?_
  simp (disch := omega) only [↓stq, amv_at, vls, inf, frs, mark_eq, ↓reduceIte, Nat.reduceEqDiff, ite_tt, ite_ff, eq_self, and_true, true_and, and_self, implies_true, Bool.true_eq_false, Bool.false_eq_true, decide_true, decide_false, decide_eq_true_eq, decide_eq_false_iff_not, ne_eq, not_true_eq_false, not_false_eq_true, Bool.not_eq_true', Bool.not_eq_false', beq_self_eq_true, Bool.not_true, Bool.not_false, List.getElem?_toArray, List.getElem?_cons_zero, List.getElem?_cons_succ]
  refine led_store l 0 rfl sz31 rfl (by rfl) (by rfl) fun V l => ?_
  replace l : Led A [bx q5 ⟨31, [.slice (some ⟨b, 0, none⟩) 0 0], 1, true⟩, osl 9 strO [b] (.slice (some ⟨b, 0, none⟩) 0 0) ([] : List ByteArray), bx q2 ⟨26, [.slice a0 x.1.length c0, .slice a1 x.2.1.length c1], 2, true⟩, bx q3 ⟨38, [.string t.1, .string t.2.1, .slice a2 t.2.2.1.length c2, .slice a3 t.2.2.2.1.length c3], 4, true⟩] V := l.perm (List.Perm.cons _ (List.Perm.cons _ (List.Perm.swap ..)))
  have k0 := l.cell (i := 2) rfl (o := 0) rfl rfl
  simp (disch := omega) only [↓stq, amv_at, vls, inf, frs, mark_eq, ↓reduceIte, Nat.reduceEqDiff, ite_tt, ite_ff, eq_self, and_true, true_and, and_self, implies_true, Bool.true_eq_false, Bool.false_eq_true, decide_true, decide_false, decide_eq_true_eq, decide_eq_false_iff_not, ne_eq, not_true_eq_false, not_false_eq_true, Bool.not_eq_true', Bool.not_eq_false', beq_self_eq_true, Bool.not_true, Bool.not_false, List.getElem?_toArray, List.getElem?_cons_zero, List.getElem?_cons_succ, add_at, k0]
  refine aloop (fun d fr V => ∃ (i : Nat) (fp : List Nat) (aw : Option Addr) (cw : Nat), i ≤ x.1.length ∧ d = x.1.length - i ∧ Led A [bx q5 ⟨31, [.slice aw (rawR x.1 (((x.1.take i).filter fun f => f.2.2.2.1).map (·.1))).length cw], 1, true⟩, osl 9 strO fp (.slice aw (rawR x.1 (((x.1.take i).filter fun f => f.2.2.2.1).map (·.1))).length cw) (rawR x.1 (((x.1.take i).filter fun f => f.2.2.2.1).map (·.1))), bx q2 ⟨26, [.slice a0 x.1.length c0, .slice a1 x.2.1.length c1], 2, true⟩, bx q3 ⟨38, [.string t.1, .string t.2.1, .slice a2 t.2.2.1.length c2, .slice a3 t.2.2.2.1.length c3], 4, true⟩] V ∧ fr 2 = .pointer (some ⟨q2, 0, none⟩) ∧ fr 3 = .pointer (some ⟨q3, 0, none⟩) ∧ fr 5 = .pointer (some ⟨q5, 0, none⟩) ∧ fr 6 = .func (.func 105) #[] #[.pointer (some ⟨q2, 0, none⟩), .pointer (some ⟨q5, 0, none⟩)] ∧ fr 14 = .slice a0 x.1.length c0 ∧ fr 15 = .int .i64 x.1.length ∧ fr 16 = .int .i64 i) x.1.length ⟨0, _, _, _, by omega, by omega, l, by rfl, by rfl, by rfl, by rfl, by rfl, by rfl, by rfl⟩ ?_
  clear l k0
  rintro d fr V ⟨i, fp, aw, cw, hi, rfl, l, h2, h3, h5, h6, h14, h15, h16⟩
  simp (disch := omega) only [↓stq, amv_at, vls, inf, frs, mark_eq, ↓reduceIte, Nat.reduceEqDiff, ite_tt, ite_ff, eq_self, and_true, true_and, and_self, implies_true, Bool.true_eq_false, Bool.false_eq_true, decide_true, decide_false, decide_eq_true_eq, decide_eq_false_iff_not, ne_eq, not_true_eq_false, not_false_eq_true, Bool.not_eq_true', Bool.not_eq_false', beq_self_eq_true, Bool.not_true, Bool.not_false, List.getElem?_toArray, List.getElem?_cons_zero, List.getElem?_cons_succ, h2, h3, h5, h6, h14, h15, h16]
  refine ⟨fun e1 => ?_, fun e1 => ?_⟩
  · have hlt : i < x.1.length := by omega
    have htk := auto_take hlt
    have hN := rawR_names x.1 (((x.1.take i).filter fun f => f.2.2.2.1).map (·.1))
    have hSh := rawR_shut hso (((x.1.take i).filter fun f => f.2.2.2.1).map (·.1)) fun a ha => autos_has ha
    have hFi : hasF x.1 (x.1[i]).1 := List.mem_map_of_mem (List.getElem_mem hlt)
    have hnx := rawR_next hso (ns := ((x.1.take i).filter fun f => f.2.2.2.1).map (·.1)) (fun a ha => autos_has ha) hFi
    obtain ⟨ad, u2, rfl, hclA, y1, y2, fn⟩ := g0.fixture hlt
    obtain ⟨an, cn, rfl, _, _⟩ := fn.slice
    have hcl := l.ext.part hclA
    generalize hW : rawR x.1 (((x.1.take i).filter fun f => f.2.2.2.1).map (·.1)) = W at l hN hSh hnx
    simp (disch := omega) only [↓stq, amv_at, vls, inf, frs, mark_eq, ↓reduceIte, Nat.reduceEqDiff, ite_tt, ite_ff, eq_self, and_true, true_and, and_self, implies_true, Bool.true_eq_false, Bool.false_eq_true, decide_true, decide_false, decide_eq_true_eq, decide_eq_false_iff_not, ne_eq, not_true_eq_false, not_false_eq_true, Bool.not_eq_true', Bool.not_eq_false', beq_self_eq_true, Bool.not_true, Bool.not_false, List.getElem?_toArray, List.getElem?_cons_zero, List.getElem?_cons_succ, h2, h3, h5, h6, h14, h15, h16, hcl]
    refine led_alloc zc33 l fun q8 V _ l => ?_
    simp (disch := omega) only [↓stq, amv_at, vls, inf, frs, mark_eq, ↓reduceIte, Nat.reduceEqDiff, ite_tt, ite_ff, eq_self, and_true, true_and, and_self, implies_true, Bool.true_eq_false, Bool.false_eq_true, decide_true, decide_false, decide_eq_true_eq, decide_eq_false_iff_not, ne_eq, not_true_eq_false, not_false_eq_true, Bool.not_eq_true', Bool.not_eq_false', beq_self_eq_true, Bool.not_true, Bool.not_false, List.getElem?_toArray, List.getElem?_cons_zero, List.getElem?_cons_succ, h2, h3, h5, h6, h14, h15, h16]
    refine led_storeAll l 0 rfl sz33 rfl rfl (by simp [Value.oneCell']) fun V l => ?_
    have m0 := l.cell (i := 0) rfl (o := 0) rfl rfl
    have m3 := l.cell (i := 0) rfl (o := 3) rfl rfl
    simp (disch := omega) only [↓stq, amv_at, vls, inf, frs, mark_eq, ↓reduceIte, Nat.reduceEqDiff, ite_tt, ite_ff, eq_self, and_true, true_and, and_self, implies_true, Bool.true_eq_false, Bool.false_eq_true, decide_true, decide_false, decide_eq_true_eq, decide_eq_false_iff_not, ne_eq, not_true_eq_false, not_false_eq_true, Bool.not_eq_true', Bool.not_eq_false', beq_self_eq_true, Bool.not_true, Bool.not_false, List.getElem?_toArray, List.getElem?_cons_zero, List.getElem?_cons_succ, h2, h3, h5, h6, h14, h15, h16, add_at, m3]
    refine ⟨fun e2 => ?_, fun e2 => ?_⟩ <;> simp (disch := omega) only [↓stq, amv_at, vls, inf, frs, mark_eq, ↓reduceIte, Nat.reduceEqDiff, ite_tt, ite_ff, eq_self, and_true, true_and, and_self, implies_true, Bool.true_eq_false, Bool.false_eq_true, decide_true, decide_false, decide_eq_true_eq, decide_eq_false_iff_not, ne_eq, not_true_eq_false, not_false_eq_true, Bool.not_eq_true', Bool.not_eq_false', beq_self_eq_true, Bool.not_true, Bool.not_false, List.getElem?_toArray, List.getElem?_cons_zero, List.getElem?_cons_succ, h2, h3, h5, h6, h14, h15, h16, add_at, m0]
    · rw [if_pos e2] at htk
      refine (impl_addClo_c A x _ _ _ _ hx hsm hso V _ q2 q5 fp aw cw W (x.1[i]).1 y1 hFi hSh hN l.tail).mono ?_
      rintro r V2 ⟨fp2, aw2, cw2, l⟩
      simp (disch := omega) only [↓stq, amv_at, vls, inf, frs, mark_eq, ↓reduceIte, Nat.reduceEqDiff, ite_tt, ite_ff, eq_self, and_true, true_and, and_self, implies_true, Bool.true_eq_false, Bool.false_eq_true, decide_true, decide_false, decide_eq_true_eq, decide_eq_false_iff_not, ne_eq, not_true_eq_false, not_false_eq_true, Bool.not_eq_true', Bool.not_eq_false', beq_self_eq_true, Bool.not_true, Bool.not_false, List.getElem?_toArray, List.getElem?_cons_zero, List.getElem?_cons_succ, h2, h3, h5, h6, h14, h15, h16]
      exact ⟨_, by omega, i + 1, fp2, aw2, cw2, by omega, rfl, by rw [htk, hnx]; exact l, rfl⟩
    · rw [if_neg (by simpa using e2), List.append_nil] at htk
      exact ⟨_, by omega, i + 1, fp, aw, cw, by omega, rfl, by rw [htk, hW]; exact l.tail, rfl⟩
  have hie : i = x.1.length := by omega
  rw [hie, List.take_length] at l
  have hauh : ∀ a, a ∈ (x.1.filter fun f => f.2.2.2.1).map (·.1) → hasF x.1 a := fun a ha => autos_has (k := x.1.length) (by rw [List.take_length]; exact ha)
  generalize hau : (x.1.filter fun f => f.2.2.2.1).map (·.1) = autos at l hauh
  have n3 := l.cell (i := 3) rfl (o := 3) rfl rfl
  · simp (disch := omega) only [↓stq, amv_at, vls, inf, frs, mark_eq, ↓reduceIte, Nat.reduceEqDiff, ite_tt, ite_ff, eq_self, and_true, true_and, and_self, implies_true, Bool.true_eq_false, Bool.false_eq_true, decide_true, decide_false, decide_eq_true_eq, decide_eq_false_iff_not, ne_eq, not_true_eq_false, not_false_eq_true, Bool.not_eq_true', Bool.not_eq_false', beq_self_eq_true, Bool.not_true, Bool.not_false, List.getElem?_toArray, List.getElem?_cons_zero, List.getElem?_cons_succ, h2, h3, h5, h6, add_at, n3]
    refine aloop (fun d fr V => ∃ (i : Nat) (fp : List Nat) (aw : Option Addr) (cw : Nat), i ≤ t.2.2.2.1.length ∧ d = t.2.2.2.1.length - i ∧ Led A [bx q5 ⟨31, [.slice aw (rawR x.1 (autos ++ t.2.2.2.1.take i)).length cw], 1, true⟩, osl 9 strO fp (.slice aw (rawR x.1 (autos ++ t.2.2.2.1.take i)).length cw) (rawR x.1 (autos ++ t.2.2.2.1.take i)), bx q2 ⟨26, [.slice a0 x.1.length c0, .slice a1 x.2.1.length c1], 2, true⟩, bx q3 ⟨38, [.string t.1, .string t.2.1, .slice a2 t.2.2.1.length c2, .slice a3 t.2.2.2.1.length c3], 4, true⟩] V ∧ fr 2 = .pointer (some ⟨q2, 0, none⟩) ∧ fr 5 = .pointer (some ⟨q5, 0, none⟩) ∧ fr 6 = .func (.func 105) #[] #[.pointer (some ⟨q2, 0, none⟩), .pointer (some ⟨q5, 0, none⟩)] ∧ fr 28 = .slice a3 t.2.2.2.1.length c3 ∧ fr 29 = .int .i64 t.2.2.2.1.length ∧ fr 30 = .int .i64 i) t.2.2.2.1.length ⟨0, fp, aw, cw, by omega, by omega, by rw [List.take_zero, List.append_nil]; exact l, h2, h5, h6, by rfl, by rfl, by rfl⟩ ?_
    clear l n3 h2 h3 h5 h6 h14 h15 h16
    rintro d fr V ⟨i, fp, aw, cw, hi, rfl, l, h2, h5, h6, h28, h29, h30⟩
    simp (disch := omega) only [↓stq, amv_at, vls, inf, frs, mark_eq, ↓reduceIte, Nat.reduceEqDiff, ite_tt, ite_ff, eq_self, and_true, true_and, and_self, implies_true, Bool.true_eq_false, Bool.false_eq_true, decide_true, decide_false, decide_eq_true_eq, decide_eq_false_iff_not, ne_eq, not_true_eq_false, not_false_eq_true, Bool.not_eq_true', Bool.not_eq_false', beq_self_eq_true, Bool.not_true, Bool.not_false, List.getElem?_toArray, List.getElem?_cons_zero, List.getElem?_cons_succ, h2, h5, h6, h28, h29, h30]
    have hin : ∀ k a, a ∈ autos ++ t.2.2.2.1.take k → hasF x.1 a := fun k a ha => by
      rcases List.mem_append.1 ha with ha | ha
      · exact hauh a ha
      · exact htm a (List.mem_of_mem_take ha)
    refine ⟨fun e2 => ?_, fun e2 => ?_⟩
    · have hlt : i < t.2.2.2.1.length := by omega
      have htk : autos ++ t.2.2.2.1.take (i + 1) = (autos ++ t.2.2.2.1.take i) ++ [(t.2.2.2.1)[i]] := by rw [List.take_succ_eq_append_getElem hlt, List.append_assoc]
      have hN := rawR_names x.1 (autos ++ t.2.2.2.1.take i)
      have hSh := rawR_shut hso (autos ++ t.2.2.2.1.take i) (hin i)
      have hFi : hasF x.1 (t.2.2.2.1)[i] := htm _ (List.getElem_mem hlt)
      have hnx := rawR_next hso (hin i) hFi
      obtain ⟨ad, rfl, kk, zk⟩ := (f3.mono l.ext).str hlt
      generalize hW : rawR x.1 (autos ++ t.2.2.2.1.take i) = W at l hN hSh hnx
      simp (disch := omega) only [↓stq, amv_at, vls, inf, frs, mark_eq, ↓reduceIte, Nat.reduceEqDiff, ite_tt, ite_ff, eq_self, and_true, true_and, and_self, implies_true, Bool.true_eq_false, Bool.false_eq_true, decide_true, decide_false, decide_eq_true_eq, decide_eq_false_iff_not, ne_eq, not_true_eq_false, not_false_eq_true, Bool.not_eq_true', Bool.not_eq_false', beq_self_eq_true, Bool.not_true, Bool.not_false, List.getElem?_toArray, List.getElem?_cons_zero, List.getElem?_cons_succ, h2, h5, h6, h28, h29, h30, kk]
      refine (impl_addClo_c A x _ _ _ _ hx hsm hso V _ q2 q5 fp aw cw W _ zk hFi hSh hN l).mono ?_
      rintro r V2 ⟨fp2, aw2, cw2, l⟩
      simp (disch := omega) only [↓stq, amv_at, vls, inf, frs, mark_eq, ↓reduceIte, Nat.reduceEqDiff, ite_tt, ite_ff, eq_self, and_true, true_and, and_self, implies_true, Bool.true_eq_false, Bool.false_eq_true, decide_true, decide_false, decide_eq_true_eq, decide_eq_false_iff_not, ne_eq, not_true_eq_false, not_false_eq_true, Bool.not_eq_true', Bool.not_eq_false', beq_self_eq_true, Bool.not_true, Bool.not_false, List.getElem?_toArray, List.getElem?_cons_zero, List.getElem?_cons_succ, h2, h5, h6, h28, h29, h30]
      exact ⟨_, by omega, i + 1, fp2, aw2, cw2, by omega, rfl, by rw [htk, hnx]; exact l, rfl⟩
    · have hie : i = t.2.2.2.1.length := by omega
      rw [hie, List.take_length] at l
      have hpre : autos ++ t.2.2.2.1 = preR x t := by rw [← hau]; rfl
      rw [hpre] at l
      unfold cloR
      have hN := rawR_names x.1 (preR x t)
      generalize rawR x.1 (preR x t) = raw at l hN ⊢
      rw [← sort_buckets raw fun a ha => hsc a (hN.2 a ha)]
      have hNl := hN.len
      have k5 := l.cell (i := 0) rfl (o := 0) rfl rfl
      simp (disch := omega) only [↓stq, amv_at, vls, inf, frs, mark_eq, ↓reduceIte, Nat.reduceEqDiff, ite_tt, ite_ff, eq_self, and_true, true_and, and_self, implies_true, Bool.true_eq_false, Bool.false_eq_true, decide_true, decide_false, decide_eq_true_eq, decide_eq_false_iff_not, ne_eq, not_true_eq_false, not_false_eq_true, Bool.not_eq_true', Bool.not_eq_false', beq_self_eq_true, Bool.not_true, Bool.not_false, List.getElem?_toArray, List.getElem?_cons_zero, List.getElem?_cons_succ, h2, h5, h6, h28, h29, h30, k5]
      refine (sortStable_c A V _ fp _ raw _ _ _ (scopeAt x.1) (by kernel_rfl) (by omega) (fun V w l m n hm hn => ?_) (l.perm (List.Perm.swap ..))).mono ?_
      · exact impl_cmpClo_c A V x _ _ _ _ hx q2 l.ext (l.at (i := 2) rfl) hsc m n (hN.2 m hm) (hN.2 n hn)
      · rintro _ W l
        have k5 := l.cell (i := 1) rfl (o := 0) rfl rfl
        simp (disch := omega) only [↓stq, amv_at, vls, inf, frs, mark_eq, ↓reduceIte, Nat.reduceEqDiff, ite_tt, ite_ff, eq_self, and_true, true_and, and_self, implies_true, Bool.true_eq_false, Bool.false_eq_true, decide_true, decide_false, decide_eq_true_eq, decide_eq_false_iff_not, ne_eq, not_true_eq_false, not_false_eq_true, Bool.not_eq_true', Bool.not_eq_false', beq_self_eq_true, Bool.not_true, Bool.not_false, List.getElem?_toArray, List.getElem?_cons_zero, List.getElem?_cons_succ, h2, h5, h6, h28, h29, h30, k5]
        exact NewSl.of l (i := 0) rfl

/-- What a test of a suite stands on. -/
noncomputable def cloOf (x : SuiteD) (id : ByteArray) : List ByteArray := if validB x = true ∧ 0 ≤ findB x.2.1 id then ((x.2.1.find? fun t => decide (idD t = id)).map fun t => cloR x.1 (preR x t)).getD [] else []
theorem cloOf_no {x : SuiteD} {id : ByteArray} (h : ¬ (validB x = true ∧ 0 ≤ findB x.2.1 id)) : cloOf x id = [] := by unfold cloOf; rw [if_neg h]
theorem cloOf_at {x : SuiteD} {id : ByteArray} (h : validB x = true ∧ 0 ≤ findB x.2.1 id) : ∃ i : Nat, findB x.2.1 id = i ∧ ∃ hi : i < x.2.1.length, cloOf x id = cloR x.1 (preR x x.2.1[i]) := by
  obtain ⟨i, h1, hi, _, h3⟩ := idxI_lt (p := fun t : TestD => decide (idD t = id)) (xs := x.2.1) h.2
  refine ⟨i, h1, hi, ?_⟩
  unfold cloOf
  rw [if_pos h, h3]
  rfl
theorem cloR_len {fs : List FixtureD} (hl : fs.length ≤ 6) (ns : List ByteArray) : (cloR fs ns).length ≤ 18 := by
  have h1 := (rawR_names fs ns).len
  have h2 := bucket_len fs (rawR fs ns)
  have := h2 0
  have := h2 1
  have := h2 2
  unfold cloR
  rw [List.length_append, List.length_append]
  omega
theorem test_needs {x : SuiteD} (hv : validB x = true) {t : TestD} (ht : t ∈ x.2.1) : ∀ a, a ∈ t.2.2.2.1 → hasF x.1 a := by
  have hp := (validB_parts hv).2
  unfold probR at hp
  rw [List.append_eq_nil_iff, List.flatMap_eq_nil_iff, List.flatMap_eq_nil_iff] at hp
  have h1 := hp.2 t ht
  unfold prTest at h1
  rw [List.flatMap_eq_nil_iff] at h1
  intro a ha
  have h2 := h1 a ha
  unfold prTestN at h2
  by_cases h3 : fAt x.1 a < 0
  · rw [if_pos h3] at h2; cases h2
  · exact hasF_idx.2 (by omega)

theorem impl_ClosureOf_c (A : View) (d : List Value) (x : SuiteD) (id : ByteArray) (h : suiteS.rel A x d) (hs0 : x.1.length ≤ 1048576) (hs1 : x.2.1.length ≤ 1048576) : ACalls Try.prog 18 #[.agg d.toArray, .string id] A fun r A' => NewSl 9 strO A r A' (cloOf x id) := by
  obtain ⟨u0, u1, rfl, g0, g1⟩ := suiteS_open h
  obtain ⟨a0, c0, rfl, _, _⟩ := g0.slice
  obtain ⟨a1, c1, rfl, _, _⟩ := g1.slice
  refine acalls Try.func18 rfl (by kernel_rfl) ?_
  simp (disch := omega) only [↓stq, amv_at, vls, inf, frs, mark_eq, ↓reduceIte, Nat.reduceEqDiff, ite_tt, ite_ff, eq_self, and_true, true_and, and_self, implies_true, Bool.true_eq_false, Bool.false_eq_true, decide_true, decide_false, decide_eq_true_eq, decide_eq_false_iff_not, ne_eq, not_true_eq_false, not_false_eq_true, Bool.not_eq_true', Bool.not_eq_false', beq_self_eq_true, Bool.not_true, Bool.not_false, List.getElem?_toArray, List.getElem?_cons_zero, List.getElem?_cons_succ]
  refine led_box (Led.nil A) rfl fun q V he l => ?_
  have kp : V.part ⟨q, 0, none⟩ 2 = some [.slice a0 x.1.length c0, .slice a1 x.2.1.length c1] := l.part (i := 0) rfl rfl
  simp (disch := omega) only [↓stq, amv_at, vls, inf, frs, mark_eq, ↓reduceIte, Nat.reduceEqDiff, ite_tt, ite_ff, eq_self, and_true, true_and, and_self, implies_true, Bool.true_eq_false, Bool.false_eq_true, decide_true, decide_false, decide_eq_true_eq, decide_eq_false_iff_not, ne_eq, not_true_eq_false, not_false_eq_true, Bool.not_eq_true', Bool.not_eq_false', beq_self_eq_true, Bool.not_true, Bool.not_false, List.getElem?_toArray, List.getElem?_cons_zero, List.getElem?_cons_succ, kp]
  refine (impl_validB_c V _ x (suiteS_mk (g0.mono l.ext) (g1.mono l.ext)) (by omega) (by omega)).mono ?_
  rintro _ V2 ⟨rfl, he2⟩
  replace l := l.step he2
  have kp := he2.part kp
  have k1 := l.cell (i := 0) rfl (o := 1) rfl rfl
  simp (disch := omega) only [↓stq, amv_at, vls, inf, frs, mark_eq, ↓reduceIte, Nat.reduceEqDiff, ite_tt, ite_ff, eq_self, and_true, true_and, and_self, implies_true, Bool.true_eq_false, Bool.false_eq_true, decide_true, decide_false, decide_eq_true_eq, decide_eq_false_iff_not, ne_eq, not_true_eq_false, not_false_eq_true, Bool.not_eq_true', Bool.not_eq_false', beq_self_eq_true, Bool.not_true, Bool.not_false, List.getElem?_toArray, List.getElem?_cons_zero, List.getElem?_cons_succ, add_at, k1]
  refine ⟨fun e1 => ?_, fun e1 => ?_⟩ <;> simp (disch := omega) only [↓stq, amv_at, vls, inf, frs, mark_eq, ↓reduceIte, Nat.reduceEqDiff, ite_tt, ite_ff, eq_self, and_true, true_and, and_self, implies_true, Bool.true_eq_false, Bool.false_eq_true, decide_true, decide_false, decide_eq_true_eq, decide_eq_false_iff_not, ne_eq, not_true_eq_false, not_false_eq_true, Bool.not_eq_true', Bool.not_eq_false', beq_self_eq_true, Bool.not_true, Bool.not_false, List.getElem?_toArray, List.getElem?_cons_zero, List.getElem?_cons_succ, e1, add_at, k1]
  · rw [cloOf_no (by rw [e1]; simp)]
    exact NewSl.nil l.ext
  · refine (impl_FindTest_c V2 _ x.2.1 id (g1.mono l.ext) (by omega)).mono ?_
    rintro _ V3 ⟨rfl, he3⟩
    replace l := l.step he3
    have kp := he3.part kp
    rw [findV_of e1]
    simp (disch := omega) only [↓stq, amv_at, vls, inf, frs, mark_eq, ↓reduceIte, Nat.reduceEqDiff, ite_tt, ite_ff, eq_self, and_true, true_and, and_self, implies_true, Bool.true_eq_false, Bool.false_eq_true, decide_true, decide_false, decide_eq_true_eq, decide_eq_false_iff_not, ne_eq, not_true_eq_false, not_false_eq_true, Bool.not_eq_true', Bool.not_eq_false', beq_self_eq_true, Bool.not_true, Bool.not_false, List.getElem?_toArray, List.getElem?_cons_zero, List.getElem?_cons_succ]
    refine ⟨fun e2 => ?_, fun e2 => ?_⟩ <;> simp (disch := omega) only [↓stq, amv_at, vls, inf, frs, mark_eq, ↓reduceIte, Nat.reduceEqDiff, ite_tt, ite_ff, eq_self, and_true, true_and, and_self, implies_true, Bool.true_eq_false, Bool.false_eq_true, decide_true, decide_false, decide_eq_true_eq, decide_eq_false_iff_not, ne_eq, not_true_eq_false, not_false_eq_true, Bool.not_eq_true', Bool.not_eq_false', beq_self_eq_true, Bool.not_true, Bool.not_false, List.getElem?_toArray, List.getElem?_cons_zero, List.getElem?_cons_succ]
    · rw [cloOf_no (by omega)]
      exact NewSl.nil l.ext
    · obtain ⟨i, hi, hil, hc⟩ := cloOf_at (x := x) (id := id) ⟨e1, by omega⟩
      rw [hc, hi]
      obtain ⟨ad, u2, u3, rfl, hclA, z1, z2, f2, f3⟩ := g1.test hil
      obtain ⟨a2, c2, rfl, _, _⟩ := f2.slice
      obtain ⟨a3, c3, rfl, _, _⟩ := f3.slice
      have hcl := l.ext.part hclA
      have k1 := l.cell (i := 0) rfl (o := 1) rfl rfl
      refine adraw_items [.l 0 false, .q 1, .l 2 false, .q 3, .q 4, .l 5 false, .c 6 [], .q 7] (by kernel_rfl) (by kernel_rfl) ?_
      simp (disch := omega) only [↓stq, amv_at, ↓pln, plv, nilOk, Nat.reduceBEq, Bool.or_false, Bool.or_true, Bool.false_or, Bool.true_or, vls, inf, frs, mark_eq, ↓reduceIte, Nat.reduceEqDiff, ite_tt, ite_ff, eq_self, and_true, true_and, and_self, implies_true, Bool.true_eq_false, Bool.false_eq_true, decide_true, decide_false, decide_eq_true_eq, decide_eq_false_iff_not, ne_eq, not_true_eq_false, not_false_eq_true, Bool.not_eq_true', Bool.not_eq_false', beq_self_eq_true, Bool.not_true, Bool.not_false, List.getElem?_toArray, List.getElem?_cons_zero, List.getElem?_cons_succ, add_at, kp, k1, hcl]
      refine (impl_closureOf_c V3 _ _ x x.2.1[i] (suiteS_mk (g0.mono l.ext) (g1.mono l.ext)) (testS_mk z1 z2 (f2.mono l.ext) (f3.mono l.ext)) hs0 e1 (test_needs e1 (List.getElem_mem hil))).mono ?_
      rintro r V4 ⟨fp, l2⟩
      have k1 := (l.append l2).cell (i := 1) rfl (o := 1) rfl rfl
      have kp := l2.ext.part kp
      have hcl := l2.ext.part hcl
      simp (disch := omega) only [↓stq, amv_at, ↓pln, plv, nilOk, Nat.reduceBEq, Bool.or_false, Bool.or_true, Bool.false_or, Bool.true_or, vls, inf, frs, mark_eq, ↓reduceIte, Nat.reduceEqDiff, ite_tt, ite_ff, eq_self, and_true, true_and, and_self, implies_true, Bool.true_eq_false, Bool.false_eq_true, decide_true, decide_false, decide_eq_true_eq, decide_eq_false_iff_not, ne_eq, not_true_eq_false, not_false_eq_true, Bool.not_eq_true', Bool.not_eq_false', beq_self_eq_true, Bool.not_true, Bool.not_false, List.getElem?_toArray, List.getElem?_cons_zero, List.getElem?_cons_succ, add_at, kp, k1, hcl]
      exact ⟨fp, l2.base l.ext⟩

theorem spec_ClosureOf_c (A : View) (d : List Value) (x : SuiteD) (id : ByteArray) (h : suiteS.rel A x d) (hs0 : x.1.length ≤ 1048576) : ACalls Try.prog 20 #[.agg d.toArray, .string id] A fun r A' => NewSl 9 strO A r A' (cloOf x id) := by
  obtain ⟨u0, u1, rfl, g0, g1⟩ := suiteS_open h
  obtain ⟨a0, c0, rfl, _, _⟩ := g0.slice
  obtain ⟨a1, c1, rfl, _, _⟩ := g1.slice
  refine acalls Try.func20 rfl (by kernel_rfl) ?_
  simp (disch := omega) only [↓stq, amv_at, vls, inf, frs, mark_eq, ↓reduceIte, Nat.reduceEqDiff, ite_tt, ite_ff, eq_self, and_true, true_and, and_self, implies_true, Bool.true_eq_false, Bool.false_eq_true, decide_true, decide_false, decide_eq_true_eq, decide_eq_false_iff_not, ne_eq, not_true_eq_false, not_false_eq_true, Bool.not_eq_true', Bool.not_eq_false', beq_self_eq_true, Bool.not_true, Bool.not_false, List.getElem?_toArray, List.getElem?_cons_zero, List.getElem?_cons_succ]
  refine led_box (Led.nil A) rfl fun q V he l => ?_
  have k1 := l.cell (i := 0) rfl (o := 1) rfl rfl
  simp (disch := omega) only [↓stq, amv_at, vls, inf, frs, mark_eq, ↓reduceIte, Nat.reduceEqDiff, ite_tt, ite_ff, eq_self, and_true, true_and, and_self, implies_true, Bool.true_eq_false, Bool.false_eq_true, decide_true, decide_false, decide_eq_true_eq, decide_eq_false_iff_not, ne_eq, not_true_eq_false, not_false_eq_true, Bool.not_eq_true', Bool.not_eq_false', beq_self_eq_true, Bool.not_true, Bool.not_false, List.getElem?_toArray, List.getElem?_cons_zero, List.getElem?_cons_succ, add_at, k1]
  refine (spec_findTest_c V _ x.2.1 id (g1.mono l.ext)).mono ?_
  rintro _ V2 ⟨rfl, he2⟩
  rw [show idxI (fun x => decide (idD x = id)) x.2.1 = findB x.2.1 id from rfl]
  replace l := l.step he2
  have kp : V2.part ⟨q, 0, none⟩ 2 = some [.slice a0 x.1.length c0, .slice a1 x.2.1.length c1] := l.part (i := 0) rfl rfl
  simp (disch := omega) only [↓stq, amv_at, vls, inf, frs, mark_eq, ↓reduceIte, Nat.reduceEqDiff, ite_tt, ite_ff, eq_self, and_true, true_and, and_self, implies_true, Bool.true_eq_false, Bool.false_eq_true, decide_true, decide_false, decide_eq_true_eq, decide_eq_false_iff_not, ne_eq, not_true_eq_false, not_false_eq_true, Bool.not_eq_true', Bool.not_eq_false', beq_self_eq_true, Bool.not_true, Bool.not_false, List.getElem?_toArray, List.getElem?_cons_zero, List.getElem?_cons_succ, kp]
  refine (spec_validB_c V2 _ x (suiteS_mk (g0.mono l.ext) (g1.mono l.ext)) trivial).mono ?_
  rintro _ V3 ⟨rfl, he3⟩
  replace l := l.step he3
  have kp := he3.part kp
  simp (disch := omega) only [↓stq, amv_at, vls, inf, frs, mark_eq, ↓reduceIte, Nat.reduceEqDiff, ite_tt, ite_ff, eq_self, and_true, true_and, and_self, implies_true, Bool.true_eq_false, Bool.false_eq_true, decide_true, decide_false, decide_eq_true_eq, decide_eq_false_iff_not, ne_eq, not_true_eq_false, not_false_eq_true, Bool.not_eq_true', Bool.not_eq_false', beq_self_eq_true, Bool.not_true, Bool.not_false, List.getElem?_toArray, List.getElem?_cons_zero, List.getElem?_cons_succ, kp]
  refine ⟨fun e1 => ?_, fun e1 => ?_⟩ <;> simp (disch := omega) only [↓stq, amv_at, vls, inf, frs, mark_eq, ↓reduceIte, Nat.reduceEqDiff, ite_tt, ite_ff, eq_self, and_true, true_and, and_self, implies_true, Bool.true_eq_false, Bool.false_eq_true, decide_true, decide_false, decide_eq_true_eq, decide_eq_false_iff_not, ne_eq, not_true_eq_false, not_false_eq_true, Bool.not_eq_true', Bool.not_eq_false', beq_self_eq_true, Bool.not_true, Bool.not_false, List.getElem?_toArray, List.getElem?_cons_zero, List.getElem?_cons_succ, e1]
  · refine ⟨fun e2 => ?_, fun e2 => ?_⟩ <;> simp (disch := omega) only [↓stq, amv_at, vls, inf, frs, mark_eq, ↓reduceIte, Nat.reduceEqDiff, ite_tt, ite_ff, eq_self, and_true, true_and, and_self, implies_true, Bool.true_eq_false, Bool.false_eq_true, decide_true, decide_false, decide_eq_true_eq, decide_eq_false_iff_not, ne_eq, not_true_eq_false, not_false_eq_true, Bool.not_eq_true', Bool.not_eq_false', beq_self_eq_true, Bool.not_true, Bool.not_false, List.getElem?_toArray, List.getElem?_cons_zero, List.getElem?_cons_succ]
    · rw [cloOf_no (by omega)]
      exact NewSl.nil l.ext
    · obtain ⟨i, hi, hil, hc⟩ := cloOf_at (x := x) (id := id) ⟨e1, by omega⟩
      rw [hc, hi]
      obtain ⟨ad, u2, u3, rfl, hclA, z1, z2, f2, f3⟩ := g1.test hil
      obtain ⟨a2, c2, rfl, _, _⟩ := f2.slice
      obtain ⟨a3, c3, rfl, _, _⟩ := f3.slice
      have hcl := l.ext.part hclA
      have k1 := l.cell (i := 0) rfl (o := 1) rfl rfl
      refine adraw_items [.l 0 false, .q 1, .l 2 false, .q 3, .q 4, .l 5 false, .c 6 [], .q 7] (by kernel_rfl) (by kernel_rfl) ?_
      simp (disch := omega) only [↓stq, amv_at, ↓pln, plv, nilOk, Nat.reduceBEq, Bool.or_false, Bool.or_true, Bool.false_or, Bool.true_or, vls, inf, frs, mark_eq, ↓reduceIte, Nat.reduceEqDiff, ite_tt, ite_ff, eq_self, and_true, true_and, and_self, implies_true, Bool.true_eq_false, Bool.false_eq_true, decide_true, decide_false, decide_eq_true_eq, decide_eq_false_iff_not, ne_eq, not_true_eq_false, not_false_eq_true, Bool.not_eq_true', Bool.not_eq_false', beq_self_eq_true, Bool.not_true, Bool.not_false, List.getElem?_toArray, List.getElem?_cons_zero, List.getElem?_cons_succ, add_at, kp, k1, hcl]
      refine (spec_closure_c V3 _ _ x x.2.1[i] (suiteS_mk (g0.mono l.ext) (g1.mono l.ext)) (testS_mk z1 z2 (f2.mono l.ext) (f3.mono l.ext)) hs0).mono ?_
      rintro r V4 ⟨fp, l2⟩
      have k1 := (l.append l2).cell (i := 1) rfl (o := 1) rfl rfl
      have kp := l2.ext.part kp
      have hcl := l2.ext.part hcl
      simp (disch := omega) only [↓stq, amv_at, ↓pln, plv, nilOk, Nat.reduceBEq, Bool.or_false, Bool.or_true, Bool.false_or, Bool.true_or, vls, inf, frs, mark_eq, ↓reduceIte, Nat.reduceEqDiff, ite_tt, ite_ff, eq_self, and_true, true_and, and_self, implies_true, Bool.true_eq_false, Bool.false_eq_true, decide_true, decide_false, decide_eq_true_eq, decide_eq_false_iff_not, ne_eq, not_true_eq_false, not_false_eq_true, Bool.not_eq_true', Bool.not_eq_false', beq_self_eq_true, Bool.not_true, Bool.not_false, List.getElem?_toArray, List.getElem?_cons_zero, List.getElem?_cons_succ, add_at, kp, k1, hcl]
      exact ⟨fp, l2.base l.ext⟩
  · rw [cloOf_no (by rw [e1]; simp)]
    exact NewSl.nil l.ext

theorem anId_c (B A : View) (L : List It) (q : Nat) (sl : Value) (N : Nat) (hb : Bts B sl) (hN : N ≤ 900000000) (l : Led B (rdr q sl N :: L) A) : ACalls Try.prog 104 #[.pointer (some ⟨q, 0, none⟩)] A fun r V => ∃ s : ByteArray, r = .string s ∧ s.size ≤ 300 ∧ Led B (rdr q sl (N + 2) :: L) V := by
  refine acalls Try.func104 rfl (by kernel_rfl) ?_
  simp (disch := omega) only [↓stq, amv_at, vls, inf, frs, mark_eq, ↓reduceIte, Nat.reduceEqDiff, ite_tt, ite_ff, eq_self, and_true, true_and, and_self, implies_true, Bool.true_eq_false, Bool.false_eq_true, decide_true, decide_false, decide_eq_true_eq, decide_eq_false_iff_not, ne_eq, not_true_eq_false, not_false_eq_true, Bool.not_eq_true', Bool.not_eq_false', beq_self_eq_true, Bool.not_true, Bool.not_false, List.getElem?_toArray, List.getElem?_cons_zero, List.getElem?_cons_succ]
  refine (aModule_c B A L q sl N hb (by omega) l).mono ?_
  rintro _ V ⟨s1, rfl, hz1, l⟩
  have hp : (s1 ++ (⟨#[46]⟩ : ByteArray)).size = s1.size + 1 := by rw [ByteArray.size_append]; rfl
  simp (disch := omega) only [↓stq, amv_at, vls, inf, frs, mark_eq, ↓reduceIte, Nat.reduceEqDiff, ite_tt, ite_ff, eq_self, and_true, true_and, and_self, implies_true, Bool.true_eq_false, Bool.false_eq_true, decide_true, decide_false, decide_eq_true_eq, decide_eq_false_iff_not, ne_eq, not_true_eq_false, not_false_eq_true, Bool.not_eq_true', Bool.not_eq_false', beq_self_eq_true, Bool.not_true, Bool.not_false, List.getElem?_toArray, List.getElem?_cons_zero, List.getElem?_cons_succ]
  rw [abin_cat _ _ _ (by show _ + 1 ≤ _; omega)]
  simp (disch := omega) only [↓stq, amv_at, vls, inf, frs, mark_eq, ↓reduceIte, Nat.reduceEqDiff, ite_tt, ite_ff, eq_self, and_true, true_and, and_self, implies_true, Bool.true_eq_false, Bool.false_eq_true, decide_true, decide_false, decide_eq_true_eq, decide_eq_false_iff_not, ne_eq, not_true_eq_false, not_false_eq_true, Bool.not_eq_true', Bool.not_eq_false', beq_self_eq_true, Bool.not_true, Bool.not_false, List.getElem?_toArray, List.getElem?_cons_zero, List.getElem?_cons_succ]
  refine led_lit li31 (by omega) rfl (by simp [Value.cells, Value.oneCell']) l fun bl V _ l => ?_
  simp (disch := omega) only [↓stq, amv_at, vls, inf, frs, mark_eq, ↓reduceIte, Nat.reduceEqDiff, ite_tt, ite_ff, eq_self, and_true, true_and, and_self, implies_true, Bool.true_eq_false, Bool.false_eq_true, decide_true, decide_false, decide_eq_true_eq, decide_eq_false_iff_not, ne_eq, not_true_eq_false, not_false_eq_true, Bool.not_eq_true', Bool.not_eq_false', beq_self_eq_true, Bool.not_true, Bool.not_false, List.getElem?_toArray, List.getElem?_cons_zero, List.getElem?_cons_succ]
  refine (ofLit_c (n := 5) (c := 5) (xs := [_, _, _, _, _]) B V L q sl _ hb (by omega) rfl rfl (by omega) (by decide) (by omega) (by omega) l).mono ?_
  rintro _ V ⟨s2, rfl, hs2, l⟩
  have hz2 : s2.size ≤ 100 := by revert s2; decide
  simp (disch := omega) only [↓stq, amv_at, vls, inf, frs, mark_eq, ↓reduceIte, Nat.reduceEqDiff, ite_tt, ite_ff, eq_self, and_true, true_and, and_self, implies_true, Bool.true_eq_false, Bool.false_eq_true, decide_true, decide_false, decide_eq_true_eq, decide_eq_false_iff_not, ne_eq, not_true_eq_false, not_false_eq_true, Bool.not_eq_true', Bool.not_eq_false', beq_self_eq_true, Bool.not_true, Bool.not_false, List.getElem?_toArray, List.getElem?_cons_zero, List.getElem?_cons_succ]
  exact ⟨_, rfl, by rw [ByteArray.size_append, hp]; omega, l⟩

theorem testIn_c (B A : View) (L : List It) (q : Nat) (sl : Value) (N : Nat) (hb : Bts B sl) (hN : N ≤ 500000000) (l : Led B (rdr q sl N :: L) A) : ACalls Try.prog 56 #[.pointer (some ⟨q, 0, none⟩)] A fun r V => ∃ fp x cells s, r = .tuple #[.agg cells.toArray, .string s] ∧ GenS x ∧ s.size ≤ 300 ∧ Led B (oc suiteO fp x cells :: rdr q sl (N + 400) :: L) V := by
  refine acalls Try.func56 rfl (by kernel_rfl) ?_
  simp (disch := omega) only [↓stq, amv_at, vls, inf, frs, mark_eq, ↓reduceIte, Nat.reduceEqDiff, ite_tt, ite_ff, eq_self, and_true, true_and, and_self, implies_true, Bool.true_eq_false, Bool.false_eq_true, decide_true, decide_false, decide_eq_true_eq, decide_eq_false_iff_not, ne_eq, not_true_eq_false, not_false_eq_true, Bool.not_eq_true', Bool.not_eq_false', beq_self_eq_true, Bool.not_true, Bool.not_false, List.getElem?_toArray, List.getElem?_cons_zero, List.getElem?_cons_succ]
  refine led_alloc zc26 l fun q2 V _ l => ?_
  simp (disch := omega) only [↓stq, amv_at, vls, inf, frs, mark_eq, ↓reduceIte, Nat.reduceEqDiff, ite_tt, ite_ff, eq_self, and_true, true_and, and_self, implies_true, Bool.true_eq_false, Bool.false_eq_true, decide_true, decide_false, decide_eq_true_eq, decide_eq_false_iff_not, ne_eq, not_true_eq_false, not_false_eq_true, Bool.not_eq_true', Bool.not_eq_false', beq_self_eq_true, Bool.not_true, Bool.not_false, List.getElem?_toArray, List.getElem?_cons_zero, List.getElem?_cons_succ]
  refine (someSuite_c B V _ q sl N hb (by omega) (l.perm (List.Perm.swap ..))).mono ?_
  rintro r V ⟨fp, x, cells, rfl, hg, l⟩
  obtain ⟨ff0, uu0, ff1, uu1, rfl, rfl, o0, o1⟩ := suiteO_open (show suiteO.rel V fp x cells from l.at (i := 0) rfl)
  obtain ⟨a0, c0, rfl, _, _⟩ := o0.toS.slice
  obtain ⟨a1, c1, rfl, _, _⟩ := o1.toS.slice
  have hl1 := hg.l1
  replace l := l.split2 (it1 := osl 33 fixtureO ff0 _ x.1) (it2 := osl 38 testO ff1 _ x.2.1) rfl o0 o1
  simp (disch := omega) only [↓stq, amv_at, vls, inf, frs, mark_eq, ↓reduceIte, Nat.reduceEqDiff, ite_tt, ite_ff, eq_self, and_true, true_and, and_self, implies_true, Bool.true_eq_false, Bool.false_eq_true, decide_true, decide_false, decide_eq_true_eq, decide_eq_false_iff_not, ne_eq, not_true_eq_false, not_false_eq_true, Bool.not_eq_true', Bool.not_eq_false', beq_self_eq_true, Bool.not_true, Bool.not_false, List.getElem?_toArray, List.getElem?_cons_zero, List.getElem?_cons_succ]
  refine led_alloc zc26 l fun q3 V _ l => ?_
  simp (disch := omega) only [↓stq, amv_at, vls, inf, frs, mark_eq, ↓reduceIte, Nat.reduceEqDiff, ite_tt, ite_ff, eq_self, and_true, true_and, and_self, implies_true, Bool.true_eq_false, Bool.false_eq_true, decide_true, decide_false, decide_eq_true_eq, decide_eq_false_iff_not, ne_eq, not_true_eq_false, not_false_eq_true, Bool.not_eq_true', Bool.not_eq_false', beq_self_eq_true, Bool.not_true, Bool.not_false, List.getElem?_toArray, List.getElem?_cons_zero, List.getElem?_cons_succ]
  refine led_storeAll l 0 rfl sz26 rfl rfl (by simp [Value.oneCell']) fun V l => ?_
  replace l : Led B (rdr q sl (N + 300) :: bx q3 ⟨26, [.slice a0 x.1.length c0, .slice a1 x.2.1.length c1], 2, true⟩ :: osl 33 fixtureO ff0 (.slice a0 x.1.length c0) x.1 :: osl 38 testO ff1 (.slice a1 x.2.1.length c1) x.2.1 :: bx q2 ⟨26, [.slice none 0 0, .slice none 0 0], 2, true⟩ :: L) V := l.front 3 (by simp)
  have w1 := l.cell (i := 1) rfl (o := 1) rfl rfl
  have rest : ∀ (V : View) (M : Nat), M ≤ N + 310 → Led B (rdr q sl M :: bx q3 ⟨26, [.slice a0 x.1.length c0, .slice a1 x.2.1.length c1], 2, true⟩ :: osl 33 fixtureO ff0 (.slice a0 x.1.length c0) x.1 :: osl 38 testO ff1 (.slice a1 x.2.1.length c1) x.2.1 :: bx q2 ⟨26, [.slice a0 x.1.length c0, .slice a1 x.2.1.length c1], 2, true⟩ :: L) V → Led B (oc suiteO (ff0 ++ ff1) x [.slice a0 x.1.length c0, .slice a1 x.2.1.length c1] :: rdr q sl (N + 400) :: L) V := fun V M hM l =>
    join_suite (M := M) (l.sub (.cons_cons _ (.cons _ (.cons_cons _ (.cons_cons _ (.cons _ (List.Sublist.refl L))))))) (by omega)
  have tail : ∀ (V : View) (M : Nat), M ≤ N + 305 → Led B (rdr q sl M :: bx q3 ⟨26, [.slice a0 x.1.length c0, .slice a1 x.2.1.length c1], 2, true⟩ :: osl 33 fixtureO ff0 (.slice a0 x.1.length c0) x.1 :: osl 38 testO ff1 (.slice a1 x.2.1.length c1) x.2.1 :: bx q2 ⟨26, [.slice none 0 0, .slice none 0 0], 2, true⟩ :: L) V → ACalls Try.prog 104 #[.pointer (some ⟨q, 0, none⟩)] V fun r V' => ∃ s : ByteArray, r = .string s ∧ s.size ≤ 300 ∧ Led B (rdr q sl (M + 2) :: bx q3 ⟨26, [.slice a0 x.1.length c0, .slice a1 x.2.1.length c1], 2, true⟩ :: osl 33 fixtureO ff0 (.slice a0 x.1.length c0) x.1 :: osl 38 testO ff1 (.slice a1 x.2.1.length c1) x.2.1 :: bx q2 ⟨26, [.slice none 0 0, .slice none 0 0], 2, true⟩ :: L) V' := fun V M hM l => anId_c B V _ q sl M hb (by omega) l
  simp (disch := omega) only [↓stq, amv_at, vls, inf, frs, mark_eq, ↓reduceIte, Nat.reduceEqDiff, ite_tt, ite_ff, eq_self, and_true, true_and, and_self, implies_true, Bool.true_eq_false, Bool.false_eq_true, decide_true, decide_false, decide_eq_true_eq, decide_eq_false_iff_not, ne_eq, not_true_eq_false, not_false_eq_true, Bool.not_eq_true', Bool.not_eq_false', beq_self_eq_true, Bool.not_true, Bool.not_false, List.getElem?_toArray, List.getElem?_cons_zero, List.getElem?_cons_succ, add_at, w1]
  refine ⟨fun e1 => ?_, fun e1 => ?_⟩ <;> simp (disch := omega) only [↓stq, amv_at, vls, inf, frs, mark_eq, ↓reduceIte, Nat.reduceEqDiff, ite_tt, ite_ff, eq_self, and_true, true_and, and_self, implies_true, Bool.true_eq_false, Bool.false_eq_true, decide_true, decide_false, decide_eq_true_eq, decide_eq_false_iff_not, ne_eq, not_true_eq_false, not_false_eq_true, Bool.not_eq_true', Bool.not_eq_false', beq_self_eq_true, Bool.not_true, Bool.not_false, List.getElem?_toArray, List.getElem?_cons_zero, List.getElem?_cons_succ, e1]
  · refine (pick_c B V _ q sl _ 6 hb (by omega) ⟨by omega, by omega⟩ l).mono ?_
    rintro _ V ⟨u, rfl, hu0, hu1, l⟩
    simp (disch := omega) only [↓stq, amv_at, vls, inf, frs, mark_eq, ↓reduceIte, Nat.reduceEqDiff, ite_tt, ite_ff, eq_self, and_true, true_and, and_self, implies_true, Bool.true_eq_false, Bool.false_eq_true, decide_true, decide_false, decide_eq_true_eq, decide_eq_false_iff_not, ne_eq, not_true_eq_false, not_false_eq_true, Bool.not_eq_true', Bool.not_eq_false', beq_self_eq_true, Bool.not_true, Bool.not_false, List.getElem?_toArray, List.getElem?_cons_zero, List.getElem?_cons_succ, e1]
    refine ⟨fun e2 => ?_, fun e2 => ?_⟩ <;> simp (disch := omega) only [↓stq, amv_at, vls, inf, frs, mark_eq, ↓reduceIte, Nat.reduceEqDiff, ite_tt, ite_ff, eq_self, and_true, true_and, and_self, implies_true, Bool.true_eq_false, Bool.false_eq_true, decide_true, decide_false, decide_eq_true_eq, decide_eq_false_iff_not, ne_eq, not_true_eq_false, not_false_eq_true, Bool.not_eq_true', Bool.not_eq_false', beq_self_eq_true, Bool.not_true, Bool.not_false, List.getElem?_toArray, List.getElem?_cons_zero, List.getElem?_cons_succ]
    · have w1 := l.cell (i := 1) rfl (o := 1) rfl rfl
      have kp : V.part ⟨q3, 0, none⟩ 2 = some [.slice a0 x.1.length c0, .slice a1 x.2.1.length c1] := l.part (i := 1) rfl rfl
      refine adraw_items [.l 0 true, .q 1, .l 2 true, .q 3, .q 4, .l 5 false, .q 6, .c 7 [0, 2], .q 8, .l 9 false, .c 10 [0], .c 11 [], .q 12] (by kernel_rfl) (by kernel_rfl) ?_
      simp (disch := omega) only [↓stq, amv_at, ↓pln, plv, nilOk, Nat.reduceBEq, Bool.or_false, Bool.or_true, Bool.false_or, Bool.true_or, vls, inf, frs, mark_eq, ↓reduceIte, Nat.reduceEqDiff, ite_tt, ite_ff, eq_self, and_true, true_and, and_self, implies_true, Bool.true_eq_false, Bool.false_eq_true, decide_true, decide_false, decide_eq_true_eq, decide_eq_false_iff_not, ne_eq, not_true_eq_false, not_false_eq_true, Bool.not_eq_true', Bool.not_eq_false', beq_self_eq_true, Bool.not_true, Bool.not_false, List.getElem?_toArray, List.getElem?_cons_zero, List.getElem?_cons_succ, add_at, w1, kp]
      refine (pick_c B V _ q sl _ x.2.1.length hb (by omega) ⟨by omega, by omega⟩ l).mono ?_
      rintro _ V ⟨k, rfl, hk0, hk1, l⟩
      obtain ⟨k, rfl⟩ := Int.eq_ofNat_of_zero_le hk0
      have hkl : k < x.2.1.length := by omega
      have w1 := l.cell (i := 1) rfl (o := 1) rfl rfl
      have kp : V.part ⟨q3, 0, none⟩ 2 = some [.slice a0 x.1.length c0, .slice a1 x.2.1.length c1] := l.part (i := 1) rfl rfl
      obtain ⟨ad2, u2, u3, hq, hclA, y1, y2, f2, f3⟩ := (OSl.toS (show OSl 38 testO V ff1 _ x.2.1 from l.at (i := 3) rfl)).test hkl
      subst hq
      obtain ⟨a2, c2, rfl, _, _⟩ := f2.slice
      obtain ⟨a3, c3, rfl, _, _⟩ := f3.slice
      have hgk := hg.s1 _ (List.getElem_mem hkl)
      simp (disch := omega) only [↓stq, amv_at, ↓pln, plv, nilOk, Nat.reduceBEq, Bool.or_false, Bool.or_true, Bool.false_or, Bool.true_or, vls, inf, frs, mark_eq, ↓reduceIte, Nat.reduceEqDiff, ite_tt, ite_ff, eq_self, and_true, true_and, and_self, implies_true, Bool.true_eq_false, Bool.false_eq_true, decide_true, decide_false, decide_eq_true_eq, decide_eq_false_iff_not, ne_eq, not_true_eq_false, not_false_eq_true, Bool.not_eq_true', Bool.not_eq_false', beq_self_eq_true, Bool.not_true, Bool.not_false, List.getElem?_toArray, List.getElem?_cons_zero, List.getElem?_cons_succ, add_at, w1, kp, hclA]
      refine (spec_idOf_c V _ x.2.1[k] (testS_mk y1 y2 f2 f3)).mono ?_
      rintro _ V2 ⟨rfl, he2⟩
      have hz : (idD x.2.1[k]).size ≤ 300 := by
        have h1 := hgk.1
        have h2 := hgk.2.1
        rw [idD_size]; omega
      replace l := l.step he2
      have w1 := he2.cell w1
      have kp := he2.part kp
      have hclA := he2.part hclA
      generalize idD x.2.1[k] = s at hz
      simp (disch := omega) only [↓stq, amv_at, ↓pln, plv, nilOk, Nat.reduceBEq, Bool.or_false, Bool.or_true, Bool.false_or, Bool.true_or, vls, inf, frs, mark_eq, ↓reduceIte, Nat.reduceEqDiff, ite_tt, ite_ff, eq_self, and_true, true_and, and_self, implies_true, Bool.true_eq_false, Bool.false_eq_true, decide_true, decide_false, decide_eq_true_eq, decide_eq_false_iff_not, ne_eq, not_true_eq_false, not_false_eq_true, Bool.not_eq_true', Bool.not_eq_false', beq_self_eq_true, Bool.not_true, Bool.not_false, List.getElem?_toArray, List.getElem?_cons_zero, List.getElem?_cons_succ, add_at, w1, kp, hclA]
      refine led_storeAll (d := [.slice a0 x.1.length c0, .slice (some ad2) x.2.1.length c1]) l 4 rfl sz26 rfl rfl (by simp [Value.oneCell']) fun V l => ?_
      have w1 := l.cell (i := 1) rfl (o := 1) rfl rfl
      have kp : V.part ⟨q3, 0, none⟩ 2 = some [.slice a0 x.1.length c0, .slice (some ad2) x.2.1.length c1] := l.part (i := 1) rfl rfl
      simp (disch := omega) only [↓stq, amv_at, ↓pln, plv, nilOk, Nat.reduceBEq, Bool.or_false, Bool.or_true, Bool.false_or, Bool.true_or, vls, inf, frs, mark_eq, ↓reduceIte, Nat.reduceEqDiff, ite_tt, ite_ff, eq_self, and_true, true_and, and_self, implies_true, Bool.true_eq_false, Bool.false_eq_true, decide_true, decide_false, decide_eq_true_eq, decide_eq_false_iff_not, ne_eq, not_true_eq_false, not_false_eq_true, Bool.not_eq_true', Bool.not_eq_false', beq_self_eq_true, Bool.not_true, Bool.not_false, List.getElem?_toArray, List.getElem?_cons_zero, List.getElem?_cons_succ, add_at, w1, kp, false_implies]
      have kp : V.part ⟨q2, 0, none⟩ 2 = some [.slice a0 x.1.length c0, .slice (some ad2) x.2.1.length c1] := l.part (i := 4) rfl rfl
      simp (disch := omega) only [↓stq, amv_at, vls, inf, frs, mark_eq, ↓reduceIte, Nat.reduceEqDiff, ite_tt, ite_ff, eq_self, and_true, true_and, and_self, implies_true, Bool.true_eq_false, Bool.false_eq_true, decide_true, decide_false, decide_eq_true_eq, decide_eq_false_iff_not, ne_eq, not_true_eq_false, not_false_eq_true, Bool.not_eq_true', Bool.not_eq_false', beq_self_eq_true, Bool.not_true, Bool.not_false, List.getElem?_toArray, List.getElem?_cons_zero, List.getElem?_cons_succ, kp]
      exact ⟨_, x, _, s, rfl, hg, hz, rest V _ (by omega) l⟩
    · refine adraw_items [.l 0 true, .q 1, .c 2 [0], .c 3 [], .q 4] (by kernel_rfl) (by kernel_rfl) ?_
      have kp : V.part ⟨q3, 0, none⟩ 2 = some [.slice a0 x.1.length c0, .slice a1 x.2.1.length c1] := l.part (i := 1) rfl rfl
      simp (disch := omega) only [↓stq, amv_at, ↓pln, plv, nilOk, Nat.reduceBEq, Bool.or_false, Bool.or_true, Bool.false_or, Bool.true_or, vls, inf, frs, mark_eq, ↓reduceIte, Nat.reduceEqDiff, ite_tt, ite_ff, eq_self, and_true, true_and, and_self, implies_true, Bool.true_eq_false, Bool.false_eq_true, decide_true, decide_false, decide_eq_true_eq, decide_eq_false_iff_not, ne_eq, not_true_eq_false, not_false_eq_true, Bool.not_eq_true', Bool.not_eq_false', beq_self_eq_true, Bool.not_true, Bool.not_false, List.getElem?_toArray, List.getElem?_cons_zero, List.getElem?_cons_succ, kp]
      refine (tail V _ (by omega) l).mono ?_
      rintro _ V ⟨s, rfl, hz, l⟩
      have kp : V.part ⟨q3, 0, none⟩ 2 = some [.slice a0 x.1.length c0, .slice a1 x.2.1.length c1] := l.part (i := 1) rfl rfl
      simp (disch := omega) only [↓stq, amv_at, ↓pln, plv, nilOk, Nat.reduceBEq, Bool.or_false, Bool.or_true, Bool.false_or, Bool.true_or, vls, inf, frs, mark_eq, ↓reduceIte, Nat.reduceEqDiff, ite_tt, ite_ff, eq_self, and_true, true_and, and_self, implies_true, Bool.true_eq_false, Bool.false_eq_true, decide_true, decide_false, decide_eq_true_eq, decide_eq_false_iff_not, ne_eq, not_true_eq_false, not_false_eq_true, Bool.not_eq_true', Bool.not_eq_false', beq_self_eq_true, Bool.not_true, Bool.not_false, List.getElem?_toArray, List.getElem?_cons_zero, List.getElem?_cons_succ, kp, false_implies]
      refine led_storeAll (d := [.slice a0 x.1.length c0, .slice a1 x.2.1.length c1]) l 4 rfl sz26 rfl rfl (by simp [Value.oneCell']) fun V l => ?_
      have kp : V.part ⟨q3, 0, none⟩ 2 = some [.slice a0 x.1.length c0, .slice a1 x.2.1.length c1] := l.part (i := 1) rfl rfl
      simp (disch := omega) only [↓stq, amv_at, ↓pln, plv, nilOk, Nat.reduceBEq, Bool.or_false, Bool.or_true, Bool.false_or, Bool.true_or, vls, inf, frs, mark_eq, ↓reduceIte, Nat.reduceEqDiff, ite_tt, ite_ff, eq_self, and_true, true_and, and_self, implies_true, Bool.true_eq_false, Bool.false_eq_true, decide_true, decide_false, decide_eq_true_eq, decide_eq_false_iff_not, ne_eq, not_true_eq_false, not_false_eq_true, Bool.not_eq_true', Bool.not_eq_false', beq_self_eq_true, Bool.not_true, Bool.not_false, List.getElem?_toArray, List.getElem?_cons_zero, List.getElem?_cons_succ, kp, false_implies]
      have kp : V.part ⟨q2, 0, none⟩ 2 = some [.slice a0 x.1.length c0, .slice a1 x.2.1.length c1] := l.part (i := 4) rfl rfl
      simp (disch := omega) only [↓stq, amv_at, vls, inf, frs, mark_eq, ↓reduceIte, Nat.reduceEqDiff, ite_tt, ite_ff, eq_self, and_true, true_and, and_self, implies_true, Bool.true_eq_false, Bool.false_eq_true, decide_true, decide_false, decide_eq_true_eq, decide_eq_false_iff_not, ne_eq, not_true_eq_false, not_false_eq_true, Bool.not_eq_true', Bool.not_eq_false', beq_self_eq_true, Bool.not_true, Bool.not_false, List.getElem?_toArray, List.getElem?_cons_zero, List.getElem?_cons_succ, kp]
      exact ⟨_, x, _, s, rfl, hg, hz, rest V _ (by omega) l⟩
  · refine adraw_items [.l 0 true, .q 1, .c 2 [0], .c 3 [], .q 4] (by kernel_rfl) (by kernel_rfl) ?_
    have kp : V.part ⟨q3, 0, none⟩ 2 = some [.slice a0 x.1.length c0, .slice a1 x.2.1.length c1] := l.part (i := 1) rfl rfl
    simp (disch := omega) only [↓stq, amv_at, ↓pln, plv, nilOk, Nat.reduceBEq, Bool.or_false, Bool.or_true, Bool.false_or, Bool.true_or, vls, inf, frs, mark_eq, ↓reduceIte, Nat.reduceEqDiff, ite_tt, ite_ff, eq_self, and_true, true_and, and_self, implies_true, Bool.true_eq_false, Bool.false_eq_true, decide_true, decide_false, decide_eq_true_eq, decide_eq_false_iff_not, ne_eq, not_true_eq_false, not_false_eq_true, Bool.not_eq_true', Bool.not_eq_false', beq_self_eq_true, Bool.not_true, Bool.not_false, List.getElem?_toArray, List.getElem?_cons_zero, List.getElem?_cons_succ, kp]
    refine (tail V _ (by omega) l).mono ?_
    rintro _ V ⟨s, rfl, hz, l⟩
    have kp : V.part ⟨q3, 0, none⟩ 2 = some [.slice a0 x.1.length c0, .slice a1 x.2.1.length c1] := l.part (i := 1) rfl rfl
    simp (disch := omega) only [↓stq, amv_at, ↓pln, plv, nilOk, Nat.reduceBEq, Bool.or_false, Bool.or_true, Bool.false_or, Bool.true_or, vls, inf, frs, mark_eq, ↓reduceIte, Nat.reduceEqDiff, ite_tt, ite_ff, eq_self, and_true, true_and, and_self, implies_true, Bool.true_eq_false, Bool.false_eq_true, decide_true, decide_false, decide_eq_true_eq, decide_eq_false_iff_not, ne_eq, not_true_eq_false, not_false_eq_true, Bool.not_eq_true', Bool.not_eq_false', beq_self_eq_true, Bool.not_true, Bool.not_false, List.getElem?_toArray, List.getElem?_cons_zero, List.getElem?_cons_succ, kp, false_implies]
    refine led_storeAll (d := [.slice a0 x.1.length c0, .slice a1 x.2.1.length c1]) l 4 rfl sz26 rfl rfl (by simp [Value.oneCell']) fun V l => ?_
    have kp : V.part ⟨q3, 0, none⟩ 2 = some [.slice a0 x.1.length c0, .slice a1 x.2.1.length c1] := l.part (i := 1) rfl rfl
    simp (disch := omega) only [↓stq, amv_at, ↓pln, plv, nilOk, Nat.reduceBEq, Bool.or_false, Bool.or_true, Bool.false_or, Bool.true_or, vls, inf, frs, mark_eq, ↓reduceIte, Nat.reduceEqDiff, ite_tt, ite_ff, eq_self, and_true, true_and, and_self, implies_true, Bool.true_eq_false, Bool.false_eq_true, decide_true, decide_false, decide_eq_true_eq, decide_eq_false_iff_not, ne_eq, not_true_eq_false, not_false_eq_true, Bool.not_eq_true', Bool.not_eq_false', beq_self_eq_true, Bool.not_true, Bool.not_false, List.getElem?_toArray, List.getElem?_cons_zero, List.getElem?_cons_succ, kp, false_implies]
    have kp : V.part ⟨q2, 0, none⟩ 2 = some [.slice a0 x.1.length c0, .slice a1 x.2.1.length c1] := l.part (i := 4) rfl rfl
    simp (disch := omega) only [↓stq, amv_at, vls, inf, frs, mark_eq, ↓reduceIte, Nat.reduceEqDiff, ite_tt, ite_ff, eq_self, and_true, true_and, and_self, implies_true, Bool.true_eq_false, Bool.false_eq_true, decide_true, decide_false, decide_eq_true_eq, decide_eq_false_iff_not, ne_eq, not_true_eq_false, not_false_eq_true, Bool.not_eq_true', Bool.not_eq_false', beq_self_eq_true, Bool.not_true, Bool.not_false, List.getElem?_toArray, List.getElem?_cons_zero, List.getElem?_cons_succ, kp]
    exact ⟨_, x, _, s, rfl, hg, hz, rest V _ (by omega) l⟩

theorem DrawClosureOf_c (A : View) (v : Value) (bs : List UInt8) (h : Sl byteS A v bs) : ACalls Try.prog 17 #[v] A fun r V => ∃ (fp : List Nat) (x : SuiteD) (d : List Value) (s : ByteArray), r = .tuple #[.agg d.toArray, .string s] ∧ GenS x ∧ s.size ≤ 300 ∧ Led A [oc suiteO fp x d] V := by
  obtain ⟨a, c, rfl, _, _⟩ := h.slice
  refine acalls Try.func17 rfl (by kernel_rfl) ?_
  simp (disch := omega) only [↓stq, amv_at, vls, inf, frs, mark_eq, ↓reduceIte, Nat.reduceEqDiff, ite_tt, ite_ff, eq_self, and_true, true_and, and_self, implies_true, Bool.true_eq_false, Bool.false_eq_true, decide_true, decide_false, decide_eq_true_eq, decide_eq_false_iff_not, ne_eq, not_true_eq_false, not_false_eq_true, Bool.not_eq_true', Bool.not_eq_false', beq_self_eq_true, Bool.not_true, Bool.not_false, List.getElem?_toArray, List.getElem?_cons_zero, List.getElem?_cons_succ]
  refine led_alloc zc26 (Led.nil A) fun q2 V he l => ?_
  simp (disch := omega) only [↓stq, amv_at, vls, inf, frs, mark_eq, ↓reduceIte, Nat.reduceEqDiff, ite_tt, ite_ff, eq_self, and_true, true_and, and_self, implies_true, Bool.true_eq_false, Bool.false_eq_true, decide_true, decide_false, decide_eq_true_eq, decide_eq_false_iff_not, ne_eq, not_true_eq_false, not_false_eq_true, Bool.not_eq_true', Bool.not_eq_false', beq_self_eq_true, Bool.not_true, Bool.not_false, List.getElem?_toArray, List.getElem?_cons_zero, List.getElem?_cons_succ]
  refine (newReader_c A V _ bs h).mono ?_
  rintro _ V2 ⟨q, sl, rfl, hb, l2⟩
  replace l := l.append l2
  simp (disch := omega) only [↓stq, amv_at, vls, inf, frs, mark_eq, ↓reduceIte, Nat.reduceEqDiff, ite_tt, ite_ff, eq_self, and_true, true_and, and_self, implies_true, Bool.true_eq_false, Bool.false_eq_true, decide_true, decide_false, decide_eq_true_eq, decide_eq_false_iff_not, ne_eq, not_true_eq_false, not_false_eq_true, Bool.not_eq_true', Bool.not_eq_false', beq_self_eq_true, Bool.not_true, Bool.not_false, List.getElem?_toArray, List.getElem?_cons_zero, List.getElem?_cons_succ]
  refine (testIn_c A V2 [bx q2 _] q sl 0 hb (by omega) l).mono ?_
  rintro _ V3 ⟨fp, x, d, s, rfl, hg, hz, l⟩
  have hd := suite_cells (suiteO_S (show suiteO.rel V3 fp x d from l.at (i := 0) rfl))
  simp (disch := omega) only [↓stq, amv_at, vls, inf, frs, mark_eq, ↓reduceIte, Nat.reduceEqDiff, ite_tt, ite_ff, eq_self, and_true, true_and, and_self, implies_true, Bool.true_eq_false, Bool.false_eq_true, decide_true, decide_false, decide_eq_true_eq, decide_eq_false_iff_not, ne_eq, not_true_eq_false, not_false_eq_true, Bool.not_eq_true', Bool.not_eq_false', beq_self_eq_true, Bool.not_true, Bool.not_false, List.getElem?_toArray, List.getElem?_cons_zero, List.getElem?_cons_succ]
  refine led_storeAll l 2 rfl sz26 hd.1 rfl hd.2 fun V l => ?_
  have kp : V.part ⟨q2, 0, none⟩ 2 = some d := l.partn (i := 2) rfl hd.1 hd.2
  simp (disch := omega) only [↓stq, amv_at, vls, inf, frs, mark_eq, ↓reduceIte, Nat.reduceEqDiff, ite_tt, ite_ff, eq_self, and_true, true_and, and_self, implies_true, Bool.true_eq_false, Bool.false_eq_true, decide_true, decide_false, decide_eq_true_eq, decide_eq_false_iff_not, ne_eq, not_true_eq_false, not_false_eq_true, Bool.not_eq_true', Bool.not_eq_false', beq_self_eq_true, Bool.not_true, Bool.not_false, List.getElem?_toArray, List.getElem?_cons_zero, List.getElem?_cons_succ, kp]
  exact ⟨fp, x, d, s, rfl, hg, hz, l.sub (.cons_cons _ (List.nil_sublist _))⟩

theorem cloR_perm {x : SuiteD} (hv : validB x = true) (ns : List ByteArray) : (cloR x.1 ns).Perm (rawR x.1 ns) := by
  unfold cloR
  rw [← sort_buckets (rawR x.1 ns) fun a ha => scope_rng hv ((rawR_names x.1 ns).2 a ha)]
  generalize rawR x.1 ns = xs
  rw [← List.reverse_reverse xs]
  induction xs.reverse with
  | nil => exact List.Perm.refl _
  | cons y ys ih =>
    rw [List.reverse_cons, ssort_snoc]
    have h1 : (ssIns (scopeAt x.1) y (ssort (scopeAt x.1) ys.reverse)).Perm (y :: ssort (scopeAt x.1) ys.reverse) := by
      unfold ssIns
      refine List.perm_middle.trans ?_
      rw [List.takeWhile_append_dropWhile]
    exact h1.trans (((List.Perm.cons _ ih).trans (List.perm_append_singleton y _).symm))
theorem clo_pre {x : SuiteD} (hv : validB x = true) {t : TestD} (ht : t ∈ x.2.1) : ∀ a, a ∈ preR x t → hasF x.1 a := fun a ha => by
  rcases List.mem_append.1 ha with ha | ha
  · exact autos_has (k := x.1.length) (by rw [List.take_length]; exact ha)
  · exact test_needs hv ht a ha
theorem raw_in {fs : List FixtureD} (h : Sound fs) : ∀ (m : List ByteArray), (∀ a, a ∈ m.reverse → hasF fs a) → ∀ a, a ∈ m.reverse → a ∈ rawR fs m.reverse
  | [], _, a, ha => by cases ha
  | b :: m, hm, a, ha => by
    rw [List.reverse_cons] at hm ha ⊢
    have hm' : ∀ a, a ∈ m.reverse → hasF fs a := fun a ha => hm a (List.mem_append_left _ ha)
    rcases List.mem_append.1 ha with ha | ha
    · rw [rawR_snoc]
      exact (rchF_sub (fuel fs) b [] (rawR fs m.reverse)).1 a (raw_in h m hm' a ha)
    · rw [List.mem_singleton.1 ha, rawR_next h hm' (hm b (List.mem_append_right _ (List.mem_singleton.2 rfl)))]
      unfold clo1 addO
      split
      · assumption
      · exact List.mem_append_right _ (List.mem_singleton.2 rfl)
theorem raw_out {fs : List FixtureD} : ∀ (m : List ByteArray) (y : ByteArray), y ∈ rawR fs m.reverse → ∃ a, a ∈ m.reverse ∧ (y = a ∨ Rch fs a y)
  | [], y, hy => by cases hy
  | b :: m, y, hy => by
    rw [List.reverse_cons] at hy ⊢
    rw [rawR_snoc] at hy
    rcases (rchF_sub (fuel fs) b [] (rawR fs m.reverse)).2 y hy with h | h
    · obtain ⟨a, ha, hr⟩ := raw_out m y h
      exact ⟨a, List.mem_append_left _ ha, hr⟩
    · exact ⟨b, List.mem_append_right _ (List.mem_singleton.2 rfl), h.1⟩
theorem shut_rch {fs : List FixtureD} {l : List ByteArray} (hl : Shut fs l) {a y : ByteArray} (ha : a ∈ l) (h : Rch fs a y) : y ∈ l := by
  induction h with
  | one h => exact hl _ ha _ h
  | more _ h ih => exact hl _ ih _ h
theorem raw_mem {fs : List FixtureD} (h : Sound fs) {ns : List ByteArray} (hn : ∀ a, a ∈ ns → hasF fs a) (y : ByteArray) : y ∈ rawR fs ns ↔ ∃ a, a ∈ ns ∧ (y = a ∨ Rch fs a y) := by
  have hr : ns = ns.reverse.reverse := (List.reverse_reverse ns).symm
  constructor
  · intro hy
    rw [hr] at hy ⊢
    exact raw_out _ y hy
  · rintro ⟨a, ha, hy⟩
    have h1 : a ∈ rawR fs ns := by
      rw [hr] at hn ha ⊢
      exact raw_in h _ hn a ha
    rcases hy with rfl | hy
    · exact h1
    · exact shut_rch (rawR_shut h ns hn) h1 hy
theorem raw_ord {fs : List FixtureD} (h : Sound fs) : ∀ (m : List ByteArray), (∀ a, a ∈ m.reverse → hasF fs a) → Ord fs (rawR fs m.reverse)
  | [], _ => fun p x s hs => by
    have := congrArg List.length hs
    simp [rawR] at this
  | b :: m, hm => by
    rw [List.reverse_cons] at hm ⊢
    have hm' : ∀ a, a ∈ m.reverse → hasF fs a := fun a ha => hm a (List.mem_append_left _ ha)
    rw [rawR_snoc]
    exact rchF_ord h (fuel fs) b [] _ (fuel_ok fs) (hm b (List.mem_append_right _ (List.mem_singleton.2 rfl))) (fun o ho => by cases ho) (rawR_shut h _ hm') (raw_ord h m hm')
theorem ord_pair {fs : List FixtureD} {l : List ByteArray} (h : Ord fs l) (hn : l.Nodup) : l.Pairwise fun a b => b ∉ needsAt fs a := by
  rw [List.pairwise_iff_getElem]
  intro i j hi hj hij hb
  have h1 := h (l.take i) l[i] (l.drop (i + 1)) (by rw [List.getElem_cons_drop, List.take_append_drop]) l[j] hb
  obtain ⟨k, hk, hk2⟩ := List.mem_iff_getElem.1 h1
  rw [List.length_take] at hk
  rw [List.getElem_take] at hk2
  exact List.pairwise_iff_getElem.1 hn k j (by omega) hj (by omega) hk2
theorem pair_ord {fs : List FixtureD} {l : List ByteArray} (hs : Shut fs l) (hi : ∀ a, a ∉ needsAt fs a) (h : l.Pairwise fun a b => b ∉ needsAt fs a) {j : Nat} (hj : j < l.length) : ∀ y, y ∈ needsAt fs l[j] → y ∈ l.take j := by
  intro y hy
  obtain ⟨k, hk, rfl⟩ := List.mem_iff_getElem.1 (hs _ (List.getElem_mem hj) y hy)
  rcases Nat.lt_trichotomy k j with hkj | rfl | hkj
  · exact List.mem_iff_getElem.2 ⟨k, by rw [List.length_take]; omega, by rw [List.getElem_take]⟩
  · exact absurd hy (hi _)
  · exact absurd hy (List.pairwise_iff_getElem.1 h j k hj hk hkj)
theorem need_scope {x : SuiteD} (hv : validB x = true) {a b : ByteArray} (h : b ∈ needsAt x.1 a) : scopeAt x.1 a ≤ scopeAt x.1 b := scope_rch hv (.one h)

structure CloOk (x : SuiteD) (t : TestD) (R : List ByteArray) : Prop where
  nd : R.Nodup
  has : ∀ a, a ∈ R → hasF x.1 a
  desc : ∀ i (h : i < R.length), 0 < i → scopeAt x.1 R[i] ≤ scopeAt x.1 (R[i - 1]'(by omega))
  ord : ∀ j (hj : j < R.length), ∀ y, y ∈ needsAt x.1 R[j] → y ∈ R.take j
  pre : ∀ a, a ∈ t.2.2.2.1 → a ∈ R
  mem : ∀ y, y ∈ R ↔ ∃ a, a ∈ preR x t ∧ (y = a ∨ Rch x.1 a y)
theorem cloR_ok {x : SuiteD} (hv : validB x = true) {t : TestD} (ht : t ∈ x.2.1) : CloOk x t (cloR x.1 (preR x t)) := by
  have hso := sound_of hv
  have hpre := clo_pre hv ht
  have hp := cloR_perm hv (preR x t)
  have hN := rawR_names x.1 (preR x t)
  have hmem := raw_mem hso hpre
  have hSh := rawR_shut hso (preR x t) hpre
  have hShR : Shut x.1 (cloR x.1 (preR x t)) := fun a ha y hy => hp.mem_iff.2 (hSh a (hp.mem_iff.1 ha) y hy)
  have hraw : (rawR x.1 (preR x t)).Pairwise fun a b => b ∉ needsAt x.1 a := by
    refine ord_pair ?_ hN.1
    have := raw_ord hso (preR x t).reverse (by rw [List.reverse_reverse]; exact hpre)
    rwa [List.reverse_reverse] at this
  refine ⟨hp.nodup_iff.2 hN.1, fun a ha => hN.2 a (hp.mem_iff.1 ha), ?_, ?_, ?_, fun y => hp.mem_iff.trans (hmem y)⟩
  · have hD : Desc (scopeAt x.1) (cloR x.1 (preR x t)) := by
      unfold cloR
      rw [← sort_buckets (rawR x.1 (preR x t)) fun a ha => scope_rng hv (hN.2 a ha)]
      exact ssort_desc _
    exact fun i h h0 => List.pairwise_iff_getElem.1 hD (i - 1) i (by omega) h (by omega)
  · refine fun j hj => pair_ord hShR (fun a ha => hso.no a (.one ha)) ?_ hj
    have cross : ∀ (s s' : Int), s' < s → ∀ a, a ∈ bucket x.1 (rawR x.1 (preR x t)) s → ∀ b, b ∈ bucket x.1 (rawR x.1 (preR x t)) s' → b ∉ needsAt x.1 a := fun s s' hs a ha b hb hq => by
      have h1 := need_scope hv hq
      have h2 := (bucket_mem.1 ha).2
      have h3 := (bucket_mem.1 hb).2
      omega
    have sub : ∀ s, (bucket x.1 (rawR x.1 (preR x t)) s).Pairwise fun a b => b ∉ needsAt x.1 a := fun s => hraw.sublist List.filter_sublist
    unfold cloR
    refine List.pairwise_append.2 ⟨sub 2, List.pairwise_append.2 ⟨sub 1, sub 0, cross 1 0 (by omega)⟩, fun a ha b hb => ?_⟩
    rcases List.mem_append.1 hb with hb | hb
    · exact cross 2 1 (by omega) a ha b hb
    · exact cross 2 0 (by omega) a ha b hb
  · exact fun a ha => hp.mem_iff.2 ((hmem a).2 ⟨a, List.mem_append_right _ ha, .inl rfl⟩)

end Go.Proofs.Ytjojofnkgeiadaa

