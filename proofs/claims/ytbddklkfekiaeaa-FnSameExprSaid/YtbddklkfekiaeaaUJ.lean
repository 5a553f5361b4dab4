/- Expressions: the atoms that the program finds. -/
import Derived.Test.YtbddklkfekiaeaaUC
set_option maxHeartbeats 4000000
set_option synthInstance.maxHeartbeats 400000
set_option synthInstance.maxSize 4096
set_option linter.unusedSimpArgs false
set_option linter.unusedVariables false
namespace Go.Proofs.Ytbddklkfekiaeaa

set_option maxRecDepth 100000

/-- The atoms of an expression, as they stand. -/
def Ex.leaves : Ex → List ByteArray
  | .mark w => [w]
  | .mod w => [atS w]
  | .neg e => e.leaves
  | .con a b => a.leaves ++ b.leaves
  | .dis a b => a.leaves ++ b.leaves
def addAll (acc ls : List ByteArray) : List ByteArray := ls.foldl addT acc
theorem addAll_app (acc a b : List ByteArray) : addAll acc (a ++ b) = addAll (addAll acc a) b := by
  unfold addAll
  rw [List.foldl_append]
theorem addAll_len : ∀ (ls acc : List ByteArray), (addAll acc ls).length ≤ acc.length + ls.length
  | [], acc => Nat.le_refl _
  | y :: ls, acc => by
    have h1 := addAll_len ls (addT acc y)
    have h2 : (addT acc y).length ≤ acc.length + 1 := by
      unfold addT
      split
      · omega
      · rw [List.length_append]; exact Nat.le_refl _
    show (addAll (addT acc y) ls).length ≤ _
    rw [List.length_cons]
    omega

theorem impl_leaf_c (B : View) (u : ByteArray) (hu : u.size ≤ 1000) (A : View) (L : List It) (fp : List Nat) (w : Value) (acc : List ByteArray) (hl : acc.length + 1 ≤ 100000) (l : Led B (osl 9 strO fp w acc :: L) A) : ACalls Try.prog 68 #[.agg #[.string u, .slice none 0 0], w] A fun r V => ∃ fp', Led B (osl 9 strO fp' r (addT acc u) :: L) V := by
  obtain ⟨aw, cw, rfl, _, _⟩ := (OSl.toS (show OSl 9 strO A fp w acc from l.at (i := 0) rfl)).slice
  refine acalls Try.func68 rfl (by kernel_rfl) ?_
  simp (disch := omega) only [↓stq, amv_at, vls, inf, frs, mark_eq, ↓reduceIte, Nat.reduceEqDiff, ite_tt, ite_ff, eq_self, and_true, true_and, and_self, implies_true, Bool.true_eq_false, Bool.false_eq_true, decide_true, decide_false, decide_eq_true_eq, decide_eq_false_iff_not, ne_eq, not_true_eq_false, not_false_eq_true, Bool.not_eq_true', Bool.not_eq_false', beq_self_eq_true, Bool.not_true, Bool.not_false, List.getElem?_toArray, List.getElem?_cons_zero, List.getElem?_cons_succ]
  refine led_box l rfl fun q V _ l => ?_
  have k0 := l.cell (i := 0) rfl (o := 0) rfl rfl
  have k1 := l.cell (i := 0) rfl (o := 1) rfl rfl
  have hz : (((0 : Nat) : Int) = 0) = True := eq_true rfl
  simp (disch := omega) only [↓stq, amv_at, vls, inf, frs, mark_eq, ↓reduceIte, Nat.reduceEqDiff, ite_tt, ite_ff, eq_self, and_true, true_and, and_self, implies_true, Bool.true_eq_false, Bool.false_eq_true, decide_true, decide_false, decide_eq_true_eq, decide_eq_false_iff_not, ne_eq, not_true_eq_false, not_false_eq_true, Bool.not_eq_true', Bool.not_eq_false', beq_self_eq_true, Bool.not_true, Bool.not_false, List.getElem?_toArray, List.getElem?_cons_zero, List.getElem?_cons_succ, add_at, k0, k1, hz]
  refine (contains_str_c V _ acc u (OSl.toS (show OSl 9 strO V fp _ acc from l.at (i := 1) rfl))).mono ?_
  rintro _ V ⟨rfl, rfl⟩
  unfold addT
  simp (disch := omega) only [↓stq, amv_at, vls, inf, frs, mark_eq, ↓reduceIte, Nat.reduceEqDiff, ite_tt, ite_ff, eq_self, and_true, true_and, and_self, implies_true, Bool.true_eq_false, Bool.false_eq_true, decide_true, decide_false, decide_eq_true_eq, decide_eq_false_iff_not, ne_eq, not_true_eq_false, not_false_eq_true, Bool.not_eq_true', Bool.not_eq_false', beq_self_eq_true, Bool.not_true, Bool.not_false, List.getElem?_toArray, List.getElem?_cons_zero, List.getElem?_cons_succ, hz]
  refine ⟨fun e1 => ?_, fun e1 => ?_⟩ <;> simp (disch := omega) only [↓stq, amv_at, vls, inf, frs, mark_eq, ↓reduceIte, Nat.reduceEqDiff, ite_tt, ite_ff, eq_self, and_true, true_and, and_self, implies_true, Bool.true_eq_false, Bool.false_eq_true, decide_true, decide_false, decide_eq_true_eq, decide_eq_false_iff_not, ne_eq, not_true_eq_false, not_false_eq_true, Bool.not_eq_true', Bool.not_eq_false', beq_self_eq_true, Bool.not_true, Bool.not_false, List.getElem?_toArray, List.getElem?_cons_zero, List.getElem?_cons_succ, add_at, k0, k1]
  · refine led_lit li25 (by omega) rfl (by simp [Value.cells, Value.oneCell']) l fun bl V _ l => ?_
    simp (disch := omega) only [↓stq, amv_at, vls, inf, frs, mark_eq, ↓reduceIte, Nat.reduceEqDiff, ite_tt, ite_ff, eq_self, and_true, true_and, and_self, implies_true, Bool.true_eq_false, Bool.false_eq_true, decide_true, decide_false, decide_eq_true_eq, decide_eq_false_iff_not, ne_eq, not_true_eq_false, not_false_eq_true, Bool.not_eq_true', Bool.not_eq_false', beq_self_eq_true, Bool.not_true, Bool.not_false, List.getElem?_toArray, List.getElem?_cons_zero, List.getElem?_cons_succ]
    refine led_app (O := strO) ap25_25 (by decide) l (i := 2) rfl (l.src1 (S := strS) (j := 0) rfl ⟨rfl, by omega⟩) (by rw [List.length_singleton]; omega) fun fp2 w2 V4 _ l => ?_
    simp (disch := omega) only [↓stq, amv_at, vls, inf, frs, mark_eq, ↓reduceIte, Nat.reduceEqDiff, ite_tt, ite_ff, eq_self, and_true, true_and, and_self, implies_true, Bool.true_eq_false, Bool.false_eq_true, decide_true, decide_false, decide_eq_true_eq, decide_eq_false_iff_not, ne_eq, not_true_eq_false, not_false_eq_true, Bool.not_eq_true', Bool.not_eq_false', beq_self_eq_true, Bool.not_true, Bool.not_false, List.getElem?_toArray, List.getElem?_cons_zero, List.getElem?_cons_succ]
    rw [if_neg e1]
    exact ⟨fp2, l.tail.tail⟩
  · rw [if_pos e1]
    refine aloop (fun d fr V => d = 0 ∧ Led B (osl 9 strO fp (.slice aw acc.length cw) acc :: L) V ∧ fr 1 = .slice aw acc.length cw ∧ fr 25 = .int .i64 0 ∧ fr 26 = .int .i64 0) 0 ⟨rfl, l.tail, by rfl, by rfl, by rfl⟩ ?_
    rintro d fr V ⟨rfl, l, h1, h25, h26⟩
    simp (disch := omega) only [↓stq, amv_at, vls, inf, frs, mark_eq, ↓reduceIte, Nat.reduceEqDiff, ite_tt, ite_ff, eq_self, and_true, true_and, and_self, implies_true, Bool.true_eq_false, Bool.false_eq_true, decide_true, decide_false, decide_eq_true_eq, decide_eq_false_iff_not, ne_eq, not_true_eq_false, not_false_eq_true, Bool.not_eq_true', Bool.not_eq_false', beq_self_eq_true, Bool.not_true, Bool.not_false, List.getElem?_toArray, List.getElem?_cons_zero, List.getElem?_cons_succ, h1, h25, h26]
    refine ⟨fun e => absurd e (Int.lt_irrefl 0), fun _ => ?_⟩
    simp (disch := omega) only [↓stq, amv_at, vls, inf, frs, mark_eq, ↓reduceIte, Nat.reduceEqDiff, ite_tt, ite_ff, eq_self, and_true, true_and, and_self, implies_true, Bool.true_eq_false, Bool.false_eq_true, decide_true, decide_false, decide_eq_true_eq, decide_eq_false_iff_not, ne_eq, not_true_eq_false, not_false_eq_true, Bool.not_eq_true', Bool.not_eq_false', beq_self_eq_true, Bool.not_true, Bool.not_false, List.getElem?_toArray, List.getElem?_cons_zero, List.getElem?_cons_succ, h1, h25, h26]
    exact ⟨fp, l⟩

theorem impl_atoms_c (B : View) : ∀ (e : Ex) (d : List Value) (A : View) (L : List It) (fp : List Nat) (w : Value) (acc : List ByteArray), ExR B e d → acc.length + e.leaves.length ≤ 10000 → Led B (osl 9 strO fp w acc :: L) A → ACalls Try.prog 68 #[.agg d.toArray, w] A fun r V => ∃ fp', Led B (osl 9 strO fp' r (addAll acc e.leaves) :: L) V := by
  have hone : Int.toNat 1 = 1 := rfl
  intro e
  induction e with
  | mark u =>
    intro d A L fp w acc hx hl l
    cases hx with
    | mark hw =>
      have := nm_size hw
      have hl1 : (Ex.mark u).leaves.length = 1 := rfl
      exact impl_leaf_c B u (by omega) A L fp w acc (by omega) l
  | mod u =>
    intro d A L fp w acc hx hl l
    cases hx with
    | mod hw =>
      have := nm_size hw
      have hl1 : (Ex.mod u).leaves.length = 1 := rfl
      have := at_size u
      exact impl_leaf_c B (atS u) (by omega) A L fp w acc (by omega) l
  | neg e ih =>
    intro d A L fp w acc hx hl l
    cases hx with
    | @neg _ d1 b c hx hp =>
      obtain ⟨aw, cw, rfl, _, _⟩ := (OSl.toS (show OSl 9 strO A fp w acc from l.at (i := 0) rfl)).slice
      have hl1 : (Ex.neg e).leaves = e.leaves := rfl
      rw [hl1] at hl ⊢
      have hz : (((1 : Nat) : Int) = 0) = False := eq_false (by decide)
      refine acalls Try.func68 rfl (by kernel_rfl) ?_
      simp (disch := omega) only [↓stq, amv_at, vls, inf, frs, mark_eq, ↓reduceIte, Nat.reduceEqDiff, ite_tt, ite_ff, eq_self, and_true, true_and, and_self, implies_true, Bool.true_eq_false, Bool.false_eq_true, decide_true, decide_false, decide_eq_true_eq, decide_eq_false_iff_not, ne_eq, not_true_eq_false, not_false_eq_true, Bool.not_eq_true', Bool.not_eq_false', beq_self_eq_true, Bool.not_true, Bool.not_false, List.getElem?_toArray, List.getElem?_cons_zero, List.getElem?_cons_succ]
      refine led_box l rfl fun q V _ l => ?_
      have k0 := l.cell (i := 0) rfl (o := 0) rfl rfl
      have k1 := l.cell (i := 0) rfl (o := 1) rfl rfl
      simp (disch := omega) only [↓stq, amv_at, vls, inf, frs, mark_eq, ↓reduceIte, Nat.reduceEqDiff, ite_tt, ite_ff, eq_self, and_true, true_and, and_self, implies_true, Bool.true_eq_false, Bool.false_eq_true, decide_true, decide_false, decide_eq_true_eq, decide_eq_false_iff_not, ne_eq, not_true_eq_false, not_false_eq_true, Bool.not_eq_true', Bool.not_eq_false', beq_self_eq_true, Bool.not_true, Bool.not_false, List.getElem?_toArray, List.getElem?_cons_zero, List.getElem?_cons_succ, add_at, k0, k1, hz]
      refine aloop (fun d fr V => ∃ (i : Nat) (fp : List Nat) (w : Value), i ≤ 1 ∧ d = 1 - i ∧ Led B (osl 9 strO fp w (addAll acc (if i = 0 then [] else e.leaves)) :: L) V ∧ fr 1 = w ∧ fr 24 = .slice (some ⟨b, 0, none⟩) 1 c ∧ fr 25 = .int .i64 ((1 : Nat) : Int) ∧ fr 26 = .int .i64 i) 1 ⟨0, _, _, by omega, by omega, l.tail, by rfl, by rfl, by rfl, by rfl⟩ ?_
      clear l k0 k1
      rintro dm fr V ⟨i, fp, w, hi, rfl, l, h1, h24, h25, h26⟩
      obtain ⟨aw, cw, rfl, _, _⟩ := (OSl.toS (show OSl 9 strO V fp w _ from l.at (i := 0) rfl)).slice
      simp (disch := omega) only [↓stq, amv_at, vls, inf, frs, mark_eq, ↓reduceIte, Nat.reduceEqDiff, ite_tt, ite_ff, eq_self, and_true, true_and, and_self, implies_true, Bool.true_eq_false, Bool.false_eq_true, decide_true, decide_false, decide_eq_true_eq, decide_eq_false_iff_not, ne_eq, not_true_eq_false, not_false_eq_true, Bool.not_eq_true', Bool.not_eq_false', beq_self_eq_true, Bool.not_true, Bool.not_false, List.getElem?_toArray, List.getElem?_cons_zero, List.getElem?_cons_succ, h1, h24, h25, h26]
      refine ⟨fun e2 => ?_, fun e2 => ?_⟩
      · obtain rfl : i = 0 := by omega
        rw [if_pos rfl] at l
        have kp := l.ext.part hp
        simp (disch := omega) only [↓stq, amv_at, vls, inf, frs, mark_eq, ↓reduceIte, Nat.reduceEqDiff, ite_tt, ite_ff, eq_self, and_true, true_and, and_self, implies_true, Bool.true_eq_false, Bool.false_eq_true, decide_true, decide_false, decide_eq_true_eq, decide_eq_false_iff_not, ne_eq, not_true_eq_false, not_false_eq_true, Bool.not_eq_true', Bool.not_eq_false', beq_self_eq_true, Bool.not_true, Bool.not_false, List.getElem?_toArray, List.getElem?_cons_zero, List.getElem?_cons_succ, h1, h24, h25, h26, add_at, Int.toNat_zero, hone, Nat.zero_mul, Nat.one_mul, Nat.add_zero, kp]
        refine led_alloc zc64 l fun q6 V _ l => ?_
        simp (disch := omega) only [↓stq, amv_at, vls, inf, frs, mark_eq, ↓reduceIte, Nat.reduceEqDiff, ite_tt, ite_ff, eq_self, and_true, true_and, and_self, implies_true, Bool.true_eq_false, Bool.false_eq_true, decide_true, decide_false, decide_eq_true_eq, decide_eq_false_iff_not, ne_eq, not_true_eq_false, not_false_eq_true, Bool.not_eq_true', Bool.not_eq_false', beq_self_eq_true, Bool.not_true, Bool.not_false, List.getElem?_toArray, List.getElem?_cons_zero, List.getElem?_cons_succ, h1, h24, h25, h26]
        refine led_storeAll l 0 rfl sz64 hx.two.1 rfl hx.two.2 fun V l => ?_
        have k6 := l.partn (i := 0) rfl hx.two.1 hx.two.2
        simp (disch := omega) only [↓stq, amv_at, vls, inf, frs, mark_eq, ↓reduceIte, Nat.reduceEqDiff, ite_tt, ite_ff, eq_self, and_true, true_and, and_self, implies_true, Bool.true_eq_false, Bool.false_eq_true, decide_true, decide_false, decide_eq_true_eq, decide_eq_false_iff_not, ne_eq, not_true_eq_false, not_false_eq_true, Bool.not_eq_true', Bool.not_eq_false', beq_self_eq_true, Bool.not_true, Bool.not_false, List.getElem?_toArray, List.getElem?_cons_zero, List.getElem?_cons_succ, h1, h24, h25, h26, k6]
        refine (ih _ V _ fp _ _ hx (by have := addAll_len [] acc; simp only [List.length_nil, List.length_append] at *; omega) (l.perm (List.Perm.swap ..))).mono ?_
        rintro r V2 ⟨fp2, l⟩
        replace l : Led B (osl 9 strO fp2 r _ :: L) V2 := l.sub (.cons_cons _ (.cons _ (List.Sublist.refl L)))
        simp (disch := omega) only [↓stq, amv_at, vls, inf, frs, mark_eq, ↓reduceIte, Nat.reduceEqDiff, ite_tt, ite_ff, eq_self, and_true, true_and, and_self, implies_true, Bool.true_eq_false, Bool.false_eq_true, decide_true, decide_false, decide_eq_true_eq, decide_eq_false_iff_not, ne_eq, not_true_eq_false, not_false_eq_true, Bool.not_eq_true', Bool.not_eq_false', beq_self_eq_true, Bool.not_true, Bool.not_false, List.getElem?_toArray, List.getElem?_cons_zero, List.getElem?_cons_succ, h1, h24, h25, h26]
        exact ⟨_, by omega, 1, fp2, r, by omega, rfl, l, rfl, rfl⟩
      · obtain rfl : i = 1 := by omega
        rw [if_neg (by omega)] at l
        simp (disch := omega) only [↓stq, amv_at, vls, inf, frs, mark_eq, ↓reduceIte, Nat.reduceEqDiff, ite_tt, ite_ff, eq_self, and_true, true_and, and_self, implies_true, Bool.true_eq_false, Bool.false_eq_true, decide_true, decide_false, decide_eq_true_eq, decide_eq_false_iff_not, ne_eq, not_true_eq_false, not_false_eq_true, Bool.not_eq_true', Bool.not_eq_false', beq_self_eq_true, Bool.not_true, Bool.not_false, List.getElem?_toArray, List.getElem?_cons_zero, List.getElem?_cons_succ, h1, h24, h25, h26]
        exact ⟨fp, l⟩
  | con a b iha ihb =>
    intro d A L fp w acc hx hl l
    cases hx with
    | @con _ _ d1 d2 bb c hx1 hx2 hp1 hp2 =>
      obtain ⟨aw, cw, rfl, _, _⟩ := (OSl.toS (show OSl 9 strO A fp w acc from l.at (i := 0) rfl)).slice
      have hl1 : (Ex.con a b).leaves = a.leaves ++ b.leaves := rfl
      rw [hl1] at hl ⊢
      have hz : (((2 : Nat) : Int) = 0) = False := eq_false (by decide)
      refine acalls Try.func68 rfl (by kernel_rfl) ?_
      simp (disch := omega) only [↓stq, amv_at, vls, inf, frs, mark_eq, ↓reduceIte, Nat.reduceEqDiff, ite_tt, ite_ff, eq_self, and_true, true_and, and_self, implies_true, Bool.true_eq_false, Bool.false_eq_true, decide_true, decide_false, decide_eq_true_eq, decide_eq_false_iff_not, ne_eq, not_true_eq_false, not_false_eq_true, Bool.not_eq_true', Bool.not_eq_false', beq_self_eq_true, Bool.not_true, Bool.not_false, List.getElem?_toArray, List.getElem?_cons_zero, List.getElem?_cons_succ]
      refine led_box l rfl fun q V _ l => ?_
      have k0 := l.cell (i := 0) rfl (o := 0) rfl rfl
      have k1 := l.cell (i := 0) rfl (o := 1) rfl rfl
      simp (disch := omega) only [↓stq, amv_at, vls, inf, frs, mark_eq, ↓reduceIte, Nat.reduceEqDiff, ite_tt, ite_ff, eq_self, and_true, true_and, and_self, implies_true, Bool.true_eq_false, Bool.false_eq_true, decide_true, decide_false, decide_eq_true_eq, decide_eq_false_iff_not, ne_eq, not_true_eq_false, not_false_eq_true, Bool.not_eq_true', Bool.not_eq_false', beq_self_eq_true, Bool.not_true, Bool.not_false, List.getElem?_toArray, List.getElem?_cons_zero, List.getElem?_cons_succ, add_at, k0, k1, hz]
      refine aloop (fun d fr V => ∃ (i : Nat) (fp : List Nat) (w : Value), i ≤ 2 ∧ d = 2 - i ∧ Led B (osl 9 strO fp w (addAll acc (if i = 0 then [] else if i = 1 then a.leaves else a.leaves ++ b.leaves)) :: L) V ∧ fr 1 = w ∧ fr 24 = .slice (some ⟨bb, 0, none⟩) 2 c ∧ fr 25 = .int .i64 ((2 : Nat) : Int) ∧ fr 26 = .int .i64 i) 2 ⟨0, _, _, by omega, by omega, l.tail, by rfl, by rfl, by rfl, by rfl⟩ ?_
      clear l k0 k1
      rintro dm fr V ⟨i, fp, w, hi, rfl, l, h1, h24, h25, h26⟩
      obtain ⟨aw, cw, rfl, _, _⟩ := (OSl.toS (show OSl 9 strO V fp w _ from l.at (i := 0) rfl)).slice
      simp (disch := omega) only [↓stq, amv_at, vls, inf, frs, mark_eq, ↓reduceIte, Nat.reduceEqDiff, ite_tt, ite_ff, eq_self, and_true, true_and, and_self, implies_true, Bool.true_eq_false, Bool.false_eq_true, decide_true, decide_false, decide_eq_true_eq, decide_eq_false_iff_not, ne_eq, not_true_eq_false, not_false_eq_true, Bool.not_eq_true', Bool.not_eq_false', beq_self_eq_true, Bool.not_true, Bool.not_false, List.getElem?_toArray, List.getElem?_cons_zero, List.getElem?_cons_succ, h1, h24, h25, h26]
      have hi3 : i = 0 ∨ i = 1 ∨ i = 2 := by omega
      rcases hi3 with rfl | rfl | rfl
      · refine ⟨fun e2 => ?_, fun e2 => absurd (show (((0 : Nat) : Int) < ((2 : Nat) : Int)) by decide) e2⟩
        rw [if_pos rfl] at l
        have kp := l.ext.part hp1
        simp (disch := omega) only [↓stq, amv_at, vls, inf, frs, mark_eq, ↓reduceIte, Nat.reduceEqDiff, ite_tt, ite_ff, eq_self, and_true, true_and, and_self, implies_true, Bool.true_eq_false, Bool.false_eq_true, decide_true, decide_false, decide_eq_true_eq, decide_eq_false_iff_not, ne_eq, not_true_eq_false, not_false_eq_true, Bool.not_eq_true', Bool.not_eq_false', beq_self_eq_true, Bool.not_true, Bool.not_false, List.getElem?_toArray, List.getElem?_cons_zero, List.getElem?_cons_succ, h1, h24, h25, h26, add_at, Int.toNat_zero, hone, Nat.zero_mul, Nat.one_mul, Nat.add_zero, kp]
        refine led_alloc zc64 l fun q6 V _ l => ?_
        simp (disch := omega) only [↓stq, amv_at, vls, inf, frs, mark_eq, ↓reduceIte, Nat.reduceEqDiff, ite_tt, ite_ff, eq_self, and_true, true_and, and_self, implies_true, Bool.true_eq_false, Bool.false_eq_true, decide_true, decide_false, decide_eq_true_eq, decide_eq_false_iff_not, ne_eq, not_true_eq_false, not_false_eq_true, Bool.not_eq_true', Bool.not_eq_false', beq_self_eq_true, Bool.not_true, Bool.not_false, List.getElem?_toArray, List.getElem?_cons_zero, List.getElem?_cons_succ, h1, h24, h25, h26]
        refine led_storeAll l 0 rfl sz64 hx1.two.1 rfl hx1.two.2 fun V l => ?_
        have k6 := l.partn (i := 0) rfl hx1.two.1 hx1.two.2
        simp (disch := omega) only [↓stq, amv_at, vls, inf, frs, mark_eq, ↓reduceIte, Nat.reduceEqDiff, ite_tt, ite_ff, eq_self, and_true, true_and, and_self, implies_true, Bool.true_eq_false, Bool.false_eq_true, decide_true, decide_false, decide_eq_true_eq, decide_eq_false_iff_not, ne_eq, not_true_eq_false, not_false_eq_true, Bool.not_eq_true', Bool.not_eq_false', beq_self_eq_true, Bool.not_true, Bool.not_false, List.getElem?_toArray, List.getElem?_cons_zero, List.getElem?_cons_succ, h1, h24, h25, h26, k6]
        refine (iha _ V _ fp _ _ hx1 (by have := addAll_len [] acc; simp only [List.length_nil, List.length_append] at *; omega) (l.perm (List.Perm.swap ..))).mono ?_
        rintro r V2 ⟨fp2, l⟩
        replace l : Led B (osl 9 strO fp2 r _ :: L) V2 := l.sub (.cons_cons _ (.cons _ (List.Sublist.refl L)))
        simp (disch := omega) only [↓stq, amv_at, vls, inf, frs, mark_eq, ↓reduceIte, Nat.reduceEqDiff, ite_tt, ite_ff, eq_self, and_true, true_and, and_self, implies_true, Bool.true_eq_false, Bool.false_eq_true, decide_true, decide_false, decide_eq_true_eq, decide_eq_false_iff_not, ne_eq, not_true_eq_false, not_false_eq_true, Bool.not_eq_true', Bool.not_eq_false', beq_self_eq_true, Bool.not_true, Bool.not_false, List.getElem?_toArray, List.getElem?_cons_zero, List.getElem?_cons_succ, h1, h24, h25, h26]
        exact ⟨_, by omega, 1, fp2, r, by omega, rfl, l, rfl, rfl⟩
      · refine ⟨fun e2 => ?_, fun e2 => absurd (show (((1 : Nat) : Int) < ((2 : Nat) : Int)) by decide) e2⟩
        rw [if_neg (by omega), if_pos rfl] at l
        have kp := l.ext.part hp2
        simp (disch := omega) only [↓stq, amv_at, vls, inf, frs, mark_eq, ↓reduceIte, Nat.reduceEqDiff, ite_tt, ite_ff, eq_self, and_true, true_and, and_self, implies_true, Bool.true_eq_false, Bool.false_eq_true, decide_true, decide_false, decide_eq_true_eq, decide_eq_false_iff_not, ne_eq, not_true_eq_false, not_false_eq_true, Bool.not_eq_true', Bool.not_eq_false', beq_self_eq_true, Bool.not_true, Bool.not_false, List.getElem?_toArray, List.getElem?_cons_zero, List.getElem?_cons_succ, h1, h24, h25, h26, add_at, Int.toNat_zero, hone, Nat.zero_mul, Nat.one_mul, Nat.add_zero, kp]
        refine led_alloc zc64 l fun q6 V _ l => ?_
        simp (disch := omega) only [↓stq, amv_at, vls, inf, frs, mark_eq, ↓reduceIte, Nat.reduceEqDiff, ite_tt, ite_ff, eq_self, and_true, true_and, and_self, implies_true, Bool.true_eq_false, Bool.false_eq_true, decide_true, decide_false, decide_eq_true_eq, decide_eq_false_iff_not, ne_eq, not_true_eq_false, not_false_eq_true, Bool.not_eq_true', Bool.not_eq_false', beq_self_eq_true, Bool.not_true, Bool.not_false, List.getElem?_toArray, List.getElem?_cons_zero, List.getElem?_cons_succ, h1, h24, h25, h26]
        refine led_storeAll l 0 rfl sz64 hx2.two.1 rfl hx2.two.2 fun V l => ?_
        have k6 := l.partn (i := 0) rfl hx2.two.1 hx2.two.2
        simp (disch := omega) only [↓stq, amv_at, vls, inf, frs, mark_eq, ↓reduceIte, Nat.reduceEqDiff, ite_tt, ite_ff, eq_self, and_true, true_and, and_self, implies_true, Bool.true_eq_false, Bool.false_eq_true, decide_true, decide_false, decide_eq_true_eq, decide_eq_false_iff_not, ne_eq, not_true_eq_false, not_false_eq_true, Bool.not_eq_true', Bool.not_eq_false', beq_self_eq_true, Bool.not_true, Bool.not_false, List.getElem?_toArray, List.getElem?_cons_zero, List.getElem?_cons_succ, h1, h24, h25, h26, k6]
        refine (ihb _ V _ fp _ _ hx2 (by have := addAll_len a.leaves acc; simp only [List.length_nil, List.length_append] at *; omega) (l.perm (List.Perm.swap ..))).mono ?_
        rintro r V2 ⟨fp2, l⟩
        replace l : Led B (osl 9 strO fp2 r _ :: L) V2 := l.sub (.cons_cons _ (.cons _ (List.Sublist.refl L)))
        simp (disch := omega) only [↓stq, amv_at, vls, inf, frs, mark_eq, ↓reduceIte, Nat.reduceEqDiff, ite_tt, ite_ff, eq_self, and_true, true_and, and_self, implies_true, Bool.true_eq_false, Bool.false_eq_true, decide_true, decide_false, decide_eq_true_eq, decide_eq_false_iff_not, ne_eq, not_true_eq_false, not_false_eq_true, Bool.not_eq_true', Bool.not_eq_false', beq_self_eq_true, Bool.not_true, Bool.not_false, List.getElem?_toArray, List.getElem?_cons_zero, List.getElem?_cons_succ, h1, h24, h25, h26]
        exact ⟨_, by omega, 2, fp2, r, by omega, rfl, by rw [if_neg (by omega), if_neg (by omega), addAll_app]; exact l, rfl, rfl⟩
      · refine ⟨fun e2 => absurd e2 (Int.lt_irrefl _), fun e2 => ?_⟩
        rw [if_neg (by omega), if_neg (by omega)] at l
        simp (disch := omega) only [↓stq, amv_at, vls, inf, frs, mark_eq, ↓reduceIte, Nat.reduceEqDiff, ite_tt, ite_ff, eq_self, and_true, true_and, and_self, implies_true, Bool.true_eq_false, Bool.false_eq_true, decide_true, decide_false, decide_eq_true_eq, decide_eq_false_iff_not, ne_eq, not_true_eq_false, not_false_eq_true, Bool.not_eq_true', Bool.not_eq_false', beq_self_eq_true, Bool.not_true, Bool.not_false, List.getElem?_toArray, List.getElem?_cons_zero, List.getElem?_cons_succ, h1, h24, h25, h26]
        exact ⟨fp, l⟩
  | dis a b iha ihb =>
    intro d A L fp w acc hx hl l
    cases hx with
    | @dis _ _ d1 d2 bb c hx1 hx2 hp1 hp2 =>
      obtain ⟨aw, cw, rfl, _, _⟩ := (OSl.toS (show OSl 9 strO A fp w acc from l.at (i := 0) rfl)).slice
      have hl1 : (Ex.dis a b).leaves = a.leaves ++ b.leaves := rfl
      rw [hl1] at hl ⊢
      have hz : (((2 : Nat) : Int) = 0) = False := eq_false (by decide)
      refine acalls Try.func68 rfl (by kernel_rfl) ?_
      simp (disch := omega) only [↓stq, amv_at, vls, inf, frs, mark_eq, ↓reduceIte, Nat.reduceEqDiff, ite_tt, ite_ff, eq_self, and_true, true_and, and_self, implies_true, Bool.true_eq_false, Bool.false_eq_true, decide_true, decide_false, decide_eq_true_eq, decide_eq_false_iff_not, ne_eq, not_true_eq_false, not_false_eq_true, Bool.not_eq_true', Bool.not_eq_false', beq_self_eq_true, Bool.not_true, Bool.not_false, List.getElem?_toArray, List.getElem?_cons_zero, List.getElem?_cons_succ]
      refine led_box l rfl fun q V _ l => ?_
      have k0 := l.cell (i := 0) rfl (o := 0) rfl rfl
      have k1 := l.cell (i := 0) rfl (o := 1) rfl rfl
      simp (disch := omega) only [↓stq, amv_at, vls, inf, frs, mark_eq, ↓reduceIte, Nat.reduceEqDiff, ite_tt, ite_ff, eq_self, and_true, true_and, and_self, implies_true, Bool.true_eq_false, Bool.false_eq_true, decide_true, decide_false, decide_eq_true_eq, decide_eq_false_iff_not, ne_eq, not_true_eq_false, not_false_eq_true, Bool.not_eq_true', Bool.not_eq_false', beq_self_eq_true, Bool.not_true, Bool.not_false, List.getElem?_toArray, List.getElem?_cons_zero, List.getElem?_cons_succ, add_at, k0, k1, hz]
      refine aloop (fun d fr V => ∃ (i : Nat) (fp : List Nat) (w : Value), i ≤ 2 ∧ d = 2 - i ∧ Led B (osl 9 strO fp w (addAll acc (if i = 0 then [] else if i = 1 then a.leaves else a.leaves ++ b.leaves)) :: L) V ∧ fr 1 = w ∧ fr 24 = .slice (some ⟨bb, 0, none⟩) 2 c ∧ fr 25 = .int .i64 ((2 : Nat) : Int) ∧ fr 26 = .int .i64 i) 2 ⟨0, _, _, by omega, by omega, l.tail, by rfl, by rfl, by rfl, by rfl⟩ ?_
      clear l k0 k1
      rintro dm fr V ⟨i, fp, w, hi, rfl, l, h1, h24, h25, h26⟩
      obtain ⟨aw, cw, rfl, _, _⟩ := (OSl.toS (show OSl 9 strO V fp w _ from l.at (i := 0) rfl)).slice
      simp (disch := omega) only [↓stq, amv_at, vls, inf, frs, mark_eq, ↓reduceIte, Nat.reduceEqDiff, ite_tt, ite_ff, eq_self, and_true, true_and, and_self, implies_true, Bool.true_eq_false, Bool.false_eq_true, decide_true, decide_false, decide_eq_true_eq, decide_eq_false_iff_not, ne_eq, not_true_eq_false, not_false_eq_true, Bool.not_eq_true', Bool.not_eq_false', beq_self_eq_true, Bool.not_true, Bool.not_false, List.getElem?_toArray, List.getElem?_cons_zero, List.getElem?_cons_succ, h1, h24, h25, h26]
      have hi3 : i = 0 ∨ i = 1 ∨ i = 2 := by omega
      rcases hi3 with rfl | rfl | rfl
      · refine ⟨fun e2 => ?_, fun e2 => absurd (show (((0 : Nat) : Int) < ((2 : Nat) : Int)) by decide) e2⟩
        rw [if_pos rfl] at l
        have kp := l.ext.part hp1
        simp (disch := omega) only [↓stq, amv_at, vls, inf, frs, mark_eq, ↓reduceIte, Nat.reduceEqDiff, ite_tt, ite_ff, eq_self, and_true, true_and, and_self, implies_true, Bool.true_eq_false, Bool.false_eq_true, decide_true, decide_false, decide_eq_true_eq, decide_eq_false_iff_not, ne_eq, not_true_eq_false, not_false_eq_true, Bool.not_eq_true', Bool.not_eq_false', beq_self_eq_true, Bool.not_true, Bool.not_false, List.getElem?_toArray, List.getElem?_cons_zero, List.getElem?_cons_succ, h1, h24, h25, h26, add_at, Int.toNat_zero, hone, Nat.zero_mul, Nat.one_mul, Nat.add_zero, kp]
        refine led_alloc zc64 l fun q6 V _ l => ?_
        simp (disch := omega) only [↓stq, amv_at, vls, inf, frs, mark_eq, ↓reduceIte, Nat.reduceEqDiff, ite_tt, ite_ff, eq_self, and_true, true_and, and_self, implies_true, Bool.true_eq_false, Bool.false_eq_true, decide_true, decide_false, decide_eq_true_eq, decide_eq_false_iff_not, ne_eq, not_true_eq_false, not_false_eq_true, Bool.not_eq_true', Bool.not_eq_false', beq_self_eq_true, Bool.not_true, Bool.not_false, List.getElem?_toArray, List.getElem?_cons_zero, List.getElem?_cons_succ, h1, h24, h25, h26]
        refine led_storeAll l 0 rfl sz64 hx1.two.1 rfl hx1.two.2 fun V l => ?_
        have k6 := l.partn (i := 0) rfl hx1.two.1 hx1.two.2
        simp (disch := omega) only [↓stq, amv_at, vls, inf, frs, mark_eq, ↓reduceIte, Nat.reduceEqDiff, ite_tt, ite_ff, eq_self, and_true, true_and, and_self, implies_true, Bool.true_eq_false, Bool.false_eq_true, decide_true, decide_false, decide_eq_true_eq, decide_eq_false_iff_not, ne_eq, not_true_eq_false, not_false_eq_true, Bool.not_eq_true', Bool.not_eq_false', beq_self_eq_true, Bool.not_true, Bool.not_false, List.getElem?_toArray, List.getElem?_cons_zero, List.getElem?_cons_succ, h1, h24, h25, h26, k6]
        refine (iha _ V _ fp _ _ hx1 (by have := addAll_len [] acc; simp only [List.length_nil, List.length_append] at *; omega) (l.perm (List.Perm.swap ..))).mono ?_
        rintro r V2 ⟨fp2, l⟩
        replace l : Led B (osl 9 strO fp2 r _ :: L) V2 := l.sub (.cons_cons _ (.cons _ (List.Sublist.refl L)))
        simp (disch := omega) only [↓stq, amv_at, vls, inf, frs, mark_eq, ↓reduceIte, Nat.reduceEqDiff, ite_tt, ite_ff, eq_self, and_true, true_and, and_self, implies_true, Bool.true_eq_false, Bool.false_eq_true, decide_true, decide_false, decide_eq_true_eq, decide_eq_false_iff_not, ne_eq, not_true_eq_false, not_false_eq_true, Bool.not_eq_true', Bool.not_eq_false', beq_self_eq_true, Bool.not_true, Bool.not_false, List.getElem?_toArray, List.getElem?_cons_zero, List.getElem?_cons_succ, h1, h24, h25, h26]
        exact ⟨_, by omega, 1, fp2, r, by omega, rfl, l, rfl, rfl⟩
      · refine ⟨fun e2 => ?_, fun e2 => absurd (show (((1 : Nat) : Int) < ((2 : Nat) : Int)) by decide) e2⟩
        rw [if_neg (by omega), if_pos rfl] at l
        have kp := l.ext.part hp2
        simp (disch := omega) only [↓stq, amv_at, vls, inf, frs, mark_eq, ↓reduceIte, Nat.reduceEqDiff, ite_tt, ite_ff, eq_self, and_true, true_and, and_self, implies_true, Bool.true_eq_false, Bool.false_eq_true, decide_true, decide_false, decide_eq_true_eq, decide_eq_false_iff_not, ne_eq, not_true_eq_false, not_false_eq_true, Bool.not_eq_true', Bool.not_eq_false', beq_self_eq_true, Bool.not_true, Bool.not_false, List.getElem?_toArray, List.getElem?_cons_zero, List.getElem?_cons_succ, h1, h24, h25, h26, add_at, Int.toNat_zero, hone, Nat.zero_mul, Nat.one_mul, Nat.add_zero, kp]
        refine led_alloc zc64 l fun q6 V _ l => ?_
        simp (disch := omega) only [↓stq, amv_at, vls, inf, frs, mark_eq, ↓reduceIte, Nat.reduceEqDiff, ite_tt, ite_ff, eq_self, and_true, true_and, and_self, implies_true, Bool.true_eq_false, Bool.false_eq_true, decide_true, decide_false, decide_eq_true_eq, decide_eq_false_iff_not, ne_eq, not_true_eq_false, not_false_eq_true, Bool.not_eq_true', Bool.not_eq_false', beq_self_eq_true, Bool.not_true, Bool.not_false, List.getElem?_toArray, List.getElem?_cons_zero, List.getElem?_cons_succ, h1, h24, h25, h26]
        refine led_storeAll l 0 rfl sz64 hx2.two.1 rfl hx2.two.2 fun V l => ?_
        have k6 := l.partn (i := 0) rfl hx2.two.1 hx2.two.2
        simp (disch := omega) only [↓stq, amv_at, vls, inf, frs, mark_eq, ↓reduceIte, Nat.reduceEqDiff, ite_tt, ite_ff, eq_self, and_true, true_and, and_self, implies_true, Bool.true_eq_false, Bool.false_eq_true, decide_true, decide_false, decide_eq_true_eq, decide_eq_false_iff_not, ne_eq, not_true_eq_false, not_false_eq_true, Bool.not_eq_true', Bool.not_eq_false', beq_self_eq_true, Bool.not_true, Bool.not_false, List.getElem?_toArray, List.getElem?_cons_zero, List.getElem?_cons_succ, h1, h24, h25, h26, k6]
        refine (ihb _ V _ fp _ _ hx2 (by have := addAll_len a.leaves acc; simp only [List.length_nil, List.length_append] at *; omega) (l.perm (List.Perm.swap ..))).mono ?_
        rintro r V2 ⟨fp2, l⟩
        replace l : Led B (osl 9 strO fp2 r _ :: L) V2 := l.sub (.cons_cons _ (.cons _ (List.Sublist.refl L)))
        simp (disch := omega) only [↓stq, amv_at, vls, inf, frs, mark_eq, ↓reduceIte, Nat.reduceEqDiff, ite_tt, ite_ff, eq_self, and_true, true_and, and_self, implies_true, Bool.true_eq_false, Bool.false_eq_true, decide_true, decide_false, decide_eq_true_eq, decide_eq_false_iff_not, ne_eq, not_true_eq_false, not_false_eq_true, Bool.not_eq_true', Bool.not_eq_false', beq_self_eq_true, Bool.not_true, Bool.not_false, List.getElem?_toArray, List.getElem?_cons_zero, List.getElem?_cons_succ, h1, h24, h25, h26]
        exact ⟨_, by omega, 2, fp2, r, by omega, rfl, by rw [if_neg (by omega), if_neg (by omega), addAll_app]; exact l, rfl, rfl⟩
      · refine ⟨fun e2 => absurd e2 (Int.lt_irrefl _), fun e2 => ?_⟩
        rw [if_neg (by omega), if_neg (by omega)] at l
        simp (disch := omega) only [↓stq, amv_at, vls, inf, frs, mark_eq, ↓reduceIte, Nat.reduceEqDiff, ite_tt, ite_ff, eq_self, and_true, true_and, and_self, implies_true, Bool.true_eq_false, Bool.false_eq_true, decide_true, decide_false, decide_eq_true_eq, decide_eq_false_iff_not, ne_eq, not_true_eq_false, not_false_eq_true, Bool.not_eq_true', Bool.not_eq_false', beq_self_eq_true, Bool.not_true, Bool.not_false, List.getElem?_toArray, List.getElem?_cons_zero, List.getElem?_cons_succ, h1, h24, h25, h26]
        exact ⟨fp, l⟩

end Go.Proofs.Ytbddklkfekiaeaa

