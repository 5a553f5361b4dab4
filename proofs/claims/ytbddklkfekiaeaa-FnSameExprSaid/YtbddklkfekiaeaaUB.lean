/- Generators: expressions. -/
import Derived.Test.YtbddklkfekiaeaaZT
set_option maxHeartbeats 4000000
set_option synthInstance.maxHeartbeats 400000
set_option synthInstance.maxSize 4096
set_option linter.unusedSimpArgs false
set_option linter.unusedVariables false
namespace Go.Proofs.Ytbddklkfekiaeaa

set_option maxRecDepth 100000

def AnE (d : Int) (S R : Nat) : Prop := ∀ (B A : View) (L : List It) (q : Nat) (sl : Value) (N : Nat), Bts B sl → N + R ≤ 900000000 → Led B (rdr q sl N :: L) A → ACalls Try.prog 94 #[.pointer (some ⟨q, 0, none⟩), .int .i64 d] A fun r V => ∃ s : ByteArray, r = .string s ∧ s.size ≤ S ∧ Led B (rdr q sl (N + R) :: L) V

theorem anExpr_deep (d : Int) (hd : 2 < d) : AnE d 100 1 := by
  intro B A L q sl N hb hN l
  refine acalls Try.func94 rfl (by kernel_rfl) ?_
  simp (disch := omega) only [↓stq, amv_at, vls, inf, frs, mark_eq, ↓reduceIte, Nat.reduceEqDiff, ite_tt, ite_ff, eq_self, and_true, true_and, and_self, implies_true, Bool.true_eq_false, Bool.false_eq_true, decide_true, decide_false, decide_eq_true_eq, decide_eq_false_iff_not, ne_eq, not_true_eq_false, not_false_eq_true, Bool.not_eq_true', Bool.not_eq_false', beq_self_eq_true, Bool.not_true, Bool.not_false, List.getElem?_toArray, List.getElem?_cons_zero, List.getElem?_cons_succ]
  simp (disch := omega) only [↓stq, amv_at, vls, inf, frs, mark_eq, ↓reduceIte, Nat.reduceEqDiff, ite_tt, ite_ff, eq_self, and_true, true_and, and_self, implies_true, Bool.true_eq_false, Bool.false_eq_true, decide_true, decide_false, decide_eq_true_eq, decide_eq_false_iff_not, ne_eq, not_true_eq_false, not_false_eq_true, Bool.not_eq_true', Bool.not_eq_false', beq_self_eq_true, Bool.not_true, Bool.not_false, List.getElem?_toArray, List.getElem?_cons_zero, List.getElem?_cons_succ, hd]
  refine led_lit li25 (by omega) rfl (by simp [Value.cells, Value.oneCell']) l fun bl V _ l => ?_
  simp (disch := omega) only [↓stq, amv_at, vls, inf, frs, mark_eq, ↓reduceIte, Nat.reduceEqDiff, ite_tt, ite_ff, eq_self, and_true, true_and, and_self, implies_true, Bool.true_eq_false, Bool.false_eq_true, decide_true, decide_false, decide_eq_true_eq, decide_eq_false_iff_not, ne_eq, not_true_eq_false, not_false_eq_true, Bool.not_eq_true', Bool.not_eq_false', beq_self_eq_true, Bool.not_true, Bool.not_false, List.getElem?_toArray, List.getElem?_cons_zero, List.getElem?_cons_succ]
  refine (ofLit_c (n := 5) (c := 5) (xs := [_, _, _, _, _]) B V L q sl _ hb (by omega) rfl rfl (by omega) (by decide) (by omega) (by omega) l).mono ?_
  rintro _ V ⟨s, rfl, hs, l⟩
  have hz : s.size ≤ 100 := by revert s; decide
  simp (disch := omega) only [↓stq, amv_at, vls, inf, frs, mark_eq, ↓reduceIte, Nat.reduceEqDiff, ite_tt, ite_ff, eq_self, and_true, true_and, and_self, implies_true, Bool.true_eq_false, Bool.false_eq_true, decide_true, decide_false, decide_eq_true_eq, decide_eq_false_iff_not, ne_eq, not_true_eq_false, not_false_eq_true, Bool.not_eq_true', Bool.not_eq_false', beq_self_eq_true, Bool.not_true, Bool.not_false, List.getElem?_toArray, List.getElem?_cons_zero, List.getElem?_cons_succ]
  exact ⟨s, rfl, hz, l⟩

theorem app_size (s w : ByteArray) (n : Nat) (h : w.size = n) : (s ++ w).size = s.size + n := by rw [ByteArray.size_append, h]
theorem app_size2 (s w : ByteArray) (n : Nat) (h : w.size = n) : (w ++ s).size = n + s.size := by rw [ByteArray.size_append, h]

theorem anExpr_step (d : Int) (S1 S2 R1 R2 : Nat) (hd : -100 ≤ d ∧ d ≤ 2) (hS : S1 ≤ 10000 ∧ S2 ≤ 10000 ∧ 100 ≤ S2) (h1 : AnE (d + 1) S1 R1) (h2 : AnE (d + 2) S2 R2) : AnE d (S1 + S2 + 105) (2 + R1 + R2) := by
  intro B A L q sl N hb hN l
  have hd2 : ¬ 2 < d := by omega
  refine acalls Try.func94 rfl (by kernel_rfl) ?_
  simp (disch := omega) only [↓stq, amv_at, vls, inf, frs, mark_eq, ↓reduceIte, Nat.reduceEqDiff, ite_tt, ite_ff, eq_self, and_true, true_and, and_self, implies_true, Bool.true_eq_false, Bool.false_eq_true, decide_true, decide_false, decide_eq_true_eq, decide_eq_false_iff_not, ne_eq, not_true_eq_false, not_false_eq_true, Bool.not_eq_true', Bool.not_eq_false', beq_self_eq_true, Bool.not_true, Bool.not_false, List.getElem?_toArray, List.getElem?_cons_zero, List.getElem?_cons_succ]
  simp (disch := omega) only [↓stq, amv_at, vls, inf, frs, mark_eq, ↓reduceIte, Nat.reduceEqDiff, ite_tt, ite_ff, eq_self, and_true, true_and, and_self, implies_true, Bool.true_eq_false, Bool.false_eq_true, decide_true, decide_false, decide_eq_true_eq, decide_eq_false_iff_not, ne_eq, not_true_eq_false, not_false_eq_true, Bool.not_eq_true', Bool.not_eq_false', beq_self_eq_true, Bool.not_true, Bool.not_false, List.getElem?_toArray, List.getElem?_cons_zero, List.getElem?_cons_succ, hd2]
  refine (pick_c B A L q sl N 6 hb (by omega) ⟨by omega, by omega⟩ l).mono ?_
  rintro _ V ⟨u, rfl, _, _, l⟩
  simp (disch := omega) only [↓stq, amv_at, vls, inf, frs, mark_eq, ↓reduceIte, Nat.reduceEqDiff, ite_tt, ite_ff, eq_self, and_true, true_and, and_self, implies_true, Bool.true_eq_false, Bool.false_eq_true, decide_true, decide_false, decide_eq_true_eq, decide_eq_false_iff_not, ne_eq, not_true_eq_false, not_false_eq_true, Bool.not_eq_true', Bool.not_eq_false', beq_self_eq_true, Bool.not_true, Bool.not_false, List.getElem?_toArray, List.getElem?_cons_zero, List.getElem?_cons_succ]
  refine ⟨fun e1 => ?_, fun e1 => ?_⟩ <;> simp (disch := omega) only [↓stq, amv_at, vls, inf, frs, mark_eq, ↓reduceIte, Nat.reduceEqDiff, ite_tt, ite_ff, eq_self, and_true, true_and, and_self, implies_true, Bool.true_eq_false, Bool.false_eq_true, decide_true, decide_false, decide_eq_true_eq, decide_eq_false_iff_not, ne_eq, not_true_eq_false, not_false_eq_true, Bool.not_eq_true', Bool.not_eq_false', beq_self_eq_true, Bool.not_true, Bool.not_false, List.getElem?_toArray, List.getElem?_cons_zero, List.getElem?_cons_succ, e1]
  · refine led_lit li25 (by omega) rfl (by simp [Value.cells, Value.oneCell']) l fun bl V _ l => ?_
    simp (disch := omega) only [↓stq, amv_at, vls, inf, frs, mark_eq, ↓reduceIte, Nat.reduceEqDiff, ite_tt, ite_ff, eq_self, and_true, true_and, and_self, implies_true, Bool.true_eq_false, Bool.false_eq_true, decide_true, decide_false, decide_eq_true_eq, decide_eq_false_iff_not, ne_eq, not_true_eq_false, not_false_eq_true, Bool.not_eq_true', Bool.not_eq_false', beq_self_eq_true, Bool.not_true, Bool.not_false, List.getElem?_toArray, List.getElem?_cons_zero, List.getElem?_cons_succ]
    refine (ofLit_c (n := 6) (c := 6) (xs := [_, _, _, _, _, _]) B V L q sl _ hb (by omega) rfl rfl (by omega) (by decide) (by omega) (by omega) l).mono ?_
    rintro _ V ⟨s, rfl, hs, l⟩
    have hz : s.size ≤ 100 := by revert s; decide
    simp (disch := omega) only [↓stq, amv_at, vls, inf, frs, mark_eq, ↓reduceIte, Nat.reduceEqDiff, ite_tt, ite_ff, eq_self, and_true, true_and, and_self, implies_true, Bool.true_eq_false, Bool.false_eq_true, decide_true, decide_false, decide_eq_true_eq, decide_eq_false_iff_not, ne_eq, not_true_eq_false, not_false_eq_true, Bool.not_eq_true', Bool.not_eq_false', beq_self_eq_true, Bool.not_true, Bool.not_false, List.getElem?_toArray, List.getElem?_cons_zero, List.getElem?_cons_succ]
    exact ⟨s, rfl, by omega, rdr_more l (by omega)⟩
  refine ⟨fun e2 => ?_, fun e2 => ?_⟩ <;> simp (disch := omega) only [↓stq, amv_at, vls, inf, frs, mark_eq, ↓reduceIte, Nat.reduceEqDiff, ite_tt, ite_ff, eq_self, and_true, true_and, and_self, implies_true, Bool.true_eq_false, Bool.false_eq_true, decide_true, decide_false, decide_eq_true_eq, decide_eq_false_iff_not, ne_eq, not_true_eq_false, not_false_eq_true, Bool.not_eq_true', Bool.not_eq_false', beq_self_eq_true, Bool.not_true, Bool.not_false, List.getElem?_toArray, List.getElem?_cons_zero, List.getElem?_cons_succ, e2]
  · refine led_lit li25 (by omega) rfl (by simp [Value.cells, Value.oneCell']) l fun bl V _ l => ?_
    simp (disch := omega) only [↓stq, amv_at, vls, inf, frs, mark_eq, ↓reduceIte, Nat.reduceEqDiff, ite_tt, ite_ff, eq_self, and_true, true_and, and_self, implies_true, Bool.true_eq_false, Bool.false_eq_true, decide_true, decide_false, decide_eq_true_eq, decide_eq_false_iff_not, ne_eq, not_true_eq_false, not_false_eq_true, Bool.not_eq_true', Bool.not_eq_false', beq_self_eq_true, Bool.not_true, Bool.not_false, List.getElem?_toArray, List.getElem?_cons_zero, List.getElem?_cons_succ]
    refine (ofLit_c (n := 6) (c := 6) (xs := [_, _, _, _, _, _]) B V L q sl _ hb (by omega) rfl rfl (by omega) (by decide) (by omega) (by omega) l).mono ?_
    rintro _ V ⟨s, rfl, hs, l⟩
    have hz : s.size ≤ 100 := by revert s; decide
    simp (disch := omega) only [↓stq, amv_at, vls, inf, frs, mark_eq, ↓reduceIte, Nat.reduceEqDiff, ite_tt, ite_ff, eq_self, and_true, true_and, and_self, implies_true, Bool.true_eq_false, Bool.false_eq_true, decide_true, decide_false, decide_eq_true_eq, decide_eq_false_iff_not, ne_eq, not_true_eq_false, not_false_eq_true, Bool.not_eq_true', Bool.not_eq_false', beq_self_eq_true, Bool.not_true, Bool.not_false, List.getElem?_toArray, List.getElem?_cons_zero, List.getElem?_cons_succ]
    exact ⟨s, rfl, by omega, rdr_more l (by omega)⟩
  refine ⟨fun e3 => ?_, fun e3 => ?_⟩ <;> simp (disch := omega) only [↓stq, amv_at, vls, inf, frs, mark_eq, ↓reduceIte, Nat.reduceEqDiff, ite_tt, ite_ff, eq_self, and_true, true_and, and_self, implies_true, Bool.true_eq_false, Bool.false_eq_true, decide_true, decide_false, decide_eq_true_eq, decide_eq_false_iff_not, ne_eq, not_true_eq_false, not_false_eq_true, Bool.not_eq_true', Bool.not_eq_false', beq_self_eq_true, Bool.not_true, Bool.not_false, List.getElem?_toArray, List.getElem?_cons_zero, List.getElem?_cons_succ]
  · refine led_lit li25 (by omega) rfl (by simp [Value.cells, Value.oneCell']) l fun bl V _ l => ?_
    simp (disch := omega) only [↓stq, amv_at, vls, inf, frs, mark_eq, ↓reduceIte, Nat.reduceEqDiff, ite_tt, ite_ff, eq_self, and_true, true_and, and_self, implies_true, Bool.true_eq_false, Bool.false_eq_true, decide_true, decide_false, decide_eq_true_eq, decide_eq_false_iff_not, ne_eq, not_true_eq_false, not_false_eq_true, Bool.not_eq_true', Bool.not_eq_false', beq_self_eq_true, Bool.not_true, Bool.not_false, List.getElem?_toArray, List.getElem?_cons_zero, List.getElem?_cons_succ]
    refine (ofLit_c (n := 3) (c := 3) (xs := [_, _, _]) B V L q sl _ hb (by omega) rfl rfl (by omega) (by decide) (by omega) (by omega) l).mono ?_
    rintro _ V ⟨s, rfl, hs, l⟩
    have hz : s.size ≤ 100 := by revert s; decide
    simp (disch := omega) only [↓stq, amv_at, vls, inf, frs, mark_eq, ↓reduceIte, Nat.reduceEqDiff, ite_tt, ite_ff, eq_self, and_true, true_and, and_self, implies_true, Bool.true_eq_false, Bool.false_eq_true, decide_true, decide_false, decide_eq_true_eq, decide_eq_false_iff_not, ne_eq, not_true_eq_false, not_false_eq_true, Bool.not_eq_true', Bool.not_eq_false', beq_self_eq_true, Bool.not_true, Bool.not_false, List.getElem?_toArray, List.getElem?_cons_zero, List.getElem?_cons_succ]
    rw [abin_cat _ _ _ (by show 4 + s.size ≤ _; omega)]
    simp (disch := omega) only [↓stq, amv_at, vls, inf, frs, mark_eq, ↓reduceIte, Nat.reduceEqDiff, ite_tt, ite_ff, eq_self, and_true, true_and, and_self, implies_true, Bool.true_eq_false, Bool.false_eq_true, decide_true, decide_false, decide_eq_true_eq, decide_eq_false_iff_not, ne_eq, not_true_eq_false, not_false_eq_true, Bool.not_eq_true', Bool.not_eq_false', beq_self_eq_true, Bool.not_true, Bool.not_false, List.getElem?_toArray, List.getElem?_cons_zero, List.getElem?_cons_succ]
    exact ⟨_, rfl, by rw [app_size2 _ _ 4 rfl]; omega, rdr_more l (by omega)⟩
  refine ⟨fun e4 => ?_, fun e4 => ?_⟩ <;> simp (disch := omega) only [↓stq, amv_at, vls, inf, frs, mark_eq, ↓reduceIte, Nat.reduceEqDiff, ite_tt, ite_ff, eq_self, and_true, true_and, and_self, implies_true, Bool.true_eq_false, Bool.false_eq_true, decide_true, decide_false, decide_eq_true_eq, decide_eq_false_iff_not, ne_eq, not_true_eq_false, not_false_eq_true, Bool.not_eq_true', Bool.not_eq_false', beq_self_eq_true, Bool.not_true, Bool.not_false, List.getElem?_toArray, List.getElem?_cons_zero, List.getElem?_cons_succ]
  · refine (h1 B V L q sl _ hb (by omega) l).mono ?_
    rintro _ V ⟨s1, rfl, hz1, l⟩
    simp (disch := omega) only [↓stq, amv_at, vls, inf, frs, mark_eq, ↓reduceIte, Nat.reduceEqDiff, ite_tt, ite_ff, eq_self, and_true, true_and, and_self, implies_true, Bool.true_eq_false, Bool.false_eq_true, decide_true, decide_false, decide_eq_true_eq, decide_eq_false_iff_not, ne_eq, not_true_eq_false, not_false_eq_true, Bool.not_eq_true', Bool.not_eq_false', beq_self_eq_true, Bool.not_true, Bool.not_false, List.getElem?_toArray, List.getElem?_cons_zero, List.getElem?_cons_succ]
    rw [abin_cat _ _ _ (by show s1.size + 5 ≤ _; omega)]
    have ha := app_size s1 ⟨#[32, 97, 110, 100, 32]⟩ 5 rfl
    generalize s1 ++ (⟨#[32, 97, 110, 100, 32]⟩ : ByteArray) = s3 at ha ⊢
    simp (disch := omega) only [↓stq, amv_at, vls, inf, frs, mark_eq, ↓reduceIte, Nat.reduceEqDiff, ite_tt, ite_ff, eq_self, and_true, true_and, and_self, implies_true, Bool.true_eq_false, Bool.false_eq_true, decide_true, decide_false, decide_eq_true_eq, decide_eq_false_iff_not, ne_eq, not_true_eq_false, not_false_eq_true, Bool.not_eq_true', Bool.not_eq_false', beq_self_eq_true, Bool.not_true, Bool.not_false, List.getElem?_toArray, List.getElem?_cons_zero, List.getElem?_cons_succ]
    refine led_lit li25 (by omega) rfl (by simp [Value.cells, Value.oneCell']) l fun bl V _ l => ?_
    simp (disch := omega) only [↓stq, amv_at, vls, inf, frs, mark_eq, ↓reduceIte, Nat.reduceEqDiff, ite_tt, ite_ff, eq_self, and_true, true_and, and_self, implies_true, Bool.true_eq_false, Bool.false_eq_true, decide_true, decide_false, decide_eq_true_eq, decide_eq_false_iff_not, ne_eq, not_true_eq_false, not_false_eq_true, Bool.not_eq_true', Bool.not_eq_false', beq_self_eq_true, Bool.not_true, Bool.not_false, List.getElem?_toArray, List.getElem?_cons_zero, List.getElem?_cons_succ]
    refine (ofLit_c (n := 3) (c := 3) (xs := [_, _, _]) B V L q sl _ hb (by omega) rfl rfl (by omega) (by decide) (by omega) (by omega) l).mono ?_
    rintro _ V ⟨s, rfl, hs, l⟩
    have hz : s.size ≤ 100 := by revert s; decide
    simp (disch := omega) only [↓stq, amv_at, vls, inf, frs, mark_eq, ↓reduceIte, Nat.reduceEqDiff, ite_tt, ite_ff, eq_self, and_true, true_and, and_self, implies_true, Bool.true_eq_false, Bool.false_eq_true, decide_true, decide_false, decide_eq_true_eq, decide_eq_false_iff_not, ne_eq, not_true_eq_false, not_false_eq_true, Bool.not_eq_true', Bool.not_eq_false', beq_self_eq_true, Bool.not_true, Bool.not_false, List.getElem?_toArray, List.getElem?_cons_zero, List.getElem?_cons_succ]
    exact ⟨_, rfl, by rw [ByteArray.size_append]; omega, rdr_more l (by omega)⟩
  refine ⟨fun e5 => ?_, fun e5 => ?_⟩ <;> simp (disch := omega) only [↓stq, amv_at, vls, inf, frs, mark_eq, ↓reduceIte, Nat.reduceEqDiff, ite_tt, ite_ff, eq_self, and_true, true_and, and_self, implies_true, Bool.true_eq_false, Bool.false_eq_true, decide_true, decide_false, decide_eq_true_eq, decide_eq_false_iff_not, ne_eq, not_true_eq_false, not_false_eq_true, Bool.not_eq_true', Bool.not_eq_false', beq_self_eq_true, Bool.not_true, Bool.not_false, List.getElem?_toArray, List.getElem?_cons_zero, List.getElem?_cons_succ]
  · refine (h1 B V L q sl _ hb (by omega) l).mono ?_
    rintro _ V ⟨s1, rfl, hz1, l⟩
    simp (disch := omega) only [↓stq, amv_at, vls, inf, frs, mark_eq, ↓reduceIte, Nat.reduceEqDiff, ite_tt, ite_ff, eq_self, and_true, true_and, and_self, implies_true, Bool.true_eq_false, Bool.false_eq_true, decide_true, decide_false, decide_eq_true_eq, decide_eq_false_iff_not, ne_eq, not_true_eq_false, not_false_eq_true, Bool.not_eq_true', Bool.not_eq_false', beq_self_eq_true, Bool.not_true, Bool.not_false, List.getElem?_toArray, List.getElem?_cons_zero, List.getElem?_cons_succ]
    rw [abin_cat _ _ _ (by show s1.size + 4 ≤ _; omega)]
    have ha := app_size s1 ⟨#[32, 111, 114, 32]⟩ 4 rfl
    generalize s1 ++ (⟨#[32, 111, 114, 32]⟩ : ByteArray) = s3 at ha ⊢
    simp (disch := omega) only [↓stq, amv_at, vls, inf, frs, mark_eq, ↓reduceIte, Nat.reduceEqDiff, ite_tt, ite_ff, eq_self, and_true, true_and, and_self, implies_true, Bool.true_eq_false, Bool.false_eq_true, decide_true, decide_false, decide_eq_true_eq, decide_eq_false_iff_not, ne_eq, not_true_eq_false, not_false_eq_true, Bool.not_eq_true', Bool.not_eq_false', beq_self_eq_true, Bool.not_true, Bool.not_false, List.getElem?_toArray, List.getElem?_cons_zero, List.getElem?_cons_succ]
    refine (h2 B V L q sl _ hb (by omega) l).mono ?_
    rintro _ V ⟨s, rfl, hz, l⟩
    simp (disch := omega) only [↓stq, amv_at, vls, inf, frs, mark_eq, ↓reduceIte, Nat.reduceEqDiff, ite_tt, ite_ff, eq_self, and_true, true_and, and_self, implies_true, Bool.true_eq_false, Bool.false_eq_true, decide_true, decide_false, decide_eq_true_eq, decide_eq_false_iff_not, ne_eq, not_true_eq_false, not_false_eq_true, Bool.not_eq_true', Bool.not_eq_false', beq_self_eq_true, Bool.not_true, Bool.not_false, List.getElem?_toArray, List.getElem?_cons_zero, List.getElem?_cons_succ]
    exact ⟨_, rfl, by rw [ByteArray.size_append]; omega, rdr_more l (by omega)⟩
  · refine (h1 B V L q sl _ hb (by omega) l).mono ?_
    rintro _ V ⟨s1, rfl, hz1, l⟩
    simp (disch := omega) only [↓stq, amv_at, vls, inf, frs, mark_eq, ↓reduceIte, Nat.reduceEqDiff, ite_tt, ite_ff, eq_self, and_true, true_and, and_self, implies_true, Bool.true_eq_false, Bool.false_eq_true, decide_true, decide_false, decide_eq_true_eq, decide_eq_false_iff_not, ne_eq, not_true_eq_false, not_false_eq_true, Bool.not_eq_true', Bool.not_eq_false', beq_self_eq_true, Bool.not_true, Bool.not_false, List.getElem?_toArray, List.getElem?_cons_zero, List.getElem?_cons_succ]
    rw [abin_cat _ _ _ (by show 1 + s1.size ≤ _; omega)]
    have ha := app_size2 s1 ⟨#[40]⟩ 1 rfl
    generalize (⟨#[40]⟩ : ByteArray) ++ s1 = s3 at ha ⊢
    simp (disch := omega) only [↓stq, amv_at, vls, inf, frs, mark_eq, ↓reduceIte, Nat.reduceEqDiff, ite_tt, ite_ff, eq_self, and_true, true_and, and_self, implies_true, Bool.true_eq_false, Bool.false_eq_true, decide_true, decide_false, decide_eq_true_eq, decide_eq_false_iff_not, ne_eq, not_true_eq_false, not_false_eq_true, Bool.not_eq_true', Bool.not_eq_false', beq_self_eq_true, Bool.not_true, Bool.not_false, List.getElem?_toArray, List.getElem?_cons_zero, List.getElem?_cons_succ]
    rw [abin_cat _ _ _ (by show s3.size + 1 ≤ _; omega)]
    have hb2 := app_size s3 ⟨#[41]⟩ 1 rfl
    generalize s3 ++ (⟨#[41]⟩ : ByteArray) = s4 at hb2 ⊢
    simp (disch := omega) only [↓stq, amv_at, vls, inf, frs, mark_eq, ↓reduceIte, Nat.reduceEqDiff, ite_tt, ite_ff, eq_self, and_true, true_and, and_self, implies_true, Bool.true_eq_false, Bool.false_eq_true, decide_true, decide_false, decide_eq_true_eq, decide_eq_false_iff_not, ne_eq, not_true_eq_false, not_false_eq_true, Bool.not_eq_true', Bool.not_eq_false', beq_self_eq_true, Bool.not_true, Bool.not_false, List.getElem?_toArray, List.getElem?_cons_zero, List.getElem?_cons_succ]
    exact ⟨_, rfl, by omega, rdr_more l (by omega)⟩

theorem anExpr0_c : AnE 0 920 13 := by
  have h4 : AnE 4 100 1 := anExpr_deep 4 (by omega)
  have h3 : AnE 3 100 1 := anExpr_deep 3 (by omega)
  have h2 : AnE 2 305 4 := anExpr_step 2 100 100 1 1 (by omega) (by omega) h3 h4
  have h1 : AnE 1 510 7 := anExpr_step 1 305 100 4 1 (by omega) (by omega) h2 h3
  exact anExpr_step 0 510 305 7 4 (by omega) (by omega) h1 h2

theorem mutate_c (B A : View) (L : List It) (q : Nat) (sl : Value) (N : Nat) (s : ByteArray) (hs : s.size ≤ 10000) (hb : Bts B sl) (hN : N ≤ 900000000) (l : Led B (rdr q sl N :: L) A) : ACalls Try.prog 95 #[.pointer (some ⟨q, 0, none⟩), .string s] A fun r V => ∃ t : ByteArray, r = .string t ∧ t.size ≤ 2 * s.size + 100 ∧ Led B (rdr q sl (N + 3) :: L) V := by
  refine acalls Try.func95 rfl (by kernel_rfl) ?_
  simp (disch := omega) only [↓stq, amv_at, vls, inf, frs, mark_eq, ↓reduceIte, Nat.reduceEqDiff, ite_tt, ite_ff, eq_self, and_true, true_and, and_self, implies_true, Bool.true_eq_false, Bool.false_eq_true, decide_true, decide_false, decide_eq_true_eq, decide_eq_false_iff_not, ne_eq, not_true_eq_false, not_false_eq_true, Bool.not_eq_true', Bool.not_eq_false', beq_self_eq_true, Bool.not_true, Bool.not_false, List.getElem?_toArray, List.getElem?_cons_zero, List.getElem?_cons_succ]
  refine (pick_c B A L q sl N _ hb (by omega) ⟨by omega, by omega⟩ l).mono ?_
  rintro _ V ⟨k, rfl, hk0, hk1, l⟩
  obtain ⟨k, rfl⟩ := Int.eq_ofNat_of_zero_le hk0
  have hk : k ≤ s.size := by omega
  simp (disch := omega) only [↓stq, amv_at, vls, inf, frs, mark_eq, ↓reduceIte, Nat.reduceEqDiff, ite_tt, ite_ff, eq_self, and_true, true_and, and_self, implies_true, Bool.true_eq_false, Bool.false_eq_true, decide_true, decide_false, decide_eq_true_eq, decide_eq_false_iff_not, ne_eq, not_true_eq_false, not_false_eq_true, Bool.not_eq_true', Bool.not_eq_false', beq_self_eq_true, Bool.not_true, Bool.not_false, List.getElem?_toArray, List.getElem?_cons_zero, List.getElem?_cons_succ]
  refine (pick_c B V L q sl _ 5 hb (by omega) ⟨by omega, by omega⟩ l).mono ?_
  rintro _ V ⟨u, rfl, _, _, l⟩
  simp (disch := omega) only [↓stq, amv_at, vls, inf, frs, mark_eq, ↓reduceIte, Nat.reduceEqDiff, ite_tt, ite_ff, eq_self, and_true, true_and, and_self, implies_true, Bool.true_eq_false, Bool.false_eq_true, decide_true, decide_false, decide_eq_true_eq, decide_eq_false_iff_not, ne_eq, not_true_eq_false, not_false_eq_true, Bool.not_eq_true', Bool.not_eq_false', beq_self_eq_true, Bool.not_true, Bool.not_false, List.getElem?_toArray, List.getElem?_cons_zero, List.getElem?_cons_succ]
  refine ⟨fun e1 => ?_, fun e1 => ?_⟩ <;> simp (disch := omega) only [↓stq, amv_at, vls, inf, frs, mark_eq, ↓reduceIte, Nat.reduceEqDiff, ite_tt, ite_ff, eq_self, and_true, true_and, and_self, implies_true, Bool.true_eq_false, Bool.false_eq_true, decide_true, decide_false, decide_eq_true_eq, decide_eq_false_iff_not, ne_eq, not_true_eq_false, not_false_eq_true, Bool.not_eq_true', Bool.not_eq_false', beq_self_eq_true, Bool.not_true, Bool.not_false, List.getElem?_toArray, List.getElem?_cons_zero, List.getElem?_cons_succ, e1]
  · skip
    refine ⟨fun e9 => ?_, fun e9 => ?_⟩ <;> simp (disch := omega) only [↓stq, amv_at, vls, inf, frs, mark_eq, ↓reduceIte, Nat.reduceEqDiff, ite_tt, ite_ff, eq_self, and_true, true_and, and_self, implies_true, Bool.true_eq_false, Bool.false_eq_true, decide_true, decide_false, decide_eq_true_eq, decide_eq_false_iff_not, ne_eq, not_true_eq_false, not_false_eq_true, Bool.not_eq_true', Bool.not_eq_false', beq_self_eq_true, Bool.not_true, Bool.not_false, List.getElem?_toArray, List.getElem?_cons_zero, List.getElem?_cons_succ, e1]
    · have hx1 : (s.extract 0 k).size ≤ s.size := by rw [ByteArray.size_extract]; omega
      refine adraw_items [.q 0, .q 1, .q 2, .q 3, .q 7, .q 8, .q 9, .q 10, .c 4 [], .c 5 [], .q 6, .q 11, .q 12] (by kernel_rfl) (by kernel_rfl) ?_
      simp (disch := omega) only [↓stq, amv_at, ↓pln, plv, nilOk, Nat.reduceBEq, Bool.or_false, Bool.or_true, Bool.false_or, Bool.true_or, vls, inf, frs, mark_eq, ↓reduceIte, Nat.reduceEqDiff, ite_tt, ite_ff, eq_self, and_true, true_and, and_self, implies_true, Bool.true_eq_false, Bool.false_eq_true, decide_true, decide_false, decide_eq_true_eq, decide_eq_false_iff_not, ne_eq, not_true_eq_false, not_false_eq_true, Bool.not_eq_true', Bool.not_eq_false', beq_self_eq_true, Bool.not_true, Bool.not_false, List.getElem?_toArray, List.getElem?_cons_zero, List.getElem?_cons_succ]
      refine led_lit li25 (by omega) rfl (by simp [Value.cells, Value.oneCell']) l fun bl V _ l => ?_
      simp (disch := omega) only [↓stq, amv_at, ↓pln, plv, nilOk, Nat.reduceBEq, Bool.or_false, Bool.or_true, Bool.false_or, Bool.true_or, vls, inf, frs, mark_eq, ↓reduceIte, Nat.reduceEqDiff, ite_tt, ite_ff, eq_self, and_true, true_and, and_self, implies_true, Bool.true_eq_false, Bool.false_eq_true, decide_true, decide_false, decide_eq_true_eq, decide_eq_false_iff_not, ne_eq, not_true_eq_false, not_false_eq_true, Bool.not_eq_true', Bool.not_eq_false', beq_self_eq_true, Bool.not_true, Bool.not_false, List.getElem?_toArray, List.getElem?_cons_zero, List.getElem?_cons_succ, false_implies]
      refine (ofLit_c (n := 9) (c := 9) (xs := [_, _, _, _, _, _, _, _, _]) B V L q sl _ hb (by omega) rfl rfl (by omega) (by decide) (by omega) (by omega) l).mono ?_
      rintro _ V ⟨w, rfl, hw, l⟩
      have hz : w.size ≤ 100 := by revert w; decide
      simp (disch := omega) only [↓stq, amv_at, ↓pln, plv, nilOk, Nat.reduceBEq, Bool.or_false, Bool.or_true, Bool.false_or, Bool.true_or, vls, inf, frs, mark_eq, ↓reduceIte, Nat.reduceEqDiff, ite_tt, ite_ff, eq_self, and_true, true_and, and_self, implies_true, Bool.true_eq_false, Bool.false_eq_true, decide_true, decide_false, decide_eq_true_eq, decide_eq_false_iff_not, ne_eq, not_true_eq_false, not_false_eq_true, Bool.not_eq_true', Bool.not_eq_false', beq_self_eq_true, Bool.not_true, Bool.not_false, List.getElem?_toArray, List.getElem?_cons_zero, List.getElem?_cons_succ, false_implies]
      have hcat : ((s.extract 0 k) ++ w).size ≤ 10200 := by rw [ByteArray.size_append]; omega
      have hx2 : (s.extract (k + 1) s.size).size ≤ s.size := by rw [ByteArray.size_extract]; omega
      have hk1 : (k : Int) + 1 = ((k + 1 : Nat) : Int) := by omega
      simp (disch := omega) only [↓stq, amv_at, ↓pln, plv, nilOk, Nat.reduceBEq, Bool.or_false, Bool.or_true, Bool.false_or, Bool.true_or, vls, inf, frs, mark_eq, ↓reduceIte, Nat.reduceEqDiff, ite_tt, ite_ff, eq_self, and_true, true_and, and_self, implies_true, Bool.true_eq_false, Bool.false_eq_true, decide_true, decide_false, decide_eq_true_eq, decide_eq_false_iff_not, ne_eq, not_true_eq_false, not_false_eq_true, Bool.not_eq_true', Bool.not_eq_false', beq_self_eq_true, Bool.not_true, Bool.not_false, List.getElem?_toArray, List.getElem?_cons_zero, List.getElem?_cons_succ, false_implies, hk1]
      exact ⟨_, rfl, by rw [ByteArray.size_append, ByteArray.size_append]; omega, rdr_more l (by omega)⟩
    · exact ⟨s, rfl, by omega, rdr_more l (by omega)⟩
  refine ⟨fun e2 => ?_, fun e2 => ?_⟩ <;> simp (disch := omega) only [↓stq, amv_at, vls, inf, frs, mark_eq, ↓reduceIte, Nat.reduceEqDiff, ite_tt, ite_ff, eq_self, and_true, true_and, and_self, implies_true, Bool.true_eq_false, Bool.false_eq_true, decide_true, decide_false, decide_eq_true_eq, decide_eq_false_iff_not, ne_eq, not_true_eq_false, not_false_eq_true, Bool.not_eq_true', Bool.not_eq_false', beq_self_eq_true, Bool.not_true, Bool.not_false, List.getElem?_toArray, List.getElem?_cons_zero, List.getElem?_cons_succ, e2]
  · skip
    refine ⟨fun e9 => ?_, fun e9 => ?_⟩ <;> simp (disch := omega) only [↓stq, amv_at, vls, inf, frs, mark_eq, ↓reduceIte, Nat.reduceEqDiff, ite_tt, ite_ff, eq_self, and_true, true_and, and_self, implies_true, Bool.true_eq_false, Bool.false_eq_true, decide_true, decide_false, decide_eq_true_eq, decide_eq_false_iff_not, ne_eq, not_true_eq_false, not_false_eq_true, Bool.not_eq_true', Bool.not_eq_false', beq_self_eq_true, Bool.not_true, Bool.not_false, List.getElem?_toArray, List.getElem?_cons_zero, List.getElem?_cons_succ, e2]
    · have hx1 : (s.extract 0 k).size ≤ s.size := by rw [ByteArray.size_extract]; omega
      refine adraw_items [.q 0, .q 1, .q 2, .q 3, .q 7, .q 8, .q 9, .q 10, .c 4 [], .c 5 [], .q 6, .q 11, .q 12] (by kernel_rfl) (by kernel_rfl) ?_
      simp (disch := omega) only [↓stq, amv_at, ↓pln, plv, nilOk, Nat.reduceBEq, Bool.or_false, Bool.or_true, Bool.false_or, Bool.true_or, vls, inf, frs, mark_eq, ↓reduceIte, Nat.reduceEqDiff, ite_tt, ite_ff, eq_self, and_true, true_and, and_self, implies_true, Bool.true_eq_false, Bool.false_eq_true, decide_true, decide_false, decide_eq_true_eq, decide_eq_false_iff_not, ne_eq, not_true_eq_false, not_false_eq_true, Bool.not_eq_true', Bool.not_eq_false', beq_self_eq_true, Bool.not_true, Bool.not_false, List.getElem?_toArray, List.getElem?_cons_zero, List.getElem?_cons_succ]
      refine led_lit li25 (by omega) rfl (by simp [Value.cells, Value.oneCell']) l fun bl V _ l => ?_
      simp (disch := omega) only [↓stq, amv_at, ↓pln, plv, nilOk, Nat.reduceBEq, Bool.or_false, Bool.or_true, Bool.false_or, Bool.true_or, vls, inf, frs, mark_eq, ↓reduceIte, Nat.reduceEqDiff, ite_tt, ite_ff, eq_self, and_true, true_and, and_self, implies_true, Bool.true_eq_false, Bool.false_eq_true, decide_true, decide_false, decide_eq_true_eq, decide_eq_false_iff_not, ne_eq, not_true_eq_false, not_false_eq_true, Bool.not_eq_true', Bool.not_eq_false', beq_self_eq_true, Bool.not_true, Bool.not_false, List.getElem?_toArray, List.getElem?_cons_zero, List.getElem?_cons_succ, false_implies]
      refine (ofLit_c (n := 9) (c := 9) (xs := [_, _, _, _, _, _, _, _, _]) B V L q sl _ hb (by omega) rfl rfl (by omega) (by decide) (by omega) (by omega) l).mono ?_
      rintro _ V ⟨w, rfl, hw, l⟩
      have hz : w.size ≤ 100 := by revert w; decide
      simp (disch := omega) only [↓stq, amv_at, ↓pln, plv, nilOk, Nat.reduceBEq, Bool.or_false, Bool.or_true, Bool.false_or, Bool.true_or, vls, inf, frs, mark_eq, ↓reduceIte, Nat.reduceEqDiff, ite_tt, ite_ff, eq_self, and_true, true_and, and_self, implies_true, Bool.true_eq_false, Bool.false_eq_true, decide_true, decide_false, decide_eq_true_eq, decide_eq_false_iff_not, ne_eq, not_true_eq_false, not_false_eq_true, Bool.not_eq_true', Bool.not_eq_false', beq_self_eq_true, Bool.not_true, Bool.not_false, List.getElem?_toArray, List.getElem?_cons_zero, List.getElem?_cons_succ, false_implies]
      have hcat : ((s.extract 0 k) ++ w).size ≤ 10200 := by rw [ByteArray.size_append]; omega
      have hx2 : (s.extract (k + 1) s.size).size ≤ s.size := by rw [ByteArray.size_extract]; omega
      have hk1 : (k : Int) + 1 = ((k + 1 : Nat) : Int) := by omega
      simp (disch := omega) only [↓stq, amv_at, ↓pln, plv, nilOk, Nat.reduceBEq, Bool.or_false, Bool.or_true, Bool.false_or, Bool.true_or, vls, inf, frs, mark_eq, ↓reduceIte, Nat.reduceEqDiff, ite_tt, ite_ff, eq_self, and_true, true_and, and_self, implies_true, Bool.true_eq_false, Bool.false_eq_true, decide_true, decide_false, decide_eq_true_eq, decide_eq_false_iff_not, ne_eq, not_true_eq_false, not_false_eq_true, Bool.not_eq_true', Bool.not_eq_false', beq_self_eq_true, Bool.not_true, Bool.not_false, List.getElem?_toArray, List.getElem?_cons_zero, List.getElem?_cons_succ, false_implies, hk1]
      exact ⟨_, rfl, by rw [ByteArray.size_append, ByteArray.size_append]; omega, rdr_more l (by omega)⟩
    · exact ⟨s, rfl, by omega, rdr_more l (by omega)⟩
  refine ⟨fun e3 => ?_, fun e3 => ?_⟩ <;> simp (disch := omega) only [↓stq, amv_at, vls, inf, frs, mark_eq, ↓reduceIte, Nat.reduceEqDiff, ite_tt, ite_ff, eq_self, and_true, true_and, and_self, implies_true, Bool.true_eq_false, Bool.false_eq_true, decide_true, decide_false, decide_eq_true_eq, decide_eq_false_iff_not, ne_eq, not_true_eq_false, not_false_eq_true, Bool.not_eq_true', Bool.not_eq_false', beq_self_eq_true, Bool.not_true, Bool.not_false, List.getElem?_toArray, List.getElem?_cons_zero, List.getElem?_cons_succ]
  · exact ⟨_, rfl, by rw [ByteArray.size_extract]; omega, rdr_more l (by omega)⟩
  refine ⟨fun e4 => ?_, fun e4 => ?_⟩ <;> simp (disch := omega) only [↓stq, amv_at, vls, inf, frs, mark_eq, ↓reduceIte, Nat.reduceEqDiff, ite_tt, ite_ff, eq_self, and_true, true_and, and_self, implies_true, Bool.true_eq_false, Bool.false_eq_true, decide_true, decide_false, decide_eq_true_eq, decide_eq_false_iff_not, ne_eq, not_true_eq_false, not_false_eq_true, Bool.not_eq_true', Bool.not_eq_false', beq_self_eq_true, Bool.not_true, Bool.not_false, List.getElem?_toArray, List.getElem?_cons_zero, List.getElem?_cons_succ]
  · refine led_lit li25 (by omega) rfl (by simp [Value.cells, Value.oneCell']) l fun bl V _ l => ?_
    simp (disch := omega) only [↓stq, amv_at, vls, inf, frs, mark_eq, ↓reduceIte, Nat.reduceEqDiff, ite_tt, ite_ff, eq_self, and_true, true_and, and_self, implies_true, Bool.true_eq_false, Bool.false_eq_true, decide_true, decide_false, decide_eq_true_eq, decide_eq_false_iff_not, ne_eq, not_true_eq_false, not_false_eq_true, Bool.not_eq_true', Bool.not_eq_false', beq_self_eq_true, Bool.not_true, Bool.not_false, List.getElem?_toArray, List.getElem?_cons_zero, List.getElem?_cons_succ]
    refine (ofLit_c (n := 4) (c := 4) (xs := [_, _, _, _]) B V L q sl _ hb (by omega) rfl rfl (by omega) (by decide) (by omega) (by omega) l).mono ?_
    rintro _ V ⟨w, rfl, hw, l⟩
    have hz : w.size ≤ 100 := by revert w; decide
    simp (disch := omega) only [↓stq, amv_at, vls, inf, frs, mark_eq, ↓reduceIte, Nat.reduceEqDiff, ite_tt, ite_ff, eq_self, and_true, true_and, and_self, implies_true, Bool.true_eq_false, Bool.false_eq_true, decide_true, decide_false, decide_eq_true_eq, decide_eq_false_iff_not, ne_eq, not_true_eq_false, not_false_eq_true, Bool.not_eq_true', Bool.not_eq_false', beq_self_eq_true, Bool.not_true, Bool.not_false, List.getElem?_toArray, List.getElem?_cons_zero, List.getElem?_cons_succ]
    exact ⟨_, rfl, by rw [ByteArray.size_append]; omega, rdr_more l (by omega)⟩
  · exact ⟨s, rfl, by omega, rdr_more l (by omega)⟩

theorem someExpr_c (B A : View) (L : List It) (q : Nat) (sl : Value) (N : Nat) (hb : Bts B sl) (hN : N ≤ 800000000) (l : Led B (rdr q sl N :: L) A) : ACalls Try.prog 61 #[.pointer (some ⟨q, 0, none⟩)] A fun r V => ∃ t : ByteArray, r = .string t ∧ t.size ≤ 2000 ∧ Led B (rdr q sl (N + 20) :: L) V := by
  refine acalls Try.func61 rfl (by kernel_rfl) ?_
  simp (disch := omega) only [↓stq, amv_at, vls, inf, frs, mark_eq, ↓reduceIte, Nat.reduceEqDiff, ite_tt, ite_ff, eq_self, and_true, true_and, and_self, implies_true, Bool.true_eq_false, Bool.false_eq_true, decide_true, decide_false, decide_eq_true_eq, decide_eq_false_iff_not, ne_eq, not_true_eq_false, not_false_eq_true, Bool.not_eq_true', Bool.not_eq_false', beq_self_eq_true, Bool.not_true, Bool.not_false, List.getElem?_toArray, List.getElem?_cons_zero, List.getElem?_cons_succ]
  refine (anExpr0_c B A L q sl N hb (by omega) l).mono ?_
  rintro _ V ⟨s, rfl, hs, l⟩
  simp (disch := omega) only [↓stq, amv_at, vls, inf, frs, mark_eq, ↓reduceIte, Nat.reduceEqDiff, ite_tt, ite_ff, eq_self, and_true, true_and, and_self, implies_true, Bool.true_eq_false, Bool.false_eq_true, decide_true, decide_false, decide_eq_true_eq, decide_eq_false_iff_not, ne_eq, not_true_eq_false, not_false_eq_true, Bool.not_eq_true', Bool.not_eq_false', beq_self_eq_true, Bool.not_true, Bool.not_false, List.getElem?_toArray, List.getElem?_cons_zero, List.getElem?_cons_succ]
  refine (pick_c B V L q sl _ 8 hb (by omega) ⟨by omega, by omega⟩ l).mono ?_
  rintro _ V ⟨u, rfl, _, _, l⟩
  simp (disch := omega) only [↓stq, amv_at, vls, inf, frs, mark_eq, ↓reduceIte, Nat.reduceEqDiff, ite_tt, ite_ff, eq_self, and_true, true_and, and_self, implies_true, Bool.true_eq_false, Bool.false_eq_true, decide_true, decide_false, decide_eq_true_eq, decide_eq_false_iff_not, ne_eq, not_true_eq_false, not_false_eq_true, Bool.not_eq_true', Bool.not_eq_false', beq_self_eq_true, Bool.not_true, Bool.not_false, List.getElem?_toArray, List.getElem?_cons_zero, List.getElem?_cons_succ]
  refine ⟨fun e1 => ?_, fun e1 => ?_⟩ <;> simp (disch := omega) only [↓stq, amv_at, vls, inf, frs, mark_eq, ↓reduceIte, Nat.reduceEqDiff, ite_tt, ite_ff, eq_self, and_true, true_and, and_self, implies_true, Bool.true_eq_false, Bool.false_eq_true, decide_true, decide_false, decide_eq_true_eq, decide_eq_false_iff_not, ne_eq, not_true_eq_false, not_false_eq_true, Bool.not_eq_true', Bool.not_eq_false', beq_self_eq_true, Bool.not_true, Bool.not_false, List.getElem?_toArray, List.getElem?_cons_zero, List.getElem?_cons_succ]
  · refine (mutate_c B V L q sl _ s (by omega) hb (by omega) l).mono ?_
    rintro _ V ⟨t, rfl, ht, l⟩
    simp (disch := omega) only [↓stq, amv_at, vls, inf, frs, mark_eq, ↓reduceIte, Nat.reduceEqDiff, ite_tt, ite_ff, eq_self, and_true, true_and, and_self, implies_true, Bool.true_eq_false, Bool.false_eq_true, decide_true, decide_false, decide_eq_true_eq, decide_eq_false_iff_not, ne_eq, not_true_eq_false, not_false_eq_true, Bool.not_eq_true', Bool.not_eq_false', beq_self_eq_true, Bool.not_true, Bool.not_false, List.getElem?_toArray, List.getElem?_cons_zero, List.getElem?_cons_succ]
    exact ⟨t, rfl, by omega, rdr_more l (by omega)⟩
  · exact ⟨s, rfl, by omega, rdr_more l (by omega)⟩

theorem DrawIdsOf_c (A : View) (v : Value) (bs : List UInt8) (h : Sl byteS A v bs) : ACalls Try.prog 13 #[v] A fun r V => ∃ ts : List TestD, ts.length ≤ 11 ∧ (∀ t, t ∈ ts → genT t) ∧ Sl testS V r ts ∧ Ext A V := by
  obtain ⟨a, c, rfl, _, _⟩ := h.slice
  refine acalls Try.func13 rfl (by kernel_rfl) ?_
  simp (disch := omega) only [↓stq, amv_at, vls, inf, frs, mark_eq, ↓reduceIte, Nat.reduceEqDiff, ite_tt, ite_ff, eq_self, and_true, true_and, and_self, implies_true, Bool.true_eq_false, Bool.false_eq_true, decide_true, decide_false, decide_eq_true_eq, decide_eq_false_iff_not, ne_eq, not_true_eq_false, not_false_eq_true, Bool.not_eq_true', Bool.not_eq_false', beq_self_eq_true, Bool.not_true, Bool.not_false, List.getElem?_toArray, List.getElem?_cons_zero, List.getElem?_cons_succ]
  refine (newReader_c A A _ bs h).mono ?_
  rintro _ V ⟨q, sl, rfl, hb, l⟩
  simp (disch := omega) only [↓stq, amv_at, vls, inf, frs, mark_eq, ↓reduceIte, Nat.reduceEqDiff, ite_tt, ite_ff, eq_self, and_true, true_and, and_self, implies_true, Bool.true_eq_false, Bool.false_eq_true, decide_true, decide_false, decide_eq_true_eq, decide_eq_false_iff_not, ne_eq, not_true_eq_false, not_false_eq_true, Bool.not_eq_true', Bool.not_eq_false', beq_self_eq_true, Bool.not_true, Bool.not_false, List.getElem?_toArray, List.getElem?_cons_zero, List.getElem?_cons_succ]
  refine (someTests_c A V [] q sl 0 hb (by omega) l).mono ?_
  rintro w V ⟨ft, ts, ht1, ht2, l⟩
  simp (disch := omega) only [↓stq, amv_at, vls, inf, frs, mark_eq, ↓reduceIte, Nat.reduceEqDiff, ite_tt, ite_ff, eq_self, and_true, true_and, and_self, implies_true, Bool.true_eq_false, Bool.false_eq_true, decide_true, decide_false, decide_eq_true_eq, decide_eq_false_iff_not, ne_eq, not_true_eq_false, not_false_eq_true, Bool.not_eq_true', Bool.not_eq_false', beq_self_eq_true, Bool.not_true, Bool.not_false, List.getElem?_toArray, List.getElem?_cons_zero, List.getElem?_cons_succ]
  exact ⟨ts, ht1, ht2, rdl_sl (l.at (i := 0) rfl), l.ext⟩

theorem DrawGroupModules_c (A : View) (v : Value) (bs : List UInt8) (h : Sl byteS A v bs) : ACalls Try.prog 22 #[v] A fun r V => ∃ ts : List TestD, ts.length ≤ 11 ∧ (∀ t, t ∈ ts → genT t) ∧ Sl testS V r ts ∧ Ext A V := by
  obtain ⟨a, c, rfl, _, _⟩ := h.slice
  refine acalls Try.func22 rfl (by kernel_rfl) ?_
  simp (disch := omega) only [↓stq, amv_at, vls, inf, frs, mark_eq, ↓reduceIte, Nat.reduceEqDiff, ite_tt, ite_ff, eq_self, and_true, true_and, and_self, implies_true, Bool.true_eq_false, Bool.false_eq_true, decide_true, decide_false, decide_eq_true_eq, decide_eq_false_iff_not, ne_eq, not_true_eq_false, not_false_eq_true, Bool.not_eq_true', Bool.not_eq_false', beq_self_eq_true, Bool.not_true, Bool.not_false, List.getElem?_toArray, List.getElem?_cons_zero, List.getElem?_cons_succ]
  refine (newReader_c A A _ bs h).mono ?_
  rintro _ V ⟨q, sl, rfl, hb, l⟩
  simp (disch := omega) only [↓stq, amv_at, vls, inf, frs, mark_eq, ↓reduceIte, Nat.reduceEqDiff, ite_tt, ite_ff, eq_self, and_true, true_and, and_self, implies_true, Bool.true_eq_false, Bool.false_eq_true, decide_true, decide_false, decide_eq_true_eq, decide_eq_false_iff_not, ne_eq, not_true_eq_false, not_false_eq_true, Bool.not_eq_true', Bool.not_eq_false', beq_self_eq_true, Bool.not_true, Bool.not_false, List.getElem?_toArray, List.getElem?_cons_zero, List.getElem?_cons_succ]
  refine (someTests_c A V [] q sl 0 hb (by omega) l).mono ?_
  rintro w V ⟨ft, ts, ht1, ht2, l⟩
  simp (disch := omega) only [↓stq, amv_at, vls, inf, frs, mark_eq, ↓reduceIte, Nat.reduceEqDiff, ite_tt, ite_ff, eq_self, and_true, true_and, and_self, implies_true, Bool.true_eq_false, Bool.false_eq_true, decide_true, decide_false, decide_eq_true_eq, decide_eq_false_iff_not, ne_eq, not_true_eq_false, not_false_eq_true, Bool.not_eq_true', Bool.not_eq_false', beq_self_eq_true, Bool.not_true, Bool.not_false, List.getElem?_toArray, List.getElem?_cons_zero, List.getElem?_cons_succ]
  exact ⟨ts, ht1, ht2, rdl_sl (l.at (i := 0) rfl), l.ext⟩

theorem DrawSortTests_c (A : View) (v : Value) (bs : List UInt8) (h : Sl byteS A v bs) : ACalls Try.prog 46 #[v] A fun r V => ∃ ts : List TestD, ts.length ≤ 11 ∧ (∀ t, t ∈ ts → genT t) ∧ Sl testS V r ts ∧ Ext A V := by
  obtain ⟨a, c, rfl, _, _⟩ := h.slice
  refine acalls Try.func46 rfl (by kernel_rfl) ?_
  simp (disch := omega) only [↓stq, amv_at, vls, inf, frs, mark_eq, ↓reduceIte, Nat.reduceEqDiff, ite_tt, ite_ff, eq_self, and_true, true_and, and_self, implies_true, Bool.true_eq_false, Bool.false_eq_true, decide_true, decide_false, decide_eq_true_eq, decide_eq_false_iff_not, ne_eq, not_true_eq_false, not_false_eq_true, Bool.not_eq_true', Bool.not_eq_false', beq_self_eq_true, Bool.not_true, Bool.not_false, List.getElem?_toArray, List.getElem?_cons_zero, List.getElem?_cons_succ]
  refine (newReader_c A A _ bs h).mono ?_
  rintro _ V ⟨q, sl, rfl, hb, l⟩
  simp (disch := omega) only [↓stq, amv_at, vls, inf, frs, mark_eq, ↓reduceIte, Nat.reduceEqDiff, ite_tt, ite_ff, eq_self, and_true, true_and, and_self, implies_true, Bool.true_eq_false, Bool.false_eq_true, decide_true, decide_false, decide_eq_true_eq, decide_eq_false_iff_not, ne_eq, not_true_eq_false, not_false_eq_true, Bool.not_eq_true', Bool.not_eq_false', beq_self_eq_true, Bool.not_true, Bool.not_false, List.getElem?_toArray, List.getElem?_cons_zero, List.getElem?_cons_succ]
  refine (someTests_c A V [] q sl 0 hb (by omega) l).mono ?_
  rintro w V ⟨ft, ts, ht1, ht2, l⟩
  simp (disch := omega) only [↓stq, amv_at, vls, inf, frs, mark_eq, ↓reduceIte, Nat.reduceEqDiff, ite_tt, ite_ff, eq_self, and_true, true_and, and_self, implies_true, Bool.true_eq_false, Bool.false_eq_true, decide_true, decide_false, decide_eq_true_eq, decide_eq_false_iff_not, ne_eq, not_true_eq_false, not_false_eq_true, Bool.not_eq_true', Bool.not_eq_false', beq_self_eq_true, Bool.not_true, Bool.not_false, List.getElem?_toArray, List.getElem?_cons_zero, List.getElem?_cons_succ]
  exact ⟨ts, ht1, ht2, rdl_sl (l.at (i := 0) rfl), l.ext⟩

theorem DrawSelectTests_c (A : View) (v : Value) (bs : List UInt8) (h : Sl byteS A v bs) : ACalls Try.prog 44 #[v] A fun r V => ∃ (w : Value) (ts : List TestD) (s : ByteArray), r = .tuple #[w, .string s] ∧ ts.length ≤ 11 ∧ (∀ t, t ∈ ts → genT t) ∧ s.size ≤ 2000 ∧ Sl testS V w ts ∧ Ext A V := by
  obtain ⟨a, c, rfl, _, _⟩ := h.slice
  refine acalls Try.func44 rfl (by kernel_rfl) ?_
  simp (disch := omega) only [↓stq, amv_at, vls, inf, frs, mark_eq, ↓reduceIte, Nat.reduceEqDiff, ite_tt, ite_ff, eq_self, and_true, true_and, and_self, implies_true, Bool.true_eq_false, Bool.false_eq_true, decide_true, decide_false, decide_eq_true_eq, decide_eq_false_iff_not, ne_eq, not_true_eq_false, not_false_eq_true, Bool.not_eq_true', Bool.not_eq_false', beq_self_eq_true, Bool.not_true, Bool.not_false, List.getElem?_toArray, List.getElem?_cons_zero, List.getElem?_cons_succ]
  refine (newReader_c A A _ bs h).mono ?_
  rintro _ V ⟨q, sl, rfl, hb, l⟩
  simp (disch := omega) only [↓stq, amv_at, vls, inf, frs, mark_eq, ↓reduceIte, Nat.reduceEqDiff, ite_tt, ite_ff, eq_self, and_true, true_and, and_self, implies_true, Bool.true_eq_false, Bool.false_eq_true, decide_true, decide_false, decide_eq_true_eq, decide_eq_false_iff_not, ne_eq, not_true_eq_false, not_false_eq_true, Bool.not_eq_true', Bool.not_eq_false', beq_self_eq_true, Bool.not_true, Bool.not_false, List.getElem?_toArray, List.getElem?_cons_zero, List.getElem?_cons_succ]
  refine (someTests_c A V [] q sl 0 hb (by omega) l).mono ?_
  rintro w V ⟨ft, ts, ht1, ht2, l⟩
  simp (disch := omega) only [↓stq, amv_at, vls, inf, frs, mark_eq, ↓reduceIte, Nat.reduceEqDiff, ite_tt, ite_ff, eq_self, and_true, true_and, and_self, implies_true, Bool.true_eq_false, Bool.false_eq_true, decide_true, decide_false, decide_eq_true_eq, decide_eq_false_iff_not, ne_eq, not_true_eq_false, not_false_eq_true, Bool.not_eq_true', Bool.not_eq_false', beq_self_eq_true, Bool.not_true, Bool.not_false, List.getElem?_toArray, List.getElem?_cons_zero, List.getElem?_cons_succ]
  refine (someExpr_c A V _ q sl _ hb (by omega) (l.perm (List.Perm.swap ..))).mono ?_
  rintro _ V ⟨s, rfl, hs, l⟩
  simp (disch := omega) only [↓stq, amv_at, vls, inf, frs, mark_eq, ↓reduceIte, Nat.reduceEqDiff, ite_tt, ite_ff, eq_self, and_true, true_and, and_self, implies_true, Bool.true_eq_false, Bool.false_eq_true, decide_true, decide_false, decide_eq_true_eq, decide_eq_false_iff_not, ne_eq, not_true_eq_false, not_false_eq_true, Bool.not_eq_true', Bool.not_eq_false', beq_self_eq_true, Bool.not_true, Bool.not_false, List.getElem?_toArray, List.getElem?_cons_zero, List.getElem?_cons_succ]
  exact ⟨w, ts, s, rfl, ht1, ht2, hs, rdl_sl (l.at (i := 1) rfl), l.ext⟩

theorem DrawRejectTests_c (A : View) (v : Value) (bs : List UInt8) (h : Sl byteS A v bs) : ACalls Try.prog 47 #[v] A fun r V => ∃ (w : Value) (ts : List TestD) (s : ByteArray), r = .tuple #[w, .string s] ∧ ts.length ≤ 11 ∧ (∀ t, t ∈ ts → genT t) ∧ s.size ≤ 2000 ∧ Sl testS V w ts ∧ Ext A V := by
  obtain ⟨a, c, rfl, _, _⟩ := h.slice
  refine acalls Try.func47 rfl (by kernel_rfl) ?_
  simp (disch := omega) only [↓stq, amv_at, vls, inf, frs, mark_eq, ↓reduceIte, Nat.reduceEqDiff, ite_tt, ite_ff, eq_self, and_true, true_and, and_self, implies_true, Bool.true_eq_false, Bool.false_eq_true, decide_true, decide_false, decide_eq_true_eq, decide_eq_false_iff_not, ne_eq, not_true_eq_false, not_false_eq_true, Bool.not_eq_true', Bool.not_eq_false', beq_self_eq_true, Bool.not_true, Bool.not_false, List.getElem?_toArray, List.getElem?_cons_zero, List.getElem?_cons_succ]
  refine (DrawSelectTests_c A _ bs h).mono ?_
  rintro _ V ⟨w, ts, s, rfl, h1, h2, h3, h4, h5⟩
  simp (disch := omega) only [↓stq, amv_at, vls, inf, frs, mark_eq, ↓reduceIte, Nat.reduceEqDiff, ite_tt, ite_ff, eq_self, and_true, true_and, and_self, implies_true, Bool.true_eq_false, Bool.false_eq_true, decide_true, decide_false, decide_eq_true_eq, decide_eq_false_iff_not, ne_eq, not_true_eq_false, not_false_eq_true, Bool.not_eq_true', Bool.not_eq_false', beq_self_eq_true, Bool.not_true, Bool.not_false, List.getElem?_toArray, List.getElem?_cons_zero, List.getElem?_cons_succ]
  exact ⟨w, ts, s, rfl, h1, h2, h3, h4, h5⟩

end Go.Proofs.Ytbddklkfekiaeaa

