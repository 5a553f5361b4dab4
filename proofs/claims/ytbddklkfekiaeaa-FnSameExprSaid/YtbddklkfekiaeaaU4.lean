/- Expressions: what the reference reads of them. -/
import Derived.Test.YtbddklkfekiaeaaU3
set_option maxHeartbeats 4000000
set_option synthInstance.maxHeartbeats 400000
set_option synthInstance.maxSize 4096
set_option linter.unusedSimpArgs false
set_option linter.unusedVariables false
namespace Go.Proofs.Ytbddklkfekiaeaa

set_option maxRecDepth 100000

def lvS : Lv → Nat
  | .fac => 124
  | .con => 115
  | .dis => 97

/-- The scanner. -/
def scn (q : Nat) (t : ByteArray) (i : Nat) (m nm : ByteArray) (vm vn : Value) (ok : Bool) : It := bx q ⟨97, [.string t, .int .i64 (i : Int), .string m, .string nm, vm, vn, .bool ok], 7, true⟩

/-- What comes of what is read at a place. -/
def Rd2 (t : ByteArray) (m : ByteArray) (marks : List ByteArray) (i : Nat) (ok b : Bool) : Option (Ex × Bs) → Prop
  | some (e, r) => ok = true ∧ t.data.toList.drop i = r ∧ b = e.ev m marks
  | none => ok = false

def SpecOk (n : Nat) (l : Lv) : Prop := ∀ (B A : View) (L : List It) (q : Nat) (t m nm : ByteArray) (vm vn : Value) (marks : List ByteArray) (i : Nat), t.size ≤ 60 → i ≤ t.size → 3 * (t.size - i) + l.n < n → Sl strS B vm marks →
  Led B (scn q t i m nm vm vn true :: L) A → ACalls Try.prog (lvS l) #[.pointer (some ⟨q, 0, none⟩)] A fun r V => ∃ i' b ok, r = .bool b ∧ i ≤ i' ∧ i' ≤ t.size ∧ Led B (scn q t i' m nm vm vn ok :: L) V ∧ Rd2 t m marks i' ok b (parse n l (t.data.toList.drop i))

theorem pre_le {w : Bs} {t : ByteArray} {i : Nat} (h : w.isPrefixOf (t.data.toList.drop i) = true) (hw : 0 < w.length) : i + w.length ≤ t.size := by
  have := pre_len h
  rw [List.length_drop, toList_len] at this
  omega

theorem spec_factor_step (n : Nat) (ihd : SpecOk n .dis) (ihf : SpecOk n .fac) : SpecOk (n + 1) .fac := by
  intro B A L q t m nm vm vn marks i ht hi hn hm l
  obtain ⟨am, cm, rfl, _, _⟩ := hm.slice
  show ACalls Try.prog 124 #[.pointer (some ⟨q, 0, none⟩)] A fun r V => ∃ i' b ok, r = .bool b ∧ i ≤ i' ∧ i' ≤ t.size ∧ Led B (scn q t i' m nm (.slice am marks.length cm) vn ok :: L) V ∧ Rd2 t m marks i' ok b (facP (parse n .dis) (parse n .fac) (t.data.toList.drop i))
  have hn : 3 * (t.size - i) + 0 < n + 1 := hn
  refine acalls Try.func124 rfl (by kernel_rfl) ?_
  simp (disch := omega) only [↓stq, amv_at, vls, inf, frs, mark_eq, ↓reduceIte, Nat.reduceEqDiff, ite_tt, ite_ff, eq_self, and_true, true_and, and_self, implies_true, Bool.true_eq_false, Bool.false_eq_true, decide_true, decide_false, decide_eq_true_eq, decide_eq_false_iff_not, ne_eq, not_true_eq_false, not_false_eq_true, Bool.not_eq_true', Bool.not_eq_false', beq_self_eq_true, Bool.not_true, Bool.not_false, List.getElem?_toArray, List.getElem?_cons_zero, List.getElem?_cons_succ]
  refine (spec_eat_c B A L q t ⟨#[110, 111, 116, 32]⟩ i _ hi ht (by decide) l).mono ?_
  rintro _ V ⟨rfl, l⟩
  unfold facP
  cases hp1 : notW.isPrefixOf (t.data.toList.drop i) with
  | true =>
    have hle : i + 4 ≤ t.size := pre_le hp1 (by decide)
    replace l : Led B (scn q t (i + 4) m nm (.slice am marks.length cm) vn true :: L) V := by
      have hq : (⟨#[110, 111, 116, 32]⟩ : ByteArray).data.toList.isPrefixOf (t.data.toList.drop i) = true := hp1
      rw [hq] at l
      exact l
    rw [show (⟨#[110, 111, 116, 32]⟩ : ByteArray).data.toList.isPrefixOf (t.data.toList.drop i) = true from hp1, if_pos rfl, List.drop_drop]
    simp (disch := omega) only [↓stq, amv_at, vls, inf, frs, mark_eq, ↓reduceIte, Nat.reduceEqDiff, ite_tt, ite_ff, eq_self, and_true, true_and, and_self, implies_true, Bool.true_eq_false, Bool.false_eq_true, decide_true, decide_false, decide_eq_true_eq, decide_eq_false_iff_not, ne_eq, not_true_eq_false, not_false_eq_true, Bool.not_eq_true', Bool.not_eq_false', beq_self_eq_true, Bool.not_true, Bool.not_false, List.getElem?_toArray, List.getElem?_cons_zero, List.getElem?_cons_succ]
    refine (ihf B V L q t m nm _ vn marks (i + 4) ht hle (by show 3 * _ + 0 < n; omega) hm l).mono ?_
    rintro _ V2 ⟨i', b, ok, rfl, hii', hi', l, hr⟩
    simp (disch := omega) only [↓stq, amv_at, vls, inf, frs, mark_eq, ↓reduceIte, Nat.reduceEqDiff, ite_tt, ite_ff, eq_self, and_true, true_and, and_self, implies_true, Bool.true_eq_false, Bool.false_eq_true, decide_true, decide_false, decide_eq_true_eq, decide_eq_false_iff_not, ne_eq, not_true_eq_false, not_false_eq_true, Bool.not_eq_true', Bool.not_eq_false', beq_self_eq_true, Bool.not_true, Bool.not_false, List.getElem?_toArray, List.getElem?_cons_zero, List.getElem?_cons_succ]
    refine ⟨i', !b, ok, rfl, by omega, hi', l, ?_⟩
    cases hq : parse n .fac (t.data.toList.drop (i + 4)) with
    | none => rw [hq] at hr; exact hr
    | some er => rw [hq] at hr; exact ⟨hr.1, hr.2.1, by rw [hr.2.2]; rfl⟩
  | false =>
    replace l : Led B (scn q t i m nm (.slice am marks.length cm) vn true :: L) V := by
      have hq : (⟨#[110, 111, 116, 32]⟩ : ByteArray).data.toList.isPrefixOf (t.data.toList.drop i) = false := hp1
      rw [hq] at l
      exact l
    rw [show (⟨#[110, 111, 116, 32]⟩ : ByteArray).data.toList.isPrefixOf (t.data.toList.drop i) = false from hp1, if_neg (by decide)]
    simp (disch := omega) only [↓stq, amv_at, vls, inf, frs, mark_eq, ↓reduceIte, Nat.reduceEqDiff, ite_tt, ite_ff, eq_self, and_true, true_and, and_self, implies_true, Bool.true_eq_false, Bool.false_eq_true, decide_true, decide_false, decide_eq_true_eq, decide_eq_false_iff_not, ne_eq, not_true_eq_false, not_false_eq_true, Bool.not_eq_true', Bool.not_eq_false', beq_self_eq_true, Bool.not_true, Bool.not_false, List.getElem?_toArray, List.getElem?_cons_zero, List.getElem?_cons_succ]
    refine (spec_eat_c B V L q t ⟨#[40]⟩ i _ hi ht (by decide) l).mono ?_
    rintro _ V2 ⟨rfl, l⟩
    cases hp2 : openW.isPrefixOf (t.data.toList.drop i) with
    | true =>
      have hle : i + 1 ≤ t.size := pre_le hp2 (by decide)
      replace l : Led B (scn q t (i + 1) m nm (.slice am marks.length cm) vn true :: L) V2 := by
        have hq : (⟨#[40]⟩ : ByteArray).data.toList.isPrefixOf (t.data.toList.drop i) = true := hp2
        rw [hq] at l
        exact l
      rw [show (⟨#[40]⟩ : ByteArray).data.toList.isPrefixOf (t.data.toList.drop i) = true from hp2, if_pos rfl, List.drop_drop]
      simp (disch := omega) only [↓stq, amv_at, vls, inf, frs, mark_eq, ↓reduceIte, Nat.reduceEqDiff, ite_tt, ite_ff, eq_self, and_true, true_and, and_self, implies_true, Bool.true_eq_false, Bool.false_eq_true, decide_true, decide_false, decide_eq_true_eq, decide_eq_false_iff_not, ne_eq, not_true_eq_false, not_false_eq_true, Bool.not_eq_true', Bool.not_eq_false', beq_self_eq_true, Bool.not_true, Bool.not_false, List.getElem?_toArray, List.getElem?_cons_zero, List.getElem?_cons_succ]
      refine (ihd B V2 L q t m nm _ vn marks (i + 1) ht hle (by show 3 * _ + 2 < n; omega) hm l).mono ?_
      rintro _ V3 ⟨i', b, ok, rfl, hii', hi', l, hr⟩
      simp (disch := omega) only [↓stq, amv_at, vls, inf, frs, mark_eq, ↓reduceIte, Nat.reduceEqDiff, ite_tt, ite_ff, eq_self, and_true, true_and, and_self, implies_true, Bool.true_eq_false, Bool.false_eq_true, decide_true, decide_false, decide_eq_true_eq, decide_eq_false_iff_not, ne_eq, not_true_eq_false, not_false_eq_true, Bool.not_eq_true', Bool.not_eq_false', beq_self_eq_true, Bool.not_true, Bool.not_false, List.getElem?_toArray, List.getElem?_cons_zero, List.getElem?_cons_succ]
      refine (spec_eat_c B V3 L q t ⟨#[41]⟩ i' _ hi' ht (by decide) l).mono ?_
      rintro _ V4 ⟨rfl, l⟩
      cases hp3 : closeW.isPrefixOf (t.data.toList.drop i') with
      | true =>
        have hle3 : i' + 1 ≤ t.size := pre_le hp3 (by decide)
        rw [show (⟨#[41]⟩ : ByteArray).data.toList.isPrefixOf (t.data.toList.drop i') = true from hp3] at l ⊢
        replace l : Led B (bx q ⟨97, [.string t, .int .i64 ((i' + 1 : Nat) : Int), .string m, .string nm, .slice am marks.length cm, vn, .bool ok], 7, true⟩ :: L) V4 := l
        have k6 := l.cell (i := 0) rfl (o := 6) rfl rfl
        simp (disch := omega) only [↓stq, amv_at, vls, inf, frs, mark_eq, ↓reduceIte, Nat.reduceEqDiff, ite_tt, ite_ff, eq_self, and_true, true_and, and_self, implies_true, Bool.true_eq_false, Bool.false_eq_true, decide_true, decide_false, decide_eq_true_eq, decide_eq_false_iff_not, ne_eq, not_true_eq_false, not_false_eq_true, Bool.not_eq_true', Bool.not_eq_false', beq_self_eq_true, Bool.not_true, Bool.not_false, List.getElem?_toArray, List.getElem?_cons_zero, List.getElem?_cons_succ, ↓aop_nilV, anilV_ptr, add_at, k6]
        refine led_store l 0 rfl sz4 (by rfl) (by rfl) (by rfl) fun V5 l => ?_
        simp (disch := omega) only [↓stq, amv_at, vls, inf, frs, mark_eq, ↓reduceIte, Nat.reduceEqDiff, ite_tt, ite_ff, eq_self, and_true, true_and, and_self, implies_true, Bool.true_eq_false, Bool.false_eq_true, decide_true, decide_false, decide_eq_true_eq, decide_eq_false_iff_not, ne_eq, not_true_eq_false, not_false_eq_true, Bool.not_eq_true', Bool.not_eq_false', beq_self_eq_true, Bool.not_true, Bool.not_false, List.getElem?_toArray, List.getElem?_cons_zero, List.getElem?_cons_succ]
        refine ⟨i' + 1, b, ok, rfl, by omega, hle3, l, ?_⟩
        cases hq : parse n .dis (t.data.toList.drop (i + 1)) with
        | none => rw [hq] at hr; exact hr
        | some er =>
          rw [hq] at hr
          obtain ⟨e, r⟩ := er
          obtain ⟨rfl, rfl, rfl⟩ := hr
          show Rd2 t m marks (i' + 1) true _ (if closeW.isPrefixOf (t.data.toList.drop i') then some (e, (t.data.toList.drop i').drop 1) else none)
          rw [hp3, if_pos rfl, List.drop_drop]
          exact ⟨rfl, rfl, rfl⟩
      | false =>
        rw [show (⟨#[41]⟩ : ByteArray).data.toList.isPrefixOf (t.data.toList.drop i') = false from hp3] at l ⊢
        replace l : Led B (bx q ⟨97, [.string t, .int .i64 ((i' : Nat) : Int), .string m, .string nm, .slice am marks.length cm, vn, .bool ok], 7, true⟩ :: L) V4 := l
        simp (disch := omega) only [↓stq, amv_at, vls, inf, frs, mark_eq, ↓reduceIte, Nat.reduceEqDiff, ite_tt, ite_ff, eq_self, and_true, true_and, and_self, implies_true, Bool.true_eq_false, Bool.false_eq_true, decide_true, decide_false, decide_eq_true_eq, decide_eq_false_iff_not, ne_eq, not_true_eq_false, not_false_eq_true, Bool.not_eq_true', Bool.not_eq_false', beq_self_eq_true, Bool.not_true, Bool.not_false, List.getElem?_toArray, List.getElem?_cons_zero, List.getElem?_cons_succ, ↓aop_nilV, anilV_ptr, add_at]
        refine led_store l 0 rfl sz4 (by rfl) (by rfl) (by rfl) fun V5 l => ?_
        simp (disch := omega) only [↓stq, amv_at, vls, inf, frs, mark_eq, ↓reduceIte, Nat.reduceEqDiff, ite_tt, ite_ff, eq_self, and_true, true_and, and_self, implies_true, Bool.true_eq_false, Bool.false_eq_true, decide_true, decide_false, decide_eq_true_eq, decide_eq_false_iff_not, ne_eq, not_true_eq_false, not_false_eq_true, Bool.not_eq_true', Bool.not_eq_false', beq_self_eq_true, Bool.not_true, Bool.not_false, List.getElem?_toArray, List.getElem?_cons_zero, List.getElem?_cons_succ]
        refine ⟨i', b, false, rfl, by omega, hi', l, ?_⟩
        cases hq : parse n .dis (t.data.toList.drop (i + 1)) with
        | none => exact rfl
        | some er =>
          rw [hq] at hr
          obtain ⟨e, r⟩ := er
          obtain ⟨rfl, rfl, rfl⟩ := hr
          show Rd2 t m marks i' false _ (if closeW.isPrefixOf (t.data.toList.drop i') then some (e, (t.data.toList.drop i').drop 1) else none)
          rw [hp3, if_neg (by decide)]
          exact rfl
    | false =>
      replace l : Led B (scn q t i m nm (.slice am marks.length cm) vn true :: L) V2 := by
        have hq : (⟨#[40]⟩ : ByteArray).data.toList.isPrefixOf (t.data.toList.drop i) = false := hp2
        rw [hq] at l
        exact l
      rw [show (⟨#[40]⟩ : ByteArray).data.toList.isPrefixOf (t.data.toList.drop i) = false from hp2, if_neg (by decide)]
      unfold atomP
      simp (disch := omega) only [↓stq, amv_at, vls, inf, frs, mark_eq, ↓reduceIte, Nat.reduceEqDiff, ite_tt, ite_ff, eq_self, and_true, true_and, and_self, implies_true, Bool.true_eq_false, Bool.false_eq_true, decide_true, decide_false, decide_eq_true_eq, decide_eq_false_iff_not, ne_eq, not_true_eq_false, not_false_eq_true, Bool.not_eq_true', Bool.not_eq_false', beq_self_eq_true, Bool.not_true, Bool.not_false, List.getElem?_toArray, List.getElem?_cons_zero, List.getElem?_cons_succ]
      refine (spec_eat_c B V2 L q t ⟨#[64]⟩ i _ hi ht (by decide) l).mono ?_
      rintro _ V3 ⟨rfl, l⟩
      cases hp3 : atW.isPrefixOf (t.data.toList.drop i) with
      | true =>
        have hle : i + 1 ≤ t.size := pre_le hp3 (by decide)
        replace l : Led B (scn q t (i + 1) m nm (.slice am marks.length cm) vn true :: L) V3 := by
          have hq : (⟨#[64]⟩ : ByteArray).data.toList.isPrefixOf (t.data.toList.drop i) = true := hp3
          rw [hq] at l
          exact l
        rw [show (⟨#[64]⟩ : ByteArray).data.toList.isPrefixOf (t.data.toList.drop i) = true from hp3, if_pos rfl, List.drop_drop]
        simp (disch := omega) only [↓stq, amv_at, vls, inf, frs, mark_eq, ↓reduceIte, Nat.reduceEqDiff, ite_tt, ite_ff, eq_self, and_true, true_and, and_self, implies_true, Bool.true_eq_false, Bool.false_eq_true, decide_true, decide_false, decide_eq_true_eq, decide_eq_false_iff_not, ne_eq, not_true_eq_false, not_false_eq_true, Bool.not_eq_true', Bool.not_eq_false', beq_self_eq_true, Bool.not_true, Bool.not_false, List.getElem?_toArray, List.getElem?_cons_zero, List.getElem?_cons_succ]
        refine (spec_nameAt_c B V3 L q t (i + 1) _ hle ht l).mono ?_
        rintro _ V4 ⟨rfl, l⟩
        have hwd := wordAt_drop t (i + 1)
        have hwl := wordAt_len hle
        rw [show (t.data.toList.drop (i + 1)).takeWhile lettr = wordAt t (i + 1) from rfl, ← hwd]
        generalize wordAt t (i + 1) = w at l hwl hwd
        replace l : Led B (bx q ⟨97, [.string t, .int .i64 ((i + 1 + w.length : Nat) : Int), .string m, .string nm, .slice am marks.length cm, vn, .bool true], 7, true⟩ :: L) V4 := l
        have k6 := l.cell (i := 0) rfl (o := 6) rfl rfl
        simp (disch := omega) only [↓stq, amv_at, vls, inf, frs, mark_eq, ↓reduceIte, Nat.reduceEqDiff, ite_tt, ite_ff, eq_self, and_true, true_and, and_self, implies_true, Bool.true_eq_false, Bool.false_eq_true, decide_true, decide_false, decide_eq_true_eq, decide_eq_false_iff_not, ne_eq, not_true_eq_false, not_false_eq_true, Bool.not_eq_true', Bool.not_eq_false', beq_self_eq_true, Bool.not_true, Bool.not_false, List.getElem?_toArray, List.getElem?_cons_zero, List.getElem?_cons_succ, ↓aop_nilV, anilV_ptr, add_at, k6]
        refine (spec_validName_c V4 (tx w) (by rw [tx_size]; omega)).mono ?_
        rintro _ V4 ⟨rfl, rfl⟩
        simp (disch := omega) only [↓stq, amv_at, vls, inf, frs, mark_eq, ↓reduceIte, Nat.reduceEqDiff, ite_tt, ite_ff, eq_self, and_true, true_and, and_self, implies_true, Bool.true_eq_false, Bool.false_eq_true, decide_true, decide_false, decide_eq_true_eq, decide_eq_false_iff_not, ne_eq, not_true_eq_false, not_false_eq_true, Bool.not_eq_true', Bool.not_eq_false', beq_self_eq_true, Bool.not_true, Bool.not_false, List.getElem?_toArray, List.getElem?_cons_zero, List.getElem?_cons_succ, ↓aop_nilV, anilV_ptr, add_at, k6]
        refine led_store l 0 rfl sz4 (by rfl) (by rfl) (by rfl) fun V5 l => ?_
        have k2 := l.cell (i := 0) rfl (o := 2) rfl rfl
        simp (disch := omega) only [↓stq, amv_at, vls, inf, frs, mark_eq, ↓reduceIte, Nat.reduceEqDiff, ite_tt, ite_ff, eq_self, and_true, true_and, and_self, implies_true, Bool.true_eq_false, Bool.false_eq_true, decide_true, decide_false, decide_eq_true_eq, decide_eq_false_iff_not, ne_eq, not_true_eq_false, not_false_eq_true, Bool.not_eq_true', Bool.not_eq_false', beq_self_eq_true, Bool.not_true, Bool.not_false, List.getElem?_toArray, List.getElem?_cons_zero, List.getElem?_cons_succ, ↓aop_nilV, anilV_ptr, add_at, k2]
        refine ⟨i + 1 + w.length, decide (m = tx w), nmOk (tx w), rfl, by omega, hwl, l, ?_⟩
        cases hnm : nmOk (tx w) with
        | true => exact ⟨rfl, rfl, by show _ = decide (tx w = m); rw [decide_eq_decide]; exact eq_comm⟩
        | false => exact rfl
      | false =>
        replace l : Led B (scn q t i m nm (.slice am marks.length cm) vn true :: L) V3 := by
          have hq : (⟨#[64]⟩ : ByteArray).data.toList.isPrefixOf (t.data.toList.drop i) = false := hp3
          rw [hq] at l
          exact l
        rw [show (⟨#[64]⟩ : ByteArray).data.toList.isPrefixOf (t.data.toList.drop i) = false from hp3, if_neg (by decide)]
        simp (disch := omega) only [↓stq, amv_at, vls, inf, frs, mark_eq, ↓reduceIte, Nat.reduceEqDiff, ite_tt, ite_ff, eq_self, and_true, true_and, and_self, implies_true, Bool.true_eq_false, Bool.false_eq_true, decide_true, decide_false, decide_eq_true_eq, decide_eq_false_iff_not, ne_eq, not_true_eq_false, not_false_eq_true, Bool.not_eq_true', Bool.not_eq_false', beq_self_eq_true, Bool.not_true, Bool.not_false, List.getElem?_toArray, List.getElem?_cons_zero, List.getElem?_cons_succ]
        refine (spec_nameAt_c B V3 L q t i _ hi ht l).mono ?_
        rintro _ V4 ⟨rfl, l⟩
        have hwd := wordAt_drop t i
        have hwl := wordAt_len hi
        rw [show (t.data.toList.drop i).takeWhile lettr = wordAt t i from rfl, ← hwd]
        generalize wordAt t i = w at l hwl hwd
        replace l : Led B (bx q ⟨97, [.string t, .int .i64 ((i + w.length : Nat) : Int), .string m, .string nm, .slice am marks.length cm, vn, .bool true], 7, true⟩ :: L) V4 := l
        have k6 := l.cell (i := 0) rfl (o := 6) rfl rfl
        simp (disch := omega) only [↓stq, amv_at, vls, inf, frs, mark_eq, ↓reduceIte, Nat.reduceEqDiff, ite_tt, ite_ff, eq_self, and_true, true_and, and_self, implies_true, Bool.true_eq_false, Bool.false_eq_true, decide_true, decide_false, decide_eq_true_eq, decide_eq_false_iff_not, ne_eq, not_true_eq_false, not_false_eq_true, Bool.not_eq_true', Bool.not_eq_false', beq_self_eq_true, Bool.not_true, Bool.not_false, List.getElem?_toArray, List.getElem?_cons_zero, List.getElem?_cons_succ, ↓aop_nilV, anilV_ptr, add_at, k6]
        refine (spec_validName_c V4 (tx w) (by rw [tx_size]; omega)).mono ?_
        rintro _ V4 ⟨rfl, rfl⟩
        simp (disch := omega) only [↓stq, amv_at, vls, inf, frs, mark_eq, ↓reduceIte, Nat.reduceEqDiff, ite_tt, ite_ff, eq_self, and_true, true_and, and_self, implies_true, Bool.true_eq_false, Bool.false_eq_true, decide_true, decide_false, decide_eq_true_eq, decide_eq_false_iff_not, ne_eq, not_true_eq_false, not_false_eq_true, Bool.not_eq_true', Bool.not_eq_false', beq_self_eq_true, Bool.not_true, Bool.not_false, List.getElem?_toArray, List.getElem?_cons_zero, List.getElem?_cons_succ, ↓aop_nilV, anilV_ptr, add_at, k6]
        refine led_store l 0 rfl sz4 (by rfl) (by rfl) (by rfl) fun V5 l => ?_
        have k4 := l.cell (i := 0) rfl (o := 4) rfl rfl
        simp (disch := omega) only [↓stq, amv_at, vls, inf, frs, mark_eq, ↓reduceIte, Nat.reduceEqDiff, ite_tt, ite_ff, eq_self, and_true, true_and, and_self, implies_true, Bool.true_eq_false, Bool.false_eq_true, decide_true, decide_false, decide_eq_true_eq, decide_eq_false_iff_not, ne_eq, not_true_eq_false, not_false_eq_true, Bool.not_eq_true', Bool.not_eq_false', beq_self_eq_true, Bool.not_true, Bool.not_false, List.getElem?_toArray, List.getElem?_cons_zero, List.getElem?_cons_succ, ↓aop_nilV, anilV_ptr, add_at, k4]
        refine (spec_hasText_c V5 _ marks (tx w) (hm.mono l.ext)).mono ?_
        rintro _ V5 ⟨rfl, rfl⟩
        simp (disch := omega) only [↓stq, amv_at, vls, inf, frs, mark_eq, ↓reduceIte, Nat.reduceEqDiff, ite_tt, ite_ff, eq_self, and_true, true_and, and_self, implies_true, Bool.true_eq_false, Bool.false_eq_true, decide_true, decide_false, decide_eq_true_eq, decide_eq_false_iff_not, ne_eq, not_true_eq_false, not_false_eq_true, Bool.not_eq_true', Bool.not_eq_false', beq_self_eq_true, Bool.not_true, Bool.not_false, List.getElem?_toArray, List.getElem?_cons_zero, List.getElem?_cons_succ]
        refine ⟨i + w.length, decide (tx w ∈ marks), nmOk (tx w), rfl, by omega, hwl, l, ?_⟩
        cases hnm : nmOk (tx w) with
        | true => exact ⟨rfl, rfl, rfl⟩
        | false => exact rfl

theorem spec_term_step (n : Nat) (ih : SpecOk n .fac) : SpecOk (n + 1) .con := by
  intro B A L q t m nm vm vn marks i ht hi hn hm l
  obtain ⟨am, cm, rfl, _, _⟩ := hm.slice
  show ACalls Try.prog 115 #[.pointer (some ⟨q, 0, none⟩)] A fun r V => ∃ i' b ok, r = .bool b ∧ i ≤ i' ∧ i' ≤ t.size ∧ Led B (scn q t i' m nm (.slice am marks.length cm) vn ok :: L) V ∧ Rd2 t m marks i' ok b (rowP (parse n .fac) andW .con n (t.data.toList.drop i))
  have hn : 3 * (t.size - i) + 1 < n + 1 := hn
  refine acalls Try.func115 rfl (by kernel_rfl) ?_
  simp (disch := omega) only [↓stq, amv_at, vls, inf, frs, mark_eq, ↓reduceIte, Nat.reduceEqDiff, ite_tt, ite_ff, eq_self, and_true, true_and, and_self, implies_true, Bool.true_eq_false, Bool.false_eq_true, decide_true, decide_false, decide_eq_true_eq, decide_eq_false_iff_not, ne_eq, not_true_eq_false, not_false_eq_true, Bool.not_eq_true', Bool.not_eq_false', beq_self_eq_true, Bool.not_true, Bool.not_false, List.getElem?_toArray, List.getElem?_cons_zero, List.getElem?_cons_succ]
  refine (ih B A L q t m nm _ vn marks i ht hi (by show 3 * _ + 0 < n; omega) hm l).mono ?_
  rintro _ V ⟨i1, b, ok, rfl, hii, hi1, l, hr⟩
  simp (disch := omega) only [↓stq, amv_at, vls, inf, frs, mark_eq, ↓reduceIte, Nat.reduceEqDiff, ite_tt, ite_ff, eq_self, and_true, true_and, and_self, implies_true, Bool.true_eq_false, Bool.false_eq_true, decide_true, decide_false, decide_eq_true_eq, decide_eq_false_iff_not, ne_eq, not_true_eq_false, not_false_eq_true, Bool.not_eq_true', Bool.not_eq_false', beq_self_eq_true, Bool.not_true, Bool.not_false, List.getElem?_toArray, List.getElem?_cons_zero, List.getElem?_cons_succ]
  obtain ⟨res, hres⟩ : ∃ res, rowP (parse n .fac) andW .con n (t.data.toList.drop i) = res := ⟨_, rfl⟩
  rw [hres]
  have hinit : ok = false ∧ res = none ∨ ok = true ∧ ∃ e j, t.size - i1 < j ∧ b = e.ev m marks ∧ loopP (parse n .fac) andW .con j e (t.data.toList.drop i1) = res := by
    unfold rowP at hres
    cases hq : parse n .fac (t.data.toList.drop i) with
    | none =>
      rw [hq] at hr hres
      exact .inl ⟨hr, hres.symm⟩
    | some er =>
      obtain ⟨e, r⟩ := er
      have hsh := (parse_short n .fac _ _ _ hq).2
      rw [hq] at hr hres
      obtain ⟨hok, hrd, hb⟩ := hr
      rw [← hrd, List.length_drop, List.length_drop, toList_len] at hsh
      refine .inr ⟨hok, e, n, by omega, hb, ?_⟩
      rw [hrd]
      exact hres
  refine aloop (fun d fr V => ∃ (i1 : Nat) (b ok : Bool), d = t.size - i1 ∧ i1 ≤ t.size ∧ Led B (scn q t i1 m nm (.slice am marks.length cm) vn ok :: L) V ∧ fr 0 = .pointer (some ⟨q, 0, none⟩) ∧ fr 3 = .bool b ∧ i ≤ i1 ∧ (ok = false ∧ res = none ∨ ok = true ∧ ∃ e j, t.size - i1 < j ∧ b = e.ev m marks ∧ loopP (parse n .fac) andW .con j e (t.data.toList.drop i1) = res)) (t.size - i1) ⟨i1, b, ok, rfl, hi1, l, by rfl, by rfl, hii, hinit⟩ ?_
  clear l hinit hr hi1 hii
  rintro d fr V ⟨i1, b, ok, rfl, hi1, l, h0, h3, hii, hst⟩
  have k6 : V.cell ⟨q, 0 + 6, none⟩ = some (.bool ok) := l.cell (i := 0) rfl (o := 6) rfl rfl
  simp (disch := omega) only [↓stq, amv_at, vls, inf, frs, mark_eq, ↓reduceIte, Nat.reduceEqDiff, ite_tt, ite_ff, eq_self, and_true, true_and, and_self, implies_true, Bool.true_eq_false, Bool.false_eq_true, decide_true, decide_false, decide_eq_true_eq, decide_eq_false_iff_not, ne_eq, not_true_eq_false, not_false_eq_true, Bool.not_eq_true', Bool.not_eq_false', beq_self_eq_true, Bool.not_true, Bool.not_false, List.getElem?_toArray, List.getElem?_cons_zero, List.getElem?_cons_succ, h0, h3, ↓aop_nilV, anilV_ptr, add_at, k6]
  rcases hst with ⟨rfl, hrn⟩ | ⟨rfl, e, j, hj, hb, hl⟩
  · simp (disch := omega) only [↓stq, amv_at, vls, inf, frs, mark_eq, ↓reduceIte, Nat.reduceEqDiff, ite_tt, ite_ff, eq_self, and_true, true_and, and_self, implies_true, Bool.true_eq_false, Bool.false_eq_true, decide_true, decide_false, decide_eq_true_eq, decide_eq_false_iff_not, ne_eq, not_true_eq_false, not_false_eq_true, Bool.not_eq_true', Bool.not_eq_false', beq_self_eq_true, Bool.not_true, Bool.not_false, List.getElem?_toArray, List.getElem?_cons_zero, List.getElem?_cons_succ, h0, h3]
    exact ⟨i1, b, false, rfl, hii, hi1, l, by rw [hrn]; exact rfl⟩
  · simp (disch := omega) only [↓stq, amv_at, vls, inf, frs, mark_eq, ↓reduceIte, Nat.reduceEqDiff, ite_tt, ite_ff, eq_self, and_true, true_and, and_self, implies_true, Bool.true_eq_false, Bool.false_eq_true, decide_true, decide_false, decide_eq_true_eq, decide_eq_false_iff_not, ne_eq, not_true_eq_false, not_false_eq_true, Bool.not_eq_true', Bool.not_eq_false', beq_self_eq_true, Bool.not_true, Bool.not_false, List.getElem?_toArray, List.getElem?_cons_zero, List.getElem?_cons_succ, h0, h3]
    refine (spec_eat_c B V L q t ⟨#[32, 97, 110, 100, 32]⟩ i1 _ hi1 ht (by decide) l).mono ?_
    rintro _ V2 ⟨rfl, l⟩
    obtain ⟨j, rfl⟩ : ∃ k, j = k + 1 := ⟨j - 1, by omega⟩
    unfold loopP at hl
    cases hp : andW.isPrefixOf (t.data.toList.drop i1) with
    | false =>
      rw [hp, if_neg (by decide)] at hl
      replace l : Led B (scn q t i1 m nm (.slice am marks.length cm) vn true :: L) V2 := by
        have hq : (⟨#[32, 97, 110, 100, 32]⟩ : ByteArray).data.toList.isPrefixOf (t.data.toList.drop i1) = false := hp
        rw [hq] at l
        exact l
      rw [show (⟨#[32, 97, 110, 100, 32]⟩ : ByteArray).data.toList.isPrefixOf (t.data.toList.drop i1) = false from hp]
      simp (disch := omega) only [↓stq, amv_at, vls, inf, frs, mark_eq, ↓reduceIte, Nat.reduceEqDiff, ite_tt, ite_ff, eq_self, and_true, true_and, and_self, implies_true, Bool.true_eq_false, Bool.false_eq_true, decide_true, decide_false, decide_eq_true_eq, decide_eq_false_iff_not, ne_eq, not_true_eq_false, not_false_eq_true, Bool.not_eq_true', Bool.not_eq_false', beq_self_eq_true, Bool.not_true, Bool.not_false, List.getElem?_toArray, List.getElem?_cons_zero, List.getElem?_cons_succ, h0, h3]
      exact ⟨i1, _, true, rfl, hii, hi1, l, by rw [← hl]; exact ⟨rfl, rfl, hb⟩⟩
    | true =>
      have hle : i1 + andW.length ≤ t.size := pre_le hp (by decide)
      have hw1 : 1 ≤ andW.length := by decide
      rw [hp, if_pos rfl, List.drop_drop] at hl
      replace l : Led B (scn q t (i1 + andW.length) m nm (.slice am marks.length cm) vn true :: L) V2 := by
        have hq : (⟨#[32, 97, 110, 100, 32]⟩ : ByteArray).data.toList.isPrefixOf (t.data.toList.drop i1) = true := hp
        rw [hq] at l
        exact l
      rw [show (⟨#[32, 97, 110, 100, 32]⟩ : ByteArray).data.toList.isPrefixOf (t.data.toList.drop i1) = true from hp]
      simp (disch := omega) only [↓stq, amv_at, vls, inf, frs, mark_eq, ↓reduceIte, Nat.reduceEqDiff, ite_tt, ite_ff, eq_self, and_true, true_and, and_self, implies_true, Bool.true_eq_false, Bool.false_eq_true, decide_true, decide_false, decide_eq_true_eq, decide_eq_false_iff_not, ne_eq, not_true_eq_false, not_false_eq_true, Bool.not_eq_true', Bool.not_eq_false', beq_self_eq_true, Bool.not_true, Bool.not_false, List.getElem?_toArray, List.getElem?_cons_zero, List.getElem?_cons_succ, h0, h3]
      refine (ih B V2 L q t m nm _ vn marks (i1 + andW.length) ht hle (by show 3 * _ + 0 < n; omega) hm l).mono ?_
      rintro _ V3 ⟨i2, b2, ok2, rfl, hii2, hi2, l, hr⟩
      have hnext : ok2 = false ∧ res = none ∨ ok2 = true ∧ ∃ e2, t.size - i2 < t.size - (i1 + andW.length) ∧ b2 = e2.ev m marks ∧ loopP (parse n .fac) andW .con j (.con e e2) (t.data.toList.drop i2) = res := by
        cases hq : parse n .fac (t.data.toList.drop (i1 + andW.length)) with
        | none =>
          rw [hq] at hr hl
          exact .inl ⟨hr, hl.symm⟩
        | some er =>
          obtain ⟨e2, r⟩ := er
          have hsh := (parse_short n .fac _ _ _ hq).2
          rw [hq] at hr hl
          obtain ⟨hok, hrd, hb⟩ := hr
          rw [← hrd, List.length_drop, List.length_drop, toList_len] at hsh
          refine .inr ⟨hok, e2, by omega, hb, ?_⟩
          rw [hrd]
          exact hl
      have hfin : ok2 = false ∧ res = none ∨ ok2 = true ∧ ∃ e' j', t.size - i2 < j' ∧ Bool.and b b2 = e'.ev m marks ∧ loopP (parse n .fac) andW .con j' e' (t.data.toList.drop i2) = res := by
        rcases hnext with h | ⟨h1, e2, h2, h3, h4⟩
        · exact .inl h
        · exact .inr ⟨h1, .con e e2, j, by omega, by rw [hb, h3]; rfl, h4⟩
      cases b with
      | true =>
        simp (disch := omega) only [↓stq, amv_at, vls, inf, frs, mark_eq, ↓reduceIte, Nat.reduceEqDiff, ite_tt, ite_ff, eq_self, and_true, true_and, and_self, implies_true, Bool.true_eq_false, Bool.false_eq_true, decide_true, decide_false, decide_eq_true_eq, decide_eq_false_iff_not, ne_eq, not_true_eq_false, not_false_eq_true, Bool.not_eq_true', Bool.not_eq_false', beq_self_eq_true, Bool.not_true, Bool.not_false, List.getElem?_toArray, List.getElem?_cons_zero, List.getElem?_cons_succ, h0, h3]
        exact ⟨_, by omega, i2, _, ok2, rfl, hi2, l, rfl, by omega, hfin⟩
      | false =>
        simp (disch := omega) only [↓stq, amv_at, vls, inf, frs, mark_eq, ↓reduceIte, Nat.reduceEqDiff, ite_tt, ite_ff, eq_self, and_true, true_and, and_self, implies_true, Bool.true_eq_false, Bool.false_eq_true, decide_true, decide_false, decide_eq_true_eq, decide_eq_false_iff_not, ne_eq, not_true_eq_false, not_false_eq_true, Bool.not_eq_true', Bool.not_eq_false', beq_self_eq_true, Bool.not_true, Bool.not_false, List.getElem?_toArray, List.getElem?_cons_zero, List.getElem?_cons_succ, h0, h3]
        exact ⟨_, by omega, i2, _, ok2, rfl, hi2, l, rfl, by omega, hfin⟩

theorem spec_expr_step (n : Nat) (ih : SpecOk n .con) : SpecOk (n + 1) .dis := by
  intro B A L q t m nm vm vn marks i ht hi hn hm l
  obtain ⟨am, cm, rfl, _, _⟩ := hm.slice
  show ACalls Try.prog 97 #[.pointer (some ⟨q, 0, none⟩)] A fun r V => ∃ i' b ok, r = .bool b ∧ i ≤ i' ∧ i' ≤ t.size ∧ Led B (scn q t i' m nm (.slice am marks.length cm) vn ok :: L) V ∧ Rd2 t m marks i' ok b (rowP (parse n .con) orW .dis n (t.data.toList.drop i))
  have hn : 3 * (t.size - i) + 2 < n + 1 := hn
  refine acalls Try.func97 rfl (by kernel_rfl) ?_
  simp (disch := omega) only [↓stq, amv_at, vls, inf, frs, mark_eq, ↓reduceIte, Nat.reduceEqDiff, ite_tt, ite_ff, eq_self, and_true, true_and, and_self, implies_true, Bool.true_eq_false, Bool.false_eq_true, decide_true, decide_false, decide_eq_true_eq, decide_eq_false_iff_not, ne_eq, not_true_eq_false, not_false_eq_true, Bool.not_eq_true', Bool.not_eq_false', beq_self_eq_true, Bool.not_true, Bool.not_false, List.getElem?_toArray, List.getElem?_cons_zero, List.getElem?_cons_succ]
  refine (ih B A L q t m nm _ vn marks i ht hi (by show 3 * _ + 1 < n; omega) hm l).mono ?_
  rintro _ V ⟨i1, b, ok, rfl, hii, hi1, l, hr⟩
  simp (disch := omega) only [↓stq, amv_at, vls, inf, frs, mark_eq, ↓reduceIte, Nat.reduceEqDiff, ite_tt, ite_ff, eq_self, and_true, true_and, and_self, implies_true, Bool.true_eq_false, Bool.false_eq_true, decide_true, decide_false, decide_eq_true_eq, decide_eq_false_iff_not, ne_eq, not_true_eq_false, not_false_eq_true, Bool.not_eq_true', Bool.not_eq_false', beq_self_eq_true, Bool.not_true, Bool.not_false, List.getElem?_toArray, List.getElem?_cons_zero, List.getElem?_cons_succ]
  obtain ⟨res, hres⟩ : ∃ res, rowP (parse n .con) orW .dis n (t.data.toList.drop i) = res := ⟨_, rfl⟩
  rw [hres]
  have hinit : ok = false ∧ res = none ∨ ok = true ∧ ∃ e j, t.size - i1 < j ∧ b = e.ev m marks ∧ loopP (parse n .con) orW .dis j e (t.data.toList.drop i1) = res := by
    unfold rowP at hres
    cases hq : parse n .con (t.data.toList.drop i) with
    | none =>
      rw [hq] at hr hres
      exact .inl ⟨hr, hres.symm⟩
    | some er =>
      obtain ⟨e, r⟩ := er
      have hsh := (parse_short n .con _ _ _ hq).2
      rw [hq] at hr hres
      obtain ⟨hok, hrd, hb⟩ := hr
      rw [← hrd, List.length_drop, List.length_drop, toList_len] at hsh
      refine .inr ⟨hok, e, n, by omega, hb, ?_⟩
      rw [hrd]
      exact hres
  refine aloop (fun d fr V => ∃ (i1 : Nat) (b ok : Bool), d = t.size - i1 ∧ i1 ≤ t.size ∧ Led B (scn q t i1 m nm (.slice am marks.length cm) vn ok :: L) V ∧ fr 0 = .pointer (some ⟨q, 0, none⟩) ∧ fr 3 = .bool b ∧ i ≤ i1 ∧ (ok = false ∧ res = none ∨ ok = true ∧ ∃ e j, t.size - i1 < j ∧ b = e.ev m marks ∧ loopP (parse n .con) orW .dis j e (t.data.toList.drop i1) = res)) (t.size - i1) ⟨i1, b, ok, rfl, hi1, l, by rfl, by rfl, hii, hinit⟩ ?_
  clear l hinit hr hi1 hii
  rintro d fr V ⟨i1, b, ok, rfl, hi1, l, h0, h3, hii, hst⟩
  have k6 : V.cell ⟨q, 0 + 6, none⟩ = some (.bool ok) := l.cell (i := 0) rfl (o := 6) rfl rfl
  simp (disch := omega) only [↓stq, amv_at, vls, inf, frs, mark_eq, ↓reduceIte, Nat.reduceEqDiff, ite_tt, ite_ff, eq_self, and_true, true_and, and_self, implies_true, Bool.true_eq_false, Bool.false_eq_true, decide_true, decide_false, decide_eq_true_eq, decide_eq_false_iff_not, ne_eq, not_true_eq_false, not_false_eq_true, Bool.not_eq_true', Bool.not_eq_false', beq_self_eq_true, Bool.not_true, Bool.not_false, List.getElem?_toArray, List.getElem?_cons_zero, List.getElem?_cons_succ, h0, h3, ↓aop_nilV, anilV_ptr, add_at, k6]
  rcases hst with ⟨rfl, hrn⟩ | ⟨rfl, e, j, hj, hb, hl⟩
  · simp (disch := omega) only [↓stq, amv_at, vls, inf, frs, mark_eq, ↓reduceIte, Nat.reduceEqDiff, ite_tt, ite_ff, eq_self, and_true, true_and, and_self, implies_true, Bool.true_eq_false, Bool.false_eq_true, decide_true, decide_false, decide_eq_true_eq, decide_eq_false_iff_not, ne_eq, not_true_eq_false, not_false_eq_true, Bool.not_eq_true', Bool.not_eq_false', beq_self_eq_true, Bool.not_true, Bool.not_false, List.getElem?_toArray, List.getElem?_cons_zero, List.getElem?_cons_succ, h0, h3]
    exact ⟨i1, b, false, rfl, hii, hi1, l, by rw [hrn]; exact rfl⟩
  · simp (disch := omega) only [↓stq, amv_at, vls, inf, frs, mark_eq, ↓reduceIte, Nat.reduceEqDiff, ite_tt, ite_ff, eq_self, and_true, true_and, and_self, implies_true, Bool.true_eq_false, Bool.false_eq_true, decide_true, decide_false, decide_eq_true_eq, decide_eq_false_iff_not, ne_eq, not_true_eq_false, not_false_eq_true, Bool.not_eq_true', Bool.not_eq_false', beq_self_eq_true, Bool.not_true, Bool.not_false, List.getElem?_toArray, List.getElem?_cons_zero, List.getElem?_cons_succ, h0, h3]
    refine (spec_eat_c B V L q t ⟨#[32, 111, 114, 32]⟩ i1 _ hi1 ht (by decide) l).mono ?_
    rintro _ V2 ⟨rfl, l⟩
    obtain ⟨j, rfl⟩ : ∃ k, j = k + 1 := ⟨j - 1, by omega⟩
    unfold loopP at hl
    cases hp : orW.isPrefixOf (t.data.toList.drop i1) with
    | false =>
      rw [hp, if_neg (by decide)] at hl
      replace l : Led B (scn q t i1 m nm (.slice am marks.length cm) vn true :: L) V2 := by
        have hq : (⟨#[32, 111, 114, 32]⟩ : ByteArray).data.toList.isPrefixOf (t.data.toList.drop i1) = false := hp
        rw [hq] at l
        exact l
      rw [show (⟨#[32, 111, 114, 32]⟩ : ByteArray).data.toList.isPrefixOf (t.data.toList.drop i1) = false from hp]
      simp (disch := omega) only [↓stq, amv_at, vls, inf, frs, mark_eq, ↓reduceIte, Nat.reduceEqDiff, ite_tt, ite_ff, eq_self, and_true, true_and, and_self, implies_true, Bool.true_eq_false, Bool.false_eq_true, decide_true, decide_false, decide_eq_true_eq, decide_eq_false_iff_not, ne_eq, not_true_eq_false, not_false_eq_true, Bool.not_eq_true', Bool.not_eq_false', beq_self_eq_true, Bool.not_true, Bool.not_false, List.getElem?_toArray, List.getElem?_cons_zero, List.getElem?_cons_succ, h0, h3]
      exact ⟨i1, _, true, rfl, hii, hi1, l, by rw [← hl]; exact ⟨rfl, rfl, hb⟩⟩
    | true =>
      have hle : i1 + orW.length ≤ t.size := pre_le hp (by decide)
      have hw1 : 1 ≤ orW.length := by decide
      rw [hp, if_pos rfl, List.drop_drop] at hl
      replace l : Led B (scn q t (i1 + orW.length) m nm (.slice am marks.length cm) vn true :: L) V2 := by
        have hq : (⟨#[32, 111, 114, 32]⟩ : ByteArray).data.toList.isPrefixOf (t.data.toList.drop i1) = true := hp
        rw [hq] at l
        exact l
      rw [show (⟨#[32, 111, 114, 32]⟩ : ByteArray).data.toList.isPrefixOf (t.data.toList.drop i1) = true from hp]
      simp (disch := omega) only [↓stq, amv_at, vls, inf, frs, mark_eq, ↓reduceIte, Nat.reduceEqDiff, ite_tt, ite_ff, eq_self, and_true, true_and, and_self, implies_true, Bool.true_eq_false, Bool.false_eq_true, decide_true, decide_false, decide_eq_true_eq, decide_eq_false_iff_not, ne_eq, not_true_eq_false, not_false_eq_true, Bool.not_eq_true', Bool.not_eq_false', beq_self_eq_true, Bool.not_true, Bool.not_false, List.getElem?_toArray, List.getElem?_cons_zero, List.getElem?_cons_succ, h0, h3]
      refine (ih B V2 L q t m nm _ vn marks (i1 + orW.length) ht hle (by show 3 * _ + 1 < n; omega) hm l).mono ?_
      rintro _ V3 ⟨i2, b2, ok2, rfl, hii2, hi2, l, hr⟩
      have hnext : ok2 = false ∧ res = none ∨ ok2 = true ∧ ∃ e2, t.size - i2 < t.size - (i1 + orW.length) ∧ b2 = e2.ev m marks ∧ loopP (parse n .con) orW .dis j (.dis e e2) (t.data.toList.drop i2) = res := by
        cases hq : parse n .con (t.data.toList.drop (i1 + orW.length)) with
        | none =>
          rw [hq] at hr hl
          exact .inl ⟨hr, hl.symm⟩
        | some er =>
          obtain ⟨e2, r⟩ := er
          have hsh := (parse_short n .con _ _ _ hq).2
          rw [hq] at hr hl
          obtain ⟨hok, hrd, hb⟩ := hr
          rw [← hrd, List.length_drop, List.length_drop, toList_len] at hsh
          refine .inr ⟨hok, e2, by omega, hb, ?_⟩
          rw [hrd]
          exact hl
      have hfin : ok2 = false ∧ res = none ∨ ok2 = true ∧ ∃ e' j', t.size - i2 < j' ∧ Bool.or b b2 = e'.ev m marks ∧ loopP (parse n .con) orW .dis j' e' (t.data.toList.drop i2) = res := by
        rcases hnext with h | ⟨h1, e2, h2, h3, h4⟩
        · exact .inl h
        · exact .inr ⟨h1, .dis e e2, j, by omega, by rw [hb, h3]; rfl, h4⟩
      cases b with
      | true =>
        simp (disch := omega) only [↓stq, amv_at, vls, inf, frs, mark_eq, ↓reduceIte, Nat.reduceEqDiff, ite_tt, ite_ff, eq_self, and_true, true_and, and_self, implies_true, Bool.true_eq_false, Bool.false_eq_true, decide_true, decide_false, decide_eq_true_eq, decide_eq_false_iff_not, ne_eq, not_true_eq_false, not_false_eq_true, Bool.not_eq_true', Bool.not_eq_false', beq_self_eq_true, Bool.not_true, Bool.not_false, List.getElem?_toArray, List.getElem?_cons_zero, List.getElem?_cons_succ, h0, h3]
        exact ⟨_, by omega, i2, _, ok2, rfl, hi2, l, rfl, by omega, hfin⟩
      | false =>
        simp (disch := omega) only [↓stq, amv_at, vls, inf, frs, mark_eq, ↓reduceIte, Nat.reduceEqDiff, ite_tt, ite_ff, eq_self, and_true, true_and, and_self, implies_true, Bool.true_eq_false, Bool.false_eq_true, decide_true, decide_false, decide_eq_true_eq, decide_eq_false_iff_not, ne_eq, not_true_eq_false, not_false_eq_true, Bool.not_eq_true', Bool.not_eq_false', beq_self_eq_true, Bool.not_true, Bool.not_false, List.getElem?_toArray, List.getElem?_cons_zero, List.getElem?_cons_succ, h0, h3]
        exact ⟨_, by omega, i2, _, ok2, rfl, hi2, l, rfl, by omega, hfin⟩

end Go.Proofs.Ytbddklkfekiaeaa

