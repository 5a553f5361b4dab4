/- Summaries: numbers as texts, and how many tests end in each way. -/
import Derived.Test.YtggklaimbklefaaDoorJB
import Derived.Test.YtggklaimbklefaaDoorGReport
import Derived.Test.YtggklaimbklefaaDoorSh
import Derived.Lib.AppendIntMem
import Derived.Lib.ItoaMem
import Derived.Lib.ItoaLen
set_option maxHeartbeats 4000000
set_option synthInstance.maxHeartbeats 400000
set_option synthInstance.maxSize 4096
set_option linter.unusedSimpArgs false
set_option linter.unusedVariables false
namespace Go.Proofs.YtggklaimbklefaaDoor

set_option maxRecDepth 100000

/-- The table of the powers of ten is as the library lays it, in each world that fits. -/
def TabV (A : View) : Prop := ∀ w, Rel A w → Go.Lib.TabIs Tryd.prog w "internal/strconv.uint64pow10" .u64 Go.Lib.pow10Tab
theorem TabV.mono {A V : View} (h : TabV A) (he : Ext A V) : TabV V := fun w hw => h w (hw.forget fun b k hb => he b k hb)

/-- A number in decimal. -/
def numB (n : Nat) : ByteArray := Bt (Go.Lib.decDigits n)
theorem numB_size {n : Nat} (h : n ≤ 9223372036854775807) : (numB n).size ≤ 21 := by
  unfold numB
  rw [Bt_size, ← Go.Lib.itoa_nonneg]
  exact Go.Lib.itoa_length_le _ (by omega) (by omega)
theorem numB_one {n : Nat} (h : n < 10) : numB n = Bt [UInt8.ofNat (48 + n)] := by unfold numB; rw [Go.Lib.decDigits_one h]
theorem numB_more {n : Nat} (h : ¬ n < 10) : numB n = numB (n / 10) ++ numB (n % 10) := by
  rw [numB_one (n := n % 10) (Nat.mod_lt _ (by omega))]
  unfold numB
  rw [Bt_app]
  conv => lhs; rw [Go.Lib.decDigits, dif_neg h]

theorem itoa_c (A : View) (n : Nat) (hn : n ≤ 9223372036854775807) (hT : TabV A) : ACalls Tryd.prog 19 #[.int .i64 n] A fun r V => r = .string (numB n) ∧ Ext A V := by
  intro w hw
  refine (strconv_Itoa n (by omega) (by omega) w (hT w hw)).mono ?_
  rintro e w' ⟨rfl, k, os, rfl⟩
  refine ⟨_, A, rfl, ⟨by rw [Go.Lib.itoa_nonneg]; rfl, Ext.refl A⟩, fun b kb hb => ?_, ⟨rfl, rfl, rfl, Go.Lib.size_grow w k os, fun b hb _ => Go.Lib.heap_grow_old w k os b hb, fun b kb hb ho => .inl ⟨kb, hb, ho⟩, fun b kb hb => .inl ⟨kb, hb⟩⟩⟩
  rw [Go.Lib.heap_grow_old w k os b (hw.lt hb)]
  exact hw b kb hb

theorem spec_number_c : ∀ (n : Nat) (A : View), n ≤ 9223372036854775807 → ACalls Tryd.prog 12 #[.int .i64 n] A fun r V => r = .string (numB n) ∧ V = A := by
  intro n
  induction n using Nat.strongRecOn with
  | ind n ih =>
    intro A hn
    refine acalls Tryd.func12 rfl (by kernel_rfl) ?_
    simp (disch := omega) only [↓stq, amv_at, vls, inf, frs, mark_eq, ↓reduceIte, Nat.reduceEqDiff, ite_tt, ite_ff, eq_self, and_true, true_and, and_self, implies_true, Bool.true_eq_false, Bool.false_eq_true, decide_true, decide_false, decide_eq_true_eq, decide_eq_false_iff_not, ne_eq, not_true_eq_false, not_false_eq_true, Bool.not_eq_true', Bool.not_eq_false', beq_self_eq_true, Bool.not_true, Bool.not_false, List.getElem?_toArray, List.getElem?_cons_zero, List.getElem?_cons_succ]
    by_cases h : n < 10
    · have e : ((n : Int) < 10) = True := eq_true (by omega)
      have hsz : (⟨#[48, 49, 50, 51, 52, 53, 54, 55, 56, 57]⟩ : ByteArray).size = 10 := rfl
      have eT : ((n : Int) + 1).toNat = n + 1 := by omega
      have key : (⟨#[48, 49, 50, 51, 52, 53, 54, 55, 56, 57]⟩ : ByteArray).extract n (n + 1) = numB n := by
        rw [numB_one h]
        have key : ∀ m : Fin 10, (⟨#[48, 49, 50, 51, 52, 53, 54, 55, 56, 57]⟩ : ByteArray).extract m (m + 1) = Bt [UInt8.ofNat (48 + m)] := by decide
        exact key ⟨n, h⟩
      simp (disch := omega) only [↓stq, amv_at, vls, inf, frs, mark_eq, ↓reduceIte, Nat.reduceEqDiff, ite_tt, ite_ff, eq_self, and_true, true_and, and_self, implies_true, Bool.true_eq_false, Bool.false_eq_true, decide_true, decide_false, decide_eq_true_eq, decide_eq_false_iff_not, ne_eq, not_true_eq_false, not_false_eq_true, Bool.not_eq_true', Bool.not_eq_false', beq_self_eq_true, Bool.not_true, Bool.not_false, List.getElem?_toArray, List.getElem?_cons_zero, List.getElem?_cons_succ, e, eT, key]
    · have e : ((n : Int) < 10) = False := eq_false (by omega)
      have hd : (n : Int).tdiv 10 = ((n / 10 : Nat) : Int) := rfl
      have hr : (n : Int).tmod 10 = ((n % 10 : Nat) : Int) := rfl
      have ne : ¬ ((10 : Int) = 0) := by omega
      have hdl : n / 10 < n := Nat.div_lt_self (by omega) (by omega)
      have hml : n % 10 < 10 := Nat.mod_lt _ (by omega)
      simp (disch := omega) only [↓stq, amv_at, vls, inf, frs, mark_eq, ↓reduceIte, Nat.reduceEqDiff, ite_tt, ite_ff, eq_self, and_true, true_and, and_self, implies_true, Bool.true_eq_false, Bool.false_eq_true, decide_true, decide_false, decide_eq_true_eq, decide_eq_false_iff_not, ne_eq, not_true_eq_false, not_false_eq_true, Bool.not_eq_true', Bool.not_eq_false', beq_self_eq_true, Bool.not_true, Bool.not_false, List.getElem?_toArray, List.getElem?_cons_zero, List.getElem?_cons_succ, e, abin_quo, hd]
      refine (ih (n / 10) hdl A (by omega)).mono ?_
      rintro _ A ⟨rfl, rfl⟩
      simp (disch := omega) only [↓stq, amv_at, vls, inf, frs, mark_eq, ↓reduceIte, Nat.reduceEqDiff, ite_tt, ite_ff, eq_self, and_true, true_and, and_self, implies_true, Bool.true_eq_false, Bool.false_eq_true, decide_true, decide_false, decide_eq_true_eq, decide_eq_false_iff_not, ne_eq, not_true_eq_false, not_false_eq_true, Bool.not_eq_true', Bool.not_eq_false', beq_self_eq_true, Bool.not_true, Bool.not_false, List.getElem?_toArray, List.getElem?_cons_zero, List.getElem?_cons_succ, abin_rem, hr]
      refine (ih (n % 10) (by omega) A (by omega)).mono ?_
      rintro _ A ⟨rfl, rfl⟩
      have s1 := numB_size (n := n / 10) (by omega)
      have s2 := numB_size (n := n % 10) (by omega)
      simp (disch := omega) only [↓stq, amv_at, vls, inf, frs, mark_eq, ↓reduceIte, Nat.reduceEqDiff, ite_tt, ite_ff, eq_self, and_true, true_and, and_self, implies_true, Bool.true_eq_false, Bool.false_eq_true, decide_true, decide_false, decide_eq_true_eq, decide_eq_false_iff_not, ne_eq, not_true_eq_false, not_false_eq_true, Bool.not_eq_true', Bool.not_eq_false', beq_self_eq_true, Bool.not_true, Bool.not_false, List.getElem?_toArray, List.getElem?_cons_zero, List.getElem?_cons_succ]
      rw [← numB_more h]

/-- How many tests end in a way. -/
def cntO (xs : List ResultD) (oc : Int) : Nat := xs.countP fun y => decide (y.2.1 = oc)
theorem cntO_take {xs : List ResultD} {i : Nat} (hi : i < xs.length) (oc : Int) : cntO (xs.take (i + 1)) oc = cntO (xs.take i) oc + if xs[i].2.1 = oc then 1 else 0 := by
  unfold cntO
  rw [List.take_succ_eq_append_getElem hi, List.countP_append, List.countP_singleton]
  simp only [decide_eq_true_eq]
theorem cntO_le (xs : List ResultD) (oc : Int) : cntO xs oc ≤ xs.length := List.countP_le_length

theorem impl_CountOutcome_c (A : View) (d : List Value) (x : ReportD) (oc : Int) (h : reportS.rel A x d) (hoc : -9223372036854775808 ≤ oc ∧ oc < 9223372036854775808) : ACalls Tryd.prog 18 #[.agg d.toArray, .int .i64 oc] A fun r V => r = .int .i64 (cntO x.1 oc) ∧ Ext A V := by
  obtain ⟨u0, u1, rfl, g0, g1⟩ := reportS_open h
  obtain ⟨a0, c0, rfl, _, _⟩ := g0.slice
  obtain ⟨a1, c1, rfl, _, _⟩ := g1.slice
  refine acalls Tryd.func18 rfl (by kernel_rfl) ?_
  simp (disch := omega) only [↓stq, amv_at, vls, inf, frs, mark_eq, ↓reduceIte, Nat.reduceEqDiff, ite_tt, ite_ff, eq_self, and_true, true_and, and_self, implies_true, Bool.true_eq_false, Bool.false_eq_true, decide_true, decide_false, decide_eq_true_eq, decide_eq_false_iff_not, ne_eq, not_true_eq_false, not_false_eq_true, Bool.not_eq_true', Bool.not_eq_false', beq_self_eq_true, Bool.not_true, Bool.not_false, List.getElem?_toArray, List.getElem?_cons_zero, List.getElem?_cons_succ]
  refine led_box (Led.nil A) rfl fun q V _ l => ?_
  have k0 := l.cell (i := 0) rfl (o := 0) rfl rfl
  simp (disch := omega) only [↓stq, amv_at, vls, inf, frs, mark_eq, ↓reduceIte, Nat.reduceEqDiff, ite_tt, ite_ff, eq_self, and_true, true_and, and_self, implies_true, Bool.true_eq_false, Bool.false_eq_true, decide_true, decide_false, decide_eq_true_eq, decide_eq_false_iff_not, ne_eq, not_true_eq_false, not_false_eq_true, Bool.not_eq_true', Bool.not_eq_false', beq_self_eq_true, Bool.not_true, Bool.not_false, List.getElem?_toArray, List.getElem?_cons_zero, List.getElem?_cons_succ, add_at, k0]
  refine aloop (fun d fr V => ∃ (i : Nat), i ≤ x.1.length ∧ d = x.1.length - i ∧ Led A [] V ∧ fr 1 = .int .i64 oc ∧ fr 5 = .int .i64 (cntO (x.1.take i) oc) ∧ fr 9 = .slice a0 x.1.length c0 ∧ fr 10 = .int .i64 x.1.length ∧ fr 11 = .int .i64 i) x.1.length ⟨0, by omega, by omega, l.tail, rfl, rfl, rfl, rfl, rfl⟩ ?_
  clear l k0
  rintro d fr V ⟨i, hi, rfl, l, h1, h5, h9, h10, h11⟩
  have hcl := cntO_le (x.1.take i) oc
  rw [List.length_take] at hcl
  simp (disch := omega) only [↓stq, amv_at, vls, inf, frs, mark_eq, ↓reduceIte, Nat.reduceEqDiff, ite_tt, ite_ff, eq_self, and_true, true_and, and_self, implies_true, Bool.true_eq_false, Bool.false_eq_true, decide_true, decide_false, decide_eq_true_eq, decide_eq_false_iff_not, ne_eq, not_true_eq_false, not_false_eq_true, Bool.not_eq_true', Bool.not_eq_false', beq_self_eq_true, Bool.not_true, Bool.not_false, List.getElem?_toArray, List.getElem?_cons_zero, List.getElem?_cons_succ, h1, h5, h9, h10, h11]
  refine ⟨fun e1 => ?_, fun e1 => ?_⟩
  · have hlt : i < x.1.length := by omega
    obtain ⟨ad, rfl, hclA, z1, z2⟩ := g0.result hlt
    have hc2 := l.ext.part hclA
    have hnx := cntO_take hlt oc
    simp (disch := omega) only [↓stq, amv_at, vls, inf, frs, mark_eq, ↓reduceIte, Nat.reduceEqDiff, ite_tt, ite_ff, eq_self, and_true, true_and, and_self, implies_true, Bool.true_eq_false, Bool.false_eq_true, decide_true, decide_false, decide_eq_true_eq, decide_eq_false_iff_not, ne_eq, not_true_eq_false, not_false_eq_true, Bool.not_eq_true', Bool.not_eq_false', beq_self_eq_true, Bool.not_true, Bool.not_false, List.getElem?_toArray, List.getElem?_cons_zero, List.getElem?_cons_succ, h1, h5, h9, h10, h11, hc2]
    refine led_alloc zc47 l fun q5 V _ l => ?_
    simp (disch := omega) only [↓stq, amv_at, vls, inf, frs, mark_eq, ↓reduceIte, Nat.reduceEqDiff, ite_tt, ite_ff, eq_self, and_true, true_and, and_self, implies_true, Bool.true_eq_false, Bool.false_eq_true, decide_true, decide_false, decide_eq_true_eq, decide_eq_false_iff_not, ne_eq, not_true_eq_false, not_false_eq_true, Bool.not_eq_true', Bool.not_eq_false', beq_self_eq_true, Bool.not_true, Bool.not_false, List.getElem?_toArray, List.getElem?_cons_zero, List.getElem?_cons_succ, h1, h5, h9, h10, h11]
    refine led_storeAll l 0 rfl sz47 rfl rfl (by simp [Value.oneCell']) fun V l => ?_
    have m1 := l.cell (i := 0) rfl (o := 1) rfl rfl
    by_cases hk : x.1[i].2.1 = oc
    · simp (disch := omega) only [↓stq, amv_at, vls, inf, frs, mark_eq, ↓reduceIte, Nat.reduceEqDiff, ite_tt, ite_ff, eq_self, and_true, true_and, and_self, implies_true, Bool.true_eq_false, Bool.false_eq_true, decide_true, decide_false, decide_eq_true_eq, decide_eq_false_iff_not, ne_eq, not_true_eq_false, not_false_eq_true, Bool.not_eq_true', Bool.not_eq_false', beq_self_eq_true, Bool.not_true, Bool.not_false, List.getElem?_toArray, List.getElem?_cons_zero, List.getElem?_cons_succ, h1, h5, h9, h10, h11, add_at, m1, eq_true hk]
      rw [if_pos hk] at hnx
      exact ⟨_, by omega, i + 1, by omega, rfl, l.tail, by rw [hnx]; rfl, rfl⟩
    · simp (disch := omega) only [↓stq, amv_at, vls, inf, frs, mark_eq, ↓reduceIte, Nat.reduceEqDiff, ite_tt, ite_ff, eq_self, and_true, true_and, and_self, implies_true, Bool.true_eq_false, Bool.false_eq_true, decide_true, decide_false, decide_eq_true_eq, decide_eq_false_iff_not, ne_eq, not_true_eq_false, not_false_eq_true, Bool.not_eq_true', Bool.not_eq_false', beq_self_eq_true, Bool.not_true, Bool.not_false, List.getElem?_toArray, List.getElem?_cons_zero, List.getElem?_cons_succ, h1, h5, h9, h10, h11, add_at, m1, eq_false hk]
      rw [if_neg hk] at hnx
      exact ⟨_, by omega, i + 1, by omega, rfl, l.tail, by rw [hnx]; rfl, rfl⟩
  · simp (disch := omega) only [↓stq, amv_at, vls, inf, frs, mark_eq, ↓reduceIte, Nat.reduceEqDiff, ite_tt, ite_ff, eq_self, and_true, true_and, and_self, implies_true, Bool.true_eq_false, Bool.false_eq_true, decide_true, decide_false, decide_eq_true_eq, decide_eq_false_iff_not, ne_eq, not_true_eq_false, not_false_eq_true, Bool.not_eq_true', Bool.not_eq_false', beq_self_eq_true, Bool.not_true, Bool.not_false, List.getElem?_toArray, List.getElem?_cons_zero, List.getElem?_cons_succ, h1, h5, h9, h10, h11]
    have hie : i = x.1.length := by omega
    subst hie
    rw [List.take_length]
    exact ⟨rfl, l.ext⟩

theorem spec_CountOutcome_c (A : View) (d : List Value) (x : ReportD) (oc : Int) (h : reportS.rel A x d) (hoc : -9223372036854775808 ≤ oc ∧ oc < 9223372036854775808) : ACalls Tryd.prog 11 #[.agg d.toArray, .int .i64 oc] A fun r V => r = .int .i64 (cntO x.1 oc) ∧ Ext A V := by
  obtain ⟨u0, u1, rfl, g0, g1⟩ := reportS_open h
  obtain ⟨a0, c0, rfl, _, _⟩ := g0.slice
  obtain ⟨a1, c1, rfl, _, _⟩ := g1.slice
  refine acalls Tryd.func11 rfl (by kernel_rfl) ?_
  simp (disch := omega) only [↓stq, amv_at, vls, inf, frs, mark_eq, ↓reduceIte, Nat.reduceEqDiff, ite_tt, ite_ff, eq_self, and_true, true_and, and_self, implies_true, Bool.true_eq_false, Bool.false_eq_true, decide_true, decide_false, decide_eq_true_eq, decide_eq_false_iff_not, ne_eq, not_true_eq_false, not_false_eq_true, Bool.not_eq_true', Bool.not_eq_false', beq_self_eq_true, Bool.not_true, Bool.not_false, List.getElem?_toArray, List.getElem?_cons_zero, List.getElem?_cons_succ]
  refine led_box (Led.nil A) rfl fun q V _ l => ?_
  simp (disch := omega) only [↓stq, amv_at, vls, inf, frs, mark_eq, ↓reduceIte, Nat.reduceEqDiff, ite_tt, ite_ff, eq_self, and_true, true_and, and_self, implies_true, Bool.true_eq_false, Bool.false_eq_true, decide_true, decide_false, decide_eq_true_eq, decide_eq_false_iff_not, ne_eq, not_true_eq_false, not_false_eq_true, Bool.not_eq_true', Bool.not_eq_false', beq_self_eq_true, Bool.not_true, Bool.not_false, List.getElem?_toArray, List.getElem?_cons_zero, List.getElem?_cons_succ]
  refine aloop (fun d fr V => ∃ (i : Nat), i ≤ x.1.length ∧ d = x.1.length - i ∧ Led A [bx q ⟨30, [.slice a0 x.1.length c0, .slice a1 x.2.1.length c1], 2, true⟩] V ∧ fr 1 = .int .i64 oc ∧ fr 2 = .pointer (some ⟨q, 0, none⟩) ∧ fr 5 = .int .i64 (cntO (x.1.take i) oc) ∧ fr 6 = .int .i64 i) x.1.length ⟨0, by omega, by omega, l, rfl, rfl, rfl, rfl⟩ ?_
  clear l
  rintro d fr V ⟨i, hi, rfl, l, h1, h2, h5, h6⟩
  have hcl := cntO_le (x.1.take i) oc
  rw [List.length_take] at hcl
  have k0 := l.cell (i := 0) rfl (o := 0) rfl rfl
  simp (disch := omega) only [↓stq, amv_at, vls, inf, frs, mark_eq, ↓reduceIte, Nat.reduceEqDiff, ite_tt, ite_ff, eq_self, and_true, true_and, and_self, implies_true, Bool.true_eq_false, Bool.false_eq_true, decide_true, decide_false, decide_eq_true_eq, decide_eq_false_iff_not, ne_eq, not_true_eq_false, not_false_eq_true, Bool.not_eq_true', Bool.not_eq_false', beq_self_eq_true, Bool.not_true, Bool.not_false, List.getElem?_toArray, List.getElem?_cons_zero, List.getElem?_cons_succ, h1, h2, h5, h6, add_at, k0]
  refine ⟨fun e1 => ?_, fun e1 => ?_⟩
  · have hlt : i < x.1.length := by omega
    obtain ⟨ad, rfl, hclA, z1, z2⟩ := g0.result hlt
    have hc2 := l.ext.part hclA
    have m1 := View.part_cell hc2 (j := 1) rfl
    have hnx := cntO_take hlt oc
    by_cases hk : x.1[i].2.1 = oc
    · simp (disch := omega) only [↓stq, amv_at, vls, inf, frs, mark_eq, ↓reduceIte, Nat.reduceEqDiff, ite_tt, ite_ff, eq_self, and_true, true_and, and_self, implies_true, Bool.true_eq_false, Bool.false_eq_true, decide_true, decide_false, decide_eq_true_eq, decide_eq_false_iff_not, ne_eq, not_true_eq_false, not_false_eq_true, Bool.not_eq_true', Bool.not_eq_false', beq_self_eq_true, Bool.not_true, Bool.not_false, List.getElem?_toArray, List.getElem?_cons_zero, List.getElem?_cons_succ, h1, h2, h5, h6, add_at, k0, m1, eq_true hk]
      rw [if_pos hk] at hnx
      exact ⟨_, by omega, i + 1, by omega, rfl, l, by rw [hnx]; rfl, rfl⟩
    · simp (disch := omega) only [↓stq, amv_at, vls, inf, frs, mark_eq, ↓reduceIte, Nat.reduceEqDiff, ite_tt, ite_ff, eq_self, and_true, true_and, and_self, implies_true, Bool.true_eq_false, Bool.false_eq_true, decide_true, decide_false, decide_eq_true_eq, decide_eq_false_iff_not, ne_eq, not_true_eq_false, not_false_eq_true, Bool.not_eq_true', Bool.not_eq_false', beq_self_eq_true, Bool.not_true, Bool.not_false, List.getElem?_toArray, List.getElem?_cons_zero, List.getElem?_cons_succ, h1, h2, h5, h6, add_at, k0, m1, eq_false hk]
      rw [if_neg hk] at hnx
      exact ⟨_, by omega, i + 1, by omega, rfl, l, by rw [hnx]; rfl, rfl⟩
  · simp (disch := omega) only [↓stq, amv_at, vls, inf, frs, mark_eq, ↓reduceIte, Nat.reduceEqDiff, ite_tt, ite_ff, eq_self, and_true, true_and, and_self, implies_true, Bool.true_eq_false, Bool.false_eq_true, decide_true, decide_false, decide_eq_true_eq, decide_eq_false_iff_not, ne_eq, not_true_eq_false, not_false_eq_true, Bool.not_eq_true', Bool.not_eq_false', beq_self_eq_true, Bool.not_true, Bool.not_false, List.getElem?_toArray, List.getElem?_cons_zero, List.getElem?_cons_succ, h1, h2, h5, h6]
    have hie : i = x.1.length := by omega
    subst hie
    rw [List.take_length]
    exact ⟨rfl, l.ext⟩

end Go.Proofs.YtggklaimbklefaaDoor

