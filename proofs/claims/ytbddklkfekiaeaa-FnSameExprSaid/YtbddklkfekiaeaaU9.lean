/- Expressions: the program tells whether they hold, and of which tests. -/
import Derived.Test.YtbddklkfekiaeaaU8
import Derived.Test.YtbddklkfekiaeaaU5
set_option maxHeartbeats 4000000
set_option synthInstance.maxHeartbeats 400000
set_option synthInstance.maxSize 4096
set_option linter.unusedSimpArgs false
set_option linter.unusedVariables false
namespace Go.Proofs.Ytbddklkfekiaeaa

set_option maxRecDepth 100000

theorem impl_ok : ∀ (n : Nat) (l : Lv), ImplOk n l
  | 0, _ => fun _ _ _ h => absurd h (Nat.not_lt_zero _)
  | n + 1, .fac => impl_factor_step n (impl_ok n .dis) (impl_ok n .fac)
  | n + 1, .con => impl_con_step n (impl_ok n .fac)
  | n + 1, .dis => impl_dis_step n (impl_ok n .con)

/-- What is read of a text. -/
def GotE (A V : View) (d : List Value) : Option Ex → Prop
  | some e => ∃ fp, Led A [exI fp e d] V
  | none => Ext A V
theorem GotE.ext {A V : View} {d : List Value} {p : Option Ex} (h : GotE A V d p) : Ext A V := by
  cases p with
  | none => exact h
  | some e => obtain ⟨_, l⟩ := h; exact l.ext

theorem impl_readExpr_c (A : View) (s : ByteArray) (hs : s.size ≤ 140737488355328) : ACalls Try.prog 63 #[.string s] A fun r V => ∃ d, r = .tuple #[.agg d.toArray, .bool (isE s)] ∧ Two d ∧ GotE A V d (exprP s) := by
  unfold isE
  refine acalls Try.func63 rfl (by kernel_rfl) ?_
  simp (disch := omega) only [↓stq, amv_at, vls, inf, frs, mark_eq, ↓reduceIte, Nat.reduceEqDiff, ite_tt, ite_ff, eq_self, and_true, true_and, and_self, implies_true, Bool.true_eq_false, Bool.false_eq_true, decide_true, decide_false, decide_eq_true_eq, decide_eq_false_iff_not, ne_eq, not_true_eq_false, not_false_eq_true, Bool.not_eq_true', Bool.not_eq_false', beq_self_eq_true, Bool.not_true, Bool.not_false, List.getElem?_toArray, List.getElem?_cons_zero, List.getElem?_cons_succ]
  refine led_alloc zc64 (Led.nil A) fun q2 V _ l => ?_
  simp (disch := omega) only [↓stq, amv_at, vls, inf, frs, mark_eq, ↓reduceIte, Nat.reduceEqDiff, ite_tt, ite_ff, eq_self, and_true, true_and, and_self, implies_true, Bool.true_eq_false, Bool.false_eq_true, decide_true, decide_false, decide_eq_true_eq, decide_eq_false_iff_not, ne_eq, not_true_eq_false, not_false_eq_true, Bool.not_eq_true', Bool.not_eq_false', beq_self_eq_true, Bool.not_true, Bool.not_false, List.getElem?_toArray, List.getElem?_cons_zero, List.getElem?_cons_succ, List.getElem_toArray, List.getElem_cons_zero, List.getElem_cons_succ]
  refine ⟨fun e => ?_, fun e => ?_⟩ <;> simp (disch := omega) only [↓stq, amv_at, vls, inf, frs, mark_eq, ↓reduceIte, Nat.reduceEqDiff, ite_tt, ite_ff, eq_self, and_true, true_and, and_self, implies_true, Bool.true_eq_false, Bool.false_eq_true, decide_true, decide_false, decide_eq_true_eq, decide_eq_false_iff_not, ne_eq, not_true_eq_false, not_false_eq_true, Bool.not_eq_true', Bool.not_eq_false', beq_self_eq_true, Bool.not_true, Bool.not_false, List.getElem?_toArray, List.getElem?_cons_zero, List.getElem?_cons_succ, List.getElem_toArray, List.getElem_cons_zero, List.getElem_cons_succ, buEx0]
  · refine led_storeAll (d := [.string ⟨#[]⟩, .slice none 0 0]) l 0 rfl sz64 rfl rfl (two_of _ _ _ _).2 fun V6 l => ?_
    have k2 : V6.part ⟨q2, 0, none⟩ 2 = some [.string ⟨#[]⟩, .slice none 0 0] := l.part (i := 0) rfl rfl
    simp (disch := omega) only [↓stq, amv_at, vls, inf, frs, mark_eq, ↓reduceIte, Nat.reduceEqDiff, ite_tt, ite_ff, eq_self, and_true, true_and, and_self, implies_true, Bool.true_eq_false, Bool.false_eq_true, decide_true, decide_false, decide_eq_true_eq, decide_eq_false_iff_not, ne_eq, not_true_eq_false, not_false_eq_true, Bool.not_eq_true', Bool.not_eq_false', beq_self_eq_true, Bool.not_true, Bool.not_false, List.getElem?_toArray, List.getElem?_cons_zero, List.getElem?_cons_succ, List.getElem_toArray, List.getElem_cons_zero, List.getElem_cons_succ, k2]
    rw [exprP_long (by omega)]
    exact ⟨_, rfl, two_of _ _ _ _, l.ext⟩
  · have hle : s.size ≤ 60 := by omega
    have hex := exprP_of hle
    refine (show ACalls Try.prog 96 #[.string s, .string disS] V (ResI V s (parse 1000 .dis s.data.toList)) from impl_ok 1000 .dis V s hle (by show 3 * _ + 2 < 1000; omega)).mono ?_
    rintro _ V2 ⟨d, s', ok, rfl, hd, hs', hg⟩
    have hM : ∃ M, Led A (bx q2 ⟨64, [.string ⟨#[]⟩, .slice none 0 0], 2, true⟩ :: M) V2 ∧ (ok && decide (s' = ⟨#[]⟩)) = (exprP s).isSome ∧ ∀ W, Led A M W → GotE A W d (exprP s) := by
      cases hq : parse 1000 .dis s.data.toList with
      | none =>
        rw [hq] at hg
        rw [hex.1 hq]
        obtain rfl : ok = false := hg.1
        exact ⟨[], l.step hg.2, rfl, fun W lw => lw.ext⟩
      | some er =>
        obtain ⟨e, r⟩ := er
        rw [hq] at hg
        obtain ⟨rfl, rfl, fp, l2⟩ := hg
        refine ⟨[exI fp e d], (l.append l2).perm (List.Perm.swap ..), ?_⟩
        cases r with
        | nil =>
          rw [hex.2.1 e hq]
          exact ⟨rfl, fun W lw => ⟨fp, lw⟩⟩
        | cons y r =>
          rw [hex.2.2 e _ hq (by simp)]
          refine ⟨?_, fun W lw => lw.ext⟩
          rw [Bool.true_and, decide_eq_false]
          · rfl
          · intro h
            have := congrArg ByteArray.size h
            rw [tx_size] at this
            exact absurd this (by show ¬ (y :: r).length = 0; simp)
    obtain ⟨M, l, hok, hM⟩ := hM
    simp (disch := omega) only [↓stq, amv_at, vls, inf, frs, mark_eq, ↓reduceIte, Nat.reduceEqDiff, ite_tt, ite_ff, eq_self, and_true, true_and, and_self, implies_true, Bool.true_eq_false, Bool.false_eq_true, decide_true, decide_false, decide_eq_true_eq, decide_eq_false_iff_not, ne_eq, not_true_eq_false, not_false_eq_true, Bool.not_eq_true', Bool.not_eq_false', beq_self_eq_true, Bool.not_true, Bool.not_false, List.getElem?_toArray, List.getElem?_cons_zero, List.getElem?_cons_succ, List.getElem_toArray, List.getElem_cons_zero, List.getElem_cons_succ]
    refine led_alloc zc64 l fun q4 V3 _ l => ?_
    simp (disch := omega) only [↓stq, amv_at, vls, inf, frs, mark_eq, ↓reduceIte, Nat.reduceEqDiff, ite_tt, ite_ff, eq_self, and_true, true_and, and_self, implies_true, Bool.true_eq_false, Bool.false_eq_true, decide_true, decide_false, decide_eq_true_eq, decide_eq_false_iff_not, ne_eq, not_true_eq_false, not_false_eq_true, Bool.not_eq_true', Bool.not_eq_false', beq_self_eq_true, Bool.not_true, Bool.not_false, List.getElem?_toArray, List.getElem?_cons_zero, List.getElem?_cons_succ, List.getElem_toArray, List.getElem_cons_zero, List.getElem_cons_succ]
    refine led_storeAll l 0 rfl sz64 hd.1 rfl hd.2 fun V4 l => ?_
    have k4 : V4.part ⟨q4, 0, none⟩ 2 = some d := l.partn (i := 0) rfl hd.1 hd.2
    rw [← hok]
    have fin : ∀ V5, Led A (bx q4 ⟨64, d, 2, true⟩ :: bx q2 ⟨64, d, 2, true⟩ :: M) V5 → ∃ d', Value.tuple #[.agg d.toArray, .bool (ok && decide (s' = ⟨#[]⟩))] = .tuple #[.agg d'.toArray, .bool (ok && decide (s' = ⟨#[]⟩))] ∧ Two d' ∧ GotE A V5 d' (exprP s) := fun V5 l => ⟨d, rfl, hd, hM V5 l.tail.tail⟩
    cases ok <;> simp (disch := omega) only [↓stq, amv_at, vls, inf, frs, mark_eq, ↓reduceIte, Nat.reduceEqDiff, ite_tt, ite_ff, eq_self, and_true, true_and, and_self, implies_true, Bool.true_eq_false, Bool.false_eq_true, decide_true, decide_false, decide_eq_true_eq, decide_eq_false_iff_not, ne_eq, not_true_eq_false, not_false_eq_true, Bool.not_eq_true', Bool.not_eq_false', beq_self_eq_true, Bool.not_true, Bool.not_false, List.getElem?_toArray, List.getElem?_cons_zero, List.getElem?_cons_succ, List.getElem_toArray, List.getElem_cons_zero, List.getElem_cons_succ, k4]
    all_goals
      refine led_storeAll l 1 rfl sz64 hd.1 rfl hd.2 fun V6 l => ?_
      have k2 : V6.part ⟨q2, 0, none⟩ 2 = some d := l.partn (i := 1) rfl hd.1 hd.2
      simp (disch := omega) only [↓stq, amv_at, vls, inf, frs, mark_eq, ↓reduceIte, Nat.reduceEqDiff, ite_tt, ite_ff, eq_self, and_true, true_and, and_self, implies_true, Bool.true_eq_false, Bool.false_eq_true, decide_true, decide_false, decide_eq_true_eq, decide_eq_false_iff_not, ne_eq, not_true_eq_false, not_false_eq_true, Bool.not_eq_true', Bool.not_eq_false', beq_self_eq_true, Bool.not_true, Bool.not_false, List.getElem?_toArray, List.getElem?_cons_zero, List.getElem?_cons_succ, List.getElem_toArray, List.getElem_cons_zero, List.getElem_cons_succ, k2]
      exact fin V6 l

theorem impl_ValidExpr_c (A : View) (s : ByteArray) (hs : s.size ≤ 140737488355328) : ACalls Try.prog 29 #[.string s] A fun r V => r = .bool (isE s) ∧ Ext A V := by
  refine acalls Try.func29 rfl (by kernel_rfl) ?_
  simp (disch := omega) only [↓stq, amv_at, vls, inf, frs, mark_eq, ↓reduceIte, Nat.reduceEqDiff, ite_tt, ite_ff, eq_self, and_true, true_and, and_self, implies_true, Bool.true_eq_false, Bool.false_eq_true, decide_true, decide_false, decide_eq_true_eq, decide_eq_false_iff_not, ne_eq, not_true_eq_false, not_false_eq_true, Bool.not_eq_true', Bool.not_eq_false', beq_self_eq_true, Bool.not_true, Bool.not_false, List.getElem?_toArray, List.getElem?_cons_zero, List.getElem?_cons_succ]
  refine (impl_readExpr_c A s hs).mono ?_
  rintro _ V ⟨d, rfl, hd, hg⟩
  have l := (Led.nil A).step hg.ext
  simp (disch := omega) only [↓stq, amv_at, vls, inf, frs, mark_eq, ↓reduceIte, Nat.reduceEqDiff, ite_tt, ite_ff, eq_self, and_true, true_and, and_self, implies_true, Bool.true_eq_false, Bool.false_eq_true, decide_true, decide_false, decide_eq_true_eq, decide_eq_false_iff_not, ne_eq, not_true_eq_false, not_false_eq_true, Bool.not_eq_true', Bool.not_eq_false', beq_self_eq_true, Bool.not_true, Bool.not_false, List.getElem?_toArray, List.getElem?_cons_zero, List.getElem?_cons_succ]
  refine led_alloc zc64 l fun q4 V3 _ l => ?_
  simp (disch := omega) only [↓stq, amv_at, vls, inf, frs, mark_eq, ↓reduceIte, Nat.reduceEqDiff, ite_tt, ite_ff, eq_self, and_true, true_and, and_self, implies_true, Bool.true_eq_false, Bool.false_eq_true, decide_true, decide_false, decide_eq_true_eq, decide_eq_false_iff_not, ne_eq, not_true_eq_false, not_false_eq_true, Bool.not_eq_true', Bool.not_eq_false', beq_self_eq_true, Bool.not_true, Bool.not_false, List.getElem?_toArray, List.getElem?_cons_zero, List.getElem?_cons_succ]
  refine led_storeAll l 0 rfl sz64 hd.1 rfl hd.2 fun V4 l => ?_
  simp (disch := omega) only [↓stq, amv_at, vls, inf, frs, mark_eq, ↓reduceIte, Nat.reduceEqDiff, ite_tt, ite_ff, eq_self, and_true, true_and, and_self, implies_true, Bool.true_eq_false, Bool.false_eq_true, decide_true, decide_false, decide_eq_true_eq, decide_eq_false_iff_not, ne_eq, not_true_eq_false, not_false_eq_true, Bool.not_eq_true', Bool.not_eq_false', beq_self_eq_true, Bool.not_true, Bool.not_false, List.getElem?_toArray, List.getElem?_cons_zero, List.getElem?_cons_succ]
  exact l.ext

theorem nm_ne {w : ByteArray} (h : nmOk w = true) : (w = ⟨#[110, 111, 116]⟩) = False ∧ (w = ⟨#[97, 110, 100]⟩) = False ∧ (w = ⟨#[111, 114]⟩) = False := by
  unfold nmOk at h
  simp only [Bool.and_eq_true, Bool.not_eq_true', decide_eq_false_iff_not] at h
  exact ⟨eq_false h.2.2, eq_false h.2.1.1.2, eq_false h.2.1.2⟩
theorem nm_byte {w : ByteArray} (h : nmOk w = true) : 97 ≤ sbyte w 0 := by
  have hz := (nm_size h).1
  have h1 := lettr_sbyte (s := w) (i := 0) (by omega)
  obtain ⟨x, t, hx, hl⟩ := nm_first h
  have h2 : lettr (w.data.toList[0]'(by rw [toList_len]; omega)) = true := by
    have : w.data.toList[0]'(by rw [toList_len]; omega) = x := by simp only [hx, List.getElem_cons_zero]
    rw [this]; exact hl
  rw [h2] at h1
  have := h1.symm
  rw [Bool.and_eq_true, decide_eq_true_eq] at this
  exact this.1
theorem at_list (w : ByteArray) : (atS w).data.toList = 64 :: w.data.toList := by
  unfold atS
  rw [ByteArray.data_append, Array.toList_append]
  rfl
theorem at_size (w : ByteArray) : (atS w).size = w.size + 1 := by
  rw [← toList_len, at_list, List.length_cons, toList_len]
theorem at_ne (w : ByteArray) : (atS w = ⟨#[110, 111, 116]⟩) = False ∧ (atS w = ⟨#[97, 110, 100]⟩) = False ∧ (atS w = ⟨#[111, 114]⟩) = False := by
  have key : ∀ (x : UInt8) (t : Bs), x ≠ 64 → (atS w).data.toList ≠ x :: t := fun x t hx h => by
    rw [at_list] at h
    injection h with h _
    exact hx h.symm
  refine ⟨eq_false fun h => ?_, eq_false fun h => ?_, eq_false fun h => ?_⟩
  · exact key 110 [111, 116] (by decide) (by rw [h])
  · exact key 97 [110, 100] (by decide) (by rw [h])
  · exact key 111 [114] (by decide) (by rw [h])
theorem at_byte (w : ByteArray) : sbyte (atS w) 0 = 64 := by
  obtain ⟨b, h1, h2⟩ := sbyte_at (s := atS w) (i := 0) (by rw [at_size]; omega)
  rw [at_list] at h1
  rw [h2, ← Option.some.inj h1]
  rfl
theorem at_cut (w : ByteArray) : (atS w).extract 1 (atS w).size = w := by
  rw [extract_tx, at_list, List.drop_succ_cons, List.drop_zero, tx_self]

theorem impl_holds_c (m : ByteArray) (vm : Value) (marks : List ByteArray) : ∀ (e : Ex) (A : View) (d : List Value), ExR A e d → Sl strS A vm marks → ACalls Try.prog 64 #[.agg d.toArray, .string m, vm] A fun r V => r = .bool (e.ev m marks) ∧ Ext A V := by
  intro e
  induction e with
  | mark w =>
    intro A d hx hm
    obtain ⟨am, cm, rfl, _, _⟩ := hm.slice
    cases hx with
    | mark hw =>
      have hne := nm_ne hw
      have hz := nm_size hw
      have hb := nm_byte hw
      refine acalls Try.func64 rfl (by kernel_rfl) ?_
      simp (disch := omega) only [↓stq, amv_at, vls, inf, frs, mark_eq, ↓reduceIte, Nat.reduceEqDiff, ite_tt, ite_ff, eq_self, and_true, true_and, and_self, implies_true, Bool.true_eq_false, Bool.false_eq_true, decide_true, decide_false, decide_eq_true_eq, decide_eq_false_iff_not, ne_eq, not_true_eq_false, not_false_eq_true, Bool.not_eq_true', Bool.not_eq_false', beq_self_eq_true, Bool.not_true, Bool.not_false, List.getElem?_toArray, List.getElem?_cons_zero, List.getElem?_cons_succ]
      refine led_box (Led.nil A) rfl fun q V _ l => ?_
      have k0 := l.cell (i := 0) rfl (o := 0) rfl rfl
      simp (disch := omega) only [↓stq, amv_at, vls, inf, frs, mark_eq, ↓reduceIte, Nat.reduceEqDiff, ite_tt, ite_ff, eq_self, and_true, true_and, and_self, implies_true, Bool.true_eq_false, Bool.false_eq_true, decide_true, decide_false, decide_eq_true_eq, decide_eq_false_iff_not, ne_eq, not_true_eq_false, not_false_eq_true, Bool.not_eq_true', Bool.not_eq_false', beq_self_eq_true, Bool.not_true, Bool.not_false, List.getElem?_toArray, List.getElem?_cons_zero, List.getElem?_cons_succ, add_at, k0, hne.1, hne.2.1, hne.2.2, Int.toNat_zero]
      have hb2 : ((sbyte w 0 : Nat) : Int) = 64 ↔ False := ⟨fun h => by omega, False.elim⟩
      simp (disch := omega) only [↓stq, amv_at, vls, inf, frs, mark_eq, ↓reduceIte, Nat.reduceEqDiff, ite_tt, ite_ff, eq_self, and_true, true_and, and_self, implies_true, Bool.true_eq_false, Bool.false_eq_true, decide_true, decide_false, decide_eq_true_eq, decide_eq_false_iff_not, ne_eq, not_true_eq_false, not_false_eq_true, Bool.not_eq_true', Bool.not_eq_false', beq_self_eq_true, Bool.not_true, Bool.not_false, List.getElem?_toArray, List.getElem?_cons_zero, List.getElem?_cons_succ, add_at, k0, hb2]
      refine (contains_str_c V _ marks w (hm.mono l.ext)).mono ?_
      rintro _ V ⟨rfl, rfl⟩
      simp (disch := omega) only [↓stq, amv_at, vls, inf, frs, mark_eq, ↓reduceIte, Nat.reduceEqDiff, ite_tt, ite_ff, eq_self, and_true, true_and, and_self, implies_true, Bool.true_eq_false, Bool.false_eq_true, decide_true, decide_false, decide_eq_true_eq, decide_eq_false_iff_not, ne_eq, not_true_eq_false, not_false_eq_true, Bool.not_eq_true', Bool.not_eq_false', beq_self_eq_true, Bool.not_true, Bool.not_false, List.getElem?_toArray, List.getElem?_cons_zero, List.getElem?_cons_succ]
      exact ⟨rfl, l.ext⟩
  | mod w =>
    intro A d hx hm
    obtain ⟨am, cm, rfl, _, _⟩ := hm.slice
    cases hx with
    | mod hw =>
      have hne := at_ne w
      have hz := at_size w
      have hb := at_byte w
      have hc := at_cut w
      refine acalls Try.func64 rfl (by kernel_rfl) ?_
      simp (disch := omega) only [↓stq, amv_at, vls, inf, frs, mark_eq, ↓reduceIte, Nat.reduceEqDiff, ite_tt, ite_ff, eq_self, and_true, true_and, and_self, implies_true, Bool.true_eq_false, Bool.false_eq_true, decide_true, decide_false, decide_eq_true_eq, decide_eq_false_iff_not, ne_eq, not_true_eq_false, not_false_eq_true, Bool.not_eq_true', Bool.not_eq_false', beq_self_eq_true, Bool.not_true, Bool.not_false, List.getElem?_toArray, List.getElem?_cons_zero, List.getElem?_cons_succ]
      refine led_box (Led.nil A) rfl fun q V _ l => ?_
      have k0 := l.cell (i := 0) rfl (o := 0) rfl rfl
      simp (disch := omega) only [↓stq, amv_at, vls, inf, frs, mark_eq, ↓reduceIte, Nat.reduceEqDiff, ite_tt, ite_ff, eq_self, and_true, true_and, and_self, implies_true, Bool.true_eq_false, Bool.false_eq_true, decide_true, decide_false, decide_eq_true_eq, decide_eq_false_iff_not, ne_eq, not_true_eq_false, not_false_eq_true, Bool.not_eq_true', Bool.not_eq_false', beq_self_eq_true, Bool.not_true, Bool.not_false, List.getElem?_toArray, List.getElem?_cons_zero, List.getElem?_cons_succ, add_at, k0, hne.1, hne.2.1, hne.2.2, Int.toNat_zero]
      have hb2 : ((sbyte (atS w) 0 : Nat) : Int) = 64 := by rw [hb]; rfl
      simp (disch := omega) only [↓stq, amv_at, vls, inf, frs, mark_eq, ↓reduceIte, Nat.reduceEqDiff, ite_tt, ite_ff, eq_self, and_true, true_and, and_self, implies_true, Bool.true_eq_false, Bool.false_eq_true, decide_true, decide_false, decide_eq_true_eq, decide_eq_false_iff_not, ne_eq, not_true_eq_false, not_false_eq_true, Bool.not_eq_true', Bool.not_eq_false', beq_self_eq_true, Bool.not_true, Bool.not_false, List.getElem?_toArray, List.getElem?_cons_zero, List.getElem?_cons_succ, add_at, k0, hb2]
      have h1 : Int.toNat 1 = 1 := rfl
      simp (disch := omega) only [↓stq, amv_at, vls, inf, frs, mark_eq, ↓reduceIte, Nat.reduceEqDiff, ite_tt, ite_ff, eq_self, and_true, true_and, and_self, implies_true, Bool.true_eq_false, Bool.false_eq_true, decide_true, decide_false, decide_eq_true_eq, decide_eq_false_iff_not, ne_eq, not_true_eq_false, not_false_eq_true, Bool.not_eq_true', Bool.not_eq_false', beq_self_eq_true, Bool.not_true, Bool.not_false, List.getElem?_toArray, List.getElem?_cons_zero, List.getElem?_cons_succ, add_at, k0, h1, hc]
      exact ⟨rfl, l.ext⟩
  | neg e ih =>
    intro A d hx hm
    obtain ⟨am, cm, rfl, _, _⟩ := hm.slice
    cases hx with
    | @neg _ d1 b c hx hp =>
      have hne : (notS = (⟨#[110, 111, 116]⟩ : ByteArray)) = True := eq_true rfl
      refine acalls Try.func64 rfl (by kernel_rfl) ?_
      simp (disch := omega) only [↓stq, amv_at, vls, inf, frs, mark_eq, ↓reduceIte, Nat.reduceEqDiff, ite_tt, ite_ff, eq_self, and_true, true_and, and_self, implies_true, Bool.true_eq_false, Bool.false_eq_true, decide_true, decide_false, decide_eq_true_eq, decide_eq_false_iff_not, ne_eq, not_true_eq_false, not_false_eq_true, Bool.not_eq_true', Bool.not_eq_false', beq_self_eq_true, Bool.not_true, Bool.not_false, List.getElem?_toArray, List.getElem?_cons_zero, List.getElem?_cons_succ]
      refine led_box (Led.nil A) rfl fun q V _ l => ?_
      have k0 := l.cell (i := 0) rfl (o := 0) rfl rfl
      have k1 := l.cell (i := 0) rfl (o := 1) rfl rfl
      have hp := l.ext.part hp
      simp (disch := omega) only [↓stq, amv_at, vls, inf, frs, mark_eq, ↓reduceIte, Nat.reduceEqDiff, ite_tt, ite_ff, eq_self, and_true, true_and, and_self, implies_true, Bool.true_eq_false, Bool.false_eq_true, decide_true, decide_false, decide_eq_true_eq, decide_eq_false_iff_not, ne_eq, not_true_eq_false, not_false_eq_true, Bool.not_eq_true', Bool.not_eq_false', beq_self_eq_true, Bool.not_true, Bool.not_false, List.getElem?_toArray, List.getElem?_cons_zero, List.getElem?_cons_succ, add_at, k0, k1, hne, Int.toNat_zero, Nat.zero_mul, Nat.add_zero, hp]
      refine (ih V d1 (hx.mono l.ext) (hm.mono l.ext)).mono ?_
      rintro _ V2 ⟨rfl, he⟩
      simp (disch := omega) only [↓stq, amv_at, vls, inf, frs, mark_eq, ↓reduceIte, Nat.reduceEqDiff, ite_tt, ite_ff, eq_self, and_true, true_and, and_self, implies_true, Bool.true_eq_false, Bool.false_eq_true, decide_true, decide_false, decide_eq_true_eq, decide_eq_false_iff_not, ne_eq, not_true_eq_false, not_false_eq_true, Bool.not_eq_true', Bool.not_eq_false', beq_self_eq_true, Bool.not_true, Bool.not_false, List.getElem?_toArray, List.getElem?_cons_zero, List.getElem?_cons_succ]
      exact ⟨rfl, l.ext.trans he⟩
  | con e1 e2 ih1 ih2 =>
    intro A d hx hm
    obtain ⟨am, cm, rfl, _, _⟩ := hm.slice
    cases hx with
    | @con _ _ d1 d2 b c hx1 hx2 hp1 hp2 =>
      have hn1 : (conS = (⟨#[110, 111, 116]⟩ : ByteArray)) = False := eq_false (by decide)
      have hn2 : (conS = (⟨#[97, 110, 100]⟩ : ByteArray)) = True := eq_true rfl
      have hn3 : (disS = (⟨#[110, 111, 116]⟩ : ByteArray)) = False := eq_false (by decide)
      have hn4 : (disS = (⟨#[97, 110, 100]⟩ : ByteArray)) = False := eq_false (by decide)
      have hn5 : (disS = (⟨#[111, 114]⟩ : ByteArray)) = True := eq_true rfl
      have h1 : Int.toNat 1 = 1 := rfl
      refine acalls Try.func64 rfl (by kernel_rfl) ?_
      simp (disch := omega) only [↓stq, amv_at, vls, inf, frs, mark_eq, ↓reduceIte, Nat.reduceEqDiff, ite_tt, ite_ff, eq_self, and_true, true_and, and_self, implies_true, Bool.true_eq_false, Bool.false_eq_true, decide_true, decide_false, decide_eq_true_eq, decide_eq_false_iff_not, ne_eq, not_true_eq_false, not_false_eq_true, Bool.not_eq_true', Bool.not_eq_false', beq_self_eq_true, Bool.not_true, Bool.not_false, List.getElem?_toArray, List.getElem?_cons_zero, List.getElem?_cons_succ]
      refine led_box (Led.nil A) rfl fun q V _ l => ?_
      have k0 := l.cell (i := 0) rfl (o := 0) rfl rfl
      have k1 := l.cell (i := 0) rfl (o := 1) rfl rfl
      have hp1 := l.ext.part hp1
      simp (disch := omega) only [↓stq, amv_at, vls, inf, frs, mark_eq, ↓reduceIte, Nat.reduceEqDiff, ite_tt, ite_ff, eq_self, and_true, true_and, and_self, implies_true, Bool.true_eq_false, Bool.false_eq_true, decide_true, decide_false, decide_eq_true_eq, decide_eq_false_iff_not, ne_eq, not_true_eq_false, not_false_eq_true, Bool.not_eq_true', Bool.not_eq_false', beq_self_eq_true, Bool.not_true, Bool.not_false, List.getElem?_toArray, List.getElem?_cons_zero, List.getElem?_cons_succ, add_at, k0, k1, hn1, hn2, hn3, hn4, hn5, Int.toNat_zero, Nat.zero_mul, Nat.add_zero, hp1]
      refine (ih1 V d1 (hx1.mono l.ext) (hm.mono l.ext)).mono ?_
      rintro _ V2 ⟨rfl, he⟩
      replace l := l.step he
      have k1 := l.cell (i := 0) rfl (o := 1) rfl rfl
      have hp2 := l.ext.part hp2
      rw [show Ex.ev m marks (Ex.con e1 e2) = Bool.and (e1.ev m marks) (e2.ev m marks) from rfl]
      obtain ⟨b1, hb1⟩ : ∃ b1, e1.ev m marks = b1 := ⟨_, rfl⟩
      rw [hb1]
      cases b1 with
      | false =>
        simp (disch := omega) only [↓stq, amv_at, vls, inf, frs, mark_eq, ↓reduceIte, Nat.reduceEqDiff, ite_tt, ite_ff, eq_self, and_true, true_and, and_self, implies_true, Bool.true_eq_false, Bool.false_eq_true, decide_true, decide_false, decide_eq_true_eq, decide_eq_false_iff_not, ne_eq, not_true_eq_false, not_false_eq_true, Bool.not_eq_true', Bool.not_eq_false', beq_self_eq_true, Bool.not_true, Bool.not_false, List.getElem?_toArray, List.getElem?_cons_zero, List.getElem?_cons_succ, add_at, k0, k1]
        exact ⟨rfl, l.ext⟩
      | _ =>
        simp (disch := omega) only [↓stq, amv_at, vls, inf, frs, mark_eq, ↓reduceIte, Nat.reduceEqDiff, ite_tt, ite_ff, eq_self, and_true, true_and, and_self, implies_true, Bool.true_eq_false, Bool.false_eq_true, decide_true, decide_false, decide_eq_true_eq, decide_eq_false_iff_not, ne_eq, not_true_eq_false, not_false_eq_true, Bool.not_eq_true', Bool.not_eq_false', beq_self_eq_true, Bool.not_true, Bool.not_false, List.getElem?_toArray, List.getElem?_cons_zero, List.getElem?_cons_succ, add_at, k1, h1, Nat.one_mul, hp2]
        refine (ih2 V2 d2 (hx2.mono l.ext) (hm.mono l.ext)).mono ?_
        rintro _ V3 ⟨rfl, he⟩
        simp (disch := omega) only [↓stq, amv_at, vls, inf, frs, mark_eq, ↓reduceIte, Nat.reduceEqDiff, ite_tt, ite_ff, eq_self, and_true, true_and, and_self, implies_true, Bool.true_eq_false, Bool.false_eq_true, decide_true, decide_false, decide_eq_true_eq, decide_eq_false_iff_not, ne_eq, not_true_eq_false, not_false_eq_true, Bool.not_eq_true', Bool.not_eq_false', beq_self_eq_true, Bool.not_true, Bool.not_false, List.getElem?_toArray, List.getElem?_cons_zero, List.getElem?_cons_succ]
        exact ⟨rfl, l.ext.trans he⟩

  | dis e1 e2 ih1 ih2 =>
    intro A d hx hm
    obtain ⟨am, cm, rfl, _, _⟩ := hm.slice
    cases hx with
    | @dis _ _ d1 d2 b c hx1 hx2 hp1 hp2 =>
      have hn1 : (conS = (⟨#[110, 111, 116]⟩ : ByteArray)) = False := eq_false (by decide)
      have hn2 : (conS = (⟨#[97, 110, 100]⟩ : ByteArray)) = True := eq_true rfl
      have hn3 : (disS = (⟨#[110, 111, 116]⟩ : ByteArray)) = False := eq_false (by decide)
      have hn4 : (disS = (⟨#[97, 110, 100]⟩ : ByteArray)) = False := eq_false (by decide)
      have hn5 : (disS = (⟨#[111, 114]⟩ : ByteArray)) = True := eq_true rfl
      have h1 : Int.toNat 1 = 1 := rfl
      refine acalls Try.func64 rfl (by kernel_rfl) ?_
      simp (disch := omega) only [↓stq, amv_at, vls, inf, frs, mark_eq, ↓reduceIte, Nat.reduceEqDiff, ite_tt, ite_ff, eq_self, and_true, true_and, and_self, implies_true, Bool.true_eq_false, Bool.false_eq_true, decide_true, decide_false, decide_eq_true_eq, decide_eq_false_iff_not, ne_eq, not_true_eq_false, not_false_eq_true, Bool.not_eq_true', Bool.not_eq_false', beq_self_eq_true, Bool.not_true, Bool.not_false, List.getElem?_toArray, List.getElem?_cons_zero, List.getElem?_cons_succ]
      refine led_box (Led.nil A) rfl fun q V _ l => ?_
      have k0 := l.cell (i := 0) rfl (o := 0) rfl rfl
      have k1 := l.cell (i := 0) rfl (o := 1) rfl rfl
      have hp1 := l.ext.part hp1
      simp (disch := omega) only [↓stq, amv_at, vls, inf, frs, mark_eq, ↓reduceIte, Nat.reduceEqDiff, ite_tt, ite_ff, eq_self, and_true, true_and, and_self, implies_true, Bool.true_eq_false, Bool.false_eq_true, decide_true, decide_false, decide_eq_true_eq, decide_eq_false_iff_not, ne_eq, not_true_eq_false, not_false_eq_true, Bool.not_eq_true', Bool.not_eq_false', beq_self_eq_true, Bool.not_true, Bool.not_false, List.getElem?_toArray, List.getElem?_cons_zero, List.getElem?_cons_succ, add_at, k0, k1, hn1, hn2, hn3, hn4, hn5, Int.toNat_zero, Nat.zero_mul, Nat.add_zero, hp1]
      refine (ih1 V d1 (hx1.mono l.ext) (hm.mono l.ext)).mono ?_
      rintro _ V2 ⟨rfl, he⟩
      replace l := l.step he
      have k1 := l.cell (i := 0) rfl (o := 1) rfl rfl
      have hp2 := l.ext.part hp2
      rw [show Ex.ev m marks (Ex.dis e1 e2) = Bool.or (e1.ev m marks) (e2.ev m marks) from rfl]
      obtain ⟨b1, hb1⟩ : ∃ b1, e1.ev m marks = b1 := ⟨_, rfl⟩
      rw [hb1]
      cases b1 with
      | true =>
        simp (disch := omega) only [↓stq, amv_at, vls, inf, frs, mark_eq, ↓reduceIte, Nat.reduceEqDiff, ite_tt, ite_ff, eq_self, and_true, true_and, and_self, implies_true, Bool.true_eq_false, Bool.false_eq_true, decide_true, decide_false, decide_eq_true_eq, decide_eq_false_iff_not, ne_eq, not_true_eq_false, not_false_eq_true, Bool.not_eq_true', Bool.not_eq_false', beq_self_eq_true, Bool.not_true, Bool.not_false, List.getElem?_toArray, List.getElem?_cons_zero, List.getElem?_cons_succ, add_at, k0, k1]
        exact ⟨rfl, l.ext⟩
      | _ =>
        simp (disch := omega) only [↓stq, amv_at, vls, inf, frs, mark_eq, ↓reduceIte, Nat.reduceEqDiff, ite_tt, ite_ff, eq_self, and_true, true_and, and_self, implies_true, Bool.true_eq_false, Bool.false_eq_true, decide_true, decide_false, decide_eq_true_eq, decide_eq_false_iff_not, ne_eq, not_true_eq_false, not_false_eq_true, Bool.not_eq_true', Bool.not_eq_false', beq_self_eq_true, Bool.not_true, Bool.not_false, List.getElem?_toArray, List.getElem?_cons_zero, List.getElem?_cons_succ, add_at, k1, h1, Nat.one_mul, hp2]
        refine (ih2 V2 d2 (hx2.mono l.ext) (hm.mono l.ext)).mono ?_
        rintro _ V3 ⟨rfl, he⟩
        simp (disch := omega) only [↓stq, amv_at, vls, inf, frs, mark_eq, ↓reduceIte, Nat.reduceEqDiff, ite_tt, ite_ff, eq_self, and_true, true_and, and_self, implies_true, Bool.true_eq_false, Bool.false_eq_true, decide_true, decide_false, decide_eq_true_eq, decide_eq_false_iff_not, ne_eq, not_true_eq_false, not_false_eq_true, Bool.not_eq_true', Bool.not_eq_false', beq_self_eq_true, Bool.not_true, Bool.not_false, List.getElem?_toArray, List.getElem?_cons_zero, List.getElem?_cons_succ]
        exact ⟨rfl, l.ext.trans he⟩

end Go.Proofs.Ytbddklkfekiaeaa

