/- The law FnMatches. -/
import Derived.Test.YtbddklkfekiaeaaUI
set_option maxHeartbeats 4000000
set_option synthInstance.maxHeartbeats 400000
set_option synthInstance.maxSize 4096
set_option linter.unusedSimpArgs false
set_option linter.unusedVariables false
namespace Go.Proofs.Ytbddklkfekiaeaa

set_option maxRecDepth 100000

theorem one_sl {V : View} {bl c : Nat} {x : TestD} {d : List Value} (hp : V.part ⟨bl, 0, none⟩ 4 = some d) (h : testS.rel V x d) (hc : 1 ≤ c) : Sl testS V (.slice (some ⟨bl, 0, none⟩) 1 c) [x] :=
  ⟨by simp, _, c, rfl, by simpa using hc, fun _ => ⟨_, _, rfl, hp, by have := Elems.cons (S := testS) (A := V) (x := x) (xs := []) h .nil; simpa using this⟩⟩
theorem testsB_one (x : TestD) : testsB [x] = testB x := by
  unfold testsB
  simp

theorem spec_Matches2_c (A : View) (s : ByteArray) (d : List Value) (x : TestD) (h : testS.rel A x d) : ACalls Try.prog 28 #[.string s, .agg d.toArray] A fun r V => r = .bool (testB x && mtE s x) ∧ Ext A V :=
  (spec_Matches_c A s d x h).mono fun r V h => ⟨h.1.trans (by unfold mtE; cases exprP s <;> rfl), h.2⟩

theorem law_FnMatches (A : View) (v0 : Value) (x0 : List UInt8) (h0 : Sl byteS A v0 x0) : ACalls Try.prog 5 #[v0] A fun r _ => r = .bool true := by
  obtain ⟨a, c, rfl, _, _⟩ := h0.slice
  refine acalls Try.func5 rfl (by kernel_rfl) ?_
  simp (disch := omega) only [↓stq, amv_at, vls, inf, frs, mark_eq, ↓reduceIte, Nat.reduceEqDiff, ite_tt, ite_ff, eq_self, and_true, true_and, and_self, implies_true, Bool.true_eq_false, Bool.false_eq_true, decide_true, decide_false, decide_eq_true_eq, decide_eq_false_iff_not, ne_eq, not_true_eq_false, not_false_eq_true, Bool.not_eq_true', Bool.not_eq_false', beq_self_eq_true, Bool.not_true, Bool.not_false, List.getElem?_toArray, List.getElem?_cons_zero, List.getElem?_cons_succ]
  refine ⟨fun e => ?_, fun e => ?_⟩ <;> simp (disch := omega) only [↓stq, amv_at, vls, inf, frs, mark_eq, ↓reduceIte, Nat.reduceEqDiff, ite_tt, ite_ff, eq_self, and_true, true_and, and_self, implies_true, Bool.true_eq_false, Bool.false_eq_true, decide_true, decide_false, decide_eq_true_eq, decide_eq_false_iff_not, ne_eq, not_true_eq_false, not_false_eq_true, Bool.not_eq_true', Bool.not_eq_false', beq_self_eq_true, Bool.not_true, Bool.not_false, List.getElem?_toArray, List.getElem?_cons_zero, List.getElem?_cons_succ]
  refine (DrawMatches_c A _ x0 h0).mono ?_
  rintro _ B ⟨s, x, d, rfl, hs, hg, hx, _⟩
  obtain ⟨u2, u3, rfl, z1, z2, f2, f3⟩ := testS_open hx
  obtain ⟨a2, c2, rfl, _, _⟩ := f2.slice
  obtain ⟨a3, c3, rfl, _, _⟩ := f3.slice
  simp (disch := omega) only [↓stq, amv_at, vls, inf, frs, mark_eq, ↓reduceIte, Nat.reduceEqDiff, ite_tt, ite_ff, eq_self, and_true, true_and, and_self, implies_true, Bool.true_eq_false, Bool.false_eq_true, decide_true, decide_false, decide_eq_true_eq, decide_eq_false_iff_not, ne_eq, not_true_eq_false, not_false_eq_true, Bool.not_eq_true', Bool.not_eq_false', beq_self_eq_true, Bool.not_true, Bool.not_false, List.getElem?_toArray, List.getElem?_cons_zero, List.getElem?_cons_succ]
  refine led_alloc zc34 (Led.nil B) fun q V _ l => ?_
  simp (disch := omega) only [↓stq, amv_at, vls, inf, frs, mark_eq, ↓reduceIte, Nat.reduceEqDiff, ite_tt, ite_ff, eq_self, and_true, true_and, and_self, implies_true, Bool.true_eq_false, Bool.false_eq_true, decide_true, decide_false, decide_eq_true_eq, decide_eq_false_iff_not, ne_eq, not_true_eq_false, not_false_eq_true, Bool.not_eq_true', Bool.not_eq_false', beq_self_eq_true, Bool.not_true, Bool.not_false, List.getElem?_toArray, List.getElem?_cons_zero, List.getElem?_cons_succ]
  refine led_storeAll l 0 rfl sz34 rfl rfl (by simp [Value.oneCell']) fun V l => ?_
  have rel : ∀ V, Ext B V → testS.rel V x [.string x.1, .string x.2.1, .slice a2 x.2.2.1.length c2, .slice a3 x.2.2.2.1.length c3] := fun V he => testS_mk z1 z2 (f2.mono he) (f3.mono he)
  have kp : V.part ⟨q, 0, none⟩ 4 = some [.string x.1, .string x.2.1, .slice a2 x.2.2.1.length c2, .slice a3 x.2.2.2.1.length c3] := l.part (i := 0) rfl rfl
  simp (disch := omega) only [↓stq, amv_at, vls, inf, frs, mark_eq, ↓reduceIte, Nat.reduceEqDiff, ite_tt, ite_ff, eq_self, and_true, true_and, and_self, implies_true, Bool.true_eq_false, Bool.false_eq_true, decide_true, decide_false, decide_eq_true_eq, decide_eq_false_iff_not, ne_eq, not_true_eq_false, not_false_eq_true, Bool.not_eq_true', Bool.not_eq_false', beq_self_eq_true, Bool.not_true, Bool.not_false, List.getElem?_toArray, List.getElem?_cons_zero, List.getElem?_cons_succ, kp]
  refine (impl_Matches_c V s _ x (rel V l.ext) (by omega)).mono ?_
  rintro _ V2 ⟨rfl, he2⟩
  replace l := l.step he2
  have kp := he2.part kp
  simp (disch := omega) only [↓stq, amv_at, vls, inf, frs, mark_eq, ↓reduceIte, Nat.reduceEqDiff, ite_tt, ite_ff, eq_self, and_true, true_and, and_self, implies_true, Bool.true_eq_false, Bool.false_eq_true, decide_true, decide_false, decide_eq_true_eq, decide_eq_false_iff_not, ne_eq, not_true_eq_false, not_false_eq_true, Bool.not_eq_true', Bool.not_eq_false', beq_self_eq_true, Bool.not_true, Bool.not_false, List.getElem?_toArray, List.getElem?_cons_zero, List.getElem?_cons_succ, kp]
  refine (spec_Matches2_c V2 s _ x (rel V2 l.ext)).mono ?_
  rintro _ V3 ⟨rfl, he3⟩
  replace l := l.step he3
  have kp := he3.part kp
  obtain ⟨b, hbq⟩ : ∃ b, (testB x && mtE s x) = b := ⟨_, rfl⟩
  rw [hbq]
  have hbb : (!(b == b)) = false := by simp
  have hbt : (b == b) = true := by simp
  simp (disch := omega) only [↓stq, amv_at, vls, inf, frs, mark_eq, ↓reduceIte, Nat.reduceEqDiff, ite_tt, ite_ff, eq_self, and_true, true_and, and_self, implies_true, Bool.true_eq_false, Bool.false_eq_true, decide_true, decide_false, decide_eq_true_eq, decide_eq_false_iff_not, ne_eq, not_true_eq_false, not_false_eq_true, Bool.not_eq_true', Bool.not_eq_false', beq_self_eq_true, Bool.not_true, Bool.not_false, List.getElem?_toArray, List.getElem?_cons_zero, List.getElem?_cons_succ, kp, hbb, hbt]
  have fin : ∀ V, Ext B V → ACalls Try.prog 28 #[.string s, .agg #[.string x.1, .string x.2.1, .slice a2 x.2.2.1.length c2, .slice a3 x.2.2.2.1.length c3]] V fun r V' => r = .bool b ∧ Ext V V' := fun V he => (spec_Matches2_c V s _ x (rel V he)).mono fun r V' h => by
    rw [hbq] at h
    exact h
  refine (impl_ValidExpr_c V3 s (by omega)).mono ?_
  rintro _ V4 ⟨rfl, he4⟩
  replace l := l.step he4
  have kp := he4.part kp
  simp (disch := omega) only [↓stq, amv_at, vls, inf, frs, mark_eq, ↓reduceIte, Nat.reduceEqDiff, ite_tt, ite_ff, eq_self, and_true, true_and, and_self, implies_true, Bool.true_eq_false, Bool.false_eq_true, decide_true, decide_false, decide_eq_true_eq, decide_eq_false_iff_not, ne_eq, not_true_eq_false, not_false_eq_true, Bool.not_eq_true', Bool.not_eq_false', beq_self_eq_true, Bool.not_true, Bool.not_false, List.getElem?_toArray, List.getElem?_cons_zero, List.getElem?_cons_succ, kp]
  refine ⟨fun e1 => ?_, fun e1 => ?_⟩ <;> simp (disch := omega) only [↓stq, amv_at, vls, inf, frs, mark_eq, ↓reduceIte, Nat.reduceEqDiff, ite_tt, ite_ff, eq_self, and_true, true_and, and_self, implies_true, Bool.true_eq_false, Bool.false_eq_true, decide_true, decide_false, decide_eq_true_eq, decide_eq_false_iff_not, ne_eq, not_true_eq_false, not_false_eq_true, Bool.not_eq_true', Bool.not_eq_false', beq_self_eq_true, Bool.not_true, Bool.not_false, List.getElem?_toArray, List.getElem?_cons_zero, List.getElem?_cons_succ, kp, e1]
  rotate_left
  · refine (fin V4 l.ext).mono ?_
    rintro _ V5 ⟨rfl, he5⟩
    simp (disch := omega) only [↓stq, amv_at, vls, inf, frs, mark_eq, ↓reduceIte, Nat.reduceEqDiff, ite_tt, ite_ff, eq_self, and_true, true_and, and_self, implies_true, Bool.true_eq_false, Bool.false_eq_true, decide_true, decide_false, decide_eq_true_eq, decide_eq_false_iff_not, ne_eq, not_true_eq_false, not_false_eq_true, Bool.not_eq_true', Bool.not_eq_false', beq_self_eq_true, Bool.not_true, Bool.not_false, List.getElem?_toArray, List.getElem?_cons_zero, List.getElem?_cons_succ, hbt]
  obtain ⟨ex, hex⟩ := isE_some e1
  refine led_lit li23 (by omega) rfl (fun p hp => by rcases List.mem_singleton.1 hp with rfl; exact ⟨rfl, rfl⟩) l fun bl V5 he5 l => ?_
  have kl : V5.part ⟨bl, 0, none⟩ 4 = some [.string x.1, .string x.2.1, .slice a2 x.2.2.1.length c2, .slice a3 x.2.2.2.1.length c3] := l.part (i := 0) rfl rfl
  have kp := he5.part kp
  simp (disch := omega) only [↓stq, amv_at, vls, inf, frs, mark_eq, ↓reduceIte, Nat.reduceEqDiff, ite_tt, ite_ff, eq_self, and_true, true_and, and_self, implies_true, Bool.true_eq_false, Bool.false_eq_true, decide_true, decide_false, decide_eq_true_eq, decide_eq_false_iff_not, ne_eq, not_true_eq_false, not_false_eq_true, Bool.not_eq_true', Bool.not_eq_false', beq_self_eq_true, Bool.not_true, Bool.not_false, List.getElem?_toArray, List.getElem?_cons_zero, List.getElem?_cons_succ, e1]
  refine (impl_validTests_c V5 _ [x] (one_sl kl (rel V5 l.ext) (Nat.le_refl 1)) (by simp)).mono ?_
  rintro _ V6 ⟨rfl, he6⟩
  replace l := l.step he6
  have kp := he6.part kp
  rw [testsB_one]
  simp (disch := omega) only [↓stq, amv_at, vls, inf, frs, mark_eq, ↓reduceIte, Nat.reduceEqDiff, ite_tt, ite_ff, eq_self, and_true, true_and, and_self, implies_true, Bool.true_eq_false, Bool.false_eq_true, decide_true, decide_false, decide_eq_true_eq, decide_eq_false_iff_not, ne_eq, not_true_eq_false, not_false_eq_true, Bool.not_eq_true', Bool.not_eq_false', beq_self_eq_true, Bool.not_true, Bool.not_false, List.getElem?_toArray, List.getElem?_cons_zero, List.getElem?_cons_succ, e1]
  refine ⟨fun e2 => ?_, fun e2 => ?_⟩ <;> simp (disch := omega) only [↓stq, amv_at, vls, inf, frs, mark_eq, ↓reduceIte, Nat.reduceEqDiff, ite_tt, ite_ff, eq_self, and_true, true_and, and_self, implies_true, Bool.true_eq_false, Bool.false_eq_true, decide_true, decide_false, decide_eq_true_eq, decide_eq_false_iff_not, ne_eq, not_true_eq_false, not_false_eq_true, Bool.not_eq_true', Bool.not_eq_false', beq_self_eq_true, Bool.not_true, Bool.not_false, List.getElem?_toArray, List.getElem?_cons_zero, List.getElem?_cons_succ, kp, e2]
  · refine (fin V6 l.ext).mono ?_
    rintro _ V7 ⟨rfl, he7⟩
    simp (disch := omega) only [↓stq, amv_at, vls, inf, frs, mark_eq, ↓reduceIte, Nat.reduceEqDiff, ite_tt, ite_ff, eq_self, and_true, true_and, and_self, implies_true, Bool.true_eq_false, Bool.false_eq_true, decide_true, decide_false, decide_eq_true_eq, decide_eq_false_iff_not, ne_eq, not_true_eq_false, not_false_eq_true, Bool.not_eq_true', Bool.not_eq_false', beq_self_eq_true, Bool.not_true, Bool.not_false, List.getElem?_toArray, List.getElem?_cons_zero, List.getElem?_cons_succ, hbt]
  have hev : b = ex.ev x.1 x.2.2.1 := by
    rw [← hbq, e2, Bool.true_and]
    unfold mtE
    rw [hex]
  have hnm := testB_nm e2
  have hmk : ∀ m, m ∈ x.2.2.1 → nmOk m = true := fun m hm => by
    unfold testB namesB at e2
    simp only [Bool.and_eq_true, List.all_eq_true] at e2
    exact e2.1.1.2.1.1 m hm
  have hE6 := l.ext
  clear l
  refine aloop (fun d fr V => ∃ k : Nat, k ≤ x.2.2.1.length ∧ d = x.2.2.1.length - k ∧ Ext V6 V ∧ fr 3 = .string s ∧ fr 4 = .pointer (some ⟨q, 0, none⟩) ∧ fr 5 = .bool b ∧ fr 6 = .int .i64 k) x.2.2.1.length ⟨0, by omega, by omega, Ext.refl _, by rfl, by rfl, by rfl, by rfl⟩ ?_
  rintro d fr V ⟨k, hk, rfl, he, q3, q4, q5, q6⟩
  have kp := he.part kp
  have m2 := View.part_cell kp (j := 2) rfl
  rw [add_at] at m2
  simp (disch := omega) only [↓stq, amv_at, vls, inf, frs, mark_eq, ↓reduceIte, Nat.reduceEqDiff, ite_tt, ite_ff, eq_self, and_true, true_and, and_self, implies_true, Bool.true_eq_false, Bool.false_eq_true, decide_true, decide_false, decide_eq_true_eq, decide_eq_false_iff_not, ne_eq, not_true_eq_false, not_false_eq_true, Bool.not_eq_true', Bool.not_eq_false', beq_self_eq_true, Bool.not_true, Bool.not_false, List.getElem?_toArray, List.getElem?_cons_zero, List.getElem?_cons_succ, q3, q4, q5, q6, add_at, m2]
  refine ⟨fun e3 => ?_, fun e3 => ?_⟩
  · have hlt : k < x.2.2.1.length := by omega
    have f2' := (f2.mono hE6).mono he
    obtain ⟨adm, rfl, km, hmz⟩ := f2'.str hlt
    have hmn := hmk _ (List.getElem_mem hlt)
    simp (disch := omega) only [↓stq, amv_at, vls, inf, frs, mark_eq, ↓reduceIte, Nat.reduceEqDiff, ite_tt, ite_ff, eq_self, and_true, true_and, and_self, implies_true, Bool.true_eq_false, Bool.false_eq_true, decide_true, decide_false, decide_eq_true_eq, decide_eq_false_iff_not, ne_eq, not_true_eq_false, not_false_eq_true, Bool.not_eq_true', Bool.not_eq_false', beq_self_eq_true, Bool.not_true, Bool.not_false, List.getElem?_toArray, List.getElem?_cons_zero, List.getElem?_cons_succ, q3, q4, q5, q6]
    refine adraw_items [.q 0, .l 1 false, .q 2, .q 3, .l 4 false, .l 5 false, .c 6 [], .q 7] (by kernel_rfl) (by kernel_rfl) ?_
    simp (disch := omega) only [↓stq, amv_at, ↓pln, plv, nilOk, Nat.reduceBEq, Bool.or_false, Bool.or_true, Bool.false_or, Bool.true_or, vls, inf, frs, mark_eq, ↓reduceIte, Nat.reduceEqDiff, ite_tt, ite_ff, eq_self, and_true, true_and, and_self, implies_true, Bool.true_eq_false, Bool.false_eq_true, decide_true, decide_false, decide_eq_true_eq, decide_eq_false_iff_not, ne_eq, not_true_eq_false, not_false_eq_true, Bool.not_eq_true', Bool.not_eq_false', beq_self_eq_true, Bool.not_true, Bool.not_false, List.getElem?_toArray, List.getElem?_cons_zero, List.getElem?_cons_succ, q3, q4, q5, q6, add_at, m2, km, kp]
    refine (impl_Matches_c V x.2.2.1[k] _ x (rel V (hE6.trans he)) (by have := nmOk_size hmn; omega)).mono ?_
    rintro _ V7 ⟨rfl, he7⟩
    have hm : mtE x.2.2.1[k] x = true := by
      unfold mtE
      rw [exprP_mark hmn]
      exact decide_eq_true (List.getElem_mem hlt)
    rw [e2, hm, Bool.and_self]
    replace kp := he7.part kp
    replace km := he7.cell km
    replace m2 := he7.cell m2
    simp (disch := omega) only [↓stq, amv_at, ↓pln, plv, nilOk, Nat.reduceBEq, Bool.or_false, Bool.or_true, Bool.false_or, Bool.true_or, vls, inf, frs, mark_eq, ↓reduceIte, Nat.reduceEqDiff, ite_tt, ite_ff, eq_self, and_true, true_and, and_self, implies_true, Bool.true_eq_false, Bool.false_eq_true, decide_true, decide_false, decide_eq_true_eq, decide_eq_false_iff_not, ne_eq, not_true_eq_false, not_false_eq_true, Bool.not_eq_true', Bool.not_eq_false', beq_self_eq_true, Bool.not_true, Bool.not_false, List.getElem?_toArray, List.getElem?_cons_zero, List.getElem?_cons_succ, q3, q4, q5, q6, add_at, m2, km, kp]
    exact ⟨_, by omega, k + 1, by omega, rfl, he.trans he7, rfl⟩
  · simp (disch := omega) only [↓stq, amv_at, vls, inf, frs, mark_eq, ↓reduceIte, Nat.reduceEqDiff, ite_tt, ite_ff, eq_self, and_true, true_and, and_self, implies_true, Bool.true_eq_false, Bool.false_eq_true, decide_true, decide_false, decide_eq_true_eq, decide_eq_false_iff_not, ne_eq, not_true_eq_false, not_false_eq_true, Bool.not_eq_true', Bool.not_eq_false', beq_self_eq_true, Bool.not_true, Bool.not_false, List.getElem?_toArray, List.getElem?_cons_zero, List.getElem?_cons_succ, q3, q4, q5, q6, kp]
    refine led_lit li23 (by omega) rfl (fun p hp => by rcases List.mem_singleton.1 hp with rfl; exact ⟨rfl, rfl⟩) (Led.nil V) fun bl V7 he7 l => ?_
    have kl : V7.part ⟨bl, 0, none⟩ 4 = some [.string x.1, .string x.2.1, .slice a2 x.2.2.1.length c2, .slice a3 x.2.2.2.1.length c3] := l.part (i := 0) rfl rfl
    simp (disch := omega) only [↓stq, amv_at, vls, inf, frs, mark_eq, ↓reduceIte, Nat.reduceEqDiff, ite_tt, ite_ff, eq_self, and_true, true_and, and_self, implies_true, Bool.true_eq_false, Bool.false_eq_true, decide_true, decide_false, decide_eq_true_eq, decide_eq_false_iff_not, ne_eq, not_true_eq_false, not_false_eq_true, Bool.not_eq_true', Bool.not_eq_false', beq_self_eq_true, Bool.not_true, Bool.not_false, List.getElem?_toArray, List.getElem?_cons_zero, List.getElem?_cons_succ, q3, q4, q5, q6]
    have hE7 := (hE6.trans he).trans l.ext
    refine (impl_SelectTests_c V7 _ s [x] (one_sl kl (rel V7 hE7) (Nat.le_refl 1)) (by omega) (by simp)).mono ?_
    rintro u8 V8 ⟨f8, l8⟩
    rw [selE_of hex (by rw [testsB_one]; exact e2)] at l8
    have hp1 : pickE true ex [x] = if b then [x] else [] := by
      rw [hev]
      unfold pickE
      rw [List.filter_cons, List.filter_nil]
      cases ex.ev x.1 x.2.2.1 <;> rfl
    have hQ8 : Sl testS V8 u8 (pickE true ex [x]) := OSl.toS (l8.at (i := 0) rfl)
    obtain ⟨a8, c8, rfl, _, _⟩ := hQ8.slice
    have hE8 := hE7.trans l8.ext
    have kp := (l.ext.trans l8.ext).part kp
    have m0 := View.part_cell kp (j := 0) rfl
    rw [add_at] at m0
    have hl1 : decide (((pickE true ex [x]).length : Int) = 1) = b := by
      rw [hp1]
      cases b <;> rfl
    simp (disch := omega) only [↓stq, amv_at, vls, inf, frs, mark_eq, ↓reduceIte, Nat.reduceEqDiff, ite_tt, ite_ff, eq_self, and_true, true_and, and_self, implies_true, Bool.true_eq_false, Bool.false_eq_true, decide_true, decide_false, decide_eq_true_eq, decide_eq_false_iff_not, ne_eq, not_true_eq_false, not_false_eq_true, Bool.not_eq_true', Bool.not_eq_false', beq_self_eq_true, Bool.not_true, Bool.not_false, List.getElem?_toArray, List.getElem?_cons_zero, List.getElem?_cons_succ, q3, q4, q5, q6, hl1, hbt, kp, add_at, m0]
    have hns := nmOk_size hnm
    rw [abin_cat _ _ _ (by show 1 + x.1.size ≤ _; omega)]
    simp (disch := omega) only [↓stq, amv_at, vls, inf, frs, mark_eq, ↓reduceIte, Nat.reduceEqDiff, ite_tt, ite_ff, eq_self, and_true, true_and, and_self, implies_true, Bool.true_eq_false, Bool.false_eq_true, decide_true, decide_false, decide_eq_true_eq, decide_eq_false_iff_not, ne_eq, not_true_eq_false, not_false_eq_true, Bool.not_eq_true', Bool.not_eq_false', beq_self_eq_true, Bool.not_true, Bool.not_false, List.getElem?_toArray, List.getElem?_cons_zero, List.getElem?_cons_succ, q3, q4, q5, q6, kp]
    refine (impl_Matches_c V8 (atM x.1) _ x (rel V8 hE8) (by rw [atM_size]; omega)).mono ?_
    rintro _ V9 ⟨rfl, _⟩
    have hm : mtE (atM x.1) x = true := by
      unfold mtE
      rw [atM_tx, exprP_mod hnm]
      exact decide_eq_true rfl
    rw [e2, hm, Bool.and_self]
    simp (disch := omega) only [↓stq, amv_at, vls, inf, frs, mark_eq, ↓reduceIte, Nat.reduceEqDiff, ite_tt, ite_ff, eq_self, and_true, true_and, and_self, implies_true, Bool.true_eq_false, Bool.false_eq_true, decide_true, decide_false, decide_eq_true_eq, decide_eq_false_iff_not, ne_eq, not_true_eq_false, not_false_eq_true, Bool.not_eq_true', Bool.not_eq_false', beq_self_eq_true, Bool.not_true, Bool.not_false, List.getElem?_toArray, List.getElem?_cons_zero, List.getElem?_cons_succ, q3, q4, q5, q6]

end Go.Proofs.Ytbddklkfekiaeaa

