/- The law FnSelectTests. -/
import Derived.Test.YtbddklkfekiaeaaUC
set_option maxHeartbeats 4000000
set_option synthInstance.maxHeartbeats 400000
set_option synthInstance.maxSize 4096
set_option linter.unusedSimpArgs false
set_option linter.unusedVariables false
namespace Go.Proofs.Ytbddklkfekiaeaa

set_option maxRecDepth 100000

theorem law_FnSelectTests (A : View) (v0 : Value) (x0 : List UInt8) (h0 : Sl byteS A v0 x0) : ACalls Try.prog 10 #[v0] A fun r _ => r = .bool true := by
  obtain ⟨a, c, rfl, _, _⟩ := h0.slice
  refine acalls Try.func10 rfl (by kernel_rfl) ?_
  simp (disch := omega) only [↓stq, amv_at, vls, inf, frs, mark_eq, ↓reduceIte, Nat.reduceEqDiff, ite_tt, ite_ff, eq_self, and_true, true_and, and_self, implies_true, Bool.true_eq_false, Bool.false_eq_true, decide_true, decide_false, decide_eq_true_eq, decide_eq_false_iff_not, ne_eq, not_true_eq_false, not_false_eq_true, Bool.not_eq_true', Bool.not_eq_false', beq_self_eq_true, Bool.not_true, Bool.not_false, List.getElem?_toArray, List.getElem?_cons_zero, List.getElem?_cons_succ]
  refine ⟨fun e => ?_, fun e => ?_⟩ <;> simp (disch := omega) only [↓stq, amv_at, vls, inf, frs, mark_eq, ↓reduceIte, Nat.reduceEqDiff, ite_tt, ite_ff, eq_self, and_true, true_and, and_self, implies_true, Bool.true_eq_false, Bool.false_eq_true, decide_true, decide_false, decide_eq_true_eq, decide_eq_false_iff_not, ne_eq, not_true_eq_false, not_false_eq_true, Bool.not_eq_true', Bool.not_eq_false', beq_self_eq_true, Bool.not_true, Bool.not_false, List.getElem?_toArray, List.getElem?_cons_zero, List.getElem?_cons_succ]
  refine (DrawSelectTests_c A _ x0 h0).mono ?_
  rintro _ V ⟨vt, ts, s, rfl, hl, hgt, hs, hT, _⟩
  obtain ⟨at1, ct, rfl, _, _⟩ := hT.slice
  simp (disch := omega) only [↓stq, amv_at, vls, inf, frs, mark_eq, ↓reduceIte, Nat.reduceEqDiff, ite_tt, ite_ff, eq_self, and_true, true_and, and_self, implies_true, Bool.true_eq_false, Bool.false_eq_true, decide_true, decide_false, decide_eq_true_eq, decide_eq_false_iff_not, ne_eq, not_true_eq_false, not_false_eq_true, Bool.not_eq_true', Bool.not_eq_false', beq_self_eq_true, Bool.not_true, Bool.not_false, List.getElem?_toArray, List.getElem?_cons_zero, List.getElem?_cons_succ]
  refine (impl_SelectTests_c V _ s ts hT (by omega) (by omega)).mono ?_
  rintro u0 V1 ⟨f1, l1⟩
  have hO1 : Sl testS V1 u0 (selE true s ts) := OSl.toS (l1.at (i := 0) rfl)
  obtain ⟨R, hR⟩ : ∃ R, selE true s ts = R := ⟨_, rfl⟩
  rw [hR] at hO1
  obtain ⟨au, cu, rfl, _, hRl⟩ := hO1.slice
  simp (disch := omega) only [↓stq, amv_at, vls, inf, frs, mark_eq, ↓reduceIte, Nat.reduceEqDiff, ite_tt, ite_ff, eq_self, and_true, true_and, and_self, implies_true, Bool.true_eq_false, Bool.false_eq_true, decide_true, decide_false, decide_eq_true_eq, decide_eq_false_iff_not, ne_eq, not_true_eq_false, not_false_eq_true, Bool.not_eq_true', Bool.not_eq_false', beq_self_eq_true, Bool.not_true, Bool.not_false, List.getElem?_toArray, List.getElem?_cons_zero, List.getElem?_cons_succ]
  refine (spec_SelectTests_c V1 _ s ts (hT.mono l1.ext)).mono ?_
  rintro w0 V2 ⟨f2, l2⟩
  have hW2 : Sl testS V2 w0 (selE true s ts) := OSl.toS (l2.at (i := 0) rfl)
  rw [hR] at hW2
  obtain ⟨aw, cw, rfl, _, _⟩ := hW2.slice
  have hT2 := (hT.mono l1.ext).mono l2.ext
  have hO2 := hO1.mono l2.ext
  clear l1 l2
  simp (disch := omega) only [↓stq, amv_at, vls, inf, frs, mark_eq, ↓reduceIte, Nat.reduceEqDiff, ite_tt, ite_ff, eq_self, and_true, true_and, and_self, implies_true, Bool.true_eq_false, Bool.false_eq_true, decide_true, decide_false, decide_eq_true_eq, decide_eq_false_iff_not, ne_eq, not_true_eq_false, not_false_eq_true, Bool.not_eq_true', Bool.not_eq_false', beq_self_eq_true, Bool.not_true, Bool.not_false, List.getElem?_toArray, List.getElem?_cons_zero, List.getElem?_cons_succ]
  refine (laws_equalTests_c V2 _ _ R hO2 hW2).mono ?_
  rintro _ V3 ⟨rfl, he3⟩
  have hT3 := hT2.mono he3
  have hO3 := hO2.mono he3
  clear hT hO1 hT2 hO2 hW2 he3
  simp (disch := omega) only [↓stq, amv_at, vls, inf, frs, mark_eq, ↓reduceIte, Nat.reduceEqDiff, ite_tt, ite_ff, eq_self, and_true, true_and, and_self, implies_true, Bool.true_eq_false, Bool.false_eq_true, decide_true, decide_false, decide_eq_true_eq, decide_eq_false_iff_not, ne_eq, not_true_eq_false, not_false_eq_true, Bool.not_eq_true', Bool.not_eq_false', beq_self_eq_true, Bool.not_true, Bool.not_false, List.getElem?_toArray, List.getElem?_cons_zero, List.getElem?_cons_succ]
  have fin : ∀ V, Ext V3 V → ACalls Try.prog 41 #[.slice at1 ts.length ct, .string s] V fun r V' => ∃ a1 c1, r = .slice a1 R.length c1 ∧ Sl testS V' r R ∧ Ext V3 V' := fun V he => (spec_SelectTests_c V _ s ts (hT3.mono he)).mono fun r V' ⟨fp, l⟩ => by
    rw [hR] at l
    have hs : Sl testS V' r R := OSl.toS (l.at (i := 0) rfl)
    obtain ⟨a1, c1, h, _, _⟩ := hs.slice
    exact ⟨a1, c1, h, hs, he.trans l.ext⟩
  refine (impl_validTests_c V3 _ ts hT3 (by omega)).mono ?_
  rintro _ V4 ⟨rfl, he4⟩
  simp (disch := omega) only [↓stq, amv_at, vls, inf, frs, mark_eq, ↓reduceIte, Nat.reduceEqDiff, ite_tt, ite_ff, eq_self, and_true, true_and, and_self, implies_true, Bool.true_eq_false, Bool.false_eq_true, decide_true, decide_false, decide_eq_true_eq, decide_eq_false_iff_not, ne_eq, not_true_eq_false, not_false_eq_true, Bool.not_eq_true', Bool.not_eq_false', beq_self_eq_true, Bool.not_true, Bool.not_false, List.getElem?_toArray, List.getElem?_cons_zero, List.getElem?_cons_succ]
  refine ⟨fun e1 => ?_, fun e1 => ?_⟩ <;> simp (disch := omega) only [↓stq, amv_at, vls, inf, frs, mark_eq, ↓reduceIte, Nat.reduceEqDiff, ite_tt, ite_ff, eq_self, and_true, true_and, and_self, implies_true, Bool.true_eq_false, Bool.false_eq_true, decide_true, decide_false, decide_eq_true_eq, decide_eq_false_iff_not, ne_eq, not_true_eq_false, not_false_eq_true, Bool.not_eq_true', Bool.not_eq_false', beq_self_eq_true, Bool.not_true, Bool.not_false, List.getElem?_toArray, List.getElem?_cons_zero, List.getElem?_cons_succ, e1]
  rotate_left
  · refine (fin V4 he4).mono ?_
    rintro _ V5 ⟨a1, c1, rfl, hs5, he5⟩
    simp (disch := omega) only [↓stq, amv_at, vls, inf, frs, mark_eq, ↓reduceIte, Nat.reduceEqDiff, ite_tt, ite_ff, eq_self, and_true, true_and, and_self, implies_true, Bool.true_eq_false, Bool.false_eq_true, decide_true, decide_false, decide_eq_true_eq, decide_eq_false_iff_not, ne_eq, not_true_eq_false, not_false_eq_true, Bool.not_eq_true', Bool.not_eq_false', beq_self_eq_true, Bool.not_true, Bool.not_false, List.getElem?_toArray, List.getElem?_cons_zero, List.getElem?_cons_succ]
    refine (laws_equalTests_c V5 _ _ R (hO3.mono he5) hs5).mono ?_
    rintro _ V6 ⟨rfl, _⟩
    simp (disch := omega) only [↓stq, amv_at, vls, inf, frs, mark_eq, ↓reduceIte, Nat.reduceEqDiff, ite_tt, ite_ff, eq_self, and_true, true_and, and_self, implies_true, Bool.true_eq_false, Bool.false_eq_true, decide_true, decide_false, decide_eq_true_eq, decide_eq_false_iff_not, ne_eq, not_true_eq_false, not_false_eq_true, Bool.not_eq_true', Bool.not_eq_false', beq_self_eq_true, Bool.not_true, Bool.not_false, List.getElem?_toArray, List.getElem?_cons_zero, List.getElem?_cons_succ]
  refine (impl_ValidExpr_c V4 s (by omega)).mono ?_
  rintro _ V5 ⟨rfl, he5⟩
  have hT5 := (hT3.mono he4).mono he5
  have hO5 := (hO3.mono he4).mono he5
  simp (disch := omega) only [↓stq, amv_at, vls, inf, frs, mark_eq, ↓reduceIte, Nat.reduceEqDiff, ite_tt, ite_ff, eq_self, and_true, true_and, and_self, implies_true, Bool.true_eq_false, Bool.false_eq_true, decide_true, decide_false, decide_eq_true_eq, decide_eq_false_iff_not, ne_eq, not_true_eq_false, not_false_eq_true, Bool.not_eq_true', Bool.not_eq_false', beq_self_eq_true, Bool.not_true, Bool.not_false, List.getElem?_toArray, List.getElem?_cons_zero, List.getElem?_cons_succ, e1]
  refine ⟨fun e2 => ?_, fun e2 => ?_⟩ <;> simp (disch := omega) only [↓stq, amv_at, vls, inf, frs, mark_eq, ↓reduceIte, Nat.reduceEqDiff, ite_tt, ite_ff, eq_self, and_true, true_and, and_self, implies_true, Bool.true_eq_false, Bool.false_eq_true, decide_true, decide_false, decide_eq_true_eq, decide_eq_false_iff_not, ne_eq, not_true_eq_false, not_false_eq_true, Bool.not_eq_true', Bool.not_eq_false', beq_self_eq_true, Bool.not_true, Bool.not_false, List.getElem?_toArray, List.getElem?_cons_zero, List.getElem?_cons_succ]
  · refine (fin V5 (he4.trans he5)).mono ?_
    rintro _ V6 ⟨a1, c1, rfl, hs6, he6⟩
    simp (disch := omega) only [↓stq, amv_at, vls, inf, frs, mark_eq, ↓reduceIte, Nat.reduceEqDiff, ite_tt, ite_ff, eq_self, and_true, true_and, and_self, implies_true, Bool.true_eq_false, Bool.false_eq_true, decide_true, decide_false, decide_eq_true_eq, decide_eq_false_iff_not, ne_eq, not_true_eq_false, not_false_eq_true, Bool.not_eq_true', Bool.not_eq_false', beq_self_eq_true, Bool.not_true, Bool.not_false, List.getElem?_toArray, List.getElem?_cons_zero, List.getElem?_cons_succ]
    refine (laws_equalTests_c V6 _ _ R (hO3.mono he6) hs6).mono ?_
    rintro _ V7 ⟨rfl, _⟩
    simp (disch := omega) only [↓stq, amv_at, vls, inf, frs, mark_eq, ↓reduceIte, Nat.reduceEqDiff, ite_tt, ite_ff, eq_self, and_true, true_and, and_self, implies_true, Bool.true_eq_false, Bool.false_eq_true, decide_true, decide_false, decide_eq_true_eq, decide_eq_false_iff_not, ne_eq, not_true_eq_false, not_false_eq_true, Bool.not_eq_true', Bool.not_eq_false', beq_self_eq_true, Bool.not_true, Bool.not_false, List.getElem?_toArray, List.getElem?_cons_zero, List.getElem?_cons_succ]
  obtain ⟨ex, hx⟩ := isE_some e2
  have hp := testsB_parts e1
  rw [selE_of hx e1] at hR
  refine (impl_RejectTests_c V5 _ s ts hT5 (by omega) (by omega)).mono ?_
  rintro u6 V6 ⟨f6, l6⟩
  have hQ6 : Sl testS V6 u6 (selE false s ts) := OSl.toS (l6.at (i := 0) rfl)
  obtain ⟨Q, hQ⟩ : ∃ Q, pickE false ex ts = Q := ⟨_, rfl⟩
  rw [selE_of hx e1, hQ] at hQ6
  obtain ⟨aq, cq, rfl, _, hQl⟩ := hQ6.slice
  have hT6 := hT5.mono l6.ext
  have hO6 := hO5.mono l6.ext
  have hat : ∀ {k : Nat} (hk : k < ts.length), (ex.ev (ts[k]).1 (ts[k]).2.2.1 = true → ∃ h : (pickE true ex (ts.take k)).length < R.length, R[(pickE true ex (ts.take k)).length] = ts[k]) ∧ (ex.ev (ts[k]).1 (ts[k]).2.2.1 = false → ∃ h : (pickE false ex (ts.take k)).length < Q.length, Q[(pickE false ex (ts.take k)).length] = ts[k]) := by
    subst hR; subst hQ
    exact fun hk => ⟨fun h => pick_at hk (by rw [h]; rfl), fun h => pick_at hk (by rw [h]; rfl)⟩
  have hnot : ∀ {i k : Nat} (hi : i < R.length) (hk : k < ts.length), ex.ev (ts[k]).1 (ts[k]).2.2.1 = false → R[i] ≠ ts[k] := fun {i k} hi hk h heq => by
    have hall : ∀ t, t ∈ R → ex.ev t.1 t.2.2.1 = true := fun t ht => by
      rw [← hR] at ht
      have := (List.mem_filter.1 ht).2
      rwa [beq_iff_eq] at this
    have := hall _ (List.getElem_mem hi)
    rw [heq, h] at this
    cases this
  have hlen : (pickE true ex ts).length = R.length ∧ (pickE false ex ts).length = Q.length := ⟨by rw [hR], by rw [hQ]⟩
  have hRle : R.length ≤ 11 := by have := pickE_len true ex ts; omega
  have htw : pickE true ex R = R := by rw [← hR]; exact pickE_twice ..
  have hvR : testsB R = true := testsB_sub (hR ▸ pickE_sub ..) e1
  clear hR hQ l6
  simp (disch := omega) only [↓stq, amv_at, vls, inf, frs, mark_eq, ↓reduceIte, Nat.reduceEqDiff, ite_tt, ite_ff, eq_self, and_true, true_and, and_self, implies_true, Bool.true_eq_false, Bool.false_eq_true, decide_true, decide_false, decide_eq_true_eq, decide_eq_false_iff_not, ne_eq, not_true_eq_false, not_false_eq_true, Bool.not_eq_true', Bool.not_eq_false', beq_self_eq_true, Bool.not_true, Bool.not_false, List.getElem?_toArray, List.getElem?_cons_zero, List.getElem?_cons_succ]
  refine aloop (fun d fr V => ∃ k : Nat, k ≤ ts.length ∧ d = ts.length - k ∧ Ext V6 V ∧ fr 3 = .slice at1 ts.length ct ∧ fr 4 = .string s ∧ fr 5 = .slice au R.length cu ∧ fr 6 = .slice aq Q.length cq ∧ fr 7 = .int .i64 (pickE true ex (ts.take k)).length ∧ fr 8 = .int .i64 (pickE false ex (ts.take k)).length ∧ fr 9 = .int .i64 k) ts.length ⟨0, by omega, by omega, Ext.refl _, by rfl, by rfl, by rfl, by rfl, by rfl, by rfl, by rfl⟩ ?_
  rintro d fr V ⟨k, hk, rfl, he, q3, q4, q5, q6, q7, q8, q9⟩
  simp (disch := omega) only [↓stq, amv_at, vls, inf, frs, mark_eq, ↓reduceIte, Nat.reduceEqDiff, ite_tt, ite_ff, eq_self, and_true, true_and, and_self, implies_true, Bool.true_eq_false, Bool.false_eq_true, decide_true, decide_false, decide_eq_true_eq, decide_eq_false_iff_not, ne_eq, not_true_eq_false, not_false_eq_true, Bool.not_eq_true', Bool.not_eq_false', beq_self_eq_true, Bool.not_true, Bool.not_false, List.getElem?_toArray, List.getElem?_cons_zero, List.getElem?_cons_succ, q3, q4, q5, q6, q7, q8, q9]
  refine ⟨fun e3 => ?_, fun e3 => ?_⟩
  · have hlt : k < ts.length := by omega
    obtain ⟨ad, u2, u3, rfl, hcl, y1, y2, t2, t3⟩ := (hT6.mono he).test hlt
    have hb1 := pickE_len true ex (ts.take k)
    have hb2 := pickE_len false ex (ts.take k)
    rw [List.length_take] at hb1 hb2
    have hn1 := pickE_take (want := true) (e := ex) hlt
    have hn2 := pickE_take (want := false) (e := ex) hlt
    have hat := hat hlt
    have hnot := fun {i} (hi : i < R.length) => hnot hi hlt
    generalize hA1 : pickE true ex (ts.take k) = A1 at hb1 hn1 hat q7
    generalize hA2 : pickE false ex (ts.take k) = A2 at hb2 hn2 hat q8
    clear hA1 hA2
    simp (disch := omega) only [↓stq, amv_at, vls, inf, frs, mark_eq, ↓reduceIte, Nat.reduceEqDiff, ite_tt, ite_ff, eq_self, and_true, true_and, and_self, implies_true, Bool.true_eq_false, Bool.false_eq_true, decide_true, decide_false, decide_eq_true_eq, decide_eq_false_iff_not, ne_eq, not_true_eq_false, not_false_eq_true, Bool.not_eq_true', Bool.not_eq_false', beq_self_eq_true, Bool.not_true, Bool.not_false, List.getElem?_toArray, List.getElem?_cons_zero, List.getElem?_cons_succ, q3, q4, q5, q6, q7, q8, q9]
    refine adraw_items [.q 0, .q 1, .q 2, .q 3, .q 4, .q 5, .q 6, .q 7, .l 8 false, .q 9, .q 10, .q 11, .l 12 false, .c 13 [], .q 14] (by kernel_rfl) (by kernel_rfl) ?_
    cases hev : ex.ev (ts[k]).1 (ts[k]).2.2.1 with
    | true =>
      obtain ⟨hi, heq⟩ := hat.1 hev
      rw [hev] at hn1 hn2
      have e4 : (A1.length : Int) < R.length := by omega
      obtain ⟨ad2, v2, v3, rfl, hcl2, x1, x2, w2, w3⟩ := (hO6.mono he).test hi
      simp (disch := omega) only [↓stq, amv_at, ↓pln, plv, nilOk, Nat.reduceBEq, Bool.or_false, Bool.or_true, Bool.false_or, Bool.true_or, vls, inf, frs, mark_eq, ↓reduceIte, Nat.reduceEqDiff, ite_tt, ite_ff, eq_self, and_true, true_and, and_self, implies_true, Bool.true_eq_false, Bool.false_eq_true, decide_true, decide_false, decide_eq_true_eq, decide_eq_false_iff_not, ne_eq, not_true_eq_false, not_false_eq_true, Bool.not_eq_true', Bool.not_eq_false', beq_self_eq_true, Bool.not_true, Bool.not_false, List.getElem?_toArray, List.getElem?_cons_zero, List.getElem?_cons_succ, q3, q4, q5, q6, q7, q8, q9, e4, hcl, hcl2]
      refine (laws_equalTest2_c V _ _ R[A1.length] ts[k] (testS_mk x1 x2 w2 w3) (testS_mk y1 y2 t2 t3)).mono ?_
      rintro _ V7 ⟨rfl, he7⟩
      rw [same_fields.2 heq]
      have hcl := he7.part hcl
      have hcl2 := he7.part hcl2
      simp (disch := omega) only [↓stq, amv_at, ↓pln, plv, nilOk, Nat.reduceBEq, Bool.or_false, Bool.or_true, Bool.false_or, Bool.true_or, vls, inf, frs, mark_eq, ↓reduceIte, Nat.reduceEqDiff, ite_tt, ite_ff, eq_self, and_true, true_and, and_self, implies_true, Bool.true_eq_false, Bool.false_eq_true, decide_true, decide_false, decide_eq_true_eq, decide_eq_false_iff_not, ne_eq, not_true_eq_false, not_false_eq_true, Bool.not_eq_true', Bool.not_eq_false', beq_self_eq_true, Bool.not_true, Bool.not_false, List.getElem?_toArray, List.getElem?_cons_zero, List.getElem?_cons_succ, q3, q4, q5, q6, q7, q8, q9, e4, hcl, hcl2]
      have h1 : (pickE true ex (ts.take (k + 1))).length = A1.length + 1 := by rw [hn1, if_pos (show (true == true) = true from rfl), List.length_append, List.length_singleton]
      have h2 : (pickE false ex (ts.take (k + 1))).length = A2.length := by rw [hn2, if_neg (by decide), List.append_nil]
      exact ⟨_, by omega, k + 1, by omega, rfl, he.trans he7, by rw [h1]; rfl, by rw [h2], rfl⟩
    | false =>
      obtain ⟨hi, heq⟩ := hat.2 hev
      rw [hev] at hn1 hn2
      have hnot := fun {i} (hi : i < R.length) => hnot hi hev
      have e5 : (A2.length : Int) < Q.length := by omega
      have h1 : (pickE true ex (ts.take (k + 1))).length = A1.length := by rw [hn1, if_neg (by decide), List.append_nil]
      have h2 : (pickE false ex (ts.take (k + 1))).length = A2.length + 1 := by rw [hn2, if_pos (show (false == false) = true from rfl), List.length_append, List.length_singleton]
      by_cases hi4 : A1.length < R.length
      · have e4 : (A1.length : Int) < R.length := by omega
        obtain ⟨ad3, v4, v5, rfl, hcl3, x3, x4, w4, w5⟩ := (hO6.mono he).test hi4
        have hne := hnot hi4
        simp (disch := omega) only [↓stq, amv_at, ↓pln, plv, nilOk, Nat.reduceBEq, Bool.or_false, Bool.or_true, Bool.false_or, Bool.true_or, vls, inf, frs, mark_eq, ↓reduceIte, Nat.reduceEqDiff, ite_tt, ite_ff, eq_self, and_true, true_and, and_self, implies_true, Bool.true_eq_false, Bool.false_eq_true, decide_true, decide_false, decide_eq_true_eq, decide_eq_false_iff_not, ne_eq, not_true_eq_false, not_false_eq_true, Bool.not_eq_true', Bool.not_eq_false', beq_self_eq_true, Bool.not_true, Bool.not_false, List.getElem?_toArray, List.getElem?_cons_zero, List.getElem?_cons_succ, q3, q4, q5, q6, q7, q8, q9, e4, hcl, hcl3]
        refine (laws_equalTest2_c V _ _ R[A1.length] ts[k] (testS_mk x3 x4 w4 w5) (testS_mk y1 y2 t2 t3)).mono ?_
        rintro _ V7 ⟨rfl, he7⟩
        have hb : (decide ((R[A1.length]).1 = (ts[k]).1) && decide ((R[A1.length]).2.1 = (ts[k]).2.1) && decide ((R[A1.length]).2.2.1 = (ts[k]).2.2.1) && decide ((R[A1.length]).2.2.2.1 = (ts[k]).2.2.2.1)) = false := by
          cases hq : (decide ((R[A1.length]).1 = (ts[k]).1) && decide ((R[A1.length]).2.1 = (ts[k]).2.1) && decide ((R[A1.length]).2.2.1 = (ts[k]).2.2.1) && decide ((R[A1.length]).2.2.2.1 = (ts[k]).2.2.2.1)) with
          | false => rfl
          | true => exact absurd (same_fields.1 hq) hne
        rw [hb]
        have hcl := he7.part hcl
        have hcl3 := he7.part hcl3
        simp (disch := omega) only [↓stq, amv_at, ↓pln, plv, nilOk, Nat.reduceBEq, Bool.or_false, Bool.or_true, Bool.false_or, Bool.true_or, vls, inf, frs, mark_eq, ↓reduceIte, Nat.reduceEqDiff, ite_tt, ite_ff, eq_self, and_true, true_and, and_self, implies_true, Bool.true_eq_false, Bool.false_eq_true, decide_true, decide_false, decide_eq_true_eq, decide_eq_false_iff_not, ne_eq, not_true_eq_false, not_false_eq_true, Bool.not_eq_true', Bool.not_eq_false', beq_self_eq_true, Bool.not_true, Bool.not_false, List.getElem?_toArray, List.getElem?_cons_zero, List.getElem?_cons_succ, q3, q4, q5, q6, q7, q8, q9, e4, hcl, hcl3]
        simp (disch := omega) only [↓stq, amv_at, vls, inf, frs, mark_eq, ↓reduceIte, Nat.reduceEqDiff, ite_tt, ite_ff, eq_self, and_true, true_and, and_self, implies_true, Bool.true_eq_false, Bool.false_eq_true, decide_true, decide_false, decide_eq_true_eq, decide_eq_false_iff_not, ne_eq, not_true_eq_false, not_false_eq_true, Bool.not_eq_true', Bool.not_eq_false', beq_self_eq_true, Bool.not_true, Bool.not_false, List.getElem?_toArray, List.getElem?_cons_zero, List.getElem?_cons_succ, q3, q4, q5, q6, q7, q8, q9]
        refine adraw_items [.q 0, .q 1, .q 2, .q 3, .q 4, .q 5, .q 6, .q 7, .l 8 false, .q 9, .q 10, .q 11, .l 12 false, .c 13 [], .q 14] (by kernel_rfl) (by kernel_rfl) ?_
        obtain ⟨ad2, v2, v3, rfl, hcl2, x1, x2, w2, w3⟩ := hQ6.test hi
        have hcl2 := (he.trans he7).part hcl2
        simp (disch := omega) only [↓stq, amv_at, ↓pln, plv, nilOk, Nat.reduceBEq, Bool.or_false, Bool.or_true, Bool.false_or, Bool.true_or, vls, inf, frs, mark_eq, ↓reduceIte, Nat.reduceEqDiff, ite_tt, ite_ff, eq_self, and_true, true_and, and_self, implies_true, Bool.true_eq_false, Bool.false_eq_true, decide_true, decide_false, decide_eq_true_eq, decide_eq_false_iff_not, ne_eq, not_true_eq_false, not_false_eq_true, Bool.not_eq_true', Bool.not_eq_false', beq_self_eq_true, Bool.not_true, Bool.not_false, List.getElem?_toArray, List.getElem?_cons_zero, List.getElem?_cons_succ, q3, q4, q5, q6, q7, q8, q9, e5, hcl, hcl2]
        refine (laws_equalTest2_c V7 _ _ Q[A2.length] ts[k] (testS.mono (he.trans he7) (testS_mk x1 x2 w2 w3)) (testS.mono he7 (testS_mk y1 y2 t2 t3))).mono ?_
        rintro _ V8 ⟨rfl, he8⟩
        rw [same_fields.2 heq]
        have hcl := he8.part hcl
        have hcl2 := he8.part hcl2
        simp (disch := omega) only [↓stq, amv_at, ↓pln, plv, nilOk, Nat.reduceBEq, Bool.or_false, Bool.or_true, Bool.false_or, Bool.true_or, vls, inf, frs, mark_eq, ↓reduceIte, Nat.reduceEqDiff, ite_tt, ite_ff, eq_self, and_true, true_and, and_self, implies_true, Bool.true_eq_false, Bool.false_eq_true, decide_true, decide_false, decide_eq_true_eq, decide_eq_false_iff_not, ne_eq, not_true_eq_false, not_false_eq_true, Bool.not_eq_true', Bool.not_eq_false', beq_self_eq_true, Bool.not_true, Bool.not_false, List.getElem?_toArray, List.getElem?_cons_zero, List.getElem?_cons_succ, q3, q4, q5, q6, q7, q8, q9, e5, hcl, hcl2]
        exact ⟨_, by omega, k + 1, by omega, rfl, ((he.trans he7)).trans he8, by rw [h1], by rw [h2]; rfl, rfl⟩
      · have e4 : ¬ (A1.length : Int) < R.length := by omega
        simp (disch := omega) only [↓stq, amv_at, ↓pln, plv, nilOk, Nat.reduceBEq, Bool.or_false, Bool.or_true, Bool.false_or, Bool.true_or, vls, inf, frs, mark_eq, ↓reduceIte, Nat.reduceEqDiff, ite_tt, ite_ff, eq_self, and_true, true_and, and_self, implies_true, Bool.true_eq_false, Bool.false_eq_true, decide_true, decide_false, decide_eq_true_eq, decide_eq_false_iff_not, ne_eq, not_true_eq_false, not_false_eq_true, Bool.not_eq_true', Bool.not_eq_false', beq_self_eq_true, Bool.not_true, Bool.not_false, List.getElem?_toArray, List.getElem?_cons_zero, List.getElem?_cons_succ, q3, q4, q5, q6, q7, q8, q9, e4, hcl]
        simp (disch := omega) only [↓stq, amv_at, vls, inf, frs, mark_eq, ↓reduceIte, Nat.reduceEqDiff, ite_tt, ite_ff, eq_self, and_true, true_and, and_self, implies_true, Bool.true_eq_false, Bool.false_eq_true, decide_true, decide_false, decide_eq_true_eq, decide_eq_false_iff_not, ne_eq, not_true_eq_false, not_false_eq_true, Bool.not_eq_true', Bool.not_eq_false', beq_self_eq_true, Bool.not_true, Bool.not_false, List.getElem?_toArray, List.getElem?_cons_zero, List.getElem?_cons_succ, q3, q4, q5, q6, q7, q8, q9]
        refine adraw_items [.q 0, .q 1, .q 2, .q 3, .q 4, .q 5, .q 6, .q 7, .l 8 false, .q 9, .q 10, .q 11, .l 12 false, .c 13 [], .q 14] (by kernel_rfl) (by kernel_rfl) ?_
        obtain ⟨ad2, v2, v3, rfl, hcl2, x1, x2, w2, w3⟩ := hQ6.test hi
        have hcl2 := he.part hcl2
        simp (disch := omega) only [↓stq, amv_at, ↓pln, plv, nilOk, Nat.reduceBEq, Bool.or_false, Bool.or_true, Bool.false_or, Bool.true_or, vls, inf, frs, mark_eq, ↓reduceIte, Nat.reduceEqDiff, ite_tt, ite_ff, eq_self, and_true, true_and, and_self, implies_true, Bool.true_eq_false, Bool.false_eq_true, decide_true, decide_false, decide_eq_true_eq, decide_eq_false_iff_not, ne_eq, not_true_eq_false, not_false_eq_true, Bool.not_eq_true', Bool.not_eq_false', beq_self_eq_true, Bool.not_true, Bool.not_false, List.getElem?_toArray, List.getElem?_cons_zero, List.getElem?_cons_succ, q3, q4, q5, q6, q7, q8, q9, e5, hcl, hcl2]
        refine (laws_equalTest2_c V _ _ Q[A2.length] ts[k] (testS.mono he (testS_mk x1 x2 w2 w3)) (testS.mono (Ext.refl V) (testS_mk y1 y2 t2 t3))).mono ?_
        rintro _ V8 ⟨rfl, he8⟩
        rw [same_fields.2 heq]
        have hcl := he8.part hcl
        have hcl2 := he8.part hcl2
        simp (disch := omega) only [↓stq, amv_at, ↓pln, plv, nilOk, Nat.reduceBEq, Bool.or_false, Bool.or_true, Bool.false_or, Bool.true_or, vls, inf, frs, mark_eq, ↓reduceIte, Nat.reduceEqDiff, ite_tt, ite_ff, eq_self, and_true, true_and, and_self, implies_true, Bool.true_eq_false, Bool.false_eq_true, decide_true, decide_false, decide_eq_true_eq, decide_eq_false_iff_not, ne_eq, not_true_eq_false, not_false_eq_true, Bool.not_eq_true', Bool.not_eq_false', beq_self_eq_true, Bool.not_true, Bool.not_false, List.getElem?_toArray, List.getElem?_cons_zero, List.getElem?_cons_succ, q3, q4, q5, q6, q7, q8, q9, e5, hcl, hcl2]
        exact ⟨_, by omega, k + 1, by omega, rfl, (he).trans he8, by rw [h1], by rw [h2]; rfl, rfl⟩
  · rw [List.take_of_length_le (by omega), hlen.1] at q7
    rw [List.take_of_length_le (by omega), hlen.2] at q8
    simp (disch := omega) only [↓stq, amv_at, vls, inf, frs, mark_eq, ↓reduceIte, Nat.reduceEqDiff, ite_tt, ite_ff, eq_self, and_true, true_and, and_self, implies_true, Bool.true_eq_false, Bool.false_eq_true, decide_true, decide_false, decide_eq_true_eq, decide_eq_false_iff_not, ne_eq, not_true_eq_false, not_false_eq_true, Bool.not_eq_true', Bool.not_eq_false', beq_self_eq_true, Bool.not_true, Bool.not_false, List.getElem?_toArray, List.getElem?_cons_zero, List.getElem?_cons_succ, q3, q4, q5, q6, q7, q8, q9]
    refine (impl_SelectTests_c V _ s R (hO6.mono he) (by omega) (by omega)).mono ?_
    rintro w V7 ⟨f7, l7⟩
    rw [selE_of hx hvR, htw] at l7
    have hW7 : Sl testS V7 w R := OSl.toS (l7.at (i := 0) rfl)
    obtain ⟨a7, c7, rfl, _, _⟩ := hW7.slice
    simp (disch := omega) only [↓stq, amv_at, vls, inf, frs, mark_eq, ↓reduceIte, Nat.reduceEqDiff, ite_tt, ite_ff, eq_self, and_true, true_and, and_self, implies_true, Bool.true_eq_false, Bool.false_eq_true, decide_true, decide_false, decide_eq_true_eq, decide_eq_false_iff_not, ne_eq, not_true_eq_false, not_false_eq_true, Bool.not_eq_true', Bool.not_eq_false', beq_self_eq_true, Bool.not_true, Bool.not_false, List.getElem?_toArray, List.getElem?_cons_zero, List.getElem?_cons_succ, q3, q4, q5, q6, q7, q8, q9]
    refine (laws_equalTests_c V7 _ _ R hW7 ((hO6.mono he).mono l7.ext)).mono ?_
    rintro _ V8 ⟨rfl, _⟩
    simp (disch := omega) only [↓stq, amv_at, vls, inf, frs, mark_eq, ↓reduceIte, Nat.reduceEqDiff, ite_tt, ite_ff, eq_self, and_true, true_and, and_self, implies_true, Bool.true_eq_false, Bool.false_eq_true, decide_true, decide_false, decide_eq_true_eq, decide_eq_false_iff_not, ne_eq, not_true_eq_false, not_false_eq_true, Bool.not_eq_true', Bool.not_eq_false', beq_self_eq_true, Bool.not_true, Bool.not_false, List.getElem?_toArray, List.getElem?_cons_zero, List.getElem?_cons_succ, q3, q4, q5, q6, q7, q8, q9]

end Go.Proofs.Ytbddklkfekiaeaa

