/- The law FnIdsOf. -/
import Derived.Test.YtbddklkfekiaeaaUG
set_option maxHeartbeats 4000000
set_option synthInstance.maxHeartbeats 400000
set_option synthInstance.maxSize 4096
set_option linter.unusedSimpArgs false
set_option linter.unusedVariables false
namespace Go.Proofs.Ytbddklkfekiaeaa

set_option maxRecDepth 100000

theorem law_FnIdsOf (A : View) (v0 : Value) (x0 : List UInt8) (h0 : Sl byteS A v0 x0) : ACalls Try.prog 3 #[v0] A fun r _ => r = .bool true := by
  obtain ⟨a, c, rfl, _, _⟩ := h0.slice
  refine acalls Try.func3 rfl (by kernel_rfl) ?_
  simp (disch := omega) only [↓stq, amv_at, vls, inf, frs, mark_eq, ↓reduceIte, Nat.reduceEqDiff, ite_tt, ite_ff, eq_self, and_true, true_and, and_self, implies_true, Bool.true_eq_false, Bool.false_eq_true, decide_true, decide_false, decide_eq_true_eq, decide_eq_false_iff_not, ne_eq, not_true_eq_false, not_false_eq_true, Bool.not_eq_true', Bool.not_eq_false', beq_self_eq_true, Bool.not_true, Bool.not_false, List.getElem?_toArray, List.getElem?_cons_zero, List.getElem?_cons_succ]
  refine ⟨fun e => ?_, fun e => ?_⟩ <;> simp (disch := omega) only [↓stq, amv_at, vls, inf, frs, mark_eq, ↓reduceIte, Nat.reduceEqDiff, ite_tt, ite_ff, eq_self, and_true, true_and, and_self, implies_true, Bool.true_eq_false, Bool.false_eq_true, decide_true, decide_false, decide_eq_true_eq, decide_eq_false_iff_not, ne_eq, not_true_eq_false, not_false_eq_true, Bool.not_eq_true', Bool.not_eq_false', beq_self_eq_true, Bool.not_true, Bool.not_false, List.getElem?_toArray, List.getElem?_cons_zero, List.getElem?_cons_succ]
  refine (DrawIdsOf_c A _ x0 h0).mono ?_
  rintro vt V ⟨ts, hl, hgt, hT, _⟩
  obtain ⟨at1, ct, rfl, _, _⟩ := hT.slice
  simp (disch := omega) only [↓stq, amv_at, vls, inf, frs, mark_eq, ↓reduceIte, Nat.reduceEqDiff, ite_tt, ite_ff, eq_self, and_true, true_and, and_self, implies_true, Bool.true_eq_false, Bool.false_eq_true, decide_true, decide_false, decide_eq_true_eq, decide_eq_false_iff_not, ne_eq, not_true_eq_false, not_false_eq_true, Bool.not_eq_true', Bool.not_eq_false', beq_self_eq_true, Bool.not_true, Bool.not_false, List.getElem?_toArray, List.getElem?_cons_zero, List.getElem?_cons_succ]
  refine (impl_IdsOf_c V _ ts hT (by omega)).mono ?_
  rintro u0 V1 ⟨f1, l1⟩
  have hO1 : Sl strS V1 u0 (idsR ts) := OSl.toS (l1.at (i := 0) rfl)
  obtain ⟨R, hR⟩ : ∃ R, idsR ts = R := ⟨_, rfl⟩
  rw [hR] at hO1
  obtain ⟨au, cu, rfl, _, hRl⟩ := hO1.slice
  simp (disch := omega) only [↓stq, amv_at, vls, inf, frs, mark_eq, ↓reduceIte, Nat.reduceEqDiff, ite_tt, ite_ff, eq_self, and_true, true_and, and_self, implies_true, Bool.true_eq_false, Bool.false_eq_true, decide_true, decide_false, decide_eq_true_eq, decide_eq_false_iff_not, ne_eq, not_true_eq_false, not_false_eq_true, Bool.not_eq_true', Bool.not_eq_false', beq_self_eq_true, Bool.not_true, Bool.not_false, List.getElem?_toArray, List.getElem?_cons_zero, List.getElem?_cons_succ]
  have fin : ∀ V, Ext V1 V → ACalls Try.prog 16 #[.slice at1 ts.length ct] V fun r V' => ∃ a1 c1, r = .slice a1 R.length c1 ∧ Sl strS V' r R ∧ Ext V1 V' := fun V he => (spec_IdsOf_c V _ ts ((hT.mono l1.ext).mono he)).mono fun r V' ⟨fp, l⟩ => by
    rw [hR] at l
    have hs : Sl strS V' r R := OSl.toS (l.at (i := 0) rfl)
    obtain ⟨a1, c1, h, _, _⟩ := hs.slice
    exact ⟨a1, c1, h, hs, he.trans l.ext⟩
  refine (fin V1 (Ext.refl _)).mono ?_
  rintro _ V2 ⟨aw, cw, rfl, hW2, he2⟩
  simp (disch := omega) only [↓stq, amv_at, vls, inf, frs, mark_eq, ↓reduceIte, Nat.reduceEqDiff, ite_tt, ite_ff, eq_self, and_true, true_and, and_self, implies_true, Bool.true_eq_false, Bool.false_eq_true, decide_true, decide_false, decide_eq_true_eq, decide_eq_false_iff_not, ne_eq, not_true_eq_false, not_false_eq_true, Bool.not_eq_true', Bool.not_eq_false', beq_self_eq_true, Bool.not_true, Bool.not_false, List.getElem?_toArray, List.getElem?_cons_zero, List.getElem?_cons_succ]
  refine (laws_equalTexts_c V2 _ _ R R (hO1.mono he2) hW2).mono ?_
  rintro _ V2 ⟨rfl, rfl⟩
  rw [decide_eq_true (rfl : R = R)]
  simp (disch := omega) only [↓stq, amv_at, vls, inf, frs, mark_eq, ↓reduceIte, Nat.reduceEqDiff, ite_tt, ite_ff, eq_self, and_true, true_and, and_self, implies_true, Bool.true_eq_false, Bool.false_eq_true, decide_true, decide_false, decide_eq_true_eq, decide_eq_false_iff_not, ne_eq, not_true_eq_false, not_false_eq_true, Bool.not_eq_true', Bool.not_eq_false', beq_self_eq_true, Bool.not_true, Bool.not_false, List.getElem?_toArray, List.getElem?_cons_zero, List.getElem?_cons_succ]
  refine (impl_validTests_c V2 _ ts ((hT.mono l1.ext).mono he2) (by omega)).mono ?_
  rintro _ V3 ⟨rfl, he3⟩
  simp (disch := omega) only [↓stq, amv_at, vls, inf, frs, mark_eq, ↓reduceIte, Nat.reduceEqDiff, ite_tt, ite_ff, eq_self, and_true, true_and, and_self, implies_true, Bool.true_eq_false, Bool.false_eq_true, decide_true, decide_false, decide_eq_true_eq, decide_eq_false_iff_not, ne_eq, not_true_eq_false, not_false_eq_true, Bool.not_eq_true', Bool.not_eq_false', beq_self_eq_true, Bool.not_true, Bool.not_false, List.getElem?_toArray, List.getElem?_cons_zero, List.getElem?_cons_succ]
  refine ⟨fun e1 => ?_, fun e1 => ?_⟩ <;> simp (disch := omega) only [↓stq, amv_at, vls, inf, frs, mark_eq, ↓reduceIte, Nat.reduceEqDiff, ite_tt, ite_ff, eq_self, and_true, true_and, and_self, implies_true, Bool.true_eq_false, Bool.false_eq_true, decide_true, decide_false, decide_eq_true_eq, decide_eq_false_iff_not, ne_eq, not_true_eq_false, not_false_eq_true, Bool.not_eq_true', Bool.not_eq_false', beq_self_eq_true, Bool.not_true, Bool.not_false, List.getElem?_toArray, List.getElem?_cons_zero, List.getElem?_cons_succ, e1]
  · refine (fin V3 (he2.trans he3)).mono ?_
    rintro _ V4 ⟨a1, c1, rfl, hs4, he4⟩
    simp (disch := omega) only [↓stq, amv_at, vls, inf, frs, mark_eq, ↓reduceIte, Nat.reduceEqDiff, ite_tt, ite_ff, eq_self, and_true, true_and, and_self, implies_true, Bool.true_eq_false, Bool.false_eq_true, decide_true, decide_false, decide_eq_true_eq, decide_eq_false_iff_not, ne_eq, not_true_eq_false, not_false_eq_true, Bool.not_eq_true', Bool.not_eq_false', beq_self_eq_true, Bool.not_true, Bool.not_false, List.getElem?_toArray, List.getElem?_cons_zero, List.getElem?_cons_succ]
    refine (laws_equalTexts_c V4 _ _ R R (hO1.mono he4) hs4).mono ?_
    rintro _ V4 ⟨rfl, rfl⟩
    rw [decide_eq_true (rfl : R = R)]
    simp (disch := omega) only [↓stq, amv_at, vls, inf, frs, mark_eq, ↓reduceIte, Nat.reduceEqDiff, ite_tt, ite_ff, eq_self, and_true, true_and, and_self, implies_true, Bool.true_eq_false, Bool.false_eq_true, decide_true, decide_false, decide_eq_true_eq, decide_eq_false_iff_not, ne_eq, not_true_eq_false, not_false_eq_true, Bool.not_eq_true', Bool.not_eq_false', beq_self_eq_true, Bool.not_true, Bool.not_false, List.getElem?_toArray, List.getElem?_cons_zero, List.getElem?_cons_succ]
  have hRe : R = ts.map idD := by rw [← hR]; exact idsR_of e1
  have hE3 := he2.trans he3
  refine (impl_GroupModules_c V3 _ ts ((hT.mono l1.ext).mono hE3) (by omega)).mono ?_
  rintro u4 V4 ⟨f4, l4⟩
  have hp := grpR_perm ts
  have hG4 : Sl testS V4 u4 (groupR ts) := OSl.toS (l4.at (i := 0) rfl)
  unfold groupR at hG4
  rw [if_pos e1] at hG4
  obtain ⟨a4, c4, rfl, _, _⟩ := hG4.slice
  have hE4 := hE3.trans l4.ext
  clear l4
  simp (disch := omega) only [↓stq, amv_at, vls, inf, frs, mark_eq, ↓reduceIte, Nat.reduceEqDiff, ite_tt, ite_ff, eq_self, and_true, true_and, and_self, implies_true, Bool.true_eq_false, Bool.false_eq_true, decide_true, decide_false, decide_eq_true_eq, decide_eq_false_iff_not, ne_eq, not_true_eq_false, not_false_eq_true, Bool.not_eq_true', Bool.not_eq_false', beq_self_eq_true, Bool.not_true, Bool.not_false, List.getElem?_toArray, List.getElem?_cons_zero, List.getElem?_cons_succ]
  refine (impl_IdsOf_c V4 _ _ hG4 (by rw [hp.length_eq]; omega)).mono ?_
  rintro u5 V5 ⟨f5, l5⟩
  have hI5 : Sl strS V5 u5 (idsR (grpR ts)) := OSl.toS (l5.at (i := 0) rfl)
  rw [idsR_of (testsB_perm hp e1)] at hI5
  obtain ⟨a5, c5, rfl, _, _⟩ := hI5.slice
  have hE5 := hE4.trans l5.ext
  clear l5
  simp (disch := omega) only [↓stq, amv_at, vls, inf, frs, mark_eq, ↓reduceIte, Nat.reduceEqDiff, ite_tt, ite_ff, eq_self, and_true, true_and, and_self, implies_true, Bool.true_eq_false, Bool.false_eq_true, decide_true, decide_false, decide_eq_true_eq, decide_eq_false_iff_not, ne_eq, not_true_eq_false, not_false_eq_true, Bool.not_eq_true', Bool.not_eq_false', beq_self_eq_true, Bool.not_true, Bool.not_false, List.getElem?_toArray, List.getElem?_cons_zero, List.getElem?_cons_succ]
  refine (laws_sameTexts_c V5 _ _ _ R hI5 (hO1.mono hE5)).mono ?_
  rintro _ V5 ⟨rfl, rfl⟩
  rw [sameT_perm (by rw [hRe]; exact hp.map idD)]
  simp (disch := omega) only [↓stq, amv_at, vls, inf, frs, mark_eq, ↓reduceIte, Nat.reduceEqDiff, ite_tt, ite_ff, eq_self, and_true, true_and, and_self, implies_true, Bool.true_eq_false, Bool.false_eq_true, decide_true, decide_false, decide_eq_true_eq, decide_eq_false_iff_not, ne_eq, not_true_eq_false, not_false_eq_true, Bool.not_eq_true', Bool.not_eq_false', beq_self_eq_true, Bool.not_true, Bool.not_false, List.getElem?_toArray, List.getElem?_cons_zero, List.getElem?_cons_succ]
  refine (impl_SelectTests_c V5 _ _ ts ((hT.mono l1.ext).mono hE5) (by decide) (by omega)).mono ?_
  rintro u6 V6 ⟨f6, l6⟩
  obtain ⟨Q, hQ⟩ : ∃ Q, selE true (⟨#[110, 111, 116, 32, 115, 107, 105, 112]⟩ : ByteArray) ts = Q := ⟨_, rfl⟩
  have hQs : Q.Sublist ts := by rw [← hQ]; exact selE_sub ..
  have hQ6 : Sl testS V6 u6 Q := hQ ▸ OSl.toS (l6.at (i := 0) rfl)
  obtain ⟨a6, c6, rfl, _, _⟩ := hQ6.slice
  have hE6 := hE5.trans l6.ext
  clear l6
  simp (disch := omega) only [↓stq, amv_at, vls, inf, frs, mark_eq, ↓reduceIte, Nat.reduceEqDiff, ite_tt, ite_ff, eq_self, and_true, true_and, and_self, implies_true, Bool.true_eq_false, Bool.false_eq_true, decide_true, decide_false, decide_eq_true_eq, decide_eq_false_iff_not, ne_eq, not_true_eq_false, not_false_eq_true, Bool.not_eq_true', Bool.not_eq_false', beq_self_eq_true, Bool.not_true, Bool.not_false, List.getElem?_toArray, List.getElem?_cons_zero, List.getElem?_cons_succ]
  refine (impl_IdsOf_c V6 _ _ hQ6 (by have := hQs.length_le; omega)).mono ?_
  rintro u7 V7 ⟨f7, l7⟩
  have hI7 : Sl strS V7 u7 (idsR Q) := OSl.toS (l7.at (i := 0) rfl)
  rw [idsR_of (testsB_sub hQs e1)] at hI7
  obtain ⟨a7, c7, rfl, _, _⟩ := hI7.slice
  have hE7 := hE6.trans l7.ext
  clear l7
  simp (disch := omega) only [↓stq, amv_at, vls, inf, frs, mark_eq, ↓reduceIte, Nat.reduceEqDiff, ite_tt, ite_ff, eq_self, and_true, true_and, and_self, implies_true, Bool.true_eq_false, Bool.false_eq_true, decide_true, decide_false, decide_eq_true_eq, decide_eq_false_iff_not, ne_eq, not_true_eq_false, not_false_eq_true, Bool.not_eq_true', Bool.not_eq_false', beq_self_eq_true, Bool.not_true, Bool.not_false, List.getElem?_toArray, List.getElem?_cons_zero, List.getElem?_cons_succ]
  refine (laws_within2_c V7 _ _ _ R hI7 (hO1.mono hE7)).mono ?_
  rintro _ V7 ⟨rfl, rfl⟩
  have hw : sub2 (Q.map idD) R = true := by
    unfold sub2
    rw [List.all_eq_true, hRe]
    exact fun x hx => decide_eq_true ((hQs.map idD).subset hx)
  have hlen : R.length = ts.length := by rw [hRe, List.length_map]
  rw [hw]
  have hlenI : (R.length : Int) = ts.length := by omega
  simp (disch := omega) only [↓stq, amv_at, vls, inf, frs, mark_eq, ↓reduceIte, Nat.reduceEqDiff, ite_tt, ite_ff, eq_self, and_true, true_and, and_self, implies_true, Bool.true_eq_false, Bool.false_eq_true, decide_true, decide_false, decide_eq_true_eq, decide_eq_false_iff_not, ne_eq, not_true_eq_false, not_false_eq_true, Bool.not_eq_true', Bool.not_eq_false', beq_self_eq_true, Bool.not_true, Bool.not_false, List.getElem?_toArray, List.getElem?_cons_zero, List.getElem?_cons_succ, hlenI]

end Go.Proofs.Ytbddklkfekiaeaa

