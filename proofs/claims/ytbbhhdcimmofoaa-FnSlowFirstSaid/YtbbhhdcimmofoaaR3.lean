/- SlowFirst: the program and the reference. -/
import Derived.Test.YtbbhhdcimmofoaaR2
import Derived.Test.YtbbhhdcimmofoaaP2
set_option maxHeartbeats 4000000
set_option synthInstance.maxHeartbeats 400000
set_option synthInstance.maxSize 4096
set_option linter.unusedSimpArgs false
set_option linter.unusedVariables false
namespace Go.Proofs.Ytbbhhdcimmofoaa

set_option maxRecDepth 100000

def slowR (ids : List ByteArray) (xs : List PastD) : List ByteArray := if idsB ids && pastB xs then ssort (costF xs) ids else []

theorem slowR_len (ids : List ByteArray) (xs : List PastD) : (slowR ids xs).length ≤ 10 := by
  unfold slowR
  split
  · rename_i h
    rw [Bool.and_eq_true] at h
    rw [ssort_len]
    exact idsB_len h.1
  · simp

theorem impl_slowCmp_c (A : View) (q : Nat) (u : Value) (xs : List PastD) (hb : A.cell ⟨q, 0, none⟩ = some u) (h : Sl pastS A u xs) (hv : pastB xs = true) (x y : ByteArray) : ACalls Try.prog 61 #[.string x, .string y, .pointer (some ⟨q, 0, none⟩)] A fun r A' => r = .int .i64 (costF xs y - costF xs x) ∧ Ext A A' := by
  have c1 := costF_range hv x
  have c2 := costF_range hv y
  obtain ⟨a, c, rfl, hc, hl⟩ := h.slice
  refine acalls Try.func61 rfl (by kernel_rfl) ?_
  simp (disch := omega) only [↓stp, vls, inf, frs, mark_eq, ↓reduceIte, Nat.reduceEqDiff, ite_tt, ite_ff, eq_self, and_true, true_and, and_self, implies_true, Bool.true_eq_false, Bool.false_eq_true, decide_true, decide_false, decide_eq_true_eq, decide_eq_false_iff_not, ne_eq, not_true_eq_false, not_false_eq_true, Bool.not_eq_true', Bool.not_eq_false', beq_self_eq_true, Bool.not_true, Bool.not_false, List.getElem?_toArray, List.getElem?_cons_zero, List.getElem?_cons_succ]
  refine adraw_items [.l 0 false, .q 1, .l 3 true, .q 4, .c 2 [3], .c 5 [], .q 6, .q 7] (by kernel_rfl) (by kernel_rfl) ?_
  simp (disch := omega) only [↓stp, ↓pln, plv, nilOk, Nat.reduceBEq, Bool.or_false, Bool.or_true, Bool.false_or, Bool.true_or, vls, inf, frs, mark_eq, ↓reduceIte, Nat.reduceEqDiff, ite_tt, ite_ff, eq_self, and_true, true_and, and_self, implies_true, Bool.true_eq_false, Bool.false_eq_true, decide_true, decide_false, decide_eq_true_eq, decide_eq_false_iff_not, ne_eq, not_true_eq_false, not_false_eq_true, Bool.not_eq_true', Bool.not_eq_false', beq_self_eq_true, Bool.not_true, Bool.not_false, List.getElem?_toArray, List.getElem?_cons_zero, List.getElem?_cons_succ, hb]
  refine (impl_costOf_c A _ xs y h).mono ?_
  rintro _ V ⟨rfl, he⟩
  replace hb := he.cell hb
  simp (disch := omega) only [↓stp, ↓pln, plv, nilOk, Nat.reduceBEq, Bool.or_false, Bool.or_true, Bool.false_or, Bool.true_or, vls, inf, frs, mark_eq, ↓reduceIte, Nat.reduceEqDiff, ite_tt, ite_ff, eq_self, and_true, true_and, and_self, implies_true, Bool.true_eq_false, Bool.false_eq_true, decide_true, decide_false, decide_eq_true_eq, decide_eq_false_iff_not, ne_eq, not_true_eq_false, not_false_eq_true, Bool.not_eq_true', Bool.not_eq_false', beq_self_eq_true, Bool.not_true, Bool.not_false, List.getElem?_toArray, List.getElem?_cons_zero, List.getElem?_cons_succ, hb]
  refine (impl_costOf_c V _ xs x (h.mono he)).mono ?_
  rintro _ W ⟨rfl, he2⟩
  replace hb := he2.cell hb
  simp (disch := omega) only [↓stp, ↓pln, plv, nilOk, Nat.reduceBEq, Bool.or_false, Bool.or_true, Bool.false_or, Bool.true_or, vls, inf, frs, mark_eq, ↓reduceIte, Nat.reduceEqDiff, ite_tt, ite_ff, eq_self, and_true, true_and, and_self, implies_true, Bool.true_eq_false, Bool.false_eq_true, decide_true, decide_false, decide_eq_true_eq, decide_eq_false_iff_not, ne_eq, not_true_eq_false, not_false_eq_true, Bool.not_eq_true', Bool.not_eq_false', beq_self_eq_true, Bool.not_true, Bool.not_false, List.getElem?_toArray, List.getElem?_cons_zero, List.getElem?_cons_succ, hb]
  exact he.trans he2

theorem impl_slowFirst_c (A : View) (v u : Value) (ids : List ByteArray) (xs : List PastD) (h : Sl strS A v ids) (h' : Sl pastS A u xs) (hsm : xs.length ≤ 16777215) : ACalls Try.prog 32 #[v, u] A fun r A' => NewSl 9 strO A r A' (slowR ids xs) := by
  obtain ⟨a, c, rfl, hc, hl⟩ := h'.slice
  refine acalls Try.func32 rfl (by kernel_rfl) ?_
  simp (disch := omega) only [↓stp, vls, inf, frs, mark_eq, ↓reduceIte, Nat.reduceEqDiff, ite_tt, ite_ff, eq_self, and_true, true_and, and_self, implies_true, Bool.true_eq_false, Bool.false_eq_true, decide_true, decide_false, decide_eq_true_eq, decide_eq_false_iff_not, ne_eq, not_true_eq_false, not_false_eq_true, Bool.not_eq_true', Bool.not_eq_false', beq_self_eq_true, Bool.not_true, Bool.not_false, List.getElem?_toArray, List.getElem?_cons_zero, List.getElem?_cons_succ]
  refine led_box1 (Led.nil A) rfl rfl fun q V he l => ?_
  have hb : V.cell ⟨q, 0, none⟩ = some (.slice a xs.length c) := l.cell (i := 0) rfl (o := 0) rfl rfl
  simp (disch := omega) only [↓stp, vls, inf, frs, mark_eq, ↓reduceIte, Nat.reduceEqDiff, ite_tt, ite_ff, eq_self, and_true, true_and, and_self, implies_true, Bool.true_eq_false, Bool.false_eq_true, decide_true, decide_false, decide_eq_true_eq, decide_eq_false_iff_not, ne_eq, not_true_eq_false, not_false_eq_true, Bool.not_eq_true', Bool.not_eq_false', beq_self_eq_true, Bool.not_true, Bool.not_false, List.getElem?_toArray, List.getElem?_cons_zero, List.getElem?_cons_succ]
  refine (impl_idsOk_c V _ ids (h.mono he)).mono ?_
  rintro _ V ⟨rfl, rfl⟩
  simp (disch := omega) only [↓stp, vls, inf, frs, mark_eq, ↓reduceIte, Nat.reduceEqDiff, ite_tt, ite_ff, eq_self, and_true, true_and, and_self, implies_true, Bool.true_eq_false, Bool.false_eq_true, decide_true, decide_false, decide_eq_true_eq, decide_eq_false_iff_not, ne_eq, not_true_eq_false, not_false_eq_true, Bool.not_eq_true', Bool.not_eq_false', beq_self_eq_true, Bool.not_true, Bool.not_false, List.getElem?_toArray, List.getElem?_cons_zero, List.getElem?_cons_succ]
  refine ⟨fun e1 => ?_, fun e1 => ?_⟩ <;> simp (disch := omega) only [↓stp, vls, inf, frs, mark_eq, ↓reduceIte, Nat.reduceEqDiff, ite_tt, ite_ff, eq_self, and_true, true_and, and_self, implies_true, Bool.true_eq_false, Bool.false_eq_true, decide_true, decide_false, decide_eq_true_eq, decide_eq_false_iff_not, ne_eq, not_true_eq_false, not_false_eq_true, Bool.not_eq_true', Bool.not_eq_false', beq_self_eq_true, Bool.not_true, Bool.not_false, List.getElem?_toArray, List.getElem?_cons_zero, List.getElem?_cons_succ, e1, hb]
  · refine (impl_validPast_c V _ xs (h'.mono he) hsm).mono ?_
    rintro _ W ⟨rfl, he2⟩
    replace l := l.step he2
    simp (disch := omega) only [↓stp, vls, inf, frs, mark_eq, ↓reduceIte, Nat.reduceEqDiff, ite_tt, ite_ff, eq_self, and_true, true_and, and_self, implies_true, Bool.true_eq_false, Bool.false_eq_true, decide_true, decide_false, decide_eq_true_eq, decide_eq_false_iff_not, ne_eq, not_true_eq_false, not_false_eq_true, Bool.not_eq_true', Bool.not_eq_false', beq_self_eq_true, Bool.not_true, Bool.not_false, List.getElem?_toArray, List.getElem?_cons_zero, List.getElem?_cons_succ, e1]
    refine ⟨fun e2 => ?_, fun e2 => ?_⟩ <;> simp (disch := omega) only [↓stp, vls, inf, frs, mark_eq, ↓reduceIte, Nat.reduceEqDiff, ite_tt, ite_ff, eq_self, and_true, true_and, and_self, implies_true, Bool.true_eq_false, Bool.false_eq_true, decide_true, decide_false, decide_eq_true_eq, decide_eq_false_iff_not, ne_eq, not_true_eq_false, not_false_eq_true, Bool.not_eq_true', Bool.not_eq_false', beq_self_eq_true, Bool.not_true, Bool.not_false, List.getElem?_toArray, List.getElem?_cons_zero, List.getElem?_cons_succ]
    · have : slowR ids xs = [] := by unfold slowR; rw [e2, Bool.and_false]; rfl
      rw [this]; exact NewSl.nil l.ext
    · have hr : slowR ids xs = ssort (costF xs) ids := by unfold slowR; rw [e1, e2]; rfl
      have hlen := idsB_len e1
      refine (cloneString_c W v ids (h.mono l.ext) (by omega)).mono ?_
      rintro r V2 ⟨f0, l1⟩
      replace l := l.append l1
      simp (disch := omega) only [↓stp, vls, inf, frs, mark_eq, ↓reduceIte, Nat.reduceEqDiff, ite_tt, ite_ff, eq_self, and_true, true_and, and_self, implies_true, Bool.true_eq_false, Bool.false_eq_true, decide_true, decide_false, decide_eq_true_eq, decide_eq_false_iff_not, ne_eq, not_true_eq_false, not_false_eq_true, Bool.not_eq_true', Bool.not_eq_false', beq_self_eq_true, Bool.not_true, Bool.not_false, List.getElem?_toArray, List.getElem?_cons_zero, List.getElem?_cons_succ]
      refine (sortStable_c A V2 _ f0 r ids _ _ _ (costF xs) (costF_range e2) (by kernel_rfl) (by omega) (fun V w l x y => ?_) l).mono ?_
      · exact impl_slowCmp_c V q _ xs (l.cell (i := 1) rfl (o := 0) rfl rfl) (h'.mono l.ext) e2 x y
      · rintro _ W2 l
        simp (disch := omega) only [↓stp, vls, inf, frs, mark_eq, ↓reduceIte, Nat.reduceEqDiff, ite_tt, ite_ff, eq_self, and_true, true_and, and_self, implies_true, Bool.true_eq_false, Bool.false_eq_true, decide_true, decide_false, decide_eq_true_eq, decide_eq_false_iff_not, ne_eq, not_true_eq_false, not_false_eq_true, Bool.not_eq_true', Bool.not_eq_false', beq_self_eq_true, Bool.not_true, Bool.not_false, List.getElem?_toArray, List.getElem?_cons_zero, List.getElem?_cons_succ]
        rw [hr]
        exact NewSl.of l (i := 0) rfl
  · have : slowR ids xs = [] := by unfold slowR; rw [e1]; rfl
    rw [this]; exact NewSl.nil l.ext

theorem spec_slowFirst0_c (A : View) (v u : Value) (ids : List ByteArray) (xs : List PastD) (h : Sl strS A v ids) (h' : Sl pastS A u xs) (hsm : ids.length ≤ 10) (hv : pastB xs = true) : ACalls Try.prog 64 #[v, u] A fun r A' => NewSl 9 strO A r A' (ssort (costF xs) ids) := by
  obtain ⟨a, c, rfl, hc, hl⟩ := h.slice
  obtain ⟨au, cu, rfl, hcu, hlu⟩ := h'.slice
  refine acalls Try.func64 rfl (by kernel_rfl) ?_
  simp (disch := omega) only [↓stp, vls, inf, frs, mark_eq, ↓reduceIte, Nat.reduceEqDiff, ite_tt, ite_ff, eq_self, and_true, true_and, and_self, implies_true, Bool.true_eq_false, Bool.false_eq_true, decide_true, decide_false, decide_eq_true_eq, decide_eq_false_iff_not, ne_eq, not_true_eq_false, not_false_eq_true, Bool.not_eq_true', Bool.not_eq_false', beq_self_eq_true, Bool.not_true, Bool.not_false, List.getElem?_toArray, List.getElem?_cons_zero, List.getElem?_cons_succ]
  refine led_lit0 (O := strO) li24 (Led.nil A) fun b V _ l => ?_
  simp (disch := omega) only [↓stp, vls, inf, frs, mark_eq, ↓reduceIte, Nat.reduceEqDiff, ite_tt, ite_ff, eq_self, and_true, true_and, and_self, implies_true, Bool.true_eq_false, Bool.false_eq_true, decide_true, decide_false, decide_eq_true_eq, decide_eq_false_iff_not, ne_eq, not_true_eq_false, not_false_eq_true, Bool.not_eq_true', Bool.not_eq_false', beq_self_eq_true, Bool.not_true, Bool.not_false, List.getElem?_toArray, List.getElem?_cons_zero, List.getElem?_cons_succ]
  refine aloop (fun d fr V => ∃ (i : Nat) (fp : List Nat) (w : Value), i ≤ ids.length ∧ d = ids.length - i ∧ Led A [osl 9 strO fp w (ssort (costF xs) (ids.take i))] V ∧ fr 0 = .slice a ids.length c ∧ fr 1 = .slice au xs.length cu ∧ fr 5 = w ∧ fr 6 = .int .i64 i) ids.length ⟨0, _, _, by omega, by omega, l, by rfl, by rfl, by rfl, by rfl⟩ ?_
  rintro d fr V ⟨i, fp, w, hi, rfl, l, h0, h1, h5, h6⟩
  simp (disch := omega) only [↓stp, vls, inf, frs, mark_eq, ↓reduceIte, Nat.reduceEqDiff, ite_tt, ite_ff, eq_self, and_true, true_and, and_self, implies_true, Bool.true_eq_false, Bool.false_eq_true, decide_true, decide_false, decide_eq_true_eq, decide_eq_false_iff_not, ne_eq, not_true_eq_false, not_false_eq_true, Bool.not_eq_true', Bool.not_eq_false', beq_self_eq_true, Bool.not_true, Bool.not_false, List.getElem?_toArray, List.getElem?_cons_zero, List.getElem?_cons_succ, h0, h1, h5, h6]
  refine ⟨fun e => ?_, fun e => ?_⟩
  · have hlt : i < ids.length := by omega
    obtain ⟨ad, rfl, k0, z0⟩ := (h.mono l.ext).str hlt
    have hk0 : ∀ V', Ext A V' → V'.cell (ad.add i) = some (.string ids[i]) := fun V' hE => by
      obtain ⟨_, hq, k, _⟩ := (h.mono hE).str hlt
      obtain rfl := Option.some.inj hq
      exact k
    have hS : (ssort (costF xs) (ids.take i)).length = i := by rw [ssort_len, List.length_take]; omega
    have hD := ssort_desc (f := costF xs) (ids.take i)
    have hts := ssort_take (f := costF xs) hlt
    generalize ssort (costF xs) (ids.take i) = S at l hS hD hts
    have hO : OSl 9 strO V fp w S := l.at (i := 0) rfl
    have hT := OSl.toS hO
    obtain ⟨a5, c5, rfl, hc5, hl5⟩ := hT.slice
    simp (disch := omega) only [↓stp, vls, inf, frs, mark_eq, ↓reduceIte, Nat.reduceEqDiff, ite_tt, ite_ff, eq_self, and_true, true_and, and_self, implies_true, Bool.true_eq_false, Bool.false_eq_true, decide_true, decide_false, decide_eq_true_eq, decide_eq_false_iff_not, ne_eq, not_true_eq_false, not_false_eq_true, Bool.not_eq_true', Bool.not_eq_false', beq_self_eq_true, Bool.not_true, Bool.not_false, List.getElem?_toArray, List.getElem?_cons_zero, List.getElem?_cons_succ, h0, h1, h5, h6]
    refine aloop (fun d fr W => ∃ k : Nat, k ≤ S.length ∧ d = S.length - k ∧ W = V ∧ (∀ y, y ∈ S.take k → costF xs ids[i] ≤ costF xs y) ∧ fr 0 = .slice (some ad) ids.length c ∧ fr 1 = .slice au xs.length cu ∧ fr 5 = .slice a5 S.length c5 ∧ fr 6 = .int .i64 i ∧ fr 7 = .int .i64 k) S.length ⟨0, by omega, by omega, rfl, (by intro y hy; cases hy), h0, h1, h5, h6, rfl⟩ ?_
    rintro d fr W ⟨k, hk, rfl, rfl, hge, h0, h1, h5, h6, h7⟩
    have hfin : (∀ y, y ∈ S.drop k → costF xs y < costF xs ids[i]) → ssort (costF xs) (ids.take (i + 1)) = S.take k ++ ids[i] :: S.drop k := fun hq => by
      rw [hts]
      conv => lhs; rw [← List.take_append_drop k S]
      exact ssIns_split hge hq
    refine adraw_items [.q 0, .q 1, .q 2, .q 3, .q 4, .q 5, .q 6, .q 7, .q 8, .l 9 false, .q 11, .q 12, .q 13, .q 14, .l 15 true, .c 10 [15], .c 16 [], .q 17, .q 18] (by kernel_rfl) (by kernel_rfl) ?_
    simp (disch := omega) only [↓stp, ↓pln, plv, nilOk, Nat.reduceBEq, Bool.or_false, Bool.or_true, Bool.false_or, Bool.true_or, vls, inf, frs, mark_eq, ↓reduceIte, Nat.reduceEqDiff, ite_tt, ite_ff, eq_self, and_true, true_and, and_self, implies_true, Bool.true_eq_false, Bool.false_eq_true, decide_true, decide_false, decide_eq_true_eq, decide_eq_false_iff_not, ne_eq, not_true_eq_false, not_false_eq_true, Bool.not_eq_true', Bool.not_eq_false', beq_self_eq_true, Bool.not_true, Bool.not_false, List.getElem?_toArray, List.getElem?_cons_zero, List.getElem?_cons_succ, h0, h1, h5, h6, h7]
    refine ⟨fun e1 => ?_, fun e1 => ?_⟩
    · have hlk : k < S.length := by omega
      obtain ⟨a6, rfl, k1, z1⟩ := Sl.str hT hlk
      simp (disch := omega) only [↓stp, ↓pln, plv, nilOk, Nat.reduceBEq, Bool.or_false, Bool.or_true, Bool.false_or, Bool.true_or, vls, inf, frs, mark_eq, ↓reduceIte, Nat.reduceEqDiff, ite_tt, ite_ff, eq_self, and_true, true_and, and_self, implies_true, Bool.true_eq_false, Bool.false_eq_true, decide_true, decide_false, decide_eq_true_eq, decide_eq_false_iff_not, ne_eq, not_true_eq_false, not_false_eq_true, Bool.not_eq_true', Bool.not_eq_false', beq_self_eq_true, Bool.not_true, Bool.not_false, List.getElem?_toArray, List.getElem?_cons_zero, List.getElem?_cons_succ, h0, h1, h5, h6, h7, e1, k1, k0]
      refine (spec_costOf_c W _ xs S[k] (h'.mono l.ext)).mono ?_
      rintro _ W ⟨rfl, rfl⟩
      simp (disch := omega) only [↓stp, ↓pln, plv, nilOk, Nat.reduceBEq, Bool.or_false, Bool.or_true, Bool.false_or, Bool.true_or, vls, inf, frs, mark_eq, ↓reduceIte, Nat.reduceEqDiff, ite_tt, ite_ff, eq_self, and_true, true_and, and_self, implies_true, Bool.true_eq_false, Bool.false_eq_true, decide_true, decide_false, decide_eq_true_eq, decide_eq_false_iff_not, ne_eq, not_true_eq_false, not_false_eq_true, Bool.not_eq_true', Bool.not_eq_false', beq_self_eq_true, Bool.not_true, Bool.not_false, List.getElem?_toArray, List.getElem?_cons_zero, List.getElem?_cons_succ, h0, h1, h5, h6, h7, e1, k1, k0]
      refine (spec_costOf_c W _ xs ids[i] (h'.mono l.ext)).mono ?_
      rintro _ W ⟨rfl, rfl⟩
      simp (disch := omega) only [↓stp, ↓pln, plv, nilOk, Nat.reduceBEq, Bool.or_false, Bool.or_true, Bool.false_or, Bool.true_or, vls, inf, frs, mark_eq, ↓reduceIte, Nat.reduceEqDiff, ite_tt, ite_ff, eq_self, and_true, true_and, and_self, implies_true, Bool.true_eq_false, Bool.false_eq_true, decide_true, decide_false, decide_eq_true_eq, decide_eq_false_iff_not, ne_eq, not_true_eq_false, not_false_eq_true, Bool.not_eq_true', Bool.not_eq_false', beq_self_eq_true, Bool.not_true, Bool.not_false, List.getElem?_toArray, List.getElem?_cons_zero, List.getElem?_cons_succ, h0, h1, h5, h6, h7, e1, k1, k0]
      refine ⟨fun e2 => ?_, fun e2 => ?_⟩
      · simp (disch := omega) only [↓stp, vls, inf, frs, mark_eq, ↓reduceIte, Nat.reduceEqDiff, ite_tt, ite_ff, eq_self, and_true, true_and, and_self, implies_true, Bool.true_eq_false, Bool.false_eq_true, decide_true, decide_false, decide_eq_true_eq, decide_eq_false_iff_not, ne_eq, not_true_eq_false, not_false_eq_true, Bool.not_eq_true', Bool.not_eq_false', beq_self_eq_true, Bool.not_true, Bool.not_false, List.getElem?_toArray, List.getElem?_cons_zero, List.getElem?_cons_succ, h0, h1, h5, h6, h7]
        refine ⟨_, ?_, k + 1, by omega, rfl, fun y hy => ?_, rfl⟩
        · omega
        · rw [List.take_succ_eq_append_getElem hlk, List.mem_append, List.mem_singleton] at hy
          rcases hy with hy | rfl
          · exact hge y hy
          · exact e2
      · replace hfin := hfin fun y hy => by
          have := desc_from hD hlk hy
          omega
        simp (disch := omega) only [↓stp, vls, inf, frs, mark_eq, ↓reduceIte, Nat.reduceEqDiff, ite_tt, ite_ff, eq_self, and_true, true_and, and_self, implies_true, Bool.true_eq_false, Bool.false_eq_true, decide_true, decide_false, decide_eq_true_eq, decide_eq_false_iff_not, ne_eq, not_true_eq_false, not_false_eq_true, Bool.not_eq_true', Bool.not_eq_false', beq_self_eq_true, Bool.not_true, Bool.not_false, List.getElem?_toArray, List.getElem?_cons_zero, List.getElem?_cons_succ, h0, h1, h5, h6, h7]
        refine adraw_items [.q 1, .q 2, .q 3, .q 5, .q 6, .q 7, .l 8 true, .q 11, .q 12, .q 13, .c 0 [], .c 4 [8], .c 9 [], .c 10 [], .c 14 [], .q 15] (by kernel_rfl) (by kernel_rfl) ?_
        simp (disch := omega) only [↓stp, ↓pln, plv, nilOk, Nat.reduceBEq, Bool.or_false, Bool.or_true, Bool.false_or, Bool.true_or, vls, inf, frs, mark_eq, ↓reduceIte, Nat.reduceEqDiff, ite_tt, ite_ff, eq_self, and_true, true_and, and_self, implies_true, Bool.true_eq_false, Bool.false_eq_true, decide_true, decide_false, decide_eq_true_eq, decide_eq_false_iff_not, ne_eq, not_true_eq_false, not_false_eq_true, Bool.not_eq_true', Bool.not_eq_false', beq_self_eq_true, Bool.not_true, Bool.not_false, List.getElem?_toArray, List.getElem?_cons_zero, List.getElem?_cons_succ, h0, h1, h5, h6, h7, k0]
        refine led_lit0 (O := strO) li24 l fun b1 V1 he1 l => ?_
        have k1 := hk0 _ l.ext
        simp (disch := omega) only [↓stp, ↓pln, plv, nilOk, Nat.reduceBEq, Bool.or_false, Bool.or_true, Bool.false_or, Bool.true_or, vls, inf, frs, mark_eq, ↓reduceIte, Nat.reduceEqDiff, ite_tt, ite_ff, eq_self, and_true, true_and, and_self, implies_true, Bool.true_eq_false, Bool.false_eq_true, decide_true, decide_false, decide_eq_true_eq, decide_eq_false_iff_not, ne_eq, not_true_eq_false, not_false_eq_true, Bool.not_eq_true', Bool.not_eq_false', beq_self_eq_true, Bool.not_true, Bool.not_false, List.getElem?_toArray, List.getElem?_cons_zero, List.getElem?_cons_succ, h0, h1, h5, h6, h7, k1, false_implies]
        have hT := OSl.toS (show OSl 9 strO V1 fp (.slice (some a6) S.length c5) S from l.at (i := 1) rfl)
        refine led_app (O := strO) ap24_24 (by decide) l (i := 0) rfl (Sl.srcOf (hT.take (k := k) (by omega) 1)) (by rw [List.length_nil, List.length_take]; omega) fun fp1 w1 V2 _ l => ?_
        have k1 := hk0 _ l.ext
        simp (disch := omega) only [↓stp, ↓pln, plv, nilOk, Nat.reduceBEq, Bool.or_false, Bool.or_true, Bool.false_or, Bool.true_or, vls, inf, frs, mark_eq, ↓reduceIte, Nat.reduceEqDiff, ite_tt, ite_ff, eq_self, and_true, true_and, and_self, implies_true, Bool.true_eq_false, Bool.false_eq_true, decide_true, decide_false, decide_eq_true_eq, decide_eq_false_iff_not, ne_eq, not_true_eq_false, not_false_eq_true, Bool.not_eq_true', Bool.not_eq_false', beq_self_eq_true, Bool.not_true, Bool.not_false, List.getElem?_toArray, List.getElem?_cons_zero, List.getElem?_cons_succ, h0, h1, h5, h6, h7, k1, false_implies]
        refine led_lit li24 (by omega) rfl (fun p hp => by rcases List.mem_singleton.1 hp with rfl; exact ⟨rfl, rfl⟩) l fun bl V3 _ l => ?_
        have k1 := hk0 _ l.ext
        simp (disch := omega) only [↓stp, ↓pln, plv, nilOk, Nat.reduceBEq, Bool.or_false, Bool.or_true, Bool.false_or, Bool.true_or, vls, inf, frs, mark_eq, ↓reduceIte, Nat.reduceEqDiff, ite_tt, ite_ff, eq_self, and_true, true_and, and_self, implies_true, Bool.true_eq_false, Bool.false_eq_true, decide_true, decide_false, decide_eq_true_eq, decide_eq_false_iff_not, ne_eq, not_true_eq_false, not_false_eq_true, Bool.not_eq_true', Bool.not_eq_false', beq_self_eq_true, Bool.not_true, Bool.not_false, List.getElem?_toArray, List.getElem?_cons_zero, List.getElem?_cons_succ, h0, h1, h5, h6, h7, k1, false_implies]
        refine led_app (O := strO) ap24_24 (by decide) l (i := 1) rfl (l.src1 (S := strS) (j := 0) rfl ⟨rfl, z0⟩) (by rw [List.length_singleton, List.nil_append, List.length_take]; omega) fun fp2 w2 V4 _ l => ?_
        have k1 := hk0 _ l.ext
        simp (disch := omega) only [↓stp, ↓pln, plv, nilOk, Nat.reduceBEq, Bool.or_false, Bool.or_true, Bool.false_or, Bool.true_or, vls, inf, frs, mark_eq, ↓reduceIte, Nat.reduceEqDiff, ite_tt, ite_ff, eq_self, and_true, true_and, and_self, implies_true, Bool.true_eq_false, Bool.false_eq_true, decide_true, decide_false, decide_eq_true_eq, decide_eq_false_iff_not, ne_eq, not_true_eq_false, not_false_eq_true, Bool.not_eq_true', Bool.not_eq_false', beq_self_eq_true, Bool.not_true, Bool.not_false, List.getElem?_toArray, List.getElem?_cons_zero, List.getElem?_cons_succ, h0, h1, h5, h6, h7, k1, false_implies]
        have hT := OSl.toS (show OSl 9 strO V4 fp (.slice (some a6) S.length c5) S from l.at (i := 2) rfl)
        refine led_app (O := strO) ap24_24 (by decide) l (i := 1) rfl (Sl.srcOf (hT.drop (k := k) (by omega))) (by rw [List.nil_append, List.length_append, List.length_singleton, List.length_drop, List.length_take]; omega) fun fp3 w3 V5 _ l => ?_
        have k1 := hk0 _ l.ext
        simp (disch := omega) only [↓stp, ↓pln, plv, nilOk, Nat.reduceBEq, Bool.or_false, Bool.or_true, Bool.false_or, Bool.true_or, vls, inf, frs, mark_eq, ↓reduceIte, Nat.reduceEqDiff, ite_tt, ite_ff, eq_self, and_true, true_and, and_self, implies_true, Bool.true_eq_false, Bool.false_eq_true, decide_true, decide_false, decide_eq_true_eq, decide_eq_false_iff_not, ne_eq, not_true_eq_false, not_false_eq_true, Bool.not_eq_true', Bool.not_eq_false', beq_self_eq_true, Bool.not_true, Bool.not_false, List.getElem?_toArray, List.getElem?_cons_zero, List.getElem?_cons_succ, h0, h1, h5, h6, h7, k1, false_implies]
        have l : Led A [osl 9 strO fp3 w3 (ssort (costF xs) (ids.take (i + 1)))] V5 := by
          rw [hfin]
          have := l.sub (M := [osl 9 strO fp3 w3 (([] ++ S.take k ++ [ids[i]]) ++ S.drop k)]) (by simp)
          rw [List.nil_append, List.append_assoc] at this
          exact this
        exact ⟨_, by omega, i + 1, _, _, by omega, rfl, l, rfl, rfl⟩
    · replace hfin := hfin fun y hy => by
        rw [List.drop_of_length_le (by omega)] at hy
        cases hy
      simp (disch := omega) only [↓stp, ↓pln, plv, nilOk, Nat.reduceBEq, Bool.or_false, Bool.or_true, Bool.false_or, Bool.true_or, vls, inf, frs, mark_eq, ↓reduceIte, Nat.reduceEqDiff, ite_tt, ite_ff, eq_self, and_true, true_and, and_self, implies_true, Bool.true_eq_false, Bool.false_eq_true, decide_true, decide_false, decide_eq_true_eq, decide_eq_false_iff_not, ne_eq, not_true_eq_false, not_false_eq_true, Bool.not_eq_true', Bool.not_eq_false', beq_self_eq_true, Bool.not_true, Bool.not_false, List.getElem?_toArray, List.getElem?_cons_zero, List.getElem?_cons_succ, h0, h1, h5, h6, h7, e1]
      refine adraw_items [.q 1, .q 2, .q 3, .q 5, .q 6, .q 7, .l 8 true, .q 11, .q 12, .q 13, .c 0 [], .c 4 [8], .c 9 [], .c 10 [], .c 14 [], .q 15] (by kernel_rfl) (by kernel_rfl) ?_
      simp (disch := omega) only [↓stp, ↓pln, plv, nilOk, Nat.reduceBEq, Bool.or_false, Bool.or_true, Bool.false_or, Bool.true_or, vls, inf, frs, mark_eq, ↓reduceIte, Nat.reduceEqDiff, ite_tt, ite_ff, eq_self, and_true, true_and, and_self, implies_true, Bool.true_eq_false, Bool.false_eq_true, decide_true, decide_false, decide_eq_true_eq, decide_eq_false_iff_not, ne_eq, not_true_eq_false, not_false_eq_true, Bool.not_eq_true', Bool.not_eq_false', beq_self_eq_true, Bool.not_true, Bool.not_false, List.getElem?_toArray, List.getElem?_cons_zero, List.getElem?_cons_succ, h0, h1, h5, h6, h7, k0]
      refine led_lit0 (O := strO) li24 l fun b1 V1 he1 l => ?_
      have k1 := hk0 _ l.ext
      simp (disch := omega) only [↓stp, ↓pln, plv, nilOk, Nat.reduceBEq, Bool.or_false, Bool.or_true, Bool.false_or, Bool.true_or, vls, inf, frs, mark_eq, ↓reduceIte, Nat.reduceEqDiff, ite_tt, ite_ff, eq_self, and_true, true_and, and_self, implies_true, Bool.true_eq_false, Bool.false_eq_true, decide_true, decide_false, decide_eq_true_eq, decide_eq_false_iff_not, ne_eq, not_true_eq_false, not_false_eq_true, Bool.not_eq_true', Bool.not_eq_false', beq_self_eq_true, Bool.not_true, Bool.not_false, List.getElem?_toArray, List.getElem?_cons_zero, List.getElem?_cons_succ, h0, h1, h5, h6, h7, k1, false_implies]
      have hT := OSl.toS (show OSl 9 strO V1 fp (.slice a5 S.length c5) S from l.at (i := 1) rfl)
      refine led_app (O := strO) ap24_24 (by decide) l (i := 0) rfl (Sl.srcOf (hT.take (k := k) (by omega) 1)) (by rw [List.length_nil, List.length_take]; omega) fun fp1 w1 V2 _ l => ?_
      have k1 := hk0 _ l.ext
      simp (disch := omega) only [↓stp, ↓pln, plv, nilOk, Nat.reduceBEq, Bool.or_false, Bool.or_true, Bool.false_or, Bool.true_or, vls, inf, frs, mark_eq, ↓reduceIte, Nat.reduceEqDiff, ite_tt, ite_ff, eq_self, and_true, true_and, and_self, implies_true, Bool.true_eq_false, Bool.false_eq_true, decide_true, decide_false, decide_eq_true_eq, decide_eq_false_iff_not, ne_eq, not_true_eq_false, not_false_eq_true, Bool.not_eq_true', Bool.not_eq_false', beq_self_eq_true, Bool.not_true, Bool.not_false, List.getElem?_toArray, List.getElem?_cons_zero, List.getElem?_cons_succ, h0, h1, h5, h6, h7, k1, false_implies]
      refine led_lit li24 (by omega) rfl (fun p hp => by rcases List.mem_singleton.1 hp with rfl; exact ⟨rfl, rfl⟩) l fun bl V3 _ l => ?_
      have k1 := hk0 _ l.ext
      simp (disch := omega) only [↓stp, ↓pln, plv, nilOk, Nat.reduceBEq, Bool.or_false, Bool.or_true, Bool.false_or, Bool.true_or, vls, inf, frs, mark_eq, ↓reduceIte, Nat.reduceEqDiff, ite_tt, ite_ff, eq_self, and_true, true_and, and_self, implies_true, Bool.true_eq_false, Bool.false_eq_true, decide_true, decide_false, decide_eq_true_eq, decide_eq_false_iff_not, ne_eq, not_true_eq_false, not_false_eq_true, Bool.not_eq_true', Bool.not_eq_false', beq_self_eq_true, Bool.not_true, Bool.not_false, List.getElem?_toArray, List.getElem?_cons_zero, List.getElem?_cons_succ, h0, h1, h5, h6, h7, k1, false_implies]
      refine led_app (O := strO) ap24_24 (by decide) l (i := 1) rfl (l.src1 (S := strS) (j := 0) rfl ⟨rfl, z0⟩) (by rw [List.length_singleton, List.nil_append, List.length_take]; omega) fun fp2 w2 V4 _ l => ?_
      have k1 := hk0 _ l.ext
      simp (disch := omega) only [↓stp, ↓pln, plv, nilOk, Nat.reduceBEq, Bool.or_false, Bool.or_true, Bool.false_or, Bool.true_or, vls, inf, frs, mark_eq, ↓reduceIte, Nat.reduceEqDiff, ite_tt, ite_ff, eq_self, and_true, true_and, and_self, implies_true, Bool.true_eq_false, Bool.false_eq_true, decide_true, decide_false, decide_eq_true_eq, decide_eq_false_iff_not, ne_eq, not_true_eq_false, not_false_eq_true, Bool.not_eq_true', Bool.not_eq_false', beq_self_eq_true, Bool.not_true, Bool.not_false, List.getElem?_toArray, List.getElem?_cons_zero, List.getElem?_cons_succ, h0, h1, h5, h6, h7, k1, false_implies]
      have hT := OSl.toS (show OSl 9 strO V4 fp (.slice a5 S.length c5) S from l.at (i := 2) rfl)
      refine led_app (O := strO) ap24_24 (by decide) l (i := 1) rfl (Sl.srcOf (hT.drop (k := k) (by omega))) (by rw [List.nil_append, List.length_append, List.length_singleton, List.length_drop, List.length_take]; omega) fun fp3 w3 V5 _ l => ?_
      have k1 := hk0 _ l.ext
      simp (disch := omega) only [↓stp, ↓pln, plv, nilOk, Nat.reduceBEq, Bool.or_false, Bool.or_true, Bool.false_or, Bool.true_or, vls, inf, frs, mark_eq, ↓reduceIte, Nat.reduceEqDiff, ite_tt, ite_ff, eq_self, and_true, true_and, and_self, implies_true, Bool.true_eq_false, Bool.false_eq_true, decide_true, decide_false, decide_eq_true_eq, decide_eq_false_iff_not, ne_eq, not_true_eq_false, not_false_eq_true, Bool.not_eq_true', Bool.not_eq_false', beq_self_eq_true, Bool.not_true, Bool.not_false, List.getElem?_toArray, List.getElem?_cons_zero, List.getElem?_cons_succ, h0, h1, h5, h6, h7, k1, false_implies]
      have l : Led A [osl 9 strO fp3 w3 (ssort (costF xs) (ids.take (i + 1)))] V5 := by
        rw [hfin]
        have := l.sub (M := [osl 9 strO fp3 w3 (([] ++ S.take k ++ [ids[i]]) ++ S.drop k)]) (by simp)
        rw [List.nil_append, List.append_assoc] at this
        exact this
      exact ⟨_, by omega, i + 1, _, _, by omega, rfl, l, rfl, rfl⟩
  · simp (disch := omega) only [↓stp, vls, inf, frs, mark_eq, ↓reduceIte, Nat.reduceEqDiff, ite_tt, ite_ff, eq_self, and_true, true_and, and_self, implies_true, Bool.true_eq_false, Bool.false_eq_true, decide_true, decide_false, decide_eq_true_eq, decide_eq_false_iff_not, ne_eq, not_true_eq_false, not_false_eq_true, Bool.not_eq_true', Bool.not_eq_false', beq_self_eq_true, Bool.not_true, Bool.not_false, List.getElem?_toArray, List.getElem?_cons_zero, List.getElem?_cons_succ, h0, h1, h5, h6]
    obtain rfl : i = ids.length := by omega
    rw [List.take_length] at l
    exact NewSl.of l (i := 0) rfl

theorem spec_slowFirst_c (A : View) (v u : Value) (ids : List ByteArray) (xs : List PastD) (h : Sl strS A v ids) (h' : Sl pastS A u xs) : ACalls Try.prog 33 #[v, u] A fun r A' => NewSl 9 strO A r A' (slowR ids xs) := by
  refine acalls Try.func33 rfl (by kernel_rfl) ?_
  simp (disch := omega) only [↓stp, vls, inf, frs, mark_eq, ↓reduceIte, Nat.reduceEqDiff, ite_tt, ite_ff, eq_self, and_true, true_and, and_self, implies_true, Bool.true_eq_false, Bool.false_eq_true, decide_true, decide_false, decide_eq_true_eq, decide_eq_false_iff_not, ne_eq, not_true_eq_false, not_false_eq_true, Bool.not_eq_true', Bool.not_eq_false', beq_self_eq_true, Bool.not_true, Bool.not_false, List.getElem?_toArray, List.getElem?_cons_zero, List.getElem?_cons_succ]
  refine (spec_goodOrder_c A v u ids xs h h').mono ?_
  rintro _ A ⟨rfl, rfl⟩
  simp (disch := omega) only [↓stp, vls, inf, frs, mark_eq, ↓reduceIte, Nat.reduceEqDiff, ite_tt, ite_ff, eq_self, and_true, true_and, and_self, implies_true, Bool.true_eq_false, Bool.false_eq_true, decide_true, decide_false, decide_eq_true_eq, decide_eq_false_iff_not, ne_eq, not_true_eq_false, not_false_eq_true, Bool.not_eq_true', Bool.not_eq_false', beq_self_eq_true, Bool.not_true, Bool.not_false, List.getElem?_toArray, List.getElem?_cons_zero, List.getElem?_cons_succ]
  refine ⟨fun e1 => ?_, fun e1 => ?_⟩ <;> simp (disch := omega) only [↓stp, vls, inf, frs, mark_eq, ↓reduceIte, Nat.reduceEqDiff, ite_tt, ite_ff, eq_self, and_true, true_and, and_self, implies_true, Bool.true_eq_false, Bool.false_eq_true, decide_true, decide_false, decide_eq_true_eq, decide_eq_false_iff_not, ne_eq, not_true_eq_false, not_false_eq_true, Bool.not_eq_true', Bool.not_eq_false', beq_self_eq_true, Bool.not_true, Bool.not_false, List.getElem?_toArray, List.getElem?_cons_zero, List.getElem?_cons_succ]
  · have : slowR ids xs = [] := by unfold slowR; rw [e1]; rfl
    rw [this]; exact NewSl.nil (Ext.refl _)
  · have hr : slowR ids xs = ssort (costF xs) ids := by unfold slowR; rw [e1]; rfl
    rw [Bool.and_eq_true] at e1
    refine (spec_slowFirst0_c A v u ids xs h h' (idsB_len e1.1) e1.2).mono ?_
    intro r A' hq
    simp (disch := omega) only [↓stp, vls, inf, frs, mark_eq, ↓reduceIte, Nat.reduceEqDiff, ite_tt, ite_ff, eq_self, and_true, true_and, and_self, implies_true, Bool.true_eq_false, Bool.false_eq_true, decide_true, decide_false, decide_eq_true_eq, decide_eq_false_iff_not, ne_eq, not_true_eq_false, not_false_eq_true, Bool.not_eq_true', Bool.not_eq_false', beq_self_eq_true, Bool.not_true, Bool.not_false, List.getElem?_toArray, List.getElem?_cons_zero, List.getElem?_cons_succ]
    rw [hr]
    exact hq

end Go.Proofs.Ytbbhhdcimmofoaa

