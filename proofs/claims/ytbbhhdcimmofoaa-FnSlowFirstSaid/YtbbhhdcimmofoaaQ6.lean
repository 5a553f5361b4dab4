/- Least causes: the reference. -/
import Derived.Test.YtbbhhdcimmofoaaQ5
set_option maxHeartbeats 4000000
set_option synthInstance.maxHeartbeats 400000
set_option synthInstance.maxSize 4096
set_option linter.unusedSimpArgs false
set_option linter.unusedVariables false
namespace Go.Proofs.Ytbbhhdcimmofoaa

set_option maxRecDepth 100000

theorem spec_sameIds_c (A : View) (v u : Value) (xs ys : List ByteArray) (h : Sl strS A v xs) (h' : Sl strS A u ys) (h1 : xs.length ≤ 16777215) (h2 : ys.length ≤ 16777215) : ACalls Try.prog 56 #[v, u] A fun r A' => r = .bool (sameB xs ys) ∧ Ext A A' := by
  refine acalls Try.func56 rfl (by kernel_rfl) ?_
  simp (disch := omega) only [↓stp, vls, inf, frs, mark_eq, ↓reduceIte, Nat.reduceEqDiff, ite_tt, ite_ff, eq_self, and_true, true_and, and_self, implies_true, Bool.true_eq_false, Bool.false_eq_true, decide_true, decide_false, decide_eq_true_eq, decide_eq_false_iff_not, ne_eq, not_true_eq_false, not_false_eq_true, Bool.not_eq_true', Bool.not_eq_false', beq_self_eq_true, Bool.not_true, Bool.not_false, List.getElem?_toArray, List.getElem?_cons_zero, List.getElem?_cons_succ]
  refine (spec_without_c A v u xs ys h h' h1).mono ?_
  rintro r V hr
  obtain ⟨a, c, rfl, _, _⟩ := hr.sl.slice
  simp (disch := omega) only [↓stp, vls, inf, frs, mark_eq, ↓reduceIte, Nat.reduceEqDiff, ite_tt, ite_ff, eq_self, and_true, true_and, and_self, implies_true, Bool.true_eq_false, Bool.false_eq_true, decide_true, decide_false, decide_eq_true_eq, decide_eq_false_iff_not, ne_eq, not_true_eq_false, not_false_eq_true, Bool.not_eq_true', Bool.not_eq_false', beq_self_eq_true, Bool.not_true, Bool.not_false, List.getElem?_toArray, List.getElem?_cons_zero, List.getElem?_cons_succ]
  have e1 : sameB xs ys = (subB xs ys && subB ys xs) := rfl
  refine ⟨fun e => ?_, fun e => ?_⟩ <;> simp (disch := omega) only [↓stp, vls, inf, frs, mark_eq, ↓reduceIte, Nat.reduceEqDiff, ite_tt, ite_ff, eq_self, and_true, true_and, and_self, implies_true, Bool.true_eq_false, Bool.false_eq_true, decide_true, decide_false, decide_eq_true_eq, decide_eq_false_iff_not, ne_eq, not_true_eq_false, not_false_eq_true, Bool.not_eq_true', Bool.not_eq_false', beq_self_eq_true, Bool.not_true, Bool.not_false, List.getElem?_toArray, List.getElem?_cons_zero, List.getElem?_cons_succ, e]
  · refine (spec_without_c V u v ys xs (h'.mono hr.ext) (h.mono hr.ext) h2).mono ?_
    rintro r W hr2
    obtain ⟨a2, c2, rfl, _, _⟩ := hr2.sl.slice
    simp (disch := omega) only [↓stp, vls, inf, frs, mark_eq, ↓reduceIte, Nat.reduceEqDiff, ite_tt, ite_ff, eq_self, and_true, true_and, and_self, implies_true, Bool.true_eq_false, Bool.false_eq_true, decide_true, decide_false, decide_eq_true_eq, decide_eq_false_iff_not, ne_eq, not_true_eq_false, not_false_eq_true, Bool.not_eq_true', Bool.not_eq_false', beq_self_eq_true, Bool.not_true, Bool.not_false, List.getElem?_toArray, List.getElem?_cons_zero, List.getElem?_cons_succ, e]
    refine ⟨?_, hr.ext.trans hr2.ext⟩
    congr 1
    rw [e1]
    unfold subB
    rw [decide_eq_true (show (without xs ys).length = 0 by omega), Bool.true_and, decide_eq_decide]
    omega
  · refine ⟨?_, hr.ext⟩
    congr 1
    rw [e1]
    unfold subB
    rw [decide_eq_false (show ¬ (without xs ys).length = 0 by omega), Bool.false_and]

theorem spec_leastCauses_c (A : View) (v u : Value) (cs : List (List ByteArray)) (ids : List ByteArray) (h : Sl (slS strS) A v cs) (h' : Sl strS A u ids) : ACalls Try.prog 30 #[v, u] A fun r A' => NewSl 24 (slO 9 strO) A r A' (leastR cs ids) := by
  obtain ⟨a, c, rfl, hc, hl⟩ := h.slice
  refine acalls Try.func30 rfl (by kernel_rfl) ?_
  simp (disch := omega) only [↓stp, vls, inf, frs, mark_eq, ↓reduceIte, Nat.reduceEqDiff, ite_tt, ite_ff, eq_self, and_true, true_and, and_self, implies_true, Bool.true_eq_false, Bool.false_eq_true, decide_true, decide_false, decide_eq_true_eq, decide_eq_false_iff_not, ne_eq, not_true_eq_false, not_false_eq_true, Bool.not_eq_true', Bool.not_eq_false', beq_self_eq_true, Bool.not_true, Bool.not_false, List.getElem?_toArray, List.getElem?_cons_zero, List.getElem?_cons_succ]
  refine (spec_goodCauses_c A _ u cs ids h h').mono ?_
  rintro _ A ⟨rfl, rfl⟩
  simp (disch := omega) only [↓stp, vls, inf, frs, mark_eq, ↓reduceIte, Nat.reduceEqDiff, ite_tt, ite_ff, eq_self, and_true, true_and, and_self, implies_true, Bool.true_eq_false, Bool.false_eq_true, decide_true, decide_false, decide_eq_true_eq, decide_eq_false_iff_not, ne_eq, not_true_eq_false, not_false_eq_true, Bool.not_eq_true', Bool.not_eq_false', beq_self_eq_true, Bool.not_true, Bool.not_false, List.getElem?_toArray, List.getElem?_cons_zero, List.getElem?_cons_succ]
  refine ⟨fun e1 => ?_, fun e1 => ?_⟩ <;> simp (disch := omega) only [↓stp, vls, inf, frs, mark_eq, ↓reduceIte, Nat.reduceEqDiff, ite_tt, ite_ff, eq_self, and_true, true_and, and_self, implies_true, Bool.true_eq_false, Bool.false_eq_true, decide_true, decide_false, decide_eq_true_eq, decide_eq_false_iff_not, ne_eq, not_true_eq_false, not_false_eq_true, Bool.not_eq_true', Bool.not_eq_false', beq_self_eq_true, Bool.not_true, Bool.not_false, List.getElem?_toArray, List.getElem?_cons_zero, List.getElem?_cons_succ]
  · unfold leastR
    rw [e1]
    exact NewSl.nil (Ext.refl _)
  · have e1' := e1
    rw [Bool.and_eq_true] at e1'
    have hres : leastR cs ids = leastF cs ids cs.length := by unfold leastR; rw [e1]; rfl
    have hids10 := idsB_len' e1'.2
    have hcl3 := causesB_len e1'.1
    have hcs4 : cs.length ≤ 4 := by have := e1'.1; unfold causesB at this; rw [Bool.and_eq_true, decide_eq_true_eq] at this; exact this.2
    refine led_lit0 (O := slO 9 strO) li23 (Led.nil A) fun b V _ l => ?_
    simp (disch := omega) only [↓stp, vls, inf, frs, mark_eq, ↓reduceIte, Nat.reduceEqDiff, ite_tt, ite_ff, eq_self, and_true, true_and, and_self, implies_true, Bool.true_eq_false, Bool.false_eq_true, decide_true, decide_false, decide_eq_true_eq, decide_eq_false_iff_not, ne_eq, not_true_eq_false, not_false_eq_true, Bool.not_eq_true', Bool.not_eq_false', beq_self_eq_true, Bool.not_true, Bool.not_false, List.getElem?_toArray, List.getElem?_cons_zero, List.getElem?_cons_succ]
    refine aloop (fun d fr A' => ∃ (i : Nat) (fp : List Nat) (w : Value), i ≤ cs.length ∧ d = cs.length - i ∧ Led A [osl 24 (slO 9 strO) fp w (leastF cs ids i)] A' ∧ fr 0 = .slice a cs.length c ∧ fr 1 = u ∧ fr 5 = w ∧ fr 6 = .int .i64 i) cs.length ⟨0, _, _, by omega, by omega, l, by rfl, by rfl, by rfl, by rfl⟩ ?_
    rintro d fr A' ⟨i, fp, w, hi, rfl, l, h0, h1, h5, h6⟩
    simp (disch := omega) only [↓stp, vls, inf, frs, mark_eq, ↓reduceIte, Nat.reduceEqDiff, ite_tt, ite_ff, eq_self, and_true, true_and, and_self, implies_true, Bool.true_eq_false, Bool.false_eq_true, decide_true, decide_false, decide_eq_true_eq, decide_eq_false_iff_not, ne_eq, not_true_eq_false, not_false_eq_true, Bool.not_eq_true', Bool.not_eq_false', beq_self_eq_true, Bool.not_true, Bool.not_false, List.getElem?_toArray, List.getElem?_cons_zero, List.getElem?_cons_succ, h0, h1, h5, h6]
    refine ⟨fun e => ?_, fun e => ?_⟩
    · have hlt : i < cs.length := by omega
      obtain ⟨ad, bi, mi, rfl, hcl, hd⟩ := (h.mono l.ext).strs hlt
      have hsucc := leastF_succ cs ids i
      have hgd : cs.getD i [] = cs[i] := by simp [List.getD, hlt]
      have hll := leastF_len cs ids i
      have hci := (hcl3 cs[i] (List.getElem_mem hlt)).1
      simp (disch := omega) only [↓stp, vls, inf, frs, mark_eq, ↓reduceIte, Nat.reduceEqDiff, ite_tt, ite_ff, eq_self, and_true, true_and, and_self, implies_true, Bool.true_eq_false, Bool.false_eq_true, decide_true, decide_false, decide_eq_true_eq, decide_eq_false_iff_not, ne_eq, not_true_eq_false, not_false_eq_true, Bool.not_eq_true', Bool.not_eq_false', beq_self_eq_true, Bool.not_true, Bool.not_false, List.getElem?_toArray, List.getElem?_cons_zero, List.getElem?_cons_succ, h0, h1, h5, h6, hcl]
      refine (spec_without_c A' _ u cs[i] ids hd (h'.mono l.ext) (by omega)).mono ?_
      rintro r V hr
      obtain ⟨a1, c1, rfl, _, _⟩ := hr.sl.slice
      replace l := l.step hr.ext
      simp (disch := omega) only [↓stp, vls, inf, frs, mark_eq, ↓reduceIte, Nat.reduceEqDiff, ite_tt, ite_ff, eq_self, and_true, true_and, and_self, implies_true, Bool.true_eq_false, Bool.false_eq_true, decide_true, decide_false, decide_eq_true_eq, decide_eq_false_iff_not, ne_eq, not_true_eq_false, not_false_eq_true, Bool.not_eq_true', Bool.not_eq_false', beq_self_eq_true, Bool.not_true, Bool.not_false, List.getElem?_toArray, List.getElem?_cons_zero, List.getElem?_cons_succ, h0, h1, h5, h6]
      have hs0 : decide (((without cs[i] ids).length : Int) = 0) = subB cs[i] ids := by unfold subB; rw [decide_eq_decide]; omega
      rw [hs0]
      refine aloop (fun d fr A' => ∃ (k : Nat), k ≤ cs.length ∧ d = cs.length - k ∧ Led A [osl 24 (slO 9 strO) fp w (leastF cs ids i)] A' ∧ fr 0 = .slice (some ad) cs.length c ∧ fr 1 = u ∧ fr 5 = w ∧ fr 6 = .int .i64 i ∧ fr 7 = .bool (subB cs[i] ids && (List.range k).all fun k => !barB cs i k) ∧ fr 8 = .int .i64 k) cs.length ⟨0, by omega, by omega, l, h0, h1, h5, h6, by show Value.bool (subB cs[i] ids) = _; simp, by rfl⟩ ?_
      rintro d fr A' ⟨k, hk, rfl, l, h0, h1, h5, h6, h7, h8⟩
      simp (disch := omega) only [↓stp, vls, inf, frs, mark_eq, ↓reduceIte, Nat.reduceEqDiff, ite_tt, ite_ff, eq_self, and_true, true_and, and_self, implies_true, Bool.true_eq_false, Bool.false_eq_true, decide_true, decide_false, decide_eq_true_eq, decide_eq_false_iff_not, ne_eq, not_true_eq_false, not_false_eq_true, Bool.not_eq_true', Bool.not_eq_false', beq_self_eq_true, Bool.not_true, Bool.not_false, List.getElem?_toArray, List.getElem?_cons_zero, List.getElem?_cons_succ, h0, h1, h5, h6, h7, h8]
      refine ⟨fun e2 => ?_, fun e2 => ?_⟩
      · have hkl : k < cs.length := by omega
        obtain ⟨ad', bk, mk, hq, hclk, hdk⟩ := (h.mono l.ext).strs hkl
        injection hq with hq
        subst hq
        obtain ⟨ad', bi, mi, hq, hcli, hdi⟩ := (h.mono l.ext).strs hlt
        injection hq with hq
        subst hq
        have hgk : cs.getD k [] = cs[k] := by simp [List.getD, hkl]
        have hck := (hcl3 cs[k] (List.getElem_mem hkl)).1
        have hbar : barB cs i k = (subB cs[k] cs[i] && (!sameB cs[k] cs[i] || decide (k < i))) := by unfold barB; rw [hgd, hgk]
        have hall : (List.range (k + 1)).all (fun k => !barB cs i k) = ((List.range k).all (fun k => !barB cs i k) && !barB cs i k) := by rw [List.range_succ, List.all_append]; simp
        simp (disch := omega) only [↓stp, vls, inf, frs, mark_eq, ↓reduceIte, Nat.reduceEqDiff, ite_tt, ite_ff, eq_self, and_true, true_and, and_self, implies_true, Bool.true_eq_false, Bool.false_eq_true, decide_true, decide_false, decide_eq_true_eq, decide_eq_false_iff_not, ne_eq, not_true_eq_false, not_false_eq_true, Bool.not_eq_true', Bool.not_eq_false', beq_self_eq_true, Bool.not_true, Bool.not_false, List.getElem?_toArray, List.getElem?_cons_zero, List.getElem?_cons_succ, h0, h1, h5, h6, h7, h8]
        refine adraw_items [.q 0, .q 1, .q 2, .l 3 false, .q 4, .q 5, .q 6, .l 7 false, .c 8 [], .q 9, .q 10, .q 11, .q 12, .q 13, .q 14, .l 15 false, .q 16, .q 17, .q 18, .l 19 false, .c 20 [], .q 21, .q 22, .q 23, .q 24, .q 25, .q 26, .q 27] (by kernel_rfl) (by kernel_rfl) ?_
        simp (disch := omega) only [↓stp, ↓pln, plv, nilOk, Nat.reduceBEq, Bool.or_false, Bool.or_true, Bool.false_or, Bool.true_or, vls, inf, frs, mark_eq, ↓reduceIte, Nat.reduceEqDiff, ite_tt, ite_ff, eq_self, and_true, true_and, and_self, implies_true, Bool.true_eq_false, Bool.false_eq_true, decide_true, decide_false, decide_eq_true_eq, decide_eq_false_iff_not, ne_eq, not_true_eq_false, not_false_eq_true, Bool.not_eq_true', Bool.not_eq_false', beq_self_eq_true, Bool.not_true, Bool.not_false, List.getElem?_toArray, List.getElem?_cons_zero, List.getElem?_cons_succ, h0, h1, h5, h6, h7, h8, hclk, hcli]
        refine (spec_without_c A' _ _ cs[k] cs[i] hdk hdi (by omega)).mono ?_
        rintro r V hr
        obtain ⟨a2, c2, rfl, _, _⟩ := hr.sl.slice
        replace l := l.step hr.ext
        have hclk := hr.ext.cell hclk
        have hcli := hr.ext.cell hcli
        simp (disch := omega) only [↓stp, ↓pln, plv, nilOk, Nat.reduceBEq, Bool.or_false, Bool.or_true, Bool.false_or, Bool.true_or, vls, inf, frs, mark_eq, ↓reduceIte, Nat.reduceEqDiff, ite_tt, ite_ff, eq_self, and_true, true_and, and_self, implies_true, Bool.true_eq_false, Bool.false_eq_true, decide_true, decide_false, decide_eq_true_eq, decide_eq_false_iff_not, ne_eq, not_true_eq_false, not_false_eq_true, Bool.not_eq_true', Bool.not_eq_false', beq_self_eq_true, Bool.not_true, Bool.not_false, List.getElem?_toArray, List.getElem?_cons_zero, List.getElem?_cons_succ, h0, h1, h5, h6, h7, h8, hclk, hcli]
        refine ⟨fun e3 => ?_, fun e3 => ?_⟩ <;> simp (disch := omega) only [↓stp, ↓pln, plv, nilOk, Nat.reduceBEq, Bool.or_false, Bool.or_true, Bool.false_or, Bool.true_or, vls, inf, frs, mark_eq, ↓reduceIte, Nat.reduceEqDiff, ite_tt, ite_ff, eq_self, and_true, true_and, and_self, implies_true, Bool.true_eq_false, Bool.false_eq_true, decide_true, decide_false, decide_eq_true_eq, decide_eq_false_iff_not, ne_eq, not_true_eq_false, not_false_eq_true, Bool.not_eq_true', Bool.not_eq_false', beq_self_eq_true, Bool.not_true, Bool.not_false, List.getElem?_toArray, List.getElem?_cons_zero, List.getElem?_cons_succ, h0, h1, h5, h6, h7, h8, hclk, hcli, e3]
        · have hsub : subB cs[k] cs[i] = true := by unfold subB; exact decide_eq_true (by omega)
          refine (spec_sameIds_c V _ _ cs[k] cs[i] (hdk.mono hr.ext) (hdi.mono hr.ext) (by omega) (by omega)).mono ?_
          rintro _ W ⟨rfl, he⟩
          replace l := l.step he
          simp (disch := omega) only [↓stp, ↓pln, plv, nilOk, Nat.reduceBEq, Bool.or_false, Bool.or_true, Bool.false_or, Bool.true_or, vls, inf, frs, mark_eq, ↓reduceIte, Nat.reduceEqDiff, ite_tt, ite_ff, eq_self, and_true, true_and, and_self, implies_true, Bool.true_eq_false, Bool.false_eq_true, decide_true, decide_false, decide_eq_true_eq, decide_eq_false_iff_not, ne_eq, not_true_eq_false, not_false_eq_true, Bool.not_eq_true', Bool.not_eq_false', beq_self_eq_true, Bool.not_true, Bool.not_false, List.getElem?_toArray, List.getElem?_cons_zero, List.getElem?_cons_succ, h0, h1, h5, h6, h7, h8, e3]
          refine ⟨fun e4 => ?_, fun e4 => ?_⟩ <;> simp (disch := omega) only [↓stp, ↓pln, plv, nilOk, Nat.reduceBEq, Bool.or_false, Bool.or_true, Bool.false_or, Bool.true_or, vls, inf, frs, mark_eq, ↓reduceIte, Nat.reduceEqDiff, ite_tt, ite_ff, eq_self, and_true, true_and, and_self, implies_true, Bool.true_eq_false, Bool.false_eq_true, decide_true, decide_false, decide_eq_true_eq, decide_eq_false_iff_not, ne_eq, not_true_eq_false, not_false_eq_true, Bool.not_eq_true', Bool.not_eq_false', beq_self_eq_true, Bool.not_true, Bool.not_false, List.getElem?_toArray, List.getElem?_cons_zero, List.getElem?_cons_succ, h0, h1, h5, h6, h7, h8, e3, e4]
          · refine ⟨fun e5 => ?_, fun e5 => ?_⟩ <;> simp (disch := omega) only [↓stp, vls, inf, frs, mark_eq, ↓reduceIte, Nat.reduceEqDiff, ite_tt, ite_ff, eq_self, and_true, true_and, and_self, implies_true, Bool.true_eq_false, Bool.false_eq_true, decide_true, decide_false, decide_eq_true_eq, decide_eq_false_iff_not, ne_eq, not_true_eq_false, not_false_eq_true, Bool.not_eq_true', Bool.not_eq_false', beq_self_eq_true, Bool.not_true, Bool.not_false, List.getElem?_toArray, List.getElem?_cons_zero, List.getElem?_cons_succ, h0, h1, h5, h6, h7, h8]
            · have : barB cs i k = true := by rw [hbar, hsub, e4]; simp; omega
              exact ⟨_, by omega, k + 1, by omega, rfl, l, by rw [hall, this]; simp, rfl⟩
            · have : barB cs i k = false := by rw [hbar, hsub, e4]; simp; omega
              exact ⟨_, by omega, k + 1, by omega, rfl, l, by rw [hall, this]; simp, rfl⟩
          · have : barB cs i k = true := by rw [hbar, hsub, e4]; simp
            exact ⟨_, by omega, k + 1, by omega, rfl, l, by rw [hall, this]; simp, rfl⟩
        · have : barB cs i k = false := by
            rw [hbar, show subB cs[k] cs[i] = false by unfold subB; exact decide_eq_false (by omega)]; rfl
          exact ⟨_, by omega, k + 1, by omega, rfl, l, by rw [hall, this]; simp, rfl⟩
      · have hk' : k = cs.length := by omega
        subst hk'
        have hg : goodB cs ids i = (subB cs[i] ids && (List.range cs.length).all fun k => !barB cs i k) := by unfold goodB; rw [hgd]
        rw [← hg] at h7
        simp (disch := omega) only [↓stp, vls, inf, frs, mark_eq, ↓reduceIte, Nat.reduceEqDiff, ite_tt, ite_ff, eq_self, and_true, true_and, and_self, implies_true, Bool.true_eq_false, Bool.false_eq_true, decide_true, decide_false, decide_eq_true_eq, decide_eq_false_iff_not, ne_eq, not_true_eq_false, not_false_eq_true, Bool.not_eq_true', Bool.not_eq_false', beq_self_eq_true, Bool.not_true, Bool.not_false, List.getElem?_toArray, List.getElem?_cons_zero, List.getElem?_cons_succ, h0, h1, h5, h6, h7, h8]
        obtain ⟨ad', bi, mi, hq, hcli, hdi⟩ := (h.mono l.ext).strs hlt
        injection hq with hq
        subst hq
        refine ⟨fun e3 => ?_, fun e3 => ?_⟩ <;> simp (disch := omega) only [↓stp, vls, inf, frs, mark_eq, ↓reduceIte, Nat.reduceEqDiff, ite_tt, ite_ff, eq_self, and_true, true_and, and_self, implies_true, Bool.true_eq_false, Bool.false_eq_true, decide_true, decide_false, decide_eq_true_eq, decide_eq_false_iff_not, ne_eq, not_true_eq_false, not_false_eq_true, Bool.not_eq_true', Bool.not_eq_false', beq_self_eq_true, Bool.not_true, Bool.not_false, List.getElem?_toArray, List.getElem?_cons_zero, List.getElem?_cons_succ, h0, h1, h5, h6, h7, h8, hcli]
        · refine (spec_inOrderOf_c A' u _ ids cs[i] (h'.mono l.ext) hdi (by omega)).mono ?_
          rintro pv V ⟨fq, l1⟩
          replace l := l.append l1
          obtain ⟨ap, cp, rfl, _, _⟩ := (OSl.toS (l.at (i := 0) rfl)).slice
          replace l := l.toOc (i := 0) rfl
          simp (disch := omega) only [↓stp, vls, inf, frs, mark_eq, ↓reduceIte, Nat.reduceEqDiff, ite_tt, ite_ff, eq_self, and_true, true_and, and_self, implies_true, Bool.true_eq_false, Bool.false_eq_true, decide_true, decide_false, decide_eq_true_eq, decide_eq_false_iff_not, ne_eq, not_true_eq_false, not_false_eq_true, Bool.not_eq_true', Bool.not_eq_false', beq_self_eq_true, Bool.not_true, Bool.not_false, List.getElem?_toArray, List.getElem?_cons_zero, List.getElem?_cons_succ, h0, h1, h5, h6, h7, h8]
          refine led_lit li23 (by omega) rfl (by simp [Value.cells, Value.oneCell']) l fun bl W2 _ l => ?_
          simp (disch := omega) only [↓stp, vls, inf, frs, mark_eq, ↓reduceIte, Nat.reduceEqDiff, ite_tt, ite_ff, eq_self, and_true, true_and, and_self, implies_true, Bool.true_eq_false, Bool.false_eq_true, decide_true, decide_false, decide_eq_true_eq, decide_eq_false_iff_not, ne_eq, not_true_eq_false, not_false_eq_true, Bool.not_eq_true', Bool.not_eq_false', beq_self_eq_true, Bool.not_true, Bool.not_false, List.getElem?_toArray, List.getElem?_cons_zero, List.getElem?_cons_succ, h0, h1, h5, h6, h7, h8]
          refine led_appO (O := slO 9 strO) ap23_23 (by decide) l (i := 0) rfl (by omega) fun fp' w' W3 _ l => ?_
          simp (disch := omega) only [↓stp, vls, inf, frs, mark_eq, ↓reduceIte, Nat.reduceEqDiff, ite_tt, ite_ff, eq_self, and_true, true_and, and_self, implies_true, Bool.true_eq_false, Bool.false_eq_true, decide_true, decide_false, decide_eq_true_eq, decide_eq_false_iff_not, ne_eq, not_true_eq_false, not_false_eq_true, Bool.not_eq_true', Bool.not_eq_false', beq_self_eq_true, Bool.not_true, Bool.not_false, List.getElem?_toArray, List.getElem?_cons_zero, List.getElem?_cons_succ, h0, h1, h5, h6, h7, h8]
          refine ⟨_, by omega, i + 1, fp', _, by omega, rfl, ?_, rfl, rfl⟩
          rw [hsucc, e3, if_pos rfl, hgd]
          exact l
        · refine ⟨_, by omega, i + 1, fp, _, by omega, rfl, ?_, rfl, rfl⟩
          rw [hsucc, e3]
          simp only [Bool.false_eq_true, if_false, List.append_nil]
          exact l
    · simp (disch := omega) only [↓stp, vls, inf, frs, mark_eq, ↓reduceIte, Nat.reduceEqDiff, ite_tt, ite_ff, eq_self, and_true, true_and, and_self, implies_true, Bool.true_eq_false, Bool.false_eq_true, decide_true, decide_false, decide_eq_true_eq, decide_eq_false_iff_not, ne_eq, not_true_eq_false, not_false_eq_true, Bool.not_eq_true', Bool.not_eq_false', beq_self_eq_true, Bool.not_true, Bool.not_false, List.getElem?_toArray, List.getElem?_cons_zero, List.getElem?_cons_succ, h0, h1, h5, h6]
      have hi' : i = cs.length := by omega
      subst hi'
      rw [hres]
      exact NewSl.of l (i := 0) rfl

theorem leastR_cnt (cs : List (List ByteArray)) (ids : List ByteArray) : cntL (slT 9 strT) (leastR cs ids) ≤ 1073741824 := by
  have key : ∀ (xs : List (List ByteArray)), (∀ x ∈ xs, x.length ≤ 10) → cntL (slT 9 strT) xs ≤ 10 * xs.length := by
    intro xs
    induction xs with
    | nil => intro _; simp [cntL]
    | cons x xs ih =>
      intro h
      have h1 := ih fun y hy => h y (List.mem_cons_of_mem _ hy)
      have h2 : (slT 9 strT).cnt x = x.length := cntL_str x
      have h3 := h x (List.mem_cons_self ..)
      simp only [cntL, List.length_cons, h2]
      omega
  unfold leastR
  split
  · rename_i he
    rw [Bool.and_eq_true] at he
    have h1 := idsB_len' he.2
    have h2 : cs.length ≤ 4 := by have := he.1; unfold causesB at this; rw [Bool.and_eq_true, decide_eq_true_eq] at this; exact this.2
    have h3 := leastF_len cs ids cs.length
    have h4 := key (leastF cs ids cs.length) fun x hx => by
      obtain ⟨k, _, _, rfl⟩ := leastF_mem hx
      exact Nat.le_trans (List.length_filter_le _ _) h1
    omega
  · simp [cntL]

end Go.Proofs.Ytbbhhdcimmofoaa

