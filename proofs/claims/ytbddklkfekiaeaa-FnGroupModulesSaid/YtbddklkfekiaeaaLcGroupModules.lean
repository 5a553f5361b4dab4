/- The law FnGroupModules. -/
import Derived.Test.YtbddklkfekiaeaaUG
set_option maxHeartbeats 4000000
set_option synthInstance.maxHeartbeats 400000
set_option synthInstance.maxSize 4096
set_option linter.unusedSimpArgs false
set_option linter.unusedVariables false
namespace Go.Proofs.Ytbddklkfekiaeaa

set_option maxRecDepth 100000

theorem law_FnGroupModules (A : View) (v0 : Value) (x0 : List UInt8) (h0 : Sl byteS A v0 x0) : ACalls Try.prog 4 #[v0] A fun r _ => r = .bool true := by
  obtain ⟨a, c, rfl, _, _⟩ := h0.slice
  refine acalls Try.func4 rfl (by kernel_rfl) ?_
  simp (disch := omega) only [↓stq, amv_at, vls, inf, frs, mark_eq, ↓reduceIte, Nat.reduceEqDiff, ite_tt, ite_ff, eq_self, and_true, true_and, and_self, implies_true, Bool.true_eq_false, Bool.false_eq_true, decide_true, decide_false, decide_eq_true_eq, decide_eq_false_iff_not, ne_eq, not_true_eq_false, not_false_eq_true, Bool.not_eq_true', Bool.not_eq_false', beq_self_eq_true, Bool.not_true, Bool.not_false, List.getElem?_toArray, List.getElem?_cons_zero, List.getElem?_cons_succ]
  refine ⟨fun e => ?_, fun e => ?_⟩ <;> simp (disch := omega) only [↓stq, amv_at, vls, inf, frs, mark_eq, ↓reduceIte, Nat.reduceEqDiff, ite_tt, ite_ff, eq_self, and_true, true_and, and_self, implies_true, Bool.true_eq_false, Bool.false_eq_true, decide_true, decide_false, decide_eq_true_eq, decide_eq_false_iff_not, ne_eq, not_true_eq_false, not_false_eq_true, Bool.not_eq_true', Bool.not_eq_false', beq_self_eq_true, Bool.not_true, Bool.not_false, List.getElem?_toArray, List.getElem?_cons_zero, List.getElem?_cons_succ]
  refine (DrawGroupModules_c A _ x0 h0).mono ?_
  rintro vt V ⟨ts, hl, hgt, hT, _⟩
  obtain ⟨at1, ct, rfl, _, _⟩ := hT.slice
  simp (disch := omega) only [↓stq, amv_at, vls, inf, frs, mark_eq, ↓reduceIte, Nat.reduceEqDiff, ite_tt, ite_ff, eq_self, and_true, true_and, and_self, implies_true, Bool.true_eq_false, Bool.false_eq_true, decide_true, decide_false, decide_eq_true_eq, decide_eq_false_iff_not, ne_eq, not_true_eq_false, not_false_eq_true, Bool.not_eq_true', Bool.not_eq_false', beq_self_eq_true, Bool.not_true, Bool.not_false, List.getElem?_toArray, List.getElem?_cons_zero, List.getElem?_cons_succ]
  refine (impl_GroupModules_c V _ ts hT (by omega)).mono ?_
  rintro u0 V1 ⟨f1, l1⟩
  have hO1 : Sl testS V1 u0 (groupR ts) := OSl.toS (l1.at (i := 0) rfl)
  obtain ⟨R, hR⟩ : ∃ R, groupR ts = R := ⟨_, rfl⟩
  rw [hR] at hO1
  obtain ⟨au, cu, rfl, hcu, hRl⟩ := hO1.slice
  simp (disch := omega) only [↓stq, amv_at, vls, inf, frs, mark_eq, ↓reduceIte, Nat.reduceEqDiff, ite_tt, ite_ff, eq_self, and_true, true_and, and_self, implies_true, Bool.true_eq_false, Bool.false_eq_true, decide_true, decide_false, decide_eq_true_eq, decide_eq_false_iff_not, ne_eq, not_true_eq_false, not_false_eq_true, Bool.not_eq_true', Bool.not_eq_false', beq_self_eq_true, Bool.not_true, Bool.not_false, List.getElem?_toArray, List.getElem?_cons_zero, List.getElem?_cons_succ]
  have fin : ∀ V, Ext V1 V → ACalls Try.prog 24 #[.slice at1 ts.length ct] V fun r V' => ∃ a1 c1, r = .slice a1 R.length c1 ∧ Sl testS V' r R ∧ Ext V1 V' := fun V he => (spec_GroupModules_c V _ ts ((hT.mono l1.ext).mono he)).mono fun r V' ⟨fp, l⟩ => by
    rw [hR] at l
    have hs : Sl testS V' r R := OSl.toS (l.at (i := 0) rfl)
    obtain ⟨a1, c1, h, _, _⟩ := hs.slice
    exact ⟨a1, c1, h, hs, he.trans l.ext⟩
  refine (fin V1 (Ext.refl _)).mono ?_
  rintro _ V2 ⟨aw, cw, rfl, hW2, he2⟩
  simp (disch := omega) only [↓stq, amv_at, vls, inf, frs, mark_eq, ↓reduceIte, Nat.reduceEqDiff, ite_tt, ite_ff, eq_self, and_true, true_and, and_self, implies_true, Bool.true_eq_false, Bool.false_eq_true, decide_true, decide_false, decide_eq_true_eq, decide_eq_false_iff_not, ne_eq, not_true_eq_false, not_false_eq_true, Bool.not_eq_true', Bool.not_eq_false', beq_self_eq_true, Bool.not_true, Bool.not_false, List.getElem?_toArray, List.getElem?_cons_zero, List.getElem?_cons_succ]
  refine (laws_equalTests_c V2 _ _ R (hO1.mono he2) hW2).mono ?_
  rintro _ V2' ⟨rfl, he2'⟩
  replace he2 := he2.trans he2'
  simp (disch := omega) only [↓stq, amv_at, vls, inf, frs, mark_eq, ↓reduceIte, Nat.reduceEqDiff, ite_tt, ite_ff, eq_self, and_true, true_and, and_self, implies_true, Bool.true_eq_false, Bool.false_eq_true, decide_true, decide_false, decide_eq_true_eq, decide_eq_false_iff_not, ne_eq, not_true_eq_false, not_false_eq_true, Bool.not_eq_true', Bool.not_eq_false', beq_self_eq_true, Bool.not_true, Bool.not_false, List.getElem?_toArray, List.getElem?_cons_zero, List.getElem?_cons_succ]
  refine (impl_validTests_c V2' _ ts ((hT.mono l1.ext).mono he2) (by omega)).mono ?_
  rintro _ V3 ⟨rfl, he3⟩
  simp (disch := omega) only [↓stq, amv_at, vls, inf, frs, mark_eq, ↓reduceIte, Nat.reduceEqDiff, ite_tt, ite_ff, eq_self, and_true, true_and, and_self, implies_true, Bool.true_eq_false, Bool.false_eq_true, decide_true, decide_false, decide_eq_true_eq, decide_eq_false_iff_not, ne_eq, not_true_eq_false, not_false_eq_true, Bool.not_eq_true', Bool.not_eq_false', beq_self_eq_true, Bool.not_true, Bool.not_false, List.getElem?_toArray, List.getElem?_cons_zero, List.getElem?_cons_succ]
  refine ⟨fun e1 => ?_, fun e1 => ?_⟩ <;> simp (disch := omega) only [↓stq, amv_at, vls, inf, frs, mark_eq, ↓reduceIte, Nat.reduceEqDiff, ite_tt, ite_ff, eq_self, and_true, true_and, and_self, implies_true, Bool.true_eq_false, Bool.false_eq_true, decide_true, decide_false, decide_eq_true_eq, decide_eq_false_iff_not, ne_eq, not_true_eq_false, not_false_eq_true, Bool.not_eq_true', Bool.not_eq_false', beq_self_eq_true, Bool.not_true, Bool.not_false, List.getElem?_toArray, List.getElem?_cons_zero, List.getElem?_cons_succ, e1]
  · refine (fin V3 (he2.trans he3)).mono ?_
    rintro _ V4 ⟨a1, c1, rfl, hs4, he4⟩
    simp (disch := omega) only [↓stq, amv_at, vls, inf, frs, mark_eq, ↓reduceIte, Nat.reduceEqDiff, ite_tt, ite_ff, eq_self, and_true, true_and, and_self, implies_true, Bool.true_eq_false, Bool.false_eq_true, decide_true, decide_false, decide_eq_true_eq, decide_eq_false_iff_not, ne_eq, not_true_eq_false, not_false_eq_true, Bool.not_eq_true', Bool.not_eq_false', beq_self_eq_true, Bool.not_true, Bool.not_false, List.getElem?_toArray, List.getElem?_cons_zero, List.getElem?_cons_succ]
    refine (laws_equalTests_c V4 _ _ R (hO1.mono he4) hs4).mono ?_
    rintro _ V4 ⟨rfl, _⟩
    simp (disch := omega) only [↓stq, amv_at, vls, inf, frs, mark_eq, ↓reduceIte, Nat.reduceEqDiff, ite_tt, ite_ff, eq_self, and_true, true_and, and_self, implies_true, Bool.true_eq_false, Bool.false_eq_true, decide_true, decide_false, decide_eq_true_eq, decide_eq_false_iff_not, ne_eq, not_true_eq_false, not_false_eq_true, Bool.not_eq_true', Bool.not_eq_false', beq_self_eq_true, Bool.not_true, Bool.not_false, List.getElem?_toArray, List.getElem?_cons_zero, List.getElem?_cons_succ]
  have hRe : R = grpR ts := by rw [← hR]; unfold groupR; rw [if_pos e1]
  obtain ⟨hl10, hall, _⟩ := testsB_len e1
  have hE3 := he2.trans he3
  have hRv : testsB R = true := by rw [hRe]; exact testsB_perm (grpR_perm ts) e1
  have hRm : modulesR R = modsR ts := by unfold modulesR; rw [if_pos hRv, hRe]; exact modsR_grp ts
  have hRg : groupR R = R := by unfold groupR; rw [if_pos hRv, hRe]; exact grpR_twice ts (modsR_grp ts)
  have hRlen : R.length = ts.length := by rw [hRe]; exact (grpR_perm ts).length_eq
  refine (impl_ModulesOf_c V3 _ ts ((hT.mono l1.ext).mono hE3) (by omega)).mono ?_
  rintro u4 V4 ⟨f4, l4⟩
  obtain ⟨ms, hms⟩ : ∃ ms, modsR ts = ms := ⟨_, rfl⟩
  have hml := modsR_len ts
  have hok : ∀ m, m ∈ ms → nmOk m = true := fun m hm => by
    rw [← hms] at hm
    obtain ⟨t, ht, rfl⟩ := (modsR_mem ts m).1 hm
    exact testB_nm (hall t ht)
  have hM4 : Sl strS V4 u4 ms := by
    have : Sl strS V4 u4 (modulesR ts) := OSl.toS (l4.at (i := 0) rfl)
    unfold modulesR at this
    rw [if_pos e1, hms] at this
    exact this
  rw [hms] at hRm hml
  have hRf : R = ms.flatMap (ofM ts) := by rw [hRe, ← hms]; rfl
  obtain ⟨a4, c4, rfl, _, _⟩ := hM4.slice
  have hE4 := hE3.trans l4.ext
  clear l4
  simp (disch := omega) only [↓stq, amv_at, vls, inf, frs, mark_eq, ↓reduceIte, Nat.reduceEqDiff, ite_tt, ite_ff, eq_self, and_true, true_and, and_self, implies_true, Bool.true_eq_false, Bool.false_eq_true, decide_true, decide_false, decide_eq_true_eq, decide_eq_false_iff_not, ne_eq, not_true_eq_false, not_false_eq_true, Bool.not_eq_true', Bool.not_eq_false', beq_self_eq_true, Bool.not_true, Bool.not_false, List.getElem?_toArray, List.getElem?_cons_zero, List.getElem?_cons_succ]
  have hT4 := (hT.mono l1.ext).mono hE4
  have hO4 := hO1.mono hE4
  refine aloop (fun d fr V => ∃ k : Nat, k ≤ ms.length ∧ d = ms.length - k ∧ Ext V4 V ∧ fr 3 = .slice at1 ts.length ct ∧ fr 4 = .slice au R.length cu ∧ fr 5 = .slice a4 ms.length c4 ∧ fr 6 = .int .i64 ((ms.take k).flatMap (ofM ts)).length ∧ fr 7 = .int .i64 k) ms.length ⟨0, by omega, by omega, Ext.refl _, by rfl, by rfl, by rfl, by rfl, by rfl⟩ ?_
  rintro d fr V ⟨k, hk, rfl, he, q3, q4, q5, q6, q7⟩
  simp (disch := omega) only [↓stq, amv_at, vls, inf, frs, mark_eq, ↓reduceIte, Nat.reduceEqDiff, ite_tt, ite_ff, eq_self, and_true, true_and, and_self, implies_true, Bool.true_eq_false, Bool.false_eq_true, decide_true, decide_false, decide_eq_true_eq, decide_eq_false_iff_not, ne_eq, not_true_eq_false, not_false_eq_true, Bool.not_eq_true', Bool.not_eq_false', beq_self_eq_true, Bool.not_true, Bool.not_false, List.getElem?_toArray, List.getElem?_cons_zero, List.getElem?_cons_succ, q3, q4, q5, q6, q7]
  refine ⟨fun e3 => ?_, fun e3 => ?_⟩
  · have hlt : k < ms.length := by omega
    obtain ⟨adm, rfl, km, hmz⟩ := (hM4.mono he).str hlt
    have hnm := hok _ (List.getElem_mem hlt)
    have hns := nmOk_size hnm
    have hsp := congrArg List.length (grp_split (ts := ts) hlt)
    rw [← hRf, List.length_append, List.length_append] at hsp
    have hmid := grp_mid (ts := ts) hlt
    have hst := congrArg List.length (grp_step (ts := ts) hlt)
    rw [List.length_append] at hst
    simp (disch := omega) only [↓stq, amv_at, vls, inf, frs, mark_eq, ↓reduceIte, Nat.reduceEqDiff, ite_tt, ite_ff, eq_self, and_true, true_and, and_self, implies_true, Bool.true_eq_false, Bool.false_eq_true, decide_true, decide_false, decide_eq_true_eq, decide_eq_false_iff_not, ne_eq, not_true_eq_false, not_false_eq_true, Bool.not_eq_true', Bool.not_eq_false', beq_self_eq_true, Bool.not_true, Bool.not_false, List.getElem?_toArray, List.getElem?_cons_zero, List.getElem?_cons_succ, q3, q4, q5, q6, q7, km]
    rw [abin_cat _ _ _ (by show 1 + (ms[k]).size ≤ _; omega)]
    simp (disch := omega) only [↓stq, amv_at, vls, inf, frs, mark_eq, ↓reduceIte, Nat.reduceEqDiff, ite_tt, ite_ff, eq_self, and_true, true_and, and_self, implies_true, Bool.true_eq_false, Bool.false_eq_true, decide_true, decide_false, decide_eq_true_eq, decide_eq_false_iff_not, ne_eq, not_true_eq_false, not_false_eq_true, Bool.not_eq_true', Bool.not_eq_false', beq_self_eq_true, Bool.not_true, Bool.not_false, List.getElem?_toArray, List.getElem?_cons_zero, List.getElem?_cons_succ, q3, q4, q5, q6, q7]
    refine (impl_SelectTests_c V _ (atM ms[k]) ts (hT4.mono he) (by rw [atM_size]; omega) (by omega)).mono ?_
    rintro u6 V6 ⟨f6, l6⟩
    have hQ6 : Sl testS V6 u6 (selE true (atM ms[k]) ts) := OSl.toS (l6.at (i := 0) rfl)
    rw [selE_mod hnm e1] at hQ6
    obtain ⟨a6, c6, rfl, _, _⟩ := hQ6.slice
    have he6 := he.trans l6.ext
    clear l6
    have hpart : Sl testS V6 _ _ := (hO4.mono he6).mid (k := ((ms.take k).flatMap (ofM ts)).length) (m := (ofM ts ms[k]).length) (by omega)
    rw [hRf, hmid] at hpart
    generalize ((ms.take k).flatMap (ofM ts)).length = at0 at *
    simp (disch := omega) only [↓stq, amv_at, vls, inf, frs, mark_eq, ↓reduceIte, Nat.reduceEqDiff, ite_tt, ite_ff, eq_self, and_true, true_and, and_self, implies_true, Bool.true_eq_false, Bool.false_eq_true, decide_true, decide_false, decide_eq_true_eq, decide_eq_false_iff_not, ne_eq, not_true_eq_false, not_false_eq_true, Bool.not_eq_true', Bool.not_eq_false', beq_self_eq_true, Bool.not_true, Bool.not_false, List.getElem?_toArray, List.getElem?_cons_zero, List.getElem?_cons_succ, q3, q4, q5, q6, q7]
    refine (laws_equalTests_c V6 _ _ (ofM ts ms[k]) (by
      have h1 : ((at0 : Int) + (ofM ts ms[k]).length).toNat - at0 = (ofM ts ms[k]).length := by omega
      show Sl testS V6 (.slice _ (((at0 : Int) + (ofM ts ms[k]).length).toNat - at0) _) _
      rw [h1]
      exact hpart) hQ6).mono ?_
    rintro _ V7 ⟨rfl, he7⟩
    simp (disch := omega) only [↓stq, amv_at, vls, inf, frs, mark_eq, ↓reduceIte, Nat.reduceEqDiff, ite_tt, ite_ff, eq_self, and_true, true_and, and_self, implies_true, Bool.true_eq_false, Bool.false_eq_true, decide_true, decide_false, decide_eq_true_eq, decide_eq_false_iff_not, ne_eq, not_true_eq_false, not_false_eq_true, Bool.not_eq_true', Bool.not_eq_false', beq_self_eq_true, Bool.not_true, Bool.not_false, List.getElem?_toArray, List.getElem?_cons_zero, List.getElem?_cons_succ, q3, q4, q5, q6, q7]
    exact ⟨_, by omega, k + 1, by omega, rfl, he6.trans he7, by rw [hst]; rfl, rfl⟩
  · have hke : k = ms.length := by omega
    subst hke
    rw [List.take_length, ← hRf] at q6
    simp (disch := omega) only [↓stq, amv_at, vls, inf, frs, mark_eq, ↓reduceIte, Nat.reduceEqDiff, ite_tt, ite_ff, eq_self, and_true, true_and, and_self, implies_true, Bool.true_eq_false, Bool.false_eq_true, decide_true, decide_false, decide_eq_true_eq, decide_eq_false_iff_not, ne_eq, not_true_eq_false, not_false_eq_true, Bool.not_eq_true', Bool.not_eq_false', beq_self_eq_true, Bool.not_true, Bool.not_false, List.getElem?_toArray, List.getElem?_cons_zero, List.getElem?_cons_succ, q3, q4, q5, q6, q7]
    refine (impl_ModulesOf_c V _ R (hO4.mono he) (by omega)).mono ?_
    rintro u7 V7 ⟨f7, l7⟩
    rw [hRm] at l7
    have hI7 : Sl strS V7 u7 ms := OSl.toS (l7.at (i := 0) rfl)
    obtain ⟨a7, c7, rfl, _, _⟩ := hI7.slice
    have he7 := he.trans l7.ext
    clear l7
    simp (disch := omega) only [↓stq, amv_at, vls, inf, frs, mark_eq, ↓reduceIte, Nat.reduceEqDiff, ite_tt, ite_ff, eq_self, and_true, true_and, and_self, implies_true, Bool.true_eq_false, Bool.false_eq_true, decide_true, decide_false, decide_eq_true_eq, decide_eq_false_iff_not, ne_eq, not_true_eq_false, not_false_eq_true, Bool.not_eq_true', Bool.not_eq_false', beq_self_eq_true, Bool.not_true, Bool.not_false, List.getElem?_toArray, List.getElem?_cons_zero, List.getElem?_cons_succ, q3, q4, q5, q6, q7]
    refine (laws_equalTexts_c V7 _ _ ms ms hI7 (hM4.mono he7)).mono ?_
    rintro _ V7 ⟨rfl, rfl⟩
    rw [decide_eq_true (rfl : ms = ms)]
    simp (disch := omega) only [↓stq, amv_at, vls, inf, frs, mark_eq, ↓reduceIte, Nat.reduceEqDiff, ite_tt, ite_ff, eq_self, and_true, true_and, and_self, implies_true, Bool.true_eq_false, Bool.false_eq_true, decide_true, decide_false, decide_eq_true_eq, decide_eq_false_iff_not, ne_eq, not_true_eq_false, not_false_eq_true, Bool.not_eq_true', Bool.not_eq_false', beq_self_eq_true, Bool.not_true, Bool.not_false, List.getElem?_toArray, List.getElem?_cons_zero, List.getElem?_cons_succ, q3, q4, q5, q6, q7]
    refine (impl_GroupModules_c V7 _ R (hO4.mono he7) (by omega)).mono ?_
    rintro u8 V8 ⟨f8, l8⟩
    rw [hRg] at l8
    have hI8 : Sl testS V8 u8 R := OSl.toS (l8.at (i := 0) rfl)
    obtain ⟨a8, c8, rfl, _, _⟩ := hI8.slice
    have he8 := he7.trans l8.ext
    clear l8
    simp (disch := omega) only [↓stq, amv_at, vls, inf, frs, mark_eq, ↓reduceIte, Nat.reduceEqDiff, ite_tt, ite_ff, eq_self, and_true, true_and, and_self, implies_true, Bool.true_eq_false, Bool.false_eq_true, decide_true, decide_false, decide_eq_true_eq, decide_eq_false_iff_not, ne_eq, not_true_eq_false, not_false_eq_true, Bool.not_eq_true', Bool.not_eq_false', beq_self_eq_true, Bool.not_true, Bool.not_false, List.getElem?_toArray, List.getElem?_cons_zero, List.getElem?_cons_succ, q3, q4, q5, q6, q7]
    refine (laws_equalTests_c V8 _ _ R hI8 (hO4.mono he8)).mono ?_
    rintro _ V9 ⟨rfl, _⟩
    simp (disch := omega) only [↓stq, amv_at, vls, inf, frs, mark_eq, ↓reduceIte, Nat.reduceEqDiff, ite_tt, ite_ff, eq_self, and_true, true_and, and_self, implies_true, Bool.true_eq_false, Bool.false_eq_true, decide_true, decide_false, decide_eq_true_eq, decide_eq_false_iff_not, ne_eq, not_true_eq_false, not_false_eq_true, Bool.not_eq_true', Bool.not_eq_false', beq_self_eq_true, Bool.not_true, Bool.not_false, List.getElem?_toArray, List.getElem?_cons_zero, List.getElem?_cons_succ, q3, q4, q5, q6, q7]

end Go.Proofs.Ytbddklkfekiaeaa

