/- The law FnClosureOfLeast. -/
import Derived.Test.YtjojofnkgeiadaaCZ
set_option maxHeartbeats 4000000
set_option synthInstance.maxHeartbeats 400000
set_option synthInstance.maxSize 4096
set_option linter.unusedSimpArgs false
set_option linter.unusedVariables false
namespace Go.Proofs.Ytjojofnkgeiadaa

set_option maxRecDepth 100000

theorem least_sub {x : SuiteD} {t : TestD} {R P : List ByteArray} (hv : validB x = true) (hok : CloOk x t R) (hP : ∀ a, a ∈ P ↔ a ∈ preR x t) (hh : ∀ a, a ∈ preR x t → hasF x.1 a) : sub2 R (P ++ P.flatMap (needsOfR x)) = true ∧ sub2 (P ++ P.flatMap (needsOfR x)) R = true := by
  have hN : ∀ a, a ∈ preR x t → needsOfR x a = needsR x.1 a := fun a ha => by
    unfold needsOfR
    rw [if_pos ⟨hv, hasF_idx.1 (hh a ha)⟩]
  unfold sub2
  rw [List.all_eq_true, List.all_eq_true]
  refine ⟨fun y hy => decide_eq_true ?_, fun y hy => decide_eq_true ?_⟩
  · obtain ⟨a, ha, h⟩ := (hok.mem y).1 hy
    have hall := (rchF_all (fuel_ok x.1) (hh a ha) y).2 ⟨h, hok.has y hy⟩
    rw [← rchF_last (hh a ha)] at hall
    rcases List.mem_append.1 hall with h1 | h1
    · exact List.mem_append_right _ (List.mem_flatMap.2 ⟨a, (hP a).2 ha, by rw [hN a ha]; exact h1⟩)
    · rw [List.mem_singleton.1 h1]
      exact List.mem_append_left _ ((hP a).2 ha)
  · rcases List.mem_append.1 hy with h1 | h1
    · exact (hok.mem y).2 ⟨y, (hP y).1 h1, .inl rfl⟩
    · obtain ⟨a, ha, h2⟩ := List.mem_flatMap.1 h1
      have ha := (hP a).1 ha
      rw [hN a ha] at h2
      exact (hok.mem y).2 ⟨a, ha, .inr ((needsR_ord (sound_of hv) (hh a ha)).2.2.2 y h2).1⟩
theorem needsOf_flat (x : SuiteD) (P : List ByteArray) : (P.flatMap (needsOfR x)).length ≤ P.length * 6 := by
  induction P with
  | nil => simp
  | cons a P ih =>
    have := needsOfR_len x a
    rw [List.flatMap_cons, List.length_append, List.length_cons, Nat.succ_mul]
    omega

theorem law_FnClosureOfLeast (A : View) (v0 : Value) (x0 : List UInt8) (h0 : Sl byteS A v0 x0) : ACalls Try.prog 5 #[v0] A fun r _ => r = .bool true := by
  obtain ⟨a, c, rfl, _, _⟩ := h0.slice
  refine acalls Try.func5 rfl (by kernel_rfl) ?_
  simp (disch := omega) only [↓stq, amv_at, vls, inf, frs, mark_eq, ↓reduceIte, Nat.reduceEqDiff, ite_tt, ite_ff, eq_self, and_true, true_and, and_self, implies_true, Bool.true_eq_false, Bool.false_eq_true, decide_true, decide_false, decide_eq_true_eq, decide_eq_false_iff_not, ne_eq, not_true_eq_false, not_false_eq_true, Bool.not_eq_true', Bool.not_eq_false', beq_self_eq_true, Bool.not_true, Bool.not_false, List.getElem?_toArray, List.getElem?_cons_zero, List.getElem?_cons_succ]
  refine ⟨fun e => ?_, fun e => ?_⟩ <;> simp (disch := omega) only [↓stq, amv_at, vls, inf, frs, mark_eq, ↓reduceIte, Nat.reduceEqDiff, ite_tt, ite_ff, eq_self, and_true, true_and, and_self, implies_true, Bool.true_eq_false, Bool.false_eq_true, decide_true, decide_false, decide_eq_true_eq, decide_eq_false_iff_not, ne_eq, not_true_eq_false, not_false_eq_true, Bool.not_eq_true', Bool.not_eq_false', beq_self_eq_true, Bool.not_true, Bool.not_false, List.getElem?_toArray, List.getElem?_cons_zero, List.getElem?_cons_succ]
  refine (DrawClosureOf_c A _ x0 h0).mono ?_
  rintro _ B ⟨fp, x, d, s, rfl, hg, hz, lB⟩
  have hS : suiteS.rel B x d := suiteO_S (lB.at (i := 0) rfl)
  clear lB
  obtain ⟨u0, u1, rfl, g0, g1⟩ := suiteS_open hS
  obtain ⟨a0, c0, rfl, _, _⟩ := g0.slice
  obtain ⟨a1, c1, rfl, _, _⟩ := g1.slice
  have hl0 := hg.l0
  have hl1 := hg.l1
  simp (disch := omega) only [↓stq, amv_at, vls, inf, frs, mark_eq, ↓reduceIte, Nat.reduceEqDiff, ite_tt, ite_ff, eq_self, and_true, true_and, and_self, implies_true, Bool.true_eq_false, Bool.false_eq_true, decide_true, decide_false, decide_eq_true_eq, decide_eq_false_iff_not, ne_eq, not_true_eq_false, not_false_eq_true, Bool.not_eq_true', Bool.not_eq_false', beq_self_eq_true, Bool.not_true, Bool.not_false, List.getElem?_toArray, List.getElem?_cons_zero, List.getElem?_cons_succ]
  refine led_alloc zc26 (Led.nil B) fun q V _ l => ?_
  simp (disch := omega) only [↓stq, amv_at, vls, inf, frs, mark_eq, ↓reduceIte, Nat.reduceEqDiff, ite_tt, ite_ff, eq_self, and_true, true_and, and_self, implies_true, Bool.true_eq_false, Bool.false_eq_true, decide_true, decide_false, decide_eq_true_eq, decide_eq_false_iff_not, ne_eq, not_true_eq_false, not_false_eq_true, Bool.not_eq_true', Bool.not_eq_false', beq_self_eq_true, Bool.not_true, Bool.not_false, List.getElem?_toArray, List.getElem?_cons_zero, List.getElem?_cons_succ]
  refine led_storeAll l 0 rfl sz26 rfl rfl (by simp [Value.oneCell']) fun V l => ?_
  have kp : V.part ⟨q, 0, none⟩ 2 = some [.slice a0 x.1.length c0, .slice a1 x.2.1.length c1] := l.part (i := 0) rfl rfl
  simp (disch := omega) only [↓stq, amv_at, vls, inf, frs, mark_eq, ↓reduceIte, Nat.reduceEqDiff, ite_tt, ite_ff, eq_self, and_true, true_and, and_self, implies_true, Bool.true_eq_false, Bool.false_eq_true, decide_true, decide_false, decide_eq_true_eq, decide_eq_false_iff_not, ne_eq, not_true_eq_false, not_false_eq_true, Bool.not_eq_true', Bool.not_eq_false', beq_self_eq_true, Bool.not_true, Bool.not_false, List.getElem?_toArray, List.getElem?_cons_zero, List.getElem?_cons_succ, kp]
  refine (impl_ClosureOf_c V _ x s (suiteS_mk (g0.mono l.ext) (g1.mono l.ext)) (by omega) (by omega)).mono ?_
  rintro r V2 ⟨fo, l2⟩
  generalize hR : cloOf x s = R at l2
  obtain ⟨ao, co, rfl, _, _⟩ := (OSl.toS (show OSl 9 strO V2 fo r R from l2.at (i := 0) rfl)).slice
  replace l := l.append l2
  have kp : V2.part ⟨q, 0, none⟩ 2 = some [.slice a0 x.1.length c0, .slice a1 x.2.1.length c1] := l.part (i := 1) rfl rfl
  simp (disch := omega) only [↓stq, amv_at, vls, inf, frs, mark_eq, ↓reduceIte, Nat.reduceEqDiff, ite_tt, ite_ff, eq_self, and_true, true_and, and_self, implies_true, Bool.true_eq_false, Bool.false_eq_true, decide_true, decide_false, decide_eq_true_eq, decide_eq_false_iff_not, ne_eq, not_true_eq_false, not_false_eq_true, Bool.not_eq_true', Bool.not_eq_false', beq_self_eq_true, Bool.not_true, Bool.not_false, List.getElem?_toArray, List.getElem?_cons_zero, List.getElem?_cons_succ, kp]
  refine (spec_ClosureOf_c V2 _ x s (suiteS_mk (g0.mono l.ext) (g1.mono l.ext)) (by omega)).mono ?_
  rintro r V3 ⟨fw, l3⟩
  rw [hR] at l3
  obtain ⟨aw, cw, rfl, _, _⟩ := (OSl.toS (show OSl 9 strO V3 fw r R from l3.at (i := 0) rfl)).slice
  replace l := l.append l3
  simp (disch := omega) only [↓stq, amv_at, vls, inf, frs, mark_eq, ↓reduceIte, Nat.reduceEqDiff, ite_tt, ite_ff, eq_self, and_true, true_and, and_self, implies_true, Bool.true_eq_false, Bool.false_eq_true, decide_true, decide_false, decide_eq_true_eq, decide_eq_false_iff_not, ne_eq, not_true_eq_false, not_false_eq_true, Bool.not_eq_true', Bool.not_eq_false', beq_self_eq_true, Bool.not_true, Bool.not_false, List.getElem?_toArray, List.getElem?_cons_zero, List.getElem?_cons_succ]
  refine (laws_equalTexts_c V3 _ _ R R (OSl.toS (l.at (i := 1) rfl)) (OSl.toS (l.at (i := 0) rfl))).mono ?_
  rintro _ V3 ⟨rfl, rfl⟩
  have kp : V3.part ⟨q, 0, none⟩ 2 = some [.slice a0 x.1.length c0, .slice a1 x.2.1.length c1] := l.part (i := 2) rfl rfl
  simp (disch := omega) only [↓stq, amv_at, vls, inf, frs, mark_eq, ↓reduceIte, Nat.reduceEqDiff, ite_tt, ite_ff, eq_self, and_true, true_and, and_self, implies_true, Bool.true_eq_false, Bool.false_eq_true, decide_true, decide_false, decide_eq_true_eq, decide_eq_false_iff_not, ne_eq, not_true_eq_false, not_false_eq_true, Bool.not_eq_true', Bool.not_eq_false', beq_self_eq_true, Bool.not_true, Bool.not_false, List.getElem?_toArray, List.getElem?_cons_zero, List.getElem?_cons_succ, kp]
  refine ⟨fun e1 => ?_, fun e1 => ?_⟩ <;> simp (disch := omega) only [↓stq, amv_at, vls, inf, frs, mark_eq, ↓reduceIte, Nat.reduceEqDiff, ite_tt, ite_ff, eq_self, and_true, true_and, and_self, implies_true, Bool.true_eq_false, Bool.false_eq_true, decide_true, decide_false, decide_eq_true_eq, decide_eq_false_iff_not, ne_eq, not_true_eq_false, not_false_eq_true, Bool.not_eq_true', Bool.not_eq_false', beq_self_eq_true, Bool.not_true, Bool.not_false, List.getElem?_toArray, List.getElem?_cons_zero, List.getElem?_cons_succ, kp]
  · refine (spec_ClosureOf_c V3 _ x s (suiteS_mk (g0.mono l.ext) (g1.mono l.ext)) (by omega)).mono ?_
    rintro r V4 ⟨fw4, l4⟩
    rw [hR] at l4
    obtain ⟨aw4, cw4, rfl, _, _⟩ := (OSl.toS (show OSl 9 strO V4 fw4 r R from l4.at (i := 0) rfl)).slice
    replace l := l.append l4
    simp (disch := omega) only [↓stq, amv_at, vls, inf, frs, mark_eq, ↓reduceIte, Nat.reduceEqDiff, ite_tt, ite_ff, eq_self, and_true, true_and, and_self, implies_true, Bool.true_eq_false, Bool.false_eq_true, decide_true, decide_false, decide_eq_true_eq, decide_eq_false_iff_not, ne_eq, not_true_eq_false, not_false_eq_true, Bool.not_eq_true', Bool.not_eq_false', beq_self_eq_true, Bool.not_true, Bool.not_false, List.getElem?_toArray, List.getElem?_cons_zero, List.getElem?_cons_succ]
    refine (laws_equalTexts_c V4 _ _ R R (OSl.toS (l.at (i := 2) rfl)) (OSl.toS (l.at (i := 0) rfl))).mono ?_
    rintro _ V4 ⟨rfl, rfl⟩
    simp (disch := omega) only [↓stq, amv_at, vls, inf, frs, mark_eq, ↓reduceIte, Nat.reduceEqDiff, ite_tt, ite_ff, eq_self, and_true, true_and, and_self, implies_true, Bool.true_eq_false, Bool.false_eq_true, decide_true, decide_false, decide_eq_true_eq, decide_eq_false_iff_not, ne_eq, not_true_eq_false, not_false_eq_true, Bool.not_eq_true', Bool.not_eq_false', beq_self_eq_true, Bool.not_true, Bool.not_false, List.getElem?_toArray, List.getElem?_cons_zero, List.getElem?_cons_succ]
  have hval : validB x = true ∧ 0 ≤ findB x.2.1 s := by
    by_cases hq : validB x = true ∧ 0 ≤ findB x.2.1 s
    · exact hq
    · rw [cloOf_no hq] at hR
      rw [← hR] at e1
      exact absurd rfl e1
  obtain ⟨i0, hi0, hil, hc0⟩ := cloOf_at hval
  have hfv := findV_of hval.1 s
  rw [hi0] at hfv
  have hok := cloR_ok hval.1 (List.getElem_mem hil)
  have hlen := cloR_len (validB_parts hval.1).1.fl (preR x x.2.1[i0])
  rw [← hc0, hR] at hok hlen
  have hv : ∀ n, fAtR (validB x) x n = fAt x.1 n := fun n => by unfold fAtR; rw [hval.1]; rfl
  obtain ⟨adt, t2, t3, rfl, hclT, y1, y2, ft2, ft3⟩ := g1.test hil
  obtain ⟨at2, ct2, rfl, _, _⟩ := ft2.slice
  obtain ⟨at3, ct3, rfl, _, _⟩ := ft3.slice
  replace l := l.tail
  have hpre := clo_pre hval.1 (List.getElem_mem hil)
  have htl := ((validB_parts hval.1).1.ts _ (List.getElem_mem hil)).2
  generalize hnd : (x.2.1[i0]).2.2.2.1 = nds at hclT ft3 htl
  have w1 := l.cell (i := 1) rfl (o := 1) rfl rfl
  have hcl := l.ext.part hclT
  have s3 := View.part_cell hcl (j := 3) (v := .slice at3 nds.length ct3) rfl
  refine adraw_items [.q 1, .l 2 true, .q 3, .l 4 false, .q 5, .c 6 [2], .q 7, .q 8, .l 9 false, .c 0 [], .c 10 [], .q 11] (by kernel_rfl) (by kernel_rfl) ?_
  simp (disch := omega) only [↓stq, amv_at, ↓pln, plv, nilOk, Nat.reduceBEq, Bool.or_false, Bool.or_true, Bool.false_or, Bool.true_or, vls, inf, frs, mark_eq, ↓reduceIte, Nat.reduceEqDiff, ite_tt, ite_ff, eq_self, and_true, true_and, and_self, implies_true, Bool.true_eq_false, Bool.false_eq_true, decide_true, decide_false, decide_eq_true_eq, decide_eq_false_iff_not, ne_eq, not_true_eq_false, not_false_eq_true, Bool.not_eq_true', Bool.not_eq_false', beq_self_eq_true, Bool.not_true, Bool.not_false, List.getElem?_toArray, List.getElem?_cons_zero, List.getElem?_cons_succ, add_at, w1]
  refine (impl_FindTest_c V3 _ x.2.1 s (g1.mono l.ext) (by omega)).mono ?_
  rintro _ V4 ⟨rfl, he4⟩
  rw [hfv]
  replace l := l.step he4
  have w1 := l.cell (i := 1) rfl (o := 1) rfl rfl
  have s3 := View.part_cell (l.ext.part hclT) (j := 3) (v := .slice at3 nds.length ct3) rfl
  simp (disch := omega) only [↓stq, amv_at, ↓pln, plv, nilOk, Nat.reduceBEq, Bool.or_false, Bool.or_true, Bool.false_or, Bool.true_or, vls, inf, frs, mark_eq, ↓reduceIte, Nat.reduceEqDiff, ite_tt, ite_ff, eq_self, and_true, true_and, and_self, implies_true, Bool.true_eq_false, Bool.false_eq_true, decide_true, decide_false, decide_eq_true_eq, decide_eq_false_iff_not, ne_eq, not_true_eq_false, not_false_eq_true, Bool.not_eq_true', Bool.not_eq_false', beq_self_eq_true, Bool.not_true, Bool.not_false, List.getElem?_toArray, List.getElem?_cons_zero, List.getElem?_cons_succ, add_at, w1, s3]
  refine led_lit0 (O := strO) li31 l fun bp V4 _ l => ?_
  have w1 := l.cell (i := 2) rfl (o := 1) rfl rfl
  have s3 := View.part_cell (l.ext.part hclT) (j := 3) (v := .slice at3 nds.length ct3) rfl
  simp (disch := omega) only [↓stq, amv_at, ↓pln, plv, nilOk, Nat.reduceBEq, Bool.or_false, Bool.or_true, Bool.false_or, Bool.true_or, vls, inf, frs, mark_eq, ↓reduceIte, Nat.reduceEqDiff, ite_tt, ite_ff, eq_self, and_true, true_and, and_self, implies_true, Bool.true_eq_false, Bool.false_eq_true, decide_true, decide_false, decide_eq_true_eq, decide_eq_false_iff_not, ne_eq, not_true_eq_false, not_false_eq_true, Bool.not_eq_true', Bool.not_eq_false', beq_self_eq_true, Bool.not_true, Bool.not_false, List.getElem?_toArray, List.getElem?_cons_zero, List.getElem?_cons_succ, add_at, w1, s3, false_implies]
  refine led_app (O := strO) ap31_31 (by decide) l (i := 0) rfl (Sl.srcOf (ft3.mono l.ext)) (by rw [List.length_nil]; omega) fun fn wn V _ l => ?_
  rw [List.nil_append] at l
  have w1 := l.cell (i := 2) rfl (o := 1) rfl rfl
  have s3 := View.part_cell (l.ext.part hclT) (j := 3) (v := .slice at3 nds.length ct3) rfl
  simp (disch := omega) only [↓stq, amv_at, ↓pln, plv, nilOk, Nat.reduceBEq, Bool.or_false, Bool.or_true, Bool.false_or, Bool.true_or, vls, inf, frs, mark_eq, ↓reduceIte, Nat.reduceEqDiff, ite_tt, ite_ff, eq_self, and_true, true_and, and_self, implies_true, Bool.true_eq_false, Bool.false_eq_true, decide_true, decide_false, decide_eq_true_eq, decide_eq_false_iff_not, ne_eq, not_true_eq_false, not_false_eq_true, Bool.not_eq_true', Bool.not_eq_false', beq_self_eq_true, Bool.not_true, Bool.not_false, List.getElem?_toArray, List.getElem?_cons_zero, List.getElem?_cons_succ, add_at, w1, s3, false_implies]
  simp (disch := omega) only [↓stq, amv_at, vls, inf, frs, mark_eq, ↓reduceIte, Nat.reduceEqDiff, ite_tt, ite_ff, eq_self, and_true, true_and, and_self, implies_true, Bool.true_eq_false, Bool.false_eq_true, decide_true, decide_false, decide_eq_true_eq, decide_eq_false_iff_not, ne_eq, not_true_eq_false, not_false_eq_true, Bool.not_eq_true', Bool.not_eq_false', beq_self_eq_true, Bool.not_true, Bool.not_false, List.getElem?_toArray, List.getElem?_cons_zero, List.getElem?_cons_succ]
  refine aloop (fun d fr V => ∃ (k : Nat) (fp : List Nat) (w : Value), k ≤ x.1.length ∧ d = x.1.length - k ∧ Led B [osl 9 strO fp w (nds ++ ((x.1.take k).filter fun f => f.2.2.2.1).map (·.1)), osl 9 strO fo (.slice ao R.length co) R, bx q ⟨26, [.slice a0 x.1.length c0, .slice (some adt) x.2.1.length c1], 2, true⟩] V ∧ fr 3 = .pointer (some ⟨q, 0, none⟩) ∧ fr 5 = .slice ao R.length co ∧ fr 6 = w ∧ fr 7 = .int .i64 k) x.1.length ⟨0, _, _, by omega, by omega, by rw [List.take_zero]; show Led B [osl _ _ _ _ (nds ++ []), _, _] _; rw [List.append_nil]; exact l, by rfl, by rfl, by rfl, by rfl⟩ ?_
  clear l kp w1 hcl s3
  rintro d fr V ⟨k, fp, w, hk, rfl, l, h3, h5, h6, h7⟩
  have w0 := l.cell (i := 2) rfl (o := 0) rfl rfl
  simp (disch := omega) only [↓stq, amv_at, vls, inf, frs, mark_eq, ↓reduceIte, Nat.reduceEqDiff, ite_tt, ite_ff, eq_self, and_true, true_and, and_self, implies_true, Bool.true_eq_false, Bool.false_eq_true, decide_true, decide_false, decide_eq_true_eq, decide_eq_false_iff_not, ne_eq, not_true_eq_false, not_false_eq_true, Bool.not_eq_true', Bool.not_eq_false', beq_self_eq_true, Bool.not_true, Bool.not_false, List.getElem?_toArray, List.getElem?_cons_zero, List.getElem?_cons_succ, h3, h5, h6, h7, add_at, w0]
  refine ⟨fun e2 => ?_, fun e2 => ?_⟩
  · have hlt : k < x.1.length := by omega
    have htk := auto_take hlt
    have hal : (((x.1.take k).filter fun f => f.2.2.2.1).map (·.1)).length ≤ x.1.length := by
      rw [List.length_map]
      exact Nat.le_trans (List.length_filter_le ..) (by rw [List.length_take]; omega)
    obtain ⟨ad, u2, rfl, hclA, z1, z2, _⟩ := g0.fixture hlt
    have hcl := l.ext.part hclA
    have r3 := View.part_cell hcl (j := 3) rfl
    have r0 := View.part_cell hcl (j := 0) rfl
    simp (disch := omega) only [↓stq, amv_at, vls, inf, frs, mark_eq, ↓reduceIte, Nat.reduceEqDiff, ite_tt, ite_ff, eq_self, and_true, true_and, and_self, implies_true, Bool.true_eq_false, Bool.false_eq_true, decide_true, decide_false, decide_eq_true_eq, decide_eq_false_iff_not, ne_eq, not_true_eq_false, not_false_eq_true, Bool.not_eq_true', Bool.not_eq_false', beq_self_eq_true, Bool.not_true, Bool.not_false, List.getElem?_toArray, List.getElem?_cons_zero, List.getElem?_cons_succ, h3, h5, h6, h7, add_at, w0, r3]
    refine ⟨fun e3 => ?_, fun e3 => ?_⟩ <;> simp (disch := omega) only [↓stq, amv_at, vls, inf, frs, mark_eq, ↓reduceIte, Nat.reduceEqDiff, ite_tt, ite_ff, eq_self, and_true, true_and, and_self, implies_true, Bool.true_eq_false, Bool.false_eq_true, decide_true, decide_false, decide_eq_true_eq, decide_eq_false_iff_not, ne_eq, not_true_eq_false, not_false_eq_true, Bool.not_eq_true', Bool.not_eq_false', beq_self_eq_true, Bool.not_true, Bool.not_false, List.getElem?_toArray, List.getElem?_cons_zero, List.getElem?_cons_succ, h3, h5, h6, h7, add_at, w0, r0]
    · refine led_lit li31 (by omega) rfl (by simp [Value.cells, Value.oneCell']) l fun bl V4 _ l => ?_
      simp (disch := omega) only [↓stq, amv_at, vls, inf, frs, mark_eq, ↓reduceIte, Nat.reduceEqDiff, ite_tt, ite_ff, eq_self, and_true, true_and, and_self, implies_true, Bool.true_eq_false, Bool.false_eq_true, decide_true, decide_false, decide_eq_true_eq, decide_eq_false_iff_not, ne_eq, not_true_eq_false, not_false_eq_true, Bool.not_eq_true', Bool.not_eq_false', beq_self_eq_true, Bool.not_true, Bool.not_false, List.getElem?_toArray, List.getElem?_cons_zero, List.getElem?_cons_succ, h3, h5, h6, h7]
      refine led_app (O := strO) ap31_31 (by decide) l (i := 1) rfl (l.src1 (S := strS) (j := 0) rfl ⟨rfl, z1⟩) (by rw [List.length_singleton, List.length_append]; omega) fun fp3 w3 V5 _ l => ?_
      simp (disch := omega) only [↓stq, amv_at, vls, inf, frs, mark_eq, ↓reduceIte, Nat.reduceEqDiff, ite_tt, ite_ff, eq_self, and_true, true_and, and_self, implies_true, Bool.true_eq_false, Bool.false_eq_true, decide_true, decide_false, decide_eq_true_eq, decide_eq_false_iff_not, ne_eq, not_true_eq_false, not_false_eq_true, Bool.not_eq_true', Bool.not_eq_false', beq_self_eq_true, Bool.not_true, Bool.not_false, List.getElem?_toArray, List.getElem?_cons_zero, List.getElem?_cons_succ, h3, h5, h6, h7]
      rw [if_pos e3] at htk
      exact ⟨_, by omega, k + 1, fp3, w3, by omega, rfl, by rw [htk, ← List.append_assoc]; exact l.tail, rfl, rfl⟩
    · rw [if_neg (by simpa using e3), List.append_nil] at htk
      exact ⟨_, by omega, k + 1, fp, w, by omega, rfl, by rw [htk]; exact l, rfl, rfl⟩
  have hke : k = x.1.length := by omega
  rw [hke, List.take_length] at l
  have hal : ((x.1.filter fun f => f.2.2.2.1).map (·.1)).length ≤ 6 := by
    rw [List.length_map]
    exact Nat.le_trans (List.length_filter_le ..) hl0
  have hPm : ∀ a, a ∈ nds ++ (x.1.filter fun f => f.2.2.2.1).map (·.1) ↔ a ∈ preR x x.2.1[i0] := fun a => by
    unfold preR
    rw [hnd, List.mem_append, List.mem_append]
    exact Or.comm
  have hPl : (nds ++ (x.1.filter fun f => f.2.2.2.1).map (·.1)).length ≤ 10 := by rw [List.length_append]; omega
  generalize nds ++ (x.1.filter fun f => f.2.2.2.1).map (·.1) = P at l hPm hPl
  have hsub := least_sub hval.1 hok hPm hpre
  obtain ⟨ap, cp, rfl, _, _⟩ := (OSl.toS (show OSl 9 strO V fp w P from l.at (i := 0) rfl)).slice
  · simp (disch := omega) only [↓stq, amv_at, vls, inf, frs, mark_eq, ↓reduceIte, Nat.reduceEqDiff, ite_tt, ite_ff, eq_self, and_true, true_and, and_self, implies_true, Bool.true_eq_false, Bool.false_eq_true, decide_true, decide_false, decide_eq_true_eq, decide_eq_false_iff_not, ne_eq, not_true_eq_false, not_false_eq_true, Bool.not_eq_true', Bool.not_eq_false', beq_self_eq_true, Bool.not_true, Bool.not_false, List.getElem?_toArray, List.getElem?_cons_zero, List.getElem?_cons_succ, h3, h5, h6, h7]
    refine led_lit0 (O := strO) li31 l fun b8 V _ l => ?_
    simp (disch := omega) only [↓stq, amv_at, vls, inf, frs, mark_eq, ↓reduceIte, Nat.reduceEqDiff, ite_tt, ite_ff, eq_self, and_true, true_and, and_self, implies_true, Bool.true_eq_false, Bool.false_eq_true, decide_true, decide_false, decide_eq_true_eq, decide_eq_false_iff_not, ne_eq, not_true_eq_false, not_false_eq_true, Bool.not_eq_true', Bool.not_eq_false', beq_self_eq_true, Bool.not_true, Bool.not_false, List.getElem?_toArray, List.getElem?_cons_zero, List.getElem?_cons_succ, h3, h5, h6, h7]
    refine led_app (O := strO) ap31_31 (by decide) l (i := 0) rfl (Sl.srcOf (OSl.toS (l.at (i := 1) rfl))) (by rw [List.length_nil]; omega) fun f8 w8 V _ l => ?_
    rw [List.nil_append] at l
    simp (disch := omega) only [↓stq, amv_at, vls, inf, frs, mark_eq, ↓reduceIte, Nat.reduceEqDiff, ite_tt, ite_ff, eq_self, and_true, true_and, and_self, implies_true, Bool.true_eq_false, Bool.false_eq_true, decide_true, decide_false, decide_eq_true_eq, decide_eq_false_iff_not, ne_eq, not_true_eq_false, not_false_eq_true, Bool.not_eq_true', Bool.not_eq_false', beq_self_eq_true, Bool.not_true, Bool.not_false, List.getElem?_toArray, List.getElem?_cons_zero, List.getElem?_cons_succ, h3, h5, h6, h7]
    refine aloop (fun d fr V => ∃ (k : Nat) (f8 : List Nat) (w8 : Value), k ≤ P.length ∧ d = P.length - k ∧ Led B [osl 9 strO f8 w8 (P ++ (P.take k).flatMap (needsOfR x)), osl 9 strO fp (.slice ap P.length cp) P, osl 9 strO fo (.slice ao R.length co) R, bx q ⟨26, [.slice a0 x.1.length c0, .slice (some adt) x.2.1.length c1], 2, true⟩] V ∧ fr 3 = .pointer (some ⟨q, 0, none⟩) ∧ fr 5 = .slice ao R.length co ∧ fr 6 = .slice ap P.length cp ∧ fr 8 = w8 ∧ fr 9 = .int .i64 k) P.length ⟨0, _, _, by omega, by omega, by rw [List.take_zero]; show Led B [osl _ _ _ _ (P ++ []), _, _, _] _; rw [List.append_nil]; exact l, h3, h5, h6, by rfl, by rfl⟩ ?_
    clear l w0 h3 h5 h6 h7
    rintro d fr V ⟨k, f8, w8, hk, rfl, l, h3, h5, h6, h8, h9⟩
    simp (disch := omega) only [↓stq, amv_at, vls, inf, frs, mark_eq, ↓reduceIte, Nat.reduceEqDiff, ite_tt, ite_ff, eq_self, and_true, true_and, and_self, implies_true, Bool.true_eq_false, Bool.false_eq_true, decide_true, decide_false, decide_eq_true_eq, decide_eq_false_iff_not, ne_eq, not_true_eq_false, not_false_eq_true, Bool.not_eq_true', Bool.not_eq_false', beq_self_eq_true, Bool.not_true, Bool.not_false, List.getElem?_toArray, List.getElem?_cons_zero, List.getElem?_cons_succ, h3, h5, h6, h8, h9]
    refine ⟨fun e3 => ?_, fun e3 => ?_⟩
    · have hlt : k < P.length := by omega
      have htk : P ++ (P.take (k + 1)).flatMap (needsOfR x) = (P ++ (P.take k).flatMap (needsOfR x)) ++ needsOfR x P[k] := by
        rw [List.take_succ_eq_append_getElem hlt, List.flatMap_append, List.append_assoc]
        simp
      have hb1 := needsOf_flat x (P.take k)
      rw [List.length_take] at hb1
      have hb2 := needsOfR_len x P[k]
      obtain ⟨ad, hq, kk, zk⟩ := (OSl.toS (show OSl 9 strO V fp _ P from l.at (i := 1) rfl)).str hlt
      subst hq
      have kp : V.part ⟨q, 0, none⟩ 2 = some [.slice a0 x.1.length c0, .slice (some adt) x.2.1.length c1] := l.part (i := 3) rfl rfl
      simp (disch := omega) only [↓stq, amv_at, vls, inf, frs, mark_eq, ↓reduceIte, Nat.reduceEqDiff, ite_tt, ite_ff, eq_self, and_true, true_and, and_self, implies_true, Bool.true_eq_false, Bool.false_eq_true, decide_true, decide_false, decide_eq_true_eq, decide_eq_false_iff_not, ne_eq, not_true_eq_false, not_false_eq_true, Bool.not_eq_true', Bool.not_eq_false', beq_self_eq_true, Bool.not_true, Bool.not_false, List.getElem?_toArray, List.getElem?_cons_zero, List.getElem?_cons_succ, h3, h5, h6, h8, h9]
      refine adraw_items [.q 0, .l 1 false, .q 2, .q 3, .q 4, .l 5 false, .c 6 [], .c 7 [], .q 8] (by kernel_rfl) (by kernel_rfl) ?_
      simp (disch := omega) only [↓stq, amv_at, ↓pln, plv, nilOk, Nat.reduceBEq, Bool.or_false, Bool.or_true, Bool.false_or, Bool.true_or, vls, inf, frs, mark_eq, ↓reduceIte, Nat.reduceEqDiff, ite_tt, ite_ff, eq_self, and_true, true_and, and_self, implies_true, Bool.true_eq_false, Bool.false_eq_true, decide_true, decide_false, decide_eq_true_eq, decide_eq_false_iff_not, ne_eq, not_true_eq_false, not_false_eq_true, Bool.not_eq_true', Bool.not_eq_false', beq_self_eq_true, Bool.not_true, Bool.not_false, List.getElem?_toArray, List.getElem?_cons_zero, List.getElem?_cons_succ, h3, h5, h6, h8, h9, kp, kk]
      refine (impl_NeedsOf_c V _ x P[k] (suiteS_mk (g0.mono l.ext) (g1.mono l.ext)) zk (by omega) (by omega)).mono ?_
      rintro rn V2 ⟨fn2, l2⟩
      have hs2 : Sl strS V2 rn (needsOfR x P[k]) := OSl.toS (l2.at (i := 0) rfl)
      have kp := l2.ext.part kp
      have kk := l2.ext.cell kk
      obtain ⟨an, cn, rfl, _, _⟩ := hs2.slice
      replace l := l.step l2.ext
      simp (disch := omega) only [↓stq, amv_at, ↓pln, plv, nilOk, Nat.reduceBEq, Bool.or_false, Bool.or_true, Bool.false_or, Bool.true_or, vls, inf, frs, mark_eq, ↓reduceIte, Nat.reduceEqDiff, ite_tt, ite_ff, eq_self, and_true, true_and, and_self, implies_true, Bool.true_eq_false, Bool.false_eq_true, decide_true, decide_false, decide_eq_true_eq, decide_eq_false_iff_not, ne_eq, not_true_eq_false, not_false_eq_true, Bool.not_eq_true', Bool.not_eq_false', beq_self_eq_true, Bool.not_true, Bool.not_false, List.getElem?_toArray, List.getElem?_cons_zero, List.getElem?_cons_succ, h3, h5, h6, h8, h9, kp, kk]
      refine led_app (O := strO) ap31_31 (by decide) l (i := 0) rfl (Sl.srcOf hs2) (by rw [List.length_append]; omega) fun fp3 w3 V5 _ l => ?_
      have kp : V5.part ⟨q, 0, none⟩ 2 = some [.slice a0 x.1.length c0, .slice (some adt) x.2.1.length c1] := l.part (i := 3) rfl rfl
      obtain ⟨_, hq, kk, _⟩ := (OSl.toS (show OSl 9 strO V5 fp _ P from l.at (i := 1) rfl)).str hlt
      obtain rfl := Option.some.inj hq
      simp (disch := omega) only [↓stq, amv_at, ↓pln, plv, nilOk, Nat.reduceBEq, Bool.or_false, Bool.or_true, Bool.false_or, Bool.true_or, vls, inf, frs, mark_eq, ↓reduceIte, Nat.reduceEqDiff, ite_tt, ite_ff, eq_self, and_true, true_and, and_self, implies_true, Bool.true_eq_false, Bool.false_eq_true, decide_true, decide_false, decide_eq_true_eq, decide_eq_false_iff_not, ne_eq, not_true_eq_false, not_false_eq_true, Bool.not_eq_true', Bool.not_eq_false', beq_self_eq_true, Bool.not_true, Bool.not_false, List.getElem?_toArray, List.getElem?_cons_zero, List.getElem?_cons_succ, h3, h5, h6, h8, h9, kp, kk, false_implies]
      exact ⟨_, by omega, k + 1, fp3, w3, by omega, rfl, by rw [htk]; exact l, rfl, rfl⟩
    · have hke : k = P.length := by omega
      rw [hke, List.take_length] at l
      have hs8 : Sl strS V w8 (P ++ P.flatMap (needsOfR x)) := OSl.toS (l.at (i := 0) rfl)
      have hOR : Sl strS V (.slice ao R.length co) R := OSl.toS (l.at (i := 2) rfl)
      obtain ⟨a8, c8, rfl, _, _⟩ := hs8.slice
      simp (disch := omega) only [↓stq, amv_at, vls, inf, frs, mark_eq, ↓reduceIte, Nat.reduceEqDiff, ite_tt, ite_ff, eq_self, and_true, true_and, and_self, implies_true, Bool.true_eq_false, Bool.false_eq_true, decide_true, decide_false, decide_eq_true_eq, decide_eq_false_iff_not, ne_eq, not_true_eq_false, not_false_eq_true, Bool.not_eq_true', Bool.not_eq_false', beq_self_eq_true, Bool.not_true, Bool.not_false, List.getElem?_toArray, List.getElem?_cons_zero, List.getElem?_cons_succ, h3, h5, h6, h8, h9]
      refine (laws_within2_c V _ _ R _ hOR hs8).mono ?_
      rintro _ V ⟨rfl, rfl⟩
      rw [hsub.1]
      simp (disch := omega) only [↓stq, amv_at, vls, inf, frs, mark_eq, ↓reduceIte, Nat.reduceEqDiff, ite_tt, ite_ff, eq_self, and_true, true_and, and_self, implies_true, Bool.true_eq_false, Bool.false_eq_true, decide_true, decide_false, decide_eq_true_eq, decide_eq_false_iff_not, ne_eq, not_true_eq_false, not_false_eq_true, Bool.not_eq_true', Bool.not_eq_false', beq_self_eq_true, Bool.not_true, Bool.not_false, List.getElem?_toArray, List.getElem?_cons_zero, List.getElem?_cons_succ, h3, h5, h6, h8, h9]
      refine (laws_within2_c V _ _ _ R hs8 hOR).mono ?_
      rintro _ V ⟨rfl, rfl⟩
      rw [hsub.2]
      simp (disch := omega) only [↓stq, amv_at, vls, inf, frs, mark_eq, ↓reduceIte, Nat.reduceEqDiff, ite_tt, ite_ff, eq_self, and_true, true_and, and_self, implies_true, Bool.true_eq_false, Bool.false_eq_true, decide_true, decide_false, decide_eq_true_eq, decide_eq_false_iff_not, ne_eq, not_true_eq_false, not_false_eq_true, Bool.not_eq_true', Bool.not_eq_false', beq_self_eq_true, Bool.not_true, Bool.not_false, List.getElem?_toArray, List.getElem?_cons_zero, List.getElem?_cons_succ, h3, h5, h6, h8, h9]

end Go.Proofs.Ytjojofnkgeiadaa

