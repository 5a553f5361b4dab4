/- The law FnClosureOf. -/
import Derived.Test.YtjojofnkgeiadaaCZ
set_option maxHeartbeats 4000000
set_option synthInstance.maxHeartbeats 400000
set_option synthInstance.maxSize 4096
set_option linter.unusedSimpArgs false
set_option linter.unusedVariables false
namespace Go.Proofs.Ytjojofnkgeiadaa

set_option maxRecDepth 100000

theorem law_FnClosureOf (A : View) (v0 : Value) (x0 : List UInt8) (h0 : Sl byteS A v0 x0) : ACalls Try.prog 4 #[v0] A fun r _ => r = .bool true := by
  obtain ⟨a, c, rfl, _, _⟩ := h0.slice
  refine acalls Try.func4 rfl (by kernel_rfl) ?_
  simp (disch := omega) only [↓stq, amv_at, vls, inf, frs, mark_eq, ↓reduceIte, Nat.reduceEqDiff, ite_tt, ite_ff, eq_self, and_true, true_and, and_self, implies_true, Bool.true_eq_false, Bool.false_eq_true, decide_true, decide_false, decide_eq_true_eq, decide_eq_false_iff_not, ne_eq, not_true_eq_false, not_false_eq_true, Bool.not_eq_true', Bool.not_eq_false', beq_self_eq_true, Bool.not_true, Bool.not_false, List.getElem?_toArray, List.getElem?_cons_zero, List.getElem?_cons_succ]
  refine ⟨fun e => ?_, fun e => ?_⟩ <;> simp (disch := omega) only [↓stq, amv_at, vls, inf, frs, mark_eq, ↓reduceIte, Nat.reduceEqDiff, ite_tt, ite_ff, eq_self, and_true, true_and, and_self, implies_true, Bool.true_eq_false, Bool.false_eq_true, decide_true, decide_false, decide_eq_true_eq, decide_eq_false_iff_not, ne_eq, not_true_eq_false, not_false_eq_true, Bool.not_eq_true', Bool.not_eq_false', beq_self_eq_true, Bool.not_true, Bool.not_false, List.getElem?_toArray, List.getElem?_cons_zero, List.getElem?_cons_succ]
  refine (DrawClosureOf_c A _ x0 h0).mono ?_
  rintro _ B ⟨fp, x, d, s, rfl, hg, hz, lB⟩
  have hS : suiteS.rel B x d := suiteO_S (lB.at (i := 0) rfl)
  clear lB
  obtain ⟨u0, u1, rfl, g0, g1⟩ := suiteS_open hS
  obtain ⟨a0, c0, rfl, _, _⟩ := g0.slice
  obtain ⟨a1, c1, rfl, _, _⟩ := g1.slice
  have hl0 := hg.l0
  have hl1 := hg.l1
  simp (disch := omega) only [↓stq, amv_at, vls, inf, frs, mark_eq, ↓reduceIte, Nat.reduceEqDiff, ite_tt, ite_ff, eq_self, and_true, true_and, and_self, implies_true, Bool.true_eq_false, Bool.false_eq_true, decide_true, decide_false, decide_eq_true_eq, decide_eq_false_iff_not, ne_eq, not_true_eq_false, not_false_eq_true, Bool.not_eq_true', Bool.not_eq_false', beq_self_eq_true, Bool.not_true, Bool.not_false, List.getElem?_toArray, List.getElem?_cons_zero, List.getElem?_cons_succ]
  refine led_alloc zc26 (Led.nil B) fun q V _ l => ?_
  simp (disch := omega) only [↓stq, amv_at, vls, inf, frs, mark_eq, ↓reduceIte, Nat.reduceEqDiff, ite_tt, ite_ff, eq_self, and_true, true_and, and_self, implies_true, Bool.true_eq_false, Bool.false_eq_true, decide_true, decide_false, decide_eq_true_eq, decide_eq_false_iff_not, ne_eq, not_true_eq_false, not_false_eq_true, Bool.not_eq_true', Bool.not_eq_false', beq_self_eq_true, Bool.not_true, Bool.not_false, List.getElem?_toArray, List.getElem?_cons_zero, List.getElem?_cons_succ]
  refine led_storeAll l 0 rfl sz26 rfl rfl (by simp [Value.oneCell']) fun V l => ?_
  have kp : V.part ⟨q, 0, none⟩ 2 = some [.slice a0 x.1.length c0, .slice a1 x.2.1.length c1] := l.part (i := 0) rfl rfl
  simp (disch := omega) only [↓stq, amv_at, vls, inf, frs, mark_eq, ↓reduceIte, Nat.reduceEqDiff, ite_tt, ite_ff, eq_self, and_true, true_and, and_self, implies_true, Bool.true_eq_false, Bool.false_eq_true, decide_true, decide_false, decide_eq_true_eq, decide_eq_false_iff_not, ne_eq, not_true_eq_false, not_false_eq_true, Bool.not_eq_true', Bool.not_eq_false', beq_self_eq_true, Bool.not_true, Bool.not_false, List.getElem?_toArray, List.getElem?_cons_zero, List.getElem?_cons_succ, kp]
  refine (impl_ClosureOf_c V _ x s (suiteS_mk (g0.mono l.ext) (g1.mono l.ext)) (by omega) (by omega)).mono ?_
  rintro r V2 ⟨fo, l2⟩
  generalize hR : cloOf x s = R at l2
  obtain ⟨ao, co, rfl, _, _⟩ := (OSl.toS (show OSl 9 strO V2 fo r R from l2.at (i := 0) rfl)).slice
  replace l := l.append l2
  have kp : V2.part ⟨q, 0, none⟩ 2 = some [.slice a0 x.1.length c0, .slice a1 x.2.1.length c1] := l.part (i := 1) rfl rfl
  simp (disch := omega) only [↓stq, amv_at, vls, inf, frs, mark_eq, ↓reduceIte, Nat.reduceEqDiff, ite_tt, ite_ff, eq_self, and_true, true_and, and_self, implies_true, Bool.true_eq_false, Bool.false_eq_true, decide_true, decide_false, decide_eq_true_eq, decide_eq_false_iff_not, ne_eq, not_true_eq_false, not_false_eq_true, Bool.not_eq_true', Bool.not_eq_false', beq_self_eq_true, Bool.not_true, Bool.not_false, List.getElem?_toArray, List.getElem?_cons_zero, List.getElem?_cons_succ, kp]
  refine (spec_ClosureOf_c V2 _ x s (suiteS_mk (g0.mono l.ext) (g1.mono l.ext)) (by omega)).mono ?_
  rintro r V3 ⟨fw, l3⟩
  rw [hR] at l3
  obtain ⟨aw, cw, rfl, _, _⟩ := (OSl.toS (show OSl 9 strO V3 fw r R from l3.at (i := 0) rfl)).slice
  replace l := l.append l3
  simp (disch := omega) only [↓stq, amv_at, vls, inf, frs, mark_eq, ↓reduceIte, Nat.reduceEqDiff, ite_tt, ite_ff, eq_self, and_true, true_and, and_self, implies_true, Bool.true_eq_false, Bool.false_eq_true, decide_true, decide_false, decide_eq_true_eq, decide_eq_false_iff_not, ne_eq, not_true_eq_false, not_false_eq_true, Bool.not_eq_true', Bool.not_eq_false', beq_self_eq_true, Bool.not_true, Bool.not_false, List.getElem?_toArray, List.getElem?_cons_zero, List.getElem?_cons_succ]
  refine (laws_equalTexts_c V3 _ _ R R (OSl.toS (l.at (i := 1) rfl)) (OSl.toS (l.at (i := 0) rfl))).mono ?_
  rintro _ V3 ⟨rfl, rfl⟩
  have kp : V3.part ⟨q, 0, none⟩ 2 = some [.slice a0 x.1.length c0, .slice a1 x.2.1.length c1] := l.part (i := 2) rfl rfl
  simp (disch := omega) only [↓stq, amv_at, vls, inf, frs, mark_eq, ↓reduceIte, Nat.reduceEqDiff, ite_tt, ite_ff, eq_self, and_true, true_and, and_self, implies_true, Bool.true_eq_false, Bool.false_eq_true, decide_true, decide_false, decide_eq_true_eq, decide_eq_false_iff_not, ne_eq, not_true_eq_false, not_false_eq_true, Bool.not_eq_true', Bool.not_eq_false', beq_self_eq_true, Bool.not_true, Bool.not_false, List.getElem?_toArray, List.getElem?_cons_zero, List.getElem?_cons_succ, kp]
  refine ⟨fun e1 => ?_, fun e1 => ?_⟩ <;> simp (disch := omega) only [↓stq, amv_at, vls, inf, frs, mark_eq, ↓reduceIte, Nat.reduceEqDiff, ite_tt, ite_ff, eq_self, and_true, true_and, and_self, implies_true, Bool.true_eq_false, Bool.false_eq_true, decide_true, decide_false, decide_eq_true_eq, decide_eq_false_iff_not, ne_eq, not_true_eq_false, not_false_eq_true, Bool.not_eq_true', Bool.not_eq_false', beq_self_eq_true, Bool.not_true, Bool.not_false, List.getElem?_toArray, List.getElem?_cons_zero, List.getElem?_cons_succ, kp]
  · refine (spec_ClosureOf_c V3 _ x s (suiteS_mk (g0.mono l.ext) (g1.mono l.ext)) (by omega)).mono ?_
    rintro r V4 ⟨fw4, l4⟩
    rw [hR] at l4
    obtain ⟨aw4, cw4, rfl, _, _⟩ := (OSl.toS (show OSl 9 strO V4 fw4 r R from l4.at (i := 0) rfl)).slice
    replace l := l.append l4
    simp (disch := omega) only [↓stq, amv_at, vls, inf, frs, mark_eq, ↓reduceIte, Nat.reduceEqDiff, ite_tt, ite_ff, eq_self, and_true, true_and, and_self, implies_true, Bool.true_eq_false, Bool.false_eq_true, decide_true, decide_false, decide_eq_true_eq, decide_eq_false_iff_not, ne_eq, not_true_eq_false, not_false_eq_true, Bool.not_eq_true', Bool.not_eq_false', beq_self_eq_true, Bool.not_true, Bool.not_false, List.getElem?_toArray, List.getElem?_cons_zero, List.getElem?_cons_succ]
    refine (laws_equalTexts_c V4 _ _ R R (OSl.toS (l.at (i := 2) rfl)) (OSl.toS (l.at (i := 0) rfl))).mono ?_
    rintro _ V4 ⟨rfl, rfl⟩
    simp (disch := omega) only [↓stq, amv_at, vls, inf, frs, mark_eq, ↓reduceIte, Nat.reduceEqDiff, ite_tt, ite_ff, eq_self, and_true, true_and, and_self, implies_true, Bool.true_eq_false, Bool.false_eq_true, decide_true, decide_false, decide_eq_true_eq, decide_eq_false_iff_not, ne_eq, not_true_eq_false, not_false_eq_true, Bool.not_eq_true', Bool.not_eq_false', beq_self_eq_true, Bool.not_true, Bool.not_false, List.getElem?_toArray, List.getElem?_cons_zero, List.getElem?_cons_succ]
  have hval : validB x = true ∧ 0 ≤ findB x.2.1 s := by
    by_cases hq : validB x = true ∧ 0 ≤ findB x.2.1 s
    · exact hq
    · rw [cloOf_no hq] at hR
      rw [← hR] at e1
      exact absurd rfl e1
  obtain ⟨i0, hi0, hil, hc0⟩ := cloOf_at hval
  have hfv := findV_of hval.1 s
  rw [hi0] at hfv
  have hok := cloR_ok hval.1 (List.getElem_mem hil)
  have hlen := cloR_len (validB_parts hval.1).1.fl (preR x x.2.1[i0])
  rw [← hc0, hR] at hok hlen
  have hv : ∀ n, fAtR (validB x) x n = fAt x.1 n := fun n => by unfold fAtR; rw [hval.1]; rfl
  obtain ⟨adt, t2, t3, rfl, hclT, y1, y2, ft2, ft3⟩ := g1.test hil
  obtain ⟨at2, ct2, rfl, _, _⟩ := ft2.slice
  obtain ⟨at3, ct3, rfl, _, _⟩ := ft3.slice
  replace l := l.tail
  have w1 := l.cell (i := 1) rfl (o := 1) rfl rfl
  have hcl := l.ext.part hclT
  refine adraw_items [.q 0, .l 1 true, .q 2, .l 3 false, .q 4, .c 5 [1], .q 6, .l 7 false, .c 8 [], .c 9 []] (by kernel_rfl) (by kernel_rfl) ?_
  simp (disch := omega) only [↓stq, amv_at, ↓pln, plv, nilOk, Nat.reduceBEq, Bool.or_false, Bool.or_true, Bool.false_or, Bool.true_or, vls, inf, frs, mark_eq, ↓reduceIte, Nat.reduceEqDiff, ite_tt, ite_ff, eq_self, and_true, true_and, and_self, implies_true, Bool.true_eq_false, Bool.false_eq_true, decide_true, decide_false, decide_eq_true_eq, decide_eq_false_iff_not, ne_eq, not_true_eq_false, not_false_eq_true, Bool.not_eq_true', Bool.not_eq_false', beq_self_eq_true, Bool.not_true, Bool.not_false, List.getElem?_toArray, List.getElem?_cons_zero, List.getElem?_cons_succ, add_at, w1]
  refine (impl_FindTest_c V3 _ x.2.1 s (g1.mono l.ext) (by omega)).mono ?_
  rintro _ V4 ⟨rfl, he4⟩
  rw [hfv]
  replace l := l.step he4
  have w1 := l.cell (i := 1) rfl (o := 1) rfl rfl
  have hcl := he4.part hcl
  simp (disch := omega) only [↓stq, amv_at, ↓pln, plv, nilOk, Nat.reduceBEq, Bool.or_false, Bool.or_true, Bool.false_or, Bool.true_or, vls, inf, frs, mark_eq, ↓reduceIte, Nat.reduceEqDiff, ite_tt, ite_ff, eq_self, and_true, true_and, and_self, implies_true, Bool.true_eq_false, Bool.false_eq_true, decide_true, decide_false, decide_eq_true_eq, decide_eq_false_iff_not, ne_eq, not_true_eq_false, not_false_eq_true, Bool.not_eq_true', Bool.not_eq_false', beq_self_eq_true, Bool.not_true, Bool.not_false, List.getElem?_toArray, List.getElem?_cons_zero, List.getElem?_cons_succ, add_at, w1, hcl]
  refine led_alloc zc38 l fun q6 V _ l => ?_
  have w1 := l.cell (i := 2) rfl (o := 1) rfl rfl
  have hcl := l.ext.part hclT
  simp (disch := omega) only [↓stq, amv_at, ↓pln, plv, nilOk, Nat.reduceBEq, Bool.or_false, Bool.or_true, Bool.false_or, Bool.true_or, vls, inf, frs, mark_eq, ↓reduceIte, Nat.reduceEqDiff, ite_tt, ite_ff, eq_self, and_true, true_and, and_self, implies_true, Bool.true_eq_false, Bool.false_eq_true, decide_true, decide_false, decide_eq_true_eq, decide_eq_false_iff_not, ne_eq, not_true_eq_false, not_false_eq_true, Bool.not_eq_true', Bool.not_eq_false', beq_self_eq_true, Bool.not_true, Bool.not_false, List.getElem?_toArray, List.getElem?_cons_zero, List.getElem?_cons_succ, add_at, w1, hcl, false_implies]
  refine led_storeAll l 0 rfl sz38 rfl rfl (by simp [Value.oneCell']) fun V l => ?_
  have w1 := l.cell (i := 2) rfl (o := 1) rfl rfl
  have hcl := l.ext.part hclT
  simp (disch := omega) only [↓stq, amv_at, ↓pln, plv, nilOk, Nat.reduceBEq, Bool.or_false, Bool.or_true, Bool.false_or, Bool.true_or, vls, inf, frs, mark_eq, ↓reduceIte, Nat.reduceEqDiff, ite_tt, ite_ff, eq_self, and_true, true_and, and_self, implies_true, Bool.true_eq_false, Bool.false_eq_true, decide_true, decide_false, decide_eq_true_eq, decide_eq_false_iff_not, ne_eq, not_true_eq_false, not_false_eq_true, Bool.not_eq_true', Bool.not_eq_false', beq_self_eq_true, Bool.not_true, Bool.not_false, List.getElem?_toArray, List.getElem?_cons_zero, List.getElem?_cons_succ, add_at, w1, hcl, false_implies]
  simp (disch := omega) only [↓stq, amv_at, vls, inf, frs, mark_eq, ↓reduceIte, Nat.reduceEqDiff, ite_tt, ite_ff, eq_self, and_true, true_and, and_self, implies_true, Bool.true_eq_false, Bool.false_eq_true, decide_true, decide_false, decide_eq_true_eq, decide_eq_false_iff_not, ne_eq, not_true_eq_false, not_false_eq_true, Bool.not_eq_true', Bool.not_eq_false', beq_self_eq_true, Bool.not_true, Bool.not_false, List.getElem?_toArray, List.getElem?_cons_zero, List.getElem?_cons_succ]
  refine aloop (fun d fr V => ∃ k : Nat, k ≤ R.length ∧ d = R.length - k ∧ Led B [bx q6 ⟨38, [.string (x.2.1[i0]).1, .string (x.2.1[i0]).2.1, .slice at2 (x.2.1[i0]).2.2.1.length ct2, .slice at3 (x.2.1[i0]).2.2.2.1.length ct3], 4, true⟩, osl 9 strO fo (.slice ao R.length co) R, bx q ⟨26, [.slice a0 x.1.length c0, .slice (some adt) x.2.1.length c1], 2, true⟩] V ∧ fr 3 = .pointer (some ⟨q, 0, none⟩) ∧ fr 4 = .string s ∧ fr 5 = .slice ao R.length co ∧ fr 6 = .pointer (some ⟨q6, 0, none⟩) ∧ fr 7 = .int .i64 k) R.length ⟨0, by omega, by omega, l, by rfl, by rfl, by rfl, by rfl, by rfl⟩ ?_
  clear l kp w1 hcl
  rintro d fr V ⟨k, hk, rfl, l, h3, h4, h5, h6, h7⟩
  have w0 := l.cell (i := 2) rfl (o := 0) rfl rfl
  have kp : V.part ⟨q, 0, none⟩ 2 = some [.slice a0 x.1.length c0, .slice (some adt) x.2.1.length c1] := l.part (i := 2) rfl rfl
  have hO : Sl strS V (.slice ao R.length co) R := OSl.toS (l.at (i := 1) rfl)
  simp (disch := omega) only [↓stq, amv_at, vls, inf, frs, mark_eq, ↓reduceIte, Nat.reduceEqDiff, ite_tt, ite_ff, eq_self, and_true, true_and, and_self, implies_true, Bool.true_eq_false, Bool.false_eq_true, decide_true, decide_false, decide_eq_true_eq, decide_eq_false_iff_not, ne_eq, not_true_eq_false, not_false_eq_true, Bool.not_eq_true', Bool.not_eq_false', beq_self_eq_true, Bool.not_true, Bool.not_false, List.getElem?_toArray, List.getElem?_cons_zero, List.getElem?_cons_succ, h3, h4, h5, h6, h7]
  refine ⟨fun e2 => ?_, fun e2 => ?_⟩
  · have hlt : k < R.length := by omega
    have hFk := hok.has _ (List.getElem_mem hlt)
    obtain ⟨j, hj, hjl, hndj, hscj, _⟩ := scope_idx (fs := x.1) (a := R[k]) (hasF_idx.1 hFk)
    obtain ⟨ad0, uj, rfl, hclj, _, _, fj⟩ := g0.fixture hjl
    obtain ⟨anj, cnj, rfl, _, _⟩ := fj.slice
    have hsub : sub2 (x.1[j]).2.2.1 (R.take k) = true := by
      unfold sub2
      rw [List.all_eq_true]
      intro y hy
      rw [← hndj] at hy
      exact decide_eq_true (hok.ord k hlt y hy)
    obtain ⟨ad, hq, kk, zk⟩ := hO.str hlt
    subst hq
    have hcj := l.ext.part hclj
    simp (disch := omega) only [↓stq, amv_at, vls, inf, frs, mark_eq, ↓reduceIte, Nat.reduceEqDiff, ite_tt, ite_ff, eq_self, and_true, true_and, and_self, implies_true, Bool.true_eq_false, Bool.false_eq_true, decide_true, decide_false, decide_eq_true_eq, decide_eq_false_iff_not, ne_eq, not_true_eq_false, not_false_eq_true, Bool.not_eq_true', Bool.not_eq_false', beq_self_eq_true, Bool.not_true, Bool.not_false, List.getElem?_toArray, List.getElem?_cons_zero, List.getElem?_cons_succ, h3, h4, h5, h6, h7]
    refine adraw_items [.q 0, .l 1 true, .l 2 false, .q 3, .q 4, .q 5, .l 6 false, .c 7 [1], .q 8, .l 9 false, .c 10 [], .c 11 []] (by kernel_rfl) (by kernel_rfl) ?_
    simp (disch := omega) only [↓stq, amv_at, ↓pln, plv, nilOk, Nat.reduceBEq, Bool.or_false, Bool.or_true, Bool.false_or, Bool.true_or, vls, inf, frs, mark_eq, ↓reduceIte, Nat.reduceEqDiff, ite_tt, ite_ff, eq_self, and_true, true_and, and_self, implies_true, Bool.true_eq_false, Bool.false_eq_true, decide_true, decide_false, decide_eq_true_eq, decide_eq_false_iff_not, ne_eq, not_true_eq_false, not_false_eq_true, Bool.not_eq_true', Bool.not_eq_false', beq_self_eq_true, Bool.not_true, Bool.not_false, List.getElem?_toArray, List.getElem?_cons_zero, List.getElem?_cons_succ, h3, h4, h5, h6, h7, add_at, w0, kp, kk]
    refine (impl_FixtureAt_c V _ x R[k] (suiteS_mk (g0.mono l.ext) (g1.mono l.ext)) (by omega) (by omega)).mono ?_
    rintro _ V5 ⟨rfl, he5⟩
    rw [hv, hj]
    replace l := l.step he5
    have w0 := l.cell (i := 2) rfl (o := 0) rfl rfl
    have kp := he5.part kp
    have kk := he5.cell kk
    have hcj := he5.part hcj
    simp (disch := omega) only [↓stq, amv_at, ↓pln, plv, nilOk, Nat.reduceBEq, Bool.or_false, Bool.or_true, Bool.false_or, Bool.true_or, vls, inf, frs, mark_eq, ↓reduceIte, Nat.reduceEqDiff, ite_tt, ite_ff, eq_self, and_true, true_and, and_self, implies_true, Bool.true_eq_false, Bool.false_eq_true, decide_true, decide_false, decide_eq_true_eq, decide_eq_false_iff_not, ne_eq, not_true_eq_false, not_false_eq_true, Bool.not_eq_true', Bool.not_eq_false', beq_self_eq_true, Bool.not_true, Bool.not_false, List.getElem?_toArray, List.getElem?_cons_zero, List.getElem?_cons_succ, h3, h4, h5, h6, h7, add_at, w0, kp, kk, hcj]
    refine led_alloc zc33 l fun q7 V6 he6 l => ?_
    have w0 := l.cell (i := 3) rfl (o := 0) rfl rfl
    have kp := he6.part kp
    have kk := he6.cell kk
    have hcj := he6.part hcj
    simp (disch := omega) only [↓stq, amv_at, ↓pln, plv, nilOk, Nat.reduceBEq, Bool.or_false, Bool.or_true, Bool.false_or, Bool.true_or, vls, inf, frs, mark_eq, ↓reduceIte, Nat.reduceEqDiff, ite_tt, ite_ff, eq_self, and_true, true_and, and_self, implies_true, Bool.true_eq_false, Bool.false_eq_true, decide_true, decide_false, decide_eq_true_eq, decide_eq_false_iff_not, ne_eq, not_true_eq_false, not_false_eq_true, Bool.not_eq_true', Bool.not_eq_false', beq_self_eq_true, Bool.not_true, Bool.not_false, List.getElem?_toArray, List.getElem?_cons_zero, List.getElem?_cons_succ, h3, h4, h5, h6, h7, add_at, w0, kp, kk, hcj, false_implies]
    refine led_storeAll l 0 rfl sz33 rfl rfl (by simp [Value.oneCell']) fun V7 l => ?_
    have w0 := l.cell (i := 3) rfl (o := 0) rfl rfl
    have kp : V7.part ⟨q, 0, none⟩ 2 = some [.slice (some ad0) x.1.length c0, .slice (some adt) x.2.1.length c1] := l.part (i := 3) rfl rfl
    have hO : Sl strS V7 (.slice (some ad) R.length co) R := OSl.toS (l.at (i := 2) rfl)
    obtain ⟨_, hq, kk, _⟩ := hO.str hlt
    obtain rfl := Option.some.inj hq
    have hcj := l.ext.part hclj
    simp (disch := omega) only [↓stq, amv_at, ↓pln, plv, nilOk, Nat.reduceBEq, Bool.or_false, Bool.or_true, Bool.false_or, Bool.true_or, vls, inf, frs, mark_eq, ↓reduceIte, Nat.reduceEqDiff, ite_tt, ite_ff, eq_self, and_true, true_and, and_self, implies_true, Bool.true_eq_false, Bool.false_eq_true, decide_true, decide_false, decide_eq_true_eq, decide_eq_false_iff_not, ne_eq, not_true_eq_false, not_false_eq_true, Bool.not_eq_true', Bool.not_eq_false', beq_self_eq_true, Bool.not_true, Bool.not_false, List.getElem?_toArray, List.getElem?_cons_zero, List.getElem?_cons_succ, h3, h4, h5, h6, h7, add_at, w0, kp, kk, hcj, false_implies]
    have m1 := l.cell (i := 0) rfl (o := 1) rfl rfl
    have m2 := l.cell (i := 0) rfl (o := 2) rfl rfl
    simp (disch := omega) only [↓stq, amv_at, vls, inf, frs, mark_eq, ↓reduceIte, Nat.reduceEqDiff, ite_tt, ite_ff, eq_self, and_true, true_and, and_self, implies_true, Bool.true_eq_false, Bool.false_eq_true, decide_true, decide_false, decide_eq_true_eq, decide_eq_false_iff_not, ne_eq, not_true_eq_false, not_false_eq_true, Bool.not_eq_true', Bool.not_eq_false', beq_self_eq_true, Bool.not_true, Bool.not_false, List.getElem?_toArray, List.getElem?_cons_zero, List.getElem?_cons_succ, h3, h4, h5, h6, h7]
    refine adraw_items [.q 0, .l 1 false, .q 2, .q 3, .q 4, .c 5 [], .q 6, .q 7, .q 8, .q 9, .q 10, .q 11, .l 12 true, .l 13 false, .q 14, .q 15, .q 16, .q 17, .l 18 false, .q 23, .l 24 true, .c 19 [12, 24], .q 20, .q 21, .l 22 false, .q 25, .q 26, .q 27] (by kernel_rfl) (by kernel_rfl) ?_
    simp (disch := omega) only [↓stq, amv_at, ↓pln, plv, nilOk, Nat.reduceBEq, Bool.or_false, Bool.or_true, Bool.false_or, Bool.true_or, vls, inf, frs, mark_eq, ↓reduceIte, Nat.reduceEqDiff, ite_tt, ite_ff, eq_self, and_true, true_and, and_self, implies_true, Bool.true_eq_false, Bool.false_eq_true, decide_true, decide_false, decide_eq_true_eq, decide_eq_false_iff_not, ne_eq, not_true_eq_false, not_false_eq_true, Bool.not_eq_true', Bool.not_eq_false', beq_self_eq_true, Bool.not_true, Bool.not_false, List.getElem?_toArray, List.getElem?_cons_zero, List.getElem?_cons_succ, h3, h4, h5, h6, h7, add_at, w0, kp, m1, m2]
    refine (laws_within2_c V7 _ _ _ (R.take k) (fj.mono l.ext) (hO.take hk 1)).mono ?_
    rintro _ V7 ⟨rfl, rfl⟩
    rw [hsub]
    simp (disch := omega) only [↓stq, amv_at, ↓pln, plv, nilOk, Nat.reduceBEq, Bool.or_false, Bool.or_true, Bool.false_or, Bool.true_or, vls, inf, frs, mark_eq, ↓reduceIte, Nat.reduceEqDiff, ite_tt, ite_ff, eq_self, and_true, true_and, and_self, implies_true, Bool.true_eq_false, Bool.false_eq_true, decide_true, decide_false, decide_eq_true_eq, decide_eq_false_iff_not, ne_eq, not_true_eq_false, not_false_eq_true, Bool.not_eq_true', Bool.not_eq_false', beq_self_eq_true, Bool.not_true, Bool.not_false, List.getElem?_toArray, List.getElem?_cons_zero, List.getElem?_cons_succ, h3, h4, h5, h6, h7, add_at, w0, kp, m1, m2]
    refine ⟨fun e3 => ?_, fun e3 => ?_⟩
    · have hk0 : 0 < k := by omega
      have hdesc := hok.desc k hlt hk0
      have hFp := hok.has _ (List.getElem_mem (show k - 1 < R.length by omega))
      obtain ⟨jp, hjp, hjpl, _, hscp, _⟩ := scope_idx (fs := x.1) (a := R[k - 1]) (hasF_idx.1 hFp)
      obtain ⟨_, ujp, hq, hclp, _, _, _⟩ := g0.fixture hjpl
      obtain rfl := Option.some.inj hq
      obtain ⟨_, hq, kq, _⟩ := hO.str (i := k - 1) (by omega)
      obtain rfl := Option.some.inj hq
      have hdd : ((k : Int) - 1).toNat = k - 1 := by omega
      have hscale : ¬ (x.1[jp]).2.1 < (x.1[j]).2.1 := by
        rw [hscp, hscj] at hdesc
        omega
      simp (disch := omega) only [↓stq, amv_at, ↓pln, plv, nilOk, Nat.reduceBEq, Bool.or_false, Bool.or_true, Bool.false_or, Bool.true_or, vls, inf, frs, mark_eq, ↓reduceIte, Nat.reduceEqDiff, ite_tt, ite_ff, eq_self, and_true, true_and, and_self, implies_true, Bool.true_eq_false, Bool.false_eq_true, decide_true, decide_false, decide_eq_true_eq, decide_eq_false_iff_not, ne_eq, not_true_eq_false, not_false_eq_true, Bool.not_eq_true', Bool.not_eq_false', beq_self_eq_true, Bool.not_true, Bool.not_false, List.getElem?_toArray, List.getElem?_cons_zero, List.getElem?_cons_succ, h3, h4, h5, h6, h7, e3, add_at, w0, kp, m1, m2, kq, hdd]
      refine (impl_FixtureAt_c V7 _ x R[k - 1] (suiteS_mk (g0.mono l.ext) (g1.mono l.ext)) (by omega) (by omega)).mono ?_
      rintro _ V8 ⟨rfl, he8⟩
      rw [hv, hjp]
      replace l := l.step he8
      have w0 := l.cell (i := 3) rfl (o := 0) rfl rfl
      have kp := he8.part kp
      have m1 := he8.cell m1
      have m2 := he8.cell m2
      have kq := he8.cell kq
      have s1 := View.part_cell (l.ext.part hclp) (j := 1) rfl
      simp (disch := omega) only [↓stq, amv_at, ↓pln, plv, nilOk, Nat.reduceBEq, Bool.or_false, Bool.or_true, Bool.false_or, Bool.true_or, vls, inf, frs, mark_eq, ↓reduceIte, Nat.reduceEqDiff, ite_tt, ite_ff, eq_self, and_true, true_and, and_self, implies_true, Bool.true_eq_false, Bool.false_eq_true, decide_true, decide_false, decide_eq_true_eq, decide_eq_false_iff_not, ne_eq, not_true_eq_false, not_false_eq_true, Bool.not_eq_true', Bool.not_eq_false', beq_self_eq_true, Bool.not_true, Bool.not_false, List.getElem?_toArray, List.getElem?_cons_zero, List.getElem?_cons_succ, h3, h4, h5, h6, h7, e3, add_at, w0, kp, m1, m2, kq, hdd, s1]
      refine ⟨fun e4 => absurd e4 hscale, fun e4 => ?_⟩
      simp (disch := omega) only [↓stq, amv_at, vls, inf, frs, mark_eq, ↓reduceIte, Nat.reduceEqDiff, ite_tt, ite_ff, eq_self, and_true, true_and, and_self, implies_true, Bool.true_eq_false, Bool.false_eq_true, decide_true, decide_false, decide_eq_true_eq, decide_eq_false_iff_not, ne_eq, not_true_eq_false, not_false_eq_true, Bool.not_eq_true', Bool.not_eq_false', beq_self_eq_true, Bool.not_true, Bool.not_false, List.getElem?_toArray, List.getElem?_cons_zero, List.getElem?_cons_succ, h3, h4, h5, h6, h7]
      exact ⟨_, by omega, k + 1, by omega, rfl, l.tail, rfl⟩
    · simp (disch := omega) only [↓stq, amv_at, ↓pln, plv, nilOk, Nat.reduceBEq, Bool.or_false, Bool.or_true, Bool.false_or, Bool.true_or, vls, inf, frs, mark_eq, ↓reduceIte, Nat.reduceEqDiff, ite_tt, ite_ff, eq_self, and_true, true_and, and_self, implies_true, Bool.true_eq_false, Bool.false_eq_true, decide_true, decide_false, decide_eq_true_eq, decide_eq_false_iff_not, ne_eq, not_true_eq_false, not_false_eq_true, Bool.not_eq_true', Bool.not_eq_false', beq_self_eq_true, Bool.not_true, Bool.not_false, List.getElem?_toArray, List.getElem?_cons_zero, List.getElem?_cons_succ, h3, h4, h5, h6, h7, e3, add_at, w0, kp, m1, m2]
      exact ⟨_, by omega, k + 1, by omega, rfl, l.tail, rfl⟩
  · have n3 := l.cell (i := 0) rfl (o := 3) rfl rfl
    have hsub : sub2 (x.2.1[i0]).2.2.2.1 R = true := by
      unfold sub2
      rw [List.all_eq_true]
      exact fun y hy => decide_eq_true (hok.pre y hy)
    simp (disch := omega) only [↓stq, amv_at, vls, inf, frs, mark_eq, ↓reduceIte, Nat.reduceEqDiff, ite_tt, ite_ff, eq_self, and_true, true_and, and_self, implies_true, Bool.true_eq_false, Bool.false_eq_true, decide_true, decide_false, decide_eq_true_eq, decide_eq_false_iff_not, ne_eq, not_true_eq_false, not_false_eq_true, Bool.not_eq_true', Bool.not_eq_false', beq_self_eq_true, Bool.not_true, Bool.not_false, List.getElem?_toArray, List.getElem?_cons_zero, List.getElem?_cons_succ, h3, h4, h5, h6, h7]
    refine (laws_apart_c V _ R hO).mono ?_
    rintro _ V ⟨rfl, rfl⟩
    rw [decide_eq_true hok.nd]
    simp (disch := omega) only [↓stq, amv_at, vls, inf, frs, mark_eq, ↓reduceIte, Nat.reduceEqDiff, ite_tt, ite_ff, eq_self, and_true, true_and, and_self, implies_true, Bool.true_eq_false, Bool.false_eq_true, decide_true, decide_false, decide_eq_true_eq, decide_eq_false_iff_not, ne_eq, not_true_eq_false, not_false_eq_true, Bool.not_eq_true', Bool.not_eq_false', beq_self_eq_true, Bool.not_true, Bool.not_false, List.getElem?_toArray, List.getElem?_cons_zero, List.getElem?_cons_succ, h3, h4, h5, h6, h7, add_at, n3]
    refine (laws_within2_c V _ _ _ R (ft3.mono l.ext) hO).mono ?_
    rintro _ V ⟨rfl, rfl⟩
    rw [hsub]
    simp (disch := omega) only [↓stq, amv_at, vls, inf, frs, mark_eq, ↓reduceIte, Nat.reduceEqDiff, ite_tt, ite_ff, eq_self, and_true, true_and, and_self, implies_true, Bool.true_eq_false, Bool.false_eq_true, decide_true, decide_false, decide_eq_true_eq, decide_eq_false_iff_not, ne_eq, not_true_eq_false, not_false_eq_true, Bool.not_eq_true', Bool.not_eq_false', beq_self_eq_true, Bool.not_true, Bool.not_false, List.getElem?_toArray, List.getElem?_cons_zero, List.getElem?_cons_succ, h3, h4, h5, h6, h7]

end Go.Proofs.Ytjojofnkgeiadaa

