/- What is wrong with a suite: the reference. -/
import Derived.Test.YtjojofnkgeiadaaV7
set_option maxHeartbeats 4000000
set_option synthInstance.maxHeartbeats 400000
set_option synthInstance.maxSize 4096
set_option linter.unusedSimpArgs false
set_option linter.unusedVariables false
namespace Go.Proofs.Ytjojofnkgeiadaa

set_option maxRecDepth 100000

theorem spec_problems_c (A : View) (d : List Value) (x : SuiteD) (hx : suiteS.rel A x d) (hF : Formed x) : ACalls Try.prog 53 #[.agg d.toArray] A fun r V => NewSl 35 problemO A r V (probR x) := by
  obtain ⟨u0, u1, rfl, g0, g1⟩ := suiteS_open hx
  obtain ⟨a0, c0, rfl, _, _⟩ := g0.slice
  obtain ⟨a1, c1, rfl, _, _⟩ := g1.slice
  have hfl := hF.fl
  have htl := hF.tl
  refine acalls Try.func53 rfl (by kernel_rfl) ?_
  simp (disch := omega) only [↓stp, vls, inf, frs, mark_eq, ↓reduceIte, Nat.reduceEqDiff, ite_tt, ite_ff, eq_self, and_true, true_and, and_self, implies_true, Bool.true_eq_false, Bool.false_eq_true, decide_true, decide_false, decide_eq_true_eq, decide_eq_false_iff_not, ne_eq, not_true_eq_false, not_false_eq_true, Bool.not_eq_true', Bool.not_eq_false', beq_self_eq_true, Bool.not_true, Bool.not_false, List.getElem?_toArray, List.getElem?_cons_zero, List.getElem?_cons_succ]
  refine led_box (Led.nil A) rfl fun q V he l => ?_
  simp (disch := omega) only [↓stp, vls, inf, frs, mark_eq, ↓reduceIte, Nat.reduceEqDiff, ite_tt, ite_ff, eq_self, and_true, true_and, and_self, implies_true, Bool.true_eq_false, Bool.false_eq_true, decide_true, decide_false, decide_eq_true_eq, decide_eq_false_iff_not, ne_eq, not_true_eq_false, not_false_eq_true, Bool.not_eq_true', Bool.not_eq_false', beq_self_eq_true, Bool.not_true, Bool.not_false, List.getElem?_toArray, List.getElem?_cons_zero, List.getElem?_cons_succ]
  refine led_lit0 (O := problemO) li28 l fun b1 V1 _ l => ?_
  simp (disch := omega) only [↓stp, vls, inf, frs, mark_eq, ↓reduceIte, Nat.reduceEqDiff, ite_tt, ite_ff, eq_self, and_true, true_and, and_self, implies_true, Bool.true_eq_false, Bool.false_eq_true, decide_true, decide_false, decide_eq_true_eq, decide_eq_false_iff_not, ne_eq, not_true_eq_false, not_false_eq_true, Bool.not_eq_true', Bool.not_eq_false', beq_self_eq_true, Bool.not_true, Bool.not_false, List.getElem?_toArray, List.getElem?_cons_zero, List.getElem?_cons_succ]
  refine aloop (fun d fr V => ∃ (i : Nat) (fp : List Nat) (w : Value), i ≤ x.1.length ∧ d = x.1.length - i ∧ Led A [osl 35 problemO fp w ((x.1.take i).flatMap (prFix x.1)), bx q ⟨26, [.slice a0 x.1.length c0, .slice a1 x.2.1.length c1], 2, true⟩] V ∧ fr 1 = .pointer (some ⟨q, 0, none⟩) ∧ fr 3 = w ∧ fr 4 = .int .i64 i) x.1.length ⟨0, _, _, by omega, by omega, l, by rfl, by rfl, by rfl⟩ ?_
  clear l he
  rintro d fr V ⟨i, fp, w, hi, rfl, l, h1, h3, h4⟩
  have k0 := l.cell (i := 1) rfl (o := 0) rfl rfl
  simp (disch := omega) only [↓stp, vls, inf, frs, mark_eq, ↓reduceIte, Nat.reduceEqDiff, ite_tt, ite_ff, eq_self, and_true, true_and, and_self, implies_true, Bool.true_eq_false, Bool.false_eq_true, decide_true, decide_false, decide_eq_true_eq, decide_eq_false_iff_not, ne_eq, not_true_eq_false, not_false_eq_true, Bool.not_eq_true', Bool.not_eq_false', beq_self_eq_true, Bool.not_true, Bool.not_false, List.getElem?_toArray, List.getElem?_cons_zero, List.getElem?_cons_succ, h1, h3, h4, add_at, k0]
  refine ⟨fun e => ?_, fun e => ?_⟩
  · have hlt : i < x.1.length := by omega
    have hout : ((x.1.take i).flatMap (prFix x.1)).length ≤ 30 := by
      have := flatMap_le' (f := prFix x.1) (m := 5) (x.1.take i) fun f hf => prFix_len (hF.fs f (List.mem_of_mem_take hf)).1
      rw [List.length_take] at this
      omega
    have hft := flatMap_take (prFix x.1) hlt
    obtain ⟨ad, u2, rfl, hclA, z1, z2, f2⟩ := g0.fixture hlt
    obtain ⟨a2, c2, rfl, _, _⟩ := f2.slice
    have hff := hF.fs _ (List.getElem_mem hlt)
    have hcl := l.ext.part hclA
    generalize (x.1.take i).flatMap (prFix x.1) = out0 at l hout hft
    simp (disch := omega) only [↓stp, vls, inf, frs, mark_eq, ↓reduceIte, Nat.reduceEqDiff, ite_tt, ite_ff, eq_self, and_true, true_and, and_self, implies_true, Bool.true_eq_false, Bool.false_eq_true, decide_true, decide_false, decide_eq_true_eq, decide_eq_false_iff_not, ne_eq, not_true_eq_false, not_false_eq_true, Bool.not_eq_true', Bool.not_eq_false', beq_self_eq_true, Bool.not_true, Bool.not_false, List.getElem?_toArray, List.getElem?_cons_zero, List.getElem?_cons_succ, h1, h3, h4, add_at, k0, hcl]
    refine led_alloc zc33 l fun q5 V5 he5 l => ?_
    simp (disch := omega) only [↓stp, vls, inf, frs, mark_eq, ↓reduceIte, Nat.reduceEqDiff, ite_tt, ite_ff, eq_self, and_true, true_and, and_self, implies_true, Bool.true_eq_false, Bool.false_eq_true, decide_true, decide_false, decide_eq_true_eq, decide_eq_false_iff_not, ne_eq, not_true_eq_false, not_false_eq_true, Bool.not_eq_true', Bool.not_eq_false', beq_self_eq_true, Bool.not_true, Bool.not_false, List.getElem?_toArray, List.getElem?_cons_zero, List.getElem?_cons_succ, h1, h3, h4]
    refine led_storeAll l 0 rfl sz33 rfl rfl (by simp [Value.oneCell']) fun V6 l => ?_
    simp (disch := omega) only [↓stp, vls, inf, frs, mark_eq, ↓reduceIte, Nat.reduceEqDiff, ite_tt, ite_ff, eq_self, and_true, true_and, and_self, implies_true, Bool.true_eq_false, Bool.false_eq_true, decide_true, decide_false, decide_eq_true_eq, decide_eq_false_iff_not, ne_eq, not_true_eq_false, not_false_eq_true, Bool.not_eq_true', Bool.not_eq_false', beq_self_eq_true, Bool.not_true, Bool.not_false, List.getElem?_toArray, List.getElem?_cons_zero, List.getElem?_cons_succ, h1, h3, h4]
    refine aloop (fun d fr V => ∃ (k : Nat) (fp : List Nat) (w : Value), k ≤ (x.1[i]).2.2.1.length ∧ d = (x.1[i]).2.2.1.length - k ∧ Led A [osl 35 problemO fp w (out0 ++ ((x.1[i]).2.2.1.take k).flatMap (prNeed x.1 x.1[i])), bx q5 ⟨33, [.string (x.1[i]).1, .int .i64 (x.1[i]).2.1, .slice a2 (x.1[i]).2.2.1.length c2, .bool (x.1[i]).2.2.2.1], 4, true⟩, bx q ⟨26, [.slice (some ad) x.1.length c0, .slice a1 x.2.1.length c1], 2, true⟩] V ∧ fr 1 = .pointer (some ⟨q, 0, none⟩) ∧ fr 3 = w ∧ fr 4 = .int .i64 i ∧ fr 5 = .pointer (some ⟨q5, 0, none⟩) ∧ fr 6 = .int .i64 k) (x.1[i]).2.2.1.length ⟨0, _, _, by omega, by omega, by rw [List.take_zero, List.flatMap_nil, List.append_nil]; exact l.perm (List.Perm.swap ..), h1, h3, h4, by rfl, by rfl⟩ ?_
    clear l k0 hcl h1 h3 h4
    rintro d fr V ⟨k, fp, w, hk, rfl, l, h1, h3, h4, h5, h6⟩
    have m0 := l.cell (i := 1) rfl (o := 0) rfl rfl
    have m1 := l.cell (i := 1) rfl (o := 1) rfl rfl
    have m2 := l.cell (i := 1) rfl (o := 2) rfl rfl
    have k0 := l.cell (i := 2) rfl (o := 0) rfl rfl
    have kp : V.part ⟨q, 0, none⟩ 2 = some _ := l.part (i := 2) rfl rfl
    simp (disch := omega) only [↓stp, vls, inf, frs, mark_eq, ↓reduceIte, Nat.reduceEqDiff, ite_tt, ite_ff, eq_self, and_true, true_and, and_self, implies_true, Bool.true_eq_false, Bool.false_eq_true, decide_true, decide_false, decide_eq_true_eq, decide_eq_false_iff_not, ne_eq, not_true_eq_false, not_false_eq_true, Bool.not_eq_true', Bool.not_eq_false', beq_self_eq_true, Bool.not_true, Bool.not_false, List.getElem?_toArray, List.getElem?_cons_zero, List.getElem?_cons_succ, h1, h3, h4, h5, h6, add_at, m2]
    refine ⟨fun e1 => ?_, fun e1 => ?_⟩
    · have hltk : k < (x.1[i]).2.2.1.length := by omega
      obtain ⟨ad2, rfl, kk, zk⟩ := (f2.mono l.ext).str hltk
      have hlen : (out0 ++ ((x.1[i]).2.2.1.take k).flatMap (prNeed x.1 x.1[i])).length ≤ 34 := by
        have := flatMap_le (prNeed_len x.1 x.1[i]) ((x.1[i]).2.2.1.take k)
        rw [List.length_take] at this
        rw [List.length_append]
        omega
      have hst := flatMap_take (prNeed x.1 x.1[i]) hltk
      simp (disch := omega) only [↓stp, vls, inf, frs, mark_eq, ↓reduceIte, Nat.reduceEqDiff, ite_tt, ite_ff, eq_self, and_true, true_and, and_self, implies_true, Bool.true_eq_false, Bool.false_eq_true, decide_true, decide_false, decide_eq_true_eq, decide_eq_false_iff_not, ne_eq, not_true_eq_false, not_false_eq_true, Bool.not_eq_true', Bool.not_eq_false', beq_self_eq_true, Bool.not_true, Bool.not_false, List.getElem?_toArray, List.getElem?_cons_zero, List.getElem?_cons_succ, h1, h3, h4, h5, h6]
      refine adraw_items [.q 0, .l 1 false, .q 2, .l 3 false, .q 4, .q 5, .l 6 false, .c 7 [], .q 8] (by kernel_rfl) (by kernel_rfl) ?_
      simp (disch := omega) only [↓stp, ↓pln, plv, nilOk, Nat.reduceBEq, Bool.or_false, Bool.or_true, Bool.false_or, Bool.true_or, vls, inf, frs, mark_eq, ↓reduceIte, Nat.reduceEqDiff, ite_tt, ite_ff, eq_self, and_true, true_and, and_self, implies_true, Bool.true_eq_false, Bool.false_eq_true, decide_true, decide_false, decide_eq_true_eq, decide_eq_false_iff_not, ne_eq, not_true_eq_false, not_false_eq_true, Bool.not_eq_true', Bool.not_eq_false', beq_self_eq_true, Bool.not_true, Bool.not_false, List.getElem?_toArray, List.getElem?_cons_zero, List.getElem?_cons_succ, h1, h3, h4, h5, h6, add_at, k0, m2, kk]
      refine (spec_fixtureAt_c V _ x.1 _ (g0.mono l.ext)).mono ?_
      rintro _ V ⟨rfl, rfl⟩
      simp (disch := omega) only [↓stp, ↓pln, plv, nilOk, Nat.reduceBEq, Bool.or_false, Bool.or_true, Bool.false_or, Bool.true_or, vls, inf, frs, mark_eq, ↓reduceIte, Nat.reduceEqDiff, ite_tt, ite_ff, eq_self, and_true, true_and, and_self, implies_true, Bool.true_eq_false, Bool.false_eq_true, decide_true, decide_false, decide_eq_true_eq, decide_eq_false_iff_not, ne_eq, not_true_eq_false, not_false_eq_true, Bool.not_eq_true', Bool.not_eq_false', beq_self_eq_true, Bool.not_true, Bool.not_false, List.getElem?_toArray, List.getElem?_cons_zero, List.getElem?_cons_succ, h1, h3, h4, h5, h6, add_at, k0, m2, kk]
      refine ⟨fun e2 => ?_, fun e2 => ?_⟩ <;> simp (disch := omega) only [↓stp, vls, inf, frs, mark_eq, ↓reduceIte, Nat.reduceEqDiff, ite_tt, ite_ff, eq_self, and_true, true_and, and_self, implies_true, Bool.true_eq_false, Bool.false_eq_true, decide_true, decide_false, decide_eq_true_eq, decide_eq_false_iff_not, ne_eq, not_true_eq_false, not_false_eq_true, Bool.not_eq_true', Bool.not_eq_false', beq_self_eq_true, Bool.not_true, Bool.not_false, List.getElem?_toArray, List.getElem?_cons_zero, List.getElem?_cons_succ, h1, h3, h4, h5, h6]
      · refine adraw_items [.q 0, .q 1, .l 2 false, .q 3, .l 4 false, .q 5, .q 6, .l 7 false, .q 8, .c 9 [], .c 10 [], .q 11] (by kernel_rfl) (by kernel_rfl) ?_
        simp (disch := omega) only [↓stp, ↓pln, plv, nilOk, Nat.reduceBEq, Bool.or_false, Bool.or_true, Bool.false_or, Bool.true_or, vls, inf, frs, mark_eq, ↓reduceIte, Nat.reduceEqDiff, ite_tt, ite_ff, eq_self, and_true, true_and, and_self, implies_true, Bool.true_eq_false, Bool.false_eq_true, decide_true, decide_false, decide_eq_true_eq, decide_eq_false_iff_not, ne_eq, not_true_eq_false, not_false_eq_true, Bool.not_eq_true', Bool.not_eq_false', beq_self_eq_true, Bool.not_true, Bool.not_false, List.getElem?_toArray, List.getElem?_cons_zero, List.getElem?_cons_succ, h1, h3, h4, h5, h6, add_at, m0, m2, kk]
        refine led_lit li28 (by omega) rfl (fun p hp => by rcases List.mem_singleton.1 hp with rfl; exact ⟨rfl, rfl⟩) l fun bl V3 he3 l => ?_
        have m0 := l.cell (i := 2) rfl (o := 0) rfl rfl
        have m2 := l.cell (i := 2) rfl (o := 2) rfl rfl
        have kk := he3.cell kk
        simp (disch := omega) only [↓stp, ↓pln, plv, nilOk, Nat.reduceBEq, Bool.or_false, Bool.or_true, Bool.false_or, Bool.true_or, vls, inf, frs, mark_eq, ↓reduceIte, Nat.reduceEqDiff, ite_tt, ite_ff, eq_self, and_true, true_and, and_self, implies_true, Bool.true_eq_false, Bool.false_eq_true, decide_true, decide_false, decide_eq_true_eq, decide_eq_false_iff_not, ne_eq, not_true_eq_false, not_false_eq_true, Bool.not_eq_true', Bool.not_eq_false', beq_self_eq_true, Bool.not_true, Bool.not_false, List.getElem?_toArray, List.getElem?_cons_zero, List.getElem?_cons_succ, h1, h3, h4, h5, h6, add_at, m0, m2, kk, false_implies]
        refine led_app (O := problemO) ap28_28 (by decide) l (i := 1) rfl (l.src1 (S := problemS) (j := 0) rfl (problemS_mk (x := (0, (x.1[i]).1, (x.1[i]).2.2.1[k], ())) (show (-9223372036854775808 : Int) ≤ 0 ∧ (0 : Int) < 9223372036854775808 from ⟨by decide, by decide⟩) z1 zk)) (by rw [List.length_singleton]; omega) fun fp2 w2 V4 _ l => ?_
        have m0 := l.cell (i := 2) rfl (o := 0) rfl rfl
        have m2 := l.cell (i := 2) rfl (o := 2) rfl rfl
        obtain ⟨_, hq, kk, _⟩ := (f2.mono l.ext).str hltk
        obtain rfl := Option.some.inj hq
        simp (disch := omega) only [↓stp, ↓pln, plv, nilOk, Nat.reduceBEq, Bool.or_false, Bool.or_true, Bool.false_or, Bool.true_or, vls, inf, frs, mark_eq, ↓reduceIte, Nat.reduceEqDiff, ite_tt, ite_ff, eq_self, and_true, true_and, and_self, implies_true, Bool.true_eq_false, Bool.false_eq_true, decide_true, decide_false, decide_eq_true_eq, decide_eq_false_iff_not, ne_eq, not_true_eq_false, not_false_eq_true, Bool.not_eq_true', Bool.not_eq_false', beq_self_eq_true, Bool.not_true, Bool.not_false, List.getElem?_toArray, List.getElem?_cons_zero, List.getElem?_cons_succ, h1, h3, h4, h5, h6, add_at, m0, m2, kk, false_implies]
        have l2 : Led A [osl 35 problemO fp2 w2 (out0 ++ ((x.1[i]).2.2.1.take (k + 1)).flatMap (prNeed x.1 x.1[i])), bx q5 ⟨33, [.string (x.1[i]).1, .int .i64 (x.1[i]).2.1, .slice (some ad2) (x.1[i]).2.2.1.length c2, .bool (x.1[i]).2.2.2.1], 4, true⟩, bx q ⟨26, [.slice (some ad) x.1.length c0, .slice a1 x.2.1.length c1], 2, true⟩] V4 := by
          rw [hst, ← List.append_assoc]
          rw [show prNeed x.1 x.1[i] (x.1[i]).2.2.1[k] = [(0, (x.1[i]).1, (x.1[i]).2.2.1[k], ())] by unfold prNeed; rw [if_pos e2]]
          exact l.tail
        exact ⟨_, by omega, k + 1, _, _, by omega, rfl, l2, rfl, rfl⟩
      · obtain ⟨j, hj, hjl, _, hsc, _⟩ := scope_idx (fs := x.1) (a := (x.1[i]).2.2.1[k]) (by omega)
        obtain ⟨ad3, u3, hq, hcl3, _⟩ := g0.fixture hjl
        obtain rfl := Option.some.inj hq
        have s1 := View.part_cell (l.ext.part hcl3) (j := 1) rfl
        rw [hj]
        refine adraw_items [.q 0, .l 1 false, .q 2, .q 3, .q 4, .l 5 false, .q 6, .l 7 false, .q 8, .q 9] (by kernel_rfl) (by kernel_rfl) ?_
        simp (disch := omega) only [↓stp, ↓pln, plv, nilOk, Nat.reduceBEq, Bool.or_false, Bool.or_true, Bool.false_or, Bool.true_or, vls, inf, frs, mark_eq, ↓reduceIte, Nat.reduceEqDiff, ite_tt, ite_ff, eq_self, and_true, true_and, and_self, implies_true, Bool.true_eq_false, Bool.false_eq_true, decide_true, decide_false, decide_eq_true_eq, decide_eq_false_iff_not, ne_eq, not_true_eq_false, not_false_eq_true, Bool.not_eq_true', Bool.not_eq_false', beq_self_eq_true, Bool.not_true, Bool.not_false, List.getElem?_toArray, List.getElem?_cons_zero, List.getElem?_cons_succ, h1, h3, h4, h5, h6, add_at, k0, m1, s1]
        refine ⟨fun e3 => ?_, fun e3 => ?_⟩ <;> simp (disch := omega) only [↓stp, vls, inf, frs, mark_eq, ↓reduceIte, Nat.reduceEqDiff, ite_tt, ite_ff, eq_self, and_true, true_and, and_self, implies_true, Bool.true_eq_false, Bool.false_eq_true, decide_true, decide_false, decide_eq_true_eq, decide_eq_false_iff_not, ne_eq, not_true_eq_false, not_false_eq_true, Bool.not_eq_true', Bool.not_eq_false', beq_self_eq_true, Bool.not_true, Bool.not_false, List.getElem?_toArray, List.getElem?_cons_zero, List.getElem?_cons_succ, h1, h3, h4, h5, h6]
        · refine adraw_items [.q 0, .q 1, .l 2 false, .q 3, .l 4 false, .q 5, .q 6, .l 7 false, .q 8, .c 9 [], .c 10 [], .q 11] (by kernel_rfl) (by kernel_rfl) ?_
          simp (disch := omega) only [↓stp, ↓pln, plv, nilOk, Nat.reduceBEq, Bool.or_false, Bool.or_true, Bool.false_or, Bool.true_or, vls, inf, frs, mark_eq, ↓reduceIte, Nat.reduceEqDiff, ite_tt, ite_ff, eq_self, and_true, true_and, and_self, implies_true, Bool.true_eq_false, Bool.false_eq_true, decide_true, decide_false, decide_eq_true_eq, decide_eq_false_iff_not, ne_eq, not_true_eq_false, not_false_eq_true, Bool.not_eq_true', Bool.not_eq_false', beq_self_eq_true, Bool.not_true, Bool.not_false, List.getElem?_toArray, List.getElem?_cons_zero, List.getElem?_cons_succ, h1, h3, h4, h5, h6, add_at, m0, m2, kk]
          refine led_lit li28 (by omega) rfl (fun p hp => by rcases List.mem_singleton.1 hp with rfl; exact ⟨rfl, rfl⟩) l fun bl V3 he3 l => ?_
          have m0 := l.cell (i := 2) rfl (o := 0) rfl rfl
          have m2 := l.cell (i := 2) rfl (o := 2) rfl rfl
          have kk := he3.cell kk
          simp (disch := omega) only [↓stp, ↓pln, plv, nilOk, Nat.reduceBEq, Bool.or_false, Bool.or_true, Bool.false_or, Bool.true_or, vls, inf, frs, mark_eq, ↓reduceIte, Nat.reduceEqDiff, ite_tt, ite_ff, eq_self, and_true, true_and, and_self, implies_true, Bool.true_eq_false, Bool.false_eq_true, decide_true, decide_false, decide_eq_true_eq, decide_eq_false_iff_not, ne_eq, not_true_eq_false, not_false_eq_true, Bool.not_eq_true', Bool.not_eq_false', beq_self_eq_true, Bool.not_true, Bool.not_false, List.getElem?_toArray, List.getElem?_cons_zero, List.getElem?_cons_succ, h1, h3, h4, h5, h6, add_at, m0, m2, kk, false_implies]
          refine led_app (O := problemO) ap28_28 (by decide) l (i := 1) rfl (l.src1 (S := problemS) (j := 0) rfl (problemS_mk (x := (1, (x.1[i]).1, (x.1[i]).2.2.1[k], ())) (show (-9223372036854775808 : Int) ≤ 1 ∧ (1 : Int) < 9223372036854775808 from ⟨by decide, by decide⟩) z1 zk)) (by rw [List.length_singleton]; omega) fun fp2 w2 V4 _ l => ?_
          have m0 := l.cell (i := 2) rfl (o := 0) rfl rfl
          have m2 := l.cell (i := 2) rfl (o := 2) rfl rfl
          obtain ⟨_, hq, kk, _⟩ := (f2.mono l.ext).str hltk
          obtain rfl := Option.some.inj hq
          simp (disch := omega) only [↓stp, ↓pln, plv, nilOk, Nat.reduceBEq, Bool.or_false, Bool.or_true, Bool.false_or, Bool.true_or, vls, inf, frs, mark_eq, ↓reduceIte, Nat.reduceEqDiff, ite_tt, ite_ff, eq_self, and_true, true_and, and_self, implies_true, Bool.true_eq_false, Bool.false_eq_true, decide_true, decide_false, decide_eq_true_eq, decide_eq_false_iff_not, ne_eq, not_true_eq_false, not_false_eq_true, Bool.not_eq_true', Bool.not_eq_false', beq_self_eq_true, Bool.not_true, Bool.not_false, List.getElem?_toArray, List.getElem?_cons_zero, List.getElem?_cons_succ, h1, h3, h4, h5, h6, add_at, m0, m2, kk, false_implies]
          have l2 : Led A [osl 35 problemO fp2 w2 (out0 ++ ((x.1[i]).2.2.1.take (k + 1)).flatMap (prNeed x.1 x.1[i])), bx q5 ⟨33, [.string (x.1[i]).1, .int .i64 (x.1[i]).2.1, .slice (some ad2) (x.1[i]).2.2.1.length c2, .bool (x.1[i]).2.2.2.1], 4, true⟩, bx q ⟨26, [.slice (some ad) x.1.length c0, .slice a1 x.2.1.length c1], 2, true⟩] V4 := by
            rw [hst, ← List.append_assoc]
            rw [show prNeed x.1 x.1[i] (x.1[i]).2.2.1[k] = [(1, (x.1[i]).1, (x.1[i]).2.2.1[k], ())] by unfold prNeed; rw [if_neg (by omega), hsc, if_pos e3]]
            exact l.tail
          exact ⟨_, by omega, k + 1, _, _, by omega, rfl, l2, rfl, rfl⟩
        · have l2 : Led A [osl 35 problemO fp w (out0 ++ ((x.1[i]).2.2.1.take (k + 1)).flatMap (prNeed x.1 x.1[i])), bx q5 ⟨33, [.string (x.1[i]).1, .int .i64 (x.1[i]).2.1, .slice (some ad2) (x.1[i]).2.2.1.length c2, .bool (x.1[i]).2.2.2.1], 4, true⟩, bx q ⟨26, [.slice (some ad) x.1.length c0, .slice a1 x.2.1.length c1], 2, true⟩] V := by
            rw [hst, ← List.append_assoc]
            rw [show prNeed x.1 x.1[i] (x.1[i]).2.2.1[k] = [] by unfold prNeed; rw [if_neg (by omega), hsc, if_neg e3], List.append_nil]
            exact l
          exact ⟨_, by omega, k + 1, _, _, by omega, rfl, l2, rfl, rfl⟩
    · have hFi : hasF x.1 (x.1[i]).1 := List.mem_map.2 ⟨_, List.getElem_mem hlt, rfl⟩
      simp (disch := omega) only [↓stp, vls, inf, frs, mark_eq, ↓reduceIte, Nat.reduceEqDiff, ite_tt, ite_ff, eq_self, and_true, true_and, and_self, implies_true, Bool.true_eq_false, Bool.false_eq_true, decide_true, decide_false, decide_eq_true_eq, decide_eq_false_iff_not, ne_eq, not_true_eq_false, not_false_eq_true, Bool.not_eq_true', Bool.not_eq_false', beq_self_eq_true, Bool.not_true, Bool.not_false, List.getElem?_toArray, List.getElem?_cons_zero, List.getElem?_cons_succ, h1, h3, h4, h5, h6, add_at, m0, kp]
      rw [List.take_of_length_le (by omega)] at l
      have hout2 : (out0 ++ (x.1[i]).2.2.1.flatMap (prNeed x.1 x.1[i])).length ≤ 34 := by
        have := flatMap_le (prNeed_len x.1 x.1[i]) (x.1[i]).2.2.1
        rw [List.length_append]
        omega
      have hfx : prFix x.1 x.1[i] = (x.1[i]).2.2.1.flatMap (prNeed x.1 x.1[i]) ++ (if circB x.1 (x.1[i]).1 then [(2, (x.1[i]).1, (x.1[i]).1, ())] else []) := rfl
      generalize (x.1[i]).2.2.1.flatMap (prNeed x.1 x.1[i]) = out1 at l hout2 hfx
      refine (spec_circular_c V _ x _ (suiteS_mk (g0.mono l.ext) (g1.mono l.ext)) (by omega) z1 hFi).mono ?_
      rintro _ V2 ⟨rfl, he2⟩
      replace l := l.step he2
      have m0 := l.cell (i := 1) rfl (o := 0) rfl rfl
      simp (disch := omega) only [↓stp, vls, inf, frs, mark_eq, ↓reduceIte, Nat.reduceEqDiff, ite_tt, ite_ff, eq_self, and_true, true_and, and_self, implies_true, Bool.true_eq_false, Bool.false_eq_true, decide_true, decide_false, decide_eq_true_eq, decide_eq_false_iff_not, ne_eq, not_true_eq_false, not_false_eq_true, Bool.not_eq_true', Bool.not_eq_false', beq_self_eq_true, Bool.not_true, Bool.not_false, List.getElem?_toArray, List.getElem?_cons_zero, List.getElem?_cons_succ, h1, h3, h4, h5, h6]
      refine ⟨fun e3 => ?_, fun e3 => ?_⟩ <;> simp (disch := omega) only [↓stp, vls, inf, frs, mark_eq, ↓reduceIte, Nat.reduceEqDiff, ite_tt, ite_ff, eq_self, and_true, true_and, and_self, implies_true, Bool.true_eq_false, Bool.false_eq_true, decide_true, decide_false, decide_eq_true_eq, decide_eq_false_iff_not, ne_eq, not_true_eq_false, not_false_eq_true, Bool.not_eq_true', Bool.not_eq_false', beq_self_eq_true, Bool.not_true, Bool.not_false, List.getElem?_toArray, List.getElem?_cons_zero, List.getElem?_cons_succ, h1, h3, h4, h5, h6, add_at, m0]
      · refine led_lit li28 (by omega) rfl (fun p hp => by rcases List.mem_singleton.1 hp with rfl; exact ⟨rfl, rfl⟩) l fun bl V3 _ l => ?_
        simp (disch := omega) only [↓stp, vls, inf, frs, mark_eq, ↓reduceIte, Nat.reduceEqDiff, ite_tt, ite_ff, eq_self, and_true, true_and, and_self, implies_true, Bool.true_eq_false, Bool.false_eq_true, decide_true, decide_false, decide_eq_true_eq, decide_eq_false_iff_not, ne_eq, not_true_eq_false, not_false_eq_true, Bool.not_eq_true', Bool.not_eq_false', beq_self_eq_true, Bool.not_true, Bool.not_false, List.getElem?_toArray, List.getElem?_cons_zero, List.getElem?_cons_succ, h1, h3, h4, h5, h6]
        refine led_app (O := problemO) ap28_28 (by decide) l (i := 1) rfl (l.src1 (S := problemS) (j := 0) rfl (problemS_mk (x := (2, (x.1[i]).1, (x.1[i]).1, ())) (show (-9223372036854775808 : Int) ≤ 2 ∧ (2 : Int) < 9223372036854775808 from ⟨by decide, by decide⟩) z1 z1)) (by rw [List.length_singleton]; omega) fun fp2 w2 V4 _ l => ?_
        simp (disch := omega) only [↓stp, vls, inf, frs, mark_eq, ↓reduceIte, Nat.reduceEqDiff, ite_tt, ite_ff, eq_self, and_true, true_and, and_self, implies_true, Bool.true_eq_false, Bool.false_eq_true, decide_true, decide_false, decide_eq_true_eq, decide_eq_false_iff_not, ne_eq, not_true_eq_false, not_false_eq_true, Bool.not_eq_true', Bool.not_eq_false', beq_self_eq_true, Bool.not_true, Bool.not_false, List.getElem?_toArray, List.getElem?_cons_zero, List.getElem?_cons_succ, h1, h3, h4, h5, h6]
        have l2 : Led A [osl 35 problemO fp2 w2 ((x.1.take (i + 1)).flatMap (prFix x.1)), bx q ⟨26, [.slice (some ad) x.1.length c0, .slice a1 x.2.1.length c1], 2, true⟩] V4 := by
          rw [hft, hfx, if_pos e3, ← List.append_assoc]
          exact l.sub (.cons _ (.cons_cons _ (.cons _ (List.Sublist.refl _))))
        exact ⟨_, by omega, i + 1, _, _, by omega, rfl, l2, rfl, rfl⟩
      · have l2 : Led A [osl 35 problemO fp w ((x.1.take (i + 1)).flatMap (prFix x.1)), bx q ⟨26, [.slice (some ad) x.1.length c0, .slice a1 x.2.1.length c1], 2, true⟩] V2 := by
          rw [hft, hfx, if_neg (by rw [e3]; exact Bool.false_ne_true), List.append_nil]
          exact l.sub (.cons_cons _ (.cons _ (List.Sublist.refl _)))
        exact ⟨_, by omega, i + 1, _, _, by omega, rfl, l2, rfl, rfl⟩
  · rw [List.take_of_length_le (by omega)] at l
    have hoF : (x.1.flatMap (prFix x.1)).length ≤ 30 := by
      have := flatMap_le' (f := prFix x.1) (m := 5) x.1 fun f hf => prFix_len (hF.fs f hf).1
      omega
    have hpr : probR x = x.1.flatMap (prFix x.1) ++ x.2.1.flatMap (prTest x.1) := rfl
    generalize x.1.flatMap (prFix x.1) = out0 at l hoF hpr
    simp (disch := omega) only [↓stp, vls, inf, frs, mark_eq, ↓reduceIte, Nat.reduceEqDiff, ite_tt, ite_ff, eq_self, and_true, true_and, and_self, implies_true, Bool.true_eq_false, Bool.false_eq_true, decide_true, decide_false, decide_eq_true_eq, decide_eq_false_iff_not, ne_eq, not_true_eq_false, not_false_eq_true, Bool.not_eq_true', Bool.not_eq_false', beq_self_eq_true, Bool.not_true, Bool.not_false, List.getElem?_toArray, List.getElem?_cons_zero, List.getElem?_cons_succ, h1, h3, h4]
    refine aloop (fun d fr V => ∃ (j : Nat) (fp : List Nat) (w : Value), j ≤ x.2.1.length ∧ d = x.2.1.length - j ∧ Led A [osl 35 problemO fp w (out0 ++ (x.2.1.take j).flatMap (prTest x.1)), bx q ⟨26, [.slice a0 x.1.length c0, .slice a1 x.2.1.length c1], 2, true⟩] V ∧ fr 1 = .pointer (some ⟨q, 0, none⟩) ∧ fr 3 = w ∧ fr 8 = .int .i64 j) x.2.1.length ⟨0, _, _, by omega, by omega, by rw [List.take_zero, List.flatMap_nil, List.append_nil]; exact l, h1, h3, by rfl⟩ ?_
    clear l k0 h1 h3 h4
    rintro d fr V ⟨j, fp, w, hj, rfl, l, h1, h3, h8⟩
    have k0 := l.cell (i := 1) rfl (o := 0) rfl rfl
    have k1 := l.cell (i := 1) rfl (o := 1) rfl rfl
    simp (disch := omega) only [↓stp, vls, inf, frs, mark_eq, ↓reduceIte, Nat.reduceEqDiff, ite_tt, ite_ff, eq_self, and_true, true_and, and_self, implies_true, Bool.true_eq_false, Bool.false_eq_true, decide_true, decide_false, decide_eq_true_eq, decide_eq_false_iff_not, ne_eq, not_true_eq_false, not_false_eq_true, Bool.not_eq_true', Bool.not_eq_false', beq_self_eq_true, Bool.not_true, Bool.not_false, List.getElem?_toArray, List.getElem?_cons_zero, List.getElem?_cons_succ, h1, h3, h8, add_at, k1]
    refine ⟨fun e1 => ?_, fun e1 => ?_⟩
    · have hlt : j < x.2.1.length := by omega
      have hout : (out0 ++ (x.2.1.take j).flatMap (prTest x.1)).length ≤ 70 := by
        have := flatMap_le' (f := prTest x.1) (m := 4) (x.2.1.take j) fun f hf => prTest_len (hF.ts f (List.mem_of_mem_take hf)).2
        rw [List.length_take] at this
        rw [List.length_append]
        omega
      have hft := flatMap_take (prTest x.1) hlt
      obtain ⟨ad, u2, u3, rfl, hclA, z1, z2, f2, f3⟩ := g1.test hlt
      obtain ⟨a2, c2, rfl, _, _⟩ := f2.slice
      obtain ⟨a3, c3, rfl, _, _⟩ := f3.slice
      have hff := hF.ts _ (List.getElem_mem hlt)
      have hcl := View.part_cell (l.ext.part hclA) (j := 3) rfl
      simp (disch := omega) only [↓stp, vls, inf, frs, mark_eq, ↓reduceIte, Nat.reduceEqDiff, ite_tt, ite_ff, eq_self, and_true, true_and, and_self, implies_true, Bool.true_eq_false, Bool.false_eq_true, decide_true, decide_false, decide_eq_true_eq, decide_eq_false_iff_not, ne_eq, not_true_eq_false, not_false_eq_true, Bool.not_eq_true', Bool.not_eq_false', beq_self_eq_true, Bool.not_true, Bool.not_false, List.getElem?_toArray, List.getElem?_cons_zero, List.getElem?_cons_succ, h1, h3, h8, add_at, k1, hcl]
      generalize (x.2.1.take j).flatMap (prTest x.1) = out1 at l hout hft
      refine aloop (fun d fr V => ∃ (k : Nat) (fp : List Nat) (w : Value), k ≤ (x.2.1[j]).2.2.2.1.length ∧ d = (x.2.1[j]).2.2.2.1.length - k ∧ Led A [osl 35 problemO fp w (out0 ++ out1 ++ ((x.2.1[j]).2.2.2.1.take k).flatMap (prTestN x.1 x.2.1[j])), bx q ⟨26, [.slice a0 x.1.length c0, .slice (some ad) x.2.1.length c1], 2, true⟩] V ∧ fr 1 = .pointer (some ⟨q, 0, none⟩) ∧ fr 3 = w ∧ fr 8 = .int .i64 j ∧ fr 9 = .slice a3 (x.2.1[j]).2.2.2.1.length c3 ∧ fr 10 = .int .i64 k) (x.2.1[j]).2.2.2.1.length ⟨0, _, _, by omega, by omega, by rw [List.take_zero, List.flatMap_nil, List.append_nil]; exact l, h1, h3, h8, by rfl, by rfl⟩ ?_
      clear l k0 k1 hcl h1 h3 h8
      rintro d fr V ⟨k, fp, w, hk, rfl, l, h1, h3, h8, h9, h10⟩
      have k0 := l.cell (i := 1) rfl (o := 0) rfl rfl
      have k1 := l.cell (i := 1) rfl (o := 1) rfl rfl
      simp (disch := omega) only [↓stp, vls, inf, frs, mark_eq, ↓reduceIte, Nat.reduceEqDiff, ite_tt, ite_ff, eq_self, and_true, true_and, and_self, implies_true, Bool.true_eq_false, Bool.false_eq_true, decide_true, decide_false, decide_eq_true_eq, decide_eq_false_iff_not, ne_eq, not_true_eq_false, not_false_eq_true, Bool.not_eq_true', Bool.not_eq_false', beq_self_eq_true, Bool.not_true, Bool.not_false, List.getElem?_toArray, List.getElem?_cons_zero, List.getElem?_cons_succ, h1, h3, h8, h9, h10]
      refine ⟨fun e2 => ?_, fun e2 => ?_⟩
      · have hltk : k < (x.2.1[j]).2.2.2.1.length := by omega
        obtain ⟨ad2, rfl, kk, zk⟩ := (f3.mono l.ext).str hltk
        have hlen : (out0 ++ out1 ++ ((x.2.1[j]).2.2.2.1.take k).flatMap (prTestN x.1 x.2.1[j])).length ≤ 74 := by
          have := flatMap_le (prTestN_len x.1 x.2.1[j]) ((x.2.1[j]).2.2.2.1.take k)
          rw [List.length_take] at this
          rw [List.length_append]
          omega
        have hst := flatMap_take (prTestN x.1 x.2.1[j]) hltk
        simp (disch := omega) only [↓stp, vls, inf, frs, mark_eq, ↓reduceIte, Nat.reduceEqDiff, ite_tt, ite_ff, eq_self, and_true, true_and, and_self, implies_true, Bool.true_eq_false, Bool.false_eq_true, decide_true, decide_false, decide_eq_true_eq, decide_eq_false_iff_not, ne_eq, not_true_eq_false, not_false_eq_true, Bool.not_eq_true', Bool.not_eq_false', beq_self_eq_true, Bool.not_true, Bool.not_false, List.getElem?_toArray, List.getElem?_cons_zero, List.getElem?_cons_succ, h1, h3, h8, h9, h10]
        refine adraw_items [.q 0, .l 1 false, .q 2, .q 3, .q 4, .l 5 false, .c 6 [], .q 7] (by kernel_rfl) (by kernel_rfl) ?_
        simp (disch := omega) only [↓stp, ↓pln, plv, nilOk, Nat.reduceBEq, Bool.or_false, Bool.or_true, Bool.false_or, Bool.true_or, vls, inf, frs, mark_eq, ↓reduceIte, Nat.reduceEqDiff, ite_tt, ite_ff, eq_self, and_true, true_and, and_self, implies_true, Bool.true_eq_false, Bool.false_eq_true, decide_true, decide_false, decide_eq_true_eq, decide_eq_false_iff_not, ne_eq, not_true_eq_false, not_false_eq_true, Bool.not_eq_true', Bool.not_eq_false', beq_self_eq_true, Bool.not_true, Bool.not_false, List.getElem?_toArray, List.getElem?_cons_zero, List.getElem?_cons_succ, h1, h3, h8, h9, h10, add_at, k0, kk]
        refine (spec_fixtureAt_c V _ x.1 _ (g0.mono l.ext)).mono ?_
        rintro _ V ⟨rfl, rfl⟩
        simp (disch := omega) only [↓stp, ↓pln, plv, nilOk, Nat.reduceBEq, Bool.or_false, Bool.or_true, Bool.false_or, Bool.true_or, vls, inf, frs, mark_eq, ↓reduceIte, Nat.reduceEqDiff, ite_tt, ite_ff, eq_self, and_true, true_and, and_self, implies_true, Bool.true_eq_false, Bool.false_eq_true, decide_true, decide_false, decide_eq_true_eq, decide_eq_false_iff_not, ne_eq, not_true_eq_false, not_false_eq_true, Bool.not_eq_true', Bool.not_eq_false', beq_self_eq_true, Bool.not_true, Bool.not_false, List.getElem?_toArray, List.getElem?_cons_zero, List.getElem?_cons_succ, h1, h3, h8, h9, h10, add_at, k0, kk]
        refine ⟨fun e3 => ?_, fun e3 => ?_⟩ <;> simp (disch := omega) only [↓stp, vls, inf, frs, mark_eq, ↓reduceIte, Nat.reduceEqDiff, ite_tt, ite_ff, eq_self, and_true, true_and, and_self, implies_true, Bool.true_eq_false, Bool.false_eq_true, decide_true, decide_false, decide_eq_true_eq, decide_eq_false_iff_not, ne_eq, not_true_eq_false, not_false_eq_true, Bool.not_eq_true', Bool.not_eq_false', beq_self_eq_true, Bool.not_true, Bool.not_false, List.getElem?_toArray, List.getElem?_cons_zero, List.getElem?_cons_succ, h1, h3, h8, h9, h10]
        · have ktt := l.ext.part hclA
          refine adraw_items [.q 0, .q 1, .l 2 false, .q 3, .q 4, .l 5 false, .q 7, .q 8, .q 9, .l 10 true, .c 6 [10], .q 11, .c 12 [], .c 13 [], .q 14] (by kernel_rfl) (by kernel_rfl) ?_
          simp (disch := omega) only [↓stp, ↓pln, plv, nilOk, Nat.reduceBEq, Bool.or_false, Bool.or_true, Bool.false_or, Bool.true_or, vls, inf, frs, mark_eq, ↓reduceIte, Nat.reduceEqDiff, ite_tt, ite_ff, eq_self, and_true, true_and, and_self, implies_true, Bool.true_eq_false, Bool.false_eq_true, decide_true, decide_false, decide_eq_true_eq, decide_eq_false_iff_not, ne_eq, not_true_eq_false, not_false_eq_true, Bool.not_eq_true', Bool.not_eq_false', beq_self_eq_true, Bool.not_true, Bool.not_false, List.getElem?_toArray, List.getElem?_cons_zero, List.getElem?_cons_succ, h1, h3, h8, h9, h10, add_at, k1, ktt, kk]
          refine (spec_idOf_c V _ x.2.1[j] (testS_mk z1 z2 (f2.mono l.ext) (f3.mono l.ext))).mono ?_
          rintro _ V2 ⟨rfl, he3⟩
          replace l := l.step he3
          have k1 := l.cell (i := 1) rfl (o := 1) rfl rfl
          have ktt := he3.part ktt
          have kk := he3.cell kk
          simp (disch := omega) only [↓stp, ↓pln, plv, nilOk, Nat.reduceBEq, Bool.or_false, Bool.or_true, Bool.false_or, Bool.true_or, vls, inf, frs, mark_eq, ↓reduceIte, Nat.reduceEqDiff, ite_tt, ite_ff, eq_self, and_true, true_and, and_self, implies_true, Bool.true_eq_false, Bool.false_eq_true, decide_true, decide_false, decide_eq_true_eq, decide_eq_false_iff_not, ne_eq, not_true_eq_false, not_false_eq_true, Bool.not_eq_true', Bool.not_eq_false', beq_self_eq_true, Bool.not_true, Bool.not_false, List.getElem?_toArray, List.getElem?_cons_zero, List.getElem?_cons_succ, h1, h3, h8, h9, h10, add_at, k1, ktt, kk]
          refine led_lit li28 (by omega) rfl (fun p hp => by rcases List.mem_singleton.1 hp with rfl; exact ⟨rfl, rfl⟩) l fun bl V3 he4 l => ?_
          have k1 := l.cell (i := 2) rfl (o := 1) rfl rfl
          have ktt := he4.part ktt
          have kk := he4.cell kk
          simp (disch := omega) only [↓stp, ↓pln, plv, nilOk, Nat.reduceBEq, Bool.or_false, Bool.or_true, Bool.false_or, Bool.true_or, vls, inf, frs, mark_eq, ↓reduceIte, Nat.reduceEqDiff, ite_tt, ite_ff, eq_self, and_true, true_and, and_self, implies_true, Bool.true_eq_false, Bool.false_eq_true, decide_true, decide_false, decide_eq_true_eq, decide_eq_false_iff_not, ne_eq, not_true_eq_false, not_false_eq_true, Bool.not_eq_true', Bool.not_eq_false', beq_self_eq_true, Bool.not_true, Bool.not_false, List.getElem?_toArray, List.getElem?_cons_zero, List.getElem?_cons_succ, h1, h3, h8, h9, h10, add_at, k1, ktt, kk, false_implies]
          refine led_app (O := problemO) ap28_28 (by decide) l (i := 1) rfl (l.src1 (S := problemS) (j := 0) rfl (problemS_mk (x := (0, idD x.2.1[j], (x.2.1[j]).2.2.2.1[k], ())) (show (-9223372036854775808 : Int) ≤ 0 ∧ (0 : Int) < 9223372036854775808 from ⟨by decide, by decide⟩) (by have := testB_id hff.1; show (idD x.2.1[j]).size ≤ _; omega) zk)) (by rw [List.length_singleton]; omega) fun fp2 w2 V4 _ l => ?_
          have k1 := l.cell (i := 2) rfl (o := 1) rfl rfl
          have ktt := l.ext.part hclA
          obtain ⟨_, hq, kk, _⟩ := (f3.mono l.ext).str hltk
          obtain rfl := Option.some.inj hq
          simp (disch := omega) only [↓stp, ↓pln, plv, nilOk, Nat.reduceBEq, Bool.or_false, Bool.or_true, Bool.false_or, Bool.true_or, vls, inf, frs, mark_eq, ↓reduceIte, Nat.reduceEqDiff, ite_tt, ite_ff, eq_self, and_true, true_and, and_self, implies_true, Bool.true_eq_false, Bool.false_eq_true, decide_true, decide_false, decide_eq_true_eq, decide_eq_false_iff_not, ne_eq, not_true_eq_false, not_false_eq_true, Bool.not_eq_true', Bool.not_eq_false', beq_self_eq_true, Bool.not_true, Bool.not_false, List.getElem?_toArray, List.getElem?_cons_zero, List.getElem?_cons_succ, h1, h3, h8, h9, h10, add_at, k1, ktt, kk, false_implies]
          have l2 : Led A [osl 35 problemO fp2 w2 (out0 ++ out1 ++ ((x.2.1[j]).2.2.2.1.take (k + 1)).flatMap (prTestN x.1 x.2.1[j])), bx q ⟨26, [.slice a0 x.1.length c0, .slice (some ad) x.2.1.length c1], 2, true⟩] V4 := by
            rw [hst, ← List.append_assoc]
            rw [show prTestN x.1 x.2.1[j] (x.2.1[j]).2.2.2.1[k] = [(0, idD x.2.1[j], (x.2.1[j]).2.2.2.1[k], ())] by unfold prTestN; rw [if_pos e3]]
            exact l.tail
          exact ⟨_, by omega, k + 1, _, _, by omega, rfl, l2, rfl, rfl⟩
        · have l2 : Led A [osl 35 problemO fp w (out0 ++ out1 ++ ((x.2.1[j]).2.2.2.1.take (k + 1)).flatMap (prTestN x.1 x.2.1[j])), bx q ⟨26, [.slice a0 x.1.length c0, .slice (some ad) x.2.1.length c1], 2, true⟩] V := by
            rw [hst, ← List.append_assoc]
            rw [show prTestN x.1 x.2.1[j] (x.2.1[j]).2.2.2.1[k] = [] by unfold prTestN; rw [if_neg (by omega)], List.append_nil]
            exact l
          exact ⟨_, by omega, k + 1, _, _, by omega, rfl, l2, rfl, rfl⟩
      · simp (disch := omega) only [↓stp, vls, inf, frs, mark_eq, ↓reduceIte, Nat.reduceEqDiff, ite_tt, ite_ff, eq_self, and_true, true_and, and_self, implies_true, Bool.true_eq_false, Bool.false_eq_true, decide_true, decide_false, decide_eq_true_eq, decide_eq_false_iff_not, ne_eq, not_true_eq_false, not_false_eq_true, Bool.not_eq_true', Bool.not_eq_false', beq_self_eq_true, Bool.not_true, Bool.not_false, List.getElem?_toArray, List.getElem?_cons_zero, List.getElem?_cons_succ, h1, h3, h8, h9, h10]
        rw [List.take_of_length_le (by omega)] at l
        have l2 : Led A [osl 35 problemO fp w (out0 ++ (x.2.1.take (j + 1)).flatMap (prTest x.1)), bx q ⟨26, [.slice a0 x.1.length c0, .slice (some ad) x.2.1.length c1], 2, true⟩] V := by
          rw [hft, ← List.append_assoc]
          exact l
        exact ⟨_, by omega, j + 1, _, _, by omega, rfl, l2, rfl, rfl⟩
    · rw [List.take_of_length_le (by omega)] at l
      rw [hpr]
      simp (disch := omega) only [↓stp, vls, inf, frs, mark_eq, ↓reduceIte, Nat.reduceEqDiff, ite_tt, ite_ff, eq_self, and_true, true_and, and_self, implies_true, Bool.true_eq_false, Bool.false_eq_true, decide_true, decide_false, decide_eq_true_eq, decide_eq_false_iff_not, ne_eq, not_true_eq_false, not_false_eq_true, Bool.not_eq_true', Bool.not_eq_false', beq_self_eq_true, Bool.not_true, Bool.not_false, List.getElem?_toArray, List.getElem?_cons_zero, List.getElem?_cons_succ, h1, h3, h8]
      exact NewSl.of l (i := 0) rfl

end Go.Proofs.Ytjojofnkgeiadaa

