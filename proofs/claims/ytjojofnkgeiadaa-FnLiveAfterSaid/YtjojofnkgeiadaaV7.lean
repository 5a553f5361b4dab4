/- What is wrong with a suite: the program. -/
import Derived.Test.YtjojofnkgeiadaaV6
import Derived.Test.YtjojofnkgeiadaaQ1
set_option maxHeartbeats 4000000
set_option synthInstance.maxHeartbeats 400000
set_option synthInstance.maxSize 4096
set_option linter.unusedSimpArgs false
set_option linter.unusedVariables false
namespace Go.Proofs.Ytjojofnkgeiadaa

set_option maxRecDepth 100000

theorem addN_len (ns : List ByteArray) : ∀ r : List ByteArray, (addN r ns).length ≤ r.length + ns.length := by
  induction ns with
  | nil => intro r; exact Nat.le_refl _
  | cons n ns ih =>
    intro r
    rw [addN_cons, List.length_cons]
    have h1 := ih (if n ∈ r then r else r ++ [n])
    have h2 : (if n ∈ r then r else r ++ [n]).length ≤ r.length + 1 := by
      split
      · omega
      · rw [List.length_append, List.length_singleton]
        omega
    omega

theorem flatMap_take {α β : Type} (f : α → List β) {xs : List α} {i : Nat} (h : i < xs.length) : (xs.take (i + 1)).flatMap f = (xs.take i).flatMap f ++ f xs[i] := by
  rw [List.take_succ_eq_append_getElem h, List.flatMap_append]
  simp

theorem impl_problems_c (A : View) (d : List Value) (x : SuiteD) (hx : suiteS.rel A x d) (hF : Formed x) : ACalls Try.prog 51 #[.agg d.toArray] A fun r V => NewSl 35 problemO A r V (probR x) := by
  obtain ⟨u0, u1, rfl, g0, g1⟩ := suiteS_open hx
  obtain ⟨a0, c0, rfl, _, _⟩ := g0.slice
  obtain ⟨a1, c1, rfl, _, _⟩ := g1.slice
  have hfl := hF.fl
  have htl := hF.tl
  refine acalls Try.func51 rfl (by kernel_rfl) ?_
  simp (disch := omega) only [↓stp, vls, inf, frs, mark_eq, ↓reduceIte, Nat.reduceEqDiff, ite_tt, ite_ff, eq_self, and_true, true_and, and_self, implies_true, Bool.true_eq_false, Bool.false_eq_true, decide_true, decide_false, decide_eq_true_eq, decide_eq_false_iff_not, ne_eq, not_true_eq_false, not_false_eq_true, Bool.not_eq_true', Bool.not_eq_false', beq_self_eq_true, Bool.not_true, Bool.not_false, List.getElem?_toArray, List.getElem?_cons_zero, List.getElem?_cons_succ]
  refine led_box (Led.nil A) rfl fun q V he l => ?_
  simp (disch := omega) only [↓stp, vls, inf, frs, mark_eq, ↓reduceIte, Nat.reduceEqDiff, ite_tt, ite_ff, eq_self, and_true, true_and, and_self, implies_true, Bool.true_eq_false, Bool.false_eq_true, decide_true, decide_false, decide_eq_true_eq, decide_eq_false_iff_not, ne_eq, not_true_eq_false, not_false_eq_true, Bool.not_eq_true', Bool.not_eq_false', beq_self_eq_true, Bool.not_true, Bool.not_false, List.getElem?_toArray, List.getElem?_cons_zero, List.getElem?_cons_succ]
  refine led_lit0 (O := problemO) li28 l fun b1 V1 _ l => ?_
  have k0 := l.cell (i := 1) rfl (o := 0) rfl rfl
  simp (disch := omega) only [↓stp, vls, inf, frs, mark_eq, ↓reduceIte, Nat.reduceEqDiff, ite_tt, ite_ff, eq_self, and_true, true_and, and_self, implies_true, Bool.true_eq_false, Bool.false_eq_true, decide_true, decide_false, decide_eq_true_eq, decide_eq_false_iff_not, ne_eq, not_true_eq_false, not_false_eq_true, Bool.not_eq_true', Bool.not_eq_false', beq_self_eq_true, Bool.not_true, Bool.not_false, List.getElem?_toArray, List.getElem?_cons_zero, List.getElem?_cons_succ, add_at, k0]
  refine aloop (fun d fr V => ∃ (i : Nat) (fp : List Nat) (w : Value), i ≤ x.1.length ∧ d = x.1.length - i ∧ Led A [osl 35 problemO fp w ((x.1.take i).flatMap (prFix x.1)), bx q ⟨26, [.slice a0 x.1.length c0, .slice a1 x.2.1.length c1], 2, true⟩] V ∧ fr 1 = .pointer (some ⟨q, 0, none⟩) ∧ fr 3 = w ∧ fr 20 = .slice a0 x.1.length c0 ∧ fr 21 = .int .i64 x.1.length ∧ fr 22 = .int .i64 i) x.1.length ⟨0, _, _, by omega, by omega, l, by rfl, by rfl, by rfl, by rfl, by rfl⟩ ?_
  clear k0 l he
  rintro d fr V ⟨i, fp, w, hi, rfl, l, h1, h3, h20, h21, h22⟩
  simp (disch := omega) only [↓stp, vls, inf, frs, mark_eq, ↓reduceIte, Nat.reduceEqDiff, ite_tt, ite_ff, eq_self, and_true, true_and, and_self, implies_true, Bool.true_eq_false, Bool.false_eq_true, decide_true, decide_false, decide_eq_true_eq, decide_eq_false_iff_not, ne_eq, not_true_eq_false, not_false_eq_true, Bool.not_eq_true', Bool.not_eq_false', beq_self_eq_true, Bool.not_true, Bool.not_false, List.getElem?_toArray, List.getElem?_cons_zero, List.getElem?_cons_succ, h1, h3, h20, h21, h22]
  refine ⟨fun e => ?_, fun e => ?_⟩
  · have hlt : i < x.1.length := by omega
    have hout : ((x.1.take i).flatMap (prFix x.1)).length ≤ 30 := by
      have := flatMap_le' (f := prFix x.1) (m := 5) (x.1.take i) fun f hf => prFix_len (hF.fs f (List.mem_of_mem_take hf)).1
      rw [List.length_take] at this
      omega
    have hft := flatMap_take (prFix x.1) hlt
    obtain ⟨ad, u2, rfl, hclA, z1, z2, f2⟩ := g0.fixture hlt
    obtain ⟨a2, c2, rfl, _, _⟩ := f2.slice
    have hff := hF.fs _ (List.getElem_mem hlt)
    have hcl := l.ext.part hclA
    generalize (x.1.take i).flatMap (prFix x.1) = out0 at l hout hft
    simp (disch := omega) only [↓stp, vls, inf, frs, mark_eq, ↓reduceIte, Nat.reduceEqDiff, ite_tt, ite_ff, eq_self, and_true, true_and, and_self, implies_true, Bool.true_eq_false, Bool.false_eq_true, decide_true, decide_false, decide_eq_true_eq, decide_eq_false_iff_not, ne_eq, not_true_eq_false, not_false_eq_true, Bool.not_eq_true', Bool.not_eq_false', beq_self_eq_true, Bool.not_true, Bool.not_false, List.getElem?_toArray, List.getElem?_cons_zero, List.getElem?_cons_succ, h1, h3, h20, h21, h22, hcl]
    refine led_alloc zc33 l fun q5 V5 he5 l => ?_
    simp (disch := omega) only [↓stp, vls, inf, frs, mark_eq, ↓reduceIte, Nat.reduceEqDiff, ite_tt, ite_ff, eq_self, and_true, true_and, and_self, implies_true, Bool.true_eq_false, Bool.false_eq_true, decide_true, decide_false, decide_eq_true_eq, decide_eq_false_iff_not, ne_eq, not_true_eq_false, not_false_eq_true, Bool.not_eq_true', Bool.not_eq_false', beq_self_eq_true, Bool.not_true, Bool.not_false, List.getElem?_toArray, List.getElem?_cons_zero, List.getElem?_cons_succ, h1, h3, h20, h21, h22]
    refine led_storeAll l 0 rfl sz33 rfl rfl (by simp [Value.oneCell']) fun V6 l => ?_
    have m2 := l.cell (i := 0) rfl (o := 2) rfl rfl
    simp (disch := omega) only [↓stp, vls, inf, frs, mark_eq, ↓reduceIte, Nat.reduceEqDiff, ite_tt, ite_ff, eq_self, and_true, true_and, and_self, implies_true, Bool.true_eq_false, Bool.false_eq_true, decide_true, decide_false, decide_eq_true_eq, decide_eq_false_iff_not, ne_eq, not_true_eq_false, not_false_eq_true, Bool.not_eq_true', Bool.not_eq_false', beq_self_eq_true, Bool.not_true, Bool.not_false, List.getElem?_toArray, List.getElem?_cons_zero, List.getElem?_cons_succ, h1, h3, h20, h21, h22, add_at, m2]
    refine aloop (fun d fr V => ∃ (k : Nat) (fp : List Nat) (w : Value), k ≤ (x.1[i]).2.2.1.length ∧ d = (x.1[i]).2.2.1.length - k ∧ Led A [osl 35 problemO fp w (out0 ++ ((x.1[i]).2.2.1.take k).flatMap (prNeed x.1 x.1[i])), bx q5 ⟨33, [.string (x.1[i]).1, .int .i64 (x.1[i]).2.1, .slice a2 (x.1[i]).2.2.1.length c2, .bool (x.1[i]).2.2.2.1], 4, true⟩, bx q ⟨26, [.slice (some ad) x.1.length c0, .slice a1 x.2.1.length c1], 2, true⟩] V ∧ fr 1 = .pointer (some ⟨q, 0, none⟩) ∧ fr 3 = w ∧ fr 5 = .pointer (some ⟨q5, 0, none⟩) ∧ fr 20 = .slice (some ad) x.1.length c0 ∧ fr 21 = .int .i64 x.1.length ∧ fr 22 = .int .i64 i ∧ fr 27 = .slice a2 (x.1[i]).2.2.1.length c2 ∧ fr 28 = .int .i64 (x.1[i]).2.2.1.length ∧ fr 29 = .int .i64 k) (x.1[i]).2.2.1.length ⟨0, _, _, by omega, by omega, by rw [List.take_zero, List.flatMap_nil, List.append_nil]; exact l.perm (List.Perm.swap ..), h1, h3, by rfl, h20, h21, h22, by rfl, by rfl, by rfl⟩ ?_
    clear l m2 hcl h1 h3 h20 h21 h22
    rintro d fr V ⟨k, fp, w, hk, rfl, l, h1, h3, h5, h20, h21, h22, h27, h28, h29⟩
    have m0 := l.cell (i := 1) rfl (o := 0) rfl rfl
    have m1 := l.cell (i := 1) rfl (o := 1) rfl rfl
    have m2 := l.cell (i := 1) rfl (o := 2) rfl rfl
    have k0 := l.cell (i := 2) rfl (o := 0) rfl rfl
    have kp : V.part ⟨q, 0, none⟩ 2 = some _ := l.part (i := 2) rfl rfl
    simp (disch := omega) only [↓stp, vls, inf, frs, mark_eq, ↓reduceIte, Nat.reduceEqDiff, ite_tt, ite_ff, eq_self, and_true, true_and, and_self, implies_true, Bool.true_eq_false, Bool.false_eq_true, decide_true, decide_false, decide_eq_true_eq, decide_eq_false_iff_not, ne_eq, not_true_eq_false, not_false_eq_true, Bool.not_eq_true', Bool.not_eq_false', beq_self_eq_true, Bool.not_true, Bool.not_false, List.getElem?_toArray, List.getElem?_cons_zero, List.getElem?_cons_succ, h1, h3, h5, h20, h21, h22, h27, h28, h29]
    refine ⟨fun e1 => ?_, fun e1 => ?_⟩
    · have hltk : k < (x.1[i]).2.2.1.length := by omega
      obtain ⟨ad2, rfl, kk, zk⟩ := (f2.mono l.ext).str hltk
      simp (disch := omega) only [↓stp, vls, inf, frs, mark_eq, ↓reduceIte, Nat.reduceEqDiff, ite_tt, ite_ff, eq_self, and_true, true_and, and_self, implies_true, Bool.true_eq_false, Bool.false_eq_true, decide_true, decide_false, decide_eq_true_eq, decide_eq_false_iff_not, ne_eq, not_true_eq_false, not_false_eq_true, Bool.not_eq_true', Bool.not_eq_false', beq_self_eq_true, Bool.not_true, Bool.not_false, List.getElem?_toArray, List.getElem?_cons_zero, List.getElem?_cons_succ, h1, h3, h5, h20, h21, h22, h27, h28, h29, kk, kp]
      refine (impl_fixtureAt_c V _ x _ (suiteS_mk (g0.mono l.ext) (g1.mono l.ext))).mono ?_
      rintro _ V2 ⟨rfl, he2⟩
      replace l := l.step he2
      have m0 := l.cell (i := 1) rfl (o := 0) rfl rfl
      have m1 := l.cell (i := 1) rfl (o := 1) rfl rfl
      have k0 := l.cell (i := 2) rfl (o := 0) rfl rfl
      have hlen : (out0 ++ ((x.1[i]).2.2.1.take k).flatMap (prNeed x.1 x.1[i])).length ≤ 34 := by
        have := flatMap_le (prNeed_len x.1 x.1[i]) ((x.1[i]).2.2.1.take k)
        rw [List.length_take] at this
        rw [List.length_append]
        omega
      have hst := flatMap_take (prNeed x.1 x.1[i]) hltk
      simp (disch := omega) only [↓stp, vls, inf, frs, mark_eq, ↓reduceIte, Nat.reduceEqDiff, ite_tt, ite_ff, eq_self, and_true, true_and, and_self, implies_true, Bool.true_eq_false, Bool.false_eq_true, decide_true, decide_false, decide_eq_true_eq, decide_eq_false_iff_not, ne_eq, not_true_eq_false, not_false_eq_true, Bool.not_eq_true', Bool.not_eq_false', beq_self_eq_true, Bool.not_true, Bool.not_false, List.getElem?_toArray, List.getElem?_cons_zero, List.getElem?_cons_succ, h1, h3, h5, h20, h21, h22, h27, h28, h29]
      refine ⟨fun e2 => ?_, fun e2 => ?_⟩ <;> simp (disch := omega) only [↓stp, vls, inf, frs, mark_eq, ↓reduceIte, Nat.reduceEqDiff, ite_tt, ite_ff, eq_self, and_true, true_and, and_self, implies_true, Bool.true_eq_false, Bool.false_eq_true, decide_true, decide_false, decide_eq_true_eq, decide_eq_false_iff_not, ne_eq, not_true_eq_false, not_false_eq_true, Bool.not_eq_true', Bool.not_eq_false', beq_self_eq_true, Bool.not_true, Bool.not_false, List.getElem?_toArray, List.getElem?_cons_zero, List.getElem?_cons_succ, h1, h3, h5, h20, h21, h22, h27, h28, h29, add_at, m0]
      · refine led_lit li28 (by omega) rfl (fun p hp => by rcases List.mem_singleton.1 hp with rfl; exact ⟨rfl, rfl⟩) l fun bl V3 _ l => ?_
        simp (disch := omega) only [↓stp, vls, inf, frs, mark_eq, ↓reduceIte, Nat.reduceEqDiff, ite_tt, ite_ff, eq_self, and_true, true_and, and_self, implies_true, Bool.true_eq_false, Bool.false_eq_true, decide_true, decide_false, decide_eq_true_eq, decide_eq_false_iff_not, ne_eq, not_true_eq_false, not_false_eq_true, Bool.not_eq_true', Bool.not_eq_false', beq_self_eq_true, Bool.not_true, Bool.not_false, List.getElem?_toArray, List.getElem?_cons_zero, List.getElem?_cons_succ, h1, h3, h5, h20, h21, h22, h27, h28, h29]
        refine led_app (O := problemO) ap28_28 (by decide) l (i := 1) rfl (l.src1 (S := problemS) (j := 0) rfl (problemS_mk (x := (0, (x.1[i]).1, (x.1[i]).2.2.1[k], ())) (show (-9223372036854775808 : Int) ≤ 0 ∧ (0 : Int) < 9223372036854775808 from ⟨by decide, by decide⟩) z1 zk)) (by rw [List.length_singleton]; omega) fun fp2 w2 V4 _ l => ?_
        simp (disch := omega) only [↓stp, vls, inf, frs, mark_eq, ↓reduceIte, Nat.reduceEqDiff, ite_tt, ite_ff, eq_self, and_true, true_and, and_self, implies_true, Bool.true_eq_false, Bool.false_eq_true, decide_true, decide_false, decide_eq_true_eq, decide_eq_false_iff_not, ne_eq, not_true_eq_false, not_false_eq_true, Bool.not_eq_true', Bool.not_eq_false', beq_self_eq_true, Bool.not_true, Bool.not_false, List.getElem?_toArray, List.getElem?_cons_zero, List.getElem?_cons_succ, h1, h3, h5, h20, h21, h22, h27, h28, h29]
        have l2 : Led A [osl 35 problemO fp2 w2 (out0 ++ ((x.1[i]).2.2.1.take (k + 1)).flatMap (prNeed x.1 x.1[i])), bx q5 ⟨33, [.string (x.1[i]).1, .int .i64 (x.1[i]).2.1, .slice (some ad2) (x.1[i]).2.2.1.length c2, .bool (x.1[i]).2.2.2.1], 4, true⟩, bx q ⟨26, [.slice (some ad) x.1.length c0, .slice a1 x.2.1.length c1], 2, true⟩] V4 := by
          rw [hst, ← List.append_assoc]
          rw [show prNeed x.1 x.1[i] (x.1[i]).2.2.1[k] = [(0, (x.1[i]).1, (x.1[i]).2.2.1[k], ())] by unfold prNeed; rw [if_pos e2]]
          exact l.tail
        exact ⟨_, by omega, k + 1, _, _, by omega, rfl, l2, rfl, rfl⟩
      · obtain ⟨j, hj, hjl, _, hsc, _⟩ := scope_idx (fs := x.1) (a := (x.1[i]).2.2.1[k]) (by omega)
        obtain ⟨ad3, u3, hq, hcl3, _⟩ := g0.fixture hjl
        obtain rfl := Option.some.inj hq
        have s1 := View.part_cell (l.ext.part hcl3) (j := 1) rfl
        rw [hj]
        refine adraw_items [.q 0, .l 1 false, .q 2, .q 3, .q 4, .l 5 false, .q 6, .l 7 false, .q 8, .q 9] (by kernel_rfl) (by kernel_rfl) ?_
        simp (disch := omega) only [↓stp, ↓pln, plv, nilOk, Nat.reduceBEq, Bool.or_false, Bool.or_true, Bool.false_or, Bool.true_or, vls, inf, frs, mark_eq, ↓reduceIte, Nat.reduceEqDiff, ite_tt, ite_ff, eq_self, and_true, true_and, and_self, implies_true, Bool.true_eq_false, Bool.false_eq_true, decide_true, decide_false, decide_eq_true_eq, decide_eq_false_iff_not, ne_eq, not_true_eq_false, not_false_eq_true, Bool.not_eq_true', Bool.not_eq_false', beq_self_eq_true, Bool.not_true, Bool.not_false, List.getElem?_toArray, List.getElem?_cons_zero, List.getElem?_cons_succ, h1, h3, h5, h20, h21, h22, h27, h28, h29, add_at, k0, m1, s1]
        refine ⟨fun e3 => ?_, fun e3 => ?_⟩ <;> simp (disch := omega) only [↓stp, vls, inf, frs, mark_eq, ↓reduceIte, Nat.reduceEqDiff, ite_tt, ite_ff, eq_self, and_true, true_and, and_self, implies_true, Bool.true_eq_false, Bool.false_eq_true, decide_true, decide_false, decide_eq_true_eq, decide_eq_false_iff_not, ne_eq, not_true_eq_false, not_false_eq_true, Bool.not_eq_true', Bool.not_eq_false', beq_self_eq_true, Bool.not_true, Bool.not_false, List.getElem?_toArray, List.getElem?_cons_zero, List.getElem?_cons_succ, h1, h3, h5, h20, h21, h22, h27, h28, h29, add_at, m0]
        · refine led_lit li28 (by omega) rfl (fun p hp => by rcases List.mem_singleton.1 hp with rfl; exact ⟨rfl, rfl⟩) l fun bl V3 _ l => ?_
          simp (disch := omega) only [↓stp, vls, inf, frs, mark_eq, ↓reduceIte, Nat.reduceEqDiff, ite_tt, ite_ff, eq_self, and_true, true_and, and_self, implies_true, Bool.true_eq_false, Bool.false_eq_true, decide_true, decide_false, decide_eq_true_eq, decide_eq_false_iff_not, ne_eq, not_true_eq_false, not_false_eq_true, Bool.not_eq_true', Bool.not_eq_false', beq_self_eq_true, Bool.not_true, Bool.not_false, List.getElem?_toArray, List.getElem?_cons_zero, List.getElem?_cons_succ, h1, h3, h5, h20, h21, h22, h27, h28, h29]
          refine led_app (O := problemO) ap28_28 (by decide) l (i := 1) rfl (l.src1 (S := problemS) (j := 0) rfl (problemS_mk (x := (1, (x.1[i]).1, (x.1[i]).2.2.1[k], ())) (show (-9223372036854775808 : Int) ≤ 1 ∧ (1 : Int) < 9223372036854775808 from ⟨by decide, by decide⟩) z1 zk)) (by rw [List.length_singleton]; omega) fun fp2 w2 V4 _ l => ?_
          simp (disch := omega) only [↓stp, vls, inf, frs, mark_eq, ↓reduceIte, Nat.reduceEqDiff, ite_tt, ite_ff, eq_self, and_true, true_and, and_self, implies_true, Bool.true_eq_false, Bool.false_eq_true, decide_true, decide_false, decide_eq_true_eq, decide_eq_false_iff_not, ne_eq, not_true_eq_false, not_false_eq_true, Bool.not_eq_true', Bool.not_eq_false', beq_self_eq_true, Bool.not_true, Bool.not_false, List.getElem?_toArray, List.getElem?_cons_zero, List.getElem?_cons_succ, h1, h3, h5, h20, h21, h22, h27, h28, h29]
          have l2 : Led A [osl 35 problemO fp2 w2 (out0 ++ ((x.1[i]).2.2.1.take (k + 1)).flatMap (prNeed x.1 x.1[i])), bx q5 ⟨33, [.string (x.1[i]).1, .int .i64 (x.1[i]).2.1, .slice (some ad2) (x.1[i]).2.2.1.length c2, .bool (x.1[i]).2.2.2.1], 4, true⟩, bx q ⟨26, [.slice (some ad) x.1.length c0, .slice a1 x.2.1.length c1], 2, true⟩] V4 := by
            rw [hst, ← List.append_assoc]
            rw [show prNeed x.1 x.1[i] (x.1[i]).2.2.1[k] = [(1, (x.1[i]).1, (x.1[i]).2.2.1[k], ())] by unfold prNeed; rw [if_neg (by omega), hsc, if_pos e3]]
            exact l.tail
          exact ⟨_, by omega, k + 1, _, _, by omega, rfl, l2, rfl, rfl⟩
        · have l2 : Led A [osl 35 problemO fp w (out0 ++ ((x.1[i]).2.2.1.take (k + 1)).flatMap (prNeed x.1 x.1[i])), bx q5 ⟨33, [.string (x.1[i]).1, .int .i64 (x.1[i]).2.1, .slice (some ad2) (x.1[i]).2.2.1.length c2, .bool (x.1[i]).2.2.2.1], 4, true⟩, bx q ⟨26, [.slice (some ad) x.1.length c0, .slice a1 x.2.1.length c1], 2, true⟩] V2 := by
            rw [hst, ← List.append_assoc]
            rw [show prNeed x.1 x.1[i] (x.1[i]).2.2.1[k] = [] by unfold prNeed; rw [if_neg (by omega), hsc, if_neg e3], List.append_nil]
            exact l
          exact ⟨_, by omega, k + 1, _, _, by omega, rfl, l2, rfl, rfl⟩
    · simp (disch := omega) only [↓stp, vls, inf, frs, mark_eq, ↓reduceIte, Nat.reduceEqDiff, ite_tt, ite_ff, eq_self, and_true, true_and, and_self, implies_true, Bool.true_eq_false, Bool.false_eq_true, decide_true, decide_false, decide_eq_true_eq, decide_eq_false_iff_not, ne_eq, not_true_eq_false, not_false_eq_true, Bool.not_eq_true', Bool.not_eq_false', beq_self_eq_true, Bool.not_true, Bool.not_false, List.getElem?_toArray, List.getElem?_cons_zero, List.getElem?_cons_succ, h1, h3, h5, h20, h21, h22, h27, h28, h29, add_at, m2]
      rw [List.take_of_length_le (by omega)] at l
      have hout2 : (out0 ++ (x.1[i]).2.2.1.flatMap (prNeed x.1 x.1[i])).length ≤ 34 := by
        have := flatMap_le (prNeed_len x.1 x.1[i]) (x.1[i]).2.2.1
        rw [List.length_append]
        omega
      have hfx : prFix x.1 x.1[i] = (x.1[i]).2.2.1.flatMap (prNeed x.1 x.1[i]) ++ (if circB x.1 (x.1[i]).1 then [(2, (x.1[i]).1, (x.1[i]).1, ())] else []) := rfl
      generalize (x.1[i]).2.2.1.flatMap (prNeed x.1 x.1[i]) = out1 at l hout2 hfx
      refine (cloneString_c V _ _ (f2.mono l.ext) (by omega)).mono ?_
      rintro r V2 ⟨f0, l1⟩
      replace l := l.append l1
      have hns := needs_self hF.fn hlt
      have hU : (x.1.flatMap (·.2.2.1)).length ≤ 24 := by
        have := flatMap_le' (f := fun f : FixtureD => f.2.2.1) (m := 4) x.1 fun f hf => (hF.fs f hf).1
        omega
      have hcl0 : Closing x.1 (x.1[i]).1 (x.1[i]).2.2.1 0 := by rw [← hns]; exact Closing.start (by rw [hns]; exact hff.2.1)
      simp (disch := omega) only [↓stp, vls, inf, frs, mark_eq, ↓reduceIte, Nat.reduceEqDiff, ite_tt, ite_ff, eq_self, and_true, true_and, and_self, implies_true, Bool.true_eq_false, Bool.false_eq_true, decide_true, decide_false, decide_eq_true_eq, decide_eq_false_iff_not, ne_eq, not_true_eq_false, not_false_eq_true, Bool.not_eq_true', Bool.not_eq_false', beq_self_eq_true, Bool.not_true, Bool.not_false, List.getElem?_toArray, List.getElem?_cons_zero, List.getElem?_cons_succ, h1, h3, h5, h20, h21, h22, h27, h28, h29]
      refine aloop (fun d fr V => ∃ (j : Nat) (f1 : List Nat) (w1 : Value) (rl : List ByteArray), j ≤ rl.length ∧ d = (x.1.flatMap (·.2.2.1)).length - j ∧ Closing x.1 (x.1[i]).1 rl j ∧ Led A [osl 9 strO f1 w1 rl, osl 35 problemO fp w (out0 ++ out1), bx q5 ⟨33, [.string (x.1[i]).1, .int .i64 (x.1[i]).2.1, .slice a2 (x.1[i]).2.2.1.length c2, .bool (x.1[i]).2.2.2.1], 4, true⟩, bx q ⟨26, [.slice (some ad) x.1.length c0, .slice a1 x.2.1.length c1], 2, true⟩] V ∧ fr 1 = .pointer (some ⟨q, 0, none⟩) ∧ fr 3 = w ∧ fr 5 = .pointer (some ⟨q5, 0, none⟩) ∧ fr 9 = w1 ∧ fr 10 = .int .i64 j ∧ fr 20 = .slice (some ad) x.1.length c0 ∧ fr 21 = .int .i64 x.1.length ∧ fr 22 = .int .i64 i) (x.1.flatMap (·.2.2.1)).length ⟨0, _, _, _, by omega, by omega, hcl0, l, h1, h3, h5, by rfl, by rfl, h20, h21, h22⟩ ?_
      clear l l1 m0 m1 m2 k0 kp h1 h3 h5 h20 h21 h22 h27 h28 h29 hcl0
      rintro d fr V ⟨j, f1, w1, rl, hj, rfl, hC, l, h1, h3, h5, h9, h10, h20, h21, h22⟩
      have hS : Sl strS V w1 rl := OSl.toS (show OSl 9 strO V f1 w1 rl from l.at (i := 0) rfl)
      obtain ⟨ar, cr, rfl, hcr, hlr⟩ := hS.slice
      have hrl := hC.len
      have m0 := l.cell (i := 2) rfl (o := 0) rfl rfl
      have k0 := l.cell (i := 3) rfl (o := 0) rfl rfl
      have kp : V.part ⟨q, 0, none⟩ 2 = some _ := l.part (i := 3) rfl rfl
      simp (disch := omega) only [↓stp, vls, inf, frs, mark_eq, ↓reduceIte, Nat.reduceEqDiff, ite_tt, ite_ff, eq_self, and_true, true_and, and_self, implies_true, Bool.true_eq_false, Bool.false_eq_true, decide_true, decide_false, decide_eq_true_eq, decide_eq_false_iff_not, ne_eq, not_true_eq_false, not_false_eq_true, Bool.not_eq_true', Bool.not_eq_false', beq_self_eq_true, Bool.not_true, Bool.not_false, List.getElem?_toArray, List.getElem?_cons_zero, List.getElem?_cons_succ, h1, h3, h5, h9, h10, h20, h21, h22]
      refine ⟨fun e2 => ?_, fun e2 => ?_⟩
      · have hjl : j < rl.length := by omega
        obtain ⟨ad4, rfl, kk, zk⟩ := hS.str hjl
        have hN := hC.next hjl
        simp (disch := omega) only [↓stp, vls, inf, frs, mark_eq, ↓reduceIte, Nat.reduceEqDiff, ite_tt, ite_ff, eq_self, and_true, true_and, and_self, implies_true, Bool.true_eq_false, Bool.false_eq_true, decide_true, decide_false, decide_eq_true_eq, decide_eq_false_iff_not, ne_eq, not_true_eq_false, not_false_eq_true, Bool.not_eq_true', Bool.not_eq_false', beq_self_eq_true, Bool.not_true, Bool.not_false, List.getElem?_toArray, List.getElem?_cons_zero, List.getElem?_cons_succ, h1, h3, h5, h9, h10, h20, h21, h22]
        refine adraw_items [.l 0 false, .q 1, .q 2, .q 3, .l 4 false, .c 5 [], .q 6] (by kernel_rfl) (by kernel_rfl) ?_
        simp (disch := omega) only [↓stp, ↓pln, plv, nilOk, Nat.reduceBEq, Bool.or_false, Bool.or_true, Bool.false_or, Bool.true_or, vls, inf, frs, mark_eq, ↓reduceIte, Nat.reduceEqDiff, ite_tt, ite_ff, eq_self, and_true, true_and, and_self, implies_true, Bool.true_eq_false, Bool.false_eq_true, decide_true, decide_false, decide_eq_true_eq, decide_eq_false_iff_not, ne_eq, not_true_eq_false, not_false_eq_true, Bool.not_eq_true', Bool.not_eq_false', beq_self_eq_true, Bool.not_true, Bool.not_false, List.getElem?_toArray, List.getElem?_cons_zero, List.getElem?_cons_succ, h1, h3, h5, h9, h10, h20, h21, h22, kp, kk]
        refine (impl_fixtureAt_c V _ x _ (suiteS_mk (g0.mono l.ext) (g1.mono l.ext))).mono ?_
        rintro _ V3 ⟨rfl, he3⟩
        have kk := he3.cell kk
        have kp := he3.part kp
        replace l := l.step he3
        have k0 := l.cell (i := 3) rfl (o := 0) rfl rfl
        simp (disch := omega) only [↓stp, ↓pln, plv, nilOk, Nat.reduceBEq, Bool.or_false, Bool.or_true, Bool.false_or, Bool.true_or, vls, inf, frs, mark_eq, ↓reduceIte, Nat.reduceEqDiff, ite_tt, ite_ff, eq_self, and_true, true_and, and_self, implies_true, Bool.true_eq_false, Bool.false_eq_true, decide_true, decide_false, decide_eq_true_eq, decide_eq_false_iff_not, ne_eq, not_true_eq_false, not_false_eq_true, Bool.not_eq_true', Bool.not_eq_false', beq_self_eq_true, Bool.not_true, Bool.not_false, List.getElem?_toArray, List.getElem?_cons_zero, List.getElem?_cons_succ, h1, h3, h5, h9, h10, h20, h21, h22, kp, kk]
        refine ⟨fun e3 => ?_, fun e3 => ?_⟩
        · simp (disch := omega) only [↓stp, vls, inf, frs, mark_eq, ↓reduceIte, Nat.reduceEqDiff, ite_tt, ite_ff, eq_self, and_true, true_and, and_self, implies_true, Bool.true_eq_false, Bool.false_eq_true, decide_true, decide_false, decide_eq_true_eq, decide_eq_false_iff_not, ne_eq, not_true_eq_false, not_false_eq_true, Bool.not_eq_true', Bool.not_eq_false', beq_self_eq_true, Bool.not_true, Bool.not_false, List.getElem?_toArray, List.getElem?_cons_zero, List.getElem?_cons_succ, h1, h3, h5, h9, h10, h20, h21, h22, add_at, k0]
          obtain ⟨p, hp, hpl, hnd, _⟩ := needsAt_idx e3
          obtain ⟨ad5, u5, hq, hcl5, _, _, f5⟩ := g0.fixture hpl
          obtain rfl := Option.some.inj hq
          obtain ⟨a5, c5, rfl, hc5, hl5⟩ := f5.slice
          have s2 := View.part_cell (l.ext.part hcl5) (j := 2) rfl
          rw [hnd] at hN
          have hn4 := (hF.fs _ (List.getElem_mem hpl)).1
          rw [hp]
          generalize hns5 : (x.1[p]).2.2.1 = ns at f5 s2 hN hc5 hl5 hn4
          simp (disch := omega) only [↓stp, vls, inf, frs, mark_eq, ↓reduceIte, Nat.reduceEqDiff, ite_tt, ite_ff, eq_self, and_true, true_and, and_self, implies_true, Bool.true_eq_false, Bool.false_eq_true, decide_true, decide_false, decide_eq_true_eq, decide_eq_false_iff_not, ne_eq, not_true_eq_false, not_false_eq_true, Bool.not_eq_true', Bool.not_eq_false', beq_self_eq_true, Bool.not_true, Bool.not_false, List.getElem?_toArray, List.getElem?_cons_zero, List.getElem?_cons_succ, h1, h3, h5, h9, h10, h20, h21, h22, s2]
          refine aloop (fun d fr V => ∃ (m : Nat) (f1 : List Nat) (w1 : Value), m ≤ ns.length ∧ d = ns.length - m ∧ Led A [osl 9 strO f1 w1 (addN rl (ns.take m)), osl 35 problemO fp w (out0 ++ out1), bx q5 ⟨33, [.string (x.1[i]).1, .int .i64 (x.1[i]).2.1, .slice a2 (x.1[i]).2.2.1.length c2, .bool (x.1[i]).2.2.2.1], 4, true⟩, bx q ⟨26, [.slice (some ad) x.1.length c0, .slice a1 x.2.1.length c1], 2, true⟩] V ∧ fr 1 = .pointer (some ⟨q, 0, none⟩) ∧ fr 3 = w ∧ fr 5 = .pointer (some ⟨q5, 0, none⟩) ∧ fr 9 = w1 ∧ fr 10 = .int .i64 j ∧ fr 20 = .slice (some ad) x.1.length c0 ∧ fr 21 = .int .i64 x.1.length ∧ fr 22 = .int .i64 i ∧ fr 86 = .slice a5 ns.length c5 ∧ fr 87 = .int .i64 ns.length ∧ fr 88 = .int .i64 m) ns.length ⟨0, _, _, by omega, by omega, l, h1, h3, h5, h9, h10, h20, h21, h22, by rfl, by rfl, by rfl⟩ ?_
          clear l hS m0 k0 kp kk s2 h1 h3 h5 h9 h10 h20 h21 h22
          rintro d fr V ⟨m, f1, w1, hm, rfl, l, h1, h3, h5, h9, h10, h20, h21, h22, h86, h87, h88⟩
          have hS : Sl strS V w1 (addN rl (ns.take m)) := OSl.toS (show OSl 9 strO V f1 w1 _ from l.at (i := 0) rfl)
          simp (disch := omega) only [↓stp, vls, inf, frs, mark_eq, ↓reduceIte, Nat.reduceEqDiff, ite_tt, ite_ff, eq_self, and_true, true_and, and_self, implies_true, Bool.true_eq_false, Bool.false_eq_true, decide_true, decide_false, decide_eq_true_eq, decide_eq_false_iff_not, ne_eq, not_true_eq_false, not_false_eq_true, Bool.not_eq_true', Bool.not_eq_false', beq_self_eq_true, Bool.not_true, Bool.not_false, List.getElem?_toArray, List.getElem?_cons_zero, List.getElem?_cons_succ, h1, h3, h5, h9, h10, h20, h21, h22, h86, h87, h88]
          refine ⟨fun e4 => ?_, fun e4 => ?_⟩
          · have hml : m < ns.length := by omega
            obtain ⟨ad6, rfl, kk, zk⟩ := (f5.mono l.ext).str hml
            have hst := addN_take (r := rl) hml
            have hal : (addN rl (ns.take m)).length ≤ 28 := by
              have := addN_len (ns.take m) rl
              rw [List.length_take] at this
              omega
            simp (disch := omega) only [↓stp, vls, inf, frs, mark_eq, ↓reduceIte, Nat.reduceEqDiff, ite_tt, ite_ff, eq_self, and_true, true_and, and_self, implies_true, Bool.true_eq_false, Bool.false_eq_true, decide_true, decide_false, decide_eq_true_eq, decide_eq_false_iff_not, ne_eq, not_true_eq_false, not_false_eq_true, Bool.not_eq_true', Bool.not_eq_false', beq_self_eq_true, Bool.not_true, Bool.not_false, List.getElem?_toArray, List.getElem?_cons_zero, List.getElem?_cons_succ, h1, h3, h5, h9, h10, h20, h21, h22, h86, h87, h88, kk]
            refine (contains_str_c V w1 _ _ hS).mono ?_
            rintro _ V ⟨rfl, rfl⟩
            simp (disch := omega) only [↓stp, vls, inf, frs, mark_eq, ↓reduceIte, Nat.reduceEqDiff, ite_tt, ite_ff, eq_self, and_true, true_and, and_self, implies_true, Bool.true_eq_false, Bool.false_eq_true, decide_true, decide_false, decide_eq_true_eq, decide_eq_false_iff_not, ne_eq, not_true_eq_false, not_false_eq_true, Bool.not_eq_true', Bool.not_eq_false', beq_self_eq_true, Bool.not_true, Bool.not_false, List.getElem?_toArray, List.getElem?_cons_zero, List.getElem?_cons_succ, h1, h3, h5, h9, h10, h20, h21, h22, h86, h87, h88]
            refine ⟨fun e5 => ?_, fun e5 => ?_⟩ <;> simp (disch := omega) only [↓stp, vls, inf, frs, mark_eq, ↓reduceIte, Nat.reduceEqDiff, ite_tt, ite_ff, eq_self, and_true, true_and, and_self, implies_true, Bool.true_eq_false, Bool.false_eq_true, decide_true, decide_false, decide_eq_true_eq, decide_eq_false_iff_not, ne_eq, not_true_eq_false, not_false_eq_true, Bool.not_eq_true', Bool.not_eq_false', beq_self_eq_true, Bool.not_true, Bool.not_false, List.getElem?_toArray, List.getElem?_cons_zero, List.getElem?_cons_succ, h1, h3, h5, h9, h10, h20, h21, h22, h86, h87, h88]
            · rw [if_neg e5] at hst
              refine led_lit li31 (by omega) rfl (fun p hp => by rcases List.mem_singleton.1 hp with rfl; exact ⟨rfl, rfl⟩) l fun bl V3 _ l => ?_
              simp (disch := omega) only [↓stp, vls, inf, frs, mark_eq, ↓reduceIte, Nat.reduceEqDiff, ite_tt, ite_ff, eq_self, and_true, true_and, and_self, implies_true, Bool.true_eq_false, Bool.false_eq_true, decide_true, decide_false, decide_eq_true_eq, decide_eq_false_iff_not, ne_eq, not_true_eq_false, not_false_eq_true, Bool.not_eq_true', Bool.not_eq_false', beq_self_eq_true, Bool.not_true, Bool.not_false, List.getElem?_toArray, List.getElem?_cons_zero, List.getElem?_cons_succ, h1, h3, h5, h9, h10, h20, h21, h22, h86, h87, h88]
              refine led_app (O := strO) ap31_31 (by decide) l (i := 1) rfl (l.src1 (S := strS) (j := 0) rfl ⟨rfl, zk⟩) (by rw [List.length_singleton]; omega) fun fp2 w2 V4 _ l => ?_
              simp (disch := omega) only [↓stp, vls, inf, frs, mark_eq, ↓reduceIte, Nat.reduceEqDiff, ite_tt, ite_ff, eq_self, and_true, true_and, and_self, implies_true, Bool.true_eq_false, Bool.false_eq_true, decide_true, decide_false, decide_eq_true_eq, decide_eq_false_iff_not, ne_eq, not_true_eq_false, not_false_eq_true, Bool.not_eq_true', Bool.not_eq_false', beq_self_eq_true, Bool.not_true, Bool.not_false, List.getElem?_toArray, List.getElem?_cons_zero, List.getElem?_cons_succ, h1, h3, h5, h9, h10, h20, h21, h22, h86, h87, h88]
              exact ⟨_, by omega, m + 1, _, _, by omega, rfl, by rw [hst]; exact l.tail, rfl, rfl⟩
            · rw [if_pos e5] at hst
              exact ⟨_, by omega, m + 1, _, _, by omega, rfl, by rw [hst]; exact l, rfl, rfl⟩
          · rw [List.take_of_length_le (by omega)] at l
            have hN' := hN.len
            have hpre := addN_pre (r := rl) (ns := ns)
            have := hpre.length_le
            simp (disch := omega) only [↓stp, vls, inf, frs, mark_eq, ↓reduceIte, Nat.reduceEqDiff, ite_tt, ite_ff, eq_self, and_true, true_and, and_self, implies_true, Bool.true_eq_false, Bool.false_eq_true, decide_true, decide_false, decide_eq_true_eq, decide_eq_false_iff_not, ne_eq, not_true_eq_false, not_false_eq_true, Bool.not_eq_true', Bool.not_eq_false', beq_self_eq_true, Bool.not_true, Bool.not_false, List.getElem?_toArray, List.getElem?_cons_zero, List.getElem?_cons_succ, h1, h3, h5, h9, h10, h20, h21, h22, h86, h87, h88]
            exact ⟨_, by omega, j + 1, _, _, _, by omega, rfl, hN, l, rfl, rfl⟩
        · rw [needsAt_no fun h => by have := hasF_idx.1 h; omega] at hN
          simp (disch := omega) only [↓stp, vls, inf, frs, mark_eq, ↓reduceIte, Nat.reduceEqDiff, ite_tt, ite_ff, eq_self, and_true, true_and, and_self, implies_true, Bool.true_eq_false, Bool.false_eq_true, decide_true, decide_false, decide_eq_true_eq, decide_eq_false_iff_not, ne_eq, not_true_eq_false, not_false_eq_true, Bool.not_eq_true', Bool.not_eq_false', beq_self_eq_true, Bool.not_true, Bool.not_false, List.getElem?_toArray, List.getElem?_cons_zero, List.getElem?_cons_succ, h1, h3, h5, h9, h10, h20, h21, h22]
          have hN' : (addN rl []) = rl := rfl
          rw [hN'] at hN
          exact ⟨_, by omega, j + 1, _, _, _, by omega, rfl, hN, l, rfl, rfl⟩
      · simp (disch := omega) only [↓stp, vls, inf, frs, mark_eq, ↓reduceIte, Nat.reduceEqDiff, ite_tt, ite_ff, eq_self, and_true, true_and, and_self, implies_true, Bool.true_eq_false, Bool.false_eq_true, decide_true, decide_false, decide_eq_true_eq, decide_eq_false_iff_not, ne_eq, not_true_eq_false, not_false_eq_true, Bool.not_eq_true', Bool.not_eq_false', beq_self_eq_true, Bool.not_true, Bool.not_false, List.getElem?_toArray, List.getElem?_cons_zero, List.getElem?_cons_succ, h1, h3, h5, h9, h10, h20, h21, h22, add_at, m0]
        have hcc : decide ((x.1[i]).1 ∈ rl) = circB x.1 (x.1[i]).1 := by
          unfold circB
          rw [Bool.eq_iff_iff, decide_eq_true_eq, @decide_eq_true_eq _ (Classical.propDecidable _)]
          exact hC.done (by omega) _
        refine (contains_str_c V _ _ _ hS).mono ?_
        rintro _ V ⟨rfl, rfl⟩
        rw [hcc]
        simp (disch := omega) only [↓stp, vls, inf, frs, mark_eq, ↓reduceIte, Nat.reduceEqDiff, ite_tt, ite_ff, eq_self, and_true, true_and, and_self, implies_true, Bool.true_eq_false, Bool.false_eq_true, decide_true, decide_false, decide_eq_true_eq, decide_eq_false_iff_not, ne_eq, not_true_eq_false, not_false_eq_true, Bool.not_eq_true', Bool.not_eq_false', beq_self_eq_true, Bool.not_true, Bool.not_false, List.getElem?_toArray, List.getElem?_cons_zero, List.getElem?_cons_succ, h1, h3, h5, h9, h10, h20, h21, h22]
        refine ⟨fun e3 => ?_, fun e3 => ?_⟩ <;> simp (disch := omega) only [↓stp, vls, inf, frs, mark_eq, ↓reduceIte, Nat.reduceEqDiff, ite_tt, ite_ff, eq_self, and_true, true_and, and_self, implies_true, Bool.true_eq_false, Bool.false_eq_true, decide_true, decide_false, decide_eq_true_eq, decide_eq_false_iff_not, ne_eq, not_true_eq_false, not_false_eq_true, Bool.not_eq_true', Bool.not_eq_false', beq_self_eq_true, Bool.not_true, Bool.not_false, List.getElem?_toArray, List.getElem?_cons_zero, List.getElem?_cons_succ, h1, h3, h5, h9, h10, h20, h21, h22, add_at, m0]
        · refine led_lit li28 (by omega) rfl (fun p hp => by rcases List.mem_singleton.1 hp with rfl; exact ⟨rfl, rfl⟩) l fun bl V3 _ l => ?_
          simp (disch := omega) only [↓stp, vls, inf, frs, mark_eq, ↓reduceIte, Nat.reduceEqDiff, ite_tt, ite_ff, eq_self, and_true, true_and, and_self, implies_true, Bool.true_eq_false, Bool.false_eq_true, decide_true, decide_false, decide_eq_true_eq, decide_eq_false_iff_not, ne_eq, not_true_eq_false, not_false_eq_true, Bool.not_eq_true', Bool.not_eq_false', beq_self_eq_true, Bool.not_true, Bool.not_false, List.getElem?_toArray, List.getElem?_cons_zero, List.getElem?_cons_succ, h1, h3, h5, h9, h10, h20, h21, h22]
          refine led_app (O := problemO) ap28_28 (by decide) l (i := 2) rfl (l.src1 (S := problemS) (j := 0) rfl (problemS_mk (x := (2, (x.1[i]).1, (x.1[i]).1, ())) (show (-9223372036854775808 : Int) ≤ 2 ∧ (2 : Int) < 9223372036854775808 from ⟨by decide, by decide⟩) z1 z1)) (by rw [List.length_singleton]; omega) fun fp2 w2 V4 _ l => ?_
          simp (disch := omega) only [↓stp, vls, inf, frs, mark_eq, ↓reduceIte, Nat.reduceEqDiff, ite_tt, ite_ff, eq_self, and_true, true_and, and_self, implies_true, Bool.true_eq_false, Bool.false_eq_true, decide_true, decide_false, decide_eq_true_eq, decide_eq_false_iff_not, ne_eq, not_true_eq_false, not_false_eq_true, Bool.not_eq_true', Bool.not_eq_false', beq_self_eq_true, Bool.not_true, Bool.not_false, List.getElem?_toArray, List.getElem?_cons_zero, List.getElem?_cons_succ, h1, h3, h5, h9, h10, h20, h21, h22]
          have l2 : Led A [osl 35 problemO fp2 w2 ((x.1.take (i + 1)).flatMap (prFix x.1)), bx q ⟨26, [.slice (some ad) x.1.length c0, .slice a1 x.2.1.length c1], 2, true⟩] V4 := by
            rw [hft, hfx, if_pos e3, ← List.append_assoc]
            exact l.sub (.cons _ (.cons _ (.cons_cons _ (.cons _ (List.Sublist.refl _)))))
          exact ⟨_, by omega, i + 1, _, _, by omega, rfl, l2, rfl, rfl⟩
        · have l2 : Led A [osl 35 problemO fp w ((x.1.take (i + 1)).flatMap (prFix x.1)), bx q ⟨26, [.slice (some ad) x.1.length c0, .slice a1 x.2.1.length c1], 2, true⟩] V := by
            rw [hft, hfx, if_neg (by rw [e3]; exact Bool.false_ne_true), List.append_nil]
            exact l.sub (.cons _ (.cons_cons _ (.cons _ (List.Sublist.refl _))))
          exact ⟨_, by omega, i + 1, _, _, by omega, rfl, l2, rfl, rfl⟩
  · have k1 := l.cell (i := 1) rfl (o := 1) rfl rfl
    rw [List.take_of_length_le (by omega)] at l
    have hoF : (x.1.flatMap (prFix x.1)).length ≤ 30 := by
      have := flatMap_le' (f := prFix x.1) (m := 5) x.1 fun f hf => prFix_len (hF.fs f hf).1
      omega
    have hpr : probR x = x.1.flatMap (prFix x.1) ++ x.2.1.flatMap (prTest x.1) := rfl
    generalize x.1.flatMap (prFix x.1) = out0 at l hoF hpr
    simp (disch := omega) only [↓stp, vls, inf, frs, mark_eq, ↓reduceIte, Nat.reduceEqDiff, ite_tt, ite_ff, eq_self, and_true, true_and, and_self, implies_true, Bool.true_eq_false, Bool.false_eq_true, decide_true, decide_false, decide_eq_true_eq, decide_eq_false_iff_not, ne_eq, not_true_eq_false, not_false_eq_true, Bool.not_eq_true', Bool.not_eq_false', beq_self_eq_true, Bool.not_true, Bool.not_false, List.getElem?_toArray, List.getElem?_cons_zero, List.getElem?_cons_succ, h1, h3, h20, h21, h22, add_at, k1]
    refine aloop (fun d fr V => ∃ (j : Nat) (fp : List Nat) (w : Value), j ≤ x.2.1.length ∧ d = x.2.1.length - j ∧ Led A [osl 35 problemO fp w (out0 ++ (x.2.1.take j).flatMap (prTest x.1)), bx q ⟨26, [.slice a0 x.1.length c0, .slice a1 x.2.1.length c1], 2, true⟩] V ∧ fr 1 = .pointer (some ⟨q, 0, none⟩) ∧ fr 3 = w ∧ fr 115 = .slice a1 x.2.1.length c1 ∧ fr 116 = .int .i64 x.2.1.length ∧ fr 117 = .int .i64 j) x.2.1.length ⟨0, _, _, by omega, by omega, by rw [List.take_zero, List.flatMap_nil, List.append_nil]; exact l, h1, h3, by rfl, by rfl, by rfl⟩ ?_
    clear l k1 h1 h3 h20 h21 h22
    rintro d fr V ⟨j, fp, w, hj, rfl, l, h1, h3, h115, h116, h117⟩
    simp (disch := omega) only [↓stp, vls, inf, frs, mark_eq, ↓reduceIte, Nat.reduceEqDiff, ite_tt, ite_ff, eq_self, and_true, true_and, and_self, implies_true, Bool.true_eq_false, Bool.false_eq_true, decide_true, decide_false, decide_eq_true_eq, decide_eq_false_iff_not, ne_eq, not_true_eq_false, not_false_eq_true, Bool.not_eq_true', Bool.not_eq_false', beq_self_eq_true, Bool.not_true, Bool.not_false, List.getElem?_toArray, List.getElem?_cons_zero, List.getElem?_cons_succ, h1, h3, h115, h116, h117]
    refine ⟨fun e1 => ?_, fun e1 => ?_⟩
    · have hlt : j < x.2.1.length := by omega
      have hout : (out0 ++ (x.2.1.take j).flatMap (prTest x.1)).length ≤ 70 := by
        have := flatMap_le' (f := prTest x.1) (m := 4) (x.2.1.take j) fun f hf => prTest_len (hF.ts f (List.mem_of_mem_take hf)).2
        rw [List.length_take] at this
        rw [List.length_append]
        omega
      have hft := flatMap_take (prTest x.1) hlt
      obtain ⟨ad, u2, u3, rfl, hclA, z1, z2, f2, f3⟩ := g1.test hlt
      obtain ⟨a2, c2, rfl, _, _⟩ := f2.slice
      obtain ⟨a3, c3, rfl, _, _⟩ := f3.slice
      have hff := hF.ts _ (List.getElem_mem hlt)
      have hcl := l.ext.part hclA
      simp (disch := omega) only [↓stp, vls, inf, frs, mark_eq, ↓reduceIte, Nat.reduceEqDiff, ite_tt, ite_ff, eq_self, and_true, true_and, and_self, implies_true, Bool.true_eq_false, Bool.false_eq_true, decide_true, decide_false, decide_eq_true_eq, decide_eq_false_iff_not, ne_eq, not_true_eq_false, not_false_eq_true, Bool.not_eq_true', Bool.not_eq_false', beq_self_eq_true, Bool.not_true, Bool.not_false, List.getElem?_toArray, List.getElem?_cons_zero, List.getElem?_cons_succ, h1, h3, h115, h116, h117, hcl]
      refine led_alloc zc38 l fun q5 V5 he5 l => ?_
      simp (disch := omega) only [↓stp, vls, inf, frs, mark_eq, ↓reduceIte, Nat.reduceEqDiff, ite_tt, ite_ff, eq_self, and_true, true_and, and_self, implies_true, Bool.true_eq_false, Bool.false_eq_true, decide_true, decide_false, decide_eq_true_eq, decide_eq_false_iff_not, ne_eq, not_true_eq_false, not_false_eq_true, Bool.not_eq_true', Bool.not_eq_false', beq_self_eq_true, Bool.not_true, Bool.not_false, List.getElem?_toArray, List.getElem?_cons_zero, List.getElem?_cons_succ, h1, h3, h115, h116, h117]
      refine led_storeAll l 0 rfl sz38 rfl rfl (by simp [Value.oneCell']) fun V6 l => ?_
      have m3 := l.cell (i := 0) rfl (o := 3) rfl rfl
      simp (disch := omega) only [↓stp, vls, inf, frs, mark_eq, ↓reduceIte, Nat.reduceEqDiff, ite_tt, ite_ff, eq_self, and_true, true_and, and_self, implies_true, Bool.true_eq_false, Bool.false_eq_true, decide_true, decide_false, decide_eq_true_eq, decide_eq_false_iff_not, ne_eq, not_true_eq_false, not_false_eq_true, Bool.not_eq_true', Bool.not_eq_false', beq_self_eq_true, Bool.not_true, Bool.not_false, List.getElem?_toArray, List.getElem?_cons_zero, List.getElem?_cons_succ, h1, h3, h115, h116, h117, add_at, m3]
      generalize (x.2.1.take j).flatMap (prTest x.1) = out1 at l hout hft
      refine aloop (fun d fr V => ∃ (k : Nat) (fp : List Nat) (w : Value), k ≤ (x.2.1[j]).2.2.2.1.length ∧ d = (x.2.1[j]).2.2.2.1.length - k ∧ Led A [osl 35 problemO fp w (out0 ++ out1 ++ ((x.2.1[j]).2.2.2.1.take k).flatMap (prTestN x.1 x.2.1[j])), bx q5 ⟨38, [.string (x.2.1[j]).1, .string (x.2.1[j]).2.1, .slice a2 (x.2.1[j]).2.2.1.length c2, .slice a3 (x.2.1[j]).2.2.2.1.length c3], 4, true⟩, bx q ⟨26, [.slice a0 x.1.length c0, .slice (some ad) x.2.1.length c1], 2, true⟩] V ∧ fr 1 = .pointer (some ⟨q, 0, none⟩) ∧ fr 3 = w ∧ fr 15 = .pointer (some ⟨q5, 0, none⟩) ∧ fr 115 = .slice (some ad) x.2.1.length c1 ∧ fr 116 = .int .i64 x.2.1.length ∧ fr 117 = .int .i64 j ∧ fr 122 = .slice a3 (x.2.1[j]).2.2.2.1.length c3 ∧ fr 123 = .int .i64 (x.2.1[j]).2.2.2.1.length ∧ fr 124 = .int .i64 k) (x.2.1[j]).2.2.2.1.length ⟨0, _, _, by omega, by omega, by rw [List.take_zero, List.flatMap_nil, List.append_nil]; exact l.perm (List.Perm.swap ..), h1, h3, by rfl, h115, h116, h117, by rfl, by rfl, by rfl⟩ ?_
      clear l m3 hcl h1 h3 h115 h116 h117
      rintro d fr V ⟨k, fp, w, hk, rfl, l, h1, h3, h15, h115, h116, h117, h122, h123, h124⟩
      have kp : V.part ⟨q, 0, none⟩ 2 = some _ := l.part (i := 2) rfl rfl
      simp (disch := omega) only [↓stp, vls, inf, frs, mark_eq, ↓reduceIte, Nat.reduceEqDiff, ite_tt, ite_ff, eq_self, and_true, true_and, and_self, implies_true, Bool.true_eq_false, Bool.false_eq_true, decide_true, decide_false, decide_eq_true_eq, decide_eq_false_iff_not, ne_eq, not_true_eq_false, not_false_eq_true, Bool.not_eq_true', Bool.not_eq_false', beq_self_eq_true, Bool.not_true, Bool.not_false, List.getElem?_toArray, List.getElem?_cons_zero, List.getElem?_cons_succ, h1, h3, h15, h115, h116, h117, h122, h123, h124]
      refine ⟨fun e2 => ?_, fun e2 => ?_⟩
      · have hltk : k < (x.2.1[j]).2.2.2.1.length := by omega
        obtain ⟨ad2, rfl, kk, zk⟩ := (f3.mono l.ext).str hltk
        simp (disch := omega) only [↓stp, vls, inf, frs, mark_eq, ↓reduceIte, Nat.reduceEqDiff, ite_tt, ite_ff, eq_self, and_true, true_and, and_self, implies_true, Bool.true_eq_false, Bool.false_eq_true, decide_true, decide_false, decide_eq_true_eq, decide_eq_false_iff_not, ne_eq, not_true_eq_false, not_false_eq_true, Bool.not_eq_true', Bool.not_eq_false', beq_self_eq_true, Bool.not_true, Bool.not_false, List.getElem?_toArray, List.getElem?_cons_zero, List.getElem?_cons_succ, h1, h3, h15, h115, h116, h117, h122, h123, h124, kk, kp]
        refine (impl_fixtureAt_c V _ x _ (suiteS_mk (g0.mono l.ext) (g1.mono l.ext))).mono ?_
        rintro _ V2 ⟨rfl, he2⟩
        replace l := l.step he2
        have kt : V2.part ⟨q5, 0, none⟩ 4 = some _ := l.part (i := 1) rfl rfl
        have hlen : (out0 ++ out1 ++ ((x.2.1[j]).2.2.2.1.take k).flatMap (prTestN x.1 x.2.1[j])).length ≤ 74 := by
          have := flatMap_le (prTestN_len x.1 x.2.1[j]) ((x.2.1[j]).2.2.2.1.take k)
          rw [List.length_take] at this
          rw [List.length_append]
          omega
        have hst := flatMap_take (prTestN x.1 x.2.1[j]) hltk
        simp (disch := omega) only [↓stp, vls, inf, frs, mark_eq, ↓reduceIte, Nat.reduceEqDiff, ite_tt, ite_ff, eq_self, and_true, true_and, and_self, implies_true, Bool.true_eq_false, Bool.false_eq_true, decide_true, decide_false, decide_eq_true_eq, decide_eq_false_iff_not, ne_eq, not_true_eq_false, not_false_eq_true, Bool.not_eq_true', Bool.not_eq_false', beq_self_eq_true, Bool.not_true, Bool.not_false, List.getElem?_toArray, List.getElem?_cons_zero, List.getElem?_cons_succ, h1, h3, h15, h115, h116, h117, h122, h123, h124]
        refine ⟨fun e3 => ?_, fun e3 => ?_⟩ <;> simp (disch := omega) only [↓stp, vls, inf, frs, mark_eq, ↓reduceIte, Nat.reduceEqDiff, ite_tt, ite_ff, eq_self, and_true, true_and, and_self, implies_true, Bool.true_eq_false, Bool.false_eq_true, decide_true, decide_false, decide_eq_true_eq, decide_eq_false_iff_not, ne_eq, not_true_eq_false, not_false_eq_true, Bool.not_eq_true', Bool.not_eq_false', beq_self_eq_true, Bool.not_true, Bool.not_false, List.getElem?_toArray, List.getElem?_cons_zero, List.getElem?_cons_succ, h1, h3, h15, h115, h116, h117, h122, h123, h124, kt]
        · refine (impl_idOf_c V2 _ x.2.1[j] (testS_mk z1 z2 (f2.mono l.ext) (f3.mono l.ext))).mono ?_
          rintro _ V ⟨rfl, he3⟩
          replace l := l.step he3
          simp (disch := omega) only [↓stp, vls, inf, frs, mark_eq, ↓reduceIte, Nat.reduceEqDiff, ite_tt, ite_ff, eq_self, and_true, true_and, and_self, implies_true, Bool.true_eq_false, Bool.false_eq_true, decide_true, decide_false, decide_eq_true_eq, decide_eq_false_iff_not, ne_eq, not_true_eq_false, not_false_eq_true, Bool.not_eq_true', Bool.not_eq_false', beq_self_eq_true, Bool.not_true, Bool.not_false, List.getElem?_toArray, List.getElem?_cons_zero, List.getElem?_cons_succ, h1, h3, h15, h115, h116, h117, h122, h123, h124]
          refine led_lit li28 (by omega) rfl (fun p hp => by rcases List.mem_singleton.1 hp with rfl; exact ⟨rfl, rfl⟩) l fun bl V3 _ l => ?_
          simp (disch := omega) only [↓stp, vls, inf, frs, mark_eq, ↓reduceIte, Nat.reduceEqDiff, ite_tt, ite_ff, eq_self, and_true, true_and, and_self, implies_true, Bool.true_eq_false, Bool.false_eq_true, decide_true, decide_false, decide_eq_true_eq, decide_eq_false_iff_not, ne_eq, not_true_eq_false, not_false_eq_true, Bool.not_eq_true', Bool.not_eq_false', beq_self_eq_true, Bool.not_true, Bool.not_false, List.getElem?_toArray, List.getElem?_cons_zero, List.getElem?_cons_succ, h1, h3, h15, h115, h116, h117, h122, h123, h124]
          refine led_app (O := problemO) ap28_28 (by decide) l (i := 1) rfl (l.src1 (S := problemS) (j := 0) rfl (problemS_mk (x := (0, idD x.2.1[j], (x.2.1[j]).2.2.2.1[k], ())) (show (-9223372036854775808 : Int) ≤ 0 ∧ (0 : Int) < 9223372036854775808 from ⟨by decide, by decide⟩) (by have := testB_id hff.1; show (idD x.2.1[j]).size ≤ _; omega) zk)) (by rw [List.length_singleton]; omega) fun fp2 w2 V4 _ l => ?_
          simp (disch := omega) only [↓stp, vls, inf, frs, mark_eq, ↓reduceIte, Nat.reduceEqDiff, ite_tt, ite_ff, eq_self, and_true, true_and, and_self, implies_true, Bool.true_eq_false, Bool.false_eq_true, decide_true, decide_false, decide_eq_true_eq, decide_eq_false_iff_not, ne_eq, not_true_eq_false, not_false_eq_true, Bool.not_eq_true', Bool.not_eq_false', beq_self_eq_true, Bool.not_true, Bool.not_false, List.getElem?_toArray, List.getElem?_cons_zero, List.getElem?_cons_succ, h1, h3, h15, h115, h116, h117, h122, h123, h124]
          have l2 : Led A [osl 35 problemO fp2 w2 (out0 ++ out1 ++ ((x.2.1[j]).2.2.2.1.take (k + 1)).flatMap (prTestN x.1 x.2.1[j])), bx q5 ⟨38, [.string (x.2.1[j]).1, .string (x.2.1[j]).2.1, .slice a2 (x.2.1[j]).2.2.1.length c2, .slice (some ad2) (x.2.1[j]).2.2.2.1.length c3], 4, true⟩, bx q ⟨26, [.slice a0 x.1.length c0, .slice (some ad) x.2.1.length c1], 2, true⟩] V4 := by
            rw [hst, ← List.append_assoc]
            rw [show prTestN x.1 x.2.1[j] (x.2.1[j]).2.2.2.1[k] = [(0, idD x.2.1[j], (x.2.1[j]).2.2.2.1[k], ())] by unfold prTestN; rw [if_pos e3]]
            exact l.tail
          exact ⟨_, by omega, k + 1, _, _, by omega, rfl, l2, rfl, rfl⟩
        · have l2 : Led A [osl 35 problemO fp w (out0 ++ out1 ++ ((x.2.1[j]).2.2.2.1.take (k + 1)).flatMap (prTestN x.1 x.2.1[j])), bx q5 ⟨38, [.string (x.2.1[j]).1, .string (x.2.1[j]).2.1, .slice a2 (x.2.1[j]).2.2.1.length c2, .slice (some ad2) (x.2.1[j]).2.2.2.1.length c3], 4, true⟩, bx q ⟨26, [.slice a0 x.1.length c0, .slice (some ad) x.2.1.length c1], 2, true⟩] V2 := by
            rw [hst, ← List.append_assoc]
            rw [show prTestN x.1 x.2.1[j] (x.2.1[j]).2.2.2.1[k] = [] by unfold prTestN; rw [if_neg (by omega)], List.append_nil]
            exact l
          exact ⟨_, by omega, k + 1, _, _, by omega, rfl, l2, rfl, rfl⟩
      · simp (disch := omega) only [↓stp, vls, inf, frs, mark_eq, ↓reduceIte, Nat.reduceEqDiff, ite_tt, ite_ff, eq_self, and_true, true_and, and_self, implies_true, Bool.true_eq_false, Bool.false_eq_true, decide_true, decide_false, decide_eq_true_eq, decide_eq_false_iff_not, ne_eq, not_true_eq_false, not_false_eq_true, Bool.not_eq_true', Bool.not_eq_false', beq_self_eq_true, Bool.not_true, Bool.not_false, List.getElem?_toArray, List.getElem?_cons_zero, List.getElem?_cons_succ, h1, h3, h15, h115, h116, h117, h122, h123, h124]
        rw [List.take_of_length_le (by omega)] at l
        have l2 : Led A [osl 35 problemO fp w (out0 ++ (x.2.1.take (j + 1)).flatMap (prTest x.1)), bx q ⟨26, [.slice a0 x.1.length c0, .slice (some ad) x.2.1.length c1], 2, true⟩] V := by
          rw [hft, ← List.append_assoc]
          exact l.sub (.cons_cons _ (.cons _ (List.Sublist.refl _)))
        exact ⟨_, by omega, j + 1, _, _, by omega, rfl, l2, rfl, rfl⟩
    · rw [List.take_of_length_le (by omega)] at l
      rw [hpr]
      simp (disch := omega) only [↓stp, vls, inf, frs, mark_eq, ↓reduceIte, Nat.reduceEqDiff, ite_tt, ite_ff, eq_self, and_true, true_and, and_self, implies_true, Bool.true_eq_false, Bool.false_eq_true, decide_true, decide_false, decide_eq_true_eq, decide_eq_false_iff_not, ne_eq, not_true_eq_false, not_false_eq_true, Bool.not_eq_true', Bool.not_eq_false', beq_self_eq_true, Bool.not_true, Bool.not_false, List.getElem?_toArray, List.getElem?_cons_zero, List.getElem?_cons_succ, h1, h3, h115, h116, h117]
      exact NewSl.of l (i := 0) rfl

end Go.Proofs.Ytjojofnkgeiadaa

