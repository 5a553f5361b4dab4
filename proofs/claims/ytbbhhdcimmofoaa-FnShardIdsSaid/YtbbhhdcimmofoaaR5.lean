/- ShardIds: the reference. -/
import Derived.Test.YtbbhhdcimmofoaaR4
set_option maxHeartbeats 4000000
set_option synthInstance.maxHeartbeats 400000
set_option synthInstance.maxSize 4096
set_option linter.unusedSimpArgs false
set_option linter.unusedVariables false
namespace Go.Proofs.Ytbbhhdcimmofoaa

set_option maxRecDepth 100000

theorem spec_shards_c (A : View) (v u : Value) (ids : List ByteArray) (xs : List PastD) (N : Nat) (h : Sl strS A v ids) (h' : Sl pastS A u xs) (hv : pastB xs = true) (hN0 : 0 < N) (hN4 : N ≤ 4) (hsm : ids.length ≤ 10) : ACalls Try.prog 67 #[v, u, .int .i64 N] A fun r A' => NewSl 24 (slO 9 strO) A r A' ((shd xs N (ssort (costF xs) ids)).map (inOrd ids)) := by
  obtain ⟨a, c, rfl, hc, hl⟩ := h.slice
  obtain ⟨au, cu, rfl, hcu, hlu⟩ := h'.slice
  have hsl := ssort_len (f := costF xs) ids
  refine acalls Try.func67 rfl (by kernel_rfl) ?_
  simp (disch := omega) only [↓stp, vls, inf, frs, mark_eq, ↓reduceIte, Nat.reduceEqDiff, ite_tt, ite_ff, eq_self, and_true, true_and, and_self, implies_true, Bool.true_eq_false, Bool.false_eq_true, decide_true, decide_false, decide_eq_true_eq, decide_eq_false_iff_not, ne_eq, not_true_eq_false, not_false_eq_true, Bool.not_eq_true', Bool.not_eq_false', beq_self_eq_true, Bool.not_true, Bool.not_false, List.getElem?_toArray, List.getElem?_cons_zero, List.getElem?_cons_succ]
  refine led_make mk23 (by omega) (by omega) (Led.nil A) fun b V2 he2 l => ?_
  replace l := prts_new (e := 9) (O := strO) l
  simp (disch := omega) only [↓stp, vls, inf, frs, mark_eq, ↓reduceIte, Nat.reduceEqDiff, ite_tt, ite_ff, eq_self, and_true, true_and, and_self, implies_true, Bool.true_eq_false, Bool.false_eq_true, decide_true, decide_false, decide_eq_true_eq, decide_eq_false_iff_not, ne_eq, not_true_eq_false, not_false_eq_true, Bool.not_eq_true', Bool.not_eq_false', beq_self_eq_true, Bool.not_true, Bool.not_false, List.getElem?_toArray, List.getElem?_cons_zero, List.getElem?_cons_succ]
  refine (spec_slowFirst0_c V2 _ _ ids xs (h.mono he2) (h'.mono he2) hsm hv).mono ?_
  rintro r V3 ⟨f0, l1⟩
  replace l := l.append l1
  generalize ssort (costF xs) ids = ss at l hsl
  obtain ⟨ar, cr, rfl, hcr, hlr⟩ := (show Sl strS V3 r ss from OSl.toS (show OSl 9 strO V3 f0 r ss from l.at (i := 0) rfl)).slice
  simp (disch := omega) only [↓stp, vls, inf, frs, mark_eq, ↓reduceIte, Nat.reduceEqDiff, ite_tt, ite_ff, eq_self, and_true, true_and, and_self, implies_true, Bool.true_eq_false, Bool.false_eq_true, decide_true, decide_false, decide_eq_true_eq, decide_eq_false_iff_not, ne_eq, not_true_eq_false, not_false_eq_true, Bool.not_eq_true', Bool.not_eq_false', beq_self_eq_true, Bool.not_true, Bool.not_false, List.getElem?_toArray, List.getElem?_cons_zero, List.getElem?_cons_succ]
  refine aloop (fun d fr W => ∃ (i : Nat) (ps : List (Prt ByteArray)), i ≤ ss.length ∧ d = ss.length - i ∧ ps.length = N ∧ ps.map (·.2.2) = shd xs N (ss.take i) ∧ Led A (osl 9 strO f0 (.slice ar ss.length cr) ss :: prts b 24 9 strO N ps) W ∧ fr 0 = .slice a ids.length c ∧ fr 1 = .slice au xs.length cu ∧ fr 2 = .int .i64 N ∧ fr 7 = .slice (some ⟨b, 0, none⟩) N N ∧ fr 8 = .slice ar ss.length cr ∧ fr 9 = .int .i64 i) ss.length ⟨0, _, by omega, by omega, by simp, by simp [shd], l, by rfl, by rfl, by rfl, by rfl, by rfl, by rfl⟩ ?_
  clear l
  rintro d fr W ⟨i, ps, hi, rfl, hN, hD, l, h0, h1, h2, h7, h8, h9⟩
  simp (disch := omega) only [↓stp, vls, inf, frs, mark_eq, ↓reduceIte, Nat.reduceEqDiff, ite_tt, ite_ff, eq_self, and_true, true_and, and_self, implies_true, Bool.true_eq_false, Bool.false_eq_true, decide_true, decide_false, decide_eq_true_eq, decide_eq_false_iff_not, ne_eq, not_true_eq_false, not_false_eq_true, Bool.not_eq_true', Bool.not_eq_false', beq_self_eq_true, Bool.not_true, Bool.not_false, List.getElem?_toArray, List.getElem?_cons_zero, List.getElem?_cons_succ, h0, h1, h2, h7, h8, h9]
  refine ⟨fun e => ?_, fun e => ?_⟩
  · have hlt : i < ss.length := by omega
    have hlen := shd_part xs N ss i (by omega)
    have htk := shd_take (xs := xs) (n := N) hlt
    have hDl := shd_len xs N (ss.take i)
    generalize shd xs N (ss.take i) = D at hD hlen htk hDl
    have hrange : ∀ k (hk : k < ps.length), 0 ≤ tot xs ps[k].2.2 ∧ tot xs ps[k].2.2 ≤ 990 := fun k hk => by
      have g1 := tot_range hv ps[k].2.2
      have g2 := hlen _ (prts_data hD hk).2.2
      omega
    simp (disch := omega) only [↓stp, vls, inf, frs, mark_eq, ↓reduceIte, Nat.reduceEqDiff, ite_tt, ite_ff, eq_self, and_true, true_and, and_self, implies_true, Bool.true_eq_false, Bool.false_eq_true, decide_true, decide_false, decide_eq_true_eq, decide_eq_false_iff_not, ne_eq, not_true_eq_false, not_false_eq_true, Bool.not_eq_true', Bool.not_eq_false', beq_self_eq_true, Bool.not_true, Bool.not_false, List.getElem?_toArray, List.getElem?_cons_zero, List.getElem?_cons_succ, h0, h1, h2, h7, h8, h9]
    refine aloop (fun d fr W => ∃ k : Nat, 1 ≤ k ∧ k ≤ N ∧ d = N - k ∧ Led A (osl 9 strO f0 (.slice ar ss.length cr) ss :: prts b 24 9 strO N ps) W ∧ fr 0 = .slice a ids.length c ∧ fr 1 = .slice au xs.length cu ∧ fr 2 = .int .i64 N ∧ fr 7 = .slice (some ⟨b, 0, none⟩) N N ∧ fr 8 = .slice ar ss.length cr ∧ fr 9 = .int .i64 i ∧ fr 10 = .int .i64 (shB xs D k : Nat) ∧ fr 11 = .int .i64 k) (N - 1) ⟨1, by omega, by omega, rfl, l, h0, h1, h2, h7, h8, h9, (by show Value.int .i64 0 = _; unfold shB; rw [bst_one]; rfl), by rfl⟩ ?_
    clear l
    rintro d fr W ⟨k, hk1, hk, rfl, l, h0, h1, h2, h7, h8, h9, h10, h11⟩
    have hb := bst_lt (fun k => tot xs (D.getD k [])) hk (by omega)
    rw [show bst (fun k => tot xs (D.getD k [])) k = shB xs D k from rfl] at hb
    simp (disch := omega) only [↓stp, vls, inf, frs, mark_eq, ↓reduceIte, Nat.reduceEqDiff, ite_tt, ite_ff, eq_self, and_true, true_and, and_self, implies_true, Bool.true_eq_false, Bool.false_eq_true, decide_true, decide_false, decide_eq_true_eq, decide_eq_false_iff_not, ne_eq, not_true_eq_false, not_false_eq_true, Bool.not_eq_true', Bool.not_eq_false', beq_self_eq_true, Bool.not_true, Bool.not_false, List.getElem?_toArray, List.getElem?_cons_zero, List.getElem?_cons_succ, h0, h1, h2, h7, h8, h9, h10, h11]
    refine ⟨fun e5 => ?_, fun e5 => ?_⟩
    · have hkn : k < ps.length := by omega
      obtain ⟨q1, o1⟩ := prts_cell (M := [_]) l hkn
      obtain ⟨q2, o2⟩ := prts_cell (M := [_]) l (k := shB xs D k) (by omega)
      have d1 := (prts_data hD hkn).2.1
      have d2 := (prts_data hD (k := shB xs D k) (by omega)).2.1
      have hst : shB xs D (k + 1) = bstep (fun k => tot xs (D.getD k [])) (shB xs D k) k := rfl
      unfold bstep at hst
      simp only [d1, d2] at hst
      simp (disch := omega) only [↓stp, vls, inf, frs, mark_eq, ↓reduceIte, Nat.reduceEqDiff, ite_tt, ite_ff, eq_self, and_true, true_and, and_self, implies_true, Bool.true_eq_false, Bool.false_eq_true, decide_true, decide_false, decide_eq_true_eq, decide_eq_false_iff_not, ne_eq, not_true_eq_false, not_false_eq_true, Bool.not_eq_true', Bool.not_eq_false', beq_self_eq_true, Bool.not_true, Bool.not_false, List.getElem?_toArray, List.getElem?_cons_zero, List.getElem?_cons_succ, h0, h1, h2, h7, h8, h9, h10, h11]
      refine adraw_items [.q 0, .q 1, .q 2, .l 3 false, .q 4, .q 6, .q 7, .q 8, .l 9 true, .q 10, .c 5 [9], .c 11 [], .q 12] (by kernel_rfl) (by kernel_rfl) ?_
      simp (disch := omega) only [↓stp, ↓pln, plv, nilOk, Nat.reduceBEq, Bool.or_false, Bool.or_true, Bool.false_or, Bool.true_or, vls, inf, frs, mark_eq, ↓reduceIte, Nat.reduceEqDiff, ite_tt, ite_ff, eq_self, and_true, true_and, and_self, implies_true, Bool.true_eq_false, Bool.false_eq_true, decide_true, decide_false, decide_eq_true_eq, decide_eq_false_iff_not, ne_eq, not_true_eq_false, not_false_eq_true, Bool.not_eq_true', Bool.not_eq_false', beq_self_eq_true, Bool.not_true, Bool.not_false, List.getElem?_toArray, List.getElem?_cons_zero, List.getElem?_cons_succ, h0, h1, h2, h7, h8, h9, h10, h11, q1, q2]
      have r1 := hrange k hkn
      have r2 := hrange (shB xs D k) (by omega)
      refine (spec_totalCost_c W _ _ _ xs (OSl.toS o1) (h'.mono l.ext) hv (by have := hlen _ (prts_data hD hkn).2.2; omega)).mono ?_
      rintro _ W2 ⟨rfl, he2⟩
      replace l := l.step he2
      replace q1 := he2.cell q1
      replace q2 := he2.cell q2
      simp (disch := omega) only [↓stp, ↓pln, plv, nilOk, Nat.reduceBEq, Bool.or_false, Bool.or_true, Bool.false_or, Bool.true_or, vls, inf, frs, mark_eq, ↓reduceIte, Nat.reduceEqDiff, ite_tt, ite_ff, eq_self, and_true, true_and, and_self, implies_true, Bool.true_eq_false, Bool.false_eq_true, decide_true, decide_false, decide_eq_true_eq, decide_eq_false_iff_not, ne_eq, not_true_eq_false, not_false_eq_true, Bool.not_eq_true', Bool.not_eq_false', beq_self_eq_true, Bool.not_true, Bool.not_false, List.getElem?_toArray, List.getElem?_cons_zero, List.getElem?_cons_succ, h0, h1, h2, h7, h8, h9, h10, h11, q1, q2]
      refine (spec_totalCost_c W2 _ _ _ xs ((OSl.toS o2).mono he2) (h'.mono l.ext) hv (by have := hlen _ (prts_data hD (k := shB xs D k) (by omega)).2.2; omega)).mono ?_
      rintro _ W3 ⟨rfl, he3⟩
      replace l := l.step he3
      replace q1 := he3.cell q1
      replace q2 := he3.cell q2
      simp (disch := omega) only [↓stp, ↓pln, plv, nilOk, Nat.reduceBEq, Bool.or_false, Bool.or_true, Bool.false_or, Bool.true_or, vls, inf, frs, mark_eq, ↓reduceIte, Nat.reduceEqDiff, ite_tt, ite_ff, eq_self, and_true, true_and, and_self, implies_true, Bool.true_eq_false, Bool.false_eq_true, decide_true, decide_false, decide_eq_true_eq, decide_eq_false_iff_not, ne_eq, not_true_eq_false, not_false_eq_true, Bool.not_eq_true', Bool.not_eq_false', beq_self_eq_true, Bool.not_true, Bool.not_false, List.getElem?_toArray, List.getElem?_cons_zero, List.getElem?_cons_succ, h0, h1, h2, h7, h8, h9, h10, h11, q1, q2]
      refine ⟨fun e6 => ?_, fun e6 => ?_⟩
      · rw [if_pos e6] at hst
        simp (disch := omega) only [↓stp, vls, inf, frs, mark_eq, ↓reduceIte, Nat.reduceEqDiff, ite_tt, ite_ff, eq_self, and_true, true_and, and_self, implies_true, Bool.true_eq_false, Bool.false_eq_true, decide_true, decide_false, decide_eq_true_eq, decide_eq_false_iff_not, ne_eq, not_true_eq_false, not_false_eq_true, Bool.not_eq_true', Bool.not_eq_false', beq_self_eq_true, Bool.not_true, Bool.not_false, List.getElem?_toArray, List.getElem?_cons_zero, List.getElem?_cons_succ, h0, h1, h2, h7, h8, h9, h10, h11]
        exact ⟨_, by omega, k + 1, by omega, by omega, rfl, l, by rw [hst], rfl⟩
      · rw [if_neg e6] at hst
        simp (disch := omega) only [↓stp, vls, inf, frs, mark_eq, ↓reduceIte, Nat.reduceEqDiff, ite_tt, ite_ff, eq_self, and_true, true_and, and_self, implies_true, Bool.true_eq_false, Bool.false_eq_true, decide_true, decide_false, decide_eq_true_eq, decide_eq_false_iff_not, ne_eq, not_true_eq_false, not_false_eq_true, Bool.not_eq_true', Bool.not_eq_false', beq_self_eq_true, Bool.not_true, Bool.not_false, List.getElem?_toArray, List.getElem?_cons_zero, List.getElem?_cons_succ, h0, h1, h2, h7, h8, h9, h10, h11]
        exact ⟨_, by omega, k + 1, by omega, by omega, rfl, l, by rw [hst], rfl⟩
    · obtain rfl : k = N := by omega
      obtain ⟨q2, o2⟩ := prts_cell (M := [_]) l (k := shB xs D k) (by omega)
      have hO : OSl 9 strO W f0 (.slice ar ss.length cr) ss := l.at (i := 0) rfl
      obtain ⟨ad, rfl, k0, z0⟩ := (OSl.toS hO).str hlt
      have d2 := (prts_data hD (k := shB xs D k) (by omega)).2.1
      have g2 := hlen _ (prts_data hD (k := shB xs D k) (by omega)).2.2
      unfold shStep at htk
      rw [hDl, d2] at htk
      simp (disch := omega) only [↓stp, vls, inf, frs, mark_eq, ↓reduceIte, Nat.reduceEqDiff, ite_tt, ite_ff, eq_self, and_true, true_and, and_self, implies_true, Bool.true_eq_false, Bool.false_eq_true, decide_true, decide_false, decide_eq_true_eq, decide_eq_false_iff_not, ne_eq, not_true_eq_false, not_false_eq_true, Bool.not_eq_true', Bool.not_eq_false', beq_self_eq_true, Bool.not_true, Bool.not_false, List.getElem?_toArray, List.getElem?_cons_zero, List.getElem?_cons_succ, h0, h1, h2, h7, h8, h9, h10, h11]
      refine adraw_items [.q 0, .q 1, .q 2, .q 3, .q 4, .l 5 false, .q 6, .q 7, .q 8, .l 9 false, .c 10 [], .c 11 [], .q 12, .c 13 []] (by kernel_rfl) (by kernel_rfl) ?_
      simp (disch := omega) only [↓stp, ↓pln, plv, nilOk, Nat.reduceBEq, Bool.or_false, Bool.or_true, Bool.false_or, Bool.true_or, vls, inf, frs, mark_eq, ↓reduceIte, Nat.reduceEqDiff, ite_tt, ite_ff, eq_self, and_true, true_and, and_self, implies_true, Bool.true_eq_false, Bool.false_eq_true, decide_true, decide_false, decide_eq_true_eq, decide_eq_false_iff_not, ne_eq, not_true_eq_false, not_false_eq_true, Bool.not_eq_true', Bool.not_eq_false', beq_self_eq_true, Bool.not_true, Bool.not_false, List.getElem?_toArray, List.getElem?_cons_zero, List.getElem?_cons_succ, h0, h1, h2, h7, h8, h9, h10, h11, q2, k0]
      refine led_lit li24 (by omega) rfl (fun p hp => by rcases List.mem_singleton.1 hp with rfl; exact ⟨rfl, rfl⟩) l fun bl W2 he2 l => ?_
      replace q2 := he2.cell q2
      replace k0 := he2.cell k0
      simp (disch := omega) only [↓stp, ↓pln, plv, nilOk, Nat.reduceBEq, Bool.or_false, Bool.or_true, Bool.false_or, Bool.true_or, vls, inf, frs, mark_eq, ↓reduceIte, Nat.reduceEqDiff, ite_tt, ite_ff, eq_self, and_true, true_and, and_self, implies_true, Bool.true_eq_false, Bool.false_eq_true, decide_true, decide_false, decide_eq_true_eq, decide_eq_false_iff_not, ne_eq, not_true_eq_false, not_false_eq_true, Bool.not_eq_true', Bool.not_eq_false', beq_self_eq_true, Bool.not_true, Bool.not_false, List.getElem?_toArray, List.getElem?_cons_zero, List.getElem?_cons_succ, h0, h1, h2, h7, h8, h9, h10, h11, q2, k0, false_implies]
      refine led_app (O := strO) ap24_24 (by decide) l (i := shB xs D k + 3) (show (prts b 24 9 strO k ps)[shB xs D k + 1]? = _ from prts_at (by omega)) (l.src1 (S := strS) (j := 0) rfl ⟨rfl, z0⟩) (by rw [List.length_singleton]; omega) fun fp2 w2 W3 _ l => ?_
      replace l : Led A (osl 9 strO f0 (.slice (some ad) ss.length cr) ss :: (prts b 24 9 strO k ps).set (shB xs D k + 1) (osl 9 strO fp2 w2 (ps[shB xs D k].2.2 ++ [ss[i]]))) W3 := l.tail
      simp (disch := omega) only [↓stp, ↓pln, plv, nilOk, Nat.reduceBEq, Bool.or_false, Bool.or_true, Bool.false_or, Bool.true_or, vls, inf, frs, mark_eq, ↓reduceIte, Nat.reduceEqDiff, ite_tt, ite_ff, eq_self, and_true, true_and, and_self, implies_true, Bool.true_eq_false, Bool.false_eq_true, decide_true, decide_false, decide_eq_true_eq, decide_eq_false_iff_not, ne_eq, not_true_eq_false, not_false_eq_true, Bool.not_eq_true', Bool.not_eq_false', beq_self_eq_true, Bool.not_true, Bool.not_false, List.getElem?_toArray, List.getElem?_cons_zero, List.getElem?_cons_succ, h0, h1, h2, h7, h8, h9, h10, h11, false_implies]
      have hw2 : w2.cells = #[w2] ∧ w2.oneCell' = true := by
        obtain ⟨_, ⟨hq, _⟩ | ⟨_, _, _, _, hq, _⟩⟩ := (show OSl 9 strO W3 fp2 w2 _ from l.at (i := shB xs D k + 2) (by rw [List.getElem?_cons_succ, List.getElem?_set_self]; simp [prts]; omega)) <;> rw [hq] <;> exact ⟨rfl, rfl⟩
      rw [add_at, Nat.zero_add]
      refine led_storeC l 1 rfl sz24 hw2 (by rw [List.length_map]; omega) fun W4 l => ?_
      simp (disch := omega) only [↓stp, ↓pln, plv, nilOk, Nat.reduceBEq, Bool.or_false, Bool.or_true, Bool.false_or, Bool.true_or, vls, inf, frs, mark_eq, ↓reduceIte, Nat.reduceEqDiff, ite_tt, ite_ff, eq_self, and_true, true_and, and_self, implies_true, Bool.true_eq_false, Bool.false_eq_true, decide_true, decide_false, decide_eq_true_eq, decide_eq_false_iff_not, ne_eq, not_true_eq_false, not_false_eq_true, Bool.not_eq_true', Bool.not_eq_false', beq_self_eq_true, Bool.not_true, Bool.not_false, List.getElem?_toArray, List.getElem?_cons_zero, List.getElem?_cons_succ, h0, h1, h2, h7, h8, h9, h10, h11, false_implies]
      have hl2 : Led A (osl 9 strO f0 (.slice (some ad) ss.length cr) ss :: prts b 24 9 strO k (ps.set (shB xs D k) (fp2, w2, ps[shB xs D k].2.2 ++ [ss[i]]))) W4 := by
        rw [← prts_set]
        exact l
      exact ⟨_, by omega, i + 1, _, by omega, rfl, by rw [List.length_set]; exact hN, by rw [List.map_set, hD, htk], hl2, rfl⟩
  · simp (disch := omega) only [↓stp, vls, inf, frs, mark_eq, ↓reduceIte, Nat.reduceEqDiff, ite_tt, ite_ff, eq_self, and_true, true_and, and_self, implies_true, Bool.true_eq_false, Bool.false_eq_true, decide_true, decide_false, decide_eq_true_eq, decide_eq_false_iff_not, ne_eq, not_true_eq_false, not_false_eq_true, Bool.not_eq_true', Bool.not_eq_false', beq_self_eq_true, Bool.not_true, Bool.not_false, List.getElem?_toArray, List.getElem?_cons_zero, List.getElem?_cons_succ, h0, h1, h2, h7, h8, h9]
    obtain rfl : i = ss.length := by omega
    rw [List.take_length] at hD
    replace l : Led A (prts b 24 9 strO N ps) W := l.tail
    have hDl := shd_len xs N ss
    generalize shd xs N ss = D at hD hDl
    refine aloop (fun d fr W => ∃ (k : Nat) (ps : List (Prt ByteArray)), k ≤ N ∧ d = N - k ∧ ps.length = N ∧ ps.map (·.2.2) = (D.take k).map (inOrd ids) ++ D.drop k ∧ Led A (prts b 24 9 strO N ps) W ∧ fr 0 = .slice a ids.length c ∧ fr 2 = .int .i64 N ∧ fr 7 = .slice (some ⟨b, 0, none⟩) N N ∧ fr 12 = .int .i64 k) N ⟨0, ps, by omega, by omega, hN, by rw [hD]; rfl, l, h0, h2, h7, by rfl⟩ ?_
    clear l hN hD
    rintro d fr W ⟨k, ps, hk, rfl, hN, hD, l, h0, h2, h7, h12⟩
    simp (disch := omega) only [↓stp, vls, inf, frs, mark_eq, ↓reduceIte, Nat.reduceEqDiff, ite_tt, ite_ff, eq_self, and_true, true_and, and_self, implies_true, Bool.true_eq_false, Bool.false_eq_true, decide_true, decide_false, decide_eq_true_eq, decide_eq_false_iff_not, ne_eq, not_true_eq_false, not_false_eq_true, Bool.not_eq_true', Bool.not_eq_false', beq_self_eq_true, Bool.not_true, Bool.not_false, List.getElem?_toArray, List.getElem?_cons_zero, List.getElem?_cons_succ, h0, h2, h7, h12]
    refine ⟨fun e => ?_, fun e => ?_⟩
    · have hkn : k < ps.length := by omega
      obtain ⟨q1, o1⟩ := prts_cell (M := []) l hkn
      have d1 := (prts_data hD hkn).1
      rw [List.getElem?_append_right (by simp; omega), List.length_map, List.length_take, Nat.min_eq_left (by omega), Nat.sub_self, List.getElem?_drop, Nat.add_zero, List.getElem?_eq_getElem (by omega)] at d1
      replace d1 := Option.some.inj d1
      simp (disch := omega) only [↓stp, vls, inf, frs, mark_eq, ↓reduceIte, Nat.reduceEqDiff, ite_tt, ite_ff, eq_self, and_true, true_and, and_self, implies_true, Bool.true_eq_false, Bool.false_eq_true, decide_true, decide_false, decide_eq_true_eq, decide_eq_false_iff_not, ne_eq, not_true_eq_false, not_false_eq_true, Bool.not_eq_true', Bool.not_eq_false', beq_self_eq_true, Bool.not_true, Bool.not_false, List.getElem?_toArray, List.getElem?_cons_zero, List.getElem?_cons_succ, h0, h2, h7, h12, q1]
      refine (spec_inOrderOf_c W _ _ ids ps[k].2.2 (h.mono l.ext) (OSl.toS o1) (by omega)).mono ?_
      rintro w2 W2 ⟨fp2, l1⟩
      replace l := (l.append l1).put (i := k + 1) (by simp [prts]; omega)
      simp (disch := omega) only [↓stp, vls, inf, frs, mark_eq, ↓reduceIte, Nat.reduceEqDiff, ite_tt, ite_ff, eq_self, and_true, true_and, and_self, implies_true, Bool.true_eq_false, Bool.false_eq_true, decide_true, decide_false, decide_eq_true_eq, decide_eq_false_iff_not, ne_eq, not_true_eq_false, not_false_eq_true, Bool.not_eq_true', Bool.not_eq_false', beq_self_eq_true, Bool.not_true, Bool.not_false, List.getElem?_toArray, List.getElem?_cons_zero, List.getElem?_cons_succ, h0, h2, h7, h12, add_at, Nat.zero_add]
      have hw2 : w2.cells = #[w2] ∧ w2.oneCell' = true := by
        obtain ⟨_, ⟨hq, _⟩ | ⟨_, _, _, _, hq, _⟩⟩ := (show OSl 9 strO W2 fp2 w2 _ from l1.at (i := 0) rfl) <;> rw [hq] <;> exact ⟨rfl, rfl⟩
      refine led_storeC l 0 rfl sz24 hw2 (by rw [List.length_map]; omega) fun W4 l => ?_
      simp (disch := omega) only [↓stp, vls, inf, frs, mark_eq, ↓reduceIte, Nat.reduceEqDiff, ite_tt, ite_ff, eq_self, and_true, true_and, and_self, implies_true, Bool.true_eq_false, Bool.false_eq_true, decide_true, decide_false, decide_eq_true_eq, decide_eq_false_iff_not, ne_eq, not_true_eq_false, not_false_eq_true, Bool.not_eq_true', Bool.not_eq_false', beq_self_eq_true, Bool.not_true, Bool.not_false, List.getElem?_toArray, List.getElem?_cons_zero, List.getElem?_cons_succ, h0, h2, h7, h12]
      have hl2 : Led A (prts b 24 9 strO N (ps.set k (fp2, w2, inOrd ids ps[k].2.2))) W4 := by
        rw [← prts_set]
        exact l
      refine ⟨_, ?_, k + 1, _, by omega, rfl, by rw [List.length_set]; exact hN, ?_, hl2, rfl⟩
      · omega
      · rw [List.map_set, hD, ← map_put (f := inOrd ids) (k := k) (D := D) (by omega), d1]
    · simp (disch := omega) only [↓stp, vls, inf, frs, mark_eq, ↓reduceIte, Nat.reduceEqDiff, ite_tt, ite_ff, eq_self, and_true, true_and, and_self, implies_true, Bool.true_eq_false, Bool.false_eq_true, decide_true, decide_false, decide_eq_true_eq, decide_eq_false_iff_not, ne_eq, not_true_eq_false, not_false_eq_true, Bool.not_eq_true', Bool.not_eq_false', beq_self_eq_true, Bool.not_true, Bool.not_false, List.getElem?_toArray, List.getElem?_cons_zero, List.getElem?_cons_succ, h0, h2, h7, h12]
      obtain rfl : k = N := by omega
      rw [← hDl, List.take_length, List.drop_length, List.append_nil] at hD
      rw [← hD]
      subst hN
      exact ⟨_, prts_osl l (by omega)⟩

theorem spec_shardIds_c (A : View) (v u : Value) (ids : List ByteArray) (xs : List PastD) (n : Int) (h : Sl strS A v ids) (h' : Sl pastS A u xs) : ACalls Try.prog 38 #[v, u, .int .i64 n] A fun r A' => NewSl 24 (slO 9 strO) A r A' (shardR ids xs n) := by
  refine acalls Try.func38 rfl (by kernel_rfl) ?_
  simp (disch := omega) only [↓stp, vls, inf, frs, mark_eq, ↓reduceIte, Nat.reduceEqDiff, ite_tt, ite_ff, eq_self, and_true, true_and, and_self, implies_true, Bool.true_eq_false, Bool.false_eq_true, decide_true, decide_false, decide_eq_true_eq, decide_eq_false_iff_not, ne_eq, not_true_eq_false, not_false_eq_true, Bool.not_eq_true', Bool.not_eq_false', beq_self_eq_true, Bool.not_true, Bool.not_false, List.getElem?_toArray, List.getElem?_cons_zero, List.getElem?_cons_succ]
  refine (spec_goodOrder_c A _ _ ids xs h h').mono ?_
  rintro _ A ⟨rfl, rfl⟩
  simp (disch := omega) only [↓stp, vls, inf, frs, mark_eq, ↓reduceIte, Nat.reduceEqDiff, ite_tt, ite_ff, eq_self, and_true, true_and, and_self, implies_true, Bool.true_eq_false, Bool.false_eq_true, decide_true, decide_false, decide_eq_true_eq, decide_eq_false_iff_not, ne_eq, not_true_eq_false, not_false_eq_true, Bool.not_eq_true', Bool.not_eq_false', beq_self_eq_true, Bool.not_true, Bool.not_false, List.getElem?_toArray, List.getElem?_cons_zero, List.getElem?_cons_succ]
  refine ⟨fun e1 => ?_, fun e1 => ?_⟩ <;> simp (disch := omega) only [↓stp, vls, inf, frs, mark_eq, ↓reduceIte, Nat.reduceEqDiff, ite_tt, ite_ff, eq_self, and_true, true_and, and_self, implies_true, Bool.true_eq_false, Bool.false_eq_true, decide_true, decide_false, decide_eq_true_eq, decide_eq_false_iff_not, ne_eq, not_true_eq_false, not_false_eq_true, Bool.not_eq_true', Bool.not_eq_false', beq_self_eq_true, Bool.not_true, Bool.not_false, List.getElem?_toArray, List.getElem?_cons_zero, List.getElem?_cons_succ, e1]
  · refine (spec_inRange_c A _ _ _).mono ?_
    rintro _ A ⟨rfl, rfl⟩
    simp (disch := omega) only [↓stp, vls, inf, frs, mark_eq, ↓reduceIte, Nat.reduceEqDiff, ite_tt, ite_ff, eq_self, and_true, true_and, and_self, implies_true, Bool.true_eq_false, Bool.false_eq_true, decide_true, decide_false, decide_eq_true_eq, decide_eq_false_iff_not, ne_eq, not_true_eq_false, not_false_eq_true, Bool.not_eq_true', Bool.not_eq_false', beq_self_eq_true, Bool.not_true, Bool.not_false, List.getElem?_toArray, List.getElem?_cons_zero, List.getElem?_cons_succ, e1]
    refine ⟨fun e2 => ?_, fun e2 => ?_⟩ <;> simp (disch := omega) only [↓stp, vls, inf, frs, mark_eq, ↓reduceIte, Nat.reduceEqDiff, ite_tt, ite_ff, eq_self, and_true, true_and, and_self, implies_true, Bool.true_eq_false, Bool.false_eq_true, decide_true, decide_false, decide_eq_true_eq, decide_eq_false_iff_not, ne_eq, not_true_eq_false, not_false_eq_true, Bool.not_eq_true', Bool.not_eq_false', beq_self_eq_true, Bool.not_true, Bool.not_false, List.getElem?_toArray, List.getElem?_cons_zero, List.getElem?_cons_succ]
    · have : shardR ids xs n = [] := by unfold shardR; rw [e2, Bool.and_false]; rfl
      rw [this]; exact NewSl.nil (Ext.refl _)
    · have hp : shardR ids xs n = (shd xs n.toNat (ssort (costF xs) ids)).map (inOrd ids) := by unfold shardR; rw [e1, e2]; rfl
      rw [Bool.and_eq_true] at e1
      rw [Bool.and_eq_true, decide_eq_true_eq, decide_eq_true_eq] at e2
      obtain ⟨N, rfl⟩ : ∃ N : Nat, n = N := ⟨n.toNat, by omega⟩
      refine (spec_shards_c A v u ids xs N h h' e1.2 (by omega) (by omega) (idsB_len e1.1)).mono ?_
      intro r A' hq
      simp (disch := omega) only [↓stp, vls, inf, frs, mark_eq, ↓reduceIte, Nat.reduceEqDiff, ite_tt, ite_ff, eq_self, and_true, true_and, and_self, implies_true, Bool.true_eq_false, Bool.false_eq_true, decide_true, decide_false, decide_eq_true_eq, decide_eq_false_iff_not, ne_eq, not_true_eq_false, not_false_eq_true, Bool.not_eq_true', Bool.not_eq_false', beq_self_eq_true, Bool.not_true, Bool.not_false, List.getElem?_toArray, List.getElem?_cons_zero, List.getElem?_cons_succ]
      rw [hp]
      exact hq
  · have : shardR ids xs n = [] := by unfold shardR; rw [e1]; rfl
    rw [this]; exact NewSl.nil (Ext.refl _)

theorem shardR_cnt (ids : List ByteArray) (xs : List PastD) (n : Int) : (shardR ids xs n).length ≤ 4 ∧ ∀ p, p ∈ shardR ids xs n → p.length ≤ 10 := by
  unfold shardR
  split
  · rename_i h
    simp only [Bool.and_eq_true, decide_eq_true_eq] at h
    refine ⟨?_, fun p hp => ?_⟩
    · rw [List.length_map, shd_len]; omega
    · obtain ⟨q, _, rfl⟩ := List.mem_map.1 hp
      have := idsB_len h.1.1
      have h2 : (inOrd ids q).length ≤ ids.length := List.length_filter_le _ _
      omega
  · simp

end Go.Proofs.Ytbbhhdcimmofoaa

