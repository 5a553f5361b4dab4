/- The law FnShardIds. -/
import Derived.Test.YtbbhhdcimmofoaaHF
import Derived.Test.YtbbhhdcimmofoaaHD
import Derived.Test.YtbbhhdcimmofoaaY5
set_option maxHeartbeats 4000000
set_option synthInstance.maxHeartbeats 400000
set_option synthInstance.maxSize 4096
set_option linter.unusedSimpArgs false
set_option linter.unusedVariables false
namespace Go.Proofs.Ytbbhhdcimmofoaa

set_option maxRecDepth 100000

theorem take_flatten {xs : List (List ByteArray)} {i : Nat} (h : i < xs.length) : (xs.take (i + 1)).flatten = (xs.take i).flatten ++ xs[i] := by
  rw [List.take_succ_eq_append_getElem h, List.flatten_append]
  simp

theorem law_FnShardIds (A : View) (v0 : Value) (x0 : List UInt8) (h0 : Sl byteS A v0 x0) : ACalls Try.prog 9 #[v0] A fun r _ => r = .bool true := by
  obtain ⟨a, c, rfl, _, _⟩ := h0.slice
  refine acalls Try.func9 rfl (by kernel_rfl) ?_
  simp (disch := omega) only [↓stq, amv_at, vls, inf, frs, mark_eq, ↓reduceIte, Nat.reduceEqDiff, ite_tt, ite_ff, eq_self, and_true, true_and, and_self, implies_true, Bool.true_eq_false, Bool.false_eq_true, decide_true, decide_false, decide_eq_true_eq, decide_eq_false_iff_not, ne_eq, not_true_eq_false, not_false_eq_true, Bool.not_eq_true', Bool.not_eq_false', beq_self_eq_true, Bool.not_true, Bool.not_false, List.getElem?_toArray, List.getElem?_cons_zero, List.getElem?_cons_succ]
  refine ⟨fun e => ?_, fun e => ?_⟩ <;> simp (disch := omega) only [↓stq, amv_at, vls, inf, frs, mark_eq, ↓reduceIte, Nat.reduceEqDiff, ite_tt, ite_ff, eq_self, and_true, true_and, and_self, implies_true, Bool.true_eq_false, Bool.false_eq_true, decide_true, decide_false, decide_eq_true_eq, decide_eq_false_iff_not, ne_eq, not_true_eq_false, not_false_eq_true, Bool.not_eq_true', Bool.not_eq_false', beq_self_eq_true, Bool.not_true, Bool.not_false, List.getElem?_toArray, List.getElem?_cons_zero, List.getElem?_cons_succ]
  refine (DrawShardIds_c A _ x0 h0).mono ?_
  rintro _ V ⟨vi, vp, ids, xs, n, rfl, hil, hxl, hn0, hn5, hI, hP, _⟩
  obtain ⟨ai, ci, rfl, _, _⟩ := hI.slice
  obtain ⟨ap, cp, rfl, _, _⟩ := hP.slice
  simp (disch := omega) only [↓stq, amv_at, vls, inf, frs, mark_eq, ↓reduceIte, Nat.reduceEqDiff, ite_tt, ite_ff, eq_self, and_true, true_and, and_self, implies_true, Bool.true_eq_false, Bool.false_eq_true, decide_true, decide_false, decide_eq_true_eq, decide_eq_false_iff_not, ne_eq, not_true_eq_false, not_false_eq_true, Bool.not_eq_true', Bool.not_eq_false', beq_self_eq_true, Bool.not_true, Bool.not_false, List.getElem?_toArray, List.getElem?_cons_zero, List.getElem?_cons_succ]
  refine (impl_shardIds_c V _ _ ids xs n hI hP (by omega)).mono ?_
  rintro u0 V1 ⟨f1, l1⟩
  have hO1 : Sl (slS strS) V1 u0 (shardR ids xs n) := OSl.toS (l1.at (i := 0) rfl)
  obtain ⟨R, hR⟩ : ∃ R, shardR ids xs n = R := ⟨_, rfl⟩
  rw [hR] at hO1
  obtain ⟨au, cu, rfl, _, hRl⟩ := hO1.slice
  simp (disch := omega) only [↓stq, amv_at, vls, inf, frs, mark_eq, ↓reduceIte, Nat.reduceEqDiff, ite_tt, ite_ff, eq_self, and_true, true_and, and_self, implies_true, Bool.true_eq_false, Bool.false_eq_true, decide_true, decide_false, decide_eq_true_eq, decide_eq_false_iff_not, ne_eq, not_true_eq_false, not_false_eq_true, Bool.not_eq_true', Bool.not_eq_false', beq_self_eq_true, Bool.not_true, Bool.not_false, List.getElem?_toArray, List.getElem?_cons_zero, List.getElem?_cons_succ]
  refine (spec_shardIds_c V1 _ _ ids xs n (hI.mono l1.ext) (hP.mono l1.ext)).mono ?_
  rintro w0 V2 ⟨f2, l2⟩
  have hW2 : Sl (slS strS) V2 w0 (shardR ids xs n) := OSl.toS (l2.at (i := 0) rfl)
  rw [hR] at hW2
  obtain ⟨aw, cw, rfl, _, _⟩ := hW2.slice
  have hI2 := (hI.mono l1.ext).mono l2.ext
  have hP2 := (hP.mono l1.ext).mono l2.ext
  have hO2 := hO1.mono l2.ext
  clear l1 l2
  simp (disch := omega) only [↓stq, amv_at, vls, inf, frs, mark_eq, ↓reduceIte, Nat.reduceEqDiff, ite_tt, ite_ff, eq_self, and_true, true_and, and_self, implies_true, Bool.true_eq_false, Bool.false_eq_true, decide_true, decide_false, decide_eq_true_eq, decide_eq_false_iff_not, ne_eq, not_true_eq_false, not_false_eq_true, Bool.not_eq_true', Bool.not_eq_false', beq_self_eq_true, Bool.not_true, Bool.not_false, List.getElem?_toArray, List.getElem?_cons_zero, List.getElem?_cons_succ]
  refine (laws_equalLists_c V2 _ _ R R hO2 hW2).mono ?_
  rintro _ V2 ⟨rfl, rfl⟩
  simp (disch := omega) only [↓stq, amv_at, vls, inf, frs, mark_eq, ↓reduceIte, Nat.reduceEqDiff, ite_tt, ite_ff, eq_self, and_true, true_and, and_self, implies_true, Bool.true_eq_false, Bool.false_eq_true, decide_true, decide_false, decide_eq_true_eq, decide_eq_false_iff_not, ne_eq, not_true_eq_false, not_false_eq_true, Bool.not_eq_true', Bool.not_eq_false', beq_self_eq_true, Bool.not_true, Bool.not_false, List.getElem?_toArray, List.getElem?_cons_zero, List.getElem?_cons_succ]
  refine ⟨fun e1 => ?_, fun e1 => ?_⟩ <;> simp (disch := omega) only [↓stq, amv_at, vls, inf, frs, mark_eq, ↓reduceIte, Nat.reduceEqDiff, ite_tt, ite_ff, eq_self, and_true, true_and, and_self, implies_true, Bool.true_eq_false, Bool.false_eq_true, decide_true, decide_false, decide_eq_true_eq, decide_eq_false_iff_not, ne_eq, not_true_eq_false, not_false_eq_true, Bool.not_eq_true', Bool.not_eq_false', beq_self_eq_true, Bool.not_true, Bool.not_false, List.getElem?_toArray, List.getElem?_cons_zero, List.getElem?_cons_succ]
  · refine (spec_shardIds_c V2 _ _ ids xs n hI2 hP2).mono ?_
    rintro w0 V3 ⟨f3, l3⟩
    rw [hR] at l3
    have hW3 : Sl (slS strS) V3 w0 R := OSl.toS (l3.at (i := 0) rfl)
    obtain ⟨aw3, cw3, rfl, _, _⟩ := hW3.slice
    simp (disch := omega) only [↓stq, amv_at, vls, inf, frs, mark_eq, ↓reduceIte, Nat.reduceEqDiff, ite_tt, ite_ff, eq_self, and_true, true_and, and_self, implies_true, Bool.true_eq_false, Bool.false_eq_true, decide_true, decide_false, decide_eq_true_eq, decide_eq_false_iff_not, ne_eq, not_true_eq_false, not_false_eq_true, Bool.not_eq_true', Bool.not_eq_false', beq_self_eq_true, Bool.not_true, Bool.not_false, List.getElem?_toArray, List.getElem?_cons_zero, List.getElem?_cons_succ]
    refine (laws_equalLists_c V3 _ _ R R (hO2.mono l3.ext) hW3).mono ?_
    rintro _ V3 ⟨rfl, rfl⟩
    simp (disch := omega) only [↓stq, amv_at, vls, inf, frs, mark_eq, ↓reduceIte, Nat.reduceEqDiff, ite_tt, ite_ff, eq_self, and_true, true_and, and_self, implies_true, Bool.true_eq_false, Bool.false_eq_true, decide_true, decide_false, decide_eq_true_eq, decide_eq_false_iff_not, ne_eq, not_true_eq_false, not_false_eq_true, Bool.not_eq_true', Bool.not_eq_false', beq_self_eq_true, Bool.not_true, Bool.not_false, List.getElem?_toArray, List.getElem?_cons_zero, List.getElem?_cons_succ]
  · obtain ⟨g1, g2, g3, g4, hS⟩ := shard_ok (ids := ids) (xs := xs) (n := n) (by rw [hR]; omega)
    rw [hR] at hS
    have hpos : 0 < R.length := by omega
    have hn := idsB_nodup g1
    have hT : ∀ p, p ∈ R → totI p xs = tot xs p := fun p hp => by
      unfold totI
      rw [idsB_sub (hS.sub p hp) g1, g2]
      rfl
    have hcI : ∀ y, costI xs y = costF xs y := fun y => by unfold costI; rw [if_pos g2]
    have hfl : R.flatten.length ≤ 9 := by rw [hS.perm.length_eq]; exact hil
    have hpl : ∀ p, p ∈ R → p.length ≤ 9 := fun p hp => Nat.le_trans (hS.sub p hp).length_le hil
    have htr : ∀ p, p ∈ R → 0 ≤ tot xs p ∧ tot xs p ≤ 891 := fun p hp => by
      have h1 := tot_range g2 p
      have h2 := hpl p hp
      omega
    clear hR
    refine led_lit0 (O := strO) li24 (Led.nil V2) fun b V _ l => ?_
    obtain ⟨ad, bb, m, rfl, kk, hs⟩ := (hO2.mono l.ext).strs (i := 0) hpos
    simp (disch := omega) only [↓stq, amv_at, vls, inf, frs, mark_eq, ↓reduceIte, Nat.reduceEqDiff, ite_tt, ite_ff, eq_self, and_true, true_and, and_self, implies_true, Bool.true_eq_false, Bool.false_eq_true, decide_true, decide_false, decide_eq_true_eq, decide_eq_false_iff_not, ne_eq, not_true_eq_false, not_false_eq_true, Bool.not_eq_true', Bool.not_eq_false', beq_self_eq_true, Bool.not_true, Bool.not_false, List.getElem?_toArray, List.getElem?_cons_zero, List.getElem?_cons_succ, kk, Int.toNat_zero]
    refine (impl_TotalCost_c V _ _ _ xs hs (hP2.mono l.ext) (by omega)).mono ?_
    rintro _ V3 ⟨rfl, he⟩
    rw [hT _ (List.getElem_mem hpos)]
    replace l := l.step he
    simp (disch := omega) only [↓stq, amv_at, vls, inf, frs, mark_eq, ↓reduceIte, Nat.reduceEqDiff, ite_tt, ite_ff, eq_self, and_true, true_and, and_self, implies_true, Bool.true_eq_false, Bool.false_eq_true, decide_true, decide_false, decide_eq_true_eq, decide_eq_false_iff_not, ne_eq, not_true_eq_false, not_false_eq_true, Bool.not_eq_true', Bool.not_eq_false', beq_self_eq_true, Bool.not_true, Bool.not_false, List.getElem?_toArray, List.getElem?_cons_zero, List.getElem?_cons_succ]
    refine aloop (fun d fr V => ∃ (k : Nat) (fa : List Nat) (wa : Value) (p : List ByteArray), p ∈ R ∧ k ≤ R.length ∧ d = R.length - k ∧ Led V2 [osl 9 strO fa wa (R.take k).flatten] V ∧ fr 3 = .slice ai ids.length ci ∧ fr 4 = .slice ap xs.length cp ∧ fr 5 = .int .i64 n ∧ fr 6 = .slice (some ad) R.length cu ∧ fr 7 = wa ∧ fr 8 = .int .i64 (tot xs p) ∧ fr 9 = .int .i64 k) R.length ⟨0, _, _, _, List.getElem_mem hpos, by omega, by omega, l, by rfl, by rfl, by rfl, by rfl, by rfl, by rfl, by rfl⟩ ?_
    clear l kk hs he
    rintro d fr V ⟨k, fa, wa, p, hp, hk, rfl, l, q3, q4, q5, q6, q7, q8, q9⟩
    simp (disch := omega) only [↓stq, amv_at, vls, inf, frs, mark_eq, ↓reduceIte, Nat.reduceEqDiff, ite_tt, ite_ff, eq_self, and_true, true_and, and_self, implies_true, Bool.true_eq_false, Bool.false_eq_true, decide_true, decide_false, decide_eq_true_eq, decide_eq_false_iff_not, ne_eq, not_true_eq_false, not_false_eq_true, Bool.not_eq_true', Bool.not_eq_false', beq_self_eq_true, Bool.not_true, Bool.not_false, List.getElem?_toArray, List.getElem?_cons_zero, List.getElem?_cons_succ, q3, q4, q5, q6, q7, q8, q9]
    refine ⟨fun e3 => ?_, fun e3 => ?_⟩
    · have hlt : k < R.length := by omega
      have hRk := List.getElem_mem hlt
      obtain ⟨_, bb, m, hq, kk, hs⟩ := (hO2.mono l.ext).strs (i := k) hlt
      obtain rfl := Option.some.inj hq
      have hlen : (R.take k).flatten.length + (R[k]).length ≤ 9 := by
        have h1 := take_flatten hlt
        have h2 := congrArg List.length h1
        rw [List.length_append] at h2
        have h3 : ((R.take (k + 1)).flatten).length ≤ R.flatten.length := by
          conv => rhs; rw [← List.take_append_drop (k + 1) R]
          rw [List.flatten_append, List.length_append]
          omega
        omega
      simp (disch := omega) only [↓stq, amv_at, vls, inf, frs, mark_eq, ↓reduceIte, Nat.reduceEqDiff, ite_tt, ite_ff, eq_self, and_true, true_and, and_self, implies_true, Bool.true_eq_false, Bool.false_eq_true, decide_true, decide_false, decide_eq_true_eq, decide_eq_false_iff_not, ne_eq, not_true_eq_false, not_false_eq_true, Bool.not_eq_true', Bool.not_eq_false', beq_self_eq_true, Bool.not_true, Bool.not_false, List.getElem?_toArray, List.getElem?_cons_zero, List.getElem?_cons_succ, q3, q4, q5, q6, q7, q8, q9, kk]
      refine led_app (O := strO) ap24_24 (by decide) l (i := 0) rfl (Sl.srcOf hs) (by omega) fun fa2 wa2 V4 _ l => ?_
      obtain ⟨_, bb, m, hq, kk, hs⟩ := (hO2.mono l.ext).strs (i := k) hlt
      obtain rfl := Option.some.inj hq
      simp (disch := omega) only [↓stq, amv_at, vls, inf, frs, mark_eq, ↓reduceIte, Nat.reduceEqDiff, ite_tt, ite_ff, eq_self, and_true, true_and, and_self, implies_true, Bool.true_eq_false, Bool.false_eq_true, decide_true, decide_false, decide_eq_true_eq, decide_eq_false_iff_not, ne_eq, not_true_eq_false, not_false_eq_true, Bool.not_eq_true', Bool.not_eq_false', beq_self_eq_true, Bool.not_true, Bool.not_false, List.getElem?_toArray, List.getElem?_cons_zero, List.getElem?_cons_succ, q3, q4, q5, q6, q7, q8, q9, kk]
      refine (impl_TotalCost_c V4 _ _ _ xs hs (hP2.mono l.ext) (by omega)).mono ?_
      rintro _ V5 ⟨rfl, he⟩
      rw [hT _ hRk]
      replace l := l.step he
      obtain ⟨_, bb, m, hq, kk, hs⟩ := (hO2.mono l.ext).strs (i := k) hlt
      obtain rfl := Option.some.inj hq
      obtain ⟨p2, hp2, hpe⟩ : ∃ p2, p2 ∈ R ∧ (if tot xs R[k] < tot xs p then tot xs R[k] else tot xs p) = tot xs p2 := by
        split
        · exact ⟨_, hRk, rfl⟩
        · exact ⟨_, hp, rfl⟩
      simp (disch := omega) only [↓stq, amv_at, vls, inf, frs, mark_eq, ↓reduceIte, Nat.reduceEqDiff, ite_tt, ite_ff, eq_self, and_true, true_and, and_self, implies_true, Bool.true_eq_false, Bool.false_eq_true, decide_true, decide_false, decide_eq_true_eq, decide_eq_false_iff_not, ne_eq, not_true_eq_false, not_false_eq_true, Bool.not_eq_true', Bool.not_eq_false', beq_self_eq_true, Bool.not_true, Bool.not_false, List.getElem?_toArray, List.getElem?_cons_zero, List.getElem?_cons_succ, q3, q4, q5, q6, q7, q8, q9, kk, hpe]
      refine aloop (fun d fr V => ∃ i : Nat, 1 ≤ i ∧ d = (R[k]).length - i ∧ V = V5 ∧ fr 3 = .slice ai ids.length ci ∧ fr 4 = .slice ap xs.length cp ∧ fr 5 = .int .i64 n ∧ fr 6 = .slice (some ad) R.length cu ∧ fr 7 = wa2 ∧ fr 8 = .int .i64 (tot xs p2) ∧ fr 9 = .int .i64 k ∧ fr 10 = .int .i64 i) ((R[k]).length - 1) ⟨1, by omega, rfl, rfl, q3, q4, q5, q6, by rfl, by rfl, q9, by rfl⟩ ?_
      clear q3 q4 q5 q6 q7 q8 q9
      rintro d fr V5 ⟨i, hi1, rfl, rfl, q3, q4, q5, q6, q7, q8, q9, q10⟩
      simp (disch := omega) only [↓stq, amv_at, vls, inf, frs, mark_eq, ↓reduceIte, Nat.reduceEqDiff, ite_tt, ite_ff, eq_self, and_true, true_and, and_self, implies_true, Bool.true_eq_false, Bool.false_eq_true, decide_true, decide_false, decide_eq_true_eq, decide_eq_false_iff_not, ne_eq, not_true_eq_false, not_false_eq_true, Bool.not_eq_true', Bool.not_eq_false', beq_self_eq_true, Bool.not_true, Bool.not_false, List.getElem?_toArray, List.getElem?_cons_zero, List.getElem?_cons_succ, q3, q4, q5, q6, q7, q8, q9, q10, kk]
      have hRkl := hpl _ hRk
      refine ⟨fun e4 => ?_, fun e4 => ?_⟩
      · have hil2 : i < (R[k]).length := by omega
        have hcast : (i : Int) - 1 = ((i - 1 : Nat) : Int) := by omega
        obtain ⟨ad2, rfl, k1, _⟩ := hs.str hil2
        obtain ⟨_, hq, k2, _⟩ := hs.str (i := i - 1) (by omega)
        obtain rfl := Option.some.inj hq
        have hpl2 := placeI_sub hn (hS.sub _ hRk) (k := i) (by omega) hil2
        simp (disch := omega) only [↓stq, amv_at, vls, inf, frs, mark_eq, ↓reduceIte, Nat.reduceEqDiff, ite_tt, ite_ff, eq_self, and_true, true_and, and_self, implies_true, Bool.true_eq_false, Bool.false_eq_true, decide_true, decide_false, decide_eq_true_eq, decide_eq_false_iff_not, ne_eq, not_true_eq_false, not_false_eq_true, Bool.not_eq_true', Bool.not_eq_false', beq_self_eq_true, Bool.not_true, Bool.not_false, List.getElem?_toArray, List.getElem?_cons_zero, List.getElem?_cons_succ, q3, q4, q5, q6, q7, q8, q9, q10]
        refine adraw_items [.q 0, .q 1, .q 2, .q 3, .l 4 false, .q 5, .q 6, .q 7, .l 8 false, .q 10, .q 11, .q 12, .q 13, .l 14 true, .q 15, .q 16, .l 17 true, .c 9 [14, 17], .c 18 [], .q 19] (by kernel_rfl) (by kernel_rfl) ?_
        simp (disch := omega) only [↓stq, amv_at, ↓pln, plv, nilOk, Nat.reduceBEq, Bool.or_false, Bool.or_true, Bool.false_or, Bool.true_or, vls, inf, frs, mark_eq, ↓reduceIte, Nat.reduceEqDiff, ite_tt, ite_ff, eq_self, and_true, true_and, and_self, implies_true, Bool.true_eq_false, Bool.false_eq_true, decide_true, decide_false, decide_eq_true_eq, decide_eq_false_iff_not, ne_eq, not_true_eq_false, not_false_eq_true, Bool.not_eq_true', Bool.not_eq_false', beq_self_eq_true, Bool.not_true, Bool.not_false, List.getElem?_toArray, List.getElem?_cons_zero, List.getElem?_cons_succ, q3, q4, q5, q6, q7, q8, q9, q10, hcast, kk, k1, k2]
        refine (laws_place_c V5 _ ids _ (hI2.mono l.ext)).mono ?_
        rintro _ V5 ⟨rfl, rfl⟩
        simp (disch := omega) only [↓stq, amv_at, ↓pln, plv, nilOk, Nat.reduceBEq, Bool.or_false, Bool.or_true, Bool.false_or, Bool.true_or, vls, inf, frs, mark_eq, ↓reduceIte, Nat.reduceEqDiff, ite_tt, ite_ff, eq_self, and_true, true_and, and_self, implies_true, Bool.true_eq_false, Bool.false_eq_true, decide_true, decide_false, decide_eq_true_eq, decide_eq_false_iff_not, ne_eq, not_true_eq_false, not_false_eq_true, Bool.not_eq_true', Bool.not_eq_false', beq_self_eq_true, Bool.not_true, Bool.not_false, List.getElem?_toArray, List.getElem?_cons_zero, List.getElem?_cons_succ, q3, q4, q5, q6, q7, q8, q9, q10, hcast, kk, k1, k2]
        refine (laws_place_c V5 _ ids _ (hI2.mono l.ext)).mono ?_
        rintro _ V5 ⟨rfl, rfl⟩
        simp (disch := omega) only [↓stq, amv_at, ↓pln, plv, nilOk, Nat.reduceBEq, Bool.or_false, Bool.or_true, Bool.false_or, Bool.true_or, vls, inf, frs, mark_eq, ↓reduceIte, Nat.reduceEqDiff, ite_tt, ite_ff, eq_self, and_true, true_and, and_self, implies_true, Bool.true_eq_false, Bool.false_eq_true, decide_true, decide_false, decide_eq_true_eq, decide_eq_false_iff_not, ne_eq, not_true_eq_false, not_false_eq_true, Bool.not_eq_true', Bool.not_eq_false', beq_self_eq_true, Bool.not_true, Bool.not_false, List.getElem?_toArray, List.getElem?_cons_zero, List.getElem?_cons_succ, q3, q4, q5, q6, q7, q8, q9, q10, hcast, kk, k1, k2]
        refine ⟨fun e5 => ?_, fun e5 => ?_⟩ <;> simp (disch := omega) only [↓stq, amv_at, vls, inf, frs, mark_eq, ↓reduceIte, Nat.reduceEqDiff, ite_tt, ite_ff, eq_self, and_true, true_and, and_self, implies_true, Bool.true_eq_false, Bool.false_eq_true, decide_true, decide_false, decide_eq_true_eq, decide_eq_false_iff_not, ne_eq, not_true_eq_false, not_false_eq_true, Bool.not_eq_true', Bool.not_eq_false', beq_self_eq_true, Bool.not_true, Bool.not_false, List.getElem?_toArray, List.getElem?_cons_zero, List.getElem?_cons_succ, q3, q4, q5, q6, q7, q8, q9, q10]
        · omega
        · exact ⟨_, by omega, i + 1, by omega, rfl, rfl⟩
      · simp (disch := omega) only [↓stq, amv_at, vls, inf, frs, mark_eq, ↓reduceIte, Nat.reduceEqDiff, ite_tt, ite_ff, eq_self, and_true, true_and, and_self, implies_true, Bool.true_eq_false, Bool.false_eq_true, decide_true, decide_false, decide_eq_true_eq, decide_eq_false_iff_not, ne_eq, not_true_eq_false, not_false_eq_true, Bool.not_eq_true', Bool.not_eq_false', beq_self_eq_true, Bool.not_true, Bool.not_false, List.getElem?_toArray, List.getElem?_cons_zero, List.getElem?_cons_succ, q3, q4, q5, q6, q7, q8, q9, q10, kk]
        exact ⟨_, by omega, k + 1, fa2, wa2, p2, hp2, by omega, rfl, by rw [take_flatten hlt]; exact l, rfl, rfl, rfl⟩
    · rw [List.take_of_length_le (by omega)] at l
      simp (disch := omega) only [↓stq, amv_at, vls, inf, frs, mark_eq, ↓reduceIte, Nat.reduceEqDiff, ite_tt, ite_ff, eq_self, and_true, true_and, and_self, implies_true, Bool.true_eq_false, Bool.false_eq_true, decide_true, decide_false, decide_eq_true_eq, decide_eq_false_iff_not, ne_eq, not_true_eq_false, not_false_eq_true, Bool.not_eq_true', Bool.not_eq_false', beq_self_eq_true, Bool.not_true, Bool.not_false, List.getElem?_toArray, List.getElem?_cons_zero, List.getElem?_cons_succ, q3, q4, q5, q6, q7, q8, q9]
      have htp := htr p hp
      refine aloop (fun d fr V => ∃ k : Nat, k ≤ R.length ∧ d = R.length - k ∧ Led V2 [osl 9 strO fa wa R.flatten] V ∧ fr 3 = .slice ai ids.length ci ∧ fr 4 = .slice ap xs.length cp ∧ fr 5 = .int .i64 n ∧ fr 6 = .slice (some ad) R.length cu ∧ fr 7 = wa ∧ fr 8 = .int .i64 (tot xs p) ∧ fr 11 = .int .i64 k) R.length ⟨0, by omega, by omega, l, q3, q4, q5, q6, q7, q8, by rfl⟩ ?_
      clear l q3 q4 q5 q6 q7 q8 q9
      rintro d fr V ⟨k, hk, rfl, l, q3, q4, q5, q6, q7, q8, q11⟩
      simp (disch := omega) only [↓stq, amv_at, vls, inf, frs, mark_eq, ↓reduceIte, Nat.reduceEqDiff, ite_tt, ite_ff, eq_self, and_true, true_and, and_self, implies_true, Bool.true_eq_false, Bool.false_eq_true, decide_true, decide_false, decide_eq_true_eq, decide_eq_false_iff_not, ne_eq, not_true_eq_false, not_false_eq_true, Bool.not_eq_true', Bool.not_eq_false', beq_self_eq_true, Bool.not_true, Bool.not_false, List.getElem?_toArray, List.getElem?_cons_zero, List.getElem?_cons_succ, q3, q4, q5, q6, q7, q8, q11]
      refine ⟨fun e4 => ?_, fun e4 => ?_⟩
      · have hlt : k < R.length := by omega
        have hRk := List.getElem_mem hlt
        have hRkl := hpl _ hRk
        have hev := hS.even _ hRk p hp
        have htk := htr _ hRk
        simp (disch := omega) only [↓stq, amv_at, vls, inf, frs, mark_eq, ↓reduceIte, Nat.reduceEqDiff, ite_tt, ite_ff, eq_self, and_true, true_and, and_self, implies_true, Bool.true_eq_false, Bool.false_eq_true, decide_true, decide_false, decide_eq_true_eq, decide_eq_false_iff_not, ne_eq, not_true_eq_false, not_false_eq_true, Bool.not_eq_true', Bool.not_eq_false', beq_self_eq_true, Bool.not_true, Bool.not_false, List.getElem?_toArray, List.getElem?_cons_zero, List.getElem?_cons_succ, q3, q4, q5, q6, q7, q8, q11]
        refine aloop (fun d fr V => ∃ (i : Nat) (ch : Int), i ≤ (R[k]).length ∧ d = (R[k]).length - i ∧ 0 ≤ ch ∧ ch ≤ 99 ∧ (ch = 99 ∨ ∃ y, y ∈ R[k] ∧ ch = costF xs y) ∧ Led V2 [osl 9 strO fa wa R.flatten] V ∧ fr 3 = .slice ai ids.length ci ∧ fr 4 = .slice ap xs.length cp ∧ fr 5 = .int .i64 n ∧ fr 6 = .slice (some ad) R.length cu ∧ fr 7 = wa ∧ fr 8 = .int .i64 (tot xs p) ∧ fr 11 = .int .i64 k ∧ fr 12 = .int .i64 ch ∧ fr 13 = .int .i64 i) (R[k]).length ⟨0, 99, by omega, by omega, by omega, by omega, .inl rfl, l, q3, q4, q5, q6, q7, q8, q11, by rfl, by rfl⟩ ?_
        clear l q3 q4 q5 q6 q7 q8 q11
        rintro d fr V ⟨i, ch, hi, rfl, hc0, hc99, hch, l, q3, q4, q5, q6, q7, q8, q11, q12, q13⟩
        obtain ⟨_, bb, m, hq, kk, hs⟩ := (hO2.mono l.ext).strs (i := k) hlt
        obtain rfl := Option.some.inj hq
        simp (disch := omega) only [↓stq, amv_at, vls, inf, frs, mark_eq, ↓reduceIte, Nat.reduceEqDiff, ite_tt, ite_ff, eq_self, and_true, true_and, and_self, implies_true, Bool.true_eq_false, Bool.false_eq_true, decide_true, decide_false, decide_eq_true_eq, decide_eq_false_iff_not, ne_eq, not_true_eq_false, not_false_eq_true, Bool.not_eq_true', Bool.not_eq_false', beq_self_eq_true, Bool.not_true, Bool.not_false, List.getElem?_toArray, List.getElem?_cons_zero, List.getElem?_cons_succ, q3, q4, q5, q6, q7, q8, q11, q12, q13, kk]
        refine ⟨fun e5 => ?_, fun e5 => ?_⟩
        · have hil2 : i < (R[k]).length := by omega
          obtain ⟨ad2, rfl, k1, _⟩ := hs.str hil2
          have hco := costF_range g2 (R[k])[i]
          simp (disch := omega) only [↓stq, amv_at, vls, inf, frs, mark_eq, ↓reduceIte, Nat.reduceEqDiff, ite_tt, ite_ff, eq_self, and_true, true_and, and_self, implies_true, Bool.true_eq_false, Bool.false_eq_true, decide_true, decide_false, decide_eq_true_eq, decide_eq_false_iff_not, ne_eq, not_true_eq_false, not_false_eq_true, Bool.not_eq_true', Bool.not_eq_false', beq_self_eq_true, Bool.not_true, Bool.not_false, List.getElem?_toArray, List.getElem?_cons_zero, List.getElem?_cons_succ, q3, q4, q5, q6, q7, q8, q11, q12, q13, kk, k1]
          refine (impl_CostOf_c V _ xs _ (hP2.mono l.ext) (by omega)).mono ?_
          rintro _ V3 ⟨rfl, he3⟩
          rw [hcI]
          replace l := l.step he3
          simp (disch := omega) only [↓stq, amv_at, vls, inf, frs, mark_eq, ↓reduceIte, Nat.reduceEqDiff, ite_tt, ite_ff, eq_self, and_true, true_and, and_self, implies_true, Bool.true_eq_false, Bool.false_eq_true, decide_true, decide_false, decide_eq_true_eq, decide_eq_false_iff_not, ne_eq, not_true_eq_false, not_false_eq_true, Bool.not_eq_true', Bool.not_eq_false', beq_self_eq_true, Bool.not_true, Bool.not_false, List.getElem?_toArray, List.getElem?_cons_zero, List.getElem?_cons_succ, q3, q4, q5, q6, q7, q8, q11, q12, q13]
          refine ⟨_, by omega, i + 1, (if costF xs (R[k])[i] < ch then costF xs (R[k])[i] else ch), by omega, rfl, ?_, ?_, ?_, l, rfl, rfl⟩
          · split <;> omega
          · split <;> omega
          · split
            · exact .inr ⟨_, List.getElem_mem hil2, rfl⟩
            · exact hch
        · simp (disch := omega) only [↓stq, amv_at, vls, inf, frs, mark_eq, ↓reduceIte, Nat.reduceEqDiff, ite_tt, ite_ff, eq_self, and_true, true_and, and_self, implies_true, Bool.true_eq_false, Bool.false_eq_true, decide_true, decide_false, decide_eq_true_eq, decide_eq_false_iff_not, ne_eq, not_true_eq_false, not_false_eq_true, Bool.not_eq_true', Bool.not_eq_false', beq_self_eq_true, Bool.not_true, Bool.not_false, List.getElem?_toArray, List.getElem?_cons_zero, List.getElem?_cons_succ, q3, q4, q5, q6, q7, q8, q11, q12, q13, kk]
          refine (impl_TotalCost_c V _ _ _ xs hs (hP2.mono l.ext) (by omega)).mono ?_
          rintro _ V5 ⟨rfl, he⟩
          rw [hT _ hRk]
          replace l := l.step he
          have hfin : ¬ tot xs p + ch < tot xs R[k] := by
            rcases hch with rfl | ⟨y, hy, rfl⟩
            · have := hev.2; omega
            · have := hev.1 y hy; omega
          simp (disch := omega) only [↓stq, amv_at, vls, inf, frs, mark_eq, ↓reduceIte, Nat.reduceEqDiff, ite_tt, ite_ff, eq_self, and_true, true_and, and_self, implies_true, Bool.true_eq_false, Bool.false_eq_true, decide_true, decide_false, decide_eq_true_eq, decide_eq_false_iff_not, ne_eq, not_true_eq_false, not_false_eq_true, Bool.not_eq_true', Bool.not_eq_false', beq_self_eq_true, Bool.not_true, Bool.not_false, List.getElem?_toArray, List.getElem?_cons_zero, List.getElem?_cons_succ, q3, q4, q5, q6, q7, q8, q11, q12, q13, hfin]
          exact ⟨_, by omega, k + 1, by omega, rfl, l, rfl⟩
      · skip
        have hnn : (R.length : Int) = n := by have := hS.len; omega
        simp (disch := omega) only [↓stq, amv_at, vls, inf, frs, mark_eq, ↓reduceIte, Nat.reduceEqDiff, ite_tt, ite_ff, eq_self, and_true, true_and, and_self, implies_true, Bool.true_eq_false, Bool.false_eq_true, decide_true, decide_false, decide_eq_true_eq, decide_eq_false_iff_not, ne_eq, not_true_eq_false, not_false_eq_true, Bool.not_eq_true', Bool.not_eq_false', beq_self_eq_true, Bool.not_true, Bool.not_false, List.getElem?_toArray, List.getElem?_cons_zero, List.getElem?_cons_succ, q3, q4, q5, q6, q7, q8, q11, hnn]
        refine (laws_sameTexts_c V _ _ R.flatten ids (OSl.toS (l.at (i := 0) rfl)) (hI2.mono l.ext)).mono ?_
        rintro _ V3 ⟨rfl, rfl⟩
        rw [sameT_perm hS.perm]
        simp (disch := omega) only [↓stq, amv_at, vls, inf, frs, mark_eq, ↓reduceIte, Nat.reduceEqDiff, ite_tt, ite_ff, eq_self, and_true, true_and, and_self, implies_true, Bool.true_eq_false, Bool.false_eq_true, decide_true, decide_false, decide_eq_true_eq, decide_eq_false_iff_not, ne_eq, not_true_eq_false, not_false_eq_true, Bool.not_eq_true', Bool.not_eq_false', beq_self_eq_true, Bool.not_true, Bool.not_false, List.getElem?_toArray, List.getElem?_cons_zero, List.getElem?_cons_succ, q3, q4, q5, q6, q7, q8, q11, hnn]

end Go.Proofs.Ytbbhhdcimmofoaa

