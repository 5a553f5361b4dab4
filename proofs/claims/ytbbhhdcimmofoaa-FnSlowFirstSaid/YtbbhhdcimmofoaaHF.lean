/- Generators: what is known of tests. -/
import Derived.Test.YtbbhhdcimmofoaaHB
import Derived.Test.YtbbhhdcimmofoaaKPast
import Derived.Test.YtbbhhdcimmofoaaP1
set_option maxHeartbeats 4000000
set_option synthInstance.maxHeartbeats 400000
set_option synthInstance.maxSize 4096
set_option linter.unusedSimpArgs false
set_option linter.unusedVariables false
namespace Go.Proofs.Ytbbhhdcimmofoaa

set_option maxRecDepth 100000

theorem somePast_c (B A : View) (L : List It) (q : Nat) (sl : Value) (N : Nat) (hb : Bts B sl) (hN : N ≤ 700000000) (l : Led B (rdr q sl N :: L) A) : ACalls Try.prog 81 #[.pointer (some ⟨q, 0, none⟩)] A fun r V => ∃ fp xs, xs.length ≤ 7 ∧ Led B (osl 70 pastO fp r xs :: rdr q sl (N + 60) :: L) V := by
  refine acalls Try.func81 rfl (by kernel_rfl) ?_
  simp (disch := omega) only [↓stq, amv_at, vls, inf, frs, mark_eq, ↓reduceIte, Nat.reduceEqDiff, ite_tt, ite_ff, eq_self, and_true, true_and, and_self, implies_true, Bool.true_eq_false, Bool.false_eq_true, decide_true, decide_false, decide_eq_true_eq, decide_eq_false_iff_not, ne_eq, not_true_eq_false, not_false_eq_true, Bool.not_eq_true', Bool.not_eq_false', beq_self_eq_true, Bool.not_true, Bool.not_false, List.getElem?_toArray, List.getElem?_cons_zero, List.getElem?_cons_succ]
  refine led_lit0 (O := pastO) li37 l fun b V _ l => ?_
  simp (disch := omega) only [↓stq, amv_at, vls, inf, frs, mark_eq, ↓reduceIte, Nat.reduceEqDiff, ite_tt, ite_ff, eq_self, and_true, true_and, and_self, implies_true, Bool.true_eq_false, Bool.false_eq_true, decide_true, decide_false, decide_eq_true_eq, decide_eq_false_iff_not, ne_eq, not_true_eq_false, not_false_eq_true, Bool.not_eq_true', Bool.not_eq_false', beq_self_eq_true, Bool.not_true, Bool.not_false, List.getElem?_toArray, List.getElem?_cons_zero, List.getElem?_cons_succ]
  refine led_lit li61 (by omega) rfl (by simp [Value.cells, Value.oneCell']) l fun bl V _ l => ?_
  simp (disch := omega) only [↓stq, amv_at, vls, inf, frs, mark_eq, ↓reduceIte, Nat.reduceEqDiff, ite_tt, ite_ff, eq_self, and_true, true_and, and_self, implies_true, Bool.true_eq_false, Bool.false_eq_true, decide_true, decide_false, decide_eq_true_eq, decide_eq_false_iff_not, ne_eq, not_true_eq_false, not_false_eq_true, Bool.not_eq_true', Bool.not_eq_false', beq_self_eq_true, Bool.not_true, Bool.not_false, List.getElem?_toArray, List.getElem?_cons_zero, List.getElem?_cons_succ]
  refine (oneLit_c (n := 6) (c := 6) (xs := [_, _, _, _, _, _]) B V (osl 70 pastO [b] _ [] :: L) q sl N hb (by omega) rfl rfl (by omega) (by decide) (by omega) (by omega) (l.perm ((List.Perm.swap ..).cons _))).mono ?_
  rintro _ V ⟨s, rfl, hs, l⟩
  have hs3 : 0 ≤ s ∧ s ≤ 7 := by revert s; decide
  obtain ⟨n, rfl⟩ := Int.eq_ofNat_of_zero_le hs3.1
  simp (disch := omega) only [↓stq, amv_at, vls, inf, frs, mark_eq, ↓reduceIte, Nat.reduceEqDiff, ite_tt, ite_ff, eq_self, and_true, true_and, and_self, implies_true, Bool.true_eq_false, Bool.false_eq_true, decide_true, decide_false, decide_eq_true_eq, decide_eq_false_iff_not, ne_eq, not_true_eq_false, not_false_eq_true, Bool.not_eq_true', Bool.not_eq_false', beq_self_eq_true, Bool.not_true, Bool.not_false, List.getElem?_toArray, List.getElem?_cons_zero, List.getElem?_cons_succ]
  refine aloop (fun d fr V => ∃ (k : Nat) (fp : List Nat) (w : Value) (xs : List PastD), d = k ∧ k ≤ n ∧ xs.length + k ≤ n ∧ Led B (osl 70 pastO fp w xs :: rdr q sl (N + 1 + 4 * (n - k)) :: L) V ∧ fr 0 = .pointer (some ⟨q, 0, none⟩) ∧ fr 3 = w ∧ fr 4 = .int .i64 k) n ⟨n, _, _, [], rfl, by omega, by simp, by rw [Nat.sub_self]; exact l.perm (List.Perm.swap ..), by rfl, by rfl, by rfl⟩ ?_
  clear l
  rintro k fr V ⟨_, fp, w, xs, rfl, hkn, hk, l, h0, h3, h4⟩
  simp (disch := omega) only [↓stq, amv_at, vls, inf, frs, mark_eq, ↓reduceIte, Nat.reduceEqDiff, ite_tt, ite_ff, eq_self, and_true, true_and, and_self, implies_true, Bool.true_eq_false, Bool.false_eq_true, decide_true, decide_false, decide_eq_true_eq, decide_eq_false_iff_not, ne_eq, not_true_eq_false, not_false_eq_true, Bool.not_eq_true', Bool.not_eq_false', beq_self_eq_true, Bool.not_true, Bool.not_false, List.getElem?_toArray, List.getElem?_cons_zero, List.getElem?_cons_succ, h0, h3, h4]
  refine ⟨fun e => ?_, fun e => ?_⟩ <;> simp (disch := omega) only [↓stq, amv_at, vls, inf, frs, mark_eq, ↓reduceIte, Nat.reduceEqDiff, ite_tt, ite_ff, eq_self, and_true, true_and, and_self, implies_true, Bool.true_eq_false, Bool.false_eq_true, decide_true, decide_false, decide_eq_true_eq, decide_eq_false_iff_not, ne_eq, not_true_eq_false, not_false_eq_true, Bool.not_eq_true', Bool.not_eq_false', beq_self_eq_true, Bool.not_true, Bool.not_false, List.getElem?_toArray, List.getElem?_cons_zero, List.getElem?_cons_succ, h0, h3, h4]
  · refine (anId_c B V (osl 70 pastO fp w xs :: L) q sl _ hb (by omega) (l.perm (List.Perm.swap ..))).mono ?_
    rintro _ V ⟨s1, rfl, hz, l⟩
    simp (disch := omega) only [↓stq, amv_at, vls, inf, frs, mark_eq, ↓reduceIte, Nat.reduceEqDiff, ite_tt, ite_ff, eq_self, and_true, true_and, and_self, implies_true, Bool.true_eq_false, Bool.false_eq_true, decide_true, decide_false, decide_eq_true_eq, decide_eq_false_iff_not, ne_eq, not_true_eq_false, not_false_eq_true, Bool.not_eq_true', Bool.not_eq_false', beq_self_eq_true, Bool.not_true, Bool.not_false, List.getElem?_toArray, List.getElem?_cons_zero, List.getElem?_cons_succ, h0, h3, h4]
    refine (pick_c B V _ q sl _ 3 hb (by omega) ⟨by omega, by omega⟩ l).mono ?_
    rintro _ V ⟨u, rfl, _, _, l⟩
    simp (disch := omega) only [↓stq, amv_at, vls, inf, frs, mark_eq, ↓reduceIte, Nat.reduceEqDiff, ite_tt, ite_ff, eq_self, and_true, true_and, and_self, implies_true, Bool.true_eq_false, Bool.false_eq_true, decide_true, decide_false, decide_eq_true_eq, decide_eq_false_iff_not, ne_eq, not_true_eq_false, not_false_eq_true, Bool.not_eq_true', Bool.not_eq_false', beq_self_eq_true, Bool.not_true, Bool.not_false, List.getElem?_toArray, List.getElem?_cons_zero, List.getElem?_cons_succ, h0, h3, h4]
    refine led_lit li61 (by omega) rfl (by simp [Value.cells, Value.oneCell']) l fun bl V _ l => ?_
    simp (disch := omega) only [↓stq, amv_at, vls, inf, frs, mark_eq, ↓reduceIte, Nat.reduceEqDiff, ite_tt, ite_ff, eq_self, and_true, true_and, and_self, implies_true, Bool.true_eq_false, Bool.false_eq_true, decide_true, decide_false, decide_eq_true_eq, decide_eq_false_iff_not, ne_eq, not_true_eq_false, not_false_eq_true, Bool.not_eq_true', Bool.not_eq_false', beq_self_eq_true, Bool.not_true, Bool.not_false, List.getElem?_toArray, List.getElem?_cons_zero, List.getElem?_cons_succ, h0, h3, h4]
    refine (oneLit_c (n := 6) (c := 6) (xs := [_, _, _, _, _, _]) B V _ q sl _ hb (by omega) rfl rfl (by omega) (by decide) (by omega) (by omega) l).mono ?_
    rintro _ V ⟨s2, rfl, hs2, l⟩
    have hr2 : -9223372036854775808 ≤ s2 ∧ s2 < 9223372036854775808 := by revert s2; decide
    simp (disch := omega) only [↓stq, amv_at, vls, inf, frs, mark_eq, ↓reduceIte, Nat.reduceEqDiff, ite_tt, ite_ff, eq_self, and_true, true_and, and_self, implies_true, Bool.true_eq_false, Bool.false_eq_true, decide_true, decide_false, decide_eq_true_eq, decide_eq_false_iff_not, ne_eq, not_true_eq_false, not_false_eq_true, Bool.not_eq_true', Bool.not_eq_false', beq_self_eq_true, Bool.not_true, Bool.not_false, List.getElem?_toArray, List.getElem?_cons_zero, List.getElem?_cons_succ, h0, h3, h4]
    refine led_alloc zc70 l fun q5 V _ l => ?_
    simp (disch := omega) only [↓stq, amv_at, vls, inf, frs, mark_eq, ↓reduceIte, Nat.reduceEqDiff, ite_tt, ite_ff, eq_self, and_true, true_and, and_self, implies_true, Bool.true_eq_false, Bool.false_eq_true, decide_true, decide_false, decide_eq_true_eq, decide_eq_false_iff_not, ne_eq, not_true_eq_false, not_false_eq_true, Bool.not_eq_true', Bool.not_eq_false', beq_self_eq_true, Bool.not_true, Bool.not_false, List.getElem?_toArray, List.getElem?_cons_zero, List.getElem?_cons_succ, h0, h3, h4]
    refine led_storeAll (d := [.string s1, .bool (decide (u = 0)), .int .i64 s2]) l 0 rfl sz70 rfl rfl (by simp [Value.oneCell']) fun V l => ?_
    have m0 := l.cell (i := 0) rfl (o := 0) rfl rfl
    have kt : V.part ⟨q5, 0, none⟩ 3 = some [.string s1, .bool (decide (u = 0)), .int .i64 s2] := l.part (i := 0) rfl rfl
    simp (disch := omega) only [↓stq, amv_at, vls, inf, frs, mark_eq, ↓reduceIte, Nat.reduceEqDiff, ite_tt, ite_ff, eq_self, and_true, true_and, and_self, implies_true, Bool.true_eq_false, Bool.false_eq_true, decide_true, decide_false, decide_eq_true_eq, decide_eq_false_iff_not, ne_eq, not_true_eq_false, not_false_eq_true, Bool.not_eq_true', Bool.not_eq_false', beq_self_eq_true, Bool.not_true, Bool.not_false, List.getElem?_toArray, List.getElem?_cons_zero, List.getElem?_cons_succ, h0, h3, h4, add_at, m0]
    refine (spec_pastAt_c V _ xs s1 (OSl.toS (l.at (i := 2) rfl))).mono ?_
    rintro _ V ⟨rfl, rfl⟩
    simp (disch := omega) only [↓stq, amv_at, vls, inf, frs, mark_eq, ↓reduceIte, Nat.reduceEqDiff, ite_tt, ite_ff, eq_self, and_true, true_and, and_self, implies_true, Bool.true_eq_false, Bool.false_eq_true, decide_true, decide_false, decide_eq_true_eq, decide_eq_false_iff_not, ne_eq, not_true_eq_false, not_false_eq_true, Bool.not_eq_true', Bool.not_eq_false', beq_self_eq_true, Bool.not_true, Bool.not_false, List.getElem?_toArray, List.getElem?_cons_zero, List.getElem?_cons_succ, h0, h3, h4]
    refine ⟨fun e1 => ?_, fun e1 => ?_⟩ <;> simp (disch := omega) only [↓stq, amv_at, vls, inf, frs, mark_eq, ↓reduceIte, Nat.reduceEqDiff, ite_tt, ite_ff, eq_self, and_true, true_and, and_self, implies_true, Bool.true_eq_false, Bool.false_eq_true, decide_true, decide_false, decide_eq_true_eq, decide_eq_false_iff_not, ne_eq, not_true_eq_false, not_false_eq_true, Bool.not_eq_true', Bool.not_eq_false', beq_self_eq_true, Bool.not_true, Bool.not_false, List.getElem?_toArray, List.getElem?_cons_zero, List.getElem?_cons_succ, h0, h3, h4, kt]
    · refine led_lit li37 (by omega) rfl (fun p hp => by rcases List.mem_singleton.1 hp with rfl; exact ⟨rfl, rfl⟩) l fun bl V3 _ l => ?_
      simp (disch := omega) only [↓stq, amv_at, vls, inf, frs, mark_eq, ↓reduceIte, Nat.reduceEqDiff, ite_tt, ite_ff, eq_self, and_true, true_and, and_self, implies_true, Bool.true_eq_false, Bool.false_eq_true, decide_true, decide_false, decide_eq_true_eq, decide_eq_false_iff_not, ne_eq, not_true_eq_false, not_false_eq_true, Bool.not_eq_true', Bool.not_eq_false', beq_self_eq_true, Bool.not_true, Bool.not_false, List.getElem?_toArray, List.getElem?_cons_zero, List.getElem?_cons_succ, h0, h3, h4]
      refine led_app (O := pastO) ap37_37 (by decide) l (i := 3) rfl (l.src1 (S := pastS) (x := (s1, decide (u = 0), s2, ())) (j := 0) rfl (pastS_mk (x := (s1, decide (u = 0), s2, ())) (by show s1.size ≤ _; omega) hr2)) (by rw [List.length_singleton]; omega) fun fp2 w2 V4 _ l => ?_
      simp (disch := omega) only [↓stq, amv_at, vls, inf, frs, mark_eq, ↓reduceIte, Nat.reduceEqDiff, ite_tt, ite_ff, eq_self, and_true, true_and, and_self, implies_true, Bool.true_eq_false, Bool.false_eq_true, decide_true, decide_false, decide_eq_true_eq, decide_eq_false_iff_not, ne_eq, not_true_eq_false, not_false_eq_true, Bool.not_eq_true', Bool.not_eq_false', beq_self_eq_true, Bool.not_true, Bool.not_false, List.getElem?_toArray, List.getElem?_cons_zero, List.getElem?_cons_succ, h0, h3, h4]
      exact ⟨k - 1, by omega, k - 1, fp2, w2, xs ++ [(s1, decide (u = 0), s2, ())], rfl, by omega, by rw [List.length_append, List.length_singleton]; omega, (rdr_more l.tail.tail (M := N + 1 + 4 * (n - (k - 1))) (by omega)).perm (List.Perm.swap ..), rfl, by congr 1; omega⟩
    · exact ⟨k - 1, by omega, k - 1, fp, w, xs, rfl, by omega, by omega, (rdr_more l.tail (M := N + 1 + 4 * (n - (k - 1))) (by omega)).perm (List.Perm.swap ..), rfl, by congr 1; omega⟩
  · have hO : OSl 70 pastO V fp w xs := l.at (i := 0) rfl
    obtain ⟨aw, cw, rfl, _, _⟩ := hO.toS.slice
    simp (disch := omega) only [↓stq, amv_at, vls, inf, frs, mark_eq, ↓reduceIte, Nat.reduceEqDiff, ite_tt, ite_ff, eq_self, and_true, true_and, and_self, implies_true, Bool.true_eq_false, Bool.false_eq_true, decide_true, decide_false, decide_eq_true_eq, decide_eq_false_iff_not, ne_eq, not_true_eq_false, not_false_eq_true, Bool.not_eq_true', Bool.not_eq_false', beq_self_eq_true, Bool.not_true, Bool.not_false, List.getElem?_toArray, List.getElem?_cons_zero, List.getElem?_cons_succ, h0, h3, h4]
    refine ⟨fun e1 => ?_, fun e1 => ?_⟩ <;> simp (disch := omega) only [↓stq, amv_at, vls, inf, frs, mark_eq, ↓reduceIte, Nat.reduceEqDiff, ite_tt, ite_ff, eq_self, and_true, true_and, and_self, implies_true, Bool.true_eq_false, Bool.false_eq_true, decide_true, decide_false, decide_eq_true_eq, decide_eq_false_iff_not, ne_eq, not_true_eq_false, not_false_eq_true, Bool.not_eq_true', Bool.not_eq_false', beq_self_eq_true, Bool.not_true, Bool.not_false, List.getElem?_toArray, List.getElem?_cons_zero, List.getElem?_cons_succ, h0, h3, h4, e1]
    · refine (pick_c B V _ q sl _ 20 hb (by omega) ⟨by omega, by omega⟩ (l.perm (List.Perm.swap ..))).mono ?_
      rintro _ V ⟨u, rfl, _, _, l⟩
      simp (disch := omega) only [↓stq, amv_at, vls, inf, frs, mark_eq, ↓reduceIte, Nat.reduceEqDiff, ite_tt, ite_ff, eq_self, and_true, true_and, and_self, implies_true, Bool.true_eq_false, Bool.false_eq_true, decide_true, decide_false, decide_eq_true_eq, decide_eq_false_iff_not, ne_eq, not_true_eq_false, not_false_eq_true, Bool.not_eq_true', Bool.not_eq_false', beq_self_eq_true, Bool.not_true, Bool.not_false, List.getElem?_toArray, List.getElem?_cons_zero, List.getElem?_cons_succ, h0, h3, h4, e1]
      refine ⟨fun e2 => ?_, fun e2 => ?_⟩ <;> simp (disch := omega) only [↓stq, amv_at, vls, inf, frs, mark_eq, ↓reduceIte, Nat.reduceEqDiff, ite_tt, ite_ff, eq_self, and_true, true_and, and_self, implies_true, Bool.true_eq_false, Bool.false_eq_true, decide_true, decide_false, decide_eq_true_eq, decide_eq_false_iff_not, ne_eq, not_true_eq_false, not_false_eq_true, Bool.not_eq_true', Bool.not_eq_false', beq_self_eq_true, Bool.not_true, Bool.not_false, List.getElem?_toArray, List.getElem?_cons_zero, List.getElem?_cons_succ, h0, h3, h4]
      · refine led_lit li61 (by omega) rfl (by simp [Value.cells, Value.oneCell']) l fun bl V _ l => ?_
        simp (disch := omega) only [↓stq, amv_at, vls, inf, frs, mark_eq, ↓reduceIte, Nat.reduceEqDiff, ite_tt, ite_ff, eq_self, and_true, true_and, and_self, implies_true, Bool.true_eq_false, Bool.false_eq_true, decide_true, decide_false, decide_eq_true_eq, decide_eq_false_iff_not, ne_eq, not_true_eq_false, not_false_eq_true, Bool.not_eq_true', Bool.not_eq_false', beq_self_eq_true, Bool.not_true, Bool.not_false, List.getElem?_toArray, List.getElem?_cons_zero, List.getElem?_cons_succ, h0, h3, h4]
        refine (oneLit_c (n := 2) (c := 2) (xs := [_, _]) B V _ q sl _ hb (by omega) rfl rfl (by omega) (by decide) (by omega) (by omega) l).mono ?_
        rintro _ V ⟨s2, rfl, hs2, l⟩
        have hr2 : -9223372036854775808 ≤ s2 ∧ s2 < 9223372036854775808 := by revert s2; decide
        obtain ⟨hl, ⟨_, h2, _⟩ | ⟨b9, c9, cells, f9, hv, _⟩⟩ := hO
        · rw [h2] at e1
          exact absurd e1 (by simp)
        injection hv with hv1 _ hv3
        subst hv1; subst hv3
        have hpos : 0 < xs.length := by omega
        simp (disch := omega) only [↓stq, amv_at, vls, inf, frs, mark_eq, ↓reduceIte, Nat.reduceEqDiff, ite_tt, ite_ff, eq_self, and_true, true_and, and_self, implies_true, Bool.true_eq_false, Bool.false_eq_true, decide_true, decide_false, decide_eq_true_eq, decide_eq_false_iff_not, ne_eq, not_true_eq_false, not_false_eq_true, Bool.not_eq_true', Bool.not_eq_false', beq_self_eq_true, Bool.not_true, Bool.not_false, List.getElem?_toArray, List.getElem?_cons_zero, List.getElem?_cons_succ, h0, h3, h4, add_at, Int.toNat_zero, Nat.zero_mul]
        refine led_setfield (x' := ((xs[0]).1, (xs[0]).2.1, s2, ())) (k := 0) l (i := 1) rfl hpos sz3 (j := 2) (by show _ = 0 * 3 + 2; omega) ⟨rfl, rfl⟩ (fun d hd => ?_) fun W _ l => ?_
        · obtain ⟨rfl, z1, z2⟩ := pastS_open hd
          exact ⟨by simp, pastS_mk (x := ((xs[0]).1, (xs[0]).2.1, s2, ())) z1 hr2⟩
        simp (disch := omega) only [↓stq, amv_at, vls, inf, frs, mark_eq, ↓reduceIte, Nat.reduceEqDiff, ite_tt, ite_ff, eq_self, and_true, true_and, and_self, implies_true, Bool.true_eq_false, Bool.false_eq_true, decide_true, decide_false, decide_eq_true_eq, decide_eq_false_iff_not, ne_eq, not_true_eq_false, not_false_eq_true, Bool.not_eq_true', Bool.not_eq_false', beq_self_eq_true, Bool.not_true, Bool.not_false, List.getElem?_toArray, List.getElem?_cons_zero, List.getElem?_cons_succ, h0, h3, h4]
        exact ⟨fp, _, by rw [List.length_set]; omega, (rdr_more l (M := N + 60) (by omega)).perm (List.Perm.swap ..)⟩
      · exact ⟨fp, xs, by omega, (rdr_more l (M := N + 60) (by omega)).perm (List.Perm.swap ..)⟩
    · exact ⟨fp, xs, by omega, (rdr_more (l.perm (List.Perm.swap ..)) (M := N + 60) (by omega)).perm (List.Perm.swap ..)⟩

theorem orderPast_c (B A : View) (L : List It) (q : Nat) (sl : Value) (N : Nat) (hb : Bts B sl) (hN : N ≤ 600000000) (l : Led B (rdr q sl N :: L) A) : ACalls Try.prog 58 #[.pointer (some ⟨q, 0, none⟩)] A fun r V => ∃ fi fp vi vp ids xs, r = .tuple #[vi, vp] ∧ ids.length ≤ 9 ∧ xs.length ≤ 7 ∧ Led B (rdr q sl (N + 110) :: osl 70 pastO fp vp xs :: osl 9 strO fi vi ids :: L) V := by
  refine acalls Try.func58 rfl (by kernel_rfl) ?_
  simp (disch := omega) only [↓stq, amv_at, vls, inf, frs, mark_eq, ↓reduceIte, Nat.reduceEqDiff, ite_tt, ite_ff, eq_self, and_true, true_and, and_self, implies_true, Bool.true_eq_false, Bool.false_eq_true, decide_true, decide_false, decide_eq_true_eq, decide_eq_false_iff_not, ne_eq, not_true_eq_false, not_false_eq_true, Bool.not_eq_true', Bool.not_eq_false', beq_self_eq_true, Bool.not_true, Bool.not_false, List.getElem?_toArray, List.getElem?_cons_zero, List.getElem?_cons_succ]
  refine (someOrder_c B A L q sl N hb (by omega) l).mono ?_
  rintro vi V ⟨fi, ids, hi1, hi2, l⟩
  simp (disch := omega) only [↓stq, amv_at, vls, inf, frs, mark_eq, ↓reduceIte, Nat.reduceEqDiff, ite_tt, ite_ff, eq_self, and_true, true_and, and_self, implies_true, Bool.true_eq_false, Bool.false_eq_true, decide_true, decide_false, decide_eq_true_eq, decide_eq_false_iff_not, ne_eq, not_true_eq_false, not_false_eq_true, Bool.not_eq_true', Bool.not_eq_false', beq_self_eq_true, Bool.not_true, Bool.not_false, List.getElem?_toArray, List.getElem?_cons_zero, List.getElem?_cons_succ]
  refine (somePast_c B V (osl 9 strO fi vi ids :: L) q sl _ hb (by omega) (l.perm (List.Perm.swap ..))).mono ?_
  rintro vp V ⟨fp, xs, hx, l⟩
  simp (disch := omega) only [↓stq, amv_at, vls, inf, frs, mark_eq, ↓reduceIte, Nat.reduceEqDiff, ite_tt, ite_ff, eq_self, and_true, true_and, and_self, implies_true, Bool.true_eq_false, Bool.false_eq_true, decide_true, decide_false, decide_eq_true_eq, decide_eq_false_iff_not, ne_eq, not_true_eq_false, not_false_eq_true, Bool.not_eq_true', Bool.not_eq_false', beq_self_eq_true, Bool.not_true, Bool.not_false, List.getElem?_toArray, List.getElem?_cons_zero, List.getElem?_cons_succ]
  exact ⟨fi, fp, vi, vp, ids, xs, rfl, hi1, hx, l.perm (List.Perm.swap ..)⟩

theorem DrawSlowFirst_c (A : View) (v : Value) (bs : List UInt8) (h : Sl byteS A v bs) : ACalls Try.prog 31 #[v] A fun r V => ∃ (vi vp : Value) (ids : List ByteArray) (xs : List PastD), r = .tuple #[vi, vp] ∧ ids.length ≤ 9 ∧ xs.length ≤ 7 ∧ Sl strS V vi ids ∧ Sl pastS V vp xs ∧ Ext A V := by
  obtain ⟨a, c, rfl, _, _⟩ := h.slice
  refine acalls Try.func31 rfl (by kernel_rfl) ?_
  simp (disch := omega) only [↓stq, amv_at, vls, inf, frs, mark_eq, ↓reduceIte, Nat.reduceEqDiff, ite_tt, ite_ff, eq_self, and_true, true_and, and_self, implies_true, Bool.true_eq_false, Bool.false_eq_true, decide_true, decide_false, decide_eq_true_eq, decide_eq_false_iff_not, ne_eq, not_true_eq_false, not_false_eq_true, Bool.not_eq_true', Bool.not_eq_false', beq_self_eq_true, Bool.not_true, Bool.not_false, List.getElem?_toArray, List.getElem?_cons_zero, List.getElem?_cons_succ]
  refine (newReader_c A A _ bs h).mono ?_
  rintro _ V ⟨q, sl, rfl, hb, l⟩
  simp (disch := omega) only [↓stq, amv_at, vls, inf, frs, mark_eq, ↓reduceIte, Nat.reduceEqDiff, ite_tt, ite_ff, eq_self, and_true, true_and, and_self, implies_true, Bool.true_eq_false, Bool.false_eq_true, decide_true, decide_false, decide_eq_true_eq, decide_eq_false_iff_not, ne_eq, not_true_eq_false, not_false_eq_true, Bool.not_eq_true', Bool.not_eq_false', beq_self_eq_true, Bool.not_true, Bool.not_false, List.getElem?_toArray, List.getElem?_cons_zero, List.getElem?_cons_succ]
  refine (orderPast_c A V [] q sl 0 hb (by omega) l).mono ?_
  rintro _ V ⟨fi, fp, vi, vp, ids, xs, rfl, hi, hx, l⟩
  simp (disch := omega) only [↓stq, amv_at, vls, inf, frs, mark_eq, ↓reduceIte, Nat.reduceEqDiff, ite_tt, ite_ff, eq_self, and_true, true_and, and_self, implies_true, Bool.true_eq_false, Bool.false_eq_true, decide_true, decide_false, decide_eq_true_eq, decide_eq_false_iff_not, ne_eq, not_true_eq_false, not_false_eq_true, Bool.not_eq_true', Bool.not_eq_false', beq_self_eq_true, Bool.not_true, Bool.not_false, List.getElem?_toArray, List.getElem?_cons_zero, List.getElem?_cons_succ]
  exact ⟨_, _, ids, xs, rfl, hi, hx, OSl.toS (l.at (i := 2) rfl), OSl.toS (l.at (i := 1) rfl), l.ext⟩

theorem DrawShardIds_c (A : View) (v : Value) (bs : List UInt8) (h : Sl byteS A v bs) : ACalls Try.prog 36 #[v] A fun r V => ∃ (vi vp : Value) (ids : List ByteArray) (xs : List PastD) (n : Int), r = .tuple #[vi, vp, .int .i64 n] ∧ ids.length ≤ 9 ∧ xs.length ≤ 7 ∧ 0 ≤ n ∧ n ≤ 5 ∧ Sl strS V vi ids ∧ Sl pastS V vp xs ∧ Ext A V := by
  obtain ⟨a, c, rfl, _, _⟩ := h.slice
  refine acalls Try.func36 rfl (by kernel_rfl) ?_
  simp (disch := omega) only [↓stq, amv_at, vls, inf, frs, mark_eq, ↓reduceIte, Nat.reduceEqDiff, ite_tt, ite_ff, eq_self, and_true, true_and, and_self, implies_true, Bool.true_eq_false, Bool.false_eq_true, decide_true, decide_false, decide_eq_true_eq, decide_eq_false_iff_not, ne_eq, not_true_eq_false, not_false_eq_true, Bool.not_eq_true', Bool.not_eq_false', beq_self_eq_true, Bool.not_true, Bool.not_false, List.getElem?_toArray, List.getElem?_cons_zero, List.getElem?_cons_succ]
  refine (newReader_c A A _ bs h).mono ?_
  rintro _ V ⟨q, sl, rfl, hb, l⟩
  simp (disch := omega) only [↓stq, amv_at, vls, inf, frs, mark_eq, ↓reduceIte, Nat.reduceEqDiff, ite_tt, ite_ff, eq_self, and_true, true_and, and_self, implies_true, Bool.true_eq_false, Bool.false_eq_true, decide_true, decide_false, decide_eq_true_eq, decide_eq_false_iff_not, ne_eq, not_true_eq_false, not_false_eq_true, Bool.not_eq_true', Bool.not_eq_false', beq_self_eq_true, Bool.not_true, Bool.not_false, List.getElem?_toArray, List.getElem?_cons_zero, List.getElem?_cons_succ]
  refine (orderPast_c A V [] q sl 0 hb (by omega) l).mono ?_
  rintro _ V ⟨fi, fp, vi, vp, ids, xs, rfl, hi, hx, l⟩
  simp (disch := omega) only [↓stq, amv_at, vls, inf, frs, mark_eq, ↓reduceIte, Nat.reduceEqDiff, ite_tt, ite_ff, eq_self, and_true, true_and, and_self, implies_true, Bool.true_eq_false, Bool.false_eq_true, decide_true, decide_false, decide_eq_true_eq, decide_eq_false_iff_not, ne_eq, not_true_eq_false, not_false_eq_true, Bool.not_eq_true', Bool.not_eq_false', beq_self_eq_true, Bool.not_true, Bool.not_false, List.getElem?_toArray, List.getElem?_cons_zero, List.getElem?_cons_succ]
  refine led_lit li61 (by omega) rfl (by simp [Value.cells, Value.oneCell']) l fun bl V _ l => ?_
  simp (disch := omega) only [↓stq, amv_at, vls, inf, frs, mark_eq, ↓reduceIte, Nat.reduceEqDiff, ite_tt, ite_ff, eq_self, and_true, true_and, and_self, implies_true, Bool.true_eq_false, Bool.false_eq_true, decide_true, decide_false, decide_eq_true_eq, decide_eq_false_iff_not, ne_eq, not_true_eq_false, not_false_eq_true, Bool.not_eq_true', Bool.not_eq_false', beq_self_eq_true, Bool.not_true, Bool.not_false, List.getElem?_toArray, List.getElem?_cons_zero, List.getElem?_cons_succ]
  refine (oneLit_c (n := 6) (c := 6) (xs := [_, _, _, _, _, _]) A V _ q sl _ hb (by omega) rfl rfl (by omega) (by decide) (by omega) (by omega) l).mono ?_
  rintro _ V ⟨s, rfl, hs, l⟩
  have hr : 0 ≤ s ∧ s ≤ 5 := by revert s; decide
  simp (disch := omega) only [↓stq, amv_at, vls, inf, frs, mark_eq, ↓reduceIte, Nat.reduceEqDiff, ite_tt, ite_ff, eq_self, and_true, true_and, and_self, implies_true, Bool.true_eq_false, Bool.false_eq_true, decide_true, decide_false, decide_eq_true_eq, decide_eq_false_iff_not, ne_eq, not_true_eq_false, not_false_eq_true, Bool.not_eq_true', Bool.not_eq_false', beq_self_eq_true, Bool.not_true, Bool.not_false, List.getElem?_toArray, List.getElem?_cons_zero, List.getElem?_cons_succ]
  exact ⟨_, _, ids, xs, s, rfl, hi, hx, hr.1, hr.2, OSl.toS (l.at (i := 2) rfl), OSl.toS (l.at (i := 1) rfl), l.ext⟩

end Go.Proofs.Ytbbhhdcimmofoaa

