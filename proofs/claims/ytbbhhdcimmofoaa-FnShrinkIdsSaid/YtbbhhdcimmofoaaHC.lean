/- Generators: causes, and ids with them. -/
import Derived.Test.YtbbhhdcimmofoaaHB
set_option maxHeartbeats 4000000
set_option synthInstance.maxHeartbeats 400000
set_option synthInstance.maxSize 4096
set_option linter.unusedSimpArgs false
set_option linter.unusedVariables false
namespace Go.Proofs.Ytbbhhdcimmofoaa

set_option maxRecDepth 100000

theorem someCauses_c (B A : View) (L : List It) (q : Nat) (sl : Value) (N : Nat) (hb : Bts B sl) (hN : N ≤ 700000000) (l : Led B (rdr q sl N :: L) A) : ACalls Try.prog 68 #[.pointer (some ⟨q, 0, none⟩)] A fun r V => ∃ fp cs, cs.length ≤ 4 ∧ (∀ c, c ∈ cs → c.length ≤ 3) ∧ Led B (osl 24 (slO 9 strO) fp r cs :: rdr q sl (N + 50) :: L) V := by
  refine acalls Try.func68 rfl (by kernel_rfl) ?_
  simp (disch := omega) only [↓stq, amv_at, vls, inf, frs, mark_eq, ↓reduceIte, Nat.reduceEqDiff, ite_tt, ite_ff, eq_self, and_true, true_and, and_self, implies_true, Bool.true_eq_false, Bool.false_eq_true, decide_true, decide_false, decide_eq_true_eq, decide_eq_false_iff_not, ne_eq, not_true_eq_false, not_false_eq_true, Bool.not_eq_true', Bool.not_eq_false', beq_self_eq_true, Bool.not_true, Bool.not_false, List.getElem?_toArray, List.getElem?_cons_zero, List.getElem?_cons_succ]
  refine led_lit0 (O := slO 9 strO) li23 l fun b V _ l => ?_
  simp (disch := omega) only [↓stq, amv_at, vls, inf, frs, mark_eq, ↓reduceIte, Nat.reduceEqDiff, ite_tt, ite_ff, eq_self, and_true, true_and, and_self, implies_true, Bool.true_eq_false, Bool.false_eq_true, decide_true, decide_false, decide_eq_true_eq, decide_eq_false_iff_not, ne_eq, not_true_eq_false, not_false_eq_true, Bool.not_eq_true', Bool.not_eq_false', beq_self_eq_true, Bool.not_true, Bool.not_false, List.getElem?_toArray, List.getElem?_cons_zero, List.getElem?_cons_succ]
  refine led_lit li61 (by omega) rfl (by simp [Value.cells, Value.oneCell']) l fun bl V _ l => ?_
  simp (disch := omega) only [↓stq, amv_at, vls, inf, frs, mark_eq, ↓reduceIte, Nat.reduceEqDiff, ite_tt, ite_ff, eq_self, and_true, true_and, and_self, implies_true, Bool.true_eq_false, Bool.false_eq_true, decide_true, decide_false, decide_eq_true_eq, decide_eq_false_iff_not, ne_eq, not_true_eq_false, not_false_eq_true, Bool.not_eq_true', Bool.not_eq_false', beq_self_eq_true, Bool.not_true, Bool.not_false, List.getElem?_toArray, List.getElem?_cons_zero, List.getElem?_cons_succ]
  refine (oneLit_c (n := 5) (c := 5) (xs := [_, _, _, _, _]) B V (osl 24 (slO 9 strO) [b] _ [] :: L) q sl N hb (by omega) rfl rfl (by omega) (by decide) (by omega) (by omega) (l.perm ((List.Perm.swap ..).cons _))).mono ?_
  rintro _ V ⟨s, rfl, hs, l⟩
  have hs3 : 0 ≤ s ∧ s ≤ 4 := by revert s; decide
  obtain ⟨n, rfl⟩ := Int.eq_ofNat_of_zero_le hs3.1
  simp (disch := omega) only [↓stq, amv_at, vls, inf, frs, mark_eq, ↓reduceIte, Nat.reduceEqDiff, ite_tt, ite_ff, eq_self, and_true, true_and, and_self, implies_true, Bool.true_eq_false, Bool.false_eq_true, decide_true, decide_false, decide_eq_true_eq, decide_eq_false_iff_not, ne_eq, not_true_eq_false, not_false_eq_true, Bool.not_eq_true', Bool.not_eq_false', beq_self_eq_true, Bool.not_true, Bool.not_false, List.getElem?_toArray, List.getElem?_cons_zero, List.getElem?_cons_succ]
  refine aloop (fun d fr V => ∃ (k : Nat) (fp : List Nat) (w : Value) (cs : List (List ByteArray)), d = k ∧ k ≤ n ∧ cs.length + k ≤ n ∧ Led B (osl 24 (slO 9 strO) fp w cs :: rdr q sl (N + 1 + 10 * (n - k)) :: L) V ∧ fr 0 = .pointer (some ⟨q, 0, none⟩) ∧ fr 3 = w ∧ fr 4 = .int .i64 k ∧ ∀ c, c ∈ cs → c.length ≤ 3) n ⟨n, _, _, [], rfl, by omega, by simp, by rw [Nat.sub_self]; exact l.perm (List.Perm.swap ..), by rfl, by rfl, by rfl, by simp⟩ ?_
  clear l
  rintro k fr V ⟨_, fp, w, cs, rfl, hkn, hk, l, h0, h3, h4, hy⟩
  simp (disch := omega) only [↓stq, amv_at, vls, inf, frs, mark_eq, ↓reduceIte, Nat.reduceEqDiff, ite_tt, ite_ff, eq_self, and_true, true_and, and_self, implies_true, Bool.true_eq_false, Bool.false_eq_true, decide_true, decide_false, decide_eq_true_eq, decide_eq_false_iff_not, ne_eq, not_true_eq_false, not_false_eq_true, Bool.not_eq_true', Bool.not_eq_false', beq_self_eq_true, Bool.not_true, Bool.not_false, List.getElem?_toArray, List.getElem?_cons_zero, List.getElem?_cons_succ, h0, h3, h4]
  refine ⟨fun e => ?_, fun e => ?_⟩ <;> simp (disch := omega) only [↓stq, amv_at, vls, inf, frs, mark_eq, ↓reduceIte, Nat.reduceEqDiff, ite_tt, ite_ff, eq_self, and_true, true_and, and_self, implies_true, Bool.true_eq_false, Bool.false_eq_true, decide_true, decide_false, decide_eq_true_eq, decide_eq_false_iff_not, ne_eq, not_true_eq_false, not_false_eq_true, Bool.not_eq_true', Bool.not_eq_false', beq_self_eq_true, Bool.not_true, Bool.not_false, List.getElem?_toArray, List.getElem?_cons_zero, List.getElem?_cons_succ, h0, h3, h4]
  · refine led_lit0 (O := strO) li24 l fun b2 V _ l => ?_
    simp (disch := omega) only [↓stq, amv_at, vls, inf, frs, mark_eq, ↓reduceIte, Nat.reduceEqDiff, ite_tt, ite_ff, eq_self, and_true, true_and, and_self, implies_true, Bool.true_eq_false, Bool.false_eq_true, decide_true, decide_false, decide_eq_true_eq, decide_eq_false_iff_not, ne_eq, not_true_eq_false, not_false_eq_true, Bool.not_eq_true', Bool.not_eq_false', beq_self_eq_true, Bool.not_true, Bool.not_false, List.getElem?_toArray, List.getElem?_cons_zero, List.getElem?_cons_succ, h0, h3, h4]
    refine led_lit li61 (by omega) rfl (by simp [Value.cells, Value.oneCell']) l fun bl V _ l => ?_
    simp (disch := omega) only [↓stq, amv_at, vls, inf, frs, mark_eq, ↓reduceIte, Nat.reduceEqDiff, ite_tt, ite_ff, eq_self, and_true, true_and, and_self, implies_true, Bool.true_eq_false, Bool.false_eq_true, decide_true, decide_false, decide_eq_true_eq, decide_eq_false_iff_not, ne_eq, not_true_eq_false, not_false_eq_true, Bool.not_eq_true', Bool.not_eq_false', beq_self_eq_true, Bool.not_true, Bool.not_false, List.getElem?_toArray, List.getElem?_cons_zero, List.getElem?_cons_succ, h0, h3, h4]
    refine (oneLit_c (n := 4) (c := 4) (xs := [_, _, _, _]) B V (osl 9 strO [b2] _ [] :: osl 24 (slO 9 strO) fp w cs :: L) q sl _ hb (by omega) rfl rfl (by omega) (by decide) (by omega) (by omega) (l.perm (((List.Perm.swap ..).trans ((List.Perm.swap ..).cons _)).cons _))).mono ?_
    rintro _ V ⟨s, rfl, hs, l⟩
    have hs3 : 0 ≤ s ∧ s ≤ 3 := by revert s; decide
    obtain ⟨m, rfl⟩ := Int.eq_ofNat_of_zero_le hs3.1
    simp (disch := omega) only [↓stq, amv_at, vls, inf, frs, mark_eq, ↓reduceIte, Nat.reduceEqDiff, ite_tt, ite_ff, eq_self, and_true, true_and, and_self, implies_true, Bool.true_eq_false, Bool.false_eq_true, decide_true, decide_false, decide_eq_true_eq, decide_eq_false_iff_not, ne_eq, not_true_eq_false, not_false_eq_true, Bool.not_eq_true', Bool.not_eq_false', beq_self_eq_true, Bool.not_true, Bool.not_false, List.getElem?_toArray, List.getElem?_cons_zero, List.getElem?_cons_succ, h0, h3, h4]
    refine aloop (fun d fr V => ∃ (j : Nat) (fq : List Nat) (u : Value) (ys : List ByteArray), d = j ∧ j ≤ m ∧ ys.length + j ≤ m ∧ Led B (osl 9 strO fq u ys :: rdr q sl (N + 1 + 10 * (n - k) + 1 + (m - j)) :: osl 24 (slO 9 strO) fp w cs :: L) V ∧ fr 0 = .pointer (some ⟨q, 0, none⟩) ∧ fr 3 = w ∧ fr 4 = .int .i64 k ∧ fr 5 = u ∧ fr 6 = .int .i64 j) m ⟨m, _, _, [], rfl, by omega, by simp, by rw [Nat.sub_self]; exact l.perm (List.Perm.swap ..), h0, h3, h4, by rfl, by rfl⟩ ?_
    clear l h0 h3 h4
    rintro j fr V ⟨_, fq, u, ys, rfl, hjm, hj, l, h0, h3, h4, h5, h6⟩
    simp (disch := omega) only [↓stq, amv_at, vls, inf, frs, mark_eq, ↓reduceIte, Nat.reduceEqDiff, ite_tt, ite_ff, eq_self, and_true, true_and, and_self, implies_true, Bool.true_eq_false, Bool.false_eq_true, decide_true, decide_false, decide_eq_true_eq, decide_eq_false_iff_not, ne_eq, not_true_eq_false, not_false_eq_true, Bool.not_eq_true', Bool.not_eq_false', beq_self_eq_true, Bool.not_true, Bool.not_false, List.getElem?_toArray, List.getElem?_cons_zero, List.getElem?_cons_succ, h0, h3, h4, h5, h6]
    refine ⟨fun e => ?_, fun e => ?_⟩ <;> simp (disch := omega) only [↓stq, amv_at, vls, inf, frs, mark_eq, ↓reduceIte, Nat.reduceEqDiff, ite_tt, ite_ff, eq_self, and_true, true_and, and_self, implies_true, Bool.true_eq_false, Bool.false_eq_true, decide_true, decide_false, decide_eq_true_eq, decide_eq_false_iff_not, ne_eq, not_true_eq_false, not_false_eq_true, Bool.not_eq_true', Bool.not_eq_false', beq_self_eq_true, Bool.not_true, Bool.not_false, List.getElem?_toArray, List.getElem?_cons_zero, List.getElem?_cons_succ, h0, h3, h4, h5, h6]
    · refine led_lit li24 (by omega) rfl (by simp [Value.cells, Value.oneCell']) l fun bl V _ l => ?_
      simp (disch := omega) only [↓stq, amv_at, vls, inf, frs, mark_eq, ↓reduceIte, Nat.reduceEqDiff, ite_tt, ite_ff, eq_self, and_true, true_and, and_self, implies_true, Bool.true_eq_false, Bool.false_eq_true, decide_true, decide_false, decide_eq_true_eq, decide_eq_false_iff_not, ne_eq, not_true_eq_false, not_false_eq_true, Bool.not_eq_true', Bool.not_eq_false', beq_self_eq_true, Bool.not_true, Bool.not_false, List.getElem?_toArray, List.getElem?_cons_zero, List.getElem?_cons_succ, h0, h3, h4, h5, h6]
      refine (ofLit_c (n := 5) (c := 5) (xs := [_, _, _, _, _]) B V (osl 9 strO fq u ys :: osl 24 (slO 9 strO) fp w cs :: L) q sl _ hb (by omega) rfl rfl (by omega) (by decide) (by omega) (by omega) (l.perm ((List.Perm.swap ..).cons _))).mono ?_
      rintro _ V ⟨s, rfl, hs, l⟩
      have hsz : s.size ≤ 100 := by revert s; decide
      simp (disch := omega) only [↓stq, amv_at, vls, inf, frs, mark_eq, ↓reduceIte, Nat.reduceEqDiff, ite_tt, ite_ff, eq_self, and_true, true_and, and_self, implies_true, Bool.true_eq_false, Bool.false_eq_true, decide_true, decide_false, decide_eq_true_eq, decide_eq_false_iff_not, ne_eq, not_true_eq_false, not_false_eq_true, Bool.not_eq_true', Bool.not_eq_false', beq_self_eq_true, Bool.not_true, Bool.not_false, List.getElem?_toArray, List.getElem?_cons_zero, List.getElem?_cons_succ, h0, h3, h4, h5, h6]
      refine (addText_c B V (rdr q sl _ :: osl 24 (slO 9 strO) fp w cs :: L) fq u ys s (by omega) (by omega) (l.perm (List.Perm.swap ..))).mono ?_
      rintro r V ⟨fp2, l⟩
      simp (disch := omega) only [↓stq, amv_at, vls, inf, frs, mark_eq, ↓reduceIte, Nat.reduceEqDiff, ite_tt, ite_ff, eq_self, and_true, true_and, and_self, implies_true, Bool.true_eq_false, Bool.false_eq_true, decide_true, decide_false, decide_eq_true_eq, decide_eq_false_iff_not, ne_eq, not_true_eq_false, not_false_eq_true, Bool.not_eq_true', Bool.not_eq_false', beq_self_eq_true, Bool.not_true, Bool.not_false, List.getElem?_toArray, List.getElem?_cons_zero, List.getElem?_cons_succ, h0, h3, h4, h5, h6]
      have hal := addT_len ys s
      exact ⟨j - 1, by omega, j - 1, fp2, r, addT ys s, rfl, by omega, by omega, (rdr_more (l.perm (List.Perm.swap ..)) (M := N + 1 + 10 * (n - k) + 1 + (m - (j - 1))) (by omega)).perm (List.Perm.swap ..), rfl, by congr 1; omega⟩
    · obtain ⟨au, cu, rfl, _, _⟩ := (OSl.toS (show OSl 9 strO V fq u ys from l.at (i := 0) rfl)).slice
      have l2 : Led B (oc (slO 9 strO) fq ys [.slice au ys.length cu] :: osl 24 (slO 9 strO) fp w cs :: rdr q sl (N + 1 + 10 * (n - k) + 1 + (m - j)) :: L) V := Led.perm (l.toOc (i := 0) rfl) ((List.Perm.swap ..).cons _)
      simp (disch := omega) only [↓stq, amv_at, vls, inf, frs, mark_eq, ↓reduceIte, Nat.reduceEqDiff, ite_tt, ite_ff, eq_self, and_true, true_and, and_self, implies_true, Bool.true_eq_false, Bool.false_eq_true, decide_true, decide_false, decide_eq_true_eq, decide_eq_false_iff_not, ne_eq, not_true_eq_false, not_false_eq_true, Bool.not_eq_true', Bool.not_eq_false', beq_self_eq_true, Bool.not_true, Bool.not_false, List.getElem?_toArray, List.getElem?_cons_zero, List.getElem?_cons_succ, h0, h3, h4, h5, h6]
      refine led_lit li23 (by omega) rfl (by simp [Value.cells, Value.oneCell']) l2 fun bl V3 _ l => ?_
      simp (disch := omega) only [↓stq, amv_at, vls, inf, frs, mark_eq, ↓reduceIte, Nat.reduceEqDiff, ite_tt, ite_ff, eq_self, and_true, true_and, and_self, implies_true, Bool.true_eq_false, Bool.false_eq_true, decide_true, decide_false, decide_eq_true_eq, decide_eq_false_iff_not, ne_eq, not_true_eq_false, not_false_eq_true, Bool.not_eq_true', Bool.not_eq_false', beq_self_eq_true, Bool.not_true, Bool.not_false, List.getElem?_toArray, List.getElem?_cons_zero, List.getElem?_cons_succ, h0, h3, h4, h5, h6]
      refine led_appO (O := slO 9 strO) ap23_23 (by decide) l (i := 0) rfl (by omega) fun fp' w' W3 _ l => ?_
      simp (disch := omega) only [↓stq, amv_at, vls, inf, frs, mark_eq, ↓reduceIte, Nat.reduceEqDiff, ite_tt, ite_ff, eq_self, and_true, true_and, and_self, implies_true, Bool.true_eq_false, Bool.false_eq_true, decide_true, decide_false, decide_eq_true_eq, decide_eq_false_iff_not, ne_eq, not_true_eq_false, not_false_eq_true, Bool.not_eq_true', Bool.not_eq_false', beq_self_eq_true, Bool.not_true, Bool.not_false, List.getElem?_toArray, List.getElem?_cons_zero, List.getElem?_cons_succ, h0, h3, h4, h5, h6]
      refine ⟨k - 1, by omega, k - 1, fp', w', cs ++ [ys], rfl, by omega, by rw [List.length_append, List.length_singleton]; omega, (rdr_more (l.perm (List.Perm.swap ..)) (M := N + 1 + 10 * (n - (k - 1))) (by omega)).perm (List.Perm.swap ..), rfl, by congr 1; omega, fun c hc => ?_⟩
      rcases List.mem_append.1 hc with hc | hc
      · exact hy c hc
      · rw [List.mem_singleton.1 hc]; omega
  · skip
    obtain ⟨aw, cw, rfl, _, _⟩ := (OSl.toS (show OSl 24 (slO 9 strO) V fp w cs from l.at (i := 0) rfl)).slice
    simp (disch := omega) only [↓stq, amv_at, vls, inf, frs, mark_eq, ↓reduceIte, Nat.reduceEqDiff, ite_tt, ite_ff, eq_self, and_true, true_and, and_self, implies_true, Bool.true_eq_false, Bool.false_eq_true, decide_true, decide_false, decide_eq_true_eq, decide_eq_false_iff_not, ne_eq, not_true_eq_false, not_false_eq_true, Bool.not_eq_true', Bool.not_eq_false', beq_self_eq_true, Bool.not_true, Bool.not_false, List.getElem?_toArray, List.getElem?_cons_zero, List.getElem?_cons_succ, h0, h3, h4]
    refine ⟨fun e1 => ?_, fun e1 => ?_⟩ <;> simp (disch := omega) only [↓stq, amv_at, vls, inf, frs, mark_eq, ↓reduceIte, Nat.reduceEqDiff, ite_tt, ite_ff, eq_self, and_true, true_and, and_self, implies_true, Bool.true_eq_false, Bool.false_eq_true, decide_true, decide_false, decide_eq_true_eq, decide_eq_false_iff_not, ne_eq, not_true_eq_false, not_false_eq_true, Bool.not_eq_true', Bool.not_eq_false', beq_self_eq_true, Bool.not_true, Bool.not_false, List.getElem?_toArray, List.getElem?_cons_zero, List.getElem?_cons_succ, h0, h3, h4, e1]
    · refine (pick_c B V _ q sl _ 20 hb (by omega) ⟨by omega, by omega⟩ (l.perm (List.Perm.swap ..))).mono ?_
      rintro _ V ⟨u, rfl, _, _, l⟩
      simp (disch := omega) only [↓stq, amv_at, vls, inf, frs, mark_eq, ↓reduceIte, Nat.reduceEqDiff, ite_tt, ite_ff, eq_self, and_true, true_and, and_self, implies_true, Bool.true_eq_false, Bool.false_eq_true, decide_true, decide_false, decide_eq_true_eq, decide_eq_false_iff_not, ne_eq, not_true_eq_false, not_false_eq_true, Bool.not_eq_true', Bool.not_eq_false', beq_self_eq_true, Bool.not_true, Bool.not_false, List.getElem?_toArray, List.getElem?_cons_zero, List.getElem?_cons_succ, h0, h3, h4, e1]
      refine ⟨fun e2 => ?_, fun e2 => ?_⟩ <;> simp (disch := omega) only [↓stq, amv_at, vls, inf, frs, mark_eq, ↓reduceIte, Nat.reduceEqDiff, ite_tt, ite_ff, eq_self, and_true, true_and, and_self, implies_true, Bool.true_eq_false, Bool.false_eq_true, decide_true, decide_false, decide_eq_true_eq, decide_eq_false_iff_not, ne_eq, not_true_eq_false, not_false_eq_true, Bool.not_eq_true', Bool.not_eq_false', beq_self_eq_true, Bool.not_true, Bool.not_false, List.getElem?_toArray, List.getElem?_cons_zero, List.getElem?_cons_succ, h0, h3, h4]
      · obtain ⟨b, cb, d1, d2, d3, f1, f2, f3, hv, hcb, hd1, lo⟩ := (l.perm (List.Perm.swap ..)).openAt (k := 0) (by omega)
        injection hv with hv1 _ hv3
        subst hv1; subst hv3
        obtain ⟨v2, rfl, o2⟩ := (show (slO 9 strO).rel V f2 cs[0] d2 from lo.at (i := 1) rfl)
        replace hd1 : d1.length = 0 * 1 := hd1
        simp (disch := omega) only [↓stq, amv_at, vls, inf, frs, mark_eq, ↓reduceIte, Nat.reduceEqDiff, ite_tt, ite_ff, eq_self, and_true, true_and, and_self, implies_true, Bool.true_eq_false, Bool.false_eq_true, decide_true, decide_false, decide_eq_true_eq, decide_eq_false_iff_not, ne_eq, not_true_eq_false, not_false_eq_true, Bool.not_eq_true', Bool.not_eq_false', beq_self_eq_true, Bool.not_true, Bool.not_false, List.getElem?_toArray, List.getElem?_cons_zero, List.getElem?_cons_succ, h0, h3, h4]
        refine led_lit0 (O := strO) li24 lo fun bl V _ l => ?_
        simp (disch := omega) only [↓stq, amv_at, vls, inf, frs, mark_eq, ↓reduceIte, Nat.reduceEqDiff, ite_tt, ite_ff, eq_self, and_true, true_and, and_self, implies_true, Bool.true_eq_false, Bool.false_eq_true, decide_true, decide_false, decide_eq_true_eq, decide_eq_false_iff_not, ne_eq, not_true_eq_false, not_false_eq_true, Bool.not_eq_true', Bool.not_eq_false', beq_self_eq_true, Bool.not_true, Bool.not_false, List.getElem?_toArray, List.getElem?_cons_zero, List.getElem?_cons_succ, h0, h3, h4]
        refine led_mid l 1 rfl sz24 (j := 0) (d' := [.slice (some ⟨bl, 0, none⟩) 0 0]) (by omega) ⟨rfl, rfl⟩ ⟨by simp, rfl⟩ fun W _ l => ?_
        simp (disch := omega) only [↓stq, amv_at, vls, inf, frs, mark_eq, ↓reduceIte, Nat.reduceEqDiff, ite_tt, ite_ff, eq_self, and_true, true_and, and_self, implies_true, Bool.true_eq_false, Bool.false_eq_true, decide_true, decide_false, decide_eq_true_eq, decide_eq_false_iff_not, ne_eq, not_true_eq_false, not_false_eq_true, Bool.not_eq_true', Bool.not_eq_false', beq_self_eq_true, Bool.not_true, Bool.not_false, List.getElem?_toArray, List.getElem?_cons_zero, List.getElem?_cons_succ, h0, h3, h4]
        replace l := ((l.toOc (i := 0) rfl).sub (.cons_cons _ (.cons_cons _ (.cons _ (List.Sublist.refl _))))).perm (List.Perm.swap ..)
        have l9 : Led B (bx b ⟨24, d1 ++ ([.slice (some ⟨bl, 0, none⟩) 0 0] ++ d3), cw * (slO 9 strO).S.size, true⟩ :: oc (slO 9 strO) [bl] [] [.slice (some ⟨bl, 0, none⟩) 0 0] :: oel (slO 9 strO) f1 (cs.take 0) d1 :: oel (slO 9 strO) f3 (cs.drop (0 + 1)) d3 :: rdr q sl _ :: L) W := l
        have l10 := Led.closeAt (O := slO 9 strO) l9 (by omega) hcb (by omega)
        refine ⟨_, _, by rw [List.length_set]; omega, fun c hc => ?_, (rdr_more (l10.perm (List.Perm.swap ..)) (M := N + 50) (by omega)).perm (List.Perm.swap ..)⟩
        rcases List.mem_or_eq_of_mem_set hc with hc | rfl
        · exact hy c hc
        · simp
      · exact ⟨fp, cs, by omega, hy, (rdr_more l (M := N + 50) (by omega)).perm (List.Perm.swap ..)⟩
    · exact ⟨fp, cs, by omega, hy, (rdr_more (l.perm (List.Perm.swap ..)) (M := N + 50) (by omega)).perm (List.Perm.swap ..)⟩

end Go.Proofs.Ytbbhhdcimmofoaa

