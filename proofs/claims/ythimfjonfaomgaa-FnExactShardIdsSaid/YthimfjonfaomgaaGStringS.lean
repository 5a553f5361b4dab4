/- The helpers of the laws for lists of lists of texts: counted, copied, compared, marked. -/
import Derived.Test.YthimfjonfaomgaaE2
set_option maxHeartbeats 4000000
set_option synthInstance.maxHeartbeats 400000
set_option synthInstance.maxSize 4096
set_option linter.unusedSimpArgs false
set_option linter.unusedVariables false
namespace Go.Proofs.Ythimfjonfaomgaa

set_option maxRecDepth 100000

theorem cntL_strs_le : ∀ (xs : List (List ByteArray)), cntL (slT 9 strT) xs ≤ 4 * (xs.length + wL (slT 9 strT) xs)
  | [] => by simp [cntL]
  | x :: xs => by
    have h1 := cntL_str_le x
    have h2 := cntL_strs_le xs
    have h3 : (slT 9 strT).cnt x = cntL strT x := rfl
    have h4 : (slT 9 strT).w x = x.length + wL strT x := rfl
    simp only [cntL, wL, List.length_cons, h3, h4]
    omega

theorem Sl.strs {A : View} {a : Option Addr} {n c : Nat} {xs : List (List ByteArray)} (h : Sl (slS strS) A (.slice a n c) xs) {i : Nat} (hi : i < xs.length) : ∃ (ad : Addr) (b : Option Addr) (m : Nat), a = some ad ∧ A.cell (ad.add i) = some (.slice b (xs[i]).length m) ∧ Sl strS A (.slice b (xs[i]).length m) xs[i] := by
  obtain ⟨ad, d, h1, ⟨v, rfl, hv⟩, h3, h4⟩ := h.at hi
  obtain ⟨b, m, rfl, _⟩ := hv.slice
  have := h4 0 _ rfl
  rw [addr_add_add] at this
  exact ⟨ad, b, m, h1, by simpa [slS] using this, hv⟩

theorem eqStringSS_c (A : View) (v u : Value) (xs ys : List (List ByteArray)) (h : Sl (slS strS) A v xs) (h' : Sl (slS strS) A u ys) : ACalls Try.prog 36 #[v, u] A fun r A' => r = .bool (decide (xs = ys)) ∧ Ext A A' := by
  obtain ⟨a, c, rfl, hc, hl⟩ := h.slice
  obtain ⟨a', c', rfl, hc', hl'⟩ := h'.slice
  refine acalls Try.func36 rfl (by kernel_rfl) ?_
  simp (disch := omega) only [↓stp, vls, inf, frs, mark_eq, ↓reduceIte, Nat.reduceEqDiff, ite_tt, ite_ff, eq_self, and_true, true_and, and_self, implies_true, Bool.true_eq_false, Bool.false_eq_true, decide_true, decide_false, decide_eq_true_eq, decide_eq_false_iff_not, ne_eq, not_true_eq_false, not_false_eq_true, Bool.not_eq_true', Bool.not_eq_false', beq_self_eq_true, Bool.not_true, Bool.not_false, List.getElem?_toArray, List.getElem?_cons_zero, List.getElem?_cons_succ]
  refine ⟨fun e => ?_, fun e => ?_⟩
  · simp (disch := omega) only [↓stp, vls, inf, frs, mark_eq, ↓reduceIte, Nat.reduceEqDiff, ite_tt, ite_ff, eq_self, and_true, true_and, and_self, implies_true, Bool.true_eq_false, Bool.false_eq_true, decide_true, decide_false, decide_eq_true_eq, decide_eq_false_iff_not, ne_eq, not_true_eq_false, not_false_eq_true, Bool.not_eq_true', Bool.not_eq_false', beq_self_eq_true, Bool.not_true, Bool.not_false, List.getElem?_toArray, List.getElem?_cons_zero, List.getElem?_cons_succ]
    have : xs ≠ ys := fun he => e (by rw [he])
    exact ⟨by simp [this], Ext.refl _⟩
  · have hlen : xs.length = ys.length := by omega
    simp (disch := omega) only [↓stp, vls, inf, frs, mark_eq, ↓reduceIte, Nat.reduceEqDiff, ite_tt, ite_ff, eq_self, and_true, true_and, and_self, implies_true, Bool.true_eq_false, Bool.false_eq_true, decide_true, decide_false, decide_eq_true_eq, decide_eq_false_iff_not, ne_eq, not_true_eq_false, not_false_eq_true, Bool.not_eq_true', Bool.not_eq_false', beq_self_eq_true, Bool.not_true, Bool.not_false, List.getElem?_toArray, List.getElem?_cons_zero, List.getElem?_cons_succ]
    refine aloop (fun d fr A' => ∃ i : Nat, i ≤ xs.length ∧ d = xs.length - i ∧ Ext A A' ∧ fr 0 = .slice a xs.length c ∧ fr 1 = .slice a' ys.length c' ∧ fr 5 = .int .i64 i ∧ xs.take i = ys.take i) xs.length ⟨0, by omega, by omega, Ext.refl _, rfl, by rfl, by rfl, by simp⟩ ?_
    rintro d fr A' ⟨i, hi, rfl, he, h0, h1, h5, hn⟩
    simp (disch := omega) only [↓stp, vls, inf, frs, mark_eq, ↓reduceIte, Nat.reduceEqDiff, ite_tt, ite_ff, eq_self, and_true, true_and, and_self, implies_true, Bool.true_eq_false, Bool.false_eq_true, decide_true, decide_false, decide_eq_true_eq, decide_eq_false_iff_not, ne_eq, not_true_eq_false, not_false_eq_true, Bool.not_eq_true', Bool.not_eq_false', beq_self_eq_true, Bool.not_true, Bool.not_false, List.getElem?_toArray, List.getElem?_cons_zero, List.getElem?_cons_succ, h0, h1, h5]
    refine ⟨fun e => ?_, fun e => ?_⟩
    · obtain ⟨ad, b, m, rfl, hp, hd⟩ := (h.mono he).strs (i := i) (by omega)
      obtain ⟨ad', b', m', rfl, hp', hd'⟩ := (h'.mono he).strs (i := i) (by omega)
      simp (disch := omega) only [↓stp, vls, inf, frs, mark_eq, ↓reduceIte, Nat.reduceEqDiff, ite_tt, ite_ff, eq_self, and_true, true_and, and_self, implies_true, Bool.true_eq_false, Bool.false_eq_true, decide_true, decide_false, decide_eq_true_eq, decide_eq_false_iff_not, ne_eq, not_true_eq_false, not_false_eq_true, Bool.not_eq_true', Bool.not_eq_false', beq_self_eq_true, Bool.not_true, Bool.not_false, List.getElem?_toArray, List.getElem?_cons_zero, List.getElem?_cons_succ, h0, h1, h5]
      refine adraw_items [.q 0, .q 1, .q 2, .l 3 false, .q 4, .q 5, .q 6, .l 7 false, .c 8 [], .q 9] (by kernel_rfl) (by kernel_rfl) ?_
      simp (disch := omega) only [↓stp, ↓pln, plv, nilOk, Nat.reduceBEq, Bool.or_false, Bool.or_true, Bool.false_or, Bool.true_or, vls, inf, frs, mark_eq, ↓reduceIte, Nat.reduceEqDiff, ite_tt, ite_ff, eq_self, and_true, true_and, and_self, implies_true, Bool.true_eq_false, Bool.false_eq_true, decide_true, decide_false, decide_eq_true_eq, decide_eq_false_iff_not, ne_eq, not_true_eq_false, not_false_eq_true, Bool.not_eq_true', Bool.not_eq_false', beq_self_eq_true, Bool.not_true, Bool.not_false, List.getElem?_toArray, List.getElem?_cons_zero, List.getElem?_cons_succ, h0, h1, h5, hp, hp']
      refine (eqStringS_c A' _ _ xs[i] ys[i] hd hd').mono ?_
      rintro _ A1 ⟨rfl, he1⟩
      simp (disch := omega) only [↓stp, ↓pln, plv, nilOk, Nat.reduceBEq, Bool.or_false, Bool.or_true, Bool.false_or, Bool.true_or, vls, inf, frs, mark_eq, ↓reduceIte, Nat.reduceEqDiff, ite_tt, ite_ff, eq_self, and_true, true_and, and_self, implies_true, Bool.true_eq_false, Bool.false_eq_true, decide_true, decide_false, decide_eq_true_eq, decide_eq_false_iff_not, ne_eq, not_true_eq_false, not_false_eq_true, Bool.not_eq_true', Bool.not_eq_false', beq_self_eq_true, Bool.not_true, Bool.not_false, List.getElem?_toArray, List.getElem?_cons_zero, List.getElem?_cons_succ, h0, h1, h5]
      refine ⟨fun e1 => ?_, fun e1 => ?_⟩ <;> simp (disch := omega) only [↓stp, vls, inf, frs, mark_eq, ↓reduceIte, Nat.reduceEqDiff, ite_tt, ite_ff, eq_self, and_true, true_and, and_self, implies_true, Bool.true_eq_false, Bool.false_eq_true, decide_true, decide_false, decide_eq_true_eq, decide_eq_false_iff_not, ne_eq, not_true_eq_false, not_false_eq_true, Bool.not_eq_true', Bool.not_eq_false', beq_self_eq_true, Bool.not_true, Bool.not_false, List.getElem?_toArray, List.getElem?_cons_zero, List.getElem?_cons_succ, h0, h1, h5]
      · have : xs ≠ ys := fun he => e1 (by simp only [he])
        exact ⟨by simp [this], he.trans he1⟩
      · refine ⟨_, by omega, i + 1, by omega, rfl, he.trans he1, rfl, ?_⟩
        rw [List.take_succ_eq_append_getElem (by omega), List.take_succ_eq_append_getElem (by omega), hn]
        have : xs[i] = ys[i] := by simpa using e1
        rw [this]
    · rw [List.take_of_length_le (by omega), List.take_of_length_le (by omega)] at hn
      simp (disch := omega) only [↓stp, vls, inf, frs, mark_eq, ↓reduceIte, Nat.reduceEqDiff, ite_tt, ite_ff, eq_self, and_true, true_and, and_self, implies_true, Bool.true_eq_false, Bool.false_eq_true, decide_true, decide_false, decide_eq_true_eq, decide_eq_false_iff_not, ne_eq, not_true_eq_false, not_false_eq_true, Bool.not_eq_true', Bool.not_eq_false', beq_self_eq_true, Bool.not_true, Bool.not_false, List.getElem?_toArray, List.getElem?_cons_zero, List.getElem?_cons_succ, h0, h1, h5, hn]
      exact he

theorem markStringSS_c (A : View) (fp : List Nat) (v : Value) (xs : List (List ByteArray)) (k : Nat) (h : OSl 24 (slO 9 strO) A fp v xs) (hnd : fp.Nodup) (hk0 : 0 < k) (hk : k + cntL (slT 9 strT) xs ≤ 68719476736) :
    ACalls Try.prog 37 #[v, .int .i64 k] A fun r A' => r = .int .i64 ((k + cntL (slT 9 strT) xs : Nat) : Int) ∧ OSl 24 (slO 9 strO) A' fp v (mkL (slT 9 strT) k xs) ∧ Only fp A A' := by
  obtain ⟨hl, ⟨rfl, rfl, rfl⟩ | ⟨b, c, cells, f, rfl, hc, rfl, hbk, he⟩⟩ := h
  · refine acalls Try.func37 rfl (by kernel_rfl) ?_
    simp (disch := omega) only [↓stp, vls, inf, frs, mark_eq, ↓reduceIte, Nat.reduceEqDiff, ite_tt, ite_ff, eq_self, and_true, true_and, and_self, implies_true, Bool.true_eq_false, Bool.false_eq_true, decide_true, decide_false, decide_eq_true_eq, decide_eq_false_iff_not, ne_eq, not_true_eq_false, not_false_eq_true, Bool.not_eq_true', Bool.not_eq_false', beq_self_eq_true, Bool.not_true, Bool.not_false, List.getElem?_toArray, List.getElem?_cons_zero, List.getElem?_cons_succ]
    refine aloop (fun d fr A' => A' = A ∧ fr 0 = .slice none 0 0 ∧ fr 1 = .int .i64 k ∧ fr 5 = .int .i64 0) 0 ⟨rfl, by rfl, by rfl, by rfl⟩ ?_
    rintro d fr A ⟨rfl, h0, h1, h5⟩
    simp (disch := omega) only [↓stp, vls, inf, frs, mark_eq, ↓reduceIte, Nat.reduceEqDiff, ite_tt, ite_ff, eq_self, and_true, true_and, and_self, implies_true, Bool.true_eq_false, Bool.false_eq_true, decide_true, decide_false, decide_eq_true_eq, decide_eq_false_iff_not, ne_eq, not_true_eq_false, not_false_eq_true, Bool.not_eq_true', Bool.not_eq_false', beq_self_eq_true, Bool.not_true, Bool.not_false, List.getElem?_toArray, List.getElem?_cons_zero, List.getElem?_cons_succ, h0, h1, h5]
    refine ⟨fun e => by omega, fun e => ?_⟩
    simp (disch := omega) only [↓stp, vls, inf, frs, mark_eq, ↓reduceIte, Nat.reduceEqDiff, ite_tt, ite_ff, eq_self, and_true, true_and, and_self, implies_true, Bool.true_eq_false, Bool.false_eq_true, decide_true, decide_false, decide_eq_true_eq, decide_eq_false_iff_not, ne_eq, not_true_eq_false, not_false_eq_true, Bool.not_eq_true', Bool.not_eq_false', beq_self_eq_true, Bool.not_true, Bool.not_false, List.getElem?_toArray, List.getElem?_cons_zero, List.getElem?_cons_succ, h0, h1, h5]
    exact ⟨by simp [cntL], ⟨by simp [mkL], .inl ⟨rfl, rfl, rfl⟩⟩, Only.refl _ _⟩
  · have hcl := he.len
    refine acalls Try.func37 rfl (by kernel_rfl) ?_
    simp (disch := omega) only [↓stp, vls, inf, frs, mark_eq, ↓reduceIte, Nat.reduceEqDiff, ite_tt, ite_ff, eq_self, and_true, true_and, and_self, implies_true, Bool.true_eq_false, Bool.false_eq_true, decide_true, decide_false, decide_eq_true_eq, decide_eq_false_iff_not, ne_eq, not_true_eq_false, not_false_eq_true, Bool.not_eq_true', Bool.not_eq_false', beq_self_eq_true, Bool.not_true, Bool.not_false, List.getElem?_toArray, List.getElem?_cons_zero, List.getElem?_cons_succ]
    refine aloop (fun d fr A' => ∃ (i : Nat) (c1 c2 : List Value) (g1 g2 : List Nat), i ≤ xs.length ∧ d = xs.length - i ∧ c1.length = i ∧ Led (fun _ => none) [bx b ⟨24, c1 ++ c2, c * 1, true⟩, oel (slO 9 strO) g1 (mkL (slT 9 strT) k (xs.take i)) c1, oel (slO 9 strO) g2 (xs.drop i) c2] A' ∧ f = g1 ++ g2 ∧ Only (b :: f) A A' ∧ fr 0 = .slice (some ⟨b, 0, none⟩) xs.length c ∧ fr 1 = .int .i64 ((k + cntL (slT 9 strT) (xs.take i) : Nat) : Int) ∧ fr 5 = .int .i64 i) xs.length ⟨0, [], cells, [], f, by omega, by omega, rfl, led0 (by
      intro it hit
      simp only [List.mem_cons, List.not_mem_nil, or_false] at hit
      rcases hit with rfl | rfl | rfl
      · exact hbk
      · exact .nil
      · exact he) (by simpa [fps, bx, oel] using hnd), rfl, Only.refl _ _, rfl, by rfl, by rfl⟩ ?_
    rintro d fr A' ⟨i, c1, c2, g1, g2, hi, rfl, hc1, l, rfl, ho, h0, h1, h5⟩
    simp (disch := omega) only [↓stp, vls, inf, frs, mark_eq, ↓reduceIte, Nat.reduceEqDiff, ite_tt, ite_ff, eq_self, and_true, true_and, and_self, implies_true, Bool.true_eq_false, Bool.false_eq_true, decide_true, decide_false, decide_eq_true_eq, decide_eq_false_iff_not, ne_eq, not_true_eq_false, not_false_eq_true, Bool.not_eq_true', Bool.not_eq_false', beq_self_eq_true, Bool.not_true, Bool.not_false, List.getElem?_toArray, List.getElem?_cons_zero, List.getElem?_cons_succ, h0, h1, h5]
    refine ⟨fun e => ?_, fun e => ?_⟩
    · have hlt : i < xs.length := by omega
      have hsum := cntL_split (slT 9 strT) xs hlt
      have hcx : (slT 9 strT).cnt xs[i] = cntL strT xs[i] := rfl
      have hct := cntL_take (slT 9 strT) xs hlt
      have hmt := mkL_take (slT 9 strT) k xs hlt
      have hrest : OElems (slO 9 strO) A' g2 (xs.drop i) c2 := l.at (i := 2) rfl
      rw [List.drop_eq_getElem_cons hlt] at hrest
      obtain ⟨ge, g3, d, c3, rfl, rfl, ⟨u, rfl, hu⟩, hr3⟩ := hrest.uncons
      obtain ⟨au, cu, rfl, _, _⟩ := hu.toS.slice
      replace l : Led (fun _ => none) [bx b ⟨24, c1 ++ ([.slice au (xs[i]).length cu] ++ c3), c * 1, true⟩, oel (slO 9 strO) g1 (mkL (slT 9 strT) k (xs.take i)) c1, osl 9 strO ge (.slice au (xs[i]).length cu) xs[i], oel (slO 9 strO) g3 (xs.drop (i + 1)) c3] A' := led0 (by
        intro it hit
        simp only [List.mem_cons, List.not_mem_nil, or_false] at hit
        rcases hit with rfl | rfl | rfl | rfl
        · exact l.at (i := 0) rfl
        · exact l.at (i := 1) rfl
        · exact hu
        · exact hr3) (by simpa [fps, bx, oel, osl, List.append_assoc] using l.nd)
      have q := led_midcell (c1 := c1) l (i := 0) rfl (o := 0 + i) (j := 0) (by omega) rfl rfl
      simp (disch := omega) only [↓stp, vls, inf, frs, mark_eq, ↓reduceIte, Nat.reduceEqDiff, ite_tt, ite_ff, eq_self, and_true, true_and, and_self, implies_true, Bool.true_eq_false, Bool.false_eq_true, decide_true, decide_false, decide_eq_true_eq, decide_eq_false_iff_not, ne_eq, not_true_eq_false, not_false_eq_true, Bool.not_eq_true', Bool.not_eq_false', beq_self_eq_true, Bool.not_true, Bool.not_false, List.getElem?_toArray, List.getElem?_cons_zero, List.getElem?_cons_succ, h0, h1, h5, add_at, q]
      refine (markStringS_c _ ge _ _ (k + cntL (slT 9 strT) (xs.take i)) (l.at (i := 2) rfl) (l.nodup1 (i := 2) rfl) (by omega) (by omega)).mono ?_
      rintro _ A1 ⟨rfl, o, on1⟩
      replace l := l.upd (i := 2) (it := osl 9 strO ge _ _) (jt := osl 9 strO ge _ (mkL strT (k + cntL (slT 9 strT) (xs.take i)) xs[i])) rfl rfl on1 o
      replace ho := ho.trans (on1.more fun x hx => List.mem_cons_of_mem _ (List.mem_append_right _ (List.mem_append_left _ hx)))
      simp (disch := omega) only [↓stp, vls, inf, frs, mark_eq, ↓reduceIte, Nat.reduceEqDiff, ite_tt, ite_ff, eq_self, and_true, true_and, and_self, implies_true, Bool.true_eq_false, Bool.false_eq_true, decide_true, decide_false, decide_eq_true_eq, decide_eq_false_iff_not, ne_eq, not_true_eq_false, not_false_eq_true, Bool.not_eq_true', Bool.not_eq_false', beq_self_eq_true, Bool.not_true, Bool.not_false, List.getElem?_toArray, List.getElem?_cons_zero, List.getElem?_cons_succ, h0, h1, h5]
      have hs : OElems (slO 9 strO) A1 ge [(slT 9 strT).mk (k + cntL (slT 9 strT) (xs.take i)) xs[i]] [.slice au (xs[i]).length cu] := OElems.single ⟨_, rfl, l.at (i := 2) rfl⟩
      refine ⟨_, by omega, i + 1, c1 ++ [.slice au (xs[i]).length cu], c3, g1 ++ ge, g3, by omega, rfl, by simp; omega, led0 (by
        intro it hit
        simp only [List.mem_cons, List.not_mem_nil, or_false] at hit
        rcases hit with rfl | rfl | rfl
        · have hb0 : A1 b = some ⟨24, c1 ++ ([.slice au (xs[i]).length cu] ++ c3), c * 1, true⟩ := l.at (i := 0) rfl
          rw [Nat.mul_one] at hb0
          rw [List.append_assoc]
          exact hb0
        · rw [hmt]; exact OElems.append (l.at (i := 1) rfl) hs
        · exact l.at (i := 3) rfl) (by simpa [fps, bx, oel, osl, List.append_assoc] using l.nd), by simp [List.append_assoc], ho, ?_, rfl⟩
      rw [hct, hcx]
      all_goals (first | omega | (congr 1 <;> omega))
    · simp (disch := omega) only [↓stp, vls, inf, frs, mark_eq, ↓reduceIte, Nat.reduceEqDiff, ite_tt, ite_ff, eq_self, and_true, true_and, and_self, implies_true, Bool.true_eq_false, Bool.false_eq_true, decide_true, decide_false, decide_eq_true_eq, decide_eq_false_iff_not, ne_eq, not_true_eq_false, not_false_eq_true, Bool.not_eq_true', Bool.not_eq_false', beq_self_eq_true, Bool.not_true, Bool.not_false, List.getElem?_toArray, List.getElem?_cons_zero, List.getElem?_cons_succ, h0, h1, h5]
      have hi' : i = xs.length := by omega
      subst hi'
      rw [List.take_length] at l ⊢
      have hnil : OElems (slO 9 strO) A' g2 (xs.drop xs.length) c2 := l.at (i := 2) rfl
      rw [List.drop_length] at hnil
      obtain ⟨rfl, rfl⟩ := hnil.nil_inv
      have hb : A' b = some ⟨24, c1 ++ [], c * 1, true⟩ := l.at (i := 0) rfl
      rw [List.append_nil] at hb
      have hml := mkL_len (slT 9 strT) k xs
      refine ⟨rfl, ⟨by omega, .inr ⟨b, c, c1, g1, by rw [hml], by omega, by simp, hb, l.at (i := 1) rfl⟩⟩, ho⟩

theorem heldStringSS_c (A : View) (v : Value) (xs : List (List ByteArray)) (k : Nat) (h : Sl (slS strS) A v (mkL (slT 9 strT) k xs)) (hk0 : 0 < k) (hk : k + cntL (slT 9 strT) xs ≤ 68719476736) :
    ACalls Try.prog 38 #[v, .int .i64 k] A fun r A' => r = .int .i64 ((k + cntL (slT 9 strT) xs : Nat) : Int) ∧ Ext A A' := by
  obtain ⟨a, c, rfl, hc, hl⟩ := h.slice
  have hml := mkL_len (slT 9 strT) k xs
  rw [hml] at h hc hl
  simp only [hml]
  refine acalls Try.func38 rfl (by kernel_rfl) ?_
  simp (disch := omega) only [↓stp, vls, inf, frs, mark_eq, ↓reduceIte, Nat.reduceEqDiff, ite_tt, ite_ff, eq_self, and_true, true_and, and_self, implies_true, Bool.true_eq_false, Bool.false_eq_true, decide_true, decide_false, decide_eq_true_eq, decide_eq_false_iff_not, ne_eq, not_true_eq_false, not_false_eq_true, Bool.not_eq_true', Bool.not_eq_false', beq_self_eq_true, Bool.not_true, Bool.not_false, List.getElem?_toArray, List.getElem?_cons_zero, List.getElem?_cons_succ]
  refine aloop (fun d fr A' => ∃ i : Nat, i ≤ xs.length ∧ d = xs.length - i ∧ Ext A A' ∧ fr 0 = .slice a xs.length c ∧ fr 1 = .int .i64 ((k + cntL (slT 9 strT) (xs.take i) : Nat) : Int) ∧ fr 5 = .int .i64 i) xs.length ⟨0, by omega, by omega, Ext.refl _, by rfl, by rfl, by rfl⟩ ?_
  rintro d fr A' ⟨i, hi, rfl, he, h0, h1, h5⟩
  simp (disch := omega) only [↓stp, vls, inf, frs, mark_eq, ↓reduceIte, Nat.reduceEqDiff, ite_tt, ite_ff, eq_self, and_true, true_and, and_self, implies_true, Bool.true_eq_false, Bool.false_eq_true, decide_true, decide_false, decide_eq_true_eq, decide_eq_false_iff_not, ne_eq, not_true_eq_false, not_false_eq_true, Bool.not_eq_true', Bool.not_eq_false', beq_self_eq_true, Bool.not_true, Bool.not_false, List.getElem?_toArray, List.getElem?_cons_zero, List.getElem?_cons_succ, h0, h1, h5]
  refine ⟨fun e => ?_, fun e => ?_⟩
  · have hlt : i < xs.length := by omega
    have hsum := cntL_split (slT 9 strT) xs hlt
    have hcx : (slT 9 strT).cnt xs[i] = cntL strT xs[i] := rfl
    have hct := cntL_take (slT 9 strT) xs hlt
    obtain ⟨ad, b, m, rfl, hp, hd⟩ := (h.mono he).strs (i := i) (by omega)
    rw [mkL_get (slT 9 strT) k xs i hlt] at hd hp
    simp (disch := omega) only [↓stp, vls, inf, frs, mark_eq, ↓reduceIte, Nat.reduceEqDiff, ite_tt, ite_ff, eq_self, and_true, true_and, and_self, implies_true, Bool.true_eq_false, Bool.false_eq_true, decide_true, decide_false, decide_eq_true_eq, decide_eq_false_iff_not, ne_eq, not_true_eq_false, not_false_eq_true, Bool.not_eq_true', Bool.not_eq_false', beq_self_eq_true, Bool.not_true, Bool.not_false, List.getElem?_toArray, List.getElem?_cons_zero, List.getElem?_cons_succ, h0, h1, h5, hp]
    refine (heldStringS_c A' _ _ (k + cntL (slT 9 strT) (xs.take i)) hd (by omega) (by omega)).mono ?_
    rintro _ A1 ⟨rfl, he1⟩
    simp (disch := omega) only [↓stp, vls, inf, frs, mark_eq, ↓reduceIte, Nat.reduceEqDiff, ite_tt, ite_ff, eq_self, and_true, true_and, and_self, implies_true, Bool.true_eq_false, Bool.false_eq_true, decide_true, decide_false, decide_eq_true_eq, decide_eq_false_iff_not, ne_eq, not_true_eq_false, not_false_eq_true, Bool.not_eq_true', Bool.not_eq_false', beq_self_eq_true, Bool.not_true, Bool.not_false, List.getElem?_toArray, List.getElem?_cons_zero, List.getElem?_cons_succ, h0, h1, h5]
    refine ⟨fun e => by omega, fun _ => ?_⟩
    simp (disch := omega) only [↓stp, vls, inf, frs, mark_eq, ↓reduceIte, Nat.reduceEqDiff, ite_tt, ite_ff, eq_self, and_true, true_and, and_self, implies_true, Bool.true_eq_false, Bool.false_eq_true, decide_true, decide_false, decide_eq_true_eq, decide_eq_false_iff_not, ne_eq, not_true_eq_false, not_false_eq_true, Bool.not_eq_true', Bool.not_eq_false', beq_self_eq_true, Bool.not_true, Bool.not_false, List.getElem?_toArray, List.getElem?_cons_zero, List.getElem?_cons_succ, h0, h1, h5]
    refine ⟨_, by omega, i + 1, by omega, rfl, he.trans he1, ?_, rfl⟩
    rw [hct, hcx]
    all_goals (first | omega | (congr 1 <;> omega))
  · simp (disch := omega) only [↓stp, vls, inf, frs, mark_eq, ↓reduceIte, Nat.reduceEqDiff, ite_tt, ite_ff, eq_self, and_true, true_and, and_self, implies_true, Bool.true_eq_false, Bool.false_eq_true, decide_true, decide_false, decide_eq_true_eq, decide_eq_false_iff_not, ne_eq, not_true_eq_false, not_false_eq_true, Bool.not_eq_true', Bool.not_eq_false', beq_self_eq_true, Bool.not_true, Bool.not_false, List.getElem?_toArray, List.getElem?_cons_zero, List.getElem?_cons_succ, h0, h1, h5]
    have hi' : i = xs.length := by omega
    subst hi'
    rw [List.take_length]
    exact ⟨rfl, he⟩

end Go.Proofs.Ythimfjonfaomgaa

