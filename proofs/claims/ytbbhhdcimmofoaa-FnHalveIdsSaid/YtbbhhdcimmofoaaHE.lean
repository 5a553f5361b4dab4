/- Generators: causes and ids that are handed to the laws; the reference's least tests. -/
import Derived.Test.YtbbhhdcimmofoaaHC
import Derived.Test.YtbbhhdcimmofoaaHD
set_option maxHeartbeats 4000000
set_option synthInstance.maxHeartbeats 400000
set_option synthInstance.maxSize 4096
set_option linter.unusedSimpArgs false
set_option linter.unusedVariables false
namespace Go.Proofs.Ytbbhhdcimmofoaa

set_option maxRecDepth 100000

theorem causesIds_c (B A : View) (L : List It) (q : Nat) (sl : Value) (N : Nat) (hb : Bts B sl) (hN : N ≤ 600000000) (l : Led B (rdr q sl N :: L) A) : ACalls Try.prog 39 #[.pointer (some ⟨q, 0, none⟩)] A fun r V => ∃ fc fi vc vi cs ids, r = .tuple #[vc, vi] ∧ cs.length ≤ 4 ∧ (∀ c, c ∈ cs → c.length ≤ 3) ∧ ids.length ≤ 19 ∧ Led B (osl 9 strO fi vi ids :: osl 24 (slO 9 strO) fc vc cs :: rdr q sl (N + 200) :: L) V := by
  refine acalls Try.func39 rfl (by kernel_rfl) ?_
  simp (disch := omega) only [↓stq, amv_at, vls, inf, frs, mark_eq, ↓reduceIte, Nat.reduceEqDiff, ite_tt, ite_ff, eq_self, and_true, true_and, and_self, implies_true, Bool.true_eq_false, Bool.false_eq_true, decide_true, decide_false, decide_eq_true_eq, decide_eq_false_iff_not, ne_eq, not_true_eq_false, not_false_eq_true, Bool.not_eq_true', Bool.not_eq_false', beq_self_eq_true, Bool.not_true, Bool.not_false, List.getElem?_toArray, List.getElem?_cons_zero, List.getElem?_cons_succ]
  refine (someCauses_c B A L q sl N hb (by omega) l).mono ?_
  rintro vc V ⟨fc, cs, hc1, hc2, l⟩
  obtain ⟨ac, cc, rfl, _, _⟩ := (OSl.toS (show OSl 24 (slO 9 strO) V fc vc cs from l.at (i := 0) rfl)).slice
  simp (disch := omega) only [↓stq, amv_at, vls, inf, frs, mark_eq, ↓reduceIte, Nat.reduceEqDiff, ite_tt, ite_ff, eq_self, and_true, true_and, and_self, implies_true, Bool.true_eq_false, Bool.false_eq_true, decide_true, decide_false, decide_eq_true_eq, decide_eq_false_iff_not, ne_eq, not_true_eq_false, not_false_eq_true, Bool.not_eq_true', Bool.not_eq_false', beq_self_eq_true, Bool.not_true, Bool.not_false, List.getElem?_toArray, List.getElem?_cons_zero, List.getElem?_cons_succ]
  refine (someOrder_c B V (osl 24 (slO 9 strO) fc _ cs :: L) q sl _ hb (by omega) (l.perm (List.Perm.swap ..))).mono ?_
  rintro vi V ⟨fi, ids, hi1, hi2, l⟩
  obtain ⟨ai, ci, rfl, _, _⟩ := (OSl.toS (show OSl 9 strO V fi vi ids from l.at (i := 0) rfl)).slice
  replace l := l.perm ((List.Perm.swap ..).cons _)
  simp (disch := omega) only [↓stq, amv_at, vls, inf, frs, mark_eq, ↓reduceIte, Nat.reduceEqDiff, ite_tt, ite_ff, eq_self, and_true, true_and, and_self, implies_true, Bool.true_eq_false, Bool.false_eq_true, decide_true, decide_false, decide_eq_true_eq, decide_eq_false_iff_not, ne_eq, not_true_eq_false, not_false_eq_true, Bool.not_eq_true', Bool.not_eq_false', beq_self_eq_true, Bool.not_true, Bool.not_false, List.getElem?_toArray, List.getElem?_cons_zero, List.getElem?_cons_succ]
  refine ⟨fun e1 => ?_, fun e1 => ?_⟩ <;> simp (disch := omega) only [↓stq, amv_at, vls, inf, frs, mark_eq, ↓reduceIte, Nat.reduceEqDiff, ite_tt, ite_ff, eq_self, and_true, true_and, and_self, implies_true, Bool.true_eq_false, Bool.false_eq_true, decide_true, decide_false, decide_eq_true_eq, decide_eq_false_iff_not, ne_eq, not_true_eq_false, not_false_eq_true, Bool.not_eq_true', Bool.not_eq_false', beq_self_eq_true, Bool.not_true, Bool.not_false, List.getElem?_toArray, List.getElem?_cons_zero, List.getElem?_cons_succ, e1]
  · refine (pick_c B V _ q sl _ 4 hb (by omega) ⟨by omega, by omega⟩ (l.front 2 (by simp))).mono ?_
    rintro _ V ⟨u, rfl, _, _, l⟩
    simp (disch := omega) only [↓stq, amv_at, vls, inf, frs, mark_eq, ↓reduceIte, Nat.reduceEqDiff, ite_tt, ite_ff, eq_self, and_true, true_and, and_self, implies_true, Bool.true_eq_false, Bool.false_eq_true, decide_true, decide_false, decide_eq_true_eq, decide_eq_false_iff_not, ne_eq, not_true_eq_false, not_false_eq_true, Bool.not_eq_true', Bool.not_eq_false', beq_self_eq_true, Bool.not_true, Bool.not_false, List.getElem?_toArray, List.getElem?_cons_zero, List.getElem?_cons_succ, e1]
    refine ⟨fun e2 => ?_, fun e2 => ?_⟩ <;> simp (disch := omega) only [↓stq, amv_at, vls, inf, frs, mark_eq, ↓reduceIte, Nat.reduceEqDiff, ite_tt, ite_ff, eq_self, and_true, true_and, and_self, implies_true, Bool.true_eq_false, Bool.false_eq_true, decide_true, decide_false, decide_eq_true_eq, decide_eq_false_iff_not, ne_eq, not_true_eq_false, not_false_eq_true, Bool.not_eq_true', Bool.not_eq_false', beq_self_eq_true, Bool.not_true, Bool.not_false, List.getElem?_toArray, List.getElem?_cons_zero, List.getElem?_cons_succ]
    · refine (pick_c B V _ q sl _ cs.length hb (by omega) ⟨by omega, by omega⟩ l).mono ?_
      rintro _ V ⟨k, rfl, hk0, hk1, l⟩
      obtain ⟨k, rfl⟩ := Int.eq_ofNat_of_zero_le hk0
      have hkl : k < cs.length := by omega
      have hlen := hc2 _ (List.getElem_mem hkl)
      replace l : Led B (rdr q sl (N + 50 + 50 + 1 + 1) :: osl 9 strO fi (.slice ai ids.length ci) ids :: osl 24 (slO 9 strO) fc (.slice ac cs.length cc) cs :: L) V := l
      obtain ⟨b, cb, d1, d2, d3, f1, f2, f3, hv, hcb, hd1, lo⟩ := (l.front 2 (by simp)).openAt hkl
      injection hv with hv1 _ hv3
      subst hv1; subst hv3
      obtain ⟨v2, rfl, o2⟩ := (show (slO 9 strO).rel V f2 cs[k] d2 from lo.at (i := 1) rfl)
      obtain ⟨bb, m, rfl, _, _⟩ := o2.toS.slice
      replace hd1 : d1.length = k * 1 := hd1
      have kk : V.cell ((⟨b, 0, none⟩ : Addr).add k) = some (.slice bb (cs[k]).length m) := by
        rw [add_at]
        exact led_midcell lo (i := 0) rfl (j := 0) (by omega) rfl rfl
      simp (disch := omega) only [↓stq, amv_at, vls, inf, frs, mark_eq, ↓reduceIte, Nat.reduceEqDiff, ite_tt, ite_ff, eq_self, and_true, true_and, and_self, implies_true, Bool.true_eq_false, Bool.false_eq_true, decide_true, decide_false, decide_eq_true_eq, decide_eq_false_iff_not, ne_eq, not_true_eq_false, not_false_eq_true, Bool.not_eq_true', Bool.not_eq_false', beq_self_eq_true, Bool.not_true, Bool.not_false, List.getElem?_toArray, List.getElem?_cons_zero, List.getElem?_cons_succ, kk]
      have l2 : Led B (osl 9 strO fi (.slice ai ids.length ci) ids :: bx b ⟨24, d1 ++ ([.slice bb (cs[k]).length m] ++ d3), cc * (slO 9 strO).S.size, true⟩ :: oc (slO 9 strO) f2 cs[k] [.slice bb (cs[k]).length m] :: oel (slO 9 strO) f1 (cs.take k) d1 :: oel (slO 9 strO) f3 (cs.drop (k + 1)) d3 :: rdr q sl (N + 50 + 50 + 1 + 1) :: L) V := lo.front 5 (by simp)
      clear lo l
      refine aloop (fun d fr V => ∃ (i : Nat) (fi : List Nat) (w : Value) (ids : List ByteArray), i ≤ (cs[k]).length ∧ d = (cs[k]).length - i ∧ Led B (osl 9 strO fi w ids :: bx b ⟨24, d1 ++ ([.slice bb (cs[k]).length m] ++ d3), cc * (slO 9 strO).S.size, true⟩ :: oc (slO 9 strO) f2 cs[k] [.slice bb (cs[k]).length m] :: oel (slO 9 strO) f1 (cs.take k) d1 :: oel (slO 9 strO) f3 (cs.drop (k + 1)) d3 :: rdr q sl (N + 50 + 50 + 1 + 1) :: L) V ∧ fr 4 = .slice (some ⟨b, 0, none⟩) cs.length cc ∧ fr 5 = w ∧ fr 6 = .slice bb (cs[k]).length m ∧ fr 7 = .int .i64 i ∧ ids.length ≤ 9 + i) (cs[k]).length ⟨0, _, _, _, by omega, by omega, l2, by rfl, by rfl, by rfl, by rfl, by omega⟩ ?_
      clear l2 kk o2 hi1 hi2
      rintro d fr V ⟨i, fi, w, ids, hi, rfl, l, h4, h5, h6, h7, hi1⟩
      obtain ⟨v2, hv2, o2⟩ := (show (slO 9 strO).rel V f2 cs[k] [.slice bb (cs[k]).length m] from l.at (i := 2) rfl)
      obtain rfl := List.singleton_inj.1 hv2
      obtain ⟨aw, cw, rfl, _, _⟩ := (OSl.toS (show OSl 9 strO V fi w ids from l.at (i := 0) rfl)).slice
      have fin : ∃ fc fi vc vi cs' ids', Value.tuple #[.slice (some ⟨b, 0, none⟩) cs.length cc, .slice aw ids.length cw] = .tuple #[vc, vi] ∧ cs'.length ≤ 4 ∧ (∀ c, c ∈ cs' → c.length ≤ 3) ∧ ids'.length ≤ 19 ∧ Led B (osl 9 strO fi vi ids' :: osl 24 (slO 9 strO) fc vc cs' :: rdr q sl (N + 200) :: L) V := by
        have l9 : Led B (bx b ⟨24, d1 ++ ([.slice bb (cs[k]).length m] ++ d3), cc * (slO 9 strO).S.size, true⟩ :: oc (slO 9 strO) f2 cs[k] [.slice bb (cs[k]).length m] :: oel (slO 9 strO) f1 (cs.take k) d1 :: oel (slO 9 strO) f3 (cs.drop (k + 1)) d3 :: rdr q sl (N + 50 + 50 + 1 + 1) :: osl 9 strO fi (.slice aw ids.length cw) ids :: L) V := l.perm (List.perm_middle (l₁ := [_, _, _, _, _]))
        have l10 := Led.closeAt (O := slO 9 strO) l9 hkl hcb (by omega)
        have l11 : Led B (rdr q sl (N + 50 + 50 + 1 + 1) :: osl 9 strO fi (.slice aw ids.length cw) ids :: osl 24 (slO 9 strO) (b :: (f1 ++ (f2 ++ f3))) (.slice (some ⟨b, 0, none⟩) cs.length cc) (cs.set k cs[k]) :: L) V := l10.perm (List.perm_middle (l₁ := [_, _])).symm.symm
        refine ⟨_, _, _, _, cs.set k cs[k], ids, rfl, by rw [List.length_set]; omega, fun c hc => ?_, by omega, (rdr_more l11 (M := N + 200) (by omega)).perm ((List.perm_middle (l₁ := [_, _])))⟩
        rcases List.mem_or_eq_of_mem_set hc with hc | rfl
        · exact hc2 c hc
        · exact hlen
      simp (disch := omega) only [↓stq, amv_at, vls, inf, frs, mark_eq, ↓reduceIte, Nat.reduceEqDiff, ite_tt, ite_ff, eq_self, and_true, true_and, and_self, implies_true, Bool.true_eq_false, Bool.false_eq_true, decide_true, decide_false, decide_eq_true_eq, decide_eq_false_iff_not, ne_eq, not_true_eq_false, not_false_eq_true, Bool.not_eq_true', Bool.not_eq_false', beq_self_eq_true, Bool.not_true, Bool.not_false, List.getElem?_toArray, List.getElem?_cons_zero, List.getElem?_cons_succ, h4, h5, h6, h7]
      refine ⟨fun e3 => ?_, fun e3 => ?_⟩ <;> simp (disch := omega) only [↓stq, amv_at, vls, inf, frs, mark_eq, ↓reduceIte, Nat.reduceEqDiff, ite_tt, ite_ff, eq_self, and_true, true_and, and_self, implies_true, Bool.true_eq_false, Bool.false_eq_true, decide_true, decide_false, decide_eq_true_eq, decide_eq_false_iff_not, ne_eq, not_true_eq_false, not_false_eq_true, Bool.not_eq_true', Bool.not_eq_false', beq_self_eq_true, Bool.not_true, Bool.not_false, List.getElem?_toArray, List.getElem?_cons_zero, List.getElem?_cons_succ, h4, h5, h6, h7, e3]
      · refine ⟨fun e4 => ?_, fun e4 => ?_⟩ <;> simp (disch := omega) only [↓stq, amv_at, vls, inf, frs, mark_eq, ↓reduceIte, Nat.reduceEqDiff, ite_tt, ite_ff, eq_self, and_true, true_and, and_self, implies_true, Bool.true_eq_false, Bool.false_eq_true, decide_true, decide_false, decide_eq_true_eq, decide_eq_false_iff_not, ne_eq, not_true_eq_false, not_false_eq_true, Bool.not_eq_true', Bool.not_eq_false', beq_self_eq_true, Bool.not_true, Bool.not_false, List.getElem?_toArray, List.getElem?_cons_zero, List.getElem?_cons_succ, h4, h5, h6, h7]
        · have hlt : i < (cs[k]).length := by omega
          obtain ⟨ad, rfl, kk, zk⟩ := (OSl.toS o2).str hlt
          simp (disch := omega) only [↓stq, amv_at, vls, inf, frs, mark_eq, ↓reduceIte, Nat.reduceEqDiff, ite_tt, ite_ff, eq_self, and_true, true_and, and_self, implies_true, Bool.true_eq_false, Bool.false_eq_true, decide_true, decide_false, decide_eq_true_eq, decide_eq_false_iff_not, ne_eq, not_true_eq_false, not_false_eq_true, Bool.not_eq_true', Bool.not_eq_false', beq_self_eq_true, Bool.not_true, Bool.not_false, List.getElem?_toArray, List.getElem?_cons_zero, List.getElem?_cons_succ, h4, h5, h6, h7, kk]
          refine (addText_c B V _ fi _ ids _ zk (by omega) l).mono ?_
          rintro r V ⟨fp2, l⟩
          simp (disch := omega) only [↓stq, amv_at, vls, inf, frs, mark_eq, ↓reduceIte, Nat.reduceEqDiff, ite_tt, ite_ff, eq_self, and_true, true_and, and_self, implies_true, Bool.true_eq_false, Bool.false_eq_true, decide_true, decide_false, decide_eq_true_eq, decide_eq_false_iff_not, ne_eq, not_true_eq_false, not_false_eq_true, Bool.not_eq_true', Bool.not_eq_false', beq_self_eq_true, Bool.not_true, Bool.not_false, List.getElem?_toArray, List.getElem?_cons_zero, List.getElem?_cons_succ, h4, h5, h6, h7]
          have hal := addT_len ids (cs[k])[i]
          exact ⟨_, by omega, i + 1, fp2, r, _, by omega, rfl, l, rfl, rfl, by omega⟩
        · exact fin
      · exact fin
    · exact ⟨_, _, _, _, cs, ids, rfl, hc1, hc2, by omega, (rdr_more l (M := N + 200) (by omega)).perm (List.perm_middle (l₁ := [_, _]))⟩
  · exact ⟨_, _, _, _, cs, ids, rfl, hc1, hc2, by omega, (rdr_more (l.front 2 (by simp)) (M := N + 200) (by omega)).perm (List.perm_middle (l₁ := [_, _]))⟩

theorem DrawFailsWith_c (A : View) (v : Value) (bs : List UInt8) (h : Sl byteS A v bs) : ACalls Try.prog 10 #[v] A fun r V => ∃ (vc vi : Value) (cs : List (List ByteArray)) (ids : List ByteArray), r = .tuple #[vc, vi] ∧ cs.length ≤ 4 ∧ (∀ c, c ∈ cs → c.length ≤ 3) ∧ ids.length ≤ 19 ∧ Sl (slS strS) V vc cs ∧ Sl strS V vi ids ∧ Ext A V := by
  obtain ⟨a, c, rfl, _, _⟩ := h.slice
  refine acalls Try.func10 rfl (by kernel_rfl) ?_
  simp (disch := omega) only [↓stq, amv_at, vls, inf, frs, mark_eq, ↓reduceIte, Nat.reduceEqDiff, ite_tt, ite_ff, eq_self, and_true, true_and, and_self, implies_true, Bool.true_eq_false, Bool.false_eq_true, decide_true, decide_false, decide_eq_true_eq, decide_eq_false_iff_not, ne_eq, not_true_eq_false, not_false_eq_true, Bool.not_eq_true', Bool.not_eq_false', beq_self_eq_true, Bool.not_true, Bool.not_false, List.getElem?_toArray, List.getElem?_cons_zero, List.getElem?_cons_succ]
  refine (newReader_c A A _ bs h).mono ?_
  rintro _ V ⟨q, sl, rfl, hb, l⟩
  simp (disch := omega) only [↓stq, amv_at, vls, inf, frs, mark_eq, ↓reduceIte, Nat.reduceEqDiff, ite_tt, ite_ff, eq_self, and_true, true_and, and_self, implies_true, Bool.true_eq_false, Bool.false_eq_true, decide_true, decide_false, decide_eq_true_eq, decide_eq_false_iff_not, ne_eq, not_true_eq_false, not_false_eq_true, Bool.not_eq_true', Bool.not_eq_false', beq_self_eq_true, Bool.not_true, Bool.not_false, List.getElem?_toArray, List.getElem?_cons_zero, List.getElem?_cons_succ]
  refine (causesIds_c A V [] q sl 0 hb (by omega) l).mono ?_
  rintro _ V ⟨fc, fi, vc, vi, cs, ids, rfl, hc1, hc2, hi, l⟩
  simp (disch := omega) only [↓stq, amv_at, vls, inf, frs, mark_eq, ↓reduceIte, Nat.reduceEqDiff, ite_tt, ite_ff, eq_self, and_true, true_and, and_self, implies_true, Bool.true_eq_false, Bool.false_eq_true, decide_true, decide_false, decide_eq_true_eq, decide_eq_false_iff_not, ne_eq, not_true_eq_false, not_false_eq_true, Bool.not_eq_true', Bool.not_eq_false', beq_self_eq_true, Bool.not_true, Bool.not_false, List.getElem?_toArray, List.getElem?_cons_zero, List.getElem?_cons_succ]
  exact ⟨_, _, cs, ids, rfl, hc1, hc2, hi, OSl.toS (l.at (i := 1) rfl), OSl.toS (l.at (i := 0) rfl), l.ext⟩

theorem DrawShrinkIds_c (A : View) (v : Value) (bs : List UInt8) (h : Sl byteS A v bs) : ACalls Try.prog 24 #[v] A fun r V => ∃ (vc vi : Value) (cs : List (List ByteArray)) (ids : List ByteArray), r = .tuple #[vc, vi] ∧ cs.length ≤ 4 ∧ (∀ c, c ∈ cs → c.length ≤ 3) ∧ ids.length ≤ 19 ∧ Sl (slS strS) V vc cs ∧ Sl strS V vi ids ∧ Ext A V := by
  obtain ⟨a, c, rfl, _, _⟩ := h.slice
  refine acalls Try.func24 rfl (by kernel_rfl) ?_
  simp (disch := omega) only [↓stq, amv_at, vls, inf, frs, mark_eq, ↓reduceIte, Nat.reduceEqDiff, ite_tt, ite_ff, eq_self, and_true, true_and, and_self, implies_true, Bool.true_eq_false, Bool.false_eq_true, decide_true, decide_false, decide_eq_true_eq, decide_eq_false_iff_not, ne_eq, not_true_eq_false, not_false_eq_true, Bool.not_eq_true', Bool.not_eq_false', beq_self_eq_true, Bool.not_true, Bool.not_false, List.getElem?_toArray, List.getElem?_cons_zero, List.getElem?_cons_succ]
  refine (newReader_c A A _ bs h).mono ?_
  rintro _ V ⟨q, sl, rfl, hb, l⟩
  simp (disch := omega) only [↓stq, amv_at, vls, inf, frs, mark_eq, ↓reduceIte, Nat.reduceEqDiff, ite_tt, ite_ff, eq_self, and_true, true_and, and_self, implies_true, Bool.true_eq_false, Bool.false_eq_true, decide_true, decide_false, decide_eq_true_eq, decide_eq_false_iff_not, ne_eq, not_true_eq_false, not_false_eq_true, Bool.not_eq_true', Bool.not_eq_false', beq_self_eq_true, Bool.not_true, Bool.not_false, List.getElem?_toArray, List.getElem?_cons_zero, List.getElem?_cons_succ]
  refine (causesIds_c A V [] q sl 0 hb (by omega) l).mono ?_
  rintro _ V ⟨fc, fi, vc, vi, cs, ids, rfl, hc1, hc2, hi, l⟩
  simp (disch := omega) only [↓stq, amv_at, vls, inf, frs, mark_eq, ↓reduceIte, Nat.reduceEqDiff, ite_tt, ite_ff, eq_self, and_true, true_and, and_self, implies_true, Bool.true_eq_false, Bool.false_eq_true, decide_true, decide_false, decide_eq_true_eq, decide_eq_false_iff_not, ne_eq, not_true_eq_false, not_false_eq_true, Bool.not_eq_true', Bool.not_eq_false', beq_self_eq_true, Bool.not_true, Bool.not_false, List.getElem?_toArray, List.getElem?_cons_zero, List.getElem?_cons_succ]
  exact ⟨_, _, cs, ids, rfl, hc1, hc2, hi, OSl.toS (l.at (i := 1) rfl), OSl.toS (l.at (i := 0) rfl), l.ext⟩

theorem DrawHalveIds_c (A : View) (v : Value) (bs : List UInt8) (h : Sl byteS A v bs) : ACalls Try.prog 21 #[v] A fun r V => ∃ (vc vi : Value) (cs : List (List ByteArray)) (ids : List ByteArray), r = .tuple #[vc, vi] ∧ cs.length ≤ 4 ∧ (∀ c, c ∈ cs → c.length ≤ 3) ∧ ids.length ≤ 19 ∧ Sl (slS strS) V vc cs ∧ Sl strS V vi ids ∧ Ext A V := by
  obtain ⟨a, c, rfl, _, _⟩ := h.slice
  refine acalls Try.func21 rfl (by kernel_rfl) ?_
  simp (disch := omega) only [↓stq, amv_at, vls, inf, frs, mark_eq, ↓reduceIte, Nat.reduceEqDiff, ite_tt, ite_ff, eq_self, and_true, true_and, and_self, implies_true, Bool.true_eq_false, Bool.false_eq_true, decide_true, decide_false, decide_eq_true_eq, decide_eq_false_iff_not, ne_eq, not_true_eq_false, not_false_eq_true, Bool.not_eq_true', Bool.not_eq_false', beq_self_eq_true, Bool.not_true, Bool.not_false, List.getElem?_toArray, List.getElem?_cons_zero, List.getElem?_cons_succ]
  refine (newReader_c A A _ bs h).mono ?_
  rintro _ V ⟨q, sl, rfl, hb, l⟩
  simp (disch := omega) only [↓stq, amv_at, vls, inf, frs, mark_eq, ↓reduceIte, Nat.reduceEqDiff, ite_tt, ite_ff, eq_self, and_true, true_and, and_self, implies_true, Bool.true_eq_false, Bool.false_eq_true, decide_true, decide_false, decide_eq_true_eq, decide_eq_false_iff_not, ne_eq, not_true_eq_false, not_false_eq_true, Bool.not_eq_true', Bool.not_eq_false', beq_self_eq_true, Bool.not_true, Bool.not_false, List.getElem?_toArray, List.getElem?_cons_zero, List.getElem?_cons_succ]
  refine (causesIds_c A V [] q sl 0 hb (by omega) l).mono ?_
  rintro _ V ⟨fc, fi, vc, vi, cs, ids, rfl, hc1, hc2, hi, l⟩
  simp (disch := omega) only [↓stq, amv_at, vls, inf, frs, mark_eq, ↓reduceIte, Nat.reduceEqDiff, ite_tt, ite_ff, eq_self, and_true, true_and, and_self, implies_true, Bool.true_eq_false, Bool.false_eq_true, decide_true, decide_false, decide_eq_true_eq, decide_eq_false_iff_not, ne_eq, not_true_eq_false, not_false_eq_true, Bool.not_eq_true', Bool.not_eq_false', beq_self_eq_true, Bool.not_true, Bool.not_false, List.getElem?_toArray, List.getElem?_cons_zero, List.getElem?_cons_succ]
  exact ⟨_, _, cs, ids, rfl, hc1, hc2, hi, OSl.toS (l.at (i := 1) rfl), OSl.toS (l.at (i := 0) rfl), l.ext⟩

theorem DrawLeastCauses_c (A : View) (v : Value) (bs : List UInt8) (h : Sl byteS A v bs) : ACalls Try.prog 28 #[v] A fun r V => ∃ (vc vi : Value) (cs : List (List ByteArray)) (ids : List ByteArray), r = .tuple #[vc, vi] ∧ cs.length ≤ 4 ∧ (∀ c, c ∈ cs → c.length ≤ 3) ∧ ids.length ≤ 19 ∧ Sl (slS strS) V vc cs ∧ Sl strS V vi ids ∧ Ext A V := by
  obtain ⟨a, c, rfl, _, _⟩ := h.slice
  refine acalls Try.func28 rfl (by kernel_rfl) ?_
  simp (disch := omega) only [↓stq, amv_at, vls, inf, frs, mark_eq, ↓reduceIte, Nat.reduceEqDiff, ite_tt, ite_ff, eq_self, and_true, true_and, and_self, implies_true, Bool.true_eq_false, Bool.false_eq_true, decide_true, decide_false, decide_eq_true_eq, decide_eq_false_iff_not, ne_eq, not_true_eq_false, not_false_eq_true, Bool.not_eq_true', Bool.not_eq_false', beq_self_eq_true, Bool.not_true, Bool.not_false, List.getElem?_toArray, List.getElem?_cons_zero, List.getElem?_cons_succ]
  refine (newReader_c A A _ bs h).mono ?_
  rintro _ V ⟨q, sl, rfl, hb, l⟩
  simp (disch := omega) only [↓stq, amv_at, vls, inf, frs, mark_eq, ↓reduceIte, Nat.reduceEqDiff, ite_tt, ite_ff, eq_self, and_true, true_and, and_self, implies_true, Bool.true_eq_false, Bool.false_eq_true, decide_true, decide_false, decide_eq_true_eq, decide_eq_false_iff_not, ne_eq, not_true_eq_false, not_false_eq_true, Bool.not_eq_true', Bool.not_eq_false', beq_self_eq_true, Bool.not_true, Bool.not_false, List.getElem?_toArray, List.getElem?_cons_zero, List.getElem?_cons_succ]
  refine (causesIds_c A V [] q sl 0 hb (by omega) l).mono ?_
  rintro _ V ⟨fc, fi, vc, vi, cs, ids, rfl, hc1, hc2, hi, l⟩
  simp (disch := omega) only [↓stq, amv_at, vls, inf, frs, mark_eq, ↓reduceIte, Nat.reduceEqDiff, ite_tt, ite_ff, eq_self, and_true, true_and, and_self, implies_true, Bool.true_eq_false, Bool.false_eq_true, decide_true, decide_false, decide_eq_true_eq, decide_eq_false_iff_not, ne_eq, not_true_eq_false, not_false_eq_true, Bool.not_eq_true', Bool.not_eq_false', beq_self_eq_true, Bool.not_true, Bool.not_false, List.getElem?_toArray, List.getElem?_cons_zero, List.getElem?_cons_succ]
  exact ⟨_, _, cs, ids, rfl, hc1, hc2, hi, OSl.toS (l.at (i := 1) rfl), OSl.toS (l.at (i := 0) rfl), l.ext⟩

theorem spec_isLeast_c (A : View) (v u : Value) (cs : List (List ByteArray)) (ids : List ByteArray) (h : Sl (slS strS) A v cs) (h' : Sl strS A u ids) (hcs : ∀ c ∈ cs, c.length ≤ 16777215) : ACalls Try.prog 18 #[v, u] A fun r A' => r = .bool (lstB cs ids) ∧ Ext A A' := by
  obtain ⟨a, c, rfl, _, _⟩ := h'.slice
  refine acalls Try.func18 rfl (by kernel_rfl) ?_
  simp (disch := omega) only [↓stq, amv_at, vls, inf, frs, mark_eq, ↓reduceIte, Nat.reduceEqDiff, ite_tt, ite_ff, eq_self, and_true, true_and, and_self, implies_true, Bool.true_eq_false, Bool.false_eq_true, decide_true, decide_false, decide_eq_true_eq, decide_eq_false_iff_not, ne_eq, not_true_eq_false, not_false_eq_true, Bool.not_eq_true', Bool.not_eq_false', beq_self_eq_true, Bool.not_true, Bool.not_false, List.getElem?_toArray, List.getElem?_cons_zero, List.getElem?_cons_succ]
  refine (spec_goodCauses_c A _ _ cs ids h h').mono ?_
  rintro _ A ⟨rfl, rfl⟩
  simp (disch := omega) only [↓stq, amv_at, vls, inf, frs, mark_eq, ↓reduceIte, Nat.reduceEqDiff, ite_tt, ite_ff, eq_self, and_true, true_and, and_self, implies_true, Bool.true_eq_false, Bool.false_eq_true, decide_true, decide_false, decide_eq_true_eq, decide_eq_false_iff_not, ne_eq, not_true_eq_false, not_false_eq_true, Bool.not_eq_true', Bool.not_eq_false', beq_self_eq_true, Bool.not_true, Bool.not_false, List.getElem?_toArray, List.getElem?_cons_zero, List.getElem?_cons_succ]
  refine ⟨fun e1 => ?_, fun e1 => ?_⟩ <;> simp (disch := omega) only [↓stq, amv_at, vls, inf, frs, mark_eq, ↓reduceIte, Nat.reduceEqDiff, ite_tt, ite_ff, eq_self, and_true, true_and, and_self, implies_true, Bool.true_eq_false, Bool.false_eq_true, decide_true, decide_false, decide_eq_true_eq, decide_eq_false_iff_not, ne_eq, not_true_eq_false, not_false_eq_true, Bool.not_eq_true', Bool.not_eq_false', beq_self_eq_true, Bool.not_true, Bool.not_false, List.getElem?_toArray, List.getElem?_cons_zero, List.getElem?_cons_succ, e1]
  · have e1' := e1
    rw [Bool.and_eq_true] at e1'
    have hl := idsB_len' e1'.2
    refine (spec_failing_c A _ _ cs ids h h' hcs).mono ?_
    rintro _ V ⟨rfl, he⟩
    simp (disch := omega) only [↓stq, amv_at, vls, inf, frs, mark_eq, ↓reduceIte, Nat.reduceEqDiff, ite_tt, ite_ff, eq_self, and_true, true_and, and_self, implies_true, Bool.true_eq_false, Bool.false_eq_true, decide_true, decide_false, decide_eq_true_eq, decide_eq_false_iff_not, ne_eq, not_true_eq_false, not_false_eq_true, Bool.not_eq_true', Bool.not_eq_false', beq_self_eq_true, Bool.not_true, Bool.not_false, List.getElem?_toArray, List.getElem?_cons_zero, List.getElem?_cons_succ, e1]
    refine ⟨fun e2 => ?_, fun e2 => ?_⟩ <;> simp (disch := omega) only [↓stq, amv_at, vls, inf, frs, mark_eq, ↓reduceIte, Nat.reduceEqDiff, ite_tt, ite_ff, eq_self, and_true, true_and, and_self, implies_true, Bool.true_eq_false, Bool.false_eq_true, decide_true, decide_false, decide_eq_true_eq, decide_eq_false_iff_not, ne_eq, not_true_eq_false, not_false_eq_true, Bool.not_eq_true', Bool.not_eq_false', beq_self_eq_true, Bool.not_true, Bool.not_false, List.getElem?_toArray, List.getElem?_cons_zero, List.getElem?_cons_succ]
    · have : failB cs ids = false := by unfold failB; rw [e2, Bool.and_false]
      unfold lstB
      rw [this]
      exact ⟨rfl, he⟩
    · have hf : failB cs ids = true := failB_mk e1'.1 e1'.2 e2
      refine aloop (fun d fr V => ∃ i : Nat, i ≤ ids.length ∧ d = ids.length - i ∧ Ext A V ∧ fr 0 = v ∧ fr 1 = .slice a ids.length c ∧ fr 5 = .int .i64 i ∧ ∀ j, j < i → j < ids.length → failsS cs (ids.take j ++ ids.drop (j + 1)) = false) ids.length ⟨0, by omega, by omega, he, by rfl, by rfl, by rfl, fun j hj => absurd hj (Nat.not_lt_zero _)⟩ ?_
      rintro d fr V ⟨i, hi, rfl, he, h0, h1, h5, hn⟩
      simp (disch := omega) only [↓stq, amv_at, vls, inf, frs, mark_eq, ↓reduceIte, Nat.reduceEqDiff, ite_tt, ite_ff, eq_self, and_true, true_and, and_self, implies_true, Bool.true_eq_false, Bool.false_eq_true, decide_true, decide_false, decide_eq_true_eq, decide_eq_false_iff_not, ne_eq, not_true_eq_false, not_false_eq_true, Bool.not_eq_true', Bool.not_eq_false', beq_self_eq_true, Bool.not_true, Bool.not_false, List.getElem?_toArray, List.getElem?_cons_zero, List.getElem?_cons_succ, h0, h1, h5]
      refine ⟨fun e3 => ?_, fun e3 => ?_⟩ <;> simp (disch := omega) only [↓stq, amv_at, vls, inf, frs, mark_eq, ↓reduceIte, Nat.reduceEqDiff, ite_tt, ite_ff, eq_self, and_true, true_and, and_self, implies_true, Bool.true_eq_false, Bool.false_eq_true, decide_true, decide_false, decide_eq_true_eq, decide_eq_false_iff_not, ne_eq, not_true_eq_false, not_false_eq_true, Bool.not_eq_true', Bool.not_eq_false', beq_self_eq_true, Bool.not_true, Bool.not_false, List.getElem?_toArray, List.getElem?_cons_zero, List.getElem?_cons_succ, h0, h1, h5]
      · have hlt : i < ids.length := by omega
        refine adraw_items [.q 0, .q 2, .q 3, .q 4, .q 6, .q 7, .q 8, .q 9, .c 1 [], .c 5 [], .c 10 [], .c 11 []] (by kernel_rfl) (by kernel_rfl) ?_
        simp (disch := omega) only [↓stq, amv_at, ↓pln, plv, nilOk, Nat.reduceBEq, Bool.or_false, Bool.or_true, Bool.false_or, Bool.true_or, vls, inf, frs, mark_eq, ↓reduceIte, Nat.reduceEqDiff, ite_tt, ite_ff, eq_self, and_true, true_and, and_self, implies_true, Bool.true_eq_false, Bool.false_eq_true, decide_true, decide_false, decide_eq_true_eq, decide_eq_false_iff_not, ne_eq, not_true_eq_false, not_false_eq_true, Bool.not_eq_true', Bool.not_eq_false', beq_self_eq_true, Bool.not_true, Bool.not_false, List.getElem?_toArray, List.getElem?_cons_zero, List.getElem?_cons_succ, h0, h1, h5]
        refine led_lit0 (O := strO) li24 (Led.nil V) fun b V1 he1 l => ?_
        simp (disch := omega) only [↓stq, amv_at, ↓pln, plv, nilOk, Nat.reduceBEq, Bool.or_false, Bool.or_true, Bool.false_or, Bool.true_or, vls, inf, frs, mark_eq, ↓reduceIte, Nat.reduceEqDiff, ite_tt, ite_ff, eq_self, and_true, true_and, and_self, implies_true, Bool.true_eq_false, Bool.false_eq_true, decide_true, decide_false, decide_eq_true_eq, decide_eq_false_iff_not, ne_eq, not_true_eq_false, not_false_eq_true, Bool.not_eq_true', Bool.not_eq_false', beq_self_eq_true, Bool.not_true, Bool.not_false, List.getElem?_toArray, List.getElem?_cons_zero, List.getElem?_cons_succ, h0, h1, h5, false_implies]
        have hI := (h'.mono he).mono l.ext
        refine led_app (O := strO) ap24_24 (by decide) l (i := 0) rfl (Sl.srcOf (hI.take hi 1)) (by rw [List.length_nil, List.length_take]; omega) fun f1 w1 V2 _ l => ?_
        rw [List.nil_append] at l
        have hI := (h'.mono he).mono l.ext
        simp (disch := omega) only [↓stq, amv_at, ↓pln, plv, nilOk, Nat.reduceBEq, Bool.or_false, Bool.or_true, Bool.false_or, Bool.true_or, vls, inf, frs, mark_eq, ↓reduceIte, Nat.reduceEqDiff, ite_tt, ite_ff, eq_self, and_true, true_and, and_self, implies_true, Bool.true_eq_false, Bool.false_eq_true, decide_true, decide_false, decide_eq_true_eq, decide_eq_false_iff_not, ne_eq, not_true_eq_false, not_false_eq_true, Bool.not_eq_true', Bool.not_eq_false', beq_self_eq_true, Bool.not_true, Bool.not_false, List.getElem?_toArray, List.getElem?_cons_zero, List.getElem?_cons_succ, h0, h1, h5, false_implies]
        refine led_app (O := strO) ap24_24 (by decide) l (i := 0) rfl (Sl.srcOf (hI.drop (k := i + 1) hlt)) (by rw [List.length_take, List.length_drop]; omega) fun f2 w2 V3 _ l => ?_
        simp (disch := omega) only [↓stq, amv_at, ↓pln, plv, nilOk, Nat.reduceBEq, Bool.or_false, Bool.or_true, Bool.false_or, Bool.true_or, vls, inf, frs, mark_eq, ↓reduceIte, Nat.reduceEqDiff, ite_tt, ite_ff, eq_self, and_true, true_and, and_self, implies_true, Bool.true_eq_false, Bool.false_eq_true, decide_true, decide_false, decide_eq_true_eq, decide_eq_false_iff_not, ne_eq, not_true_eq_false, not_false_eq_true, Bool.not_eq_true', Bool.not_eq_false', beq_self_eq_true, Bool.not_true, Bool.not_false, List.getElem?_toArray, List.getElem?_cons_zero, List.getElem?_cons_succ, h0, h1, h5, false_implies]
        refine (spec_failing_c V3 _ _ cs _ ((h.mono he).mono l.ext) (OSl.toS (l.at (i := 0) rfl)) hcs).mono ?_
        rintro _ V4 ⟨rfl, he4⟩
        simp (disch := omega) only [↓stq, amv_at, ↓pln, plv, nilOk, Nat.reduceBEq, Bool.or_false, Bool.or_true, Bool.false_or, Bool.true_or, vls, inf, frs, mark_eq, ↓reduceIte, Nat.reduceEqDiff, ite_tt, ite_ff, eq_self, and_true, true_and, and_self, implies_true, Bool.true_eq_false, Bool.false_eq_true, decide_true, decide_false, decide_eq_true_eq, decide_eq_false_iff_not, ne_eq, not_true_eq_false, not_false_eq_true, Bool.not_eq_true', Bool.not_eq_false', beq_self_eq_true, Bool.not_true, Bool.not_false, List.getElem?_toArray, List.getElem?_cons_zero, List.getElem?_cons_succ, h0, h1, h5, false_implies]
        have hE := (he.trans l.ext).trans he4
        refine ⟨fun e4 => ?_, fun e4 => ?_⟩ <;> simp (disch := omega) only [↓stq, amv_at, vls, inf, frs, mark_eq, ↓reduceIte, Nat.reduceEqDiff, ite_tt, ite_ff, eq_self, and_true, true_and, and_self, implies_true, Bool.true_eq_false, Bool.false_eq_true, decide_true, decide_false, decide_eq_true_eq, decide_eq_false_iff_not, ne_eq, not_true_eq_false, not_false_eq_true, Bool.not_eq_true', Bool.not_eq_false', beq_self_eq_true, Bool.not_true, Bool.not_false, List.getElem?_toArray, List.getElem?_cons_zero, List.getElem?_cons_succ, h0, h1, h5]
        · refine ⟨?_, hE⟩
          unfold lstB
          rw [hf, Bool.true_and, decide_eq_false]
          intro hq
          have := (shr_len _ _ _).1 hq i (Nat.zero_le _) hlt
          rw [e4] at this
          cases this
        · refine ⟨_, by omega, i + 1, by omega, rfl, hE, rfl, fun j hj hjl => ?_⟩
          by_cases hji : j < i
          · exact hn j hji hjl
          · obtain rfl : j = i := by omega
            exact e4
      · refine ⟨?_, he⟩
        rw [lstB_of hf fun j hj => hn j (by omega) hj]
  · refine ⟨?_, Ext.refl _⟩
    unfold lstB failB
    rw [e1]
    rfl

theorem DrawIsLeast_c (A : View) (v : Value) (bs : List UInt8) (h : Sl byteS A v bs) : ACalls Try.prog 16 #[v] A fun r V => ∃ (vc vi : Value) (cs : List (List ByteArray)) (ids : List ByteArray), r = .tuple #[vc, vi] ∧ cs.length ≤ 4 ∧ (∀ c, c ∈ cs → c.length ≤ 3) ∧ ids.length ≤ 19 ∧ Sl (slS strS) V vc cs ∧ Sl strS V vi ids ∧ Ext A V := by
  obtain ⟨a, c, rfl, _, _⟩ := h.slice
  refine acalls Try.func16 rfl (by kernel_rfl) ?_
  simp (disch := omega) only [↓stq, amv_at, vls, inf, frs, mark_eq, ↓reduceIte, Nat.reduceEqDiff, ite_tt, ite_ff, eq_self, and_true, true_and, and_self, implies_true, Bool.true_eq_false, Bool.false_eq_true, decide_true, decide_false, decide_eq_true_eq, decide_eq_false_iff_not, ne_eq, not_true_eq_false, not_false_eq_true, Bool.not_eq_true', Bool.not_eq_false', beq_self_eq_true, Bool.not_true, Bool.not_false, List.getElem?_toArray, List.getElem?_cons_zero, List.getElem?_cons_succ]
  refine (newReader_c A A _ bs h).mono ?_
  rintro _ V ⟨q, sl, rfl, hb, l⟩
  simp (disch := omega) only [↓stq, amv_at, vls, inf, frs, mark_eq, ↓reduceIte, Nat.reduceEqDiff, ite_tt, ite_ff, eq_self, and_true, true_and, and_self, implies_true, Bool.true_eq_false, Bool.false_eq_true, decide_true, decide_false, decide_eq_true_eq, decide_eq_false_iff_not, ne_eq, not_true_eq_false, not_false_eq_true, Bool.not_eq_true', Bool.not_eq_false', beq_self_eq_true, Bool.not_true, Bool.not_false, List.getElem?_toArray, List.getElem?_cons_zero, List.getElem?_cons_succ]
  refine (causesIds_c A V [] q sl 0 hb (by omega) l).mono ?_
  rintro _ V ⟨fc, fi, vc, vi, cs, ids, rfl, hc1, hc2, hi, l⟩
  simp (disch := omega) only [↓stq, amv_at, vls, inf, frs, mark_eq, ↓reduceIte, Nat.reduceEqDiff, ite_tt, ite_ff, eq_self, and_true, true_and, and_self, implies_true, Bool.true_eq_false, Bool.false_eq_true, decide_true, decide_false, decide_eq_true_eq, decide_eq_false_iff_not, ne_eq, not_true_eq_false, not_false_eq_true, Bool.not_eq_true', Bool.not_eq_false', beq_self_eq_true, Bool.not_true, Bool.not_false, List.getElem?_toArray, List.getElem?_cons_zero, List.getElem?_cons_succ]
  refine (spec_goodCauses_c V _ _ cs ids (OSl.toS (l.at (i := 1) rfl)) (OSl.toS (l.at (i := 0) rfl))).mono ?_
  rintro _ V ⟨rfl, rfl⟩
  have fin : ∀ W, Led A [osl 9 strO fi vi ids, osl 24 (slO 9 strO) fc vc cs] W → ∃ (vc' vi' : Value) (cs' : List (List ByteArray)) (ids' : List ByteArray), Value.tuple #[vc, vi] = .tuple #[vc', vi'] ∧ cs'.length ≤ 4 ∧ (∀ c, c ∈ cs' → c.length ≤ 3) ∧ ids'.length ≤ 19 ∧ Sl (slS strS) W vc' cs' ∧ Sl strS W vi' ids' ∧ Ext A W := fun W l => ⟨_, _, cs, ids, rfl, hc1, hc2, hi, OSl.toS (l.at (i := 1) rfl), OSl.toS (l.at (i := 0) rfl), l.ext⟩
  simp (disch := omega) only [↓stq, amv_at, vls, inf, frs, mark_eq, ↓reduceIte, Nat.reduceEqDiff, ite_tt, ite_ff, eq_self, and_true, true_and, and_self, implies_true, Bool.true_eq_false, Bool.false_eq_true, decide_true, decide_false, decide_eq_true_eq, decide_eq_false_iff_not, ne_eq, not_true_eq_false, not_false_eq_true, Bool.not_eq_true', Bool.not_eq_false', beq_self_eq_true, Bool.not_true, Bool.not_false, List.getElem?_toArray, List.getElem?_cons_zero, List.getElem?_cons_succ]
  refine ⟨fun e1 => ?_, fun e1 => ?_⟩ <;> simp (disch := omega) only [↓stq, amv_at, vls, inf, frs, mark_eq, ↓reduceIte, Nat.reduceEqDiff, ite_tt, ite_ff, eq_self, and_true, true_and, and_self, implies_true, Bool.true_eq_false, Bool.false_eq_true, decide_true, decide_false, decide_eq_true_eq, decide_eq_false_iff_not, ne_eq, not_true_eq_false, not_false_eq_true, Bool.not_eq_true', Bool.not_eq_false', beq_self_eq_true, Bool.not_true, Bool.not_false, List.getElem?_toArray, List.getElem?_cons_zero, List.getElem?_cons_succ, e1]
  · refine (spec_failing_c V _ _ cs ids (OSl.toS (l.at (i := 1) rfl)) (OSl.toS (l.at (i := 0) rfl)) (fun c hc => by have := hc2 c hc; omega)).mono ?_
    rintro _ V2 ⟨rfl, he⟩
    replace l := l.step he
    simp (disch := omega) only [↓stq, amv_at, vls, inf, frs, mark_eq, ↓reduceIte, Nat.reduceEqDiff, ite_tt, ite_ff, eq_self, and_true, true_and, and_self, implies_true, Bool.true_eq_false, Bool.false_eq_true, decide_true, decide_false, decide_eq_true_eq, decide_eq_false_iff_not, ne_eq, not_true_eq_false, not_false_eq_true, Bool.not_eq_true', Bool.not_eq_false', beq_self_eq_true, Bool.not_true, Bool.not_false, List.getElem?_toArray, List.getElem?_cons_zero, List.getElem?_cons_succ, e1]
    refine ⟨fun e2 => ?_, fun e2 => ?_⟩ <;> simp (disch := omega) only [↓stq, amv_at, vls, inf, frs, mark_eq, ↓reduceIte, Nat.reduceEqDiff, ite_tt, ite_ff, eq_self, and_true, true_and, and_self, implies_true, Bool.true_eq_false, Bool.false_eq_true, decide_true, decide_false, decide_eq_true_eq, decide_eq_false_iff_not, ne_eq, not_true_eq_false, not_false_eq_true, Bool.not_eq_true', Bool.not_eq_false', beq_self_eq_true, Bool.not_true, Bool.not_false, List.getElem?_toArray, List.getElem?_cons_zero, List.getElem?_cons_succ, e1, e2]
    · refine (pick_c A V2 _ q sl _ 2 hb (by omega) ⟨by omega, by omega⟩ (l.front 2 (by simp))).mono ?_
      rintro _ V ⟨u, rfl, _, _, l⟩
      simp (disch := omega) only [↓stq, amv_at, vls, inf, frs, mark_eq, ↓reduceIte, Nat.reduceEqDiff, ite_tt, ite_ff, eq_self, and_true, true_and, and_self, implies_true, Bool.true_eq_false, Bool.false_eq_true, decide_true, decide_false, decide_eq_true_eq, decide_eq_false_iff_not, ne_eq, not_true_eq_false, not_false_eq_true, Bool.not_eq_true', Bool.not_eq_false', beq_self_eq_true, Bool.not_true, Bool.not_false, List.getElem?_toArray, List.getElem?_cons_zero, List.getElem?_cons_succ, e1, e2]
      refine ⟨fun e3 => ?_, fun e3 => ?_⟩ <;> simp (disch := omega) only [↓stq, amv_at, vls, inf, frs, mark_eq, ↓reduceIte, Nat.reduceEqDiff, ite_tt, ite_ff, eq_self, and_true, true_and, and_self, implies_true, Bool.true_eq_false, Bool.false_eq_true, decide_true, decide_false, decide_eq_true_eq, decide_eq_false_iff_not, ne_eq, not_true_eq_false, not_false_eq_true, Bool.not_eq_true', Bool.not_eq_false', beq_self_eq_true, Bool.not_true, Bool.not_false, List.getElem?_toArray, List.getElem?_cons_zero, List.getElem?_cons_succ]
      · refine (spec_shrunk_c V _ _ cs ids (OSl.toS (l.at (i := 2) rfl)) (OSl.toS (l.at (i := 1) rfl)) (by omega) (fun c hc => by have := hc2 c hc; omega)).mono ?_
        rintro r V3 ⟨f3, l3⟩
        simp (disch := omega) only [↓stq, amv_at, vls, inf, frs, mark_eq, ↓reduceIte, Nat.reduceEqDiff, ite_tt, ite_ff, eq_self, and_true, true_and, and_self, implies_true, Bool.true_eq_false, Bool.false_eq_true, decide_true, decide_false, decide_eq_true_eq, decide_eq_false_iff_not, ne_eq, not_true_eq_false, not_false_eq_true, Bool.not_eq_true', Bool.not_eq_false', beq_self_eq_true, Bool.not_true, Bool.not_false, List.getElem?_toArray, List.getElem?_cons_zero, List.getElem?_cons_succ]
        have hle := shr_le (failsS cs) ids 0
        exact ⟨_, _, cs, _, rfl, hc1, hc2, by omega, (OSl.toS (l.at (i := 2) rfl)).mono l3.ext, OSl.toS (l3.at (i := 0) rfl), l.ext.trans l3.ext⟩
      · exact fin V l.tail
    · exact fin V2 (l.sub (.cons_cons _ (.cons_cons _ (.cons _ .slnil))))
  · exact fin V (l.sub (.cons_cons _ (.cons_cons _ (.cons _ .slnil))))

end Go.Proofs.Ytbbhhdcimmofoaa

