/- What is learned of a report. -/
import Derived.Test.YthimfjonfaomgaaP1
import Derived.Test.YthimfjonfaomgaaKPast
import Derived.Test.YthimfjonfaomgaaGReport
set_option maxHeartbeats 4000000
set_option synthInstance.maxHeartbeats 400000
set_option synthInstance.maxSize 4096
set_option linter.unusedSimpArgs false
set_option linter.unusedVariables false
namespace Go.Proofs.Ythimfjonfaomgaa

set_option maxRecDepth 100000

def badB (o : Int) : Bool := decide (o = 1) || decide (o = 2)
def lstep (xs : List PastD) (r : ResultD) : List PastD := if r.2.1 = 3 then xs else match xs[xs.findIdx (isId r.1)]? with
  | some x => xs.set (xs.findIdx (isId r.1)) (x.1, badB r.2.1, x.2.2)
  | none => xs ++ [(r.1, badB r.2.1, 1, ())]

theorem lstep_len (xs : List PastD) (r : ResultD) : (lstep xs r).length ≤ xs.length + 1 := by
  unfold lstep
  split
  · omega
  · split <;> simp

def lst (xs : List PastD) (rs : List ResultD) : List PastD := rs.foldl lstep xs
theorem lst_take {xs : List PastD} {rs : List ResultD} {i : Nat} (h : i < rs.length) : lst xs (rs.take (i + 1)) = lstep (lst xs (rs.take i)) rs[i] := by
  unfold lst
  rw [List.take_succ_eq_append_getElem h, List.foldl_append]; rfl
theorem lst_len (xs : List PastD) (rs : List ResultD) : ∀ i, i ≤ rs.length → (lst xs (rs.take i)).length ≤ xs.length + i
  | 0, _ => by simp [lst]
  | i + 1, h => by
    have h1 := lst_len xs rs i (by omega)
    have h2 := lstep_len (lst xs (rs.take i)) rs[i]
    rw [lst_take (by omega)]
    omega

theorem idxI_fi {α : Type} {p : α → Bool} {xs : List α} (h : 0 ≤ idxI p xs) : idxI p xs = (xs.findIdx p : Nat) ∧ xs.findIdx p < xs.length := by
  rw [idxI_ge] at h
  exact ⟨by unfold idxI; rw [if_pos h], List.findIdx_lt_length.2 (List.any_eq_true.1 h)⟩
theorem idxI_nofi {α : Type} {p : α → Bool} {xs : List α} (h : ¬ 0 ≤ idxI p xs) : xs[xs.findIdx p]? = none := by
  rw [idxI_ge] at h
  rw [List.getElem?_eq_none_iff]
  refine Nat.le_of_not_lt fun hlt => h ?_
  exact List.any_eq_true.2 (List.findIdx_lt_length.1 hlt)

theorem impl_isBad_c (A : View) (o : Int) : ACalls Try.prog 49 #[.int .i64 o] A fun r A' => r = .bool (badB o) ∧ A' = A := by
  refine acalls Try.func49 rfl (by kernel_rfl) ?_
  simp (disch := omega) only [↓stp, vls, inf, frs, mark_eq, ↓reduceIte, Nat.reduceEqDiff, ite_tt, ite_ff, eq_self, and_true, true_and, and_self, implies_true, Bool.true_eq_false, Bool.false_eq_true, decide_true, decide_false, decide_eq_true_eq, decide_eq_false_iff_not, ne_eq, not_true_eq_false, not_false_eq_true, Bool.not_eq_true', Bool.not_eq_false', beq_self_eq_true, Bool.not_true, Bool.not_false, List.getElem?_toArray, List.getElem?_cons_zero, List.getElem?_cons_succ]
  unfold badB
  refine ⟨fun e => ?_, fun e => ?_⟩ <;> simp (disch := omega) only [↓stp, vls, inf, frs, mark_eq, ↓reduceIte, Nat.reduceEqDiff, ite_tt, ite_ff, eq_self, and_true, true_and, and_self, implies_true, Bool.true_eq_false, Bool.false_eq_true, decide_true, decide_false, decide_eq_true_eq, decide_eq_false_iff_not, ne_eq, not_true_eq_false, not_false_eq_true, Bool.not_eq_true', Bool.not_eq_false', beq_self_eq_true, Bool.not_true, Bool.not_false, List.getElem?_toArray, List.getElem?_cons_zero, List.getElem?_cons_succ, e]
  · rw [Bool.false_or]
  · rfl

theorem spec_isBad_c (A : View) (o : Int) : ACalls Try.prog 43 #[.int .i64 o] A fun r A' => r = .bool (badB o) ∧ A' = A := by
  refine acalls Try.func43 rfl (by kernel_rfl) ?_
  simp (disch := omega) only [↓stp, vls, inf, frs, mark_eq, ↓reduceIte, Nat.reduceEqDiff, ite_tt, ite_ff, eq_self, and_true, true_and, and_self, implies_true, Bool.true_eq_false, Bool.false_eq_true, decide_true, decide_false, decide_eq_true_eq, decide_eq_false_iff_not, ne_eq, not_true_eq_false, not_false_eq_true, Bool.not_eq_true', Bool.not_eq_false', beq_self_eq_true, Bool.not_true, Bool.not_false, List.getElem?_toArray, List.getElem?_cons_zero, List.getElem?_cons_succ]
  unfold badB
  refine ⟨fun e => ?_, fun e => ?_⟩ <;> simp (disch := omega) only [↓stp, vls, inf, frs, mark_eq, ↓reduceIte, Nat.reduceEqDiff, ite_tt, ite_ff, eq_self, and_true, true_and, and_self, implies_true, Bool.true_eq_false, Bool.false_eq_true, decide_true, decide_false, decide_eq_true_eq, decide_eq_false_iff_not, ne_eq, not_true_eq_false, not_false_eq_true, Bool.not_eq_true', Bool.not_eq_false', beq_self_eq_true, Bool.not_true, Bool.not_false, List.getElem?_toArray, List.getElem?_cons_zero, List.getElem?_cons_succ, e]
  · rw [Bool.false_or]
  · rfl

def learnB (xs : List PastD) (r : ReportD) : Bool := pastB xs && pastB (lst xs r.1)
def learnR (xs : List PastD) (r : ReportD) : List PastD := if learnB xs r then lst xs r.1 else []

theorem impl_learnPast_c (A : View) (v : Value) (d : List Value) (xs : List PastD) (x : ReportD) (h : Sl pastS A v xs) (h' : reportS.rel A x d) (hs1 : xs.length ≤ 1048576) (hs2 : x.1.length ≤ 1048576) :
    ACalls Try.prog 13 #[v, .agg d.toArray] A fun r A' => ∃ u0, r = .tuple #[u0, .bool (learnB xs x)] ∧ NewSl 69 pastO A u0 A' (learnR xs x) := by
  obtain ⟨u0, u1, rfl, hr, _⟩ := reportS_open h'
  obtain ⟨ar, cr, rfl, hcr, hlr⟩ := hr.slice
  refine acalls Try.func13 rfl (by kernel_rfl) ?_
  simp (disch := omega) only [↓stp, vls, inf, frs, mark_eq, ↓reduceIte, Nat.reduceEqDiff, ite_tt, ite_ff, eq_self, and_true, true_and, and_self, implies_true, Bool.true_eq_false, Bool.false_eq_true, decide_true, decide_false, decide_eq_true_eq, decide_eq_false_iff_not, ne_eq, not_true_eq_false, not_false_eq_true, Bool.not_eq_true', Bool.not_eq_false', beq_self_eq_true, Bool.not_true, Bool.not_false, List.getElem?_toArray, List.getElem?_cons_zero, List.getElem?_cons_succ]
  refine led_box (Led.nil A) (List.all_eq_true.2 (reportS.one h')) fun q V he0 l => ?_
  simp (disch := omega) only [↓stp, vls, inf, frs, mark_eq, ↓reduceIte, Nat.reduceEqDiff, ite_tt, ite_ff, eq_self, and_true, true_and, and_self, implies_true, Bool.true_eq_false, Bool.false_eq_true, decide_true, decide_false, decide_eq_true_eq, decide_eq_false_iff_not, ne_eq, not_true_eq_false, not_false_eq_true, Bool.not_eq_true', Bool.not_eq_false', beq_self_eq_true, Bool.not_true, Bool.not_false, List.getElem?_toArray, List.getElem?_cons_zero, List.getElem?_cons_succ]
  refine (impl_validPast_c V v xs (h.mono he0) (by omega)).mono ?_
  rintro _ V ⟨rfl, he⟩
  replace l := l.step he
  simp (disch := omega) only [↓stp, vls, inf, frs, mark_eq, ↓reduceIte, Nat.reduceEqDiff, ite_tt, ite_ff, eq_self, and_true, true_and, and_self, implies_true, Bool.true_eq_false, Bool.false_eq_true, decide_true, decide_false, decide_eq_true_eq, decide_eq_false_iff_not, ne_eq, not_true_eq_false, not_false_eq_true, Bool.not_eq_true', Bool.not_eq_false', beq_self_eq_true, Bool.not_true, Bool.not_false, List.getElem?_toArray, List.getElem?_cons_zero, List.getElem?_cons_succ]
  refine ⟨fun e1 => ?_, fun e1 => ?_⟩ <;> simp (disch := omega) only [↓stp, vls, inf, frs, mark_eq, ↓reduceIte, Nat.reduceEqDiff, ite_tt, ite_ff, eq_self, and_true, true_and, and_self, implies_true, Bool.true_eq_false, Bool.false_eq_true, decide_true, decide_false, decide_eq_true_eq, decide_eq_false_iff_not, ne_eq, not_true_eq_false, not_false_eq_true, Bool.not_eq_true', Bool.not_eq_false', beq_self_eq_true, Bool.not_true, Bool.not_false, List.getElem?_toArray, List.getElem?_cons_zero, List.getElem?_cons_succ]
  · have e : learnB xs x = false := by unfold learnB; rw [e1]; rfl
    refine ⟨_, by rw [e], ?_⟩
    unfold learnR
    rw [e]
    exact NewSl.nil l.ext
  · refine (clonePast_c V v xs (h.mono l.ext) (by omega)).mono ?_
    rintro w0 V ⟨f0, l1⟩
    replace l := l.append l1
    have c0 := l.cell (i := 1) rfl (o := 0) rfl rfl
    simp (disch := omega) only [↓stp, vls, inf, frs, mark_eq, ↓reduceIte, Nat.reduceEqDiff, ite_tt, ite_ff, eq_self, and_true, true_and, and_self, implies_true, Bool.true_eq_false, Bool.false_eq_true, decide_true, decide_false, decide_eq_true_eq, decide_eq_false_iff_not, ne_eq, not_true_eq_false, not_false_eq_true, Bool.not_eq_true', Bool.not_eq_false', beq_self_eq_true, Bool.not_true, Bool.not_false, List.getElem?_toArray, List.getElem?_cons_zero, List.getElem?_cons_succ, add_at, c0]
    replace l := l.sub (M := [osl 69 pastO f0 w0 xs]) (by simp)
    refine aloop (fun d fr A' => ∃ (i : Nat) (fp : List Nat) (w : Value), i ≤ x.1.length ∧ d = x.1.length - i ∧ Led A [osl 69 pastO fp w (lst xs (x.1.take i))] A' ∧ fr 6 = w ∧ fr 16 = .slice ar x.1.length cr ∧ fr 17 = .int .i64 x.1.length ∧ fr 18 = .int .i64 i) x.1.length ⟨0, _, _, by omega, by omega, l, by rfl, by rfl, by rfl, by rfl⟩ ?_
    rintro d fr A' ⟨i, fp, w, hi, rfl, l, h6, h16, h17, h18⟩
    have hll := lst_len xs x.1 i hi
    simp (disch := omega) only [↓stp, vls, inf, frs, mark_eq, ↓reduceIte, Nat.reduceEqDiff, ite_tt, ite_ff, eq_self, and_true, true_and, and_self, implies_true, Bool.true_eq_false, Bool.false_eq_true, decide_true, decide_false, decide_eq_true_eq, decide_eq_false_iff_not, ne_eq, not_true_eq_false, not_false_eq_true, Bool.not_eq_true', Bool.not_eq_false', beq_self_eq_true, Bool.not_true, Bool.not_false, List.getElem?_toArray, List.getElem?_cons_zero, List.getElem?_cons_succ, h6, h16, h17, h18]
    refine ⟨fun e => ?_, fun e => ?_⟩
    · have hlt : i < x.1.length := by omega
      obtain ⟨ad, rfl, hp, hz1, hz2⟩ := (hr.mono l.ext).result hlt
      have htk := lst_take (xs := xs) hlt
      simp (disch := omega) only [↓stp, vls, inf, frs, mark_eq, ↓reduceIte, Nat.reduceEqDiff, ite_tt, ite_ff, eq_self, and_true, true_and, and_self, implies_true, Bool.true_eq_false, Bool.false_eq_true, decide_true, decide_false, decide_eq_true_eq, decide_eq_false_iff_not, ne_eq, not_true_eq_false, not_false_eq_true, Bool.not_eq_true', Bool.not_eq_false', beq_self_eq_true, Bool.not_true, Bool.not_false, List.getElem?_toArray, List.getElem?_cons_zero, List.getElem?_cons_succ, h6, h16, h17, h18, hp]
      refine led_alloc zc67 l fun q8 V _ l => ?_
      simp (disch := omega) only [↓stp, vls, inf, frs, mark_eq, ↓reduceIte, Nat.reduceEqDiff, ite_tt, ite_ff, eq_self, and_true, true_and, and_self, implies_true, Bool.true_eq_false, Bool.false_eq_true, decide_true, decide_false, decide_eq_true_eq, decide_eq_false_iff_not, ne_eq, not_true_eq_false, not_false_eq_true, Bool.not_eq_true', Bool.not_eq_false', beq_self_eq_true, Bool.not_true, Bool.not_false, List.getElem?_toArray, List.getElem?_cons_zero, List.getElem?_cons_succ, h6, h16, h17, h18]
      refine led_storeAll l 0 rfl sz67 rfl rfl (by simp [Value.oneCell']) fun V l => ?_
      have k0 := l.cell (i := 0) rfl (o := 0) rfl rfl
      have k1 := l.cell (i := 0) rfl (o := 1) rfl rfl
      simp (disch := omega) only [↓stp, vls, inf, frs, mark_eq, ↓reduceIte, Nat.reduceEqDiff, ite_tt, ite_ff, eq_self, and_true, true_and, and_self, implies_true, Bool.true_eq_false, Bool.false_eq_true, decide_true, decide_false, decide_eq_true_eq, decide_eq_false_iff_not, ne_eq, not_true_eq_false, not_false_eq_true, Bool.not_eq_true', Bool.not_eq_false', beq_self_eq_true, Bool.not_true, Bool.not_false, List.getElem?_toArray, List.getElem?_cons_zero, List.getElem?_cons_succ, h6, h16, h17, h18, add_at, k0, k1]
      refine ⟨fun e2 => ?_, fun e2 => ?_⟩ <;> simp (disch := omega) only [↓stp, vls, inf, frs, mark_eq, ↓reduceIte, Nat.reduceEqDiff, ite_tt, ite_ff, eq_self, and_true, true_and, and_self, implies_true, Bool.true_eq_false, Bool.false_eq_true, decide_true, decide_false, decide_eq_true_eq, decide_eq_false_iff_not, ne_eq, not_true_eq_false, not_false_eq_true, Bool.not_eq_true', Bool.not_eq_false', beq_self_eq_true, Bool.not_true, Bool.not_false, List.getElem?_toArray, List.getElem?_cons_zero, List.getElem?_cons_succ, h6, h16, h17, h18, add_at, k0, k1]
      · refine ⟨_, by omega, i + 1, fp, _, by omega, rfl, ?_, rfl, rfl⟩
        rw [htk]
        unfold lstep
        rw [if_pos e2]
        exact l.tail
      · have hO : OSl 69 pastO V fp w (lst xs (x.1.take i)) := l.at (i := 1) rfl
        refine (impl_pastAt_c V w _ _ hO.toS).mono ?_
        rintro _ V ⟨rfl, he2⟩
        replace l := l.step he2
        have k0 := l.cell (i := 0) rfl (o := 0) rfl rfl
        have k1 := l.cell (i := 0) rfl (o := 1) rfl rfl
        simp (disch := omega) only [↓stp, vls, inf, frs, mark_eq, ↓reduceIte, Nat.reduceEqDiff, ite_tt, ite_ff, eq_self, and_true, true_and, and_self, implies_true, Bool.true_eq_false, Bool.false_eq_true, decide_true, decide_false, decide_eq_true_eq, decide_eq_false_iff_not, ne_eq, not_true_eq_false, not_false_eq_true, Bool.not_eq_true', Bool.not_eq_false', beq_self_eq_true, Bool.not_true, Bool.not_false, List.getElem?_toArray, List.getElem?_cons_zero, List.getElem?_cons_succ, h6, h16, h17, h18]
        refine ⟨fun e3 => ?_, fun e3 => ?_⟩ <;> simp (disch := omega) only [↓stp, vls, inf, frs, mark_eq, ↓reduceIte, Nat.reduceEqDiff, ite_tt, ite_ff, eq_self, and_true, true_and, and_self, implies_true, Bool.true_eq_false, Bool.false_eq_true, decide_true, decide_false, decide_eq_true_eq, decide_eq_false_iff_not, ne_eq, not_true_eq_false, not_false_eq_true, Bool.not_eq_true', Bool.not_eq_false', beq_self_eq_true, Bool.not_true, Bool.not_false, List.getElem?_toArray, List.getElem?_cons_zero, List.getElem?_cons_succ, h6, h16, h17, h18, add_at, k0, k1]
        · obtain ⟨hfi, hfl⟩ := idxI_fi e3
          refine (impl_isBad_c V _).mono ?_
          rintro _ V ⟨rfl, rfl⟩
          obtain ⟨_, ⟨rfl, hnil, _⟩ | ⟨b, c, cells, f, rfl, hc, rfl, hbk, hel⟩⟩ := (show OSl 69 pastO V fp w _ from l.at (i := 1) rfl)
          · rw [hnil] at hfl; simp at hfl
          · rw [hfi]
            simp (disch := omega) only [↓stp, vls, inf, frs, mark_eq, ↓reduceIte, Nat.reduceEqDiff, ite_tt, ite_ff, eq_self, and_true, true_and, and_self, implies_true, Bool.true_eq_false, Bool.false_eq_true, decide_true, decide_false, decide_eq_true_eq, decide_eq_false_iff_not, ne_eq, not_true_eq_false, not_false_eq_true, Bool.not_eq_true', Bool.not_eq_false', beq_self_eq_true, Bool.not_true, Bool.not_false, List.getElem?_toArray, List.getElem?_cons_zero, List.getElem?_cons_succ, h6, h16, h17, h18, add_at]
            refine led_setfield (x' := (((lst xs (x.1.take i))[List.findIdx (isId (x.1[i]).1) (lst xs (x.1.take i))]).1, badB (x.1[i]).2.1, ((lst xs (x.1.take i))[List.findIdx (isId (x.1[i]).1) (lst xs (x.1.take i))]).2.2)) l (i := 1) rfl hfl sz4 (j := 1) (by show _ = _ * 3 + 1; omega) ⟨rfl, rfl⟩ (fun d hd => ?_) fun W _ l => ?_
            · obtain ⟨rfl, g1, g2⟩ := pastS_open hd
              exact ⟨by simp, pastS_mk g1 g2⟩
            · simp (disch := omega) only [↓stp, vls, inf, frs, mark_eq, ↓reduceIte, Nat.reduceEqDiff, ite_tt, ite_ff, eq_self, and_true, true_and, and_self, implies_true, Bool.true_eq_false, Bool.false_eq_true, decide_true, decide_false, decide_eq_true_eq, decide_eq_false_iff_not, ne_eq, not_true_eq_false, not_false_eq_true, Bool.not_eq_true', Bool.not_eq_false', beq_self_eq_true, Bool.not_true, Bool.not_false, List.getElem?_toArray, List.getElem?_cons_zero, List.getElem?_cons_succ, h6, h16, h17, h18]
              have hl2 : Led A [osl 69 pastO (b :: f) (.slice (some ⟨b, 0, none⟩) (lst xs (x.1.take i)).length c) (lst xs (x.1.take (i + 1)))] W := by
                rw [htk]
                unfold lstep
                rw [if_neg e2, List.getElem?_eq_getElem hfl]
                exact l.tail
              exact ⟨_, by omega, i + 1, _, _, by omega, rfl, hl2, rfl, rfl⟩
        · refine adraw_items [.q 0, .q 1, .l 2 true, .q 3, .l 4 false, .c 5 [2], .q 6, .c 7 [], .c 8 [], .q 9] (by kernel_rfl) (by kernel_rfl) ?_
          simp (disch := omega) only [↓stp, ↓pln, plv, nilOk, Nat.reduceBEq, Bool.or_false, Bool.or_true, Bool.false_or, Bool.true_or, vls, inf, frs, mark_eq, ↓reduceIte, Nat.reduceEqDiff, ite_tt, ite_ff, eq_self, and_true, true_and, and_self, implies_true, Bool.true_eq_false, Bool.false_eq_true, decide_true, decide_false, decide_eq_true_eq, decide_eq_false_iff_not, ne_eq, not_true_eq_false, not_false_eq_true, Bool.not_eq_true', Bool.not_eq_false', beq_self_eq_true, Bool.not_true, Bool.not_false, List.getElem?_toArray, List.getElem?_cons_zero, List.getElem?_cons_succ, h6, h16, h17, h18, add_at, k0, k1]
          refine (impl_isBad_c V _).mono ?_
          rintro _ V ⟨rfl, rfl⟩
          simp (disch := omega) only [↓stp, ↓pln, plv, nilOk, Nat.reduceBEq, Bool.or_false, Bool.or_true, Bool.false_or, Bool.true_or, vls, inf, frs, mark_eq, ↓reduceIte, Nat.reduceEqDiff, ite_tt, ite_ff, eq_self, and_true, true_and, and_self, implies_true, Bool.true_eq_false, Bool.false_eq_true, decide_true, decide_false, decide_eq_true_eq, decide_eq_false_iff_not, ne_eq, not_true_eq_false, not_false_eq_true, Bool.not_eq_true', Bool.not_eq_false', beq_self_eq_true, Bool.not_true, Bool.not_false, List.getElem?_toArray, List.getElem?_cons_zero, List.getElem?_cons_succ, h6, h16, h17, h18, add_at, k0, k1]
          refine led_lit li29 (by omega) rfl (fun p hp => by rcases List.mem_singleton.1 hp with rfl; exact ⟨rfl, rfl⟩) l fun bl V _ l => ?_
          simp (disch := omega) only [↓stp, ↓pln, plv, nilOk, Nat.reduceBEq, Bool.or_false, Bool.or_true, Bool.false_or, Bool.true_or, vls, inf, frs, mark_eq, ↓reduceIte, Nat.reduceEqDiff, ite_tt, ite_ff, eq_self, and_true, true_and, and_self, implies_true, Bool.true_eq_false, Bool.false_eq_true, decide_true, decide_false, decide_eq_true_eq, decide_eq_false_iff_not, ne_eq, not_true_eq_false, not_false_eq_true, Bool.not_eq_true', Bool.not_eq_false', beq_self_eq_true, Bool.not_true, Bool.not_false, List.getElem?_toArray, List.getElem?_cons_zero, List.getElem?_cons_succ, h6, h16, h17, h18, false_implies]
          refine led_app (O := pastO) ap29_29 (by decide) l (i := 2) rfl (l.src1 (S := pastS) (j := 0) rfl (pastS_mk (x := ((x.1[i]).1, badB (x.1[i]).2.1, 1, ())) hz1 (show (-9223372036854775808 : Int) ≤ 1 ∧ (1 : Int) < 9223372036854775808 from ⟨by decide, by decide⟩))) (by rw [List.length_singleton]; omega) fun fp' w' W3 _ l => ?_
          simp (disch := omega) only [↓stp, ↓pln, plv, nilOk, Nat.reduceBEq, Bool.or_false, Bool.or_true, Bool.false_or, Bool.true_or, vls, inf, frs, mark_eq, ↓reduceIte, Nat.reduceEqDiff, ite_tt, ite_ff, eq_self, and_true, true_and, and_self, implies_true, Bool.true_eq_false, Bool.false_eq_true, decide_true, decide_false, decide_eq_true_eq, decide_eq_false_iff_not, ne_eq, not_true_eq_false, not_false_eq_true, Bool.not_eq_true', Bool.not_eq_false', beq_self_eq_true, Bool.not_true, Bool.not_false, List.getElem?_toArray, List.getElem?_cons_zero, List.getElem?_cons_succ, h6, h16, h17, h18, false_implies]
          have hl2 : Led A [osl 69 pastO fp' w' (lst xs (x.1.take (i + 1)))] W3 := by
            rw [htk]
            unfold lstep
            rw [if_neg e2, idxI_nofi (by omega)]
            exact l.tail.tail
          exact ⟨_, by omega, i + 1, _, _, by omega, rfl, hl2, rfl, rfl⟩
    · simp (disch := omega) only [↓stp, vls, inf, frs, mark_eq, ↓reduceIte, Nat.reduceEqDiff, ite_tt, ite_ff, eq_self, and_true, true_and, and_self, implies_true, Bool.true_eq_false, Bool.false_eq_true, decide_true, decide_false, decide_eq_true_eq, decide_eq_false_iff_not, ne_eq, not_true_eq_false, not_false_eq_true, Bool.not_eq_true', Bool.not_eq_false', beq_self_eq_true, Bool.not_true, Bool.not_false, List.getElem?_toArray, List.getElem?_cons_zero, List.getElem?_cons_succ, h6, h16, h17, h18]
      have hi' : i = x.1.length := by omega
      subst hi'
      rw [List.take_length] at l
      have hO : OSl 69 pastO A' fp w (lst xs x.1) := l.at (i := 0) rfl
      rw [List.take_length] at hll
      refine (impl_validPast_c A' w _ hO.toS (by omega)).mono ?_
      rintro _ V ⟨rfl, he2⟩
      replace l := l.step he2
      simp (disch := omega) only [↓stp, vls, inf, frs, mark_eq, ↓reduceIte, Nat.reduceEqDiff, ite_tt, ite_ff, eq_self, and_true, true_and, and_self, implies_true, Bool.true_eq_false, Bool.false_eq_true, decide_true, decide_false, decide_eq_true_eq, decide_eq_false_iff_not, ne_eq, not_true_eq_false, not_false_eq_true, Bool.not_eq_true', Bool.not_eq_false', beq_self_eq_true, Bool.not_true, Bool.not_false, List.getElem?_toArray, List.getElem?_cons_zero, List.getElem?_cons_succ, h6, h16, h17, h18]
      refine ⟨fun e3 => ?_, fun e3 => ?_⟩ <;> simp (disch := omega) only [↓stp, vls, inf, frs, mark_eq, ↓reduceIte, Nat.reduceEqDiff, ite_tt, ite_ff, eq_self, and_true, true_and, and_self, implies_true, Bool.true_eq_false, Bool.false_eq_true, decide_true, decide_false, decide_eq_true_eq, decide_eq_false_iff_not, ne_eq, not_true_eq_false, not_false_eq_true, Bool.not_eq_true', Bool.not_eq_false', beq_self_eq_true, Bool.not_true, Bool.not_false, List.getElem?_toArray, List.getElem?_cons_zero, List.getElem?_cons_succ, h6, h16, h17, h18]
      · have e : learnB xs x = false := by unfold learnB; rw [e3, Bool.and_false]
        refine ⟨_, by rw [e], ?_⟩
        unfold learnR
        rw [e]
        exact NewSl.nil l.ext
      · have e : learnB xs x = true := by unfold learnB; rw [e1, e3]; rfl
        refine ⟨_, by rw [e], ?_⟩
        unfold learnR
        rw [if_pos e]
        exact NewSl.of l (i := 0) rfl

theorem spec_learnPast_c (A : View) (v : Value) (d : List Value) (xs : List PastD) (x : ReportD) (h : Sl pastS A v xs) (h' : reportS.rel A x d) (hs1 : xs.length ≤ 1048576) (hs2 : x.1.length ≤ 1048576) :
    ACalls Try.prog 10 #[v, .agg d.toArray] A fun r A' => ∃ u0, r = .tuple #[u0, .bool (learnB xs x)] ∧ NewSl 69 pastO A u0 A' (learnR xs x) := by
  obtain ⟨u0, u1, rfl, hr, _⟩ := reportS_open h'
  obtain ⟨ar, cr, rfl, hcr, hlr⟩ := hr.slice
  refine acalls Try.func10 rfl (by kernel_rfl) ?_
  simp (disch := omega) only [↓stp, vls, inf, frs, mark_eq, ↓reduceIte, Nat.reduceEqDiff, ite_tt, ite_ff, eq_self, and_true, true_and, and_self, implies_true, Bool.true_eq_false, Bool.false_eq_true, decide_true, decide_false, decide_eq_true_eq, decide_eq_false_iff_not, ne_eq, not_true_eq_false, not_false_eq_true, Bool.not_eq_true', Bool.not_eq_false', beq_self_eq_true, Bool.not_true, Bool.not_false, List.getElem?_toArray, List.getElem?_cons_zero, List.getElem?_cons_succ]
  refine led_box (Led.nil A) (List.all_eq_true.2 (reportS.one h')) fun q V he0 l => ?_
  simp (disch := omega) only [↓stp, vls, inf, frs, mark_eq, ↓reduceIte, Nat.reduceEqDiff, ite_tt, ite_ff, eq_self, and_true, true_and, and_self, implies_true, Bool.true_eq_false, Bool.false_eq_true, decide_true, decide_false, decide_eq_true_eq, decide_eq_false_iff_not, ne_eq, not_true_eq_false, not_false_eq_true, Bool.not_eq_true', Bool.not_eq_false', beq_self_eq_true, Bool.not_true, Bool.not_false, List.getElem?_toArray, List.getElem?_cons_zero, List.getElem?_cons_succ]
  refine (spec_validPast_c V v xs (h.mono he0)).mono ?_
  rintro _ V ⟨rfl, rfl⟩
  simp (disch := omega) only [↓stp, vls, inf, frs, mark_eq, ↓reduceIte, Nat.reduceEqDiff, ite_tt, ite_ff, eq_self, and_true, true_and, and_self, implies_true, Bool.true_eq_false, Bool.false_eq_true, decide_true, decide_false, decide_eq_true_eq, decide_eq_false_iff_not, ne_eq, not_true_eq_false, not_false_eq_true, Bool.not_eq_true', Bool.not_eq_false', beq_self_eq_true, Bool.not_true, Bool.not_false, List.getElem?_toArray, List.getElem?_cons_zero, List.getElem?_cons_succ]
  refine ⟨fun e1 => ?_, fun e1 => ?_⟩ <;> simp (disch := omega) only [↓stp, vls, inf, frs, mark_eq, ↓reduceIte, Nat.reduceEqDiff, ite_tt, ite_ff, eq_self, and_true, true_and, and_self, implies_true, Bool.true_eq_false, Bool.false_eq_true, decide_true, decide_false, decide_eq_true_eq, decide_eq_false_iff_not, ne_eq, not_true_eq_false, not_false_eq_true, Bool.not_eq_true', Bool.not_eq_false', beq_self_eq_true, Bool.not_true, Bool.not_false, List.getElem?_toArray, List.getElem?_cons_zero, List.getElem?_cons_succ]
  · have e : learnB xs x = false := by unfold learnB; rw [e1]; rfl
    refine ⟨_, by rw [e], ?_⟩
    unfold learnR
    rw [e]
    exact NewSl.nil l.ext
  · refine led_lit0 (O := pastO) li29 l fun b V _ l => ?_
    simp (disch := omega) only [↓stp, vls, inf, frs, mark_eq, ↓reduceIte, Nat.reduceEqDiff, ite_tt, ite_ff, eq_self, and_true, true_and, and_self, implies_true, Bool.true_eq_false, Bool.false_eq_true, decide_true, decide_false, decide_eq_true_eq, decide_eq_false_iff_not, ne_eq, not_true_eq_false, not_false_eq_true, Bool.not_eq_true', Bool.not_eq_false', beq_self_eq_true, Bool.not_true, Bool.not_false, List.getElem?_toArray, List.getElem?_cons_zero, List.getElem?_cons_succ]
    refine led_app (O := pastO) ap29_29 (by decide) l (i := 0) rfl (Sl.srcOf (h.mono l.ext)) (by simp; omega) fun f0 w0 V _ l => ?_
    simp (disch := omega) only [↓stp, vls, inf, frs, mark_eq, ↓reduceIte, Nat.reduceEqDiff, ite_tt, ite_ff, eq_self, and_true, true_and, and_self, implies_true, Bool.true_eq_false, Bool.false_eq_true, decide_true, decide_false, decide_eq_true_eq, decide_eq_false_iff_not, ne_eq, not_true_eq_false, not_false_eq_true, Bool.not_eq_true', Bool.not_eq_false', beq_self_eq_true, Bool.not_true, Bool.not_false, List.getElem?_toArray, List.getElem?_cons_zero, List.getElem?_cons_succ]
    rw [List.nil_append] at l
    refine aloop (fun d fr A' => ∃ (i : Nat) (fp : List Nat) (w : Value), i ≤ x.1.length ∧ d = x.1.length - i ∧ Led A [osl 69 pastO fp w (lst xs (x.1.take i)), bx q ⟨35, [.slice ar x.1.length cr, u1], 2, true⟩] A' ∧ fr 3 = .pointer (some ⟨q, 0, none⟩) ∧ fr 6 = w ∧ fr 7 = .int .i64 i) x.1.length ⟨0, _, _, by omega, by omega, l, by rfl, by rfl, by rfl⟩ ?_
    rintro d fr A' ⟨i, fp, w, hi, rfl, l, h3, h6, h7⟩
    have hll := lst_len xs x.1 i hi
    have c0 := l.cell (i := 1) rfl (o := 0) rfl rfl
    simp (disch := omega) only [↓stp, vls, inf, frs, mark_eq, ↓reduceIte, Nat.reduceEqDiff, ite_tt, ite_ff, eq_self, and_true, true_and, and_self, implies_true, Bool.true_eq_false, Bool.false_eq_true, decide_true, decide_false, decide_eq_true_eq, decide_eq_false_iff_not, ne_eq, not_true_eq_false, not_false_eq_true, Bool.not_eq_true', Bool.not_eq_false', beq_self_eq_true, Bool.not_true, Bool.not_false, List.getElem?_toArray, List.getElem?_cons_zero, List.getElem?_cons_succ, h3, h6, h7, add_at, c0]
    refine ⟨fun e => ?_, fun e => ?_⟩
    · have hlt : i < x.1.length := by omega
      obtain ⟨ad, rfl, hp, hz1, hz2⟩ := (hr.mono l.ext).result hlt
      have htk := lst_take (xs := xs) hlt
      simp (disch := omega) only [↓stp, vls, inf, frs, mark_eq, ↓reduceIte, Nat.reduceEqDiff, ite_tt, ite_ff, eq_self, and_true, true_and, and_self, implies_true, Bool.true_eq_false, Bool.false_eq_true, decide_true, decide_false, decide_eq_true_eq, decide_eq_false_iff_not, ne_eq, not_true_eq_false, not_false_eq_true, Bool.not_eq_true', Bool.not_eq_false', beq_self_eq_true, Bool.not_true, Bool.not_false, List.getElem?_toArray, List.getElem?_cons_zero, List.getElem?_cons_succ, h3, h6, h7, add_at, c0, hp]
      refine led_alloc zc67 l fun q8 V _ l => ?_
      simp (disch := omega) only [↓stp, vls, inf, frs, mark_eq, ↓reduceIte, Nat.reduceEqDiff, ite_tt, ite_ff, eq_self, and_true, true_and, and_self, implies_true, Bool.true_eq_false, Bool.false_eq_true, decide_true, decide_false, decide_eq_true_eq, decide_eq_false_iff_not, ne_eq, not_true_eq_false, not_false_eq_true, Bool.not_eq_true', Bool.not_eq_false', beq_self_eq_true, Bool.not_true, Bool.not_false, List.getElem?_toArray, List.getElem?_cons_zero, List.getElem?_cons_succ, h3, h6, h7]
      refine led_storeAll l 0 rfl sz67 rfl rfl (by simp [Value.oneCell']) fun V l => ?_
      have k0 := l.cell (i := 0) rfl (o := 0) rfl rfl
      have k1 := l.cell (i := 0) rfl (o := 1) rfl rfl
      simp (disch := omega) only [↓stp, vls, inf, frs, mark_eq, ↓reduceIte, Nat.reduceEqDiff, ite_tt, ite_ff, eq_self, and_true, true_and, and_self, implies_true, Bool.true_eq_false, Bool.false_eq_true, decide_true, decide_false, decide_eq_true_eq, decide_eq_false_iff_not, ne_eq, not_true_eq_false, not_false_eq_true, Bool.not_eq_true', Bool.not_eq_false', beq_self_eq_true, Bool.not_true, Bool.not_false, List.getElem?_toArray, List.getElem?_cons_zero, List.getElem?_cons_succ, h3, h6, h7, add_at, k0, k1]
      refine ⟨fun e2 => ?_, fun e2 => ?_⟩ <;> simp (disch := omega) only [↓stp, vls, inf, frs, mark_eq, ↓reduceIte, Nat.reduceEqDiff, ite_tt, ite_ff, eq_self, and_true, true_and, and_self, implies_true, Bool.true_eq_false, Bool.false_eq_true, decide_true, decide_false, decide_eq_true_eq, decide_eq_false_iff_not, ne_eq, not_true_eq_false, not_false_eq_true, Bool.not_eq_true', Bool.not_eq_false', beq_self_eq_true, Bool.not_true, Bool.not_false, List.getElem?_toArray, List.getElem?_cons_zero, List.getElem?_cons_succ, h3, h6, h7, add_at, k0, k1]
      · refine ⟨_, by omega, i + 1, fp, _, by omega, rfl, ?_, rfl, rfl⟩
        rw [htk]
        unfold lstep
        rw [if_pos e2]
        exact l.tail
      · have hO : OSl 69 pastO V fp w (lst xs (x.1.take i)) := l.at (i := 1) rfl
        refine (spec_pastAt_c V w _ _ hO.toS).mono ?_
        rintro _ V ⟨rfl, rfl⟩
        simp (disch := omega) only [↓stp, vls, inf, frs, mark_eq, ↓reduceIte, Nat.reduceEqDiff, ite_tt, ite_ff, eq_self, and_true, true_and, and_self, implies_true, Bool.true_eq_false, Bool.false_eq_true, decide_true, decide_false, decide_eq_true_eq, decide_eq_false_iff_not, ne_eq, not_true_eq_false, not_false_eq_true, Bool.not_eq_true', Bool.not_eq_false', beq_self_eq_true, Bool.not_true, Bool.not_false, List.getElem?_toArray, List.getElem?_cons_zero, List.getElem?_cons_succ, h3, h6, h7]
        refine ⟨fun e3 => ?_, fun e3 => ?_⟩ <;> simp (disch := omega) only [↓stp, vls, inf, frs, mark_eq, ↓reduceIte, Nat.reduceEqDiff, ite_tt, ite_ff, eq_self, and_true, true_and, and_self, implies_true, Bool.true_eq_false, Bool.false_eq_true, decide_true, decide_false, decide_eq_true_eq, decide_eq_false_iff_not, ne_eq, not_true_eq_false, not_false_eq_true, Bool.not_eq_true', Bool.not_eq_false', beq_self_eq_true, Bool.not_true, Bool.not_false, List.getElem?_toArray, List.getElem?_cons_zero, List.getElem?_cons_succ, h3, h6, h7, add_at, k0, k1]
        · refine adraw_items [.q 0, .q 1, .l 2 true, .q 3, .l 4 false, .c 5 [2], .q 6, .c 7 [], .c 8 [], .q 9] (by kernel_rfl) (by kernel_rfl) ?_
          simp (disch := omega) only [↓stp, ↓pln, plv, nilOk, Nat.reduceBEq, Bool.or_false, Bool.or_true, Bool.false_or, Bool.true_or, vls, inf, frs, mark_eq, ↓reduceIte, Nat.reduceEqDiff, ite_tt, ite_ff, eq_self, and_true, true_and, and_self, implies_true, Bool.true_eq_false, Bool.false_eq_true, decide_true, decide_false, decide_eq_true_eq, decide_eq_false_iff_not, ne_eq, not_true_eq_false, not_false_eq_true, Bool.not_eq_true', Bool.not_eq_false', beq_self_eq_true, Bool.not_true, Bool.not_false, List.getElem?_toArray, List.getElem?_cons_zero, List.getElem?_cons_succ, h3, h6, h7, add_at, k0, k1]
          refine (spec_isBad_c V _).mono ?_
          rintro _ V ⟨rfl, rfl⟩
          simp (disch := omega) only [↓stp, ↓pln, plv, nilOk, Nat.reduceBEq, Bool.or_false, Bool.or_true, Bool.false_or, Bool.true_or, vls, inf, frs, mark_eq, ↓reduceIte, Nat.reduceEqDiff, ite_tt, ite_ff, eq_self, and_true, true_and, and_self, implies_true, Bool.true_eq_false, Bool.false_eq_true, decide_true, decide_false, decide_eq_true_eq, decide_eq_false_iff_not, ne_eq, not_true_eq_false, not_false_eq_true, Bool.not_eq_true', Bool.not_eq_false', beq_self_eq_true, Bool.not_true, Bool.not_false, List.getElem?_toArray, List.getElem?_cons_zero, List.getElem?_cons_succ, h3, h6, h7, add_at, k0, k1]
          refine led_lit li29 (by omega) rfl (fun p hp => by rcases List.mem_singleton.1 hp with rfl; exact ⟨rfl, rfl⟩) l fun bl V _ l => ?_
          simp (disch := omega) only [↓stp, ↓pln, plv, nilOk, Nat.reduceBEq, Bool.or_false, Bool.or_true, Bool.false_or, Bool.true_or, vls, inf, frs, mark_eq, ↓reduceIte, Nat.reduceEqDiff, ite_tt, ite_ff, eq_self, and_true, true_and, and_self, implies_true, Bool.true_eq_false, Bool.false_eq_true, decide_true, decide_false, decide_eq_true_eq, decide_eq_false_iff_not, ne_eq, not_true_eq_false, not_false_eq_true, Bool.not_eq_true', Bool.not_eq_false', beq_self_eq_true, Bool.not_true, Bool.not_false, List.getElem?_toArray, List.getElem?_cons_zero, List.getElem?_cons_succ, h3, h6, h7, false_implies]
          refine led_app (O := pastO) ap29_29 (by decide) l (i := 2) rfl (l.src1 (S := pastS) (j := 0) rfl (pastS_mk (x := ((x.1[i]).1, badB (x.1[i]).2.1, 1, ())) hz1 (show (-9223372036854775808 : Int) ≤ 1 ∧ (1 : Int) < 9223372036854775808 from ⟨by decide, by decide⟩))) (by rw [List.length_singleton]; omega) fun fp' w' W3 _ l => ?_
          simp (disch := omega) only [↓stp, ↓pln, plv, nilOk, Nat.reduceBEq, Bool.or_false, Bool.or_true, Bool.false_or, Bool.true_or, vls, inf, frs, mark_eq, ↓reduceIte, Nat.reduceEqDiff, ite_tt, ite_ff, eq_self, and_true, true_and, and_self, implies_true, Bool.true_eq_false, Bool.false_eq_true, decide_true, decide_false, decide_eq_true_eq, decide_eq_false_iff_not, ne_eq, not_true_eq_false, not_false_eq_true, Bool.not_eq_true', Bool.not_eq_false', beq_self_eq_true, Bool.not_true, Bool.not_false, List.getElem?_toArray, List.getElem?_cons_zero, List.getElem?_cons_succ, h3, h6, h7, false_implies]
          have hl2 : Led A [osl 69 pastO fp' w' (lst xs (x.1.take (i + 1))), bx q ⟨35, [.slice (some ad) x.1.length cr, u1], 2, true⟩] W3 := by
            rw [htk]
            unfold lstep
            rw [if_neg e2, idxI_nofi (by omega)]
            exact l.tail.tail
          exact ⟨_, by omega, i + 1, _, _, by omega, rfl, hl2, rfl, rfl⟩
        · obtain ⟨hfi, hfl⟩ := idxI_fi (show 0 ≤ idxI (isId (x.1[i]).1) (lst xs (x.1.take i)) by omega)
          refine (spec_isBad_c V _).mono ?_
          rintro _ V ⟨rfl, rfl⟩
          obtain ⟨_, ⟨rfl, hnil, _⟩ | ⟨b, c, cells, f, rfl, hc, rfl, hbk, hel⟩⟩ := (show OSl 69 pastO V fp w _ from l.at (i := 1) rfl)
          · rw [hnil] at hfl; simp at hfl
          · rw [hfi]
            simp (disch := omega) only [↓stp, vls, inf, frs, mark_eq, ↓reduceIte, Nat.reduceEqDiff, ite_tt, ite_ff, eq_self, and_true, true_and, and_self, implies_true, Bool.true_eq_false, Bool.false_eq_true, decide_true, decide_false, decide_eq_true_eq, decide_eq_false_iff_not, ne_eq, not_true_eq_false, not_false_eq_true, Bool.not_eq_true', Bool.not_eq_false', beq_self_eq_true, Bool.not_true, Bool.not_false, List.getElem?_toArray, List.getElem?_cons_zero, List.getElem?_cons_succ, h3, h6, h7, add_at]
            refine led_setfield (x' := (((lst xs (x.1.take i))[List.findIdx (isId (x.1[i]).1) (lst xs (x.1.take i))]).1, badB (x.1[i]).2.1, ((lst xs (x.1.take i))[List.findIdx (isId (x.1[i]).1) (lst xs (x.1.take i))]).2.2)) l (i := 1) rfl hfl sz4 (j := 1) (by show _ = _ * 3 + 1; omega) ⟨rfl, rfl⟩ (fun d hd => ?_) fun W _ l => ?_
            · obtain ⟨rfl, g1, g2⟩ := pastS_open hd
              exact ⟨by simp, pastS_mk g1 g2⟩
            · simp (disch := omega) only [↓stp, vls, inf, frs, mark_eq, ↓reduceIte, Nat.reduceEqDiff, ite_tt, ite_ff, eq_self, and_true, true_and, and_self, implies_true, Bool.true_eq_false, Bool.false_eq_true, decide_true, decide_false, decide_eq_true_eq, decide_eq_false_iff_not, ne_eq, not_true_eq_false, not_false_eq_true, Bool.not_eq_true', Bool.not_eq_false', beq_self_eq_true, Bool.not_true, Bool.not_false, List.getElem?_toArray, List.getElem?_cons_zero, List.getElem?_cons_succ, h3, h6, h7]
              have hl2 : Led A [osl 69 pastO (b :: f) (.slice (some ⟨b, 0, none⟩) (lst xs (x.1.take i)).length c) (lst xs (x.1.take (i + 1))), bx q ⟨35, [.slice (some ad) x.1.length cr, u1], 2, true⟩] W := by
                rw [htk]
                unfold lstep
                rw [if_neg e2, List.getElem?_eq_getElem hfl]
                exact l.tail
              exact ⟨_, by omega, i + 1, _, _, by omega, rfl, hl2, rfl, rfl⟩
    · simp (disch := omega) only [↓stp, vls, inf, frs, mark_eq, ↓reduceIte, Nat.reduceEqDiff, ite_tt, ite_ff, eq_self, and_true, true_and, and_self, implies_true, Bool.true_eq_false, Bool.false_eq_true, decide_true, decide_false, decide_eq_true_eq, decide_eq_false_iff_not, ne_eq, not_true_eq_false, not_false_eq_true, Bool.not_eq_true', Bool.not_eq_false', beq_self_eq_true, Bool.not_true, Bool.not_false, List.getElem?_toArray, List.getElem?_cons_zero, List.getElem?_cons_succ, h3, h6, h7]
      have hi' : i = x.1.length := by omega
      subst hi'
      rw [List.take_length] at l hll
      have hO : OSl 69 pastO A' fp w (lst xs x.1) := l.at (i := 0) rfl
      refine (spec_validPast_c A' w _ hO.toS).mono ?_
      rintro _ V ⟨rfl, rfl⟩
      simp (disch := omega) only [↓stp, vls, inf, frs, mark_eq, ↓reduceIte, Nat.reduceEqDiff, ite_tt, ite_ff, eq_self, and_true, true_and, and_self, implies_true, Bool.true_eq_false, Bool.false_eq_true, decide_true, decide_false, decide_eq_true_eq, decide_eq_false_iff_not, ne_eq, not_true_eq_false, not_false_eq_true, Bool.not_eq_true', Bool.not_eq_false', beq_self_eq_true, Bool.not_true, Bool.not_false, List.getElem?_toArray, List.getElem?_cons_zero, List.getElem?_cons_succ, h3, h6, h7]
      refine ⟨fun e3 => ?_, fun e3 => ?_⟩ <;> simp (disch := omega) only [↓stp, vls, inf, frs, mark_eq, ↓reduceIte, Nat.reduceEqDiff, ite_tt, ite_ff, eq_self, and_true, true_and, and_self, implies_true, Bool.true_eq_false, Bool.false_eq_true, decide_true, decide_false, decide_eq_true_eq, decide_eq_false_iff_not, ne_eq, not_true_eq_false, not_false_eq_true, Bool.not_eq_true', Bool.not_eq_false', beq_self_eq_true, Bool.not_true, Bool.not_false, List.getElem?_toArray, List.getElem?_cons_zero, List.getElem?_cons_succ, h3, h6, h7]
      · have e : learnB xs x = false := by unfold learnB; rw [e3, Bool.and_false]
        refine ⟨_, by rw [e], ?_⟩
        unfold learnR
        rw [e]
        exact NewSl.nil l.ext
      · have e : learnB xs x = true := by unfold learnB; rw [e1, e3]; rfl
        refine ⟨_, by rw [e], ?_⟩
        unfold learnR
        rw [if_pos e]
        exact NewSl.of l (i := 0) rfl

theorem learnR_cnt (xs : List PastD) (r : ReportD) : cntL pastT (learnR xs r) ≤ 1073741824 := by
  have key : ∀ ys : List PastD, cntL pastT ys = 3 * ys.length := by
    intro ys
    induction ys with
    | nil => rfl
    | cons y ys ih =>
      simp only [cntL, ih, List.length_cons]
      show 3 + _ = _
      omega
  rw [key]
  unfold learnR
  split
  · rename_i h
    unfold learnB at h
    rw [Bool.and_eq_true] at h
    have := h.2
    unfold pastB idsB at this
    simp only [Bool.and_eq_true, decide_eq_true_eq, List.length_map] at this
    omega
  · simp

end Go.Proofs.Ythimfjonfaomgaa

