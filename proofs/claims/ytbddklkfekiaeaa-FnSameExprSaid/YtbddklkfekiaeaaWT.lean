/- Tests copied. -/
import Derived.Test.YtbddklkfekiaeaaV2
import Derived.Test.YtbddklkfekiaeaaQ1
set_option maxHeartbeats 4000000
set_option synthInstance.maxHeartbeats 400000
set_option synthInstance.maxSize 4096
set_option linter.unusedSimpArgs false
set_option linter.unusedVariables false
namespace Go.Proofs.Ytbddklkfekiaeaa

set_option maxRecDepth 100000

def smallT (t : TestD) : Prop := t.2.2.1.length ≤ 1024 ∧ t.2.2.2.1.length ≤ 1024
theorem testB_small {t : TestD} (h : testB t = true) : smallT t := by
  unfold testB at h
  simp only [Bool.and_eq_true] at h
  have h1 := namesB_len h.1.1.2
  have h2 := namesB_len h.2
  exact ⟨by omega, by omega⟩

theorem impl_copyTests_c (A : View) (v : Value) (xs : List TestD) (h : Sl testS A v xs) (hsm : xs.length ≤ 1024) (hs : ∀ t, t ∈ xs → smallT t) : ACalls Try.prog 57 #[v] A fun r A' => NewSl 34 testO A r A' xs := by
  obtain ⟨a, c, rfl, hc, hl⟩ := h.slice
  refine acalls Try.func57 rfl (by kernel_rfl) ?_
  simp (disch := omega) only [↓stp, vls, inf, frs, mark_eq, ↓reduceIte, Nat.reduceEqDiff, ite_tt, ite_ff, eq_self, and_true, true_and, and_self, implies_true, Bool.true_eq_false, Bool.false_eq_true, decide_true, decide_false, decide_eq_true_eq, decide_eq_false_iff_not, ne_eq, not_true_eq_false, not_false_eq_true, Bool.not_eq_true', Bool.not_eq_false', beq_self_eq_true, Bool.not_true, Bool.not_false, List.getElem?_toArray, List.getElem?_cons_zero, List.getElem?_cons_succ]
  refine led_lit0 (O := testO) li23 (Led.nil A) fun b V he l => ?_
  simp (disch := omega) only [↓stp, vls, inf, frs, mark_eq, ↓reduceIte, Nat.reduceEqDiff, ite_tt, ite_ff, eq_self, and_true, true_and, and_self, implies_true, Bool.true_eq_false, Bool.false_eq_true, decide_true, decide_false, decide_eq_true_eq, decide_eq_false_iff_not, ne_eq, not_true_eq_false, not_false_eq_true, Bool.not_eq_true', Bool.not_eq_false', beq_self_eq_true, Bool.not_true, Bool.not_false, List.getElem?_toArray, List.getElem?_cons_zero, List.getElem?_cons_succ]
  refine aloop (fun d fr V => ∃ (i : Nat) (fp : List Nat) (w : Value), i ≤ xs.length ∧ d = xs.length - i ∧ Led A [osl 34 testO fp w (xs.take i)] V ∧ fr 3 = w ∧ fr 7 = .slice a xs.length c ∧ fr 8 = .int .i64 xs.length ∧ fr 9 = .int .i64 i) xs.length ⟨0, _, _, by omega, by omega, l, by rfl, by rfl, by rfl, by rfl⟩ ?_
  clear l he
  rintro d fr V ⟨i, fp, w, hi, rfl, l, h3, h7, h8, h9⟩
  simp (disch := omega) only [↓stp, vls, inf, frs, mark_eq, ↓reduceIte, Nat.reduceEqDiff, ite_tt, ite_ff, eq_self, and_true, true_and, and_self, implies_true, Bool.true_eq_false, Bool.false_eq_true, decide_true, decide_false, decide_eq_true_eq, decide_eq_false_iff_not, ne_eq, not_true_eq_false, not_false_eq_true, Bool.not_eq_true', Bool.not_eq_false', beq_self_eq_true, Bool.not_true, Bool.not_false, List.getElem?_toArray, List.getElem?_cons_zero, List.getElem?_cons_succ, h3, h7, h8, h9]
  refine ⟨fun e => ?_, fun e => ?_⟩
  · have hlt : i < xs.length := by omega
    obtain ⟨ad, u2, u3, rfl, hclA, z1, z2, f2, f3⟩ := h.test hlt
    obtain ⟨a2, c2, rfl, _, _⟩ := f2.slice
    obtain ⟨a3, c3, rfl, _, _⟩ := f3.slice
    have hss := hs _ (List.getElem_mem hlt)
    have hcl := l.ext.part hclA
    simp (disch := omega) only [↓stp, vls, inf, frs, mark_eq, ↓reduceIte, Nat.reduceEqDiff, ite_tt, ite_ff, eq_self, and_true, true_and, and_self, implies_true, Bool.true_eq_false, Bool.false_eq_true, decide_true, decide_false, decide_eq_true_eq, decide_eq_false_iff_not, ne_eq, not_true_eq_false, not_false_eq_true, Bool.not_eq_true', Bool.not_eq_false', beq_self_eq_true, Bool.not_true, Bool.not_false, List.getElem?_toArray, List.getElem?_cons_zero, List.getElem?_cons_succ, h3, h7, h8, h9, hcl]
    refine led_alloc zc34 l fun q5 V5 he5 l => ?_
    simp (disch := omega) only [↓stp, vls, inf, frs, mark_eq, ↓reduceIte, Nat.reduceEqDiff, ite_tt, ite_ff, eq_self, and_true, true_and, and_self, implies_true, Bool.true_eq_false, Bool.false_eq_true, decide_true, decide_false, decide_eq_true_eq, decide_eq_false_iff_not, ne_eq, not_true_eq_false, not_false_eq_true, Bool.not_eq_true', Bool.not_eq_false', beq_self_eq_true, Bool.not_true, Bool.not_false, List.getElem?_toArray, List.getElem?_cons_zero, List.getElem?_cons_succ, h3, h7, h8, h9]
    refine led_storeAll l 0 rfl sz34 rfl rfl (by simp [Value.oneCell']) fun V6 l => ?_
    have m2 := l.cell (i := 0) rfl (o := 2) rfl rfl
    have m3 := l.cell (i := 0) rfl (o := 3) rfl rfl
    simp (disch := omega) only [↓stp, vls, inf, frs, mark_eq, ↓reduceIte, Nat.reduceEqDiff, ite_tt, ite_ff, eq_self, and_true, true_and, and_self, implies_true, Bool.true_eq_false, Bool.false_eq_true, decide_true, decide_false, decide_eq_true_eq, decide_eq_false_iff_not, ne_eq, not_true_eq_false, not_false_eq_true, Bool.not_eq_true', Bool.not_eq_false', beq_self_eq_true, Bool.not_true, Bool.not_false, List.getElem?_toArray, List.getElem?_cons_zero, List.getElem?_cons_succ, h3, h7, h8, h9]
    refine adraw_items [.q 0, .l 1 false, .q 3, .l 4 true, .c 2 [4], .q 6, .c 5 [], .c 7 [], .q 8, .c 9 []] (by kernel_rfl) (by kernel_rfl) ?_
    simp (disch := omega) only [↓stp, ↓pln, plv, nilOk, Nat.reduceBEq, Bool.or_false, Bool.or_true, Bool.false_or, Bool.true_or, vls, inf, frs, mark_eq, ↓reduceIte, Nat.reduceEqDiff, ite_tt, ite_ff, eq_self, and_true, true_and, and_self, implies_true, Bool.true_eq_false, Bool.false_eq_true, decide_true, decide_false, decide_eq_true_eq, decide_eq_false_iff_not, ne_eq, not_true_eq_false, not_false_eq_true, Bool.not_eq_true', Bool.not_eq_false', beq_self_eq_true, Bool.not_true, Bool.not_false, List.getElem?_toArray, List.getElem?_cons_zero, List.getElem?_cons_succ, h3, h7, h8, h9, add_at, m2, m3]
    refine (cloneString_c V6 _ _ (f2.mono l.ext) (by have := hss.1; omega)).mono ?_
    rintro r1 V7 ⟨fa, l1⟩
    obtain ⟨ar, cr, rfl, _, _⟩ := (OSl.toS (show OSl 9 strO V7 fa r1 _ from l1.at (i := 0) rfl)).slice
    replace l := l.append l1
    have m2 := l.cell (i := 1) rfl (o := 2) rfl rfl
    have m3 := l.cell (i := 1) rfl (o := 3) rfl rfl
    simp (disch := omega) only [↓stp, ↓pln, plv, nilOk, Nat.reduceBEq, Bool.or_false, Bool.or_true, Bool.false_or, Bool.true_or, vls, inf, frs, mark_eq, ↓reduceIte, Nat.reduceEqDiff, ite_tt, ite_ff, eq_self, and_true, true_and, and_self, implies_true, Bool.true_eq_false, Bool.false_eq_true, decide_true, decide_false, decide_eq_true_eq, decide_eq_false_iff_not, ne_eq, not_true_eq_false, not_false_eq_true, Bool.not_eq_true', Bool.not_eq_false', beq_self_eq_true, Bool.not_true, Bool.not_false, List.getElem?_toArray, List.getElem?_cons_zero, List.getElem?_cons_succ, h3, h7, h8, h9, add_at, m2, m3]
    refine (cloneString_c V7 _ _ (f3.mono l.ext) (by have := hss.2; omega)).mono ?_
    rintro r2 V8 ⟨fb, l1⟩
    obtain ⟨as2, cs2, rfl, _, _⟩ := (OSl.toS (show OSl 9 strO V8 fb r2 _ from l1.at (i := 0) rfl)).slice
    replace l := l.append l1
    have m2 := l.cell (i := 2) rfl (o := 2) rfl rfl
    have m3 := l.cell (i := 2) rfl (o := 3) rfl rfl
    simp (disch := omega) only [↓stp, ↓pln, plv, nilOk, Nat.reduceBEq, Bool.or_false, Bool.or_true, Bool.false_or, Bool.true_or, vls, inf, frs, mark_eq, ↓reduceIte, Nat.reduceEqDiff, ite_tt, ite_ff, eq_self, and_true, true_and, and_self, implies_true, Bool.true_eq_false, Bool.false_eq_true, decide_true, decide_false, decide_eq_true_eq, decide_eq_false_iff_not, ne_eq, not_true_eq_false, not_false_eq_true, Bool.not_eq_true', Bool.not_eq_false', beq_self_eq_true, Bool.not_true, Bool.not_false, List.getElem?_toArray, List.getElem?_cons_zero, List.getElem?_cons_succ, h3, h7, h8, h9, add_at, m2, m3]
    refine led_store l 2 rfl sz25 (by rfl) (by rfl) (by rfl) fun V9 l => ?_
    have m2 := l.cell (i := 2) rfl (o := 2) rfl rfl
    have m3 := l.cell (i := 2) rfl (o := 3) rfl rfl
    simp (disch := omega) only [↓stp, ↓pln, plv, nilOk, Nat.reduceBEq, Bool.or_false, Bool.or_true, Bool.false_or, Bool.true_or, vls, inf, frs, mark_eq, ↓reduceIte, Nat.reduceEqDiff, ite_tt, ite_ff, eq_self, and_true, true_and, and_self, implies_true, Bool.true_eq_false, Bool.false_eq_true, decide_true, decide_false, decide_eq_true_eq, decide_eq_false_iff_not, ne_eq, not_true_eq_false, not_false_eq_true, Bool.not_eq_true', Bool.not_eq_false', beq_self_eq_true, Bool.not_true, Bool.not_false, List.getElem?_toArray, List.getElem?_cons_zero, List.getElem?_cons_succ, h3, h7, h8, h9, add_at, m2, m3, false_implies]
    refine led_store l 2 rfl sz25 (by rfl) (by rfl) (by rfl) fun V10 l => ?_
    have m2 := l.cell (i := 2) rfl (o := 2) rfl rfl
    have m3 := l.cell (i := 2) rfl (o := 3) rfl rfl
    simp (disch := omega) only [↓stp, ↓pln, plv, nilOk, Nat.reduceBEq, Bool.or_false, Bool.or_true, Bool.false_or, Bool.true_or, vls, inf, frs, mark_eq, ↓reduceIte, Nat.reduceEqDiff, ite_tt, ite_ff, eq_self, and_true, true_and, and_self, implies_true, Bool.true_eq_false, Bool.false_eq_true, decide_true, decide_false, decide_eq_true_eq, decide_eq_false_iff_not, ne_eq, not_true_eq_false, not_false_eq_true, Bool.not_eq_true', Bool.not_eq_false', beq_self_eq_true, Bool.not_true, Bool.not_false, List.getElem?_toArray, List.getElem?_cons_zero, List.getElem?_cons_succ, h3, h7, h8, h9, add_at, m2, m3, false_implies]
    have kt : V10.part ⟨q5, 0, none⟩ 4 = some [.string (xs[i]).1, .string (xs[i]).2.1, .slice ar (xs[i]).2.2.1.length cr, .slice as2 (xs[i]).2.2.2.1.length cs2] := l.part (i := 2) rfl rfl
    simp (disch := omega) only [↓stp, vls, inf, frs, mark_eq, ↓reduceIte, Nat.reduceEqDiff, ite_tt, ite_ff, eq_self, and_true, true_and, and_self, implies_true, Bool.true_eq_false, Bool.false_eq_true, decide_true, decide_false, decide_eq_true_eq, decide_eq_false_iff_not, ne_eq, not_true_eq_false, not_false_eq_true, Bool.not_eq_true', Bool.not_eq_false', beq_self_eq_true, Bool.not_true, Bool.not_false, List.getElem?_toArray, List.getElem?_cons_zero, List.getElem?_cons_succ, h3, h7, h8, h9, kt]
    have l2 := l.join2 (jt := oc testO (fa ++ fb) xs[i] _) rfl (show testO.rel V10 (fa ++ fb) xs[i] _ from testO_mk z1 z2 (l.at (i := 1) rfl) (l.at (i := 0) rfl))
    refine led_lit li23 (by omega) rfl (fun p hp => by rcases List.mem_singleton.1 hp with rfl; exact ⟨rfl, rfl⟩) l2 fun bl V11 _ l => ?_
    simp (disch := omega) only [↓stp, vls, inf, frs, mark_eq, ↓reduceIte, Nat.reduceEqDiff, ite_tt, ite_ff, eq_self, and_true, true_and, and_self, implies_true, Bool.true_eq_false, Bool.false_eq_true, decide_true, decide_false, decide_eq_true_eq, decide_eq_false_iff_not, ne_eq, not_true_eq_false, not_false_eq_true, Bool.not_eq_true', Bool.not_eq_false', beq_self_eq_true, Bool.not_true, Bool.not_false, List.getElem?_toArray, List.getElem?_cons_zero, List.getElem?_cons_succ, h3, h7, h8, h9]
    refine led_appO (O := testO) ap23_23 (by decide) l (i := 1) rfl (by rw [List.length_take]; omega) fun fp' w' V12 _ l => ?_
    simp (disch := omega) only [↓stp, vls, inf, frs, mark_eq, ↓reduceIte, Nat.reduceEqDiff, ite_tt, ite_ff, eq_self, and_true, true_and, and_self, implies_true, Bool.true_eq_false, Bool.false_eq_true, decide_true, decide_false, decide_eq_true_eq, decide_eq_false_iff_not, ne_eq, not_true_eq_false, not_false_eq_true, Bool.not_eq_true', Bool.not_eq_false', beq_self_eq_true, Bool.not_true, Bool.not_false, List.getElem?_toArray, List.getElem?_cons_zero, List.getElem?_cons_succ, h3, h7, h8, h9]
    exact ⟨_, by omega, i + 1, _, _, by omega, rfl, by rw [List.take_succ_eq_append_getElem hlt]; exact l.tail, rfl, rfl⟩
  · simp (disch := omega) only [↓stp, vls, inf, frs, mark_eq, ↓reduceIte, Nat.reduceEqDiff, ite_tt, ite_ff, eq_self, and_true, true_and, and_self, implies_true, Bool.true_eq_false, Bool.false_eq_true, decide_true, decide_false, decide_eq_true_eq, decide_eq_false_iff_not, ne_eq, not_true_eq_false, not_false_eq_true, Bool.not_eq_true', Bool.not_eq_false', beq_self_eq_true, Bool.not_true, Bool.not_false, List.getElem?_toArray, List.getElem?_cons_zero, List.getElem?_cons_succ, h3, h7, h8, h9]
    rw [List.take_of_length_le (by omega)] at l
    exact NewSl.of l (i := 0) rfl

theorem spec_copyTest_c (A : View) (d : List Value) (x : TestD) (h : testS.rel A x d) (hs : smallT x) : ACalls Try.prog 80 #[.agg d.toArray] A fun r A' => NewOc testO A r A' x := by
  obtain ⟨u2, u3, rfl, z1, z2, f2, f3⟩ := testS_open h
  obtain ⟨a2, c2, rfl, _, _⟩ := f2.slice
  obtain ⟨a3, c3, rfl, _, _⟩ := f3.slice
  refine acalls Try.func80 rfl (by kernel_rfl) ?_
  simp (disch := omega) only [↓stp, vls, inf, frs, mark_eq, ↓reduceIte, Nat.reduceEqDiff, ite_tt, ite_ff, eq_self, and_true, true_and, and_self, implies_true, Bool.true_eq_false, Bool.false_eq_true, decide_true, decide_false, decide_eq_true_eq, decide_eq_false_iff_not, ne_eq, not_true_eq_false, not_false_eq_true, Bool.not_eq_true', Bool.not_eq_false', beq_self_eq_true, Bool.not_true, Bool.not_false, List.getElem?_toArray, List.getElem?_cons_zero, List.getElem?_cons_succ]
  refine led_box (Led.nil A) rfl fun q1 V he l => ?_
  simp (disch := omega) only [↓stp, vls, inf, frs, mark_eq, ↓reduceIte, Nat.reduceEqDiff, ite_tt, ite_ff, eq_self, and_true, true_and, and_self, implies_true, Bool.true_eq_false, Bool.false_eq_true, decide_true, decide_false, decide_eq_true_eq, decide_eq_false_iff_not, ne_eq, not_true_eq_false, not_false_eq_true, Bool.not_eq_true', Bool.not_eq_false', beq_self_eq_true, Bool.not_true, Bool.not_false, List.getElem?_toArray, List.getElem?_cons_zero, List.getElem?_cons_succ]
  refine led_alloc zc34 l fun q2 V he l => ?_
  have m0 := l.cell (i := 1) rfl (o := 0) rfl rfl
  have m1 := l.cell (i := 1) rfl (o := 1) rfl rfl
  have m2 := l.cell (i := 1) rfl (o := 2) rfl rfl
  have m3 := l.cell (i := 1) rfl (o := 3) rfl rfl
  simp (disch := omega) only [↓stp, vls, inf, frs, mark_eq, ↓reduceIte, Nat.reduceEqDiff, ite_tt, ite_ff, eq_self, and_true, true_and, and_self, implies_true, Bool.true_eq_false, Bool.false_eq_true, decide_true, decide_false, decide_eq_true_eq, decide_eq_false_iff_not, ne_eq, not_true_eq_false, not_false_eq_true, Bool.not_eq_true', Bool.not_eq_false', beq_self_eq_true, Bool.not_true, Bool.not_false, List.getElem?_toArray, List.getElem?_cons_zero, List.getElem?_cons_succ]
  refine adraw_items [.q 0, .l 1 true, .q 2, .l 3 true, .q 5, .l 6 false, .q 9, .l 10 true, .c 4 [], .c 7 [1, 3, 10], .c 8 [], .c 11 [1, 3], .q 12, .c 13 []] (by kernel_rfl) (by kernel_rfl) ?_
  simp (disch := omega) only [↓stp, ↓pln, plv, nilOk, Nat.reduceBEq, Bool.or_false, Bool.or_true, Bool.false_or, Bool.true_or, vls, inf, frs, mark_eq, ↓reduceIte, Nat.reduceEqDiff, ite_tt, ite_ff, eq_self, and_true, true_and, and_self, implies_true, Bool.true_eq_false, Bool.false_eq_true, decide_true, decide_false, decide_eq_true_eq, decide_eq_false_iff_not, ne_eq, not_true_eq_false, not_false_eq_true, Bool.not_eq_true', Bool.not_eq_false', beq_self_eq_true, Bool.not_true, Bool.not_false, List.getElem?_toArray, List.getElem?_cons_zero, List.getElem?_cons_succ, add_at, m0, m1, m2, m3]
  refine led_lit0 (O := strO) li25 l fun b1 V he l => ?_
  have m0 := l.cell (i := 2) rfl (o := 0) rfl rfl
  have m1 := l.cell (i := 2) rfl (o := 1) rfl rfl
  have m2 := l.cell (i := 2) rfl (o := 2) rfl rfl
  have m3 := l.cell (i := 2) rfl (o := 3) rfl rfl
  simp (disch := omega) only [↓stp, ↓pln, plv, nilOk, Nat.reduceBEq, Bool.or_false, Bool.or_true, Bool.false_or, Bool.true_or, vls, inf, frs, mark_eq, ↓reduceIte, Nat.reduceEqDiff, ite_tt, ite_ff, eq_self, and_true, true_and, and_self, implies_true, Bool.true_eq_false, Bool.false_eq_true, decide_true, decide_false, decide_eq_true_eq, decide_eq_false_iff_not, ne_eq, not_true_eq_false, not_false_eq_true, Bool.not_eq_true', Bool.not_eq_false', beq_self_eq_true, Bool.not_true, Bool.not_false, List.getElem?_toArray, List.getElem?_cons_zero, List.getElem?_cons_succ, add_at, m0, m1, m2, m3, false_implies]
  refine led_app (O := strO) ap25_25 (by decide) l (i := 0) rfl (Sl.srcOf (f2.mono l.ext)) (by have := hs.1; rw [List.length_nil]; omega) fun fa wa V _ l => ?_
  rw [List.nil_append] at l
  obtain ⟨aa, ca, rfl, _, _⟩ := (show Sl strS V wa _ from OSl.toS (show OSl 9 strO V fa wa _ from l.at (i := 0) rfl)).slice
  have m0 := l.cell (i := 2) rfl (o := 0) rfl rfl
  have m1 := l.cell (i := 2) rfl (o := 1) rfl rfl
  have m2 := l.cell (i := 2) rfl (o := 2) rfl rfl
  have m3 := l.cell (i := 2) rfl (o := 3) rfl rfl
  simp (disch := omega) only [↓stp, ↓pln, plv, nilOk, Nat.reduceBEq, Bool.or_false, Bool.or_true, Bool.false_or, Bool.true_or, vls, inf, frs, mark_eq, ↓reduceIte, Nat.reduceEqDiff, ite_tt, ite_ff, eq_self, and_true, true_and, and_self, implies_true, Bool.true_eq_false, Bool.false_eq_true, decide_true, decide_false, decide_eq_true_eq, decide_eq_false_iff_not, ne_eq, not_true_eq_false, not_false_eq_true, Bool.not_eq_true', Bool.not_eq_false', beq_self_eq_true, Bool.not_true, Bool.not_false, List.getElem?_toArray, List.getElem?_cons_zero, List.getElem?_cons_succ, add_at, m0, m1, m2, m3, false_implies]
  refine led_lit0 (O := strO) li25 l fun b2 V he l => ?_
  have m0 := l.cell (i := 3) rfl (o := 0) rfl rfl
  have m1 := l.cell (i := 3) rfl (o := 1) rfl rfl
  have m2 := l.cell (i := 3) rfl (o := 2) rfl rfl
  have m3 := l.cell (i := 3) rfl (o := 3) rfl rfl
  simp (disch := omega) only [↓stp, ↓pln, plv, nilOk, Nat.reduceBEq, Bool.or_false, Bool.or_true, Bool.false_or, Bool.true_or, vls, inf, frs, mark_eq, ↓reduceIte, Nat.reduceEqDiff, ite_tt, ite_ff, eq_self, and_true, true_and, and_self, implies_true, Bool.true_eq_false, Bool.false_eq_true, decide_true, decide_false, decide_eq_true_eq, decide_eq_false_iff_not, ne_eq, not_true_eq_false, not_false_eq_true, Bool.not_eq_true', Bool.not_eq_false', beq_self_eq_true, Bool.not_true, Bool.not_false, List.getElem?_toArray, List.getElem?_cons_zero, List.getElem?_cons_succ, add_at, m0, m1, m2, m3, false_implies]
  refine led_app (O := strO) ap25_25 (by decide) l (i := 0) rfl (Sl.srcOf (f3.mono l.ext)) (by have := hs.2; rw [List.length_nil]; omega) fun fb wb V _ l => ?_
  rw [List.nil_append] at l
  obtain ⟨ab, cb, rfl, _, _⟩ := (show Sl strS V wb _ from OSl.toS (show OSl 9 strO V fb wb _ from l.at (i := 0) rfl)).slice
  have m0 := l.cell (i := 3) rfl (o := 0) rfl rfl
  have m1 := l.cell (i := 3) rfl (o := 1) rfl rfl
  have m2 := l.cell (i := 3) rfl (o := 2) rfl rfl
  have m3 := l.cell (i := 3) rfl (o := 3) rfl rfl
  simp (disch := omega) only [↓stp, ↓pln, plv, nilOk, Nat.reduceBEq, Bool.or_false, Bool.or_true, Bool.false_or, Bool.true_or, vls, inf, frs, mark_eq, ↓reduceIte, Nat.reduceEqDiff, ite_tt, ite_ff, eq_self, and_true, true_and, and_self, implies_true, Bool.true_eq_false, Bool.false_eq_true, decide_true, decide_false, decide_eq_true_eq, decide_eq_false_iff_not, ne_eq, not_true_eq_false, not_false_eq_true, Bool.not_eq_true', Bool.not_eq_false', beq_self_eq_true, Bool.not_true, Bool.not_false, List.getElem?_toArray, List.getElem?_cons_zero, List.getElem?_cons_succ, add_at, m0, m1, m2, m3, false_implies]
  refine led_storeAll l 2 rfl sz34 rfl rfl (by simp [Value.oneCell']) fun V l => ?_
  have m0 := l.cell (i := 3) rfl (o := 0) rfl rfl
  have m1 := l.cell (i := 3) rfl (o := 1) rfl rfl
  have m2 := l.cell (i := 3) rfl (o := 2) rfl rfl
  have m3 := l.cell (i := 3) rfl (o := 3) rfl rfl
  simp (disch := omega) only [↓stp, ↓pln, plv, nilOk, Nat.reduceBEq, Bool.or_false, Bool.or_true, Bool.false_or, Bool.true_or, vls, inf, frs, mark_eq, ↓reduceIte, Nat.reduceEqDiff, ite_tt, ite_ff, eq_self, and_true, true_and, and_self, implies_true, Bool.true_eq_false, Bool.false_eq_true, decide_true, decide_false, decide_eq_true_eq, decide_eq_false_iff_not, ne_eq, not_true_eq_false, not_false_eq_true, Bool.not_eq_true', Bool.not_eq_false', beq_self_eq_true, Bool.not_true, Bool.not_false, List.getElem?_toArray, List.getElem?_cons_zero, List.getElem?_cons_succ, add_at, m0, m1, m2, m3, false_implies]
  have kt : V.part ⟨q2, 0, none⟩ 4 = some _ := l.part (i := 2) rfl rfl
  simp (disch := omega) only [↓stp, vls, inf, frs, mark_eq, ↓reduceIte, Nat.reduceEqDiff, ite_tt, ite_ff, eq_self, and_true, true_and, and_self, implies_true, Bool.true_eq_false, Bool.false_eq_true, decide_true, decide_false, decide_eq_true_eq, decide_eq_false_iff_not, ne_eq, not_true_eq_false, not_false_eq_true, Bool.not_eq_true', Bool.not_eq_false', beq_self_eq_true, Bool.not_true, Bool.not_false, List.getElem?_toArray, List.getElem?_cons_zero, List.getElem?_cons_succ, kt]
  have l2 := (l.sub (.cons_cons _ (.cons_cons _ (List.nil_sublist _)))).join2 (jt := oc testO (fa ++ fb) x _) rfl (show testO.rel V (fa ++ fb) x _ from testO_mk z1 z2 (l.at (i := 1) rfl) (l.at (i := 0) rfl))
  exact ⟨_, _, rfl, l2⟩

end Go.Proofs.Ytbddklkfekiaeaa

