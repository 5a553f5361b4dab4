/- Suites with other tests: the program. -/
import Derived.Test.YtjiioedohbbceaaW2
set_option maxHeartbeats 4000000
set_option synthInstance.maxHeartbeats 400000
set_option synthInstance.maxSize 4096
set_option linter.unusedSimpArgs false
set_option linter.unusedVariables false
namespace Go.Proofs.Ytjiioedohbbceaa

set_option maxRecDepth 100000

theorem spec_WithTests_c (A : View) (d : List Value) (x : SuiteD) (v : Value) (xs : List TestD) (h : suiteS.rel A x d) (h' : Sl testS A v xs) (hsm : x.1.length ≤ 1048576) (hsn : xs.length ≤ 1048576) : ACalls Try.prog 35 #[.agg d.toArray, v] A fun r A' => NewOcB A r A' (sel (validB x) (chk (x.1, xs, ()))) (validB x && validB (x.1, xs, ())) := by
  obtain ⟨u0, u1, rfl, g0, g1⟩ := suiteS_open h
  obtain ⟨a0, c0, rfl, _, _⟩ := g0.slice
  obtain ⟨a1, c1, rfl, _, _⟩ := g1.slice
  obtain ⟨a2, c2, rfl, _, _⟩ := h'.slice
  refine acalls Try.func35 rfl (by kernel_rfl) ?_
  simp (disch := omega) only [↓stp, vls, inf, frs, mark_eq, ↓reduceIte, Nat.reduceEqDiff, ite_tt, ite_ff, eq_self, and_true, true_and, and_self, implies_true, Bool.true_eq_false, Bool.false_eq_true, decide_true, decide_false, decide_eq_true_eq, decide_eq_false_iff_not, ne_eq, not_true_eq_false, not_false_eq_true, Bool.not_eq_true', Bool.not_eq_false', beq_self_eq_true, Bool.not_true, Bool.not_false, List.getElem?_toArray, List.getElem?_cons_zero, List.getElem?_cons_succ]
  refine led_box (Led.nil A) rfl fun q V he l => ?_
  simp (disch := omega) only [↓stp, vls, inf, frs, mark_eq, ↓reduceIte, Nat.reduceEqDiff, ite_tt, ite_ff, eq_self, and_true, true_and, and_self, implies_true, Bool.true_eq_false, Bool.false_eq_true, decide_true, decide_false, decide_eq_true_eq, decide_eq_false_iff_not, ne_eq, not_true_eq_false, not_false_eq_true, Bool.not_eq_true', Bool.not_eq_false', beq_self_eq_true, Bool.not_true, Bool.not_false, List.getElem?_toArray, List.getElem?_cons_zero, List.getElem?_cons_succ]
  refine led_alloc zc26 l fun q4 V he l => ?_
  have kp : V.part ⟨q, 0, none⟩ 2 = some _ := l.part (i := 1) rfl rfl
  simp (disch := omega) only [↓stp, vls, inf, frs, mark_eq, ↓reduceIte, Nat.reduceEqDiff, ite_tt, ite_ff, eq_self, and_true, true_and, and_self, implies_true, Bool.true_eq_false, Bool.false_eq_true, decide_true, decide_false, decide_eq_true_eq, decide_eq_false_iff_not, ne_eq, not_true_eq_false, not_false_eq_true, Bool.not_eq_true', Bool.not_eq_false', beq_self_eq_true, Bool.not_true, Bool.not_false, List.getElem?_toArray, List.getElem?_cons_zero, List.getElem?_cons_succ, kp]
  refine (spec_validB_c V _ x (suiteS_mk (g0.mono l.ext) (g1.mono l.ext)) trivial).mono ?_
  rintro _ V3 ⟨rfl, he3⟩
  replace l := l.step he3
  simp (disch := omega) only [↓stp, vls, inf, frs, mark_eq, ↓reduceIte, Nat.reduceEqDiff, ite_tt, ite_ff, eq_self, and_true, true_and, and_self, implies_true, Bool.true_eq_false, Bool.false_eq_true, decide_true, decide_false, decide_eq_true_eq, decide_eq_false_iff_not, ne_eq, not_true_eq_false, not_false_eq_true, Bool.not_eq_true', Bool.not_eq_false', beq_self_eq_true, Bool.not_true, Bool.not_false, List.getElem?_toArray, List.getElem?_cons_zero, List.getElem?_cons_succ]
  refine ⟨fun e1 => ?_, fun e1 => ?_⟩ <;> simp (disch := omega) only [↓stp, vls, inf, frs, mark_eq, ↓reduceIte, Nat.reduceEqDiff, ite_tt, ite_ff, eq_self, and_true, true_and, and_self, implies_true, Bool.true_eq_false, Bool.false_eq_true, decide_true, decide_false, decide_eq_true_eq, decide_eq_false_iff_not, ne_eq, not_true_eq_false, not_false_eq_true, Bool.not_eq_true', Bool.not_eq_false', beq_self_eq_true, Bool.not_true, Bool.not_false, List.getElem?_toArray, List.getElem?_cons_zero, List.getElem?_cons_succ, e1, bu0S]
  · rw [e1]
    refine led_storeAll (d := [.slice none 0 0, .slice none 0 0]) l 0 rfl sz26 rfl rfl (by simp [Value.oneCell']) fun W l => ?_
    have kp : W.part ⟨q4, 0, none⟩ 2 = some _ := l.part (i := 0) rfl rfl
    simp (disch := omega) only [↓stp, vls, inf, frs, mark_eq, ↓reduceIte, Nat.reduceEqDiff, ite_tt, ite_ff, eq_self, and_true, true_and, and_self, implies_true, Bool.true_eq_false, Bool.false_eq_true, decide_true, decide_false, decide_eq_true_eq, decide_eq_false_iff_not, ne_eq, not_true_eq_false, not_false_eq_true, Bool.not_eq_true', Bool.not_eq_false', beq_self_eq_true, Bool.not_true, Bool.not_false, List.getElem?_toArray, List.getElem?_cons_zero, List.getElem?_cons_succ, kp]
    exact ⟨_, _, rfl, led_none l.ext⟩
  rw [e1]
  refine led_lit0R (S := fixtureS) A li23 l fun b V he l => ?_
  have k0 := l.cell (i := 2) rfl (o := 0) rfl rfl
  simp (disch := omega) only [↓stp, vls, inf, frs, mark_eq, ↓reduceIte, Nat.reduceEqDiff, ite_tt, ite_ff, eq_self, and_true, true_and, and_self, implies_true, Bool.true_eq_false, Bool.false_eq_true, decide_true, decide_false, decide_eq_true_eq, decide_eq_false_iff_not, ne_eq, not_true_eq_false, not_false_eq_true, Bool.not_eq_true', Bool.not_eq_false', beq_self_eq_true, Bool.not_true, Bool.not_false, List.getElem?_toArray, List.getElem?_cons_zero, List.getElem?_cons_succ, add_at, k0]
  refine led_appS (S := fixtureS) ap23_23 (by decide) l (i := 0) rfl g0 l.ext (by rw [List.length_nil]; omega) fun fp1 w1 V _ l => ?_
  rw [List.nil_append] at l
  obtain ⟨aw, cw, rfl, _, _⟩ := (RSl.toS (show RSl 33 fixtureS A V fp1 w1 _ from l.at (i := 0) rfl) l.ext).slice
  simp (disch := omega) only [↓stp, vls, inf, frs, mark_eq, ↓reduceIte, Nat.reduceEqDiff, ite_tt, ite_ff, eq_self, and_true, true_and, and_self, implies_true, Bool.true_eq_false, Bool.false_eq_true, decide_true, decide_false, decide_eq_true_eq, decide_eq_false_iff_not, ne_eq, not_true_eq_false, not_false_eq_true, Bool.not_eq_true', Bool.not_eq_false', beq_self_eq_true, Bool.not_true, Bool.not_false, List.getElem?_toArray, List.getElem?_cons_zero, List.getElem?_cons_succ]
  refine led_lit0R (S := testS) A li24 l fun b V he l => ?_
  simp (disch := omega) only [↓stp, vls, inf, frs, mark_eq, ↓reduceIte, Nat.reduceEqDiff, ite_tt, ite_ff, eq_self, and_true, true_and, and_self, implies_true, Bool.true_eq_false, Bool.false_eq_true, decide_true, decide_false, decide_eq_true_eq, decide_eq_false_iff_not, ne_eq, not_true_eq_false, not_false_eq_true, Bool.not_eq_true', Bool.not_eq_false', beq_self_eq_true, Bool.not_true, Bool.not_false, List.getElem?_toArray, List.getElem?_cons_zero, List.getElem?_cons_succ]
  refine led_appS (S := testS) ap24_24 (by decide) l (i := 0) rfl h' l.ext (by rw [List.length_nil]; omega) fun fp3 w3 W _ l => ?_
  rw [List.nil_append] at l
  obtain ⟨av, cv, rfl, _, _⟩ := (RSl.toS (show RSl 43 testS A W fp3 w3 _ from l.at (i := 0) rfl) l.ext).slice
  simp (disch := omega) only [↓stp, vls, inf, frs, mark_eq, ↓reduceIte, Nat.reduceEqDiff, ite_tt, ite_ff, eq_self, and_true, true_and, and_self, implies_true, Bool.true_eq_false, Bool.false_eq_true, decide_true, decide_false, decide_eq_true_eq, decide_eq_false_iff_not, ne_eq, not_true_eq_false, not_false_eq_true, Bool.not_eq_true', Bool.not_eq_false', beq_self_eq_true, Bool.not_true, Bool.not_false, List.getElem?_toArray, List.getElem?_cons_zero, List.getElem?_cons_succ]
  refine (spec_checkedSuite_c W _ (x.1, xs, ()) (suiteS_mk (RSl.toS (l.at (i := 1) rfl) l.ext) (RSl.toS (l.at (i := 0) rfl) l.ext))).mono ?_
  rintro _ V6 ⟨fq, uq, rfl, l1⟩
  obtain ⟨ff2, uu2, ff3, uu3, rfl, rfl, o2, o3⟩ := suiteO_open (show suiteO.rel V6 fq _ uq from l1.at (i := 0) rfl)
  obtain ⟨a4, c4, rfl, _, _⟩ := o2.toS.slice
  obtain ⟨a5, c5, rfl, _, _⟩ := o3.toS.slice
  replace l := l.append l1
  simp (disch := omega) only [↓stp, vls, inf, frs, mark_eq, ↓reduceIte, Nat.reduceEqDiff, ite_tt, ite_ff, eq_self, and_true, true_and, and_self, implies_true, Bool.true_eq_false, Bool.false_eq_true, decide_true, decide_false, decide_eq_true_eq, decide_eq_false_iff_not, ne_eq, not_true_eq_false, not_false_eq_true, Bool.not_eq_true', Bool.not_eq_false', beq_self_eq_true, Bool.not_true, Bool.not_false, List.getElem?_toArray, List.getElem?_cons_zero, List.getElem?_cons_succ]
  refine led_storeAll l 3 rfl sz26 rfl rfl (by simp [Value.oneCell']) fun V7 l => ?_
  have kp : V7.part ⟨q4, 0, none⟩ 2 = some _ := l.part (i := 3) rfl rfl
  simp (disch := omega) only [↓stp, vls, inf, frs, mark_eq, ↓reduceIte, Nat.reduceEqDiff, ite_tt, ite_ff, eq_self, and_true, true_and, and_self, implies_true, Bool.true_eq_false, Bool.false_eq_true, decide_true, decide_false, decide_eq_true_eq, decide_eq_false_iff_not, ne_eq, not_true_eq_false, not_false_eq_true, Bool.not_eq_true', Bool.not_eq_false', beq_self_eq_true, Bool.not_true, Bool.not_false, List.getElem?_toArray, List.getElem?_cons_zero, List.getElem?_cons_succ, kp]
  exact ⟨_, _, rfl, l.sub (.cons_cons _ (List.nil_sublist _))⟩

theorem afield_S0 {A : View} {K : Value → View → Prop} (a a' : Option Addr) (n c n' c' : Nat) : afield Try.prog 26 (.agg #[.slice a n c, .slice a' n' c']) 0 A K = K (.slice a n c) A := by
  kernel_rfl

theorem impl_WithTests_c (A : View) (d : List Value) (x : SuiteD) (v : Value) (xs : List TestD) (h : suiteS.rel A x d) (h' : Sl testS A v xs) (hs0 : x.1.length ≤ 1048576) (hs1 : x.2.1.length ≤ 1048576) (hs2 : xs.length ≤ 1048576) : ACalls Try.prog 26 #[.agg d.toArray, v] A fun r A' => NewOcB A r A' (sel (validB x) (chk (x.1, xs, ()))) (validB x && validB (x.1, xs, ())) := by
  obtain ⟨u0, u1, rfl, g0, g1⟩ := suiteS_open h
  obtain ⟨a0, c0, rfl, _, _⟩ := g0.slice
  obtain ⟨a1, c1, rfl, _, _⟩ := g1.slice
  obtain ⟨a2, c2, rfl, _, _⟩ := h'.slice
  refine acalls Try.func26 rfl (by kernel_rfl) ?_
  simp (disch := omega) only [↓stp, vls, inf, frs, mark_eq, ↓reduceIte, Nat.reduceEqDiff, ite_tt, ite_ff, eq_self, and_true, true_and, and_self, implies_true, Bool.true_eq_false, Bool.false_eq_true, decide_true, decide_false, decide_eq_true_eq, decide_eq_false_iff_not, ne_eq, not_true_eq_false, not_false_eq_true, Bool.not_eq_true', Bool.not_eq_false', beq_self_eq_true, Bool.not_true, Bool.not_false, List.getElem?_toArray, List.getElem?_cons_zero, List.getElem?_cons_succ]
  refine led_box (Led.nil A) rfl fun q V he l => ?_
  simp (disch := omega) only [↓stp, vls, inf, frs, mark_eq, ↓reduceIte, Nat.reduceEqDiff, ite_tt, ite_ff, eq_self, and_true, true_and, and_self, implies_true, Bool.true_eq_false, Bool.false_eq_true, decide_true, decide_false, decide_eq_true_eq, decide_eq_false_iff_not, ne_eq, not_true_eq_false, not_false_eq_true, Bool.not_eq_true', Bool.not_eq_false', beq_self_eq_true, Bool.not_true, Bool.not_false, List.getElem?_toArray, List.getElem?_cons_zero, List.getElem?_cons_succ]
  refine led_alloc zc26 l fun q4 V he l => ?_
  have kp : V.part ⟨q, 0, none⟩ 2 = some _ := l.part (i := 1) rfl rfl
  simp (disch := omega) only [↓stp, vls, inf, frs, mark_eq, ↓reduceIte, Nat.reduceEqDiff, ite_tt, ite_ff, eq_self, and_true, true_and, and_self, implies_true, Bool.true_eq_false, Bool.false_eq_true, decide_true, decide_false, decide_eq_true_eq, decide_eq_false_iff_not, ne_eq, not_true_eq_false, not_false_eq_true, Bool.not_eq_true', Bool.not_eq_false', beq_self_eq_true, Bool.not_true, Bool.not_false, List.getElem?_toArray, List.getElem?_cons_zero, List.getElem?_cons_succ, kp]
  refine (impl_validB_c V _ x (suiteS_mk (g0.mono l.ext) (g1.mono l.ext)) (by omega) (by omega)).mono ?_
  rintro _ V2 ⟨rfl, he2⟩
  replace l := l.step he2
  have kp := he2.part kp
  simp (disch := omega) only [↓stp, vls, inf, frs, mark_eq, ↓reduceIte, Nat.reduceEqDiff, ite_tt, ite_ff, eq_self, and_true, true_and, and_self, implies_true, Bool.true_eq_false, Bool.false_eq_true, decide_true, decide_false, decide_eq_true_eq, decide_eq_false_iff_not, ne_eq, not_true_eq_false, not_false_eq_true, Bool.not_eq_true', Bool.not_eq_false', beq_self_eq_true, Bool.not_true, Bool.not_false, List.getElem?_toArray, List.getElem?_cons_zero, List.getElem?_cons_succ, kp]
  refine ⟨fun e1 => ?_, fun e1 => ?_⟩ <;> simp (disch := omega) only [↓stp, vls, inf, frs, mark_eq, ↓reduceIte, Nat.reduceEqDiff, ite_tt, ite_ff, eq_self, and_true, true_and, and_self, implies_true, Bool.true_eq_false, Bool.false_eq_true, decide_true, decide_false, decide_eq_true_eq, decide_eq_false_iff_not, ne_eq, not_true_eq_false, not_false_eq_true, Bool.not_eq_true', Bool.not_eq_false', beq_self_eq_true, Bool.not_true, Bool.not_false, List.getElem?_toArray, List.getElem?_cons_zero, List.getElem?_cons_succ, e1, kp]
  rotate_left
  · rw [e1]
    simp (disch := omega) only [↓stp, vls, inf, frs, mark_eq, ↓reduceIte, Nat.reduceEqDiff, ite_tt, ite_ff, eq_self, and_true, true_and, and_self, implies_true, Bool.true_eq_false, Bool.false_eq_true, decide_true, decide_false, decide_eq_true_eq, decide_eq_false_iff_not, ne_eq, not_true_eq_false, not_false_eq_true, Bool.not_eq_true', Bool.not_eq_false', beq_self_eq_true, Bool.not_true, Bool.not_false, List.getElem?_toArray, List.getElem?_cons_zero, List.getElem?_cons_succ, bu0S]
    refine zero_store l fun W hW kp => ?_
    simp (disch := omega) only [↓stp, vls, inf, frs, mark_eq, ↓reduceIte, Nat.reduceEqDiff, ite_tt, ite_ff, eq_self, and_true, true_and, and_self, implies_true, Bool.true_eq_false, Bool.false_eq_true, decide_true, decide_false, decide_eq_true_eq, decide_eq_false_iff_not, ne_eq, not_true_eq_false, not_false_eq_true, Bool.not_eq_true', Bool.not_eq_false', beq_self_eq_true, Bool.not_true, Bool.not_false, List.getElem?_toArray, List.getElem?_cons_zero, List.getElem?_cons_succ, kp]
    exact ⟨_, _, rfl, led_none hW⟩
  refine (impl_validTests_c V2 _ xs (h'.mono l.ext) (by omega)).mono ?_
  rintro _ V3 ⟨rfl, he3⟩
  replace l := l.step he3
  simp (disch := omega) only [↓stp, vls, inf, frs, mark_eq, ↓reduceIte, Nat.reduceEqDiff, ite_tt, ite_ff, eq_self, and_true, true_and, and_self, implies_true, Bool.true_eq_false, Bool.false_eq_true, decide_true, decide_false, decide_eq_true_eq, decide_eq_false_iff_not, ne_eq, not_true_eq_false, not_false_eq_true, Bool.not_eq_true', Bool.not_eq_false', beq_self_eq_true, Bool.not_true, Bool.not_false, List.getElem?_toArray, List.getElem?_cons_zero, List.getElem?_cons_succ, e1]
  refine ⟨fun e2 => ?_, fun e2 => ?_⟩
  · have hno : validB (x.1, xs, ()) = false := by
      unfold validB formedB
      rw [show testsB (x.1, xs, ()).2.1 = testsB xs from rfl, e2, Bool.and_false, Bool.false_and]
    rw [e1, hno, chk_no hno]
    simp (disch := omega) only [↓stp, vls, inf, frs, mark_eq, ↓reduceIte, Nat.reduceEqDiff, ite_tt, ite_ff, eq_self, and_true, true_and, and_self, implies_true, Bool.true_eq_false, Bool.false_eq_true, decide_true, decide_false, decide_eq_true_eq, decide_eq_false_iff_not, ne_eq, not_true_eq_false, not_false_eq_true, Bool.not_eq_true', Bool.not_eq_false', beq_self_eq_true, Bool.not_true, Bool.not_false, List.getElem?_toArray, List.getElem?_cons_zero, List.getElem?_cons_succ, bu0S]
    refine zero_store l fun W hW kp => ?_
    simp (disch := omega) only [↓stp, vls, inf, frs, mark_eq, ↓reduceIte, Nat.reduceEqDiff, ite_tt, ite_ff, eq_self, and_true, true_and, and_self, implies_true, Bool.true_eq_false, Bool.false_eq_true, decide_true, decide_false, decide_eq_true_eq, decide_eq_false_iff_not, ne_eq, not_true_eq_false, not_false_eq_true, Bool.not_eq_true', Bool.not_eq_false', beq_self_eq_true, Bool.not_true, Bool.not_false, List.getElem?_toArray, List.getElem?_cons_zero, List.getElem?_cons_succ, kp]
    exact ⟨_, _, rfl, led_none hW⟩
  have hF := (validB_parts e1).1
  have hxs : ∀ t, t ∈ xs → smallT t := fun t ht => by
    unfold testsB at e2
    rw [Bool.and_eq_true, Bool.and_eq_true, List.all_eq_true] at e2
    exact testB_small (e2.1.1 t ht)
  have hxl : xs.length ≤ 1024 := by
    unfold testsB at e2
    rw [Bool.and_eq_true, Bool.and_eq_true, decide_eq_true_eq, decide_eq_true_eq] at e2
    omega
  have hl0 : x.1.length ≤ 16777215 := by omega
  have hl1 : xs.length ≤ 16777215 := by omega
  rw [e1]
  have kp : V3.part ⟨q, 0, none⟩ 2 = some _ := l.part (i := 1) rfl rfl
  simp (disch := omega) only [↓stp, vls, inf, frs, mark_eq, ↓reduceIte, Nat.reduceEqDiff, ite_tt, ite_ff, eq_self, and_true, true_and, and_self, implies_true, Bool.true_eq_false, Bool.false_eq_true, decide_true, decide_false, decide_eq_true_eq, decide_eq_false_iff_not, ne_eq, not_true_eq_false, not_false_eq_true, Bool.not_eq_true', Bool.not_eq_false', beq_self_eq_true, Bool.not_true, Bool.not_false, List.getElem?_toArray, List.getElem?_cons_zero, List.getElem?_cons_succ, kp]
  refine (impl_copySuite_c V3 _ x (suiteS_mk (g0.mono l.ext) (g1.mono l.ext)) hF.small).mono ?_
  rintro _ V4 ⟨fq, cells, rfl, l1⟩
  obtain ⟨ff0, uu0, ff1, uu1, rfl, rfl, o0, o1⟩ := suiteO_open (show suiteO.rel V4 fq _ cells from l1.at (i := 0) rfl)
  obtain ⟨a3, c3, rfl, _, _⟩ := o0.toS.slice
  obtain ⟨a4, c4, rfl, _, _⟩ := o1.toS.slice
  replace l := l.append (l1.split2 (it1 := osl 33 fixtureO ff0 _ x.1) (it2 := osl 43 testO ff1 _ x.2.1) rfl o0 o1)
  simp (disch := omega) only [↓stp, vls, inf, frs, mark_eq, ↓reduceIte, Nat.reduceEqDiff, ite_tt, ite_ff, eq_self, and_true, true_and, and_self, implies_true, Bool.true_eq_false, Bool.false_eq_true, decide_true, decide_false, decide_eq_true_eq, decide_eq_false_iff_not, ne_eq, not_true_eq_false, not_false_eq_true, Bool.not_eq_true', Bool.not_eq_false', beq_self_eq_true, Bool.not_true, Bool.not_false, List.getElem?_toArray, List.getElem?_cons_zero, List.getElem?_cons_succ, afield_S0]
  refine (impl_copyTests_c V4 _ xs (h'.mono l.ext) hxl hxs).mono ?_
  rintro r W ⟨ft, l1⟩
  obtain ⟨a5, c5, rfl, _, _⟩ := (OSl.toS (show OSl 43 testO W ft r xs from l1.at (i := 0) rfl)).slice
  replace l := l.append l1
  replace l := (l.sub (M := [osl 43 testO ft (.slice a5 xs.length c5) xs, osl 33 fixtureO ff0 (.slice a3 x.1.length c3) x.1, bx q4 ⟨26, [.slice none 0 0, .slice none 0 0], 2, true⟩]) (.cons_cons _ (.cons_cons _ (.cons _ (.cons_cons _ (.cons _ .slnil)))))).join2 (jt := oc suiteO _ (x.1, xs, ()) [.slice a3 x.1.length c3, .slice a5 xs.length c5]) rfl (suiteO_mk (x := (x.1, xs, ())) (l.at (i := 1) rfl) (l.at (i := 0) rfl))
  simp (disch := omega) only [↓stp, vls, inf, frs, mark_eq, ↓reduceIte, Nat.reduceEqDiff, ite_tt, ite_ff, eq_self, and_true, true_and, and_self, implies_true, Bool.true_eq_false, Bool.false_eq_true, decide_true, decide_false, decide_eq_true_eq, decide_eq_false_iff_not, ne_eq, not_true_eq_false, not_false_eq_true, Bool.not_eq_true', Bool.not_eq_false', beq_self_eq_true, Bool.not_true, Bool.not_false, List.getElem?_toArray, List.getElem?_cons_zero, List.getElem?_cons_succ]
  refine (impl_validated_c W _ (x.1, xs, ()) (suiteO_S (l.at (i := 0) rfl)) hl0 hl1).mono ?_
  rintro _ V6 ⟨rfl, he6⟩
  replace l := l.step he6
  simp (disch := omega) only [↓stp, vls, inf, frs, mark_eq, ↓reduceIte, Nat.reduceEqDiff, ite_tt, ite_ff, eq_self, and_true, true_and, and_self, implies_true, Bool.true_eq_false, Bool.false_eq_true, decide_true, decide_false, decide_eq_true_eq, decide_eq_false_iff_not, ne_eq, not_true_eq_false, not_false_eq_true, Bool.not_eq_true', Bool.not_eq_false', beq_self_eq_true, Bool.not_true, Bool.not_false, List.getElem?_toArray, List.getElem?_cons_zero, List.getElem?_cons_succ]
  refine led_storeAll (d := valC (x.1, xs, ()) _) l 1 rfl sz26 (valC_len _ rfl) rfl (valC_one _ (by simp [Value.oneCell'])) fun V7 l => ?_
  have kp : V7.part ⟨q4, 0, none⟩ 2 = some (valC (x.1, xs, ()) _) := l.partn (i := 1) rfl (valC_len _ rfl) (valC_one _ (by simp [Value.oneCell']))
  simp (disch := omega) only [↓stp, vls, inf, frs, mark_eq, ↓reduceIte, Nat.reduceEqDiff, ite_tt, ite_ff, eq_self, and_true, true_and, and_self, implies_true, Bool.true_eq_false, Bool.false_eq_true, decide_true, decide_false, decide_eq_true_eq, decide_eq_false_iff_not, ne_eq, not_true_eq_false, not_false_eq_true, Bool.not_eq_true', Bool.not_eq_false', beq_self_eq_true, Bool.not_true, Bool.not_false, List.getElem?_toArray, List.getElem?_cons_zero, List.getElem?_cons_succ, kp]
  exact (l.sub (.cons_cons _ (List.nil_sublist _))).checked

end Go.Proofs.Ytjiioedohbbceaa

