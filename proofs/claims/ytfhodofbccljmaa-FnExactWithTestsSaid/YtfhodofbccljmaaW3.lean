/- Suites changed: the reference. -/
import Derived.Test.YtfhodofbccljmaaW2
set_option maxHeartbeats 4000000
set_option synthInstance.maxHeartbeats 400000
set_option synthInstance.maxSize 4096
set_option linter.unusedSimpArgs false
set_option linter.unusedVariables false
namespace Go.Proofs.Ytfhodofbccljmaa

set_option maxRecDepth 100000

def sel (c : Bool) (y : SuiteD) : SuiteD := if c = true then y else ([], [], ())
noncomputable def dropTC (x : SuiteD) (id : ByteArray) : Bool := validB x && decide (0 ≤ findB x.2.1 id)
def dropTY (x : SuiteD) (id : ByteArray) : SuiteD := (x.1, x.2.1.take (findB x.2.1 id).toNat ++ x.2.1.drop ((findB x.2.1 id).toNat + 1), ())
noncomputable def withC (x : SuiteD) (name : ByteArray) : Bool := validB x && decide (0 ≤ fAt x.1 name)
def dropFY (x : SuiteD) (name : ByteArray) : SuiteD := (x.1.take (fAt x.1 name).toNat ++ x.1.drop ((fAt x.1 name).toNat + 1), x.2.1, ())
def scF (f : FixtureD) (sc : Int) : FixtureD := (f.1, sc, f.2.2.1, f.2.2.2.1, ())
def setScY (x : SuiteD) (name : ByteArray) (sc : Int) : SuiteD := (x.1.set (fAt x.1 name).toNat (scF (x.1.getD (fAt x.1 name).toNat default) sc), x.2.1, ())
def adT (t : TestD) (name : ByteArray) : TestD := (t.1, t.2.1, t.2.2.1, t.2.2.2.1 ++ [name], ())
def addNY (x : SuiteD) (id name : ByteArray) : SuiteD := (x.1, x.2.1.set (findB x.2.1 id).toNat (adT (x.2.1.getD (findB x.2.1 id).toNat default) name), ())

theorem findB_lt {xs : List TestD} {id : ByteArray} (h : 0 ≤ findB xs id) : ∃ k : Nat, findB xs id = k ∧ (findB xs id).toNat = k ∧ k < xs.length := by
  obtain ⟨k, h1, h2, _⟩ := idxI_lt h
  exact ⟨k, h1, by show (idxI _ xs).toNat = k; rw [h1]; rfl, h2⟩
theorem fAt_lt {xs : List FixtureD} {name : ByteArray} (h : 0 ≤ fAt xs name) : ∃ k : Nat, fAt xs name = k ∧ (fAt xs name).toNat = k ∧ k < xs.length := by
  obtain ⟨k, h1, h2, _⟩ := idxI_lt h
  exact ⟨k, h1, by show (idxI _ xs).toNat = k; rw [h1]; rfl, h2⟩
theorem Small.tests {x : SuiteD} (h : Small x) {ts : List TestD} (hl : ts.length ≤ 1024) (hs : ∀ t, t ∈ ts → t ∈ x.2.1) : Small (x.1, ts, ()) := ⟨h.l0, hl, h.s0, fun t ht => h.s1 t (hs t ht)⟩

theorem spec_DropTest_c (A : View) (d : List Value) (x : SuiteD) (id : ByteArray) (h : suiteS.rel A x d) : ACalls Try.prog 15 #[.agg d.toArray, .string id] A fun r A' => NewOcB A r A' (sel (dropTC x id) (dropTY x id)) (dropTC x id) := by
  obtain ⟨u0, u1, rfl, g0, g1⟩ := suiteS_open h
  obtain ⟨a0, c0, rfl, _, _⟩ := g0.slice
  obtain ⟨a1, c1, rfl, _, _⟩ := g1.slice
  have hfb : idxI (fun t : TestD => decide (idD t = id)) x.2.1 = findB x.2.1 id := rfl
  refine acalls Try.func15 rfl (by kernel_rfl) ?_
  simp (disch := omega) only [↓stp, vls, inf, frs, mark_eq, ↓reduceIte, Nat.reduceEqDiff, ite_tt, ite_ff, eq_self, and_true, true_and, and_self, implies_true, Bool.true_eq_false, Bool.false_eq_true, decide_true, decide_false, decide_eq_true_eq, decide_eq_false_iff_not, ne_eq, not_true_eq_false, not_false_eq_true, Bool.not_eq_true', Bool.not_eq_false', beq_self_eq_true, Bool.not_true, Bool.not_false, List.getElem?_toArray, List.getElem?_cons_zero, List.getElem?_cons_succ]
  refine led_box (Led.nil A) rfl fun q V he l => ?_
  simp (disch := omega) only [↓stp, vls, inf, frs, mark_eq, ↓reduceIte, Nat.reduceEqDiff, ite_tt, ite_ff, eq_self, and_true, true_and, and_self, implies_true, Bool.true_eq_false, Bool.false_eq_true, decide_true, decide_false, decide_eq_true_eq, decide_eq_false_iff_not, ne_eq, not_true_eq_false, not_false_eq_true, Bool.not_eq_true', Bool.not_eq_false', beq_self_eq_true, Bool.not_true, Bool.not_false, List.getElem?_toArray, List.getElem?_cons_zero, List.getElem?_cons_succ]
  refine led_alloc zc30 l fun q4 V he l => ?_
  have k1 := l.cell (i := 1) rfl (o := 1) rfl rfl
  simp (disch := omega) only [↓stp, vls, inf, frs, mark_eq, ↓reduceIte, Nat.reduceEqDiff, ite_tt, ite_ff, eq_self, and_true, true_and, and_self, implies_true, Bool.true_eq_false, Bool.false_eq_true, decide_true, decide_false, decide_eq_true_eq, decide_eq_false_iff_not, ne_eq, not_true_eq_false, not_false_eq_true, Bool.not_eq_true', Bool.not_eq_false', beq_self_eq_true, Bool.not_true, Bool.not_false, List.getElem?_toArray, List.getElem?_cons_zero, List.getElem?_cons_succ, add_at, k1]
  refine (spec_findTest_c V _ x.2.1 id (g1.mono l.ext)).mono ?_
  rintro _ V2 ⟨rfl, he2⟩
  rw [hfb]
  replace l := l.step he2
  have kp : V2.part ⟨q, 0, none⟩ 2 = some _ := l.part (i := 1) rfl rfl
  simp (disch := omega) only [↓stp, vls, inf, frs, mark_eq, ↓reduceIte, Nat.reduceEqDiff, ite_tt, ite_ff, eq_self, and_true, true_and, and_self, implies_true, Bool.true_eq_false, Bool.false_eq_true, decide_true, decide_false, decide_eq_true_eq, decide_eq_false_iff_not, ne_eq, not_true_eq_false, not_false_eq_true, Bool.not_eq_true', Bool.not_eq_false', beq_self_eq_true, Bool.not_true, Bool.not_false, List.getElem?_toArray, List.getElem?_cons_zero, List.getElem?_cons_succ, kp]
  refine (spec_validB_c V2 _ x (suiteS_mk (g0.mono l.ext) (g1.mono l.ext)) trivial).mono ?_
  rintro _ V3 ⟨rfl, he3⟩
  replace l := l.step he3
  simp (disch := omega) only [↓stp, vls, inf, frs, mark_eq, ↓reduceIte, Nat.reduceEqDiff, ite_tt, ite_ff, eq_self, and_true, true_and, and_self, implies_true, Bool.true_eq_false, Bool.false_eq_true, decide_true, decide_false, decide_eq_true_eq, decide_eq_false_iff_not, ne_eq, not_true_eq_false, not_false_eq_true, Bool.not_eq_true', Bool.not_eq_false', beq_self_eq_true, Bool.not_true, Bool.not_false, List.getElem?_toArray, List.getElem?_cons_zero, List.getElem?_cons_succ]
  have no : dropTC x id = false → ∃ (f0 : List Nat) (u0 : List Value), Value.tuple #[.agg #[.slice none 0 0, .slice none 0 0], .bool false] = .tuple #[.agg u0.toArray, .bool (dropTC x id)] ∧ ∀ W, Ext A W → Led A [oc suiteO f0 (sel (dropTC x id) (dropTY x id)) u0] W := fun hc => by
    rw [hc]
    exact ⟨_, _, rfl, fun W hW => led_none hW⟩
  have zero : dropTC x id = false → ∀ {e : TypeId} {K : Value → View → Prop}, (∀ W, NewOcB A (Value.tuple #[.agg #[.slice none 0 0, .slice none 0 0], .bool false]) W (sel (dropTC x id) (dropTY x id)) (dropTC x id) → W.part ⟨q4, 0, none⟩ 2 = some [.slice none 0 0, .slice none 0 0] → K undef W) → astore Try.prog 30 (.pointer (some ⟨q4, 0, none⟩)) (.agg #[.slice none 0 0, .slice none 0 0]) V3 K := fun hc {e} {K} hK => by
    refine led_storeAll (d := [.slice none 0 0, .slice none 0 0]) l 0 rfl sz30 rfl rfl (by simp [Value.oneCell']) fun W l => ?_
    obtain ⟨f0, u0, h1, h2⟩ := no hc
    exact hK W ⟨f0, u0, h1, h2 W l.ext⟩ (l.part (i := 0) rfl rfl)
  clear no
  refine ⟨fun e1 => ?_, fun e1 => ?_⟩ <;> simp (disch := omega) only [↓stp, vls, inf, frs, mark_eq, ↓reduceIte, Nat.reduceEqDiff, ite_tt, ite_ff, eq_self, and_true, true_and, and_self, implies_true, Bool.true_eq_false, Bool.false_eq_true, decide_true, decide_false, decide_eq_true_eq, decide_eq_false_iff_not, ne_eq, not_true_eq_false, not_false_eq_true, Bool.not_eq_true', Bool.not_eq_false', beq_self_eq_true, Bool.not_true, Bool.not_false, List.getElem?_toArray, List.getElem?_cons_zero, List.getElem?_cons_succ, e1]
  rotate_left
  · simp (disch := omega) only [↓stp, vls, inf, frs, mark_eq, ↓reduceIte, Nat.reduceEqDiff, ite_tt, ite_ff, eq_self, and_true, true_and, and_self, implies_true, Bool.true_eq_false, Bool.false_eq_true, decide_true, decide_false, decide_eq_true_eq, decide_eq_false_iff_not, ne_eq, not_true_eq_false, not_false_eq_true, Bool.not_eq_true', Bool.not_eq_false', beq_self_eq_true, Bool.not_true, Bool.not_false, List.getElem?_toArray, List.getElem?_cons_zero, List.getElem?_cons_succ, bu0S]
    refine zero (by unfold dropTC; rw [e1]; rfl) (e := 0) fun W hW kp => ?_
    simp (disch := omega) only [↓stp, vls, inf, frs, mark_eq, ↓reduceIte, Nat.reduceEqDiff, ite_tt, ite_ff, eq_self, and_true, true_and, and_self, implies_true, Bool.true_eq_false, Bool.false_eq_true, decide_true, decide_false, decide_eq_true_eq, decide_eq_false_iff_not, ne_eq, not_true_eq_false, not_false_eq_true, Bool.not_eq_true', Bool.not_eq_false', beq_self_eq_true, Bool.not_true, Bool.not_false, List.getElem?_toArray, List.getElem?_cons_zero, List.getElem?_cons_succ, kp]
    exact hW
  refine ⟨fun e2 => ?_, fun e2 => ?_⟩ <;> simp (disch := omega) only [↓stp, vls, inf, frs, mark_eq, ↓reduceIte, Nat.reduceEqDiff, ite_tt, ite_ff, eq_self, and_true, true_and, and_self, implies_true, Bool.true_eq_false, Bool.false_eq_true, decide_true, decide_false, decide_eq_true_eq, decide_eq_false_iff_not, ne_eq, not_true_eq_false, not_false_eq_true, Bool.not_eq_true', Bool.not_eq_false', beq_self_eq_true, Bool.not_true, Bool.not_false, List.getElem?_toArray, List.getElem?_cons_zero, List.getElem?_cons_succ, e1]
  · simp (disch := omega) only [↓stp, vls, inf, frs, mark_eq, ↓reduceIte, Nat.reduceEqDiff, ite_tt, ite_ff, eq_self, and_true, true_and, and_self, implies_true, Bool.true_eq_false, Bool.false_eq_true, decide_true, decide_false, decide_eq_true_eq, decide_eq_false_iff_not, ne_eq, not_true_eq_false, not_false_eq_true, Bool.not_eq_true', Bool.not_eq_false', beq_self_eq_true, Bool.not_true, Bool.not_false, List.getElem?_toArray, List.getElem?_cons_zero, List.getElem?_cons_succ, bu0S]
    refine zero (by unfold dropTC; rw [e1, Bool.true_and]; exact decide_eq_false (by omega)) (e := 0) fun W hW kp => ?_
    simp (disch := omega) only [↓stp, vls, inf, frs, mark_eq, ↓reduceIte, Nat.reduceEqDiff, ite_tt, ite_ff, eq_self, and_true, true_and, and_self, implies_true, Bool.true_eq_false, Bool.false_eq_true, decide_true, decide_false, decide_eq_true_eq, decide_eq_false_iff_not, ne_eq, not_true_eq_false, not_false_eq_true, Bool.not_eq_true', Bool.not_eq_false', beq_self_eq_true, Bool.not_true, Bool.not_false, List.getElem?_toArray, List.getElem?_cons_zero, List.getElem?_cons_succ, kp]
    exact hW
  clear zero
  have hc : dropTC x id = true := by unfold dropTC; rw [e1, Bool.true_and]; exact decide_eq_true (by omega)
  have hF := (validB_parts e1).1
  have hfl := hF.fl
  have htl := hF.tl
  have k0 := l.cell (i := 1) rfl (o := 0) rfl rfl
  have k1 := l.cell (i := 1) rfl (o := 1) rfl rfl
  have kp : V3.part ⟨q, 0, none⟩ 2 = some _ := l.part (i := 1) rfl rfl
  obtain ⟨k, hk, hkn, hkl⟩ := findB_lt (xs := x.2.1) (id := id) (by omega)
  rw [hk]
  simp (disch := omega) only [↓stp, vls, inf, frs, mark_eq, ↓reduceIte, Nat.reduceEqDiff, ite_tt, ite_ff, eq_self, and_true, true_and, and_self, implies_true, Bool.true_eq_false, Bool.false_eq_true, decide_true, decide_false, decide_eq_true_eq, decide_eq_false_iff_not, ne_eq, not_true_eq_false, not_false_eq_true, Bool.not_eq_true', Bool.not_eq_false', beq_self_eq_true, Bool.not_true, Bool.not_false, List.getElem?_toArray, List.getElem?_cons_zero, List.getElem?_cons_succ]
  refine adraw_items [.q 0, .l 1 true, .q 3, .l 4 false, .q 5, .q 6, .q 8, .l 9 true, .q 10, .q 11, .q 12, .c 2 [], .c 7 [1, 9], .c 13 [1], .q 14, .c 15 [], .c 16 [], .q 17] (by kernel_rfl) (by kernel_rfl) ?_
  simp (disch := omega) only [↓stp, ↓pln, plv, nilOk, Nat.reduceBEq, Bool.or_false, Bool.or_true, Bool.false_or, Bool.true_or, vls, inf, frs, mark_eq, ↓reduceIte, Nat.reduceEqDiff, ite_tt, ite_ff, eq_self, and_true, true_and, and_self, implies_true, Bool.true_eq_false, Bool.false_eq_true, decide_true, decide_false, decide_eq_true_eq, decide_eq_false_iff_not, ne_eq, not_true_eq_false, not_false_eq_true, Bool.not_eq_true', Bool.not_eq_false', beq_self_eq_true, Bool.not_true, Bool.not_false, List.getElem?_toArray, List.getElem?_cons_zero, List.getElem?_cons_succ, add_at, k0, k1]
  refine led_lit0R (S := testS) A li28 l fun b V he l => ?_
  have k0 := l.cell (i := 2) rfl (o := 0) rfl rfl
  have k1 := l.cell (i := 2) rfl (o := 1) rfl rfl
  simp (disch := omega) only [↓stp, ↓pln, plv, nilOk, Nat.reduceBEq, Bool.or_false, Bool.or_true, Bool.false_or, Bool.true_or, vls, inf, frs, mark_eq, ↓reduceIte, Nat.reduceEqDiff, ite_tt, ite_ff, eq_self, and_true, true_and, and_self, implies_true, Bool.true_eq_false, Bool.false_eq_true, decide_true, decide_false, decide_eq_true_eq, decide_eq_false_iff_not, ne_eq, not_true_eq_false, not_false_eq_true, Bool.not_eq_true', Bool.not_eq_false', beq_self_eq_true, Bool.not_true, Bool.not_false, List.getElem?_toArray, List.getElem?_cons_zero, List.getElem?_cons_succ, add_at, k0, k1, false_implies]
  refine led_appS (S := testS) ap28_28 (by decide) l (i := 0) rfl (g1.take (by omega) 4) l.ext (by rw [List.length_nil, List.length_take]; omega) fun fp1 w1 V _ l => ?_
  rw [List.nil_append] at l
  have k0 := l.cell (i := 2) rfl (o := 0) rfl rfl
  have k1 := l.cell (i := 2) rfl (o := 1) rfl rfl
  simp (disch := omega) only [↓stp, ↓pln, plv, nilOk, Nat.reduceBEq, Bool.or_false, Bool.or_true, Bool.false_or, Bool.true_or, vls, inf, frs, mark_eq, ↓reduceIte, Nat.reduceEqDiff, ite_tt, ite_ff, eq_self, and_true, true_and, and_self, implies_true, Bool.true_eq_false, Bool.false_eq_true, decide_true, decide_false, decide_eq_true_eq, decide_eq_false_iff_not, ne_eq, not_true_eq_false, not_false_eq_true, Bool.not_eq_true', Bool.not_eq_false', beq_self_eq_true, Bool.not_true, Bool.not_false, List.getElem?_toArray, List.getElem?_cons_zero, List.getElem?_cons_succ, add_at, k0, k1, false_implies]
  refine led_appS (S := testS) ap28_28 (by decide) l (i := 0) rfl (g1.drop (k := k + 1) (by omega)) l.ext (by rw [List.length_drop, List.length_take]; omega) fun fp2 w2 V _ l => ?_
  obtain ⟨aw, cw, rfl, _, _⟩ := (RSl.toS (show RSl 76 testS A V fp2 w2 _ from l.at (i := 0) rfl) l.ext).slice
  have k0 := l.cell (i := 2) rfl (o := 0) rfl rfl
  have k1 := l.cell (i := 2) rfl (o := 1) rfl rfl
  simp (disch := omega) only [↓stp, ↓pln, plv, nilOk, Nat.reduceBEq, Bool.or_false, Bool.or_true, Bool.false_or, Bool.true_or, vls, inf, frs, mark_eq, ↓reduceIte, Nat.reduceEqDiff, ite_tt, ite_ff, eq_self, and_true, true_and, and_self, implies_true, Bool.true_eq_false, Bool.false_eq_true, decide_true, decide_false, decide_eq_true_eq, decide_eq_false_iff_not, ne_eq, not_true_eq_false, not_false_eq_true, Bool.not_eq_true', Bool.not_eq_false', beq_self_eq_true, Bool.not_true, Bool.not_false, List.getElem?_toArray, List.getElem?_cons_zero, List.getElem?_cons_succ, add_at, k0, k1, false_implies]
  have hY : dropTY x id = (x.1, x.2.1.take k ++ x.2.1.drop (k + 1), ()) := by unfold dropTY; rw [hkn]
  rw [hc, hY]
  refine (spec_copySuite_c V _ (x.1, x.2.1.take k ++ x.2.1.drop (k + 1), ()) (suiteS_mk (g0.mono l.ext) (RSl.toS (l.at (i := 0) rfl) l.ext)) (hF.small.tests (by rw [List.length_append, List.length_take, List.length_drop]; omega) fun t ht => ?_)).mono ?_
  · rcases List.mem_append.1 ht with ht | ht
    · exact List.mem_of_mem_take ht
    · exact List.mem_of_mem_drop ht
  rintro _ V4 ⟨fq, cells, rfl, l1⟩
  obtain ⟨ff0, uu0, ff1, uu1, rfl, rfl, o0, o1⟩ := suiteO_open (show suiteO.rel V4 fq _ cells from l1.at (i := 0) rfl)
  obtain ⟨a2, c2, rfl, _, _⟩ := o0.toS.slice
  obtain ⟨a3, c3, rfl, _, _⟩ := o1.toS.slice
  replace l := l.append l1
  have k0 := l.cell (i := 3) rfl (o := 0) rfl rfl
  have k1 := l.cell (i := 3) rfl (o := 1) rfl rfl
  simp (disch := omega) only [↓stp, ↓pln, plv, nilOk, Nat.reduceBEq, Bool.or_false, Bool.or_true, Bool.false_or, Bool.true_or, vls, inf, frs, mark_eq, ↓reduceIte, Nat.reduceEqDiff, ite_tt, ite_ff, eq_self, and_true, true_and, and_self, implies_true, Bool.true_eq_false, Bool.false_eq_true, decide_true, decide_false, decide_eq_true_eq, decide_eq_false_iff_not, ne_eq, not_true_eq_false, not_false_eq_true, Bool.not_eq_true', Bool.not_eq_false', beq_self_eq_true, Bool.not_true, Bool.not_false, List.getElem?_toArray, List.getElem?_cons_zero, List.getElem?_cons_succ, add_at, k0, k1, false_implies]
  refine led_storeAll l 2 rfl sz30 rfl rfl (by simp [Value.oneCell']) fun V6 l => ?_
  have k0 := l.cell (i := 3) rfl (o := 0) rfl rfl
  have k1 := l.cell (i := 3) rfl (o := 1) rfl rfl
  have kp : V6.part ⟨q4, 0, none⟩ 2 = some _ := l.part (i := 2) rfl rfl
  simp (disch := omega) only [↓stp, ↓pln, plv, nilOk, Nat.reduceBEq, Bool.or_false, Bool.or_true, Bool.false_or, Bool.true_or, vls, inf, frs, mark_eq, ↓reduceIte, Nat.reduceEqDiff, ite_tt, ite_ff, eq_self, and_true, true_and, and_self, implies_true, Bool.true_eq_false, Bool.false_eq_true, decide_true, decide_false, decide_eq_true_eq, decide_eq_false_iff_not, ne_eq, not_true_eq_false, not_false_eq_true, Bool.not_eq_true', Bool.not_eq_false', beq_self_eq_true, Bool.not_true, Bool.not_false, List.getElem?_toArray, List.getElem?_cons_zero, List.getElem?_cons_succ, add_at, k0, k1, false_implies]
  simp (disch := omega) only [↓stp, vls, inf, frs, mark_eq, ↓reduceIte, Nat.reduceEqDiff, ite_tt, ite_ff, eq_self, and_true, true_and, and_self, implies_true, Bool.true_eq_false, Bool.false_eq_true, decide_true, decide_false, decide_eq_true_eq, decide_eq_false_iff_not, ne_eq, not_true_eq_false, not_false_eq_true, Bool.not_eq_true', Bool.not_eq_false', beq_self_eq_true, Bool.not_true, Bool.not_false, List.getElem?_toArray, List.getElem?_cons_zero, List.getElem?_cons_succ, kp]
  exact ⟨_, _, rfl, l.sub (.cons_cons _ (List.nil_sublist _))⟩

theorem spec_SetScope_c (A : View) (d : List Value) (x : SuiteD) (name : ByteArray) (sc : Int) (hsc : -9223372036854775808 ≤ sc ∧ sc < 9223372036854775808) (h : suiteS.rel A x d) : ACalls Try.prog 45 #[.agg d.toArray, .string name, .int .i64 sc] A fun r A' => NewOcB A r A' (sel (withC x name) (chk (setScY x name sc))) (withC x name && validB (setScY x name sc)) := by
  obtain ⟨u0, u1, rfl, g0, g1⟩ := suiteS_open h
  obtain ⟨a0, c0, rfl, _, _⟩ := g0.slice
  obtain ⟨a1, c1, rfl, _, _⟩ := g1.slice
  refine acalls Try.func45 rfl (by kernel_rfl) ?_
  simp (disch := omega) only [↓stp, vls, inf, frs, mark_eq, ↓reduceIte, Nat.reduceEqDiff, ite_tt, ite_ff, eq_self, and_true, true_and, and_self, implies_true, Bool.true_eq_false, Bool.false_eq_true, decide_true, decide_false, decide_eq_true_eq, decide_eq_false_iff_not, ne_eq, not_true_eq_false, not_false_eq_true, Bool.not_eq_true', Bool.not_eq_false', beq_self_eq_true, Bool.not_true, Bool.not_false, List.getElem?_toArray, List.getElem?_cons_zero, List.getElem?_cons_succ]
  refine led_box (Led.nil A) rfl fun q V he l => ?_
  simp (disch := omega) only [↓stp, vls, inf, frs, mark_eq, ↓reduceIte, Nat.reduceEqDiff, ite_tt, ite_ff, eq_self, and_true, true_and, and_self, implies_true, Bool.true_eq_false, Bool.false_eq_true, decide_true, decide_false, decide_eq_true_eq, decide_eq_false_iff_not, ne_eq, not_true_eq_false, not_false_eq_true, Bool.not_eq_true', Bool.not_eq_false', beq_self_eq_true, Bool.not_true, Bool.not_false, List.getElem?_toArray, List.getElem?_cons_zero, List.getElem?_cons_succ]
  refine led_alloc zc30 l fun q6 V he l => ?_
  have k0 := l.cell (i := 1) rfl (o := 0) rfl rfl
  simp (disch := omega) only [↓stp, vls, inf, frs, mark_eq, ↓reduceIte, Nat.reduceEqDiff, ite_tt, ite_ff, eq_self, and_true, true_and, and_self, implies_true, Bool.true_eq_false, Bool.false_eq_true, decide_true, decide_false, decide_eq_true_eq, decide_eq_false_iff_not, ne_eq, not_true_eq_false, not_false_eq_true, Bool.not_eq_true', Bool.not_eq_false', beq_self_eq_true, Bool.not_true, Bool.not_false, List.getElem?_toArray, List.getElem?_cons_zero, List.getElem?_cons_succ, add_at, k0]
  refine (spec_fixtureAt_c V _ x.1 name (g0.mono l.ext)).mono ?_
  rintro _ V2 ⟨rfl, rfl⟩
  have kp : V2.part ⟨q, 0, none⟩ 2 = some _ := l.part (i := 1) rfl rfl
  simp (disch := omega) only [↓stp, vls, inf, frs, mark_eq, ↓reduceIte, Nat.reduceEqDiff, ite_tt, ite_ff, eq_self, and_true, true_and, and_self, implies_true, Bool.true_eq_false, Bool.false_eq_true, decide_true, decide_false, decide_eq_true_eq, decide_eq_false_iff_not, ne_eq, not_true_eq_false, not_false_eq_true, Bool.not_eq_true', Bool.not_eq_false', beq_self_eq_true, Bool.not_true, Bool.not_false, List.getElem?_toArray, List.getElem?_cons_zero, List.getElem?_cons_succ, kp]
  refine (spec_validB_c V2 _ x (suiteS_mk (g0.mono l.ext) (g1.mono l.ext)) trivial).mono ?_
  rintro _ V3 ⟨rfl, he3⟩
  replace l := l.step he3
  simp (disch := omega) only [↓stp, vls, inf, frs, mark_eq, ↓reduceIte, Nat.reduceEqDiff, ite_tt, ite_ff, eq_self, and_true, true_and, and_self, implies_true, Bool.true_eq_false, Bool.false_eq_true, decide_true, decide_false, decide_eq_true_eq, decide_eq_false_iff_not, ne_eq, not_true_eq_false, not_false_eq_true, Bool.not_eq_true', Bool.not_eq_false', beq_self_eq_true, Bool.not_true, Bool.not_false, List.getElem?_toArray, List.getElem?_cons_zero, List.getElem?_cons_succ]
  have no : withC x name = false → ∃ (f0 : List Nat) (u0 : List Value), Value.tuple #[.agg #[.slice none 0 0, .slice none 0 0], .bool false] = .tuple #[.agg u0.toArray, .bool (withC x name && validB (setScY x name sc))] ∧ ∀ W, Ext A W → Led A [oc suiteO f0 (sel (withC x name) (chk (setScY x name sc))) u0] W := fun hc => by
    rw [hc]
    exact ⟨_, _, rfl, fun W hW => led_none hW⟩
  have zero : withC x name = false → ∀ {e : TypeId} {K : Value → View → Prop}, (∀ W, NewOcB A (Value.tuple #[.agg #[.slice none 0 0, .slice none 0 0], .bool false]) W (sel (withC x name) (chk (setScY x name sc))) (withC x name && validB (setScY x name sc)) → W.part ⟨q6, 0, none⟩ 2 = some [.slice none 0 0, .slice none 0 0] → K undef W) → astore Try.prog 30 (.pointer (some ⟨q6, 0, none⟩)) (.agg #[.slice none 0 0, .slice none 0 0]) V3 K := fun hc {e} {K} hK => by
    refine led_storeAll (d := [.slice none 0 0, .slice none 0 0]) l 0 rfl sz30 rfl rfl (by simp [Value.oneCell']) fun W l => ?_
    obtain ⟨f0, u0, h1, h2⟩ := no hc
    exact hK W ⟨f0, u0, h1, h2 W l.ext⟩ (l.part (i := 0) rfl rfl)
  clear no
  refine ⟨fun e1 => ?_, fun e1 => ?_⟩ <;> simp (disch := omega) only [↓stp, vls, inf, frs, mark_eq, ↓reduceIte, Nat.reduceEqDiff, ite_tt, ite_ff, eq_self, and_true, true_and, and_self, implies_true, Bool.true_eq_false, Bool.false_eq_true, decide_true, decide_false, decide_eq_true_eq, decide_eq_false_iff_not, ne_eq, not_true_eq_false, not_false_eq_true, Bool.not_eq_true', Bool.not_eq_false', beq_self_eq_true, Bool.not_true, Bool.not_false, List.getElem?_toArray, List.getElem?_cons_zero, List.getElem?_cons_succ, e1]
  rotate_left
  · simp (disch := omega) only [↓stp, vls, inf, frs, mark_eq, ↓reduceIte, Nat.reduceEqDiff, ite_tt, ite_ff, eq_self, and_true, true_and, and_self, implies_true, Bool.true_eq_false, Bool.false_eq_true, decide_true, decide_false, decide_eq_true_eq, decide_eq_false_iff_not, ne_eq, not_true_eq_false, not_false_eq_true, Bool.not_eq_true', Bool.not_eq_false', beq_self_eq_true, Bool.not_true, Bool.not_false, List.getElem?_toArray, List.getElem?_cons_zero, List.getElem?_cons_succ, bu0S]
    refine zero (by unfold withC; rw [e1]; rfl) (e := 0) fun W hW kp => ?_
    simp (disch := omega) only [↓stp, vls, inf, frs, mark_eq, ↓reduceIte, Nat.reduceEqDiff, ite_tt, ite_ff, eq_self, and_true, true_and, and_self, implies_true, Bool.true_eq_false, Bool.false_eq_true, decide_true, decide_false, decide_eq_true_eq, decide_eq_false_iff_not, ne_eq, not_true_eq_false, not_false_eq_true, Bool.not_eq_true', Bool.not_eq_false', beq_self_eq_true, Bool.not_true, Bool.not_false, List.getElem?_toArray, List.getElem?_cons_zero, List.getElem?_cons_succ, kp]
    exact hW
  refine ⟨fun e2 => ?_, fun e2 => ?_⟩ <;> simp (disch := omega) only [↓stp, vls, inf, frs, mark_eq, ↓reduceIte, Nat.reduceEqDiff, ite_tt, ite_ff, eq_self, and_true, true_and, and_self, implies_true, Bool.true_eq_false, Bool.false_eq_true, decide_true, decide_false, decide_eq_true_eq, decide_eq_false_iff_not, ne_eq, not_true_eq_false, not_false_eq_true, Bool.not_eq_true', Bool.not_eq_false', beq_self_eq_true, Bool.not_true, Bool.not_false, List.getElem?_toArray, List.getElem?_cons_zero, List.getElem?_cons_succ, e1]
  · simp (disch := omega) only [↓stp, vls, inf, frs, mark_eq, ↓reduceIte, Nat.reduceEqDiff, ite_tt, ite_ff, eq_self, and_true, true_and, and_self, implies_true, Bool.true_eq_false, Bool.false_eq_true, decide_true, decide_false, decide_eq_true_eq, decide_eq_false_iff_not, ne_eq, not_true_eq_false, not_false_eq_true, Bool.not_eq_true', Bool.not_eq_false', beq_self_eq_true, Bool.not_true, Bool.not_false, List.getElem?_toArray, List.getElem?_cons_zero, List.getElem?_cons_succ, bu0S]
    refine zero (by unfold withC; rw [e1, Bool.true_and]; exact decide_eq_false (by omega)) (e := 0) fun W hW kp => ?_
    simp (disch := omega) only [↓stp, vls, inf, frs, mark_eq, ↓reduceIte, Nat.reduceEqDiff, ite_tt, ite_ff, eq_self, and_true, true_and, and_self, implies_true, Bool.true_eq_false, Bool.false_eq_true, decide_true, decide_false, decide_eq_true_eq, decide_eq_false_iff_not, ne_eq, not_true_eq_false, not_false_eq_true, Bool.not_eq_true', Bool.not_eq_false', beq_self_eq_true, Bool.not_true, Bool.not_false, List.getElem?_toArray, List.getElem?_cons_zero, List.getElem?_cons_succ, kp]
    exact hW
  clear zero
  have hc : withC x name = true := by unfold withC; rw [e1, Bool.true_and]; exact decide_eq_true (by omega)
  have hF := (validB_parts e1).1
  have hfl := hF.fl
  have htl := hF.tl
  have k0 := l.cell (i := 1) rfl (o := 0) rfl rfl
  have k1 := l.cell (i := 1) rfl (o := 1) rfl rfl
  have kp : V3.part ⟨q, 0, none⟩ 2 = some _ := l.part (i := 1) rfl rfl
  obtain ⟨k, hk, hkn, hkl⟩ := fAt_lt (xs := x.1) (name := name) (by omega)
  have hY : setScY x name sc = (x.1.set k (scF x.1[k] sc), x.2.1, ()) := by unfold setScY; rw [hkn, List.getD_eq_getElem?_getD, List.getElem?_eq_getElem hkl]; rfl
  rw [hk]
  rw [hc, hY]
  simp (disch := omega) only [↓stp, vls, inf, frs, mark_eq, ↓reduceIte, Nat.reduceEqDiff, ite_tt, ite_ff, eq_self, and_true, true_and, and_self, implies_true, Bool.true_eq_false, Bool.false_eq_true, decide_true, decide_false, decide_eq_true_eq, decide_eq_false_iff_not, ne_eq, not_true_eq_false, not_false_eq_true, Bool.not_eq_true', Bool.not_eq_false', beq_self_eq_true, Bool.not_true, Bool.not_false, List.getElem?_toArray, List.getElem?_cons_zero, List.getElem?_cons_succ, kp]
  refine (spec_copySuite_c V3 _ x (suiteS_mk (g0.mono l.ext) (g1.mono l.ext)) hF.small).mono ?_
  rintro _ V4 ⟨fq, cells, rfl, l1⟩
  obtain ⟨ff0, uu0, ff1, uu1, rfl, rfl, o0, o1⟩ := suiteO_open (show suiteO.rel V4 fq _ cells from l1.at (i := 0) rfl)
  obtain ⟨a3, c3, rfl, _, _⟩ := o1.toS.slice
  obtain ⟨b, cb, d1, d2, d3, f1, f2, f3, rfl, hcb, hd1, l1⟩ := (l1.split2 (it1 := osl 83 fixtureO ff0 uu0 x.1) (it2 := osl 76 testO ff1 _ x.2.1) rfl o0 o1).openAt hkl
  obtain ⟨gf, gu, rfl, rfl, z1, z2, og⟩ := fixtureO_open (show fixtureO.rel V4 f2 x.1[k] d2 from l1.at (i := 1) rfl)
  replace l1 := l1.upd (i := 1) (jt := osl 9 strO gf gu (x.1[k]).2.2.1) rfl rfl (Only.refl _ _) og
  replace l := l.append l1
  clear l1
  replace hd1 : d1.length = k * 4 := hd1
  simp (disch := omega) only [↓stp, vls, inf, frs, mark_eq, ↓reduceIte, Nat.reduceEqDiff, ite_tt, ite_ff, eq_self, and_true, true_and, and_self, implies_true, Bool.true_eq_false, Bool.false_eq_true, decide_true, decide_false, decide_eq_true_eq, decide_eq_false_iff_not, ne_eq, not_true_eq_false, not_false_eq_true, Bool.not_eq_true', Bool.not_eq_false', beq_self_eq_true, Bool.not_true, Bool.not_false, List.getElem?_toArray, List.getElem?_cons_zero, List.getElem?_cons_succ]
  refine led_alloc zc30 l fun q9 V5 _ l => ?_
  simp (disch := omega) only [↓stp, vls, inf, frs, mark_eq, ↓reduceIte, Nat.reduceEqDiff, ite_tt, ite_ff, eq_self, and_true, true_and, and_self, implies_true, Bool.true_eq_false, Bool.false_eq_true, decide_true, decide_false, decide_eq_true_eq, decide_eq_false_iff_not, ne_eq, not_true_eq_false, not_false_eq_true, Bool.not_eq_true', Bool.not_eq_false', beq_self_eq_true, Bool.not_true, Bool.not_false, List.getElem?_toArray, List.getElem?_cons_zero, List.getElem?_cons_succ]
  refine led_storeAll l 0 rfl sz30 rfl rfl (by simp [Value.oneCell']) fun V5 l => ?_
  have n0 := l.cell (i := 0) rfl (o := 0) rfl rfl
  simp (disch := omega) only [↓stp, vls, inf, frs, mark_eq, ↓reduceIte, Nat.reduceEqDiff, ite_tt, ite_ff, eq_self, and_true, true_and, and_self, implies_true, Bool.true_eq_false, Bool.false_eq_true, decide_true, decide_false, decide_eq_true_eq, decide_eq_false_iff_not, ne_eq, not_true_eq_false, not_false_eq_true, Bool.not_eq_true', Bool.not_eq_false', beq_self_eq_true, Bool.not_true, Bool.not_false, List.getElem?_toArray, List.getElem?_cons_zero, List.getElem?_cons_succ, add_at, n0]
  refine led_mid l 1 rfl sz3 (j := 1) (d' := [.string (x.1[k]).1, .int .i64 sc, gu, .bool (x.1[k]).2.2.2.1]) (by omega) ⟨rfl, rfl⟩ ⟨by simp, rfl⟩ fun W _ l => ?_
  have kp : W.part ⟨q9, 0, none⟩ 2 = some [.slice (some ⟨b, 0, none⟩) x.1.length cb, .slice a3 x.2.1.length c3] := l.part (i := 0) rfl rfl
  replace l := (l.tail.upd (i := 1) (jt := oc fixtureO gf (scF x.1[k] sc) [.string (x.1[k]).1, .int .i64 sc, gu, .bool (x.1[k]).2.2.2.1]) rfl rfl (Only.refl _ _) (show fixtureO.rel W gf (scF x.1[k] sc) _ from fixtureO_mk (x := scF x.1[k] sc) z1 hsc (l.at (i := 2) rfl))).closeAt hkl hcb (by omega)
  simp (disch := omega) only [↓stp, vls, inf, frs, mark_eq, ↓reduceIte, Nat.reduceEqDiff, ite_tt, ite_ff, eq_self, and_true, true_and, and_self, implies_true, Bool.true_eq_false, Bool.false_eq_true, decide_true, decide_false, decide_eq_true_eq, decide_eq_false_iff_not, ne_eq, not_true_eq_false, not_false_eq_true, Bool.not_eq_true', Bool.not_eq_false', beq_self_eq_true, Bool.not_true, Bool.not_false, List.getElem?_toArray, List.getElem?_cons_zero, List.getElem?_cons_succ, kp]
  refine (spec_checkedSuite_c W _ (x.1.set k (scF x.1[k] sc), x.2.1, ()) (suiteS_mk (OSl.toS (l.at (i := 0) rfl)) (OSl.toS (l.at (i := 1) rfl)))).mono ?_
  rintro _ V6 ⟨fq, uq, rfl, l1⟩
  obtain ⟨ff2, uu2, ff3, uu3, rfl, rfl, o2, o3⟩ := suiteO_open (show suiteO.rel V6 fq _ uq from l1.at (i := 0) rfl)
  obtain ⟨a4, c4, rfl, _, _⟩ := o2.toS.slice
  obtain ⟨a5, c5, rfl, _, _⟩ := o3.toS.slice
  replace l := l.append l1
  simp (disch := omega) only [↓stp, vls, inf, frs, mark_eq, ↓reduceIte, Nat.reduceEqDiff, ite_tt, ite_ff, eq_self, and_true, true_and, and_self, implies_true, Bool.true_eq_false, Bool.false_eq_true, decide_true, decide_false, decide_eq_true_eq, decide_eq_false_iff_not, ne_eq, not_true_eq_false, not_false_eq_true, Bool.not_eq_true', Bool.not_eq_false', beq_self_eq_true, Bool.not_true, Bool.not_false, List.getElem?_toArray, List.getElem?_cons_zero, List.getElem?_cons_succ]
  refine led_storeAll l 3 rfl sz30 rfl rfl (by simp [Value.oneCell']) fun V7 l => ?_
  have kp : V7.part ⟨q6, 0, none⟩ 2 = some _ := l.part (i := 3) rfl rfl
  simp (disch := omega) only [↓stp, vls, inf, frs, mark_eq, ↓reduceIte, Nat.reduceEqDiff, ite_tt, ite_ff, eq_self, and_true, true_and, and_self, implies_true, Bool.true_eq_false, Bool.false_eq_true, decide_true, decide_false, decide_eq_true_eq, decide_eq_false_iff_not, ne_eq, not_true_eq_false, not_false_eq_true, Bool.not_eq_true', Bool.not_eq_false', beq_self_eq_true, Bool.not_true, Bool.not_false, List.getElem?_toArray, List.getElem?_cons_zero, List.getElem?_cons_succ, kp]
  exact ⟨_, _, rfl, l.sub (.cons_cons _ (List.nil_sublist _))⟩

theorem spec_AddNeed_c (A : View) (d : List Value) (x : SuiteD) (id name : ByteArray) (hz : name.size ≤ 140737488355328) (h : suiteS.rel A x d) : ACalls Try.prog 21 #[.agg d.toArray, .string id, .string name] A fun r A' => NewOcB A r A' (sel (dropTC x id) (chk (addNY x id name))) (dropTC x id && validB (addNY x id name)) := by
  obtain ⟨u0, u1, rfl, g0, g1⟩ := suiteS_open h
  obtain ⟨a0, c0, rfl, _, _⟩ := g0.slice
  obtain ⟨a1, c1, rfl, _, _⟩ := g1.slice
  have hfb : idxI (fun t : TestD => decide (idD t = id)) x.2.1 = findB x.2.1 id := rfl
  refine acalls Try.func21 rfl (by kernel_rfl) ?_
  simp (disch := omega) only [↓stp, vls, inf, frs, mark_eq, ↓reduceIte, Nat.reduceEqDiff, ite_tt, ite_ff, eq_self, and_true, true_and, and_self, implies_true, Bool.true_eq_false, Bool.false_eq_true, decide_true, decide_false, decide_eq_true_eq, decide_eq_false_iff_not, ne_eq, not_true_eq_false, not_false_eq_true, Bool.not_eq_true', Bool.not_eq_false', beq_self_eq_true, Bool.not_true, Bool.not_false, List.getElem?_toArray, List.getElem?_cons_zero, List.getElem?_cons_succ]
  refine led_box (Led.nil A) rfl fun q V he l => ?_
  simp (disch := omega) only [↓stp, vls, inf, frs, mark_eq, ↓reduceIte, Nat.reduceEqDiff, ite_tt, ite_ff, eq_self, and_true, true_and, and_self, implies_true, Bool.true_eq_false, Bool.false_eq_true, decide_true, decide_false, decide_eq_true_eq, decide_eq_false_iff_not, ne_eq, not_true_eq_false, not_false_eq_true, Bool.not_eq_true', Bool.not_eq_false', beq_self_eq_true, Bool.not_true, Bool.not_false, List.getElem?_toArray, List.getElem?_cons_zero, List.getElem?_cons_succ]
  refine led_alloc zc30 l fun q6 V he l => ?_
  have k1 := l.cell (i := 1) rfl (o := 1) rfl rfl
  simp (disch := omega) only [↓stp, vls, inf, frs, mark_eq, ↓reduceIte, Nat.reduceEqDiff, ite_tt, ite_ff, eq_self, and_true, true_and, and_self, implies_true, Bool.true_eq_false, Bool.false_eq_true, decide_true, decide_false, decide_eq_true_eq, decide_eq_false_iff_not, ne_eq, not_true_eq_false, not_false_eq_true, Bool.not_eq_true', Bool.not_eq_false', beq_self_eq_true, Bool.not_true, Bool.not_false, List.getElem?_toArray, List.getElem?_cons_zero, List.getElem?_cons_succ, add_at, k1]
  refine (spec_findTest_c V _ x.2.1 id (g1.mono l.ext)).mono ?_
  rintro _ V2 ⟨rfl, he2⟩
  rw [hfb]
  replace l := l.step he2
  have kp : V2.part ⟨q, 0, none⟩ 2 = some _ := l.part (i := 1) rfl rfl
  simp (disch := omega) only [↓stp, vls, inf, frs, mark_eq, ↓reduceIte, Nat.reduceEqDiff, ite_tt, ite_ff, eq_self, and_true, true_and, and_self, implies_true, Bool.true_eq_false, Bool.false_eq_true, decide_true, decide_false, decide_eq_true_eq, decide_eq_false_iff_not, ne_eq, not_true_eq_false, not_false_eq_true, Bool.not_eq_true', Bool.not_eq_false', beq_self_eq_true, Bool.not_true, Bool.not_false, List.getElem?_toArray, List.getElem?_cons_zero, List.getElem?_cons_succ, kp]
  refine (spec_validB_c V2 _ x (suiteS_mk (g0.mono l.ext) (g1.mono l.ext)) trivial).mono ?_
  rintro _ V3 ⟨rfl, he3⟩
  replace l := l.step he3
  simp (disch := omega) only [↓stp, vls, inf, frs, mark_eq, ↓reduceIte, Nat.reduceEqDiff, ite_tt, ite_ff, eq_self, and_true, true_and, and_self, implies_true, Bool.true_eq_false, Bool.false_eq_true, decide_true, decide_false, decide_eq_true_eq, decide_eq_false_iff_not, ne_eq, not_true_eq_false, not_false_eq_true, Bool.not_eq_true', Bool.not_eq_false', beq_self_eq_true, Bool.not_true, Bool.not_false, List.getElem?_toArray, List.getElem?_cons_zero, List.getElem?_cons_succ]
  have no : dropTC x id = false → ∃ (f0 : List Nat) (u0 : List Value), Value.tuple #[.agg #[.slice none 0 0, .slice none 0 0], .bool false] = .tuple #[.agg u0.toArray, .bool (dropTC x id && validB (addNY x id name))] ∧ ∀ W, Ext A W → Led A [oc suiteO f0 (sel (dropTC x id) (chk (addNY x id name))) u0] W := fun hc => by
    rw [hc]
    exact ⟨_, _, rfl, fun W hW => led_none hW⟩
  have zero : dropTC x id = false → ∀ {e : TypeId} {K : Value → View → Prop}, (∀ W, NewOcB A (Value.tuple #[.agg #[.slice none 0 0, .slice none 0 0], .bool false]) W (sel (dropTC x id) (chk (addNY x id name))) (dropTC x id && validB (addNY x id name)) → W.part ⟨q6, 0, none⟩ 2 = some [.slice none 0 0, .slice none 0 0] → K undef W) → astore Try.prog 30 (.pointer (some ⟨q6, 0, none⟩)) (.agg #[.slice none 0 0, .slice none 0 0]) V3 K := fun hc {e} {K} hK => by
    refine led_storeAll (d := [.slice none 0 0, .slice none 0 0]) l 0 rfl sz30 rfl rfl (by simp [Value.oneCell']) fun W l => ?_
    obtain ⟨f0, u0, h1, h2⟩ := no hc
    exact hK W ⟨f0, u0, h1, h2 W l.ext⟩ (l.part (i := 0) rfl rfl)
  clear no
  refine ⟨fun e1 => ?_, fun e1 => ?_⟩ <;> simp (disch := omega) only [↓stp, vls, inf, frs, mark_eq, ↓reduceIte, Nat.reduceEqDiff, ite_tt, ite_ff, eq_self, and_true, true_and, and_self, implies_true, Bool.true_eq_false, Bool.false_eq_true, decide_true, decide_false, decide_eq_true_eq, decide_eq_false_iff_not, ne_eq, not_true_eq_false, not_false_eq_true, Bool.not_eq_true', Bool.not_eq_false', beq_self_eq_true, Bool.not_true, Bool.not_false, List.getElem?_toArray, List.getElem?_cons_zero, List.getElem?_cons_succ, e1]
  rotate_left
  · simp (disch := omega) only [↓stp, vls, inf, frs, mark_eq, ↓reduceIte, Nat.reduceEqDiff, ite_tt, ite_ff, eq_self, and_true, true_and, and_self, implies_true, Bool.true_eq_false, Bool.false_eq_true, decide_true, decide_false, decide_eq_true_eq, decide_eq_false_iff_not, ne_eq, not_true_eq_false, not_false_eq_true, Bool.not_eq_true', Bool.not_eq_false', beq_self_eq_true, Bool.not_true, Bool.not_false, List.getElem?_toArray, List.getElem?_cons_zero, List.getElem?_cons_succ, bu0S]
    refine zero (by unfold dropTC; rw [e1]; rfl) (e := 0) fun W hW kp => ?_
    simp (disch := omega) only [↓stp, vls, inf, frs, mark_eq, ↓reduceIte, Nat.reduceEqDiff, ite_tt, ite_ff, eq_self, and_true, true_and, and_self, implies_true, Bool.true_eq_false, Bool.false_eq_true, decide_true, decide_false, decide_eq_true_eq, decide_eq_false_iff_not, ne_eq, not_true_eq_false, not_false_eq_true, Bool.not_eq_true', Bool.not_eq_false', beq_self_eq_true, Bool.not_true, Bool.not_false, List.getElem?_toArray, List.getElem?_cons_zero, List.getElem?_cons_succ, kp]
    exact hW
  refine ⟨fun e2 => ?_, fun e2 => ?_⟩ <;> simp (disch := omega) only [↓stp, vls, inf, frs, mark_eq, ↓reduceIte, Nat.reduceEqDiff, ite_tt, ite_ff, eq_self, and_true, true_and, and_self, implies_true, Bool.true_eq_false, Bool.false_eq_true, decide_true, decide_false, decide_eq_true_eq, decide_eq_false_iff_not, ne_eq, not_true_eq_false, not_false_eq_true, Bool.not_eq_true', Bool.not_eq_false', beq_self_eq_true, Bool.not_true, Bool.not_false, List.getElem?_toArray, List.getElem?_cons_zero, List.getElem?_cons_succ, e1]
  · simp (disch := omega) only [↓stp, vls, inf, frs, mark_eq, ↓reduceIte, Nat.reduceEqDiff, ite_tt, ite_ff, eq_self, and_true, true_and, and_self, implies_true, Bool.true_eq_false, Bool.false_eq_true, decide_true, decide_false, decide_eq_true_eq, decide_eq_false_iff_not, ne_eq, not_true_eq_false, not_false_eq_true, Bool.not_eq_true', Bool.not_eq_false', beq_self_eq_true, Bool.not_true, Bool.not_false, List.getElem?_toArray, List.getElem?_cons_zero, List.getElem?_cons_succ, bu0S]
    refine zero (by unfold dropTC; rw [e1, Bool.true_and]; exact decide_eq_false (by omega)) (e := 0) fun W hW kp => ?_
    simp (disch := omega) only [↓stp, vls, inf, frs, mark_eq, ↓reduceIte, Nat.reduceEqDiff, ite_tt, ite_ff, eq_self, and_true, true_and, and_self, implies_true, Bool.true_eq_false, Bool.false_eq_true, decide_true, decide_false, decide_eq_true_eq, decide_eq_false_iff_not, ne_eq, not_true_eq_false, not_false_eq_true, Bool.not_eq_true', Bool.not_eq_false', beq_self_eq_true, Bool.not_true, Bool.not_false, List.getElem?_toArray, List.getElem?_cons_zero, List.getElem?_cons_succ, kp]
    exact hW
  clear zero
  have hc : dropTC x id = true := by unfold dropTC; rw [e1, Bool.true_and]; exact decide_eq_true (by omega)
  have hF := (validB_parts e1).1
  have hfl := hF.fl
  have htl := hF.tl
  have k0 := l.cell (i := 1) rfl (o := 0) rfl rfl
  have k1 := l.cell (i := 1) rfl (o := 1) rfl rfl
  have kp : V3.part ⟨q, 0, none⟩ 2 = some _ := l.part (i := 1) rfl rfl
  obtain ⟨k, hk, hkn, hkl⟩ := findB_lt (xs := x.2.1) (id := id) (by omega)
  have hY : addNY x id name = (x.1, x.2.1.set k (adT x.2.1[k] name), ()) := by unfold addNY; rw [hkn, List.getD_eq_getElem?_getD, List.getElem?_eq_getElem hkl]; rfl
  rw [hk]
  rw [hc, hY]
  obtain ⟨ad, v2, v3, rfl, hclA, _, _, e2', e3'⟩ := g1.test hkl
  have hns := hF.ts _ (List.getElem_mem hkl)
  simp (disch := omega) only [↓stp, vls, inf, frs, mark_eq, ↓reduceIte, Nat.reduceEqDiff, ite_tt, ite_ff, eq_self, and_true, true_and, and_self, implies_true, Bool.true_eq_false, Bool.false_eq_true, decide_true, decide_false, decide_eq_true_eq, decide_eq_false_iff_not, ne_eq, not_true_eq_false, not_false_eq_true, Bool.not_eq_true', Bool.not_eq_false', beq_self_eq_true, Bool.not_true, Bool.not_false, List.getElem?_toArray, List.getElem?_cons_zero, List.getElem?_cons_succ, kp]
  refine (spec_copySuite_c V3 _ x (suiteS_mk (g0.mono l.ext) (g1.mono l.ext)) hF.small).mono ?_
  rintro _ V4 ⟨fq, cells, rfl, l1⟩
  obtain ⟨ff0, uu0, ff1, uu1, rfl, rfl, o0, o1⟩ := suiteO_open (show suiteO.rel V4 fq _ cells from l1.at (i := 0) rfl)
  obtain ⟨a3, c3, rfl, _, _⟩ := o0.toS.slice
  obtain ⟨b, cb, d1, d2, d3, f1, f2, f3, rfl, hcb, hd1, l1⟩ := ((l1.split2 (it1 := osl 83 fixtureO ff0 _ x.1) (it2 := osl 76 testO ff1 uu1 x.2.1) rfl o0 o1).perm (List.Perm.swap ..)).openAt hkl
  obtain ⟨gf, gu, gf3, gu3, rfl, rfl, z1, z2, og, og3⟩ := testO_open (show testO.rel V4 f2 x.2.1[k] d2 from l1.at (i := 1) rfl)
  replace l1 := ((l1.perm (List.Perm.swap ..)).split2 (it1 := osl 9 strO gf gu (x.2.1[k]).2.2.1) (it2 := osl 9 strO gf3 gu3 (x.2.1[k]).2.2.2.1) rfl og og3).sub (.cons_cons _ (.cons _ (List.Sublist.refl _)))
  replace l := l.append l1
  clear l1
  replace hd1 : d1.length = k * 4 := hd1
  simp (disch := omega) only [↓stp, vls, inf, frs, mark_eq, ↓reduceIte, Nat.reduceEqDiff, ite_tt, ite_ff, eq_self, and_true, true_and, and_self, implies_true, Bool.true_eq_false, Bool.false_eq_true, decide_true, decide_false, decide_eq_true_eq, decide_eq_false_iff_not, ne_eq, not_true_eq_false, not_false_eq_true, Bool.not_eq_true', Bool.not_eq_false', beq_self_eq_true, Bool.not_true, Bool.not_false, List.getElem?_toArray, List.getElem?_cons_zero, List.getElem?_cons_succ]
  refine led_alloc zc30 l fun q9 V5 _ l => ?_
  simp (disch := omega) only [↓stp, vls, inf, frs, mark_eq, ↓reduceIte, Nat.reduceEqDiff, ite_tt, ite_ff, eq_self, and_true, true_and, and_self, implies_true, Bool.true_eq_false, Bool.false_eq_true, decide_true, decide_false, decide_eq_true_eq, decide_eq_false_iff_not, ne_eq, not_true_eq_false, not_false_eq_true, Bool.not_eq_true', Bool.not_eq_false', beq_self_eq_true, Bool.not_true, Bool.not_false, List.getElem?_toArray, List.getElem?_cons_zero, List.getElem?_cons_succ]
  refine led_storeAll l 0 rfl sz30 rfl rfl (by simp [Value.oneCell']) fun V5 l => ?_
  have n1 := l.cell (i := 0) rfl (o := 1) rfl rfl
  have k1 := l.cell (i := 7) rfl (o := 1) rfl rfl
  have s3 := View.part_cell (l.ext.part hclA) (j := 3) rfl
  simp (disch := omega) only [↓stp, vls, inf, frs, mark_eq, ↓reduceIte, Nat.reduceEqDiff, ite_tt, ite_ff, eq_self, and_true, true_and, and_self, implies_true, Bool.true_eq_false, Bool.false_eq_true, decide_true, decide_false, decide_eq_true_eq, decide_eq_false_iff_not, ne_eq, not_true_eq_false, not_false_eq_true, Bool.not_eq_true', Bool.not_eq_false', beq_self_eq_true, Bool.not_true, Bool.not_false, List.getElem?_toArray, List.getElem?_cons_zero, List.getElem?_cons_succ]
  refine adraw_items [.q 0, .l 1 true, .q 2, .q 4, .l 5 false, .q 6, .q 7, .q 8, .l 9 false, .q 11, .c 3 [], .c 10 [1], .c 12 [], .c 13 [1], .q 14, .q 15, .c 16 []] (by kernel_rfl) (by kernel_rfl) ?_
  simp (disch := omega) only [↓stp, ↓pln, plv, nilOk, Nat.reduceBEq, Bool.or_false, Bool.or_true, Bool.false_or, Bool.true_or, vls, inf, frs, mark_eq, ↓reduceIte, Nat.reduceEqDiff, ite_tt, ite_ff, eq_self, and_true, true_and, and_self, implies_true, Bool.true_eq_false, Bool.false_eq_true, decide_true, decide_false, decide_eq_true_eq, decide_eq_false_iff_not, ne_eq, not_true_eq_false, not_false_eq_true, Bool.not_eq_true', Bool.not_eq_false', beq_self_eq_true, Bool.not_true, Bool.not_false, List.getElem?_toArray, List.getElem?_cons_zero, List.getElem?_cons_succ, add_at, n1, k1, s3]
  refine led_lit0 (O := strO) li42 l fun b1 V _ l => ?_
  have n1 := l.cell (i := 1) rfl (o := 1) rfl rfl
  have k1 := l.cell (i := 8) rfl (o := 1) rfl rfl
  have s3 := View.part_cell (l.ext.part hclA) (j := 3) rfl
  simp (disch := omega) only [↓stp, ↓pln, plv, nilOk, Nat.reduceBEq, Bool.or_false, Bool.or_true, Bool.false_or, Bool.true_or, vls, inf, frs, mark_eq, ↓reduceIte, Nat.reduceEqDiff, ite_tt, ite_ff, eq_self, and_true, true_and, and_self, implies_true, Bool.true_eq_false, Bool.false_eq_true, decide_true, decide_false, decide_eq_true_eq, decide_eq_false_iff_not, ne_eq, not_true_eq_false, not_false_eq_true, Bool.not_eq_true', Bool.not_eq_false', beq_self_eq_true, Bool.not_true, Bool.not_false, List.getElem?_toArray, List.getElem?_cons_zero, List.getElem?_cons_succ, add_at, n1, k1, s3, false_implies]
  refine led_app (O := strO) ap42_42 (by decide) l (i := 0) rfl (Sl.srcOf (e3'.mono l.ext)) (by rw [List.length_nil]; omega) fun fn wn V _ l => ?_
  rw [List.nil_append] at l
  have n1 := l.cell (i := 1) rfl (o := 1) rfl rfl
  have k1 := l.cell (i := 8) rfl (o := 1) rfl rfl
  have s3 := View.part_cell (l.ext.part hclA) (j := 3) rfl
  simp (disch := omega) only [↓stp, ↓pln, plv, nilOk, Nat.reduceBEq, Bool.or_false, Bool.or_true, Bool.false_or, Bool.true_or, vls, inf, frs, mark_eq, ↓reduceIte, Nat.reduceEqDiff, ite_tt, ite_ff, eq_self, and_true, true_and, and_self, implies_true, Bool.true_eq_false, Bool.false_eq_true, decide_true, decide_false, decide_eq_true_eq, decide_eq_false_iff_not, ne_eq, not_true_eq_false, not_false_eq_true, Bool.not_eq_true', Bool.not_eq_false', beq_self_eq_true, Bool.not_true, Bool.not_false, List.getElem?_toArray, List.getElem?_cons_zero, List.getElem?_cons_succ, add_at, n1, k1, s3, false_implies]
  refine led_lit li42 (by omega) rfl (fun p hp => by rcases List.mem_singleton.1 hp with rfl; exact ⟨rfl, rfl⟩) l fun bl V _ l => ?_
  have n1 := l.cell (i := 2) rfl (o := 1) rfl rfl
  have k1 := l.cell (i := 9) rfl (o := 1) rfl rfl
  have s3 := View.part_cell (l.ext.part hclA) (j := 3) rfl
  simp (disch := omega) only [↓stp, ↓pln, plv, nilOk, Nat.reduceBEq, Bool.or_false, Bool.or_true, Bool.false_or, Bool.true_or, vls, inf, frs, mark_eq, ↓reduceIte, Nat.reduceEqDiff, ite_tt, ite_ff, eq_self, and_true, true_and, and_self, implies_true, Bool.true_eq_false, Bool.false_eq_true, decide_true, decide_false, decide_eq_true_eq, decide_eq_false_iff_not, ne_eq, not_true_eq_false, not_false_eq_true, Bool.not_eq_true', Bool.not_eq_false', beq_self_eq_true, Bool.not_true, Bool.not_false, List.getElem?_toArray, List.getElem?_cons_zero, List.getElem?_cons_succ, add_at, n1, k1, s3, false_implies]
  refine led_app (O := strO) ap42_42 (by decide) l (i := 1) rfl (l.src1 (S := strS) (j := 0) rfl ⟨rfl, hz⟩) (by rw [List.length_singleton]; omega) fun fn wn V _ l => ?_
  obtain ⟨an, cn, rfl, _, _⟩ := (OSl.toS (show OSl 9 strO V fn wn _ from l.at (i := 1) rfl)).slice
  have n1 := l.cell (i := 2) rfl (o := 1) rfl rfl
  have k1 := l.cell (i := 9) rfl (o := 1) rfl rfl
  have s3 := View.part_cell (l.ext.part hclA) (j := 3) rfl
  simp (disch := omega) only [↓stp, ↓pln, plv, nilOk, Nat.reduceBEq, Bool.or_false, Bool.or_true, Bool.false_or, Bool.true_or, vls, inf, frs, mark_eq, ↓reduceIte, Nat.reduceEqDiff, ite_tt, ite_ff, eq_self, and_true, true_and, and_self, implies_true, Bool.true_eq_false, Bool.false_eq_true, decide_true, decide_false, decide_eq_true_eq, decide_eq_false_iff_not, ne_eq, not_true_eq_false, not_false_eq_true, Bool.not_eq_true', Bool.not_eq_false', beq_self_eq_true, Bool.not_true, Bool.not_false, List.getElem?_toArray, List.getElem?_cons_zero, List.getElem?_cons_succ, add_at, n1, k1, s3, false_implies]
  refine led_mid l 4 rfl sz42 (j := 3) (d' := [.string (x.2.1[k]).1, .string (x.2.1[k]).2.1, gu, .slice an ((x.2.1[k]).2.2.2.1 ++ [name]).length cn]) (by omega) ⟨rfl, rfl⟩ ⟨by simp, rfl⟩ fun W _ l => ?_
  have n1 := l.cell (i := 2) rfl (o := 1) rfl rfl
  have k1 := l.cell (i := 9) rfl (o := 1) rfl rfl
  have s3 := View.part_cell (l.ext.part hclA) (j := 3) rfl
  have kp : W.part ⟨q9, 0, none⟩ 2 = some [.slice a3 x.1.length c3, .slice (some ⟨b, 0, none⟩) x.2.1.length cb] := l.part (i := 2) rfl rfl
  simp (disch := omega) only [↓stp, ↓pln, plv, nilOk, Nat.reduceBEq, Bool.or_false, Bool.or_true, Bool.false_or, Bool.true_or, vls, inf, frs, mark_eq, ↓reduceIte, Nat.reduceEqDiff, ite_tt, ite_ff, eq_self, and_true, true_and, and_self, implies_true, Bool.true_eq_false, Bool.false_eq_true, decide_true, decide_false, decide_eq_true_eq, decide_eq_false_iff_not, ne_eq, not_true_eq_false, not_false_eq_true, Bool.not_eq_true', Bool.not_eq_false', beq_self_eq_true, Bool.not_true, Bool.not_false, List.getElem?_toArray, List.getElem?_cons_zero, List.getElem?_cons_succ, add_at, n1, k1, s3, false_implies]
  replace l := ((((l.sub (.cons _ (.cons_cons _ (.cons _ (List.Sublist.refl _))))).join2 (jt := oc testO (gf ++ fn) (adT x.2.1[k] name) [.string (x.2.1[k]).1, .string (x.2.1[k]).2.1, gu, .slice an ((x.2.1[k]).2.2.2.1 ++ [name]).length cn]) rfl (show testO.rel W (gf ++ fn) (adT x.2.1[k] name) _ from testO_mk (x := adT x.2.1[k] name) z1 z2 (l.at (i := 3) rfl) (l.at (i := 1) rfl)))).perm (List.Perm.swap ..)).closeAt hkl hcb (by omega)
  simp (disch := omega) only [↓stp, vls, inf, frs, mark_eq, ↓reduceIte, Nat.reduceEqDiff, ite_tt, ite_ff, eq_self, and_true, true_and, and_self, implies_true, Bool.true_eq_false, Bool.false_eq_true, decide_true, decide_false, decide_eq_true_eq, decide_eq_false_iff_not, ne_eq, not_true_eq_false, not_false_eq_true, Bool.not_eq_true', Bool.not_eq_false', beq_self_eq_true, Bool.not_true, Bool.not_false, List.getElem?_toArray, List.getElem?_cons_zero, List.getElem?_cons_succ, kp]
  refine (spec_checkedSuite_c W _ (x.1, x.2.1.set k (adT x.2.1[k] name), ()) (suiteS_mk (OSl.toS (l.at (i := 1) rfl)) (OSl.toS (l.at (i := 0) rfl)))).mono ?_
  rintro _ V6 ⟨fq, uq, rfl, l1⟩
  obtain ⟨ff2, uu2, ff3, uu3, rfl, rfl, o2, o3⟩ := suiteO_open (show suiteO.rel V6 fq _ uq from l1.at (i := 0) rfl)
  obtain ⟨a4, c4, rfl, _, _⟩ := o2.toS.slice
  obtain ⟨a5, c5, rfl, _, _⟩ := o3.toS.slice
  replace l := l.append l1
  simp (disch := omega) only [↓stp, vls, inf, frs, mark_eq, ↓reduceIte, Nat.reduceEqDiff, ite_tt, ite_ff, eq_self, and_true, true_and, and_self, implies_true, Bool.true_eq_false, Bool.false_eq_true, decide_true, decide_false, decide_eq_true_eq, decide_eq_false_iff_not, ne_eq, not_true_eq_false, not_false_eq_true, Bool.not_eq_true', Bool.not_eq_false', beq_self_eq_true, Bool.not_true, Bool.not_false, List.getElem?_toArray, List.getElem?_cons_zero, List.getElem?_cons_succ]
  refine led_storeAll l 3 rfl sz30 rfl rfl (by simp [Value.oneCell']) fun V7 l => ?_
  have kp : V7.part ⟨q6, 0, none⟩ 2 = some _ := l.part (i := 3) rfl rfl
  simp (disch := omega) only [↓stp, vls, inf, frs, mark_eq, ↓reduceIte, Nat.reduceEqDiff, ite_tt, ite_ff, eq_self, and_true, true_and, and_self, implies_true, Bool.true_eq_false, Bool.false_eq_true, decide_true, decide_false, decide_eq_true_eq, decide_eq_false_iff_not, ne_eq, not_true_eq_false, not_false_eq_true, Bool.not_eq_true', Bool.not_eq_false', beq_self_eq_true, Bool.not_true, Bool.not_false, List.getElem?_toArray, List.getElem?_cons_zero, List.getElem?_cons_succ, kp]
  exact ⟨_, _, rfl, l.sub (.cons_cons _ (List.nil_sublist _))⟩

end Go.Proofs.Ytfhodofbccljmaa

