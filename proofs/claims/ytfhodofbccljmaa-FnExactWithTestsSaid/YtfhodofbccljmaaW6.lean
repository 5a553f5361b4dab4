/- Suites changed: the program. -/
import Derived.Test.YtfhodofbccljmaaW5
set_option maxHeartbeats 4000000
set_option synthInstance.maxHeartbeats 400000
set_option synthInstance.maxSize 4096
set_option linter.unusedSimpArgs false
set_option linter.unusedVariables false
namespace Go.Proofs.Ytfhodofbccljmaa

set_option maxRecDepth 100000

theorem zero_store {A V : View} {L : List It} {q4 room : Nat} {K : Value → View → Prop} (l : Led A (bx q4 ⟨30, [.slice none 0 0, .slice none 0 0], room, true⟩ :: L) V) (hK : ∀ W, Ext A W → W.part ⟨q4, 0, none⟩ 2 = some [.slice none 0 0, .slice none 0 0] → K undef W) : astore Try.prog 30 (.pointer (some ⟨q4, 0, none⟩)) (.agg #[.slice none 0 0, .slice none 0 0]) V K := by
  refine led_storeAll (d := [.slice none 0 0, .slice none 0 0]) l 0 rfl sz30 rfl rfl (by simp [Value.oneCell']) fun W l => ?_
  exact hK W l.ext (l.part (i := 0) rfl rfl)
theorem valC_len (x : SuiteD) {d : List Value} (h : d.length = 2) : (valC x d).length = 2 := by
  unfold valC
  split
  · exact h
  · rfl
theorem valC_one (x : SuiteD) {d : List Value} (h : ∀ v ∈ d, v.oneCell' = true) : ∀ v ∈ valC x d, v.oneCell' = true := by
  unfold valC
  split
  · exact h
  · intro v hv
    simp only [List.mem_cons, List.not_mem_nil, or_false] at hv
    rcases hv with rfl | rfl <;> rfl

theorem impl_DropTest_c (A : View) (d : List Value) (x : SuiteD) (id : ByteArray) (h : suiteS.rel A x d) (hs0 : x.1.length ≤ 1048576) (hs1 : x.2.1.length ≤ 1048576) : ACalls Try.prog 17 #[.agg d.toArray, .string id] A fun r A' => NewOcB A r A' (sel (dropTC x id) (dropTY x id)) (dropTC x id) := by
  obtain ⟨u0, u1, rfl, g0, g1⟩ := suiteS_open h
  obtain ⟨a0, c0, rfl, _, _⟩ := g0.slice
  obtain ⟨a1, c1, rfl, _, _⟩ := g1.slice
  refine acalls Try.func17 rfl (by kernel_rfl) ?_
  simp (disch := omega) only [↓stp, vls, inf, frs, mark_eq, ↓reduceIte, Nat.reduceEqDiff, ite_tt, ite_ff, eq_self, and_true, true_and, and_self, implies_true, Bool.true_eq_false, Bool.false_eq_true, decide_true, decide_false, decide_eq_true_eq, decide_eq_false_iff_not, ne_eq, not_true_eq_false, not_false_eq_true, Bool.not_eq_true', Bool.not_eq_false', beq_self_eq_true, Bool.not_true, Bool.not_false, List.getElem?_toArray, List.getElem?_cons_zero, List.getElem?_cons_succ]
  refine led_box (Led.nil A) rfl fun q V he l => ?_
  simp (disch := omega) only [↓stp, vls, inf, frs, mark_eq, ↓reduceIte, Nat.reduceEqDiff, ite_tt, ite_ff, eq_self, and_true, true_and, and_self, implies_true, Bool.true_eq_false, Bool.false_eq_true, decide_true, decide_false, decide_eq_true_eq, decide_eq_false_iff_not, ne_eq, not_true_eq_false, not_false_eq_true, Bool.not_eq_true', Bool.not_eq_false', beq_self_eq_true, Bool.not_true, Bool.not_false, List.getElem?_toArray, List.getElem?_cons_zero, List.getElem?_cons_succ]
  refine led_alloc zc30 l fun q4 V he l => ?_
  have kp : V.part ⟨q, 0, none⟩ 2 = some _ := l.part (i := 1) rfl rfl
  simp (disch := omega) only [↓stp, vls, inf, frs, mark_eq, ↓reduceIte, Nat.reduceEqDiff, ite_tt, ite_ff, eq_self, and_true, true_and, and_self, implies_true, Bool.true_eq_false, Bool.false_eq_true, decide_true, decide_false, decide_eq_true_eq, decide_eq_false_iff_not, ne_eq, not_true_eq_false, not_false_eq_true, Bool.not_eq_true', Bool.not_eq_false', beq_self_eq_true, Bool.not_true, Bool.not_false, List.getElem?_toArray, List.getElem?_cons_zero, List.getElem?_cons_succ, kp]
  refine (impl_validB_c V _ x (suiteS_mk (g0.mono l.ext) (g1.mono l.ext)) (by omega) (by omega)).mono ?_
  rintro _ V2 ⟨rfl, he2⟩
  replace l := l.step he2
  have kp := he2.part kp
  have k1 := l.cell (i := 1) rfl (o := 1) rfl rfl
  simp (disch := omega) only [↓stp, vls, inf, frs, mark_eq, ↓reduceIte, Nat.reduceEqDiff, ite_tt, ite_ff, eq_self, and_true, true_and, and_self, implies_true, Bool.true_eq_false, Bool.false_eq_true, decide_true, decide_false, decide_eq_true_eq, decide_eq_false_iff_not, ne_eq, not_true_eq_false, not_false_eq_true, Bool.not_eq_true', Bool.not_eq_false', beq_self_eq_true, Bool.not_true, Bool.not_false, List.getElem?_toArray, List.getElem?_cons_zero, List.getElem?_cons_succ]
  refine ⟨fun e1 => ?_, fun e1 => ?_⟩
  · rw [show dropTC x id = false from by unfold dropTC; rw [e1]; rfl]
    simp (disch := omega) only [↓stp, vls, inf, frs, mark_eq, ↓reduceIte, Nat.reduceEqDiff, ite_tt, ite_ff, eq_self, and_true, true_and, and_self, implies_true, Bool.true_eq_false, Bool.false_eq_true, decide_true, decide_false, decide_eq_true_eq, decide_eq_false_iff_not, ne_eq, not_true_eq_false, not_false_eq_true, Bool.not_eq_true', Bool.not_eq_false', beq_self_eq_true, Bool.not_true, Bool.not_false, List.getElem?_toArray, List.getElem?_cons_zero, List.getElem?_cons_succ, bu0S]
    refine zero_store l fun W hW kp => ?_
    simp (disch := omega) only [↓stp, vls, inf, frs, mark_eq, ↓reduceIte, Nat.reduceEqDiff, ite_tt, ite_ff, eq_self, and_true, true_and, and_self, implies_true, Bool.true_eq_false, Bool.false_eq_true, decide_true, decide_false, decide_eq_true_eq, decide_eq_false_iff_not, ne_eq, not_true_eq_false, not_false_eq_true, Bool.not_eq_true', Bool.not_eq_false', beq_self_eq_true, Bool.not_true, Bool.not_false, List.getElem?_toArray, List.getElem?_cons_zero, List.getElem?_cons_succ, kp]
    exact ⟨_, _, rfl, led_none hW⟩
  simp (disch := omega) only [↓stp, vls, inf, frs, mark_eq, ↓reduceIte, Nat.reduceEqDiff, ite_tt, ite_ff, eq_self, and_true, true_and, and_self, implies_true, Bool.true_eq_false, Bool.false_eq_true, decide_true, decide_false, decide_eq_true_eq, decide_eq_false_iff_not, ne_eq, not_true_eq_false, not_false_eq_true, Bool.not_eq_true', Bool.not_eq_false', beq_self_eq_true, Bool.not_true, Bool.not_false, List.getElem?_toArray, List.getElem?_cons_zero, List.getElem?_cons_succ, add_at, k1]
  refine (impl_FindTest_c V2 _ x.2.1 id (g1.mono l.ext) (by omega)).mono ?_
  rintro _ V3 ⟨rfl, he3⟩
  rw [findV_of e1]
  replace l := l.step he3
  simp (disch := omega) only [↓stp, vls, inf, frs, mark_eq, ↓reduceIte, Nat.reduceEqDiff, ite_tt, ite_ff, eq_self, and_true, true_and, and_self, implies_true, Bool.true_eq_false, Bool.false_eq_true, decide_true, decide_false, decide_eq_true_eq, decide_eq_false_iff_not, ne_eq, not_true_eq_false, not_false_eq_true, Bool.not_eq_true', Bool.not_eq_false', beq_self_eq_true, Bool.not_true, Bool.not_false, List.getElem?_toArray, List.getElem?_cons_zero, List.getElem?_cons_succ]
  refine ⟨fun e2 => ?_, fun e2 => ?_⟩
  · rw [show dropTC x id = false from by unfold dropTC; rw [e1, Bool.true_and]; exact decide_eq_false (by omega)]
    simp (disch := omega) only [↓stp, vls, inf, frs, mark_eq, ↓reduceIte, Nat.reduceEqDiff, ite_tt, ite_ff, eq_self, and_true, true_and, and_self, implies_true, Bool.true_eq_false, Bool.false_eq_true, decide_true, decide_false, decide_eq_true_eq, decide_eq_false_iff_not, ne_eq, not_true_eq_false, not_false_eq_true, Bool.not_eq_true', Bool.not_eq_false', beq_self_eq_true, Bool.not_true, Bool.not_false, List.getElem?_toArray, List.getElem?_cons_zero, List.getElem?_cons_succ, bu0S]
    refine zero_store l fun W hW kp => ?_
    simp (disch := omega) only [↓stp, vls, inf, frs, mark_eq, ↓reduceIte, Nat.reduceEqDiff, ite_tt, ite_ff, eq_self, and_true, true_and, and_self, implies_true, Bool.true_eq_false, Bool.false_eq_true, decide_true, decide_false, decide_eq_true_eq, decide_eq_false_iff_not, ne_eq, not_true_eq_false, not_false_eq_true, Bool.not_eq_true', Bool.not_eq_false', beq_self_eq_true, Bool.not_true, Bool.not_false, List.getElem?_toArray, List.getElem?_cons_zero, List.getElem?_cons_succ, kp]
    exact ⟨_, _, rfl, led_none hW⟩
  obtain ⟨k, hk, hkn, hkl⟩ := findB_lt (xs := x.2.1) (id := id) (by omega)
  have hc : dropTC x id = true := by unfold dropTC; rw [e1, Bool.true_and]; exact decide_eq_true (by omega)
  have hF := (validB_parts e1).1
  have hfl := hF.fl
  have htl := hF.tl
  have kp : V3.part ⟨q, 0, none⟩ 2 = some _ := l.part (i := 1) rfl rfl
  have hY : dropTY x id = (x.1, x.2.1.take k ++ x.2.1.drop (k + 1), ()) := by unfold dropTY; rw [hkn]
  have hsm : Small (x.1, x.2.1.take k ++ x.2.1.drop (k + 1), ()) := hF.small.tests (by rw [List.length_append, List.length_take, List.length_drop]; omega) fun t ht => by
    rcases List.mem_append.1 ht with ht | ht
    · exact List.mem_of_mem_take ht
    · exact List.mem_of_mem_drop ht
  rw [hk]
  rw [hc, hY]
  simp (disch := omega) only [↓stp, vls, inf, frs, mark_eq, ↓reduceIte, Nat.reduceEqDiff, ite_tt, ite_ff, eq_self, and_true, true_and, and_self, implies_true, Bool.true_eq_false, Bool.false_eq_true, decide_true, decide_false, decide_eq_true_eq, decide_eq_false_iff_not, ne_eq, not_true_eq_false, not_false_eq_true, Bool.not_eq_true', Bool.not_eq_false', beq_self_eq_true, Bool.not_true, Bool.not_false, List.getElem?_toArray, List.getElem?_cons_zero, List.getElem?_cons_succ, kp]
  refine (impl_copySuite_c V3 _ x (suiteS_mk (g0.mono l.ext) (g1.mono l.ext)) hF.small).mono ?_
  rintro _ V4 ⟨fq, cells, rfl, l1⟩
  obtain ⟨ff0, uu0, ff1, uu1, rfl, rfl, o0, o1⟩ := suiteO_open (show suiteO.rel V4 fq _ cells from l1.at (i := 0) rfl)
  obtain ⟨a2, c2, rfl, _, _⟩ := o0.toS.slice
  obtain ⟨a3, c3, rfl, _, _⟩ := o1.toS.slice
  replace l := l.append (l1.split2 (it1 := osl 83 fixtureO ff0 _ x.1) (it2 := osl 76 testO ff1 _ x.2.1) rfl o0 o1)
  simp (disch := omega) only [↓stp, vls, inf, frs, mark_eq, ↓reduceIte, Nat.reduceEqDiff, ite_tt, ite_ff, eq_self, and_true, true_and, and_self, implies_true, Bool.true_eq_false, Bool.false_eq_true, decide_true, decide_false, decide_eq_true_eq, decide_eq_false_iff_not, ne_eq, not_true_eq_false, not_false_eq_true, Bool.not_eq_true', Bool.not_eq_false', beq_self_eq_true, Bool.not_true, Bool.not_false, List.getElem?_toArray, List.getElem?_cons_zero, List.getElem?_cons_succ]
  refine led_alloc zc30 l fun q9 V5 _ l => ?_
  simp (disch := omega) only [↓stp, vls, inf, frs, mark_eq, ↓reduceIte, Nat.reduceEqDiff, ite_tt, ite_ff, eq_self, and_true, true_and, and_self, implies_true, Bool.true_eq_false, Bool.false_eq_true, decide_true, decide_false, decide_eq_true_eq, decide_eq_false_iff_not, ne_eq, not_true_eq_false, not_false_eq_true, Bool.not_eq_true', Bool.not_eq_false', beq_self_eq_true, Bool.not_true, Bool.not_false, List.getElem?_toArray, List.getElem?_cons_zero, List.getElem?_cons_succ]
  refine led_storeAll l 0 rfl sz30 rfl rfl (by simp [Value.oneCell']) fun V5 l => ?_
  have n1 := l.cell (i := 0) rfl (o := 1) rfl rfl
  simp (disch := omega) only [↓stp, vls, inf, frs, mark_eq, ↓reduceIte, Nat.reduceEqDiff, ite_tt, ite_ff, eq_self, and_true, true_and, and_self, implies_true, Bool.true_eq_false, Bool.false_eq_true, decide_true, decide_false, decide_eq_true_eq, decide_eq_false_iff_not, ne_eq, not_true_eq_false, not_false_eq_true, Bool.not_eq_true', Bool.not_eq_false', beq_self_eq_true, Bool.not_true, Bool.not_false, List.getElem?_toArray, List.getElem?_cons_zero, List.getElem?_cons_succ, add_at, n1]
  refine (led_deleteTest l (m := 2) (k := k) rfl hkl (by omega)).mono ?_
  rintro r V6 ⟨fd, l⟩
  obtain ⟨ar, cr, rfl, _, _⟩ := (OSl.toS (show OSl 76 testO V6 fd r _ from l.at (i := 2) rfl)).slice
  simp (disch := omega) only [↓stp, vls, inf, frs, mark_eq, ↓reduceIte, Nat.reduceEqDiff, ite_tt, ite_ff, eq_self, and_true, true_and, and_self, implies_true, Bool.true_eq_false, Bool.false_eq_true, decide_true, decide_false, decide_eq_true_eq, decide_eq_false_iff_not, ne_eq, not_true_eq_false, not_false_eq_true, Bool.not_eq_true', Bool.not_eq_false', beq_self_eq_true, Bool.not_true, Bool.not_false, List.getElem?_toArray, List.getElem?_cons_zero, List.getElem?_cons_succ, add_at]
  refine led_store l 0 rfl sz28 (by rfl) (by rfl) (by rfl) fun W l => ?_
  have kp : W.part ⟨q9, 0, none⟩ 2 = some [.slice a2 x.1.length c2, .slice ar (x.2.1.take k ++ x.2.1.drop (k + 1)).length cr] := l.part (i := 0) rfl rfl
  simp (disch := omega) only [↓stp, vls, inf, frs, mark_eq, ↓reduceIte, Nat.reduceEqDiff, ite_tt, ite_ff, eq_self, and_true, true_and, and_self, implies_true, Bool.true_eq_false, Bool.false_eq_true, decide_true, decide_false, decide_eq_true_eq, decide_eq_false_iff_not, ne_eq, not_true_eq_false, not_false_eq_true, Bool.not_eq_true', Bool.not_eq_false', beq_self_eq_true, Bool.not_true, Bool.not_false, List.getElem?_toArray, List.getElem?_cons_zero, List.getElem?_cons_succ, kp]
  refine (impl_copySuite_c W _ (x.1, x.2.1.take k ++ x.2.1.drop (k + 1), ()) (suiteS_mk (OSl.toS (l.at (i := 1) rfl)) (OSl.toS (l.at (i := 2) rfl))) hsm).mono ?_
  rintro _ V6 ⟨fq, uq, rfl, l1⟩
  obtain ⟨ff2, uu2, ff3, uu3, rfl, rfl, o2, o3⟩ := suiteO_open (show suiteO.rel V6 fq _ uq from l1.at (i := 0) rfl)
  obtain ⟨a4, c4, rfl, _, _⟩ := o2.toS.slice
  obtain ⟨a5, c5, rfl, _, _⟩ := o3.toS.slice
  replace l := l.append l1
  simp (disch := omega) only [↓stp, vls, inf, frs, mark_eq, ↓reduceIte, Nat.reduceEqDiff, ite_tt, ite_ff, eq_self, and_true, true_and, and_self, implies_true, Bool.true_eq_false, Bool.false_eq_true, decide_true, decide_false, decide_eq_true_eq, decide_eq_false_iff_not, ne_eq, not_true_eq_false, not_false_eq_true, Bool.not_eq_true', Bool.not_eq_false', beq_self_eq_true, Bool.not_true, Bool.not_false, List.getElem?_toArray, List.getElem?_cons_zero, List.getElem?_cons_succ]
  refine led_storeAll l 4 rfl sz30 rfl rfl (by simp [Value.oneCell']) fun V7 l => ?_
  have kp : V7.part ⟨q4, 0, none⟩ 2 = some _ := l.part (i := 4) rfl rfl
  simp (disch := omega) only [↓stp, vls, inf, frs, mark_eq, ↓reduceIte, Nat.reduceEqDiff, ite_tt, ite_ff, eq_self, and_true, true_and, and_self, implies_true, Bool.true_eq_false, Bool.false_eq_true, decide_true, decide_false, decide_eq_true_eq, decide_eq_false_iff_not, ne_eq, not_true_eq_false, not_false_eq_true, Bool.not_eq_true', Bool.not_eq_false', beq_self_eq_true, Bool.not_true, Bool.not_false, List.getElem?_toArray, List.getElem?_cons_zero, List.getElem?_cons_succ, kp]
  exact ⟨_, _, rfl, l.sub (.cons_cons _ (List.nil_sublist _))⟩

theorem impl_SetScope_c (A : View) (d : List Value) (x : SuiteD) (name : ByteArray) (sc : Int) (hsc : -9223372036854775808 ≤ sc ∧ sc < 9223372036854775808) (h : suiteS.rel A x d) (hs0 : x.1.length ≤ 1048576) (hs1 : x.2.1.length ≤ 1048576) : ACalls Try.prog 46 #[.agg d.toArray, .string name, .int .i64 sc] A fun r A' => NewOcB A r A' (sel (withC x name) (chk (setScY x name sc))) (withC x name && validB (setScY x name sc)) := by
  obtain ⟨u0, u1, rfl, g0, g1⟩ := suiteS_open h
  obtain ⟨a0, c0, rfl, _, _⟩ := g0.slice
  obtain ⟨a1, c1, rfl, _, _⟩ := g1.slice
  refine acalls Try.func46 rfl (by kernel_rfl) ?_
  simp (disch := omega) only [↓stp, vls, inf, frs, mark_eq, ↓reduceIte, Nat.reduceEqDiff, ite_tt, ite_ff, eq_self, and_true, true_and, and_self, implies_true, Bool.true_eq_false, Bool.false_eq_true, decide_true, decide_false, decide_eq_true_eq, decide_eq_false_iff_not, ne_eq, not_true_eq_false, not_false_eq_true, Bool.not_eq_true', Bool.not_eq_false', beq_self_eq_true, Bool.not_true, Bool.not_false, List.getElem?_toArray, List.getElem?_cons_zero, List.getElem?_cons_succ]
  refine led_box (Led.nil A) rfl fun q V he l => ?_
  simp (disch := omega) only [↓stp, vls, inf, frs, mark_eq, ↓reduceIte, Nat.reduceEqDiff, ite_tt, ite_ff, eq_self, and_true, true_and, and_self, implies_true, Bool.true_eq_false, Bool.false_eq_true, decide_true, decide_false, decide_eq_true_eq, decide_eq_false_iff_not, ne_eq, not_true_eq_false, not_false_eq_true, Bool.not_eq_true', Bool.not_eq_false', beq_self_eq_true, Bool.not_true, Bool.not_false, List.getElem?_toArray, List.getElem?_cons_zero, List.getElem?_cons_succ]
  refine led_alloc zc30 l fun q6 V he l => ?_
  have kp : V.part ⟨q, 0, none⟩ 2 = some _ := l.part (i := 1) rfl rfl
  simp (disch := omega) only [↓stp, vls, inf, frs, mark_eq, ↓reduceIte, Nat.reduceEqDiff, ite_tt, ite_ff, eq_self, and_true, true_and, and_self, implies_true, Bool.true_eq_false, Bool.false_eq_true, decide_true, decide_false, decide_eq_true_eq, decide_eq_false_iff_not, ne_eq, not_true_eq_false, not_false_eq_true, Bool.not_eq_true', Bool.not_eq_false', beq_self_eq_true, Bool.not_true, Bool.not_false, List.getElem?_toArray, List.getElem?_cons_zero, List.getElem?_cons_succ, kp]
  refine (impl_validB_c V _ x (suiteS_mk (g0.mono l.ext) (g1.mono l.ext)) (by omega) (by omega)).mono ?_
  rintro _ V2 ⟨rfl, he2⟩
  replace l := l.step he2
  have kp := he2.part kp
  have k1 := l.cell (i := 1) rfl (o := 1) rfl rfl
  simp (disch := omega) only [↓stp, vls, inf, frs, mark_eq, ↓reduceIte, Nat.reduceEqDiff, ite_tt, ite_ff, eq_self, and_true, true_and, and_self, implies_true, Bool.true_eq_false, Bool.false_eq_true, decide_true, decide_false, decide_eq_true_eq, decide_eq_false_iff_not, ne_eq, not_true_eq_false, not_false_eq_true, Bool.not_eq_true', Bool.not_eq_false', beq_self_eq_true, Bool.not_true, Bool.not_false, List.getElem?_toArray, List.getElem?_cons_zero, List.getElem?_cons_succ, kp]
  refine ⟨fun e1 => ?_, fun e1 => ?_⟩ <;> simp (disch := omega) only [↓stp, vls, inf, frs, mark_eq, ↓reduceIte, Nat.reduceEqDiff, ite_tt, ite_ff, eq_self, and_true, true_and, and_self, implies_true, Bool.true_eq_false, Bool.false_eq_true, decide_true, decide_false, decide_eq_true_eq, decide_eq_false_iff_not, ne_eq, not_true_eq_false, not_false_eq_true, Bool.not_eq_true', Bool.not_eq_false', beq_self_eq_true, Bool.not_true, Bool.not_false, List.getElem?_toArray, List.getElem?_cons_zero, List.getElem?_cons_succ, e1, kp]
  rotate_left
  · rw [show withC x name = false from by unfold withC; rw [e1]; rfl]
    simp (disch := omega) only [↓stp, vls, inf, frs, mark_eq, ↓reduceIte, Nat.reduceEqDiff, ite_tt, ite_ff, eq_self, and_true, true_and, and_self, implies_true, Bool.true_eq_false, Bool.false_eq_true, decide_true, decide_false, decide_eq_true_eq, decide_eq_false_iff_not, ne_eq, not_true_eq_false, not_false_eq_true, Bool.not_eq_true', Bool.not_eq_false', beq_self_eq_true, Bool.not_true, Bool.not_false, List.getElem?_toArray, List.getElem?_cons_zero, List.getElem?_cons_succ, bu0S]
    refine zero_store l fun W hW kp => ?_
    simp (disch := omega) only [↓stp, vls, inf, frs, mark_eq, ↓reduceIte, Nat.reduceEqDiff, ite_tt, ite_ff, eq_self, and_true, true_and, and_self, implies_true, Bool.true_eq_false, Bool.false_eq_true, decide_true, decide_false, decide_eq_true_eq, decide_eq_false_iff_not, ne_eq, not_true_eq_false, not_false_eq_true, Bool.not_eq_true', Bool.not_eq_false', beq_self_eq_true, Bool.not_true, Bool.not_false, List.getElem?_toArray, List.getElem?_cons_zero, List.getElem?_cons_succ, kp]
    exact ⟨_, _, rfl, led_none hW⟩
  refine (impl_fixtureAt_c V2 _ x name (suiteS_mk (g0.mono l.ext) (g1.mono l.ext))).mono ?_
  rintro _ V3 ⟨rfl, he3⟩
  replace l := l.step he3
  simp (disch := omega) only [↓stp, vls, inf, frs, mark_eq, ↓reduceIte, Nat.reduceEqDiff, ite_tt, ite_ff, eq_self, and_true, true_and, and_self, implies_true, Bool.true_eq_false, Bool.false_eq_true, decide_true, decide_false, decide_eq_true_eq, decide_eq_false_iff_not, ne_eq, not_true_eq_false, not_false_eq_true, Bool.not_eq_true', Bool.not_eq_false', beq_self_eq_true, Bool.not_true, Bool.not_false, List.getElem?_toArray, List.getElem?_cons_zero, List.getElem?_cons_succ, e1]
  refine ⟨fun e2 => ?_, fun e2 => ?_⟩
  · rw [show withC x name = false from by unfold withC; rw [e1, Bool.true_and]; exact decide_eq_false (by omega)]
    simp (disch := omega) only [↓stp, vls, inf, frs, mark_eq, ↓reduceIte, Nat.reduceEqDiff, ite_tt, ite_ff, eq_self, and_true, true_and, and_self, implies_true, Bool.true_eq_false, Bool.false_eq_true, decide_true, decide_false, decide_eq_true_eq, decide_eq_false_iff_not, ne_eq, not_true_eq_false, not_false_eq_true, Bool.not_eq_true', Bool.not_eq_false', beq_self_eq_true, Bool.not_true, Bool.not_false, List.getElem?_toArray, List.getElem?_cons_zero, List.getElem?_cons_succ, bu0S]
    refine zero_store l fun W hW kp => ?_
    simp (disch := omega) only [↓stp, vls, inf, frs, mark_eq, ↓reduceIte, Nat.reduceEqDiff, ite_tt, ite_ff, eq_self, and_true, true_and, and_self, implies_true, Bool.true_eq_false, Bool.false_eq_true, decide_true, decide_false, decide_eq_true_eq, decide_eq_false_iff_not, ne_eq, not_true_eq_false, not_false_eq_true, Bool.not_eq_true', Bool.not_eq_false', beq_self_eq_true, Bool.not_true, Bool.not_false, List.getElem?_toArray, List.getElem?_cons_zero, List.getElem?_cons_succ, kp]
    exact ⟨_, _, rfl, led_none hW⟩
  obtain ⟨k, hk, hkn, hkl⟩ := fAt_lt (xs := x.1) (name := name) (by omega)
  have hc : withC x name = true := by unfold withC; rw [e1, Bool.true_and]; exact decide_eq_true (by omega)
  have hF := (validB_parts e1).1
  have hfl := hF.fl
  have htl := hF.tl
  have kp : V3.part ⟨q, 0, none⟩ 2 = some _ := l.part (i := 1) rfl rfl
  have hY : setScY x name sc = (x.1.set k (scF x.1[k] sc), x.2.1, ()) := by unfold setScY; rw [hkn, List.getD_eq_getElem?_getD, List.getElem?_eq_getElem hkl]; rfl
  have hl0 : (x.1.set k (scF x.1[k] sc)).length ≤ 16777215 := by rw [List.length_set]; omega
  have hl1 : x.2.1.length ≤ 16777215 := by omega
  rw [hk]
  rw [hc, hY]
  simp (disch := omega) only [↓stp, vls, inf, frs, mark_eq, ↓reduceIte, Nat.reduceEqDiff, ite_tt, ite_ff, eq_self, and_true, true_and, and_self, implies_true, Bool.true_eq_false, Bool.false_eq_true, decide_true, decide_false, decide_eq_true_eq, decide_eq_false_iff_not, ne_eq, not_true_eq_false, not_false_eq_true, Bool.not_eq_true', Bool.not_eq_false', beq_self_eq_true, Bool.not_true, Bool.not_false, List.getElem?_toArray, List.getElem?_cons_zero, List.getElem?_cons_succ, kp]
  refine (impl_copySuite_c V3 _ x (suiteS_mk (g0.mono l.ext) (g1.mono l.ext)) hF.small).mono ?_
  rintro _ V4 ⟨fq, cells, rfl, l1⟩
  obtain ⟨ff0, uu0, ff1, uu1, rfl, rfl, o0, o1⟩ := suiteO_open (show suiteO.rel V4 fq _ cells from l1.at (i := 0) rfl)
  obtain ⟨a3, c3, rfl, _, _⟩ := o1.toS.slice
  obtain ⟨b, cb, d1, d2, d3, f1, f2, f3, rfl, hcb, hd1, l1⟩ := (l1.split2 (it1 := osl 83 fixtureO ff0 uu0 x.1) (it2 := osl 76 testO ff1 _ x.2.1) rfl o0 o1).openAt hkl
  obtain ⟨gf, gu, rfl, rfl, z1, z2, og⟩ := fixtureO_open (show fixtureO.rel V4 f2 x.1[k] d2 from l1.at (i := 1) rfl)
  replace l1 := l1.upd (i := 1) (jt := osl 9 strO gf gu (x.1[k]).2.2.1) rfl rfl (Only.refl _ _) og
  replace l := l.append l1
  clear l1
  replace hd1 : d1.length = k * 4 := hd1
  simp (disch := omega) only [↓stp, vls, inf, frs, mark_eq, ↓reduceIte, Nat.reduceEqDiff, ite_tt, ite_ff, eq_self, and_true, true_and, and_self, implies_true, Bool.true_eq_false, Bool.false_eq_true, decide_true, decide_false, decide_eq_true_eq, decide_eq_false_iff_not, ne_eq, not_true_eq_false, not_false_eq_true, Bool.not_eq_true', Bool.not_eq_false', beq_self_eq_true, Bool.not_true, Bool.not_false, List.getElem?_toArray, List.getElem?_cons_zero, List.getElem?_cons_succ]
  refine led_alloc zc30 l fun q9 V5 _ l => ?_
  simp (disch := omega) only [↓stp, vls, inf, frs, mark_eq, ↓reduceIte, Nat.reduceEqDiff, ite_tt, ite_ff, eq_self, and_true, true_and, and_self, implies_true, Bool.true_eq_false, Bool.false_eq_true, decide_true, decide_false, decide_eq_true_eq, decide_eq_false_iff_not, ne_eq, not_true_eq_false, not_false_eq_true, Bool.not_eq_true', Bool.not_eq_false', beq_self_eq_true, Bool.not_true, Bool.not_false, List.getElem?_toArray, List.getElem?_cons_zero, List.getElem?_cons_succ]
  refine led_storeAll l 0 rfl sz30 rfl rfl (by simp [Value.oneCell']) fun V5 l => ?_
  have n0 := l.cell (i := 0) rfl (o := 0) rfl rfl
  have kp : V5.part ⟨q, 0, none⟩ 2 = some _ := l.part (i := 7) rfl rfl
  simp (disch := omega) only [↓stp, vls, inf, frs, mark_eq, ↓reduceIte, Nat.reduceEqDiff, ite_tt, ite_ff, eq_self, and_true, true_and, and_self, implies_true, Bool.true_eq_false, Bool.false_eq_true, decide_true, decide_false, decide_eq_true_eq, decide_eq_false_iff_not, ne_eq, not_true_eq_false, not_false_eq_true, Bool.not_eq_true', Bool.not_eq_false', beq_self_eq_true, Bool.not_true, Bool.not_false, List.getElem?_toArray, List.getElem?_cons_zero, List.getElem?_cons_succ]
  refine adraw_items [.q 0, .l 1 true, .l 2 false, .q 3, .q 5, .c 4 [1], .q 6, .q 7, .c 8 []] (by kernel_rfl) (by kernel_rfl) ?_
  simp (disch := omega) only [↓stp, ↓pln, plv, nilOk, Nat.reduceBEq, Bool.or_false, Bool.or_true, Bool.false_or, Bool.true_or, vls, inf, frs, mark_eq, ↓reduceIte, Nat.reduceEqDiff, ite_tt, ite_ff, eq_self, and_true, true_and, and_self, implies_true, Bool.true_eq_false, Bool.false_eq_true, decide_true, decide_false, decide_eq_true_eq, decide_eq_false_iff_not, ne_eq, not_true_eq_false, not_false_eq_true, Bool.not_eq_true', Bool.not_eq_false', beq_self_eq_true, Bool.not_true, Bool.not_false, List.getElem?_toArray, List.getElem?_cons_zero, List.getElem?_cons_succ, add_at, n0, kp]
  refine (impl_fixtureAt_c V5 _ x name (suiteS_mk (g0.mono l.ext) (g1.mono l.ext))).mono ?_
  rintro _ V6 ⟨rfl, he6⟩
  rw [hk]
  replace l := l.step he6
  have n0 := l.cell (i := 0) rfl (o := 0) rfl rfl
  have kp : V6.part ⟨q, 0, none⟩ 2 = some _ := l.part (i := 7) rfl rfl
  simp (disch := omega) only [↓stp, ↓pln, plv, nilOk, Nat.reduceBEq, Bool.or_false, Bool.or_true, Bool.false_or, Bool.true_or, vls, inf, frs, mark_eq, ↓reduceIte, Nat.reduceEqDiff, ite_tt, ite_ff, eq_self, and_true, true_and, and_self, implies_true, Bool.true_eq_false, Bool.false_eq_true, decide_true, decide_false, decide_eq_true_eq, decide_eq_false_iff_not, ne_eq, not_true_eq_false, not_false_eq_true, Bool.not_eq_true', Bool.not_eq_false', beq_self_eq_true, Bool.not_true, Bool.not_false, List.getElem?_toArray, List.getElem?_cons_zero, List.getElem?_cons_succ, add_at, n0, kp]
  refine led_mid l 1 rfl sz3 (j := 1) (d' := [.string (x.1[k]).1, .int .i64 sc, gu, .bool (x.1[k]).2.2.2.1]) (by omega) ⟨rfl, rfl⟩ ⟨by simp, rfl⟩ fun W _ l => ?_
  have n0 := l.cell (i := 0) rfl (o := 0) rfl rfl
  have kp : W.part ⟨q, 0, none⟩ 2 = some _ := l.part (i := 7) rfl rfl
  simp (disch := omega) only [↓stp, ↓pln, plv, nilOk, Nat.reduceBEq, Bool.or_false, Bool.or_true, Bool.false_or, Bool.true_or, vls, inf, frs, mark_eq, ↓reduceIte, Nat.reduceEqDiff, ite_tt, ite_ff, eq_self, and_true, true_and, and_self, implies_true, Bool.true_eq_false, Bool.false_eq_true, decide_true, decide_false, decide_eq_true_eq, decide_eq_false_iff_not, ne_eq, not_true_eq_false, not_false_eq_true, Bool.not_eq_true', Bool.not_eq_false', beq_self_eq_true, Bool.not_true, Bool.not_false, List.getElem?_toArray, List.getElem?_cons_zero, List.getElem?_cons_succ, add_at, n0, kp, false_implies]
  have kp : W.part ⟨q9, 0, none⟩ 2 = some [.slice (some ⟨b, 0, none⟩) x.1.length cb, .slice a3 x.2.1.length c3] := l.part (i := 0) rfl rfl
  replace l := (l.tail.upd (i := 1) (jt := oc fixtureO gf (scF x.1[k] sc) [.string (x.1[k]).1, .int .i64 sc, gu, .bool (x.1[k]).2.2.2.1]) rfl rfl (Only.refl _ _) (show fixtureO.rel W gf (scF x.1[k] sc) _ from fixtureO_mk (x := scF x.1[k] sc) z1 hsc (l.at (i := 2) rfl))).closeAt hkl hcb (by omega)
  replace l := (l.perm (List.Perm.swap ..)).join2 (jt := oc suiteO _ (x.1.set k (scF x.1[k] sc), x.2.1, ()) [.slice (some ⟨b, 0, none⟩) x.1.length cb, .slice a3 x.2.1.length c3]) rfl (suiteO_mk (x := (x.1.set k (scF x.1[k] sc), x.2.1, ())) (l.at (i := 0) rfl) (l.at (i := 1) rfl))
  simp (disch := omega) only [↓stp, vls, inf, frs, mark_eq, ↓reduceIte, Nat.reduceEqDiff, ite_tt, ite_ff, eq_self, and_true, true_and, and_self, implies_true, Bool.true_eq_false, Bool.false_eq_true, decide_true, decide_false, decide_eq_true_eq, decide_eq_false_iff_not, ne_eq, not_true_eq_false, not_false_eq_true, Bool.not_eq_true', Bool.not_eq_false', beq_self_eq_true, Bool.not_true, Bool.not_false, List.getElem?_toArray, List.getElem?_cons_zero, List.getElem?_cons_succ, kp]
  refine (impl_validated_c W _ (x.1.set k (scF x.1[k] sc), x.2.1, ()) (suiteO_S (l.at (i := 0) rfl)) hl0 hl1).mono ?_
  rintro _ V6 ⟨rfl, he6⟩
  replace l := l.step he6
  simp (disch := omega) only [↓stp, vls, inf, frs, mark_eq, ↓reduceIte, Nat.reduceEqDiff, ite_tt, ite_ff, eq_self, and_true, true_and, and_self, implies_true, Bool.true_eq_false, Bool.false_eq_true, decide_true, decide_false, decide_eq_true_eq, decide_eq_false_iff_not, ne_eq, not_true_eq_false, not_false_eq_true, Bool.not_eq_true', Bool.not_eq_false', beq_self_eq_true, Bool.not_true, Bool.not_false, List.getElem?_toArray, List.getElem?_cons_zero, List.getElem?_cons_succ]
  refine led_storeAll (d := valC (x.1.set k (scF x.1[k] sc), x.2.1, ()) _) l 1 rfl sz30 (valC_len _ rfl) rfl (valC_one _ (by simp [Value.oneCell'])) fun V7 l => ?_
  have kp : V7.part ⟨q6, 0, none⟩ 2 = some (valC (x.1.set k (scF x.1[k] sc), x.2.1, ()) _) := l.partn (i := 1) rfl (valC_len _ rfl) (valC_one _ (by simp [Value.oneCell']))
  simp (disch := omega) only [↓stp, vls, inf, frs, mark_eq, ↓reduceIte, Nat.reduceEqDiff, ite_tt, ite_ff, eq_self, and_true, true_and, and_self, implies_true, Bool.true_eq_false, Bool.false_eq_true, decide_true, decide_false, decide_eq_true_eq, decide_eq_false_iff_not, ne_eq, not_true_eq_false, not_false_eq_true, Bool.not_eq_true', Bool.not_eq_false', beq_self_eq_true, Bool.not_true, Bool.not_false, List.getElem?_toArray, List.getElem?_cons_zero, List.getElem?_cons_succ, kp]
  exact (l.sub (.cons_cons _ (List.nil_sublist _))).checked

theorem impl_AddNeed_c (A : View) (d : List Value) (x : SuiteD) (id name : ByteArray) (hz : name.size ≤ 140737488355328) (h : suiteS.rel A x d) (hs0 : x.1.length ≤ 1048576) (hs1 : x.2.1.length ≤ 1048576) : ACalls Try.prog 22 #[.agg d.toArray, .string id, .string name] A fun r A' => NewOcB A r A' (sel (dropTC x id) (chk (addNY x id name))) (dropTC x id && validB (addNY x id name)) := by
  obtain ⟨u0, u1, rfl, g0, g1⟩ := suiteS_open h
  obtain ⟨a0, c0, rfl, _, _⟩ := g0.slice
  obtain ⟨a1, c1, rfl, _, _⟩ := g1.slice
  refine acalls Try.func22 rfl (by kernel_rfl) ?_
  simp (disch := omega) only [↓stp, vls, inf, frs, mark_eq, ↓reduceIte, Nat.reduceEqDiff, ite_tt, ite_ff, eq_self, and_true, true_and, and_self, implies_true, Bool.true_eq_false, Bool.false_eq_true, decide_true, decide_false, decide_eq_true_eq, decide_eq_false_iff_not, ne_eq, not_true_eq_false, not_false_eq_true, Bool.not_eq_true', Bool.not_eq_false', beq_self_eq_true, Bool.not_true, Bool.not_false, List.getElem?_toArray, List.getElem?_cons_zero, List.getElem?_cons_succ]
  refine led_box (Led.nil A) rfl fun q V he l => ?_
  simp (disch := omega) only [↓stp, vls, inf, frs, mark_eq, ↓reduceIte, Nat.reduceEqDiff, ite_tt, ite_ff, eq_self, and_true, true_and, and_self, implies_true, Bool.true_eq_false, Bool.false_eq_true, decide_true, decide_false, decide_eq_true_eq, decide_eq_false_iff_not, ne_eq, not_true_eq_false, not_false_eq_true, Bool.not_eq_true', Bool.not_eq_false', beq_self_eq_true, Bool.not_true, Bool.not_false, List.getElem?_toArray, List.getElem?_cons_zero, List.getElem?_cons_succ]
  refine led_alloc zc30 l fun q6 V he l => ?_
  have kp : V.part ⟨q, 0, none⟩ 2 = some _ := l.part (i := 1) rfl rfl
  simp (disch := omega) only [↓stp, vls, inf, frs, mark_eq, ↓reduceIte, Nat.reduceEqDiff, ite_tt, ite_ff, eq_self, and_true, true_and, and_self, implies_true, Bool.true_eq_false, Bool.false_eq_true, decide_true, decide_false, decide_eq_true_eq, decide_eq_false_iff_not, ne_eq, not_true_eq_false, not_false_eq_true, Bool.not_eq_true', Bool.not_eq_false', beq_self_eq_true, Bool.not_true, Bool.not_false, List.getElem?_toArray, List.getElem?_cons_zero, List.getElem?_cons_succ, kp]
  refine (impl_validB_c V _ x (suiteS_mk (g0.mono l.ext) (g1.mono l.ext)) (by omega) (by omega)).mono ?_
  rintro _ V2 ⟨rfl, he2⟩
  replace l := l.step he2
  have kp := he2.part kp
  have k1 := l.cell (i := 1) rfl (o := 1) rfl rfl
  simp (disch := omega) only [↓stp, vls, inf, frs, mark_eq, ↓reduceIte, Nat.reduceEqDiff, ite_tt, ite_ff, eq_self, and_true, true_and, and_self, implies_true, Bool.true_eq_false, Bool.false_eq_true, decide_true, decide_false, decide_eq_true_eq, decide_eq_false_iff_not, ne_eq, not_true_eq_false, not_false_eq_true, Bool.not_eq_true', Bool.not_eq_false', beq_self_eq_true, Bool.not_true, Bool.not_false, List.getElem?_toArray, List.getElem?_cons_zero, List.getElem?_cons_succ]
  refine ⟨fun e1 => ?_, fun e1 => ?_⟩
  · rw [show dropTC x id = false from by unfold dropTC; rw [e1]; rfl]
    simp (disch := omega) only [↓stp, vls, inf, frs, mark_eq, ↓reduceIte, Nat.reduceEqDiff, ite_tt, ite_ff, eq_self, and_true, true_and, and_self, implies_true, Bool.true_eq_false, Bool.false_eq_true, decide_true, decide_false, decide_eq_true_eq, decide_eq_false_iff_not, ne_eq, not_true_eq_false, not_false_eq_true, Bool.not_eq_true', Bool.not_eq_false', beq_self_eq_true, Bool.not_true, Bool.not_false, List.getElem?_toArray, List.getElem?_cons_zero, List.getElem?_cons_succ, bu0S]
    refine zero_store l fun W hW kp => ?_
    simp (disch := omega) only [↓stp, vls, inf, frs, mark_eq, ↓reduceIte, Nat.reduceEqDiff, ite_tt, ite_ff, eq_self, and_true, true_and, and_self, implies_true, Bool.true_eq_false, Bool.false_eq_true, decide_true, decide_false, decide_eq_true_eq, decide_eq_false_iff_not, ne_eq, not_true_eq_false, not_false_eq_true, Bool.not_eq_true', Bool.not_eq_false', beq_self_eq_true, Bool.not_true, Bool.not_false, List.getElem?_toArray, List.getElem?_cons_zero, List.getElem?_cons_succ, kp]
    exact ⟨_, _, rfl, led_none hW⟩
  simp (disch := omega) only [↓stp, vls, inf, frs, mark_eq, ↓reduceIte, Nat.reduceEqDiff, ite_tt, ite_ff, eq_self, and_true, true_and, and_self, implies_true, Bool.true_eq_false, Bool.false_eq_true, decide_true, decide_false, decide_eq_true_eq, decide_eq_false_iff_not, ne_eq, not_true_eq_false, not_false_eq_true, Bool.not_eq_true', Bool.not_eq_false', beq_self_eq_true, Bool.not_true, Bool.not_false, List.getElem?_toArray, List.getElem?_cons_zero, List.getElem?_cons_succ, add_at, k1]
  refine (impl_FindTest_c V2 _ x.2.1 id (g1.mono l.ext) (by omega)).mono ?_
  rintro _ V3 ⟨rfl, he3⟩
  rw [findV_of e1]
  replace l := l.step he3
  simp (disch := omega) only [↓stp, vls, inf, frs, mark_eq, ↓reduceIte, Nat.reduceEqDiff, ite_tt, ite_ff, eq_self, and_true, true_and, and_self, implies_true, Bool.true_eq_false, Bool.false_eq_true, decide_true, decide_false, decide_eq_true_eq, decide_eq_false_iff_not, ne_eq, not_true_eq_false, not_false_eq_true, Bool.not_eq_true', Bool.not_eq_false', beq_self_eq_true, Bool.not_true, Bool.not_false, List.getElem?_toArray, List.getElem?_cons_zero, List.getElem?_cons_succ]
  refine ⟨fun e2 => ?_, fun e2 => ?_⟩
  · rw [show dropTC x id = false from by unfold dropTC; rw [e1, Bool.true_and]; exact decide_eq_false (by omega)]
    simp (disch := omega) only [↓stp, vls, inf, frs, mark_eq, ↓reduceIte, Nat.reduceEqDiff, ite_tt, ite_ff, eq_self, and_true, true_and, and_self, implies_true, Bool.true_eq_false, Bool.false_eq_true, decide_true, decide_false, decide_eq_true_eq, decide_eq_false_iff_not, ne_eq, not_true_eq_false, not_false_eq_true, Bool.not_eq_true', Bool.not_eq_false', beq_self_eq_true, Bool.not_true, Bool.not_false, List.getElem?_toArray, List.getElem?_cons_zero, List.getElem?_cons_succ, bu0S]
    refine zero_store l fun W hW kp => ?_
    simp (disch := omega) only [↓stp, vls, inf, frs, mark_eq, ↓reduceIte, Nat.reduceEqDiff, ite_tt, ite_ff, eq_self, and_true, true_and, and_self, implies_true, Bool.true_eq_false, Bool.false_eq_true, decide_true, decide_false, decide_eq_true_eq, decide_eq_false_iff_not, ne_eq, not_true_eq_false, not_false_eq_true, Bool.not_eq_true', Bool.not_eq_false', beq_self_eq_true, Bool.not_true, Bool.not_false, List.getElem?_toArray, List.getElem?_cons_zero, List.getElem?_cons_succ, kp]
    exact ⟨_, _, rfl, led_none hW⟩
  obtain ⟨k, hk, hkn, hkl⟩ := findB_lt (xs := x.2.1) (id := id) (by omega)
  have hc : dropTC x id = true := by unfold dropTC; rw [e1, Bool.true_and]; exact decide_eq_true (by omega)
  have hF := (validB_parts e1).1
  have hfl := hF.fl
  have htl := hF.tl
  have kp : V3.part ⟨q, 0, none⟩ 2 = some _ := l.part (i := 1) rfl rfl
  have hY : addNY x id name = (x.1, x.2.1.set k (adT x.2.1[k] name), ()) := by unfold addNY; rw [hkn, List.getD_eq_getElem?_getD, List.getElem?_eq_getElem hkl]; rfl
  have hl0 : x.1.length ≤ 16777215 := by omega
  have hl1 : (x.2.1.set k (adT x.2.1[k] name)).length ≤ 16777215 := by rw [List.length_set]; omega
  rw [hk]
  rw [hc, hY]
  have hns := hF.ts _ (List.getElem_mem hkl)
  simp (disch := omega) only [↓stp, vls, inf, frs, mark_eq, ↓reduceIte, Nat.reduceEqDiff, ite_tt, ite_ff, eq_self, and_true, true_and, and_self, implies_true, Bool.true_eq_false, Bool.false_eq_true, decide_true, decide_false, decide_eq_true_eq, decide_eq_false_iff_not, ne_eq, not_true_eq_false, not_false_eq_true, Bool.not_eq_true', Bool.not_eq_false', beq_self_eq_true, Bool.not_true, Bool.not_false, List.getElem?_toArray, List.getElem?_cons_zero, List.getElem?_cons_succ, kp]
  refine (impl_copySuite_c V3 _ x (suiteS_mk (g0.mono l.ext) (g1.mono l.ext)) hF.small).mono ?_
  rintro _ V4 ⟨fq, cells, rfl, l1⟩
  obtain ⟨ff0, uu0, ff1, uu1, rfl, rfl, o0, o1⟩ := suiteO_open (show suiteO.rel V4 fq _ cells from l1.at (i := 0) rfl)
  obtain ⟨a3, c3, rfl, _, _⟩ := o0.toS.slice
  obtain ⟨b, cb, d1, d2, d3, f1, f2, f3, rfl, hcb, hd1, l1⟩ := ((l1.split2 (it1 := osl 83 fixtureO ff0 _ x.1) (it2 := osl 76 testO ff1 uu1 x.2.1) rfl o0 o1).perm (List.Perm.swap ..)).openAt hkl
  obtain ⟨gf, gu, gf3, gu3, rfl, rfl, z1, z2, og, og3⟩ := testO_open (show testO.rel V4 f2 x.2.1[k] d2 from l1.at (i := 1) rfl)
  obtain ⟨a4, c4, rfl, _, _⟩ := og3.toS.slice
  replace l1 := (l1.perm (List.Perm.swap ..)).split2 (it1 := osl 9 strO gf gu (x.2.1[k]).2.2.1) (it2 := osl 9 strO gf3 _ (x.2.1[k]).2.2.2.1) rfl og og3
  replace l := l.append l1
  clear l1
  replace hd1 : d1.length = k * 4 := hd1
  simp (disch := omega) only [↓stp, vls, inf, frs, mark_eq, ↓reduceIte, Nat.reduceEqDiff, ite_tt, ite_ff, eq_self, and_true, true_and, and_self, implies_true, Bool.true_eq_false, Bool.false_eq_true, decide_true, decide_false, decide_eq_true_eq, decide_eq_false_iff_not, ne_eq, not_true_eq_false, not_false_eq_true, Bool.not_eq_true', Bool.not_eq_false', beq_self_eq_true, Bool.not_true, Bool.not_false, List.getElem?_toArray, List.getElem?_cons_zero, List.getElem?_cons_succ]
  refine led_alloc zc30 l fun q9 V5 _ l => ?_
  simp (disch := omega) only [↓stp, vls, inf, frs, mark_eq, ↓reduceIte, Nat.reduceEqDiff, ite_tt, ite_ff, eq_self, and_true, true_and, and_self, implies_true, Bool.true_eq_false, Bool.false_eq_true, decide_true, decide_false, decide_eq_true_eq, decide_eq_false_iff_not, ne_eq, not_true_eq_false, not_false_eq_true, Bool.not_eq_true', Bool.not_eq_false', beq_self_eq_true, Bool.not_true, Bool.not_false, List.getElem?_toArray, List.getElem?_cons_zero, List.getElem?_cons_succ]
  refine led_storeAll l 0 rfl sz30 rfl rfl (by simp [Value.oneCell']) fun V5 l => ?_
  have n1 := l.cell (i := 0) rfl (o := 1) rfl rfl
  have m3 : V5.cell ⟨b, 0 + k * 4 + 3, none⟩ = some _ := led_midcell l (i := 3) rfl (j := 3) (by omega) rfl rfl
  simp (disch := omega) only [↓stp, vls, inf, frs, mark_eq, ↓reduceIte, Nat.reduceEqDiff, ite_tt, ite_ff, eq_self, and_true, true_and, and_self, implies_true, Bool.true_eq_false, Bool.false_eq_true, decide_true, decide_false, decide_eq_true_eq, decide_eq_false_iff_not, ne_eq, not_true_eq_false, not_false_eq_true, Bool.not_eq_true', Bool.not_eq_false', beq_self_eq_true, Bool.not_true, Bool.not_false, List.getElem?_toArray, List.getElem?_cons_zero, List.getElem?_cons_succ]
  refine adraw_items [.q 0, .l 1 true, .q 2, .q 3, .l 4 false, .q 5, .q 6, .q 7, .l 8 false, .q 9, .c 10 [], .c 11 [1], .q 12, .q 13, .c 14 []] (by kernel_rfl) (by kernel_rfl) ?_
  simp (disch := omega) only [↓stp, ↓pln, plv, nilOk, Nat.reduceBEq, Bool.or_false, Bool.or_true, Bool.false_or, Bool.true_or, vls, inf, frs, mark_eq, ↓reduceIte, Nat.reduceEqDiff, ite_tt, ite_ff, eq_self, and_true, true_and, and_self, implies_true, Bool.true_eq_false, Bool.false_eq_true, decide_true, decide_false, decide_eq_true_eq, decide_eq_false_iff_not, ne_eq, not_true_eq_false, not_false_eq_true, Bool.not_eq_true', Bool.not_eq_false', beq_self_eq_true, Bool.not_true, Bool.not_false, List.getElem?_toArray, List.getElem?_cons_zero, List.getElem?_cons_succ, add_at, n1, m3]
  refine led_lit li42 (by omega) rfl (fun p hp => by rcases List.mem_singleton.1 hp with rfl; exact ⟨rfl, rfl⟩) l fun bl V _ l => ?_
  have n1 := l.cell (i := 1) rfl (o := 1) rfl rfl
  have m3 : V.cell ⟨b, 0 + k * 4 + 3, none⟩ = some _ := led_midcell l (i := 4) rfl (j := 3) (by omega) rfl rfl
  simp (disch := omega) only [↓stp, ↓pln, plv, nilOk, Nat.reduceBEq, Bool.or_false, Bool.or_true, Bool.false_or, Bool.true_or, vls, inf, frs, mark_eq, ↓reduceIte, Nat.reduceEqDiff, ite_tt, ite_ff, eq_self, and_true, true_and, and_self, implies_true, Bool.true_eq_false, Bool.false_eq_true, decide_true, decide_false, decide_eq_true_eq, decide_eq_false_iff_not, ne_eq, not_true_eq_false, not_false_eq_true, Bool.not_eq_true', Bool.not_eq_false', beq_self_eq_true, Bool.not_true, Bool.not_false, List.getElem?_toArray, List.getElem?_cons_zero, List.getElem?_cons_succ, add_at, n1, m3, false_implies]
  refine led_app (O := strO) ap42_42 (by decide) l (i := 3) rfl (l.src1 (S := strS) (j := 0) rfl ⟨rfl, hz⟩) (by rw [List.length_singleton]; omega) fun fn wn V _ l => ?_
  obtain ⟨an, cn, rfl, _, _⟩ := (OSl.toS (show OSl 9 strO V fn wn _ from l.at (i := 3) rfl)).slice
  have n1 := l.cell (i := 1) rfl (o := 1) rfl rfl
  have m3 : V.cell ⟨b, 0 + k * 4 + 3, none⟩ = some _ := led_midcell l (i := 4) rfl (j := 3) (by omega) rfl rfl
  simp (disch := omega) only [↓stp, ↓pln, plv, nilOk, Nat.reduceBEq, Bool.or_false, Bool.or_true, Bool.false_or, Bool.true_or, vls, inf, frs, mark_eq, ↓reduceIte, Nat.reduceEqDiff, ite_tt, ite_ff, eq_self, and_true, true_and, and_self, implies_true, Bool.true_eq_false, Bool.false_eq_true, decide_true, decide_false, decide_eq_true_eq, decide_eq_false_iff_not, ne_eq, not_true_eq_false, not_false_eq_true, Bool.not_eq_true', Bool.not_eq_false', beq_self_eq_true, Bool.not_true, Bool.not_false, List.getElem?_toArray, List.getElem?_cons_zero, List.getElem?_cons_succ, add_at, n1, m3, false_implies]
  refine led_mid l 4 rfl sz42 (j := 3) (d' := [.string (x.2.1[k]).1, .string (x.2.1[k]).2.1, gu, .slice an ((x.2.1[k]).2.2.2.1 ++ [name]).length cn]) (by omega) ⟨rfl, rfl⟩ ⟨by simp, rfl⟩ fun W _ l => ?_
  have n1 := l.cell (i := 1) rfl (o := 1) rfl rfl
  have m3 : W.cell ⟨b, 0 + k * 4 + 3, none⟩ = some _ := led_midcell l (i := 4) rfl (j := 3) (by omega) rfl rfl
  have kp : W.part ⟨q9, 0, none⟩ 2 = some [.slice a3 x.1.length c3, .slice (some ⟨b, 0, none⟩) x.2.1.length cb] := l.part (i := 1) rfl rfl
  simp (disch := omega) only [↓stp, ↓pln, plv, nilOk, Nat.reduceBEq, Bool.or_false, Bool.or_true, Bool.false_or, Bool.true_or, vls, inf, frs, mark_eq, ↓reduceIte, Nat.reduceEqDiff, ite_tt, ite_ff, eq_self, and_true, true_and, and_self, implies_true, Bool.true_eq_false, Bool.false_eq_true, decide_true, decide_false, decide_eq_true_eq, decide_eq_false_iff_not, ne_eq, not_true_eq_false, not_false_eq_true, Bool.not_eq_true', Bool.not_eq_false', beq_self_eq_true, Bool.not_true, Bool.not_false, List.getElem?_toArray, List.getElem?_cons_zero, List.getElem?_cons_succ, add_at, n1, m3, false_implies]
  replace l := (((((l.sub (.cons _ (.cons _ (List.Sublist.refl _)))).perm (List.Perm.swap ..)).join2 (jt := oc testO (gf ++ fn) (adT x.2.1[k] name) [.string (x.2.1[k]).1, .string (x.2.1[k]).2.1, gu, .slice an ((x.2.1[k]).2.2.2.1 ++ [name]).length cn]) rfl (show testO.rel W (gf ++ fn) (adT x.2.1[k] name) _ from testO_mk (x := adT x.2.1[k] name) z1 z2 (l.at (i := 2) rfl) (l.at (i := 3) rfl)))).perm (List.Perm.swap ..)).closeAt hkl hcb (by omega)
  replace l := l.join2 (jt := oc suiteO _ (x.1, x.2.1.set k (adT x.2.1[k] name), ()) [.slice a3 x.1.length c3, .slice (some ⟨b, 0, none⟩) x.2.1.length cb]) rfl (suiteO_mk (x := (x.1, x.2.1.set k (adT x.2.1[k] name), ())) (l.at (i := 1) rfl) (l.at (i := 0) rfl))
  simp (disch := omega) only [↓stp, vls, inf, frs, mark_eq, ↓reduceIte, Nat.reduceEqDiff, ite_tt, ite_ff, eq_self, and_true, true_and, and_self, implies_true, Bool.true_eq_false, Bool.false_eq_true, decide_true, decide_false, decide_eq_true_eq, decide_eq_false_iff_not, ne_eq, not_true_eq_false, not_false_eq_true, Bool.not_eq_true', Bool.not_eq_false', beq_self_eq_true, Bool.not_true, Bool.not_false, List.getElem?_toArray, List.getElem?_cons_zero, List.getElem?_cons_succ, kp]
  refine (impl_validated_c W _ (x.1, x.2.1.set k (adT x.2.1[k] name), ()) (suiteO_S (l.at (i := 0) rfl)) hl0 hl1).mono ?_
  rintro _ V6 ⟨rfl, he6⟩
  replace l := l.step he6
  simp (disch := omega) only [↓stp, vls, inf, frs, mark_eq, ↓reduceIte, Nat.reduceEqDiff, ite_tt, ite_ff, eq_self, and_true, true_and, and_self, implies_true, Bool.true_eq_false, Bool.false_eq_true, decide_true, decide_false, decide_eq_true_eq, decide_eq_false_iff_not, ne_eq, not_true_eq_false, not_false_eq_true, Bool.not_eq_true', Bool.not_eq_false', beq_self_eq_true, Bool.not_true, Bool.not_false, List.getElem?_toArray, List.getElem?_cons_zero, List.getElem?_cons_succ]
  refine led_storeAll (d := valC (x.1, x.2.1.set k (adT x.2.1[k] name), ()) _) l 1 rfl sz30 (valC_len _ rfl) rfl (valC_one _ (by simp [Value.oneCell'])) fun V7 l => ?_
  have kp : V7.part ⟨q6, 0, none⟩ 2 = some (valC (x.1, x.2.1.set k (adT x.2.1[k] name), ()) _) := l.partn (i := 1) rfl (valC_len _ rfl) (valC_one _ (by simp [Value.oneCell']))
  simp (disch := omega) only [↓stp, vls, inf, frs, mark_eq, ↓reduceIte, Nat.reduceEqDiff, ite_tt, ite_ff, eq_self, and_true, true_and, and_self, implies_true, Bool.true_eq_false, Bool.false_eq_true, decide_true, decide_false, decide_eq_true_eq, decide_eq_false_iff_not, ne_eq, not_true_eq_false, not_false_eq_true, Bool.not_eq_true', Bool.not_eq_false', beq_self_eq_true, Bool.not_true, Bool.not_false, List.getElem?_toArray, List.getElem?_cons_zero, List.getElem?_cons_succ, kp]
  exact (l.sub (.cons_cons _ (List.nil_sublist _))).checked

theorem impl_DropFixture_c (A : View) (d : List Value) (x : SuiteD) (name : ByteArray) (h : suiteS.rel A x d) (hs0 : x.1.length ≤ 1048576) (hs1 : x.2.1.length ≤ 1048576) : ACalls Try.prog 24 #[.agg d.toArray, .string name] A fun r A' => NewOcB A r A' (sel (withC x name) (chk (dropFY x name))) (withC x name && validB (dropFY x name)) := by
  obtain ⟨u0, u1, rfl, g0, g1⟩ := suiteS_open h
  obtain ⟨a0, c0, rfl, _, _⟩ := g0.slice
  obtain ⟨a1, c1, rfl, _, _⟩ := g1.slice
  refine acalls Try.func24 rfl (by kernel_rfl) ?_
  simp (disch := omega) only [↓stp, vls, inf, frs, mark_eq, ↓reduceIte, Nat.reduceEqDiff, ite_tt, ite_ff, eq_self, and_true, true_and, and_self, implies_true, Bool.true_eq_false, Bool.false_eq_true, decide_true, decide_false, decide_eq_true_eq, decide_eq_false_iff_not, ne_eq, not_true_eq_false, not_false_eq_true, Bool.not_eq_true', Bool.not_eq_false', beq_self_eq_true, Bool.not_true, Bool.not_false, List.getElem?_toArray, List.getElem?_cons_zero, List.getElem?_cons_succ]
  refine led_box (Led.nil A) rfl fun q V he l => ?_
  simp (disch := omega) only [↓stp, vls, inf, frs, mark_eq, ↓reduceIte, Nat.reduceEqDiff, ite_tt, ite_ff, eq_self, and_true, true_and, and_self, implies_true, Bool.true_eq_false, Bool.false_eq_true, decide_true, decide_false, decide_eq_true_eq, decide_eq_false_iff_not, ne_eq, not_true_eq_false, not_false_eq_true, Bool.not_eq_true', Bool.not_eq_false', beq_self_eq_true, Bool.not_true, Bool.not_false, List.getElem?_toArray, List.getElem?_cons_zero, List.getElem?_cons_succ]
  refine led_alloc zc30 l fun q4 V he l => ?_
  have kp : V.part ⟨q, 0, none⟩ 2 = some _ := l.part (i := 1) rfl rfl
  simp (disch := omega) only [↓stp, vls, inf, frs, mark_eq, ↓reduceIte, Nat.reduceEqDiff, ite_tt, ite_ff, eq_self, and_true, true_and, and_self, implies_true, Bool.true_eq_false, Bool.false_eq_true, decide_true, decide_false, decide_eq_true_eq, decide_eq_false_iff_not, ne_eq, not_true_eq_false, not_false_eq_true, Bool.not_eq_true', Bool.not_eq_false', beq_self_eq_true, Bool.not_true, Bool.not_false, List.getElem?_toArray, List.getElem?_cons_zero, List.getElem?_cons_succ, kp]
  refine (impl_validB_c V _ x (suiteS_mk (g0.mono l.ext) (g1.mono l.ext)) (by omega) (by omega)).mono ?_
  rintro _ V2 ⟨rfl, he2⟩
  replace l := l.step he2
  have kp := he2.part kp
  have k1 := l.cell (i := 1) rfl (o := 1) rfl rfl
  simp (disch := omega) only [↓stp, vls, inf, frs, mark_eq, ↓reduceIte, Nat.reduceEqDiff, ite_tt, ite_ff, eq_self, and_true, true_and, and_self, implies_true, Bool.true_eq_false, Bool.false_eq_true, decide_true, decide_false, decide_eq_true_eq, decide_eq_false_iff_not, ne_eq, not_true_eq_false, not_false_eq_true, Bool.not_eq_true', Bool.not_eq_false', beq_self_eq_true, Bool.not_true, Bool.not_false, List.getElem?_toArray, List.getElem?_cons_zero, List.getElem?_cons_succ, kp]
  refine ⟨fun e1 => ?_, fun e1 => ?_⟩ <;> simp (disch := omega) only [↓stp, vls, inf, frs, mark_eq, ↓reduceIte, Nat.reduceEqDiff, ite_tt, ite_ff, eq_self, and_true, true_and, and_self, implies_true, Bool.true_eq_false, Bool.false_eq_true, decide_true, decide_false, decide_eq_true_eq, decide_eq_false_iff_not, ne_eq, not_true_eq_false, not_false_eq_true, Bool.not_eq_true', Bool.not_eq_false', beq_self_eq_true, Bool.not_true, Bool.not_false, List.getElem?_toArray, List.getElem?_cons_zero, List.getElem?_cons_succ, e1, kp]
  rotate_left
  · rw [show withC x name = false from by unfold withC; rw [e1]; rfl]
    simp (disch := omega) only [↓stp, vls, inf, frs, mark_eq, ↓reduceIte, Nat.reduceEqDiff, ite_tt, ite_ff, eq_self, and_true, true_and, and_self, implies_true, Bool.true_eq_false, Bool.false_eq_true, decide_true, decide_false, decide_eq_true_eq, decide_eq_false_iff_not, ne_eq, not_true_eq_false, not_false_eq_true, Bool.not_eq_true', Bool.not_eq_false', beq_self_eq_true, Bool.not_true, Bool.not_false, List.getElem?_toArray, List.getElem?_cons_zero, List.getElem?_cons_succ, bu0S]
    refine zero_store l fun W hW kp => ?_
    simp (disch := omega) only [↓stp, vls, inf, frs, mark_eq, ↓reduceIte, Nat.reduceEqDiff, ite_tt, ite_ff, eq_self, and_true, true_and, and_self, implies_true, Bool.true_eq_false, Bool.false_eq_true, decide_true, decide_false, decide_eq_true_eq, decide_eq_false_iff_not, ne_eq, not_true_eq_false, not_false_eq_true, Bool.not_eq_true', Bool.not_eq_false', beq_self_eq_true, Bool.not_true, Bool.not_false, List.getElem?_toArray, List.getElem?_cons_zero, List.getElem?_cons_succ, kp]
    exact ⟨_, _, rfl, led_none hW⟩
  refine (impl_fixtureAt_c V2 _ x name (suiteS_mk (g0.mono l.ext) (g1.mono l.ext))).mono ?_
  rintro _ V3 ⟨rfl, he3⟩
  replace l := l.step he3
  simp (disch := omega) only [↓stp, vls, inf, frs, mark_eq, ↓reduceIte, Nat.reduceEqDiff, ite_tt, ite_ff, eq_self, and_true, true_and, and_self, implies_true, Bool.true_eq_false, Bool.false_eq_true, decide_true, decide_false, decide_eq_true_eq, decide_eq_false_iff_not, ne_eq, not_true_eq_false, not_false_eq_true, Bool.not_eq_true', Bool.not_eq_false', beq_self_eq_true, Bool.not_true, Bool.not_false, List.getElem?_toArray, List.getElem?_cons_zero, List.getElem?_cons_succ, e1]
  refine ⟨fun e2 => ?_, fun e2 => ?_⟩
  · rw [show withC x name = false from by unfold withC; rw [e1, Bool.true_and]; exact decide_eq_false (by omega)]
    simp (disch := omega) only [↓stp, vls, inf, frs, mark_eq, ↓reduceIte, Nat.reduceEqDiff, ite_tt, ite_ff, eq_self, and_true, true_and, and_self, implies_true, Bool.true_eq_false, Bool.false_eq_true, decide_true, decide_false, decide_eq_true_eq, decide_eq_false_iff_not, ne_eq, not_true_eq_false, not_false_eq_true, Bool.not_eq_true', Bool.not_eq_false', beq_self_eq_true, Bool.not_true, Bool.not_false, List.getElem?_toArray, List.getElem?_cons_zero, List.getElem?_cons_succ, bu0S]
    refine zero_store l fun W hW kp => ?_
    simp (disch := omega) only [↓stp, vls, inf, frs, mark_eq, ↓reduceIte, Nat.reduceEqDiff, ite_tt, ite_ff, eq_self, and_true, true_and, and_self, implies_true, Bool.true_eq_false, Bool.false_eq_true, decide_true, decide_false, decide_eq_true_eq, decide_eq_false_iff_not, ne_eq, not_true_eq_false, not_false_eq_true, Bool.not_eq_true', Bool.not_eq_false', beq_self_eq_true, Bool.not_true, Bool.not_false, List.getElem?_toArray, List.getElem?_cons_zero, List.getElem?_cons_succ, kp]
    exact ⟨_, _, rfl, led_none hW⟩
  obtain ⟨k, hk, hkn, hkl⟩ := fAt_lt (xs := x.1) (name := name) (by omega)
  have hc : withC x name = true := by unfold withC; rw [e1, Bool.true_and]; exact decide_eq_true (by omega)
  have hF := (validB_parts e1).1
  have hfl := hF.fl
  have htl := hF.tl
  have kp : V3.part ⟨q, 0, none⟩ 2 = some _ := l.part (i := 1) rfl rfl
  have hY : dropFY x name = (x.1.take k ++ x.1.drop (k + 1), x.2.1, ()) := by unfold dropFY; rw [hkn]
  have hsm : Small (x.1.take k ++ x.1.drop (k + 1), x.2.1, ()) := ⟨by show (x.1.take k ++ x.1.drop (k + 1)).length ≤ 1024; rw [List.length_append, List.length_take, List.length_drop]; omega, hF.small.l1, fun t ht => by
    rcases List.mem_append.1 ht with ht | ht
    · exact hF.small.s0 t (List.mem_of_mem_take ht)
    · exact hF.small.s0 t (List.mem_of_mem_drop ht), hF.small.s1⟩
  have hl0 : (x.1.take k ++ x.1.drop (k + 1)).length ≤ 16777215 := by have := hsm.l0; have h2 : (x.1.take k ++ x.1.drop (k + 1)).length ≤ 1024 := this; omega
  have hl1 : x.2.1.length ≤ 16777215 := by omega
  rw [hc, hY]
  simp (disch := omega) only [↓stp, vls, inf, frs, mark_eq, ↓reduceIte, Nat.reduceEqDiff, ite_tt, ite_ff, eq_self, and_true, true_and, and_self, implies_true, Bool.true_eq_false, Bool.false_eq_true, decide_true, decide_false, decide_eq_true_eq, decide_eq_false_iff_not, ne_eq, not_true_eq_false, not_false_eq_true, Bool.not_eq_true', Bool.not_eq_false', beq_self_eq_true, Bool.not_true, Bool.not_false, List.getElem?_toArray, List.getElem?_cons_zero, List.getElem?_cons_succ, kp]
  refine (impl_copySuite_c V3 _ x (suiteS_mk (g0.mono l.ext) (g1.mono l.ext)) hF.small).mono ?_
  rintro _ V4 ⟨fq, cells, rfl, l1⟩
  obtain ⟨ff0, uu0, ff1, uu1, rfl, rfl, o0, o1⟩ := suiteO_open (show suiteO.rel V4 fq _ cells from l1.at (i := 0) rfl)
  obtain ⟨a2, c2, rfl, _, _⟩ := o0.toS.slice
  obtain ⟨a3, c3, rfl, _, _⟩ := o1.toS.slice
  replace l := l.append (l1.split2 (it1 := osl 83 fixtureO ff0 _ x.1) (it2 := osl 76 testO ff1 _ x.2.1) rfl o0 o1)
  simp (disch := omega) only [↓stp, vls, inf, frs, mark_eq, ↓reduceIte, Nat.reduceEqDiff, ite_tt, ite_ff, eq_self, and_true, true_and, and_self, implies_true, Bool.true_eq_false, Bool.false_eq_true, decide_true, decide_false, decide_eq_true_eq, decide_eq_false_iff_not, ne_eq, not_true_eq_false, not_false_eq_true, Bool.not_eq_true', Bool.not_eq_false', beq_self_eq_true, Bool.not_true, Bool.not_false, List.getElem?_toArray, List.getElem?_cons_zero, List.getElem?_cons_succ]
  refine led_alloc zc30 l fun q9 V5 _ l => ?_
  simp (disch := omega) only [↓stp, vls, inf, frs, mark_eq, ↓reduceIte, Nat.reduceEqDiff, ite_tt, ite_ff, eq_self, and_true, true_and, and_self, implies_true, Bool.true_eq_false, Bool.false_eq_true, decide_true, decide_false, decide_eq_true_eq, decide_eq_false_iff_not, ne_eq, not_true_eq_false, not_false_eq_true, Bool.not_eq_true', Bool.not_eq_false', beq_self_eq_true, Bool.not_true, Bool.not_false, List.getElem?_toArray, List.getElem?_cons_zero, List.getElem?_cons_succ]
  refine led_storeAll l 0 rfl sz30 rfl rfl (by simp [Value.oneCell']) fun V5 l => ?_
  have kp : V5.part ⟨q, 0, none⟩ 2 = some _ := l.part (i := 4) rfl rfl
  simp (disch := omega) only [↓stp, vls, inf, frs, mark_eq, ↓reduceIte, Nat.reduceEqDiff, ite_tt, ite_ff, eq_self, and_true, true_and, and_self, implies_true, Bool.true_eq_false, Bool.false_eq_true, decide_true, decide_false, decide_eq_true_eq, decide_eq_false_iff_not, ne_eq, not_true_eq_false, not_false_eq_true, Bool.not_eq_true', Bool.not_eq_false', beq_self_eq_true, Bool.not_true, Bool.not_false, List.getElem?_toArray, List.getElem?_cons_zero, List.getElem?_cons_succ, kp]
  refine (impl_fixtureAt_c V5 _ x name (suiteS_mk (g0.mono l.ext) (g1.mono l.ext))).mono ?_
  rintro _ V6 ⟨rfl, he6⟩
  rw [hk]
  replace l := l.step he6
  have n0 := l.cell (i := 0) rfl (o := 0) rfl rfl
  simp (disch := omega) only [↓stp, vls, inf, frs, mark_eq, ↓reduceIte, Nat.reduceEqDiff, ite_tt, ite_ff, eq_self, and_true, true_and, and_self, implies_true, Bool.true_eq_false, Bool.false_eq_true, decide_true, decide_false, decide_eq_true_eq, decide_eq_false_iff_not, ne_eq, not_true_eq_false, not_false_eq_true, Bool.not_eq_true', Bool.not_eq_false', beq_self_eq_true, Bool.not_true, Bool.not_false, List.getElem?_toArray, List.getElem?_cons_zero, List.getElem?_cons_succ, add_at, n0]
  refine (led_deleteFixture l (m := 1) (k := k) rfl hkl (by omega)).mono ?_
  rintro r V7 ⟨fd, l⟩
  obtain ⟨ar, cr, rfl, _, _⟩ := (OSl.toS (show OSl 83 fixtureO V7 fd r _ from l.at (i := 1) rfl)).slice
  simp (disch := omega) only [↓stp, vls, inf, frs, mark_eq, ↓reduceIte, Nat.reduceEqDiff, ite_tt, ite_ff, eq_self, and_true, true_and, and_self, implies_true, Bool.true_eq_false, Bool.false_eq_true, decide_true, decide_false, decide_eq_true_eq, decide_eq_false_iff_not, ne_eq, not_true_eq_false, not_false_eq_true, Bool.not_eq_true', Bool.not_eq_false', beq_self_eq_true, Bool.not_true, Bool.not_false, List.getElem?_toArray, List.getElem?_cons_zero, List.getElem?_cons_succ, add_at]
  refine led_store l 0 rfl sz27 (by rfl) (by rfl) (by rfl) fun W l => ?_
  have kp : W.part ⟨q9, 0, none⟩ 2 = some [.slice ar (x.1.take k ++ x.1.drop (k + 1)).length cr, .slice a3 x.2.1.length c3] := l.part (i := 0) rfl rfl
  simp (disch := omega) only [↓stp, vls, inf, frs, mark_eq, ↓reduceIte, Nat.reduceEqDiff, ite_tt, ite_ff, eq_self, and_true, true_and, and_self, implies_true, Bool.true_eq_false, Bool.false_eq_true, decide_true, decide_false, decide_eq_true_eq, decide_eq_false_iff_not, ne_eq, not_true_eq_false, not_false_eq_true, Bool.not_eq_true', Bool.not_eq_false', beq_self_eq_true, Bool.not_true, Bool.not_false, List.getElem?_toArray, List.getElem?_cons_zero, List.getElem?_cons_succ, kp]
  refine (impl_copySuite_c W _ (x.1.take k ++ x.1.drop (k + 1), x.2.1, ()) (suiteS_mk (OSl.toS (l.at (i := 1) rfl)) (OSl.toS (l.at (i := 2) rfl))) hsm).mono ?_
  rintro _ V6 ⟨fq, uq, rfl, l1⟩
  obtain ⟨ff2, uu2, ff3, uu3, rfl, rfl, o2, o3⟩ := suiteO_open (show suiteO.rel V6 fq _ uq from l1.at (i := 0) rfl)
  obtain ⟨a4, c4, rfl, _, _⟩ := o2.toS.slice
  obtain ⟨a5, c5, rfl, _, _⟩ := o3.toS.slice
  replace l := l.append l1
  simp (disch := omega) only [↓stp, vls, inf, frs, mark_eq, ↓reduceIte, Nat.reduceEqDiff, ite_tt, ite_ff, eq_self, and_true, true_and, and_self, implies_true, Bool.true_eq_false, Bool.false_eq_true, decide_true, decide_false, decide_eq_true_eq, decide_eq_false_iff_not, ne_eq, not_true_eq_false, not_false_eq_true, Bool.not_eq_true', Bool.not_eq_false', beq_self_eq_true, Bool.not_true, Bool.not_false, List.getElem?_toArray, List.getElem?_cons_zero, List.getElem?_cons_succ]
  refine (impl_validated_c V6 _ (x.1.take k ++ x.1.drop (k + 1), x.2.1, ()) (suiteO_S (l.at (i := 0) rfl)) hl0 hl1).mono ?_
  rintro _ V6 ⟨rfl, he6⟩
  replace l := l.step he6
  simp (disch := omega) only [↓stp, vls, inf, frs, mark_eq, ↓reduceIte, Nat.reduceEqDiff, ite_tt, ite_ff, eq_self, and_true, true_and, and_self, implies_true, Bool.true_eq_false, Bool.false_eq_true, decide_true, decide_false, decide_eq_true_eq, decide_eq_false_iff_not, ne_eq, not_true_eq_false, not_false_eq_true, Bool.not_eq_true', Bool.not_eq_false', beq_self_eq_true, Bool.not_true, Bool.not_false, List.getElem?_toArray, List.getElem?_cons_zero, List.getElem?_cons_succ]
  refine led_storeAll (d := valC (x.1.take k ++ x.1.drop (k + 1), x.2.1, ()) _) l 4 rfl sz30 (valC_len _ rfl) rfl (valC_one _ (by simp [Value.oneCell'])) fun V7 l => ?_
  have kp : V7.part ⟨q4, 0, none⟩ 2 = some (valC (x.1.take k ++ x.1.drop (k + 1), x.2.1, ()) _) := l.partn (i := 4) rfl (valC_len _ rfl) (valC_one _ (by simp [Value.oneCell']))
  simp (disch := omega) only [↓stp, vls, inf, frs, mark_eq, ↓reduceIte, Nat.reduceEqDiff, ite_tt, ite_ff, eq_self, and_true, true_and, and_self, implies_true, Bool.true_eq_false, Bool.false_eq_true, decide_true, decide_false, decide_eq_true_eq, decide_eq_false_iff_not, ne_eq, not_true_eq_false, not_false_eq_true, Bool.not_eq_true', Bool.not_eq_false', beq_self_eq_true, Bool.not_true, Bool.not_false, List.getElem?_toArray, List.getElem?_cons_zero, List.getElem?_cons_succ, kp]
  exact (l.sub (.cons_cons _ (List.nil_sublist _))).checked

end Go.Proofs.Ytfhodofbccljmaa

