/- Suites checked; an element of a slice of one's own, opened and closed. -/
import Derived.Test.YtjojofnkgeiadaaW0
import Derived.Test.YtjojofnkgeiadaaW1
set_option maxHeartbeats 4000000
set_option synthInstance.maxHeartbeats 400000
set_option synthInstance.maxSize 4096
set_option linter.unusedSimpArgs false
set_option linter.unusedVariables false
namespace Go.Proofs.Ytjojofnkgeiadaa

set_option maxRecDepth 100000

theorem bu0S : Try.prog.built 26 [] = some #[.slice none 0 0, .slice none 0 0] := by rw [bt26]; rfl

/-- A suite that is given back only if it is valid. -/
noncomputable def chk (x : SuiteD) : SuiteD := if validB x = true then x else ([], [], ())
/-- A suite of one's own and whether it is one. -/
def NewOcB (A : View) (r : Value) (A' : View) (x : SuiteD) (ok : Bool) : Prop := ∃ (f0 : List Nat) (u0 : List Value), r = .tuple #[.agg u0.toArray, .bool ok] ∧ Led A [oc suiteO f0 x u0] A'
theorem NewOcB.base {A B A' : View} {r : Value} {x : SuiteD} {ok : Bool} (h : NewOcB B r A' x ok) (he : Ext A B) : NewOcB A r A' x ok := let ⟨fp, c, e, h⟩ := h; ⟨fp, c, e, h.base he⟩
theorem led_none {A V : View} (h : Ext A V) : Led A [oc suiteO [] ([], [], ()) [.slice none 0 0, .slice none 0 0]] V :=
  (Led.nil A).cons h (oc suiteO [] ([], [], ()) _) (show suiteO.rel V [] ([], [], ()) _ from suiteO_mk (ff0 := []) (ff1 := []) (x := ([], [], ())) ⟨by simp, .inl ⟨rfl, rfl, rfl⟩⟩ ⟨by simp, .inl ⟨rfl, rfl, rfl⟩⟩) (fun b hb => by cases hb) List.nodup_nil
theorem chk_of {x : SuiteD} (h : validB x = true) : chk x = x := by unfold chk; rw [if_pos h]
theorem chk_no {x : SuiteD} (h : validB x = false) : chk x = ([], [], ()) := by unfold chk; rw [if_neg (by rw [h]; exact Bool.false_ne_true)]

/-- What the program gives back of a suite that it checks. -/
noncomputable def valC (x : SuiteD) (d : List Value) : List Value := if validB x = true then d else [.slice none 0 0, .slice none 0 0]

theorem impl_findTestFn_c (A : View) (b : Nat) (d : List Value) (x : TestD) (id : ByteArray) (hb : A.cell ⟨b, 0, none⟩ = some (.string id)) (h : testS.rel A x d) : ACalls Try.prog 63 #[.agg d.toArray, .pointer (some ⟨b, 0, none⟩)] A fun r A' => r = .bool (decide (idD x = id)) ∧ Ext A A' := by
  obtain ⟨u2, u3, rfl, z1, z2, f2, f3⟩ := testS_open h
  refine acalls Try.func63 rfl (by kernel_rfl) ?_
  simp (disch := omega) only [↓stp, vls, inf, frs, mark_eq, ↓reduceIte, Nat.reduceEqDiff, ite_tt, ite_ff, eq_self, and_true, true_and, and_self, implies_true, Bool.true_eq_false, Bool.false_eq_true, decide_true, decide_false, decide_eq_true_eq, decide_eq_false_iff_not, ne_eq, not_true_eq_false, not_false_eq_true, Bool.not_eq_true', Bool.not_eq_false', beq_self_eq_true, Bool.not_true, Bool.not_false, List.getElem?_toArray, List.getElem?_cons_zero, List.getElem?_cons_succ]
  obtain ⟨a2, c2, rfl, _, _⟩ := f2.slice
  obtain ⟨a3, c3, rfl, _, _⟩ := f3.slice
  refine led_box (Led.nil A) rfl fun q V he l => ?_
  have kp : V.part ⟨q, 0, none⟩ 4 = some _ := l.part (i := 0) rfl rfl
  have kb := l.ext.cell hb
  simp (disch := omega) only [↓stp, vls, inf, frs, mark_eq, ↓reduceIte, Nat.reduceEqDiff, ite_tt, ite_ff, eq_self, and_true, true_and, and_self, implies_true, Bool.true_eq_false, Bool.false_eq_true, decide_true, decide_false, decide_eq_true_eq, decide_eq_false_iff_not, ne_eq, not_true_eq_false, not_false_eq_true, Bool.not_eq_true', Bool.not_eq_false', beq_self_eq_true, Bool.not_true, Bool.not_false, List.getElem?_toArray, List.getElem?_cons_zero, List.getElem?_cons_succ]
  refine adraw_items [.l 0 false, .l 2 true, .c 1 [2], .q 3, .q 4] (by kernel_rfl) (by kernel_rfl) ?_
  simp (disch := omega) only [↓stp, ↓pln, plv, nilOk, Nat.reduceBEq, Bool.or_false, Bool.or_true, Bool.false_or, Bool.true_or, vls, inf, frs, mark_eq, ↓reduceIte, Nat.reduceEqDiff, ite_tt, ite_ff, eq_self, and_true, true_and, and_self, implies_true, Bool.true_eq_false, Bool.false_eq_true, decide_true, decide_false, decide_eq_true_eq, decide_eq_false_iff_not, ne_eq, not_true_eq_false, not_false_eq_true, Bool.not_eq_true', Bool.not_eq_false', beq_self_eq_true, Bool.not_true, Bool.not_false, List.getElem?_toArray, List.getElem?_cons_zero, List.getElem?_cons_succ, kp, kb]
  refine (impl_idOf_c V _ x (testS_mk z1 z2 (f2.mono l.ext) (f3.mono l.ext))).mono ?_
  rintro _ V2 ⟨rfl, he2⟩
  have kp := he2.part kp
  have kb := he2.cell kb
  simp (disch := omega) only [↓stp, ↓pln, plv, nilOk, Nat.reduceBEq, Bool.or_false, Bool.or_true, Bool.false_or, Bool.true_or, vls, inf, frs, mark_eq, ↓reduceIte, Nat.reduceEqDiff, ite_tt, ite_ff, eq_self, and_true, true_and, and_self, implies_true, Bool.true_eq_false, Bool.false_eq_true, decide_true, decide_false, decide_eq_true_eq, decide_eq_false_iff_not, ne_eq, not_true_eq_false, not_false_eq_true, Bool.not_eq_true', Bool.not_eq_false', beq_self_eq_true, Bool.not_true, Bool.not_false, List.getElem?_toArray, List.getElem?_cons_zero, List.getElem?_cons_succ, kp, kb]
  exact l.ext.trans he2

def findB (xs : List TestD) (id : ByteArray) : Int := idxI (fun x => decide (idD x = id)) xs
noncomputable def findV (xs : List TestD) (id : ByteArray) : Int := if testsB xs = true then findB xs id else -1
theorem findV_of {x : SuiteD} (h : validB x = true) (id : ByteArray) : findV x.2.1 id = findB x.2.1 id := by
  unfold findV
  unfold validB formedB at h
  simp only [Bool.and_eq_true] at h
  rw [if_pos h.1.2]
theorem impl_FindTest_c (A : View) (v : Value) (xs : List TestD) (id : ByteArray) (h : Sl testS A v xs) (hsm : xs.length ≤ 16777215) : ACalls Try.prog 21 #[v, .string id] A fun r A' => r = .int .i64 (findV xs id) ∧ Ext A A' := by
  obtain ⟨a, c, rfl, hc, hl⟩ := h.slice
  refine acalls Try.func21 rfl (by kernel_rfl) ?_
  simp (disch := omega) only [↓stp, vls, inf, frs, mark_eq, ↓reduceIte, Nat.reduceEqDiff, ite_tt, ite_ff, eq_self, and_true, true_and, and_self, implies_true, Bool.true_eq_false, Bool.false_eq_true, decide_true, decide_false, decide_eq_true_eq, decide_eq_false_iff_not, ne_eq, not_true_eq_false, not_false_eq_true, Bool.not_eq_true', Bool.not_eq_false', beq_self_eq_true, Bool.not_true, Bool.not_false, List.getElem?_toArray, List.getElem?_cons_zero, List.getElem?_cons_succ]
  refine led_box1 (Led.nil A) rfl rfl fun q V he l => ?_
  simp (disch := omega) only [↓stp, vls, inf, frs, mark_eq, ↓reduceIte, Nat.reduceEqDiff, ite_tt, ite_ff, eq_self, and_true, true_and, and_self, implies_true, Bool.true_eq_false, Bool.false_eq_true, decide_true, decide_false, decide_eq_true_eq, decide_eq_false_iff_not, ne_eq, not_true_eq_false, not_false_eq_true, Bool.not_eq_true', Bool.not_eq_false', beq_self_eq_true, Bool.not_true, Bool.not_false, List.getElem?_toArray, List.getElem?_cons_zero, List.getElem?_cons_succ]
  refine (impl_validTests_c V _ xs (h.mono l.ext) hsm).mono ?_
  rintro _ V2 ⟨rfl, he2⟩
  replace l := l.step he2
  simp (disch := omega) only [↓stp, vls, inf, frs, mark_eq, ↓reduceIte, Nat.reduceEqDiff, ite_tt, ite_ff, eq_self, and_true, true_and, and_self, implies_true, Bool.true_eq_false, Bool.false_eq_true, decide_true, decide_false, decide_eq_true_eq, decide_eq_false_iff_not, ne_eq, not_true_eq_false, not_false_eq_true, Bool.not_eq_true', Bool.not_eq_false', beq_self_eq_true, Bool.not_true, Bool.not_false, List.getElem?_toArray, List.getElem?_cons_zero, List.getElem?_cons_succ]
  refine ⟨fun e1 => ?_, fun e1 => ?_⟩ <;> simp (disch := omega) only [↓stp, vls, inf, frs, mark_eq, ↓reduceIte, Nat.reduceEqDiff, ite_tt, ite_ff, eq_self, and_true, true_and, and_self, implies_true, Bool.true_eq_false, Bool.false_eq_true, decide_true, decide_false, decide_eq_true_eq, decide_eq_false_iff_not, ne_eq, not_true_eq_false, not_false_eq_true, Bool.not_eq_true', Bool.not_eq_false', beq_self_eq_true, Bool.not_true, Bool.not_false, List.getElem?_toArray, List.getElem?_cons_zero, List.getElem?_cons_succ]
  · unfold findV
    rw [if_neg (by rw [e1]; exact Bool.false_ne_true)]
    exact ⟨rfl, l.ext⟩
  · unfold findV
    rw [if_pos e1]
    have kb : V2.cell ⟨q, 0, none⟩ = some (.string id) := l.cell (i := 0) rfl (o := 0) rfl rfl
    refine (indexFunc_Test_c V2 _ _ xs (fun x => decide (idD x = id)) (h.mono l.ext) ⟨_, _, _, rfl, by kernel_rfl, fun B hB y x hx => ?_⟩).mono ?_
    · obtain ⟨d, rfl, hd⟩ := hx
      exact impl_findTestFn_c B q d x id (hB.cell kb) hd
    · rintro _ V3 ⟨rfl, he3⟩
      simp (disch := omega) only [↓stp, vls, inf, frs, mark_eq, ↓reduceIte, Nat.reduceEqDiff, ite_tt, ite_ff, eq_self, and_true, true_and, and_self, implies_true, Bool.true_eq_false, Bool.false_eq_true, decide_true, decide_false, decide_eq_true_eq, decide_eq_false_iff_not, ne_eq, not_true_eq_false, not_false_eq_true, Bool.not_eq_true', Bool.not_eq_false', beq_self_eq_true, Bool.not_true, Bool.not_false, List.getElem?_toArray, List.getElem?_cons_zero, List.getElem?_cons_succ]
      exact ⟨rfl, l.ext.trans he3⟩

theorem cntF_le {xs : List FixtureD} (h : ∀ f, f ∈ xs → smallF f) : cntL fixtureT xs ≤ 1027 * xs.length := by
  induction xs with
  | nil => simp [cntL]
  | cons x xs ih =>
    have h1 : x.2.2.1.length ≤ 1024 := h x (List.mem_cons_self ..)
    have h2 := ih fun y hy => h y (List.mem_cons_of_mem _ hy)
    have h3 := fixtureT_cnt x
    rw [cntL_str] at h3
    simp only [cntL, List.length_cons]
    omega
theorem cntT_le {xs : List TestD} (h : ∀ f, f ∈ xs → smallT f) : cntL testT xs ≤ 2050 * xs.length := by
  induction xs with
  | nil => simp [cntL]
  | cons x xs ih =>
    obtain ⟨h1, h1'⟩ := h x (List.mem_cons_self ..)
    have h2 := ih fun y hy => h y (List.mem_cons_of_mem _ hy)
    have h3 := testT_cnt x
    rw [cntL_str, cntL_str] at h3
    simp only [cntL, List.length_cons]
    omega
theorem Small.cnt {x : SuiteD} (h : Small x) : suiteT.cnt x ≤ 1073741824 := by
  rw [suiteT_cnt]
  have h1 := cntF_le h.s0
  have h2 := cntT_le h.s1
  have := h.l0
  have := h.l1
  omega
theorem none_cnt : suiteT.cnt ([], [], ()) ≤ 1073741824 := by
  rw [suiteT_cnt]
  simp [cntL]
theorem chk_cnt (x : SuiteD) : suiteT.cnt (chk x) ≤ 1073741824 := by
  unfold chk
  split
  · rename_i h
    exact (validB_parts h).1.small.cnt
  · exact none_cnt

def sel (c : Bool) (y : SuiteD) : SuiteD := if c = true then y else ([], [], ())

theorem zero_store {A V : View} {L : List It} {q4 room : Nat} {K : Value → View → Prop} (l : Led A (bx q4 ⟨26, [.slice none 0 0, .slice none 0 0], room, true⟩ :: L) V) (hK : ∀ W, Ext A W → W.part ⟨q4, 0, none⟩ 2 = some [.slice none 0 0, .slice none 0 0] → K undef W) : astore Try.prog 26 (.pointer (some ⟨q4, 0, none⟩)) (.agg #[.slice none 0 0, .slice none 0 0]) V K := by
  refine led_storeAll (d := [.slice none 0 0, .slice none 0 0]) l 0 rfl sz26 rfl rfl (by simp [Value.oneCell']) fun W l => ?_
  exact hK W l.ext (l.part (i := 0) rfl rfl)
theorem valC_len (x : SuiteD) {d : List Value} (h : d.length = 2) : (valC x d).length = 2 := by
  unfold valC
  split
  · exact h
  · rfl
theorem valC_one (x : SuiteD) {d : List Value} (h : ∀ v ∈ d, v.oneCell' = true) : ∀ v ∈ valC x d, v.oneCell' = true := by
  unfold valC
  split
  · exact h
  · intro v hv
    simp only [List.mem_cons, List.not_mem_nil, or_false] at hv
    rcases hv with rfl | rfl <;> rfl

end Go.Proofs.Ytjojofnkgeiadaa

