/- Part 4 of the proof: its texts, one behind the other. -/
import Derived.Test.YtggklaimbklefaaJExactSuiteText3
import Derived.Test.YtggklaimbklefaaJExactSuiteText2

/- Valid tests. -/
set_option maxHeartbeats 4000000
set_option synthInstance.maxHeartbeats 400000
set_option synthInstance.maxSize 4096
set_option linter.unusedSimpArgs false
set_option linter.unusedVariables false
namespace Go.Proofs.Ytggklaimbklefaa

set_option maxRecDepth 100000

noncomputable def testB (x : TestD) : Bool := nmOk x.1 && nmOk x.2.1 && namesB x.2.2.1 3 && ascB x.2.2.1 && namesB x.2.2.2.1 4
/-- The id of a test. -/
def idD (x : TestD) : ByteArray := x.1 ++ ⟨#[46]⟩ ++ x.2.1
theorem idD_size (x : TestD) : (idD x).size = x.1.size + 1 + x.2.1.size := by
  unfold idD
  rw [ByteArray.size_append, ByteArray.size_append]; rfl
theorem nmOk_size {s : ByteArray} (h : nmOk s = true) : s.size ≤ 6 := by
  unfold nmOk at h
  simp only [Bool.and_eq_true, decide_eq_true_eq] at h
  omega
theorem testB_id {x : TestD} (h : testB x = true) : (idD x).size ≤ 13 := by
  unfold testB at h
  simp only [Bool.and_eq_true] at h
  have h1 := nmOk_size h.1.1.1.1
  have h2 := nmOk_size h.1.1.1.2
  rw [idD_size]
  omega
theorem namesB_nodup {xs : List ByteArray} {m : Int} (h : namesB xs m = true) : xs.Nodup := by
  unfold namesB at h
  simp only [Bool.and_eq_true, decide_eq_true_eq] at h
  exact h.1.2

theorem impl_testOk_c (A : View) (d : List Value) (x : TestD) (h : testS.rel A x d) : ACalls Try.prog 105 #[.agg d.toArray] A fun r A' => r = .bool (testB x) ∧ Ext A A' := by
  obtain ⟨u2, u3, rfl, z1, z2, g2, g3⟩ := testS_open h
  obtain ⟨a2, c2, rfl, _, _⟩ := g2.slice
  obtain ⟨a3, c3, rfl, _, _⟩ := g3.slice
  refine acalls Try.func105 rfl (by kernel_rfl) ?_
  simp (disch := omega) only [↓stp, vls, inf, frs, mark_eq, ↓reduceIte, Nat.reduceEqDiff, ite_tt, ite_ff, eq_self, and_true, true_and, and_self, implies_true, Bool.true_eq_false, Bool.false_eq_true, decide_true, decide_false, decide_eq_true_eq, decide_eq_false_iff_not, ne_eq, not_true_eq_false, not_false_eq_true, Bool.not_eq_true', Bool.not_eq_false', beq_self_eq_true, Bool.not_true, Bool.not_false, List.getElem?_toArray, List.getElem?_cons_zero, List.getElem?_cons_succ]
  refine led_box (Led.nil A) rfl fun q V he l => ?_
  have k0 := l.cell (i := 0) rfl (o := 0) rfl rfl
  have k1 := l.cell (i := 0) rfl (o := 1) rfl rfl
  have k2 := l.cell (i := 0) rfl (o := 2) rfl rfl
  have k3 := l.cell (i := 0) rfl (o := 3) rfl rfl
  simp (disch := omega) only [↓stp, vls, inf, frs, mark_eq, ↓reduceIte, Nat.reduceEqDiff, ite_tt, ite_ff, eq_self, and_true, true_and, and_self, implies_true, Bool.true_eq_false, Bool.false_eq_true, decide_true, decide_false, decide_eq_true_eq, decide_eq_false_iff_not, ne_eq, not_true_eq_false, not_false_eq_true, Bool.not_eq_true', Bool.not_eq_false', beq_self_eq_true, Bool.not_true, Bool.not_false, List.getElem?_toArray, List.getElem?_cons_zero, List.getElem?_cons_succ, add_at, k0]
  refine (impl_nameOk_c V _ z1).mono ?_
  rintro _ V ⟨rfl, rfl⟩
  simp (disch := omega) only [↓stp, vls, inf, frs, mark_eq, ↓reduceIte, Nat.reduceEqDiff, ite_tt, ite_ff, eq_self, and_true, true_and, and_self, implies_true, Bool.true_eq_false, Bool.false_eq_true, decide_true, decide_false, decide_eq_true_eq, decide_eq_false_iff_not, ne_eq, not_true_eq_false, not_false_eq_true, Bool.not_eq_true', Bool.not_eq_false', beq_self_eq_true, Bool.not_true, Bool.not_false, List.getElem?_toArray, List.getElem?_cons_zero, List.getElem?_cons_succ]
  unfold testB
  refine ⟨fun e1 => ?_, fun e1 => ?_⟩ <;> simp (disch := omega) only [↓stp, vls, inf, frs, mark_eq, ↓reduceIte, Nat.reduceEqDiff, ite_tt, ite_ff, eq_self, and_true, true_and, and_self, implies_true, Bool.true_eq_false, Bool.false_eq_true, decide_true, decide_false, decide_eq_true_eq, decide_eq_false_iff_not, ne_eq, not_true_eq_false, not_false_eq_true, Bool.not_eq_true', Bool.not_eq_false', beq_self_eq_true, Bool.not_true, Bool.not_false, List.getElem?_toArray, List.getElem?_cons_zero, List.getElem?_cons_succ, e1, add_at, k1]
  · refine (impl_nameOk_c V _ z2).mono ?_
    rintro _ V ⟨rfl, rfl⟩
    simp (disch := omega) only [↓stp, vls, inf, frs, mark_eq, ↓reduceIte, Nat.reduceEqDiff, ite_tt, ite_ff, eq_self, and_true, true_and, and_self, implies_true, Bool.true_eq_false, Bool.false_eq_true, decide_true, decide_false, decide_eq_true_eq, decide_eq_false_iff_not, ne_eq, not_true_eq_false, not_false_eq_true, Bool.not_eq_true', Bool.not_eq_false', beq_self_eq_true, Bool.not_true, Bool.not_false, List.getElem?_toArray, List.getElem?_cons_zero, List.getElem?_cons_succ, e1, Bool.true_and]
    refine ⟨fun e2 => ?_, fun e2 => ?_⟩ <;> simp (disch := omega) only [↓stp, vls, inf, frs, mark_eq, ↓reduceIte, Nat.reduceEqDiff, ite_tt, ite_ff, eq_self, and_true, true_and, and_self, implies_true, Bool.true_eq_false, Bool.false_eq_true, decide_true, decide_false, decide_eq_true_eq, decide_eq_false_iff_not, ne_eq, not_true_eq_false, not_false_eq_true, Bool.not_eq_true', Bool.not_eq_false', beq_self_eq_true, Bool.not_true, Bool.not_false, List.getElem?_toArray, List.getElem?_cons_zero, List.getElem?_cons_succ, e1, e2, add_at, k2, Bool.true_and, Bool.false_and]
    · refine (impl_namesOk_c V _ _ 3 (g2.mono he)).mono ?_
      rintro _ V ⟨rfl, rfl⟩
      simp (disch := omega) only [↓stp, vls, inf, frs, mark_eq, ↓reduceIte, Nat.reduceEqDiff, ite_tt, ite_ff, eq_self, and_true, true_and, and_self, implies_true, Bool.true_eq_false, Bool.false_eq_true, decide_true, decide_false, decide_eq_true_eq, decide_eq_false_iff_not, ne_eq, not_true_eq_false, not_false_eq_true, Bool.not_eq_true', Bool.not_eq_false', beq_self_eq_true, Bool.not_true, Bool.not_false, List.getElem?_toArray, List.getElem?_cons_zero, List.getElem?_cons_succ, e1, e2]
      refine ⟨fun e3 => ?_, fun e3 => ?_⟩ <;> simp (disch := omega) only [↓stp, vls, inf, frs, mark_eq, ↓reduceIte, Nat.reduceEqDiff, ite_tt, ite_ff, eq_self, and_true, true_and, and_self, implies_true, Bool.true_eq_false, Bool.false_eq_true, decide_true, decide_false, decide_eq_true_eq, decide_eq_false_iff_not, ne_eq, not_true_eq_false, not_false_eq_true, Bool.not_eq_true', Bool.not_eq_false', beq_self_eq_true, Bool.not_true, Bool.not_false, List.getElem?_toArray, List.getElem?_cons_zero, List.getElem?_cons_succ, e1, e2, e3, add_at, k2, Bool.true_and, Bool.false_and]
      · refine (isSorted_c V _ _ (g2.mono he)).mono ?_
        rintro _ V ⟨rfl, rfl⟩
        simp (disch := omega) only [↓stp, vls, inf, frs, mark_eq, ↓reduceIte, Nat.reduceEqDiff, ite_tt, ite_ff, eq_self, and_true, true_and, and_self, implies_true, Bool.true_eq_false, Bool.false_eq_true, decide_true, decide_false, decide_eq_true_eq, decide_eq_false_iff_not, ne_eq, not_true_eq_false, not_false_eq_true, Bool.not_eq_true', Bool.not_eq_false', beq_self_eq_true, Bool.not_true, Bool.not_false, List.getElem?_toArray, List.getElem?_cons_zero, List.getElem?_cons_succ, e1, e2, e3]
        refine ⟨fun e4 => ?_, fun e4 => ?_⟩ <;> simp (disch := omega) only [↓stp, vls, inf, frs, mark_eq, ↓reduceIte, Nat.reduceEqDiff, ite_tt, ite_ff, eq_self, and_true, true_and, and_self, implies_true, Bool.true_eq_false, Bool.false_eq_true, decide_true, decide_false, decide_eq_true_eq, decide_eq_false_iff_not, ne_eq, not_true_eq_false, not_false_eq_true, Bool.not_eq_true', Bool.not_eq_false', beq_self_eq_true, Bool.not_true, Bool.not_false, List.getElem?_toArray, List.getElem?_cons_zero, List.getElem?_cons_succ, e1, e2, e3, e4, add_at, k3, Bool.true_and, Bool.false_and]
        · refine (impl_namesOk_c V _ _ 4 (g3.mono he)).mono ?_
          rintro _ V ⟨rfl, rfl⟩
          simp (disch := omega) only [↓stp, vls, inf, frs, mark_eq, ↓reduceIte, Nat.reduceEqDiff, ite_tt, ite_ff, eq_self, and_true, true_and, and_self, implies_true, Bool.true_eq_false, Bool.false_eq_true, decide_true, decide_false, decide_eq_true_eq, decide_eq_false_iff_not, ne_eq, not_true_eq_false, not_false_eq_true, Bool.not_eq_true', Bool.not_eq_false', beq_self_eq_true, Bool.not_true, Bool.not_false, List.getElem?_toArray, List.getElem?_cons_zero, List.getElem?_cons_succ, e1, e2, e3, e4]
          exact ⟨rfl, he⟩
        · exact he
      · exact he
    · exact he
  · simp only [Bool.false_and]
    exact ⟨trivial, he⟩

theorem impl_idOf_c (A : View) (d : List Value) (x : TestD) (h : testS.rel A x d) : ACalls Try.prog 44 #[.agg d.toArray] A fun r A' => r = .string (idD x) ∧ Ext A A' := by
  obtain ⟨u2, u3, rfl, z1, z2, g2, g3⟩ := testS_open h
  obtain ⟨a2, c2, rfl, _, _⟩ := g2.slice
  obtain ⟨a3, c3, rfl, _, _⟩ := g3.slice
  refine acalls Try.func44 rfl (by kernel_rfl) ?_
  simp (disch := omega) only [↓stp, vls, inf, frs, mark_eq, ↓reduceIte, Nat.reduceEqDiff, ite_tt, ite_ff, eq_self, and_true, true_and, and_self, implies_true, Bool.true_eq_false, Bool.false_eq_true, decide_true, decide_false, decide_eq_true_eq, decide_eq_false_iff_not, ne_eq, not_true_eq_false, not_false_eq_true, Bool.not_eq_true', Bool.not_eq_false', beq_self_eq_true, Bool.not_true, Bool.not_false, List.getElem?_toArray, List.getElem?_cons_zero, List.getElem?_cons_succ]
  refine led_box (Led.nil A) rfl fun q V he l => ?_
  have k0 := l.cell (i := 0) rfl (o := 0) rfl rfl
  have k1 := l.cell (i := 0) rfl (o := 1) rfl rfl
  have hz : (x.1 ++ (⟨#[46]⟩ : ByteArray)).size = x.1.size + 1 := by rw [ByteArray.size_append]; rfl
  simp (disch := omega) only [↓stp, vls, inf, frs, mark_eq, ↓reduceIte, Nat.reduceEqDiff, ite_tt, ite_ff, eq_self, and_true, true_and, and_self, implies_true, Bool.true_eq_false, Bool.false_eq_true, decide_true, decide_false, decide_eq_true_eq, decide_eq_false_iff_not, ne_eq, not_true_eq_false, not_false_eq_true, Bool.not_eq_true', Bool.not_eq_false', beq_self_eq_true, Bool.not_true, Bool.not_false, List.getElem?_toArray, List.getElem?_cons_zero, List.getElem?_cons_succ, add_at, k0]
  rw [abin_cat _ _ _ (by show _ + 1 ≤ _; omega)]
  simp (disch := omega) only [↓stp, vls, inf, frs, mark_eq, ↓reduceIte, Nat.reduceEqDiff, ite_tt, ite_ff, eq_self, and_true, true_and, and_self, implies_true, Bool.true_eq_false, Bool.false_eq_true, decide_true, decide_false, decide_eq_true_eq, decide_eq_false_iff_not, ne_eq, not_true_eq_false, not_false_eq_true, Bool.not_eq_true', Bool.not_eq_false', beq_self_eq_true, Bool.not_true, Bool.not_false, List.getElem?_toArray, List.getElem?_cons_zero, List.getElem?_cons_succ, add_at, k1]
  exact ⟨rfl, he⟩

theorem spec_idOf_c (A : View) (d : List Value) (x : TestD) (h : testS.rel A x d) : ACalls Try.prog 52 #[.agg d.toArray] A fun r A' => r = .string (idD x) ∧ Ext A A' := by
  obtain ⟨u2, u3, rfl, z1, z2, g2, g3⟩ := testS_open h
  obtain ⟨a2, c2, rfl, _, _⟩ := g2.slice
  obtain ⟨a3, c3, rfl, _, _⟩ := g3.slice
  refine acalls Try.func52 rfl (by kernel_rfl) ?_
  simp (disch := omega) only [↓stp, vls, inf, frs, mark_eq, ↓reduceIte, Nat.reduceEqDiff, ite_tt, ite_ff, eq_self, and_true, true_and, and_self, implies_true, Bool.true_eq_false, Bool.false_eq_true, decide_true, decide_false, decide_eq_true_eq, decide_eq_false_iff_not, ne_eq, not_true_eq_false, not_false_eq_true, Bool.not_eq_true', Bool.not_eq_false', beq_self_eq_true, Bool.not_true, Bool.not_false, List.getElem?_toArray, List.getElem?_cons_zero, List.getElem?_cons_succ]
  refine led_box (Led.nil A) rfl fun q V he l => ?_
  have k0 := l.cell (i := 0) rfl (o := 0) rfl rfl
  have k1 := l.cell (i := 0) rfl (o := 1) rfl rfl
  have hz : (x.1 ++ (⟨#[46]⟩ : ByteArray)).size = x.1.size + 1 := by rw [ByteArray.size_append]; rfl
  simp (disch := omega) only [↓stp, vls, inf, frs, mark_eq, ↓reduceIte, Nat.reduceEqDiff, ite_tt, ite_ff, eq_self, and_true, true_and, and_self, implies_true, Bool.true_eq_false, Bool.false_eq_true, decide_true, decide_false, decide_eq_true_eq, decide_eq_false_iff_not, ne_eq, not_true_eq_false, not_false_eq_true, Bool.not_eq_true', Bool.not_eq_false', beq_self_eq_true, Bool.not_true, Bool.not_false, List.getElem?_toArray, List.getElem?_cons_zero, List.getElem?_cons_succ, add_at, k0]
  rw [abin_cat _ _ _ (by show _ + 1 ≤ _; omega)]
  simp (disch := omega) only [↓stp, vls, inf, frs, mark_eq, ↓reduceIte, Nat.reduceEqDiff, ite_tt, ite_ff, eq_self, and_true, true_and, and_self, implies_true, Bool.true_eq_false, Bool.false_eq_true, decide_true, decide_false, decide_eq_true_eq, decide_eq_false_iff_not, ne_eq, not_true_eq_false, not_false_eq_true, Bool.not_eq_true', Bool.not_eq_false', beq_self_eq_true, Bool.not_true, Bool.not_false, List.getElem?_toArray, List.getElem?_cons_zero, List.getElem?_cons_succ, add_at, k1]
  exact ⟨rfl, he⟩

noncomputable def testsB (xs : List TestD) : Bool := xs.all testB && decide (xs.map idD).Nodup && decide (xs.length ≤ 10)

theorem map_take2 {α β : Type} {f : α → β} {xs : List α} {i : Nat} : (xs.take i).map f = (xs.map f).take i := List.map_take

theorem spec_findTest_c (A : View) (v : Value) (xs : List TestD) (id : ByteArray) (h : Sl testS A v xs) : ACalls Try.prog 80 #[v, .string id] A fun r A' => r = .int .i64 (idxI (fun x => decide (idD x = id)) xs) ∧ Ext A A' := by
  obtain ⟨a, c, rfl, hc, hl⟩ := h.slice
  refine acalls Try.func80 rfl (by kernel_rfl) ?_
  simp (disch := omega) only [↓stp, vls, inf, frs, mark_eq, ↓reduceIte, Nat.reduceEqDiff, ite_tt, ite_ff, eq_self, and_true, true_and, and_self, implies_true, Bool.true_eq_false, Bool.false_eq_true, decide_true, decide_false, decide_eq_true_eq, decide_eq_false_iff_not, ne_eq, not_true_eq_false, not_false_eq_true, Bool.not_eq_true', Bool.not_eq_false', beq_self_eq_true, Bool.not_true, Bool.not_false, List.getElem?_toArray, List.getElem?_cons_zero, List.getElem?_cons_succ]
  refine aloop (fun d fr V => ∃ i : Nat, i ≤ xs.length ∧ d = xs.length - i ∧ Ext A V ∧ fr 0 = .slice a xs.length c ∧ fr 1 = .string id ∧ fr 5 = .int .i64 i ∧ (∀ j (hj : j < i) (hl : j < xs.length), decide (idD xs[j] = id) = false)) xs.length ⟨0, by omega, by omega, Ext.refl _, rfl, rfl, by rfl, by omega⟩ ?_
  rintro d fr V ⟨i, hi, rfl, he, h0, h1, h5, hn⟩
  simp (disch := omega) only [↓stp, vls, inf, frs, mark_eq, ↓reduceIte, Nat.reduceEqDiff, ite_tt, ite_ff, eq_self, and_true, true_and, and_self, implies_true, Bool.true_eq_false, Bool.false_eq_true, decide_true, decide_false, decide_eq_true_eq, decide_eq_false_iff_not, ne_eq, not_true_eq_false, not_false_eq_true, Bool.not_eq_true', Bool.not_eq_false', beq_self_eq_true, Bool.not_true, Bool.not_false, List.getElem?_toArray, List.getElem?_cons_zero, List.getElem?_cons_succ, h0, h1, h5]
  refine ⟨fun e => ?_, fun e => ?_⟩
  · have hlt : i < xs.length := by omega
    obtain ⟨ad, d, rfl, hd, hcl, _⟩ := (h.mono he).at hlt
    have hcl : V.part (ad.add (i * 4)) 4 = some d := hcl
    simp (disch := omega) only [↓stp, vls, inf, frs, mark_eq, ↓reduceIte, Nat.reduceEqDiff, ite_tt, ite_ff, eq_self, and_true, true_and, and_self, implies_true, Bool.true_eq_false, Bool.false_eq_true, decide_true, decide_false, decide_eq_true_eq, decide_eq_false_iff_not, ne_eq, not_true_eq_false, not_false_eq_true, Bool.not_eq_true', Bool.not_eq_false', beq_self_eq_true, Bool.not_true, Bool.not_false, List.getElem?_toArray, List.getElem?_cons_zero, List.getElem?_cons_succ, h0, h1, h5, hcl]
    refine (spec_idOf_c V d xs[i] hd).mono ?_
    rintro _ V2 ⟨rfl, he2⟩
    simp (disch := omega) only [↓stp, vls, inf, frs, mark_eq, ↓reduceIte, Nat.reduceEqDiff, ite_tt, ite_ff, eq_self, and_true, true_and, and_self, implies_true, Bool.true_eq_false, Bool.false_eq_true, decide_true, decide_false, decide_eq_true_eq, decide_eq_false_iff_not, ne_eq, not_true_eq_false, not_false_eq_true, Bool.not_eq_true', Bool.not_eq_false', beq_self_eq_true, Bool.not_true, Bool.not_false, List.getElem?_toArray, List.getElem?_cons_zero, List.getElem?_cons_succ, h0, h1, h5]
    refine ⟨fun e1 => ?_, fun e1 => ?_⟩ <;> simp (disch := omega) only [↓stp, vls, inf, frs, mark_eq, ↓reduceIte, Nat.reduceEqDiff, ite_tt, ite_ff, eq_self, and_true, true_and, and_self, implies_true, Bool.true_eq_false, Bool.false_eq_true, decide_true, decide_false, decide_eq_true_eq, decide_eq_false_iff_not, ne_eq, not_true_eq_false, not_false_eq_true, Bool.not_eq_true', Bool.not_eq_false', beq_self_eq_true, Bool.not_true, Bool.not_false, List.getElem?_toArray, List.getElem?_cons_zero, List.getElem?_cons_succ, h0, h1, h5]
    · rw [idxI_found hlt (fun j hj => hn j hj (by omega)) (decide_eq_true e1)]
      exact ⟨rfl, he.trans he2⟩
    · refine ⟨_, by omega, i + 1, by omega, rfl, he.trans he2, rfl, fun j hj hl => ?_⟩
      by_cases hji : j = i
      · subst hji; exact e1
      · exact of_decide_eq_false (hn j (by omega) hl)
  · simp (disch := omega) only [↓stp, vls, inf, frs, mark_eq, ↓reduceIte, Nat.reduceEqDiff, ite_tt, ite_ff, eq_self, and_true, true_and, and_self, implies_true, Bool.true_eq_false, Bool.false_eq_true, decide_true, decide_false, decide_eq_true_eq, decide_eq_false_iff_not, ne_eq, not_true_eq_false, not_false_eq_true, Bool.not_eq_true', Bool.not_eq_false', beq_self_eq_true, Bool.not_true, Bool.not_false, List.getElem?_toArray, List.getElem?_cons_zero, List.getElem?_cons_succ, h0, h1, h5]
    rw [idxI_none (fun j hj => hn j (by omega) hj)]
    exact ⟨rfl, he⟩

theorem spec_validTest_c (A : View) (d : List Value) (x : TestD) (h : testS.rel A x d) : ACalls Try.prog 103 #[.agg d.toArray] A fun r A' => r = .bool (testB x) ∧ Ext A A' := by
  obtain ⟨u2, u3, rfl, z1, z2, g2, g3⟩ := testS_open h
  obtain ⟨a2, c2, rfl, _, _⟩ := g2.slice
  obtain ⟨a3, c3, rfl, _, _⟩ := g3.slice
  refine acalls Try.func103 rfl (by kernel_rfl) ?_
  simp (disch := omega) only [↓stp, vls, inf, frs, mark_eq, ↓reduceIte, Nat.reduceEqDiff, ite_tt, ite_ff, eq_self, and_true, true_and, and_self, implies_true, Bool.true_eq_false, Bool.false_eq_true, decide_true, decide_false, decide_eq_true_eq, decide_eq_false_iff_not, ne_eq, not_true_eq_false, not_false_eq_true, Bool.not_eq_true', Bool.not_eq_false', beq_self_eq_true, Bool.not_true, Bool.not_false, List.getElem?_toArray, List.getElem?_cons_zero, List.getElem?_cons_succ]
  refine led_box (Led.nil A) rfl fun q V he l => ?_
  have k0 := l.cell (i := 0) rfl (o := 0) rfl rfl
  have k1 := l.cell (i := 0) rfl (o := 1) rfl rfl
  have k2 := l.cell (i := 0) rfl (o := 2) rfl rfl
  have k3 := l.cell (i := 0) rfl (o := 3) rfl rfl
  simp (disch := omega) only [↓stp, vls, inf, frs, mark_eq, ↓reduceIte, Nat.reduceEqDiff, ite_tt, ite_ff, eq_self, and_true, true_and, and_self, implies_true, Bool.true_eq_false, Bool.false_eq_true, decide_true, decide_false, decide_eq_true_eq, decide_eq_false_iff_not, ne_eq, not_true_eq_false, not_false_eq_true, Bool.not_eq_true', Bool.not_eq_false', beq_self_eq_true, Bool.not_true, Bool.not_false, List.getElem?_toArray, List.getElem?_cons_zero, List.getElem?_cons_succ, add_at, k0]
  refine (spec_validName_c V _ z1).mono ?_
  rintro _ V ⟨rfl, rfl⟩
  simp (disch := omega) only [↓stp, vls, inf, frs, mark_eq, ↓reduceIte, Nat.reduceEqDiff, ite_tt, ite_ff, eq_self, and_true, true_and, and_self, implies_true, Bool.true_eq_false, Bool.false_eq_true, decide_true, decide_false, decide_eq_true_eq, decide_eq_false_iff_not, ne_eq, not_true_eq_false, not_false_eq_true, Bool.not_eq_true', Bool.not_eq_false', beq_self_eq_true, Bool.not_true, Bool.not_false, List.getElem?_toArray, List.getElem?_cons_zero, List.getElem?_cons_succ]
  unfold testB
  refine ⟨fun e1 => ?_, fun e1 => ?_⟩ <;> simp (disch := omega) only [↓stp, vls, inf, frs, mark_eq, ↓reduceIte, Nat.reduceEqDiff, ite_tt, ite_ff, eq_self, and_true, true_and, and_self, implies_true, Bool.true_eq_false, Bool.false_eq_true, decide_true, decide_false, decide_eq_true_eq, decide_eq_false_iff_not, ne_eq, not_true_eq_false, not_false_eq_true, Bool.not_eq_true', Bool.not_eq_false', beq_self_eq_true, Bool.not_true, Bool.not_false, List.getElem?_toArray, List.getElem?_cons_zero, List.getElem?_cons_succ, e1, add_at, k1]
  · refine (spec_validName_c V _ z2).mono ?_
    rintro _ V ⟨rfl, rfl⟩
    simp (disch := omega) only [↓stp, vls, inf, frs, mark_eq, ↓reduceIte, Nat.reduceEqDiff, ite_tt, ite_ff, eq_self, and_true, true_and, and_self, implies_true, Bool.true_eq_false, Bool.false_eq_true, decide_true, decide_false, decide_eq_true_eq, decide_eq_false_iff_not, ne_eq, not_true_eq_false, not_false_eq_true, Bool.not_eq_true', Bool.not_eq_false', beq_self_eq_true, Bool.not_true, Bool.not_false, List.getElem?_toArray, List.getElem?_cons_zero, List.getElem?_cons_succ, e1, Bool.true_and]
    refine ⟨fun e2 => ?_, fun e2 => ?_⟩ <;> simp (disch := omega) only [↓stp, vls, inf, frs, mark_eq, ↓reduceIte, Nat.reduceEqDiff, ite_tt, ite_ff, eq_self, and_true, true_and, and_self, implies_true, Bool.true_eq_false, Bool.false_eq_true, decide_true, decide_false, decide_eq_true_eq, decide_eq_false_iff_not, ne_eq, not_true_eq_false, not_false_eq_true, Bool.not_eq_true', Bool.not_eq_false', beq_self_eq_true, Bool.not_true, Bool.not_false, List.getElem?_toArray, List.getElem?_cons_zero, List.getElem?_cons_succ, e1, e2, add_at, k2, Bool.true_and, Bool.false_and]
    · refine (spec_validNames_c V _ _ 3 (g2.mono he)).mono ?_
      rintro _ V ⟨rfl, rfl⟩
      simp (disch := omega) only [↓stp, vls, inf, frs, mark_eq, ↓reduceIte, Nat.reduceEqDiff, ite_tt, ite_ff, eq_self, and_true, true_and, and_self, implies_true, Bool.true_eq_false, Bool.false_eq_true, decide_true, decide_false, decide_eq_true_eq, decide_eq_false_iff_not, ne_eq, not_true_eq_false, not_false_eq_true, Bool.not_eq_true', Bool.not_eq_false', beq_self_eq_true, Bool.not_true, Bool.not_false, List.getElem?_toArray, List.getElem?_cons_zero, List.getElem?_cons_succ, e1, e2]
      refine ⟨fun e3 => ?_, fun e3 => ?_⟩ <;> simp (disch := omega) only [↓stp, vls, inf, frs, mark_eq, ↓reduceIte, Nat.reduceEqDiff, ite_tt, ite_ff, eq_self, and_true, true_and, and_self, implies_true, Bool.true_eq_false, Bool.false_eq_true, decide_true, decide_false, decide_eq_true_eq, decide_eq_false_iff_not, ne_eq, not_true_eq_false, not_false_eq_true, Bool.not_eq_true', Bool.not_eq_false', beq_self_eq_true, Bool.not_true, Bool.not_false, List.getElem?_toArray, List.getElem?_cons_zero, List.getElem?_cons_succ, e1, e2, e3, add_at, k2, Bool.true_and, Bool.false_and]
      · refine (spec_ascending_c V _ _ (g2.mono he)).mono ?_
        have hq : @decide (AscS x.2.2.1) (Classical.propDecidable _) = ascB x.2.2.1 := by
          unfold ascB
          congr 1
          exact propext (ascS_iff (namesB_nodup e3))
        rw [hq]
        rintro _ V ⟨rfl, rfl⟩
        simp (disch := omega) only [↓stp, vls, inf, frs, mark_eq, ↓reduceIte, Nat.reduceEqDiff, ite_tt, ite_ff, eq_self, and_true, true_and, and_self, implies_true, Bool.true_eq_false, Bool.false_eq_true, decide_true, decide_false, decide_eq_true_eq, decide_eq_false_iff_not, ne_eq, not_true_eq_false, not_false_eq_true, Bool.not_eq_true', Bool.not_eq_false', beq_self_eq_true, Bool.not_true, Bool.not_false, List.getElem?_toArray, List.getElem?_cons_zero, List.getElem?_cons_succ, e1, e2, e3]
        refine ⟨fun e4 => ?_, fun e4 => ?_⟩ <;> simp (disch := omega) only [↓stp, vls, inf, frs, mark_eq, ↓reduceIte, Nat.reduceEqDiff, ite_tt, ite_ff, eq_self, and_true, true_and, and_self, implies_true, Bool.true_eq_false, Bool.false_eq_true, decide_true, decide_false, decide_eq_true_eq, decide_eq_false_iff_not, ne_eq, not_true_eq_false, not_false_eq_true, Bool.not_eq_true', Bool.not_eq_false', beq_self_eq_true, Bool.not_true, Bool.not_false, List.getElem?_toArray, List.getElem?_cons_zero, List.getElem?_cons_succ, e1, e2, e3, e4, add_at, k3, Bool.true_and, Bool.false_and]
        · refine (spec_validNames_c V _ _ 4 (g3.mono he)).mono ?_
          rintro _ V ⟨rfl, rfl⟩
          simp (disch := omega) only [↓stp, vls, inf, frs, mark_eq, ↓reduceIte, Nat.reduceEqDiff, ite_tt, ite_ff, eq_self, and_true, true_and, and_self, implies_true, Bool.true_eq_false, Bool.false_eq_true, decide_true, decide_false, decide_eq_true_eq, decide_eq_false_iff_not, ne_eq, not_true_eq_false, not_false_eq_true, Bool.not_eq_true', Bool.not_eq_false', beq_self_eq_true, Bool.not_true, Bool.not_false, List.getElem?_toArray, List.getElem?_cons_zero, List.getElem?_cons_succ, e1, e2, e3, e4]
          exact ⟨rfl, he⟩
        · exact he
      · exact he
    · exact he
  · simp only [Bool.false_and]
    exact ⟨trivial, he⟩

theorem idx_in {xs : List TestD} {id : ByteArray} : (0 ≤ idxI (fun x => decide (idD x = id)) xs) ↔ id ∈ xs.map idD := by
  rw [idxI_ge, List.any_eq_true, List.mem_map]
  simp

theorem spec_validTests_c (A : View) (v : Value) (xs : List TestD) (h : Sl testS A v xs) : ACalls Try.prog 87 #[v] A fun r A' => r = .bool (testsB xs) ∧ Ext A A' := by
  obtain ⟨a, c, rfl, hc, hl⟩ := h.slice
  refine acalls Try.func87 rfl (by kernel_rfl) ?_
  simp (disch := omega) only [↓stp, vls, inf, frs, mark_eq, ↓reduceIte, Nat.reduceEqDiff, ite_tt, ite_ff, eq_self, and_true, true_and, and_self, implies_true, Bool.true_eq_false, Bool.false_eq_true, decide_true, decide_false, decide_eq_true_eq, decide_eq_false_iff_not, ne_eq, not_true_eq_false, not_false_eq_true, Bool.not_eq_true', Bool.not_eq_false', beq_self_eq_true, Bool.not_true, Bool.not_false, List.getElem?_toArray, List.getElem?_cons_zero, List.getElem?_cons_succ]
  refine aloop (fun d fr V => ∃ i : Nat, i ≤ xs.length ∧ d = xs.length - i ∧ Ext A V ∧ fr 0 = .slice a xs.length c ∧ fr 3 = .int .i64 i ∧ (xs.take i).all testB = true ∧ ((xs.map idD).take i).Nodup) xs.length ⟨0, by omega, by omega, Ext.refl _, rfl, by rfl, by simp, by simp⟩ ?_
  rintro d fr V ⟨i, hi, rfl, he, h0, h3, hn, hn2⟩
  simp (disch := omega) only [↓stp, vls, inf, frs, mark_eq, ↓reduceIte, Nat.reduceEqDiff, ite_tt, ite_ff, eq_self, and_true, true_and, and_self, implies_true, Bool.true_eq_false, Bool.false_eq_true, decide_true, decide_false, decide_eq_true_eq, decide_eq_false_iff_not, ne_eq, not_true_eq_false, not_false_eq_true, Bool.not_eq_true', Bool.not_eq_false', beq_self_eq_true, Bool.not_true, Bool.not_false, List.getElem?_toArray, List.getElem?_cons_zero, List.getElem?_cons_succ, h0, h3]
  refine ⟨fun e => ?_, fun e => ?_⟩
  · have hlt : i < xs.length := by omega
    have hg : (xs.map idD)[i]'(by rw [List.length_map]; exact hlt) = idD xs[i] := by rw [List.getElem_map]
    obtain ⟨ad, d, rfl, hd, hcl, _⟩ := (h.mono he).at hlt
    have hcl : V.part (ad.add (i * 4)) 4 = some d := hcl
    simp (disch := omega) only [↓stp, vls, inf, frs, mark_eq, ↓reduceIte, Nat.reduceEqDiff, ite_tt, ite_ff, eq_self, and_true, true_and, and_self, implies_true, Bool.true_eq_false, Bool.false_eq_true, decide_true, decide_false, decide_eq_true_eq, decide_eq_false_iff_not, ne_eq, not_true_eq_false, not_false_eq_true, Bool.not_eq_true', Bool.not_eq_false', beq_self_eq_true, Bool.not_true, Bool.not_false, List.getElem?_toArray, List.getElem?_cons_zero, List.getElem?_cons_succ, h0, h3]
    refine adraw_items [.q 0, .q 1, .q 2, .l 3 false, .c 4 [], .q 5, .q 6, .q 7, .q 8, .q 9, .q 10, .q 11, .q 12, .l 13 false, .c 14 [], .c 15 [], .q 16, .q 17] (by kernel_rfl) (by kernel_rfl) ?_
    simp (disch := omega) only [↓stp, ↓pln, plv, nilOk, Nat.reduceBEq, Bool.or_false, Bool.or_true, Bool.false_or, Bool.true_or, vls, inf, frs, mark_eq, ↓reduceIte, Nat.reduceEqDiff, ite_tt, ite_ff, eq_self, and_true, true_and, and_self, implies_true, Bool.true_eq_false, Bool.false_eq_true, decide_true, decide_false, decide_eq_true_eq, decide_eq_false_iff_not, ne_eq, not_true_eq_false, not_false_eq_true, Bool.not_eq_true', Bool.not_eq_false', beq_self_eq_true, Bool.not_true, Bool.not_false, List.getElem?_toArray, List.getElem?_cons_zero, List.getElem?_cons_succ, h0, h3, hcl]
    refine (spec_validTest_c V d xs[i] hd).mono ?_
    rintro _ V2 ⟨rfl, he2⟩
    obtain ⟨_, d', hq, hd', hcl', _⟩ := (h.mono (he.trans he2)).at hlt
    obtain rfl := Option.some.inj hq
    have hcl' : V2.part (ad.add (i * 4)) 4 = some d' := hcl'
    simp (disch := omega) only [↓stp, ↓pln, plv, nilOk, Nat.reduceBEq, Bool.or_false, Bool.or_true, Bool.false_or, Bool.true_or, vls, inf, frs, mark_eq, ↓reduceIte, Nat.reduceEqDiff, ite_tt, ite_ff, eq_self, and_true, true_and, and_self, implies_true, Bool.true_eq_false, Bool.false_eq_true, decide_true, decide_false, decide_eq_true_eq, decide_eq_false_iff_not, ne_eq, not_true_eq_false, not_false_eq_true, Bool.not_eq_true', Bool.not_eq_false', beq_self_eq_true, Bool.not_true, Bool.not_false, List.getElem?_toArray, List.getElem?_cons_zero, List.getElem?_cons_succ, h0, h3, hcl']
    refine ⟨fun e1 => ?_, fun e1 => ?_⟩ <;> simp (disch := omega) only [↓stp, ↓pln, plv, nilOk, Nat.reduceBEq, Bool.or_false, Bool.or_true, Bool.false_or, Bool.true_or, vls, inf, frs, mark_eq, ↓reduceIte, Nat.reduceEqDiff, ite_tt, ite_ff, eq_self, and_true, true_and, and_self, implies_true, Bool.true_eq_false, Bool.false_eq_true, decide_true, decide_false, decide_eq_true_eq, decide_eq_false_iff_not, ne_eq, not_true_eq_false, not_false_eq_true, Bool.not_eq_true', Bool.not_eq_false', beq_self_eq_true, Bool.not_true, Bool.not_false, List.getElem?_toArray, List.getElem?_cons_zero, List.getElem?_cons_succ, h0, h3, e1, hcl']
    · refine (spec_idOf_c V2 d' xs[i] hd').mono ?_
      rintro _ V3 ⟨rfl, he3⟩
      have hcl3 : V3.part (ad.add (i * 4)) 4 = some d' := he3.part hcl'
      simp (disch := omega) only [↓stp, ↓pln, plv, nilOk, Nat.reduceBEq, Bool.or_false, Bool.or_true, Bool.false_or, Bool.true_or, vls, inf, frs, mark_eq, ↓reduceIte, Nat.reduceEqDiff, ite_tt, ite_ff, eq_self, and_true, true_and, and_self, implies_true, Bool.true_eq_false, Bool.false_eq_true, decide_true, decide_false, decide_eq_true_eq, decide_eq_false_iff_not, ne_eq, not_true_eq_false, not_false_eq_true, Bool.not_eq_true', Bool.not_eq_false', beq_self_eq_true, Bool.not_true, Bool.not_false, List.getElem?_toArray, List.getElem?_cons_zero, List.getElem?_cons_succ, h0, h3, e1, hcl3]
      refine (spec_findTest_c V3 _ (xs.take i) _ ((h.mono (he.trans (he2.trans he3))).take (by omega) 4)).mono ?_
      rintro _ V4 ⟨rfl, he4⟩
      have hE := he.trans (he2.trans (he3.trans he4))
      simp (disch := omega) only [↓stp, ↓pln, plv, nilOk, Nat.reduceBEq, Bool.or_false, Bool.or_true, Bool.false_or, Bool.true_or, vls, inf, frs, mark_eq, ↓reduceIte, Nat.reduceEqDiff, ite_tt, ite_ff, eq_self, and_true, true_and, and_self, implies_true, Bool.true_eq_false, Bool.false_eq_true, decide_true, decide_false, decide_eq_true_eq, decide_eq_false_iff_not, ne_eq, not_true_eq_false, not_false_eq_true, Bool.not_eq_true', Bool.not_eq_false', beq_self_eq_true, Bool.not_true, Bool.not_false, List.getElem?_toArray, List.getElem?_cons_zero, List.getElem?_cons_succ, h0, h3, e1]
      refine ⟨fun e2 => ?_, fun e2 => ?_⟩ <;> simp (disch := omega) only [↓stp, vls, inf, frs, mark_eq, ↓reduceIte, Nat.reduceEqDiff, ite_tt, ite_ff, eq_self, and_true, true_and, and_self, implies_true, Bool.true_eq_false, Bool.false_eq_true, decide_true, decide_false, decide_eq_true_eq, decide_eq_false_iff_not, ne_eq, not_true_eq_false, not_false_eq_true, Bool.not_eq_true', Bool.not_eq_false', beq_self_eq_true, Bool.not_true, Bool.not_false, List.getElem?_toArray, List.getElem?_cons_zero, List.getElem?_cons_succ, h0, h3]
      · rw [idx_in, map_take2, ← hg] at e2
        refine ⟨?_, hE⟩
        have : ¬ (xs.map idD).Nodup := nodup_no _ e2
        simp [testsB, this]
      · rw [idx_in, map_take2, ← hg] at e2
        exact ⟨_, by omega, i + 1, by omega, rfl, hE, rfl, all_take hlt hn e1, (nodup_take_succ (by rw [List.length_map]; exact hlt)).2 ⟨hn2, e2⟩⟩
    · refine ⟨?_, he.trans he2⟩
      simp [testsB, all_no (p := testB) hlt e1]
  · simp (disch := omega) only [↓stp, vls, inf, frs, mark_eq, ↓reduceIte, Nat.reduceEqDiff, ite_tt, ite_ff, eq_self, and_true, true_and, and_self, implies_true, Bool.true_eq_false, Bool.false_eq_true, decide_true, decide_false, decide_eq_true_eq, decide_eq_false_iff_not, ne_eq, not_true_eq_false, not_false_eq_true, Bool.not_eq_true', Bool.not_eq_false', beq_self_eq_true, Bool.not_true, Bool.not_false, List.getElem?_toArray, List.getElem?_cons_zero, List.getElem?_cons_succ, h0, h3]
    rw [List.take_of_length_le (by omega)] at hn
    rw [List.take_of_length_le (by rw [List.length_map]; omega)] at hn2
    refine ⟨?_, he⟩
    unfold testsB
    rw [hn, decide_eq_true hn2]
    congr 1
    rw [Bool.true_and, Bool.true_and]
    exact decide_eq_decide.2 (by omega)

theorem impl_validTests_c (A : View) (v : Value) (xs : List TestD) (h : Sl testS A v xs) (hsm : xs.length ≤ 16777215) : ACalls Try.prog 92 #[v] A fun r A' => r = .bool (testsB xs) ∧ Ext A A' := by
  obtain ⟨a, c, rfl, hc, hl⟩ := h.slice
  refine acalls Try.func92 rfl (by kernel_rfl) ?_
  simp (disch := omega) only [↓stp, vls, inf, frs, mark_eq, ↓reduceIte, Nat.reduceEqDiff, ite_tt, ite_ff, eq_self, and_true, true_and, and_self, implies_true, Bool.true_eq_false, Bool.false_eq_true, decide_true, decide_false, decide_eq_true_eq, decide_eq_false_iff_not, ne_eq, not_true_eq_false, not_false_eq_true, Bool.not_eq_true', Bool.not_eq_false', beq_self_eq_true, Bool.not_true, Bool.not_false, List.getElem?_toArray, List.getElem?_cons_zero, List.getElem?_cons_succ]
  refine led_lit0 (O := strO) li54 (Led.nil A) fun b V _ l => ?_
  simp (disch := omega) only [↓stp, vls, inf, frs, mark_eq, ↓reduceIte, Nat.reduceEqDiff, ite_tt, ite_ff, eq_self, and_true, true_and, and_self, implies_true, Bool.true_eq_false, Bool.false_eq_true, decide_true, decide_false, decide_eq_true_eq, decide_eq_false_iff_not, ne_eq, not_true_eq_false, not_false_eq_true, Bool.not_eq_true', Bool.not_eq_false', beq_self_eq_true, Bool.not_true, Bool.not_false, List.getElem?_toArray, List.getElem?_cons_zero, List.getElem?_cons_succ]
  refine aloop (fun d fr V => ∃ (i : Nat) (fp : List Nat) (w : Value), i ≤ xs.length ∧ d = xs.length - i ∧ Led A [osl 9 strO fp w ((xs.map idD).take i)] V ∧ fr 0 = .slice a xs.length c ∧ fr 3 = w ∧ fr 7 = .slice a xs.length c ∧ fr 8 = .int .i64 xs.length ∧ fr 9 = .int .i64 i ∧ (xs.take i).all testB = true ∧ ((xs.map idD).take i).Nodup) xs.length ⟨0, _, _, by omega, by omega, l, rfl, by rfl, by rfl, by rfl, by rfl, by simp, by simp⟩ ?_
  rintro d fr V ⟨i, fp, w, hi, rfl, l, h0, h3, h7, h8, h9, hn, hn2⟩
  simp (disch := omega) only [↓stp, vls, inf, frs, mark_eq, ↓reduceIte, Nat.reduceEqDiff, ite_tt, ite_ff, eq_self, and_true, true_and, and_self, implies_true, Bool.true_eq_false, Bool.false_eq_true, decide_true, decide_false, decide_eq_true_eq, decide_eq_false_iff_not, ne_eq, not_true_eq_false, not_false_eq_true, Bool.not_eq_true', Bool.not_eq_false', beq_self_eq_true, Bool.not_true, Bool.not_false, List.getElem?_toArray, List.getElem?_cons_zero, List.getElem?_cons_succ, h0, h3, h7, h8, h9]
  refine ⟨fun e => ?_, fun e => ?_⟩
  · have hlt : i < xs.length := by omega
    have hg : (xs.map idD)[i]'(by rw [List.length_map]; exact hlt) = idD xs[i] := by rw [List.getElem_map]
    obtain ⟨ad, u2, u3, rfl, hclA, z1, z2, g2, g3⟩ := h.test hlt
    obtain ⟨a2, c2, rfl, _, _⟩ := g2.slice
    obtain ⟨a3, c3, rfl, _, _⟩ := g3.slice
    have hx : ∀ V3, Ext A V3 → testS.rel V3 xs[i] [.string (xs[i]).1, .string (xs[i]).2.1, .slice a2 (xs[i]).2.2.1.length c2, .slice a3 (xs[i]).2.2.2.1.length c3] := fun V3 hE => testS_mk z1 z2 (g2.mono hE) (g3.mono hE)
    have hcl := l.ext.part hclA
    simp (disch := omega) only [↓stp, vls, inf, frs, mark_eq, ↓reduceIte, Nat.reduceEqDiff, ite_tt, ite_ff, eq_self, and_true, true_and, and_self, implies_true, Bool.true_eq_false, Bool.false_eq_true, decide_true, decide_false, decide_eq_true_eq, decide_eq_false_iff_not, ne_eq, not_true_eq_false, not_false_eq_true, Bool.not_eq_true', Bool.not_eq_false', beq_self_eq_true, Bool.not_true, Bool.not_false, List.getElem?_toArray, List.getElem?_cons_zero, List.getElem?_cons_succ, h0, h3, h7, h8, h9, hcl]
    refine led_alloc zc78 l fun q V1 he1 l => ?_
    simp (disch := omega) only [↓stp, vls, inf, frs, mark_eq, ↓reduceIte, Nat.reduceEqDiff, ite_tt, ite_ff, eq_self, and_true, true_and, and_self, implies_true, Bool.true_eq_false, Bool.false_eq_true, decide_true, decide_false, decide_eq_true_eq, decide_eq_false_iff_not, ne_eq, not_true_eq_false, not_false_eq_true, Bool.not_eq_true', Bool.not_eq_false', beq_self_eq_true, Bool.not_true, Bool.not_false, List.getElem?_toArray, List.getElem?_cons_zero, List.getElem?_cons_succ, h0, h3, h7, h8, h9]
    refine led_storeAll l 0 rfl sz78 rfl rfl (by simp [Value.oneCell']) fun V2 l => ?_
    have kp : V2.part ⟨q, 0, none⟩ 4 = some _ := l.partn (i := 0) rfl rfl (by simp [Value.oneCell'])
    simp (disch := omega) only [↓stp, vls, inf, frs, mark_eq, ↓reduceIte, Nat.reduceEqDiff, ite_tt, ite_ff, eq_self, and_true, true_and, and_self, implies_true, Bool.true_eq_false, Bool.false_eq_true, decide_true, decide_false, decide_eq_true_eq, decide_eq_false_iff_not, ne_eq, not_true_eq_false, not_false_eq_true, Bool.not_eq_true', Bool.not_eq_false', beq_self_eq_true, Bool.not_true, Bool.not_false, List.getElem?_toArray, List.getElem?_cons_zero, List.getElem?_cons_succ, h0, h3, h7, h8, h9, kp]
    refine (impl_testOk_c V2 _ xs[i] (hx _ l.ext)).mono ?_
    rintro _ V3 ⟨rfl, he3⟩
    replace l := l.step he3
    replace kp := he3.part kp
    simp (disch := omega) only [↓stp, vls, inf, frs, mark_eq, ↓reduceIte, Nat.reduceEqDiff, ite_tt, ite_ff, eq_self, and_true, true_and, and_self, implies_true, Bool.true_eq_false, Bool.false_eq_true, decide_true, decide_false, decide_eq_true_eq, decide_eq_false_iff_not, ne_eq, not_true_eq_false, not_false_eq_true, Bool.not_eq_true', Bool.not_eq_false', beq_self_eq_true, Bool.not_true, Bool.not_false, List.getElem?_toArray, List.getElem?_cons_zero, List.getElem?_cons_succ, h0, h3, h7, h8, h9]
    refine ⟨fun e1 => ?_, fun e1 => ?_⟩ <;> simp (disch := omega) only [↓stp, vls, inf, frs, mark_eq, ↓reduceIte, Nat.reduceEqDiff, ite_tt, ite_ff, eq_self, and_true, true_and, and_self, implies_true, Bool.true_eq_false, Bool.false_eq_true, decide_true, decide_false, decide_eq_true_eq, decide_eq_false_iff_not, ne_eq, not_true_eq_false, not_false_eq_true, Bool.not_eq_true', Bool.not_eq_false', beq_self_eq_true, Bool.not_true, Bool.not_false, List.getElem?_toArray, List.getElem?_cons_zero, List.getElem?_cons_succ, h0, h3, h7, h8, h9, e1, kp]
    · refine (impl_idOf_c V3 _ xs[i] (hx _ l.ext)).mono ?_
      rintro _ V4 ⟨rfl, he4⟩
      replace l := l.step he4
      replace kp := he4.part kp
      simp (disch := omega) only [↓stp, vls, inf, frs, mark_eq, ↓reduceIte, Nat.reduceEqDiff, ite_tt, ite_ff, eq_self, and_true, true_and, and_self, implies_true, Bool.true_eq_false, Bool.false_eq_true, decide_true, decide_false, decide_eq_true_eq, decide_eq_false_iff_not, ne_eq, not_true_eq_false, not_false_eq_true, Bool.not_eq_true', Bool.not_eq_false', beq_self_eq_true, Bool.not_true, Bool.not_false, List.getElem?_toArray, List.getElem?_cons_zero, List.getElem?_cons_succ, h0, h3, h7, h8, h9, e1]
      have hS : Sl strS V4 w ((xs.map idD).take i) := OSl.toS (show OSl 9 strO V4 fp w _ from l.at (i := 1) rfl)
      refine (contains_str_c V4 w _ _ hS).mono ?_
      rintro _ V4 ⟨rfl, rfl⟩
      simp (disch := omega) only [↓stp, vls, inf, frs, mark_eq, ↓reduceIte, Nat.reduceEqDiff, ite_tt, ite_ff, eq_self, and_true, true_and, and_self, implies_true, Bool.true_eq_false, Bool.false_eq_true, decide_true, decide_false, decide_eq_true_eq, decide_eq_false_iff_not, ne_eq, not_true_eq_false, not_false_eq_true, Bool.not_eq_true', Bool.not_eq_false', beq_self_eq_true, Bool.not_true, Bool.not_false, List.getElem?_toArray, List.getElem?_cons_zero, List.getElem?_cons_succ, h0, h3, h7, h8, h9, e1]
      refine ⟨fun e2 => ?_, fun e2 => ?_⟩ <;> simp (disch := omega) only [↓stp, vls, inf, frs, mark_eq, ↓reduceIte, Nat.reduceEqDiff, ite_tt, ite_ff, eq_self, and_true, true_and, and_self, implies_true, Bool.true_eq_false, Bool.false_eq_true, decide_true, decide_false, decide_eq_true_eq, decide_eq_false_iff_not, ne_eq, not_true_eq_false, not_false_eq_true, Bool.not_eq_true', Bool.not_eq_false', beq_self_eq_true, Bool.not_true, Bool.not_false, List.getElem?_toArray, List.getElem?_cons_zero, List.getElem?_cons_succ, h0, h3, h7, h8, h9, kp]
      · rw [← hg] at e2
        have : ¬ (xs.map idD).Nodup := nodup_no _ e2
        exact ⟨by simp [testsB, this], l.ext⟩
      · refine (impl_idOf_c V4 _ xs[i] (hx _ l.ext)).mono ?_
        rintro _ V5 ⟨rfl, he5⟩
        replace l := l.step he5
        simp (disch := omega) only [↓stp, vls, inf, frs, mark_eq, ↓reduceIte, Nat.reduceEqDiff, ite_tt, ite_ff, eq_self, and_true, true_and, and_self, implies_true, Bool.true_eq_false, Bool.false_eq_true, decide_true, decide_false, decide_eq_true_eq, decide_eq_false_iff_not, ne_eq, not_true_eq_false, not_false_eq_true, Bool.not_eq_true', Bool.not_eq_false', beq_self_eq_true, Bool.not_true, Bool.not_false, List.getElem?_toArray, List.getElem?_cons_zero, List.getElem?_cons_succ, h0, h3, h7, h8, h9]
        refine led_lit li54 (by omega) rfl (fun p hp => by rcases List.mem_singleton.1 hp with rfl; exact ⟨rfl, rfl⟩) l fun bl V6 _ l => ?_
        simp (disch := omega) only [↓stp, vls, inf, frs, mark_eq, ↓reduceIte, Nat.reduceEqDiff, ite_tt, ite_ff, eq_self, and_true, true_and, and_self, implies_true, Bool.true_eq_false, Bool.false_eq_true, decide_true, decide_false, decide_eq_true_eq, decide_eq_false_iff_not, ne_eq, not_true_eq_false, not_false_eq_true, Bool.not_eq_true', Bool.not_eq_false', beq_self_eq_true, Bool.not_true, Bool.not_false, List.getElem?_toArray, List.getElem?_cons_zero, List.getElem?_cons_succ, h0, h3, h7, h8, h9]
        refine led_app (O := strO) ap54_54 (by decide) l (i := 2) rfl (l.src1 (S := strS) (j := 0) rfl ⟨rfl, by have := testB_id e1; omega⟩) (by rw [List.length_singleton, List.length_take]; omega) fun fp2 w2 V7 _ l => ?_
        simp (disch := omega) only [↓stp, vls, inf, frs, mark_eq, ↓reduceIte, Nat.reduceEqDiff, ite_tt, ite_ff, eq_self, and_true, true_and, and_self, implies_true, Bool.true_eq_false, Bool.false_eq_true, decide_true, decide_false, decide_eq_true_eq, decide_eq_false_iff_not, ne_eq, not_true_eq_false, not_false_eq_true, Bool.not_eq_true', Bool.not_eq_false', beq_self_eq_true, Bool.not_true, Bool.not_false, List.getElem?_toArray, List.getElem?_cons_zero, List.getElem?_cons_succ, h0, h3, h7, h8, h9]
        have l2 : Led A [osl 9 strO fp2 w2 ((xs.map idD).take (i + 1))] V7 := by
          rw [List.take_succ_eq_append_getElem (by rw [List.length_map]; exact hlt), hg]
          exact l.tail.tail
        rw [← hg] at e2
        exact ⟨_, by omega, i + 1, _, _, by omega, rfl, l2, rfl, rfl, all_take hlt hn e1, (nodup_take_succ (by rw [List.length_map]; exact hlt)).2 ⟨hn2, e2⟩⟩
    · refine ⟨?_, l.ext⟩
      simp [testsB, all_no (p := testB) hlt e1]
  · simp (disch := omega) only [↓stp, vls, inf, frs, mark_eq, ↓reduceIte, Nat.reduceEqDiff, ite_tt, ite_ff, eq_self, and_true, true_and, and_self, implies_true, Bool.true_eq_false, Bool.false_eq_true, decide_true, decide_false, decide_eq_true_eq, decide_eq_false_iff_not, ne_eq, not_true_eq_false, not_false_eq_true, Bool.not_eq_true', Bool.not_eq_false', beq_self_eq_true, Bool.not_true, Bool.not_false, List.getElem?_toArray, List.getElem?_cons_zero, List.getElem?_cons_succ, h0, h3, h7, h8, h9]
    rw [List.take_of_length_le (by omega)] at hn
    rw [List.take_of_length_le (by rw [List.length_map]; omega)] at hn2
    refine ⟨?_, l.ext⟩
    unfold testsB
    rw [hn, decide_eq_true hn2]
    congr 1
    rw [Bool.true_and, Bool.true_and]
    exact decide_eq_decide.2 (by omega)

end Go.Proofs.Ytggklaimbklefaa

/- Where a Fixture stands in a list. -/
set_option maxHeartbeats 4000000
set_option synthInstance.maxHeartbeats 400000
set_option synthInstance.maxSize 4096
set_option linter.unusedSimpArgs false
set_option linter.unusedVariables false
namespace Go.Proofs.Ytggklaimbklefaa

set_option maxRecDepth 100000

theorem indexFunc_Fixture_c (A : View) (v f : Value) (xs : List FixtureD) (p : FixtureD → Bool) (h : Sl fixtureS A v xs) (hf : Tells A f (agR fixtureS) p) : ACalls Try.prog 106 #[v, f] A fun r A' => r = .int .i64 (idxI p xs) ∧ Ext A A' := by
  obtain ⟨a, c, rfl, hc, hl⟩ := h.slice
  obtain ⟨g, first, cap, rfl, hg, hp⟩ := hf
  refine acalls Try.func106 rfl (by kernel_rfl) ?_
  simp (disch := omega) only [↓stp, vls, inf, frs, mark_eq, ↓reduceIte, Nat.reduceEqDiff, ite_tt, ite_ff, eq_self, and_true, true_and, and_self, implies_true, Bool.true_eq_false, Bool.false_eq_true, decide_true, decide_false, decide_eq_true_eq, decide_eq_false_iff_not, ne_eq, not_true_eq_false, not_false_eq_true, Bool.not_eq_true', Bool.not_eq_false', beq_self_eq_true, Bool.not_true, Bool.not_false, List.getElem?_toArray, List.getElem?_cons_zero, List.getElem?_cons_succ]
  refine aloop (fun d fr A' => ∃ i : Nat, i ≤ xs.length ∧ d = xs.length - i ∧ Ext A A' ∧ fr 0 = .slice a xs.length c ∧ fr 1 = .func (.func g) first cap ∧ fr 7 = .int .i64 xs.length ∧ fr 8 = .int .i64 i ∧ (∀ j (hj : j < i) (hl : j < xs.length), p xs[j] = false)) xs.length ⟨0, by omega, by omega, Ext.refl _, rfl, by rfl, by rfl, by rfl, by omega⟩ ?_
  rintro d fr A' ⟨i, hi, rfl, he, h0, h1, h7, h8, hn⟩
  simp (disch := omega) only [↓stp, vls, inf, frs, mark_eq, ↓reduceIte, Nat.reduceEqDiff, ite_tt, ite_ff, eq_self, and_true, true_and, and_self, implies_true, Bool.true_eq_false, Bool.false_eq_true, decide_true, decide_false, decide_eq_true_eq, decide_eq_false_iff_not, ne_eq, not_true_eq_false, not_false_eq_true, Bool.not_eq_true', Bool.not_eq_false', beq_self_eq_true, Bool.not_true, Bool.not_false, List.getElem?_toArray, List.getElem?_cons_zero, List.getElem?_cons_succ, h0, h1, h7, h8]
  refine ⟨fun e => ?_, fun e => ?_⟩
  · have hlt : i < xs.length := by omega
    obtain ⟨ad, d, rfl, hd, hcl, _⟩ := (h.mono he).at hlt
    have hcl : A'.part (ad.add (i * 4)) 4 = some d := hcl
    simp (disch := omega) only [↓stp, vls, inf, frs, mark_eq, ↓reduceIte, Nat.reduceEqDiff, ite_tt, ite_ff, eq_self, and_true, true_and, and_self, implies_true, Bool.true_eq_false, Bool.false_eq_true, decide_true, decide_false, decide_eq_true_eq, decide_eq_false_iff_not, ne_eq, not_true_eq_false, not_false_eq_true, Bool.not_eq_true', Bool.not_eq_false', beq_self_eq_true, Bool.not_true, Bool.not_false, List.getElem?_toArray, List.getElem?_cons_zero, List.getElem?_cons_succ, h0, h1, h7, h8, hcl]
    rw [acall_at hg]
    refine (hp A' he _ xs[i] ⟨d, rfl, hd⟩).mono ?_
    rintro _ A1 ⟨rfl, he1⟩
    simp (disch := omega) only [↓stp, vls, inf, frs, mark_eq, ↓reduceIte, Nat.reduceEqDiff, ite_tt, ite_ff, eq_self, and_true, true_and, and_self, implies_true, Bool.true_eq_false, Bool.false_eq_true, decide_true, decide_false, decide_eq_true_eq, decide_eq_false_iff_not, ne_eq, not_true_eq_false, not_false_eq_true, Bool.not_eq_true', Bool.not_eq_false', beq_self_eq_true, Bool.not_true, Bool.not_false, List.getElem?_toArray, List.getElem?_cons_zero, List.getElem?_cons_succ, h0, h1, h7, h8]
    refine ⟨fun e1 => ?_, fun e1 => ?_⟩ <;> simp (disch := omega) only [↓stp, vls, inf, frs, mark_eq, ↓reduceIte, Nat.reduceEqDiff, ite_tt, ite_ff, eq_self, and_true, true_and, and_self, implies_true, Bool.true_eq_false, Bool.false_eq_true, decide_true, decide_false, decide_eq_true_eq, decide_eq_false_iff_not, ne_eq, not_true_eq_false, not_false_eq_true, Bool.not_eq_true', Bool.not_eq_false', beq_self_eq_true, Bool.not_true, Bool.not_false, List.getElem?_toArray, List.getElem?_cons_zero, List.getElem?_cons_succ, h0, h1, h7, h8]
    · rw [idxI_found hlt (fun j hj => hn j hj (by omega)) e1]
      exact ⟨rfl, he.trans he1⟩
    · refine ⟨_, by omega, i + 1, by omega, rfl, he.trans he1, rfl, fun j hj hl => ?_⟩
      by_cases hji : j = i
      · subst hji; exact e1
      · exact hn j (by omega) hl
  · simp (disch := omega) only [↓stp, vls, inf, frs, mark_eq, ↓reduceIte, Nat.reduceEqDiff, ite_tt, ite_ff, eq_self, and_true, true_and, and_self, implies_true, Bool.true_eq_false, Bool.false_eq_true, decide_true, decide_false, decide_eq_true_eq, decide_eq_false_iff_not, ne_eq, not_true_eq_false, not_false_eq_true, Bool.not_eq_true', Bool.not_eq_false', beq_self_eq_true, Bool.not_true, Bool.not_false, List.getElem?_toArray, List.getElem?_cons_zero, List.getElem?_cons_succ, h0, h1, h7, h8]
    rw [idxI_none (fun j hj => hn j (by omega) hj)]
    exact ⟨rfl, he⟩

end Go.Proofs.Ytggklaimbklefaa

/- Suites of the right form; where a fixture stands. -/
set_option maxHeartbeats 4000000
set_option synthInstance.maxHeartbeats 400000
set_option synthInstance.maxSize 4096
set_option linter.unusedSimpArgs false
set_option linter.unusedVariables false
namespace Go.Proofs.Ytggklaimbklefaa

set_option maxRecDepth 100000

/-- A fixture has a name. -/
def isF (name : ByteArray) (f : FixtureD) : Bool := decide (f.1 = name)
def fAt (fs : List FixtureD) (name : ByteArray) : Int := idxI (isF name) fs

theorem impl_fixtureAtFn_c (A : View) (b : Nat) (d : List Value) (x : FixtureD) (id : ByteArray) (hb : A.cell ⟨b, 0, none⟩ = some (.string id)) (h : fixtureS.rel A x d) : ACalls Try.prog 107 #[.agg d.toArray, .pointer (some ⟨b, 0, none⟩)] A fun r A' => r = .bool (isF id x) ∧ Ext A A' := by
  obtain ⟨u2, rfl, _, _, g2⟩ := fixtureS_open h
  obtain ⟨a2, c2, rfl, _, _⟩ := g2.slice
  refine acalls Try.func107 rfl (by kernel_rfl) ?_
  simp (disch := omega) only [↓stp, vls, inf, frs, mark_eq, ↓reduceIte, Nat.reduceEqDiff, ite_tt, ite_ff, eq_self, and_true, true_and, and_self, implies_true, Bool.true_eq_false, Bool.false_eq_true, decide_true, decide_false, decide_eq_true_eq, decide_eq_false_iff_not, ne_eq, not_true_eq_false, not_false_eq_true, Bool.not_eq_true', Bool.not_eq_false', beq_self_eq_true, Bool.not_true, Bool.not_false, List.getElem?_toArray, List.getElem?_cons_zero, List.getElem?_cons_succ]
  refine led_box (Led.nil A) rfl fun q V he l => ?_
  have c0 := l.cell (i := 0) rfl (o := 0) rfl rfl
  have hb := he.cell hb
  simp (disch := omega) only [↓stp, vls, inf, frs, mark_eq, ↓reduceIte, Nat.reduceEqDiff, ite_tt, ite_ff, eq_self, and_true, true_and, and_self, implies_true, Bool.true_eq_false, Bool.false_eq_true, decide_true, decide_false, decide_eq_true_eq, decide_eq_false_iff_not, ne_eq, not_true_eq_false, not_false_eq_true, Bool.not_eq_true', Bool.not_eq_false', beq_self_eq_true, Bool.not_true, Bool.not_false, List.getElem?_toArray, List.getElem?_cons_zero, List.getElem?_cons_succ, add_at, c0, hb]
  exact ⟨rfl, l.ext⟩

theorem impl_fixtureAt_c (A : View) (d : List Value) (x : SuiteD) (id : ByteArray) (h : suiteS.rel A x d) : ACalls Try.prog 93 #[.agg d.toArray, .string id] A fun r A' => r = .int .i64 (fAt x.1 id) ∧ Ext A A' := by
  obtain ⟨u0, u1, rfl, g0, g1⟩ := suiteS_open h
  obtain ⟨a0, c0, rfl, _, _⟩ := g0.slice
  obtain ⟨a1, c1, rfl, _, _⟩ := g1.slice
  refine acalls Try.func93 rfl (by kernel_rfl) ?_
  simp (disch := omega) only [↓stp, vls, inf, frs, mark_eq, ↓reduceIte, Nat.reduceEqDiff, ite_tt, ite_ff, eq_self, and_true, true_and, and_self, implies_true, Bool.true_eq_false, Bool.false_eq_true, decide_true, decide_false, decide_eq_true_eq, decide_eq_false_iff_not, ne_eq, not_true_eq_false, not_false_eq_true, Bool.not_eq_true', Bool.not_eq_false', beq_self_eq_true, Bool.not_true, Bool.not_false, List.getElem?_toArray, List.getElem?_cons_zero, List.getElem?_cons_succ]
  refine led_box (Led.nil A) rfl fun q V he l => ?_
  simp (disch := omega) only [↓stp, vls, inf, frs, mark_eq, ↓reduceIte, Nat.reduceEqDiff, ite_tt, ite_ff, eq_self, and_true, true_and, and_self, implies_true, Bool.true_eq_false, Bool.false_eq_true, decide_true, decide_false, decide_eq_true_eq, decide_eq_false_iff_not, ne_eq, not_true_eq_false, not_false_eq_true, Bool.not_eq_true', Bool.not_eq_false', beq_self_eq_true, Bool.not_true, Bool.not_false, List.getElem?_toArray, List.getElem?_cons_zero, List.getElem?_cons_succ]
  refine led_box1 l rfl rfl fun q2 V2 he2 l => ?_
  have k0 := l.cell (i := 1) rfl (o := 0) rfl rfl
  have hb : V2.cell ⟨q2, 0, none⟩ = some (.string id) := l.cell (i := 0) rfl (o := 0) rfl rfl
  simp (disch := omega) only [↓stp, vls, inf, frs, mark_eq, ↓reduceIte, Nat.reduceEqDiff, ite_tt, ite_ff, eq_self, and_true, true_and, and_self, implies_true, Bool.true_eq_false, Bool.false_eq_true, decide_true, decide_false, decide_eq_true_eq, decide_eq_false_iff_not, ne_eq, not_true_eq_false, not_false_eq_true, Bool.not_eq_true', Bool.not_eq_false', beq_self_eq_true, Bool.not_true, Bool.not_false, List.getElem?_toArray, List.getElem?_cons_zero, List.getElem?_cons_succ, add_at, k0]
  refine (indexFunc_Fixture_c V2 _ _ x.1 (isF id) (g0.mono l.ext) ⟨_, _, _, rfl, by kernel_rfl, fun B hB u y hy => ?_⟩).mono ?_
  · obtain ⟨d, rfl, hd⟩ := hy
    exact impl_fixtureAtFn_c B q2 d y id (hB.cell hb) hd
  · rintro _ W ⟨rfl, he2⟩
    simp (disch := omega) only [↓stp, vls, inf, frs, mark_eq, ↓reduceIte, Nat.reduceEqDiff, ite_tt, ite_ff, eq_self, and_true, true_and, and_self, implies_true, Bool.true_eq_false, Bool.false_eq_true, decide_true, decide_false, decide_eq_true_eq, decide_eq_false_iff_not, ne_eq, not_true_eq_false, not_false_eq_true, Bool.not_eq_true', Bool.not_eq_false', beq_self_eq_true, Bool.not_true, Bool.not_false, List.getElem?_toArray, List.getElem?_cons_zero, List.getElem?_cons_succ]
    exact ⟨rfl, l.ext.trans he2⟩

theorem spec_fixtureAt_c (A : View) (v : Value) (xs : List FixtureD) (id : ByteArray) (h : Sl fixtureS A v xs) : ACalls Try.prog 55 #[v, .string id] A fun r A' => r = .int .i64 (fAt xs id) ∧ A' = A := by
  obtain ⟨a, c, rfl, hc, hl⟩ := h.slice
  refine acalls Try.func55 rfl (by kernel_rfl) ?_
  simp (disch := omega) only [↓stp, vls, inf, frs, mark_eq, ↓reduceIte, Nat.reduceEqDiff, ite_tt, ite_ff, eq_self, and_true, true_and, and_self, implies_true, Bool.true_eq_false, Bool.false_eq_true, decide_true, decide_false, decide_eq_true_eq, decide_eq_false_iff_not, ne_eq, not_true_eq_false, not_false_eq_true, Bool.not_eq_true', Bool.not_eq_false', beq_self_eq_true, Bool.not_true, Bool.not_false, List.getElem?_toArray, List.getElem?_cons_zero, List.getElem?_cons_succ]
  refine aloop (fun d fr V => ∃ i : Nat, i ≤ xs.length ∧ d = xs.length - i ∧ V = A ∧ fr 0 = .slice a xs.length c ∧ fr 1 = .string id ∧ fr 5 = .int .i64 i ∧ (∀ j (hj : j < i) (hl : j < xs.length), isF id xs[j] = false)) xs.length ⟨0, by omega, by omega, rfl, rfl, rfl, by rfl, by omega⟩ ?_
  rintro d fr A ⟨i, hi, rfl, rfl, h0, h1, h5, hn⟩
  simp (disch := omega) only [↓stp, vls, inf, frs, mark_eq, ↓reduceIte, Nat.reduceEqDiff, ite_tt, ite_ff, eq_self, and_true, true_and, and_self, implies_true, Bool.true_eq_false, Bool.false_eq_true, decide_true, decide_false, decide_eq_true_eq, decide_eq_false_iff_not, ne_eq, not_true_eq_false, not_false_eq_true, Bool.not_eq_true', Bool.not_eq_false', beq_self_eq_true, Bool.not_true, Bool.not_false, List.getElem?_toArray, List.getElem?_cons_zero, List.getElem?_cons_succ, h0, h1, h5]
  refine ⟨fun e => ?_, fun e => ?_⟩
  · have hlt : i < xs.length := by omega
    obtain ⟨ad, u2, rfl, hcl, _⟩ := h.fixture hlt
    have k0 := View.part_cell hcl (j := 0) (v := .string (xs[i]).1) rfl
    simp (disch := omega) only [↓stp, vls, inf, frs, mark_eq, ↓reduceIte, Nat.reduceEqDiff, ite_tt, ite_ff, eq_self, and_true, true_and, and_self, implies_true, Bool.true_eq_false, Bool.false_eq_true, decide_true, decide_false, decide_eq_true_eq, decide_eq_false_iff_not, ne_eq, not_true_eq_false, not_false_eq_true, Bool.not_eq_true', Bool.not_eq_false', beq_self_eq_true, Bool.not_true, Bool.not_false, List.getElem?_toArray, List.getElem?_cons_zero, List.getElem?_cons_succ, h0, h1, h5, k0]
    refine ⟨fun e1 => ?_, fun e1 => ?_⟩ <;> simp (disch := omega) only [↓stp, vls, inf, frs, mark_eq, ↓reduceIte, Nat.reduceEqDiff, ite_tt, ite_ff, eq_self, and_true, true_and, and_self, implies_true, Bool.true_eq_false, Bool.false_eq_true, decide_true, decide_false, decide_eq_true_eq, decide_eq_false_iff_not, ne_eq, not_true_eq_false, not_false_eq_true, Bool.not_eq_true', Bool.not_eq_false', beq_self_eq_true, Bool.not_true, Bool.not_false, List.getElem?_toArray, List.getElem?_cons_zero, List.getElem?_cons_succ, h0, h1, h5]
    · unfold fAt
      rw [idxI_found hlt (fun j hj => hn j hj (by omega)) (decide_eq_true e1)]
    · refine ⟨_, by omega, i + 1, by omega, rfl, rfl, fun j hj hl => ?_⟩
      by_cases hji : j = i
      · subst hji; exact decide_eq_false e1
      · exact hn j (by omega) hl
  · simp (disch := omega) only [↓stp, vls, inf, frs, mark_eq, ↓reduceIte, Nat.reduceEqDiff, ite_tt, ite_ff, eq_self, and_true, true_and, and_self, implies_true, Bool.true_eq_false, Bool.false_eq_true, decide_true, decide_false, decide_eq_true_eq, decide_eq_false_iff_not, ne_eq, not_true_eq_false, not_false_eq_true, Bool.not_eq_true', Bool.not_eq_false', beq_self_eq_true, Bool.not_true, Bool.not_false, List.getElem?_toArray, List.getElem?_cons_zero, List.getElem?_cons_succ, h0, h1, h5]
    unfold fAt
    rw [idxI_none (fun j hj => hn j (by omega) hj)]

theorem fAt_in {fs : List FixtureD} {name : ByteArray} : (0 ≤ fAt fs name) ↔ name ∈ fs.map (·.1) := by
  unfold fAt isF
  rw [idxI_ge, List.any_eq_true, List.mem_map]
  simp

def fixB (f : FixtureD) : Bool := decide (0 ≤ f.2.1) && decide (f.2.1 ≤ 2) && namesB f.2.2.1 4
/-- A suite has the form of one. -/
noncomputable def formedB (x : SuiteD) : Bool := x.1.all fixB && namesB (x.1.map (·.1)) 6 && testsB x.2.1

theorem impl_suiteFormed_c (A : View) (d : List Value) (x : SuiteD) (h : suiteS.rel A x d) (hs0 : x.1.length ≤ 16777215) (hs1 : x.2.1.length ≤ 16777215) : ACalls Try.prog 71 #[.agg d.toArray] A fun r A' => r = .bool (formedB x) ∧ Ext A A' := by
  obtain ⟨u0, u1, rfl, g0, g1⟩ := suiteS_open h
  obtain ⟨a0, c0, rfl, _, _⟩ := g0.slice
  obtain ⟨a1, c1, rfl, _, _⟩ := g1.slice
  refine acalls Try.func71 rfl (by kernel_rfl) ?_
  simp (disch := omega) only [↓stp, vls, inf, frs, mark_eq, ↓reduceIte, Nat.reduceEqDiff, ite_tt, ite_ff, eq_self, and_true, true_and, and_self, implies_true, Bool.true_eq_false, Bool.false_eq_true, decide_true, decide_false, decide_eq_true_eq, decide_eq_false_iff_not, ne_eq, not_true_eq_false, not_false_eq_true, Bool.not_eq_true', Bool.not_eq_false', beq_self_eq_true, Bool.not_true, Bool.not_false, List.getElem?_toArray, List.getElem?_cons_zero, List.getElem?_cons_succ]
  refine led_box (Led.nil A) rfl fun q V he l => ?_
  simp (disch := omega) only [↓stp, vls, inf, frs, mark_eq, ↓reduceIte, Nat.reduceEqDiff, ite_tt, ite_ff, eq_self, and_true, true_and, and_self, implies_true, Bool.true_eq_false, Bool.false_eq_true, decide_true, decide_false, decide_eq_true_eq, decide_eq_false_iff_not, ne_eq, not_true_eq_false, not_false_eq_true, Bool.not_eq_true', Bool.not_eq_false', beq_self_eq_true, Bool.not_true, Bool.not_false, List.getElem?_toArray, List.getElem?_cons_zero, List.getElem?_cons_succ]
  refine led_lit0 (O := strO) li54 l fun b V _ l => ?_
  have k0 := l.cell (i := 1) rfl (o := 0) rfl rfl
  simp (disch := omega) only [↓stp, vls, inf, frs, mark_eq, ↓reduceIte, Nat.reduceEqDiff, ite_tt, ite_ff, eq_self, and_true, true_and, and_self, implies_true, Bool.true_eq_false, Bool.false_eq_true, decide_true, decide_false, decide_eq_true_eq, decide_eq_false_iff_not, ne_eq, not_true_eq_false, not_false_eq_true, Bool.not_eq_true', Bool.not_eq_false', beq_self_eq_true, Bool.not_true, Bool.not_false, List.getElem?_toArray, List.getElem?_cons_zero, List.getElem?_cons_succ, add_at, k0]
  refine aloop (fun d fr V => ∃ (i : Nat) (fp : List Nat) (w : Value), i ≤ x.1.length ∧ d = x.1.length - i ∧ Led A [osl 9 strO fp w ((x.1.map (·.1)).take i), bx q ⟨41, [.slice a0 x.1.length c0, .slice a1 x.2.1.length c1], 2, true⟩] V ∧ fr 1 = .pointer (some ⟨q, 0, none⟩) ∧ fr 3 = w ∧ fr 8 = .slice a0 x.1.length c0 ∧ fr 9 = .int .i64 x.1.length ∧ fr 10 = .int .i64 i ∧ (x.1.take i).all fixB = true) x.1.length ⟨0, _, _, by omega, by omega, l, by rfl, by rfl, by rfl, by rfl, by rfl, by simp⟩ ?_
  rintro d fr V ⟨i, fp, w, hi, rfl, l, h1, h3, h8, h9, h10, hn⟩
  simp (disch := omega) only [↓stp, vls, inf, frs, mark_eq, ↓reduceIte, Nat.reduceEqDiff, ite_tt, ite_ff, eq_self, and_true, true_and, and_self, implies_true, Bool.true_eq_false, Bool.false_eq_true, decide_true, decide_false, decide_eq_true_eq, decide_eq_false_iff_not, ne_eq, not_true_eq_false, not_false_eq_true, Bool.not_eq_true', Bool.not_eq_false', beq_self_eq_true, Bool.not_true, Bool.not_false, List.getElem?_toArray, List.getElem?_cons_zero, List.getElem?_cons_succ, h1, h3, h8, h9, h10]
  refine ⟨fun e => ?_, fun e => ?_⟩
  · have hlt : i < x.1.length := by omega
    have hg : (x.1.map (·.1))[i]'(by rw [List.length_map]; exact hlt) = (x.1[i]).1 := by rw [List.getElem_map]
    obtain ⟨ad, u2, rfl, hclA, z1, z2, f2⟩ := g0.fixture hlt
    obtain ⟨a2, c2, rfl, _, _⟩ := f2.slice
    have hcl := l.ext.part hclA
    have hno : fixB x.1[i] = false → formedB x = false := fun hq => by unfold formedB; rw [all_no (p := fixB) hlt hq]; rfl
    simp (disch := omega) only [↓stp, vls, inf, frs, mark_eq, ↓reduceIte, Nat.reduceEqDiff, ite_tt, ite_ff, eq_self, and_true, true_and, and_self, implies_true, Bool.true_eq_false, Bool.false_eq_true, decide_true, decide_false, decide_eq_true_eq, decide_eq_false_iff_not, ne_eq, not_true_eq_false, not_false_eq_true, Bool.not_eq_true', Bool.not_eq_false', beq_self_eq_true, Bool.not_true, Bool.not_false, List.getElem?_toArray, List.getElem?_cons_zero, List.getElem?_cons_succ, h1, h3, h8, h9, h10, hcl]
    refine led_alloc zc75 l fun q1 V1 he1 l => ?_
    simp (disch := omega) only [↓stp, vls, inf, frs, mark_eq, ↓reduceIte, Nat.reduceEqDiff, ite_tt, ite_ff, eq_self, and_true, true_and, and_self, implies_true, Bool.true_eq_false, Bool.false_eq_true, decide_true, decide_false, decide_eq_true_eq, decide_eq_false_iff_not, ne_eq, not_true_eq_false, not_false_eq_true, Bool.not_eq_true', Bool.not_eq_false', beq_self_eq_true, Bool.not_true, Bool.not_false, List.getElem?_toArray, List.getElem?_cons_zero, List.getElem?_cons_succ, h1, h3, h8, h9, h10]
    refine led_storeAll l 0 rfl sz75 rfl rfl (by simp [Value.oneCell']) fun V2 l => ?_
    have m0 := l.cell (i := 0) rfl (o := 0) rfl rfl
    have m1 := l.cell (i := 0) rfl (o := 1) rfl rfl
    have m2 := l.cell (i := 0) rfl (o := 2) rfl rfl
    simp (disch := omega) only [↓stp, vls, inf, frs, mark_eq, ↓reduceIte, Nat.reduceEqDiff, ite_tt, ite_ff, eq_self, and_true, true_and, and_self, implies_true, Bool.true_eq_false, Bool.false_eq_true, decide_true, decide_false, decide_eq_true_eq, decide_eq_false_iff_not, ne_eq, not_true_eq_false, not_false_eq_true, Bool.not_eq_true', Bool.not_eq_false', beq_self_eq_true, Bool.not_true, Bool.not_false, List.getElem?_toArray, List.getElem?_cons_zero, List.getElem?_cons_succ, h1, h3, h8, h9, h10, add_at, m0, m1, m2]
    refine ⟨fun e1 => ?_, fun e1 => ?_⟩ <;> simp (disch := omega) only [↓stp, vls, inf, frs, mark_eq, ↓reduceIte, Nat.reduceEqDiff, ite_tt, ite_ff, eq_self, and_true, true_and, and_self, implies_true, Bool.true_eq_false, Bool.false_eq_true, decide_true, decide_false, decide_eq_true_eq, decide_eq_false_iff_not, ne_eq, not_true_eq_false, not_false_eq_true, Bool.not_eq_true', Bool.not_eq_false', beq_self_eq_true, Bool.not_true, Bool.not_false, List.getElem?_toArray, List.getElem?_cons_zero, List.getElem?_cons_succ, h1, h3, h8, h9, h10, add_at, m0, m1, m2, e1]
    · refine ⟨fun e2 => ?_, fun e2 => ?_⟩ <;> simp (disch := omega) only [↓stp, vls, inf, frs, mark_eq, ↓reduceIte, Nat.reduceEqDiff, ite_tt, ite_ff, eq_self, and_true, true_and, and_self, implies_true, Bool.true_eq_false, Bool.false_eq_true, decide_true, decide_false, decide_eq_true_eq, decide_eq_false_iff_not, ne_eq, not_true_eq_false, not_false_eq_true, Bool.not_eq_true', Bool.not_eq_false', beq_self_eq_true, Bool.not_true, Bool.not_false, List.getElem?_toArray, List.getElem?_cons_zero, List.getElem?_cons_succ, h1, h3, h8, h9, h10, add_at, m0, m1, m2, e1, e2]
      · have e1' : 0 ≤ (x.1[i]).2.1 := by omega
        have e2' : (x.1[i]).2.1 ≤ 2 := by omega
        refine (impl_namesOk_c V2 _ _ 4 (f2.mono l.ext)).mono ?_
        rintro _ V3 ⟨rfl, rfl⟩
        simp (disch := omega) only [↓stp, vls, inf, frs, mark_eq, ↓reduceIte, Nat.reduceEqDiff, ite_tt, ite_ff, eq_self, and_true, true_and, and_self, implies_true, Bool.true_eq_false, Bool.false_eq_true, decide_true, decide_false, decide_eq_true_eq, decide_eq_false_iff_not, ne_eq, not_true_eq_false, not_false_eq_true, Bool.not_eq_true', Bool.not_eq_false', beq_self_eq_true, Bool.not_true, Bool.not_false, List.getElem?_toArray, List.getElem?_cons_zero, List.getElem?_cons_succ, h1, h3, h8, h9, h10, e1, e2]
        refine ⟨fun e3 => ?_, fun e3 => ?_⟩ <;> simp (disch := omega) only [↓stp, vls, inf, frs, mark_eq, ↓reduceIte, Nat.reduceEqDiff, ite_tt, ite_ff, eq_self, and_true, true_and, and_self, implies_true, Bool.true_eq_false, Bool.false_eq_true, decide_true, decide_false, decide_eq_true_eq, decide_eq_false_iff_not, ne_eq, not_true_eq_false, not_false_eq_true, Bool.not_eq_true', Bool.not_eq_false', beq_self_eq_true, Bool.not_true, Bool.not_false, List.getElem?_toArray, List.getElem?_cons_zero, List.getElem?_cons_succ, h1, h3, h8, h9, h10, add_at, m0]
        · exact ⟨by rw [hno (by unfold fixB; rw [e3, Bool.and_false])], l.ext⟩
        · refine led_lit li54 (by omega) rfl (fun p hp => by rcases List.mem_singleton.1 hp with rfl; exact ⟨rfl, rfl⟩) l fun bl V6 _ l => ?_
          simp (disch := omega) only [↓stp, vls, inf, frs, mark_eq, ↓reduceIte, Nat.reduceEqDiff, ite_tt, ite_ff, eq_self, and_true, true_and, and_self, implies_true, Bool.true_eq_false, Bool.false_eq_true, decide_true, decide_false, decide_eq_true_eq, decide_eq_false_iff_not, ne_eq, not_true_eq_false, not_false_eq_true, Bool.not_eq_true', Bool.not_eq_false', beq_self_eq_true, Bool.not_true, Bool.not_false, List.getElem?_toArray, List.getElem?_cons_zero, List.getElem?_cons_succ, h1, h3, h8, h9, h10]
          refine led_app (O := strO) ap54_54 (by decide) l (i := 2) rfl (l.src1 (S := strS) (j := 0) rfl ⟨rfl, z1⟩) (by rw [List.length_singleton, List.length_take]; omega) fun fp2 w2 V7 _ l => ?_
          simp (disch := omega) only [↓stp, vls, inf, frs, mark_eq, ↓reduceIte, Nat.reduceEqDiff, ite_tt, ite_ff, eq_self, and_true, true_and, and_self, implies_true, Bool.true_eq_false, Bool.false_eq_true, decide_true, decide_false, decide_eq_true_eq, decide_eq_false_iff_not, ne_eq, not_true_eq_false, not_false_eq_true, Bool.not_eq_true', Bool.not_eq_false', beq_self_eq_true, Bool.not_true, Bool.not_false, List.getElem?_toArray, List.getElem?_cons_zero, List.getElem?_cons_succ, h1, h3, h8, h9, h10]
          have l2 : Led A [osl 9 strO fp2 w2 ((x.1.map (·.1)).take (i + 1)), bx q ⟨41, [.slice (some ad) x.1.length c0, .slice a1 x.2.1.length c1], 2, true⟩] V7 := by
            rw [List.take_succ_eq_append_getElem (by rw [List.length_map]; exact hlt), hg]
            exact l.tail.tail
          refine ⟨_, by omega, i + 1, _, _, by omega, rfl, l2, rfl, rfl, all_take hlt hn ?_⟩
          unfold fixB
          rw [e3, decide_eq_true e1', decide_eq_true e2']; rfl
      · refine ⟨by rw [hno (by unfold fixB; rw [decide_eq_false (show ¬ (x.1[i]).2.1 ≤ 2 by omega)]; simp)], l.ext⟩
    · refine ⟨by rw [hno (by unfold fixB; rw [decide_eq_false (show ¬ 0 ≤ (x.1[i]).2.1 by omega)]; simp)], l.ext⟩
  · have k0 := l.cell (i := 1) rfl (o := 1) rfl rfl
    rw [List.take_of_length_le (by omega)] at hn
    rw [List.take_of_length_le (by rw [List.length_map]; omega)] at l
    simp (disch := omega) only [↓stp, vls, inf, frs, mark_eq, ↓reduceIte, Nat.reduceEqDiff, ite_tt, ite_ff, eq_self, and_true, true_and, and_self, implies_true, Bool.true_eq_false, Bool.false_eq_true, decide_true, decide_false, decide_eq_true_eq, decide_eq_false_iff_not, ne_eq, not_true_eq_false, not_false_eq_true, Bool.not_eq_true', Bool.not_eq_false', beq_self_eq_true, Bool.not_true, Bool.not_false, List.getElem?_toArray, List.getElem?_cons_zero, List.getElem?_cons_succ, h1, h3, h8, h9, h10, add_at, k0]
    refine (impl_validTests_c V _ x.2.1 (g1.mono l.ext) hs1).mono ?_
    rintro _ V2 ⟨rfl, he2⟩
    replace l := l.step he2
    unfold formedB
    rw [hn]
    simp (disch := omega) only [↓stp, vls, inf, frs, mark_eq, ↓reduceIte, Nat.reduceEqDiff, ite_tt, ite_ff, eq_self, and_true, true_and, and_self, implies_true, Bool.true_eq_false, Bool.false_eq_true, decide_true, decide_false, decide_eq_true_eq, decide_eq_false_iff_not, ne_eq, not_true_eq_false, not_false_eq_true, Bool.not_eq_true', Bool.not_eq_false', beq_self_eq_true, Bool.not_true, Bool.not_false, List.getElem?_toArray, List.getElem?_cons_zero, List.getElem?_cons_succ, h1, h3, h8, h9, h10]
    refine ⟨fun e1 => ?_, fun e1 => ?_⟩ <;> simp (disch := omega) only [↓stp, vls, inf, frs, mark_eq, ↓reduceIte, Nat.reduceEqDiff, ite_tt, ite_ff, eq_self, and_true, true_and, and_self, implies_true, Bool.true_eq_false, Bool.false_eq_true, decide_true, decide_false, decide_eq_true_eq, decide_eq_false_iff_not, ne_eq, not_true_eq_false, not_false_eq_true, Bool.not_eq_true', Bool.not_eq_false', beq_self_eq_true, Bool.not_true, Bool.not_false, List.getElem?_toArray, List.getElem?_cons_zero, List.getElem?_cons_succ, h1, h3, h8, h9, h10, e1]
    · refine (impl_namesOk_c V2 _ _ 6 (OSl.toS (show OSl 9 strO V2 fp w _ from l.at (i := 0) rfl))).mono ?_
      rintro _ V2 ⟨rfl, rfl⟩
      simp (disch := omega) only [↓stp, vls, inf, frs, mark_eq, ↓reduceIte, Nat.reduceEqDiff, ite_tt, ite_ff, eq_self, and_true, true_and, and_self, implies_true, Bool.true_eq_false, Bool.false_eq_true, decide_true, decide_false, decide_eq_true_eq, decide_eq_false_iff_not, ne_eq, not_true_eq_false, not_false_eq_true, Bool.not_eq_true', Bool.not_eq_false', beq_self_eq_true, Bool.not_true, Bool.not_false, List.getElem?_toArray, List.getElem?_cons_zero, List.getElem?_cons_succ, h1, h3, h8, h9, h10, e1]
      exact ⟨by rw [Bool.true_and, Bool.and_true], l.ext⟩
    · exact ⟨by rw [Bool.and_false], l.ext⟩

theorem spec_wellFormed_c (A : View) (d : List Value) (x : SuiteD) (h : suiteS.rel A x d) : ACalls Try.prog 65 #[.agg d.toArray] A fun r A' => r = .bool (formedB x) ∧ Ext A A' := by
  obtain ⟨u0, u1, rfl, g0, g1⟩ := suiteS_open h
  obtain ⟨a0, c0, rfl, _, _⟩ := g0.slice
  obtain ⟨a1, c1, rfl, _, _⟩ := g1.slice
  refine acalls Try.func65 rfl (by kernel_rfl) ?_
  simp (disch := omega) only [↓stp, vls, inf, frs, mark_eq, ↓reduceIte, Nat.reduceEqDiff, ite_tt, ite_ff, eq_self, and_true, true_and, and_self, implies_true, Bool.true_eq_false, Bool.false_eq_true, decide_true, decide_false, decide_eq_true_eq, decide_eq_false_iff_not, ne_eq, not_true_eq_false, not_false_eq_true, Bool.not_eq_true', Bool.not_eq_false', beq_self_eq_true, Bool.not_true, Bool.not_false, List.getElem?_toArray, List.getElem?_cons_zero, List.getElem?_cons_succ]
  refine led_box (Led.nil A) rfl fun q V he l => ?_
  simp (disch := omega) only [↓stp, vls, inf, frs, mark_eq, ↓reduceIte, Nat.reduceEqDiff, ite_tt, ite_ff, eq_self, and_true, true_and, and_self, implies_true, Bool.true_eq_false, Bool.false_eq_true, decide_true, decide_false, decide_eq_true_eq, decide_eq_false_iff_not, ne_eq, not_true_eq_false, not_false_eq_true, Bool.not_eq_true', Bool.not_eq_false', beq_self_eq_true, Bool.not_true, Bool.not_false, List.getElem?_toArray, List.getElem?_cons_zero, List.getElem?_cons_succ]
  refine aloop (fun d fr V => ∃ i : Nat, i ≤ x.1.length ∧ d = x.1.length - i ∧ Led A [bx q ⟨41, [.slice a0 x.1.length c0, .slice a1 x.2.1.length c1], 2, true⟩] V ∧ fr 1 = .pointer (some ⟨q, 0, none⟩) ∧ fr 3 = .int .i64 i ∧ (x.1.take i).all fixB = true ∧ ((x.1.map (·.1)).take i).all nmOk = true ∧ ((x.1.map (·.1)).take i).Nodup) x.1.length ⟨0, by omega, by omega, l, by rfl, by rfl, by simp, by simp, by simp⟩ ?_
  rintro d fr V ⟨i, hi, rfl, l, h1, h3, hn, hn2, hn3⟩
  have k0 := l.cell (i := 0) rfl (o := 0) rfl rfl
  have k1 := l.cell (i := 0) rfl (o := 1) rfl rfl
  simp (disch := omega) only [↓stp, vls, inf, frs, mark_eq, ↓reduceIte, Nat.reduceEqDiff, ite_tt, ite_ff, eq_self, and_true, true_and, and_self, implies_true, Bool.true_eq_false, Bool.false_eq_true, decide_true, decide_false, decide_eq_true_eq, decide_eq_false_iff_not, ne_eq, not_true_eq_false, not_false_eq_true, Bool.not_eq_true', Bool.not_eq_false', beq_self_eq_true, Bool.not_true, Bool.not_false, List.getElem?_toArray, List.getElem?_cons_zero, List.getElem?_cons_succ, h1, h3, add_at, k0]
  refine ⟨fun e => ?_, fun e => ?_⟩
  · have hlt : i < x.1.length := by omega
    have hlt' : i < (x.1.map (·.1)).length := by rw [List.length_map]; exact hlt
    have hg : (x.1.map (·.1))[i]'hlt' = (x.1[i]).1 := by rw [List.getElem_map]
    obtain ⟨ad, u2, rfl, hclA, z1, z2, f2⟩ := g0.fixture hlt
    obtain ⟨a2, c2, rfl, _, _⟩ := f2.slice
    have hcl := l.ext.part hclA
    have hno : fixB x.1[i] = false → formedB x = false := fun hq => by unfold formedB; rw [all_no (p := fixB) hlt hq]; rfl
    simp (disch := omega) only [↓stp, vls, inf, frs, mark_eq, ↓reduceIte, Nat.reduceEqDiff, ite_tt, ite_ff, eq_self, and_true, true_and, and_self, implies_true, Bool.true_eq_false, Bool.false_eq_true, decide_true, decide_false, decide_eq_true_eq, decide_eq_false_iff_not, ne_eq, not_true_eq_false, not_false_eq_true, Bool.not_eq_true', Bool.not_eq_false', beq_self_eq_true, Bool.not_true, Bool.not_false, List.getElem?_toArray, List.getElem?_cons_zero, List.getElem?_cons_succ, h1, h3, add_at, k0, hcl]
    refine led_alloc zc75 l fun q1 V1 he1 l => ?_
    simp (disch := omega) only [↓stp, vls, inf, frs, mark_eq, ↓reduceIte, Nat.reduceEqDiff, ite_tt, ite_ff, eq_self, and_true, true_and, and_self, implies_true, Bool.true_eq_false, Bool.false_eq_true, decide_true, decide_false, decide_eq_true_eq, decide_eq_false_iff_not, ne_eq, not_true_eq_false, not_false_eq_true, Bool.not_eq_true', Bool.not_eq_false', beq_self_eq_true, Bool.not_true, Bool.not_false, List.getElem?_toArray, List.getElem?_cons_zero, List.getElem?_cons_succ, h1, h3]
    refine led_storeAll l 0 rfl sz75 rfl rfl (by simp [Value.oneCell']) fun V2 l => ?_
    have m0 := l.cell (i := 0) rfl (o := 0) rfl rfl
    have m1 := l.cell (i := 0) rfl (o := 1) rfl rfl
    have m2 := l.cell (i := 0) rfl (o := 2) rfl rfl
    have k0 := l.cell (i := 1) rfl (o := 0) rfl rfl
    simp (disch := omega) only [↓stp, vls, inf, frs, mark_eq, ↓reduceIte, Nat.reduceEqDiff, ite_tt, ite_ff, eq_self, and_true, true_and, and_self, implies_true, Bool.true_eq_false, Bool.false_eq_true, decide_true, decide_false, decide_eq_true_eq, decide_eq_false_iff_not, ne_eq, not_true_eq_false, not_false_eq_true, Bool.not_eq_true', Bool.not_eq_false', beq_self_eq_true, Bool.not_true, Bool.not_false, List.getElem?_toArray, List.getElem?_cons_zero, List.getElem?_cons_succ, h1, h3]
    refine adraw_items [.q 0, .l 1 false, .c 2 [], .q 3, .q 4, .q 5, .l 6 false, .q 7, .q 8, .q 9, .l 10 false, .c 11 [], .q 12, .q 13, .q 14, .q 15, .l 16 false, .c 17 [], .q 18, .q 19, .q 20, .q 21, .l 22 false, .c 23 [], .q 24, .q 25] (by kernel_rfl) (by kernel_rfl) ?_
    simp (disch := omega) only [↓stp, ↓pln, plv, nilOk, Nat.reduceBEq, Bool.or_false, Bool.or_true, Bool.false_or, Bool.true_or, vls, inf, frs, mark_eq, ↓reduceIte, Nat.reduceEqDiff, ite_tt, ite_ff, eq_self, and_true, true_and, and_self, implies_true, Bool.true_eq_false, Bool.false_eq_true, decide_true, decide_false, decide_eq_true_eq, decide_eq_false_iff_not, ne_eq, not_true_eq_false, not_false_eq_true, Bool.not_eq_true', Bool.not_eq_false', beq_self_eq_true, Bool.not_true, Bool.not_false, List.getElem?_toArray, List.getElem?_cons_zero, List.getElem?_cons_succ, h1, h3, add_at, m0, m1, m2, k0]
    refine (spec_validName_c V2 _ z1).mono ?_
    rintro _ V2 ⟨rfl, rfl⟩
    simp (disch := omega) only [↓stp, ↓pln, plv, nilOk, Nat.reduceBEq, Bool.or_false, Bool.or_true, Bool.false_or, Bool.true_or, vls, inf, frs, mark_eq, ↓reduceIte, Nat.reduceEqDiff, ite_tt, ite_ff, eq_self, and_true, true_and, and_self, implies_true, Bool.true_eq_false, Bool.false_eq_true, decide_true, decide_false, decide_eq_true_eq, decide_eq_false_iff_not, ne_eq, not_true_eq_false, not_false_eq_true, Bool.not_eq_true', Bool.not_eq_false', beq_self_eq_true, Bool.not_true, Bool.not_false, List.getElem?_toArray, List.getElem?_cons_zero, List.getElem?_cons_succ, h1, h3, add_at, m0, m1, m2, k0]
    refine ⟨fun e1 => ?_, fun e1 => ?_⟩ <;> simp (disch := omega) only [↓stp, ↓pln, plv, nilOk, Nat.reduceBEq, Bool.or_false, Bool.or_true, Bool.false_or, Bool.true_or, vls, inf, frs, mark_eq, ↓reduceIte, Nat.reduceEqDiff, ite_tt, ite_ff, eq_self, and_true, true_and, and_self, implies_true, Bool.true_eq_false, Bool.false_eq_true, decide_true, decide_false, decide_eq_true_eq, decide_eq_false_iff_not, ne_eq, not_true_eq_false, not_false_eq_true, Bool.not_eq_true', Bool.not_eq_false', beq_self_eq_true, Bool.not_true, Bool.not_false, List.getElem?_toArray, List.getElem?_cons_zero, List.getElem?_cons_succ, h1, h3, add_at, m0, m1, m2, k0, e1]
    · refine (spec_fixtureAt_c V2 _ (x.1.take i) _ ((g0.mono l.ext).take (by omega) 4)).mono ?_
      rintro _ V2 ⟨rfl, rfl⟩
      simp (disch := omega) only [↓stp, ↓pln, plv, nilOk, Nat.reduceBEq, Bool.or_false, Bool.or_true, Bool.false_or, Bool.true_or, vls, inf, frs, mark_eq, ↓reduceIte, Nat.reduceEqDiff, ite_tt, ite_ff, eq_self, and_true, true_and, and_self, implies_true, Bool.true_eq_false, Bool.false_eq_true, decide_true, decide_false, decide_eq_true_eq, decide_eq_false_iff_not, ne_eq, not_true_eq_false, not_false_eq_true, Bool.not_eq_true', Bool.not_eq_false', beq_self_eq_true, Bool.not_true, Bool.not_false, List.getElem?_toArray, List.getElem?_cons_zero, List.getElem?_cons_succ, h1, h3, add_at, m0, m1, m2, k0, e1]
      refine ⟨fun e2 => ?_, fun e2 => ?_⟩ <;> simp (disch := omega) only [↓stp, ↓pln, plv, nilOk, Nat.reduceBEq, Bool.or_false, Bool.or_true, Bool.false_or, Bool.true_or, vls, inf, frs, mark_eq, ↓reduceIte, Nat.reduceEqDiff, ite_tt, ite_ff, eq_self, and_true, true_and, and_self, implies_true, Bool.true_eq_false, Bool.false_eq_true, decide_true, decide_false, decide_eq_true_eq, decide_eq_false_iff_not, ne_eq, not_true_eq_false, not_false_eq_true, Bool.not_eq_true', Bool.not_eq_false', beq_self_eq_true, Bool.not_true, Bool.not_false, List.getElem?_toArray, List.getElem?_cons_zero, List.getElem?_cons_succ, h1, h3, add_at, m0, m1, m2, k0, e1, e2]
      · refine (spec_inRange_c V2 _ _ _).mono ?_
        rintro _ V2 ⟨rfl, rfl⟩
        simp (disch := omega) only [↓stp, ↓pln, plv, nilOk, Nat.reduceBEq, Bool.or_false, Bool.or_true, Bool.false_or, Bool.true_or, vls, inf, frs, mark_eq, ↓reduceIte, Nat.reduceEqDiff, ite_tt, ite_ff, eq_self, and_true, true_and, and_self, implies_true, Bool.true_eq_false, Bool.false_eq_true, decide_true, decide_false, decide_eq_true_eq, decide_eq_false_iff_not, ne_eq, not_true_eq_false, not_false_eq_true, Bool.not_eq_true', Bool.not_eq_false', beq_self_eq_true, Bool.not_true, Bool.not_false, List.getElem?_toArray, List.getElem?_cons_zero, List.getElem?_cons_succ, h1, h3, add_at, m0, m1, m2, k0, e1, e2]
        refine ⟨fun e3 => ?_, fun e3 => ?_⟩ <;> simp (disch := omega) only [↓stp, ↓pln, plv, nilOk, Nat.reduceBEq, Bool.or_false, Bool.or_true, Bool.false_or, Bool.true_or, vls, inf, frs, mark_eq, ↓reduceIte, Nat.reduceEqDiff, ite_tt, ite_ff, eq_self, and_true, true_and, and_self, implies_true, Bool.true_eq_false, Bool.false_eq_true, decide_true, decide_false, decide_eq_true_eq, decide_eq_false_iff_not, ne_eq, not_true_eq_false, not_false_eq_true, Bool.not_eq_true', Bool.not_eq_false', beq_self_eq_true, Bool.not_true, Bool.not_false, List.getElem?_toArray, List.getElem?_cons_zero, List.getElem?_cons_succ, h1, h3, add_at, m0, m1, m2, k0, e1, e2, e3]
        · refine (spec_validNames_c V2 _ _ 4 (f2.mono l.ext)).mono ?_
          rintro _ V2 ⟨rfl, rfl⟩
          simp (disch := omega) only [↓stp, ↓pln, plv, nilOk, Nat.reduceBEq, Bool.or_false, Bool.or_true, Bool.false_or, Bool.true_or, vls, inf, frs, mark_eq, ↓reduceIte, Nat.reduceEqDiff, ite_tt, ite_ff, eq_self, and_true, true_and, and_self, implies_true, Bool.true_eq_false, Bool.false_eq_true, decide_true, decide_false, decide_eq_true_eq, decide_eq_false_iff_not, ne_eq, not_true_eq_false, not_false_eq_true, Bool.not_eq_true', Bool.not_eq_false', beq_self_eq_true, Bool.not_true, Bool.not_false, List.getElem?_toArray, List.getElem?_cons_zero, List.getElem?_cons_succ, h1, h3, add_at, m0, m1, m2, k0, e1, e2, e3]
          refine ⟨fun e4 => ?_, fun e4 => ?_⟩ <;> simp (disch := omega) only [↓stp, vls, inf, frs, mark_eq, ↓reduceIte, Nat.reduceEqDiff, ite_tt, ite_ff, eq_self, and_true, true_and, and_self, implies_true, Bool.true_eq_false, Bool.false_eq_true, decide_true, decide_false, decide_eq_true_eq, decide_eq_false_iff_not, ne_eq, not_true_eq_false, not_false_eq_true, Bool.not_eq_true', Bool.not_eq_false', beq_self_eq_true, Bool.not_true, Bool.not_false, List.getElem?_toArray, List.getElem?_cons_zero, List.getElem?_cons_succ, h1, h3]
          · exact ⟨by rw [hno (by unfold fixB; rw [e4, Bool.and_false])], l.ext⟩
          · refine ⟨_, by omega, i + 1, by omega, rfl, l.tail, rfl, all_take hlt hn ?_, all_take hlt' hn2 (by rw [hg]; exact e1), (nodup_take_succ hlt').2 ⟨hn3, ?_⟩⟩
            · unfold fixB
              rw [e3, e4]; rfl
            · rw [hg, ← List.map_take]
              exact fun hm => e2 (fAt_in.2 hm)
        · exact ⟨by rw [hno (by unfold fixB; rw [e3, Bool.false_and])], l.ext⟩
      · rw [fAt_in, List.map_take, ← hg] at e2
        have : ¬ (x.1.map (·.1)).Nodup := nodup_no hlt' e2
        exact ⟨by unfold formedB namesB; rw [decide_eq_false this]; simp, l.ext⟩
    · rw [← hg] at e1
      exact ⟨by unfold formedB namesB; rw [all_no (p := nmOk) hlt' e1]; simp, l.ext⟩
  · simp (disch := omega) only [↓stp, vls, inf, frs, mark_eq, ↓reduceIte, Nat.reduceEqDiff, ite_tt, ite_ff, eq_self, and_true, true_and, and_self, implies_true, Bool.true_eq_false, Bool.false_eq_true, decide_true, decide_false, decide_eq_true_eq, decide_eq_false_iff_not, ne_eq, not_true_eq_false, not_false_eq_true, Bool.not_eq_true', Bool.not_eq_false', beq_self_eq_true, Bool.not_true, Bool.not_false, List.getElem?_toArray, List.getElem?_cons_zero, List.getElem?_cons_succ, h1, h3, add_at, k1]
    rw [List.take_of_length_le (by omega)] at hn
    rw [List.take_of_length_le (by rw [List.length_map]; omega)] at hn2 hn3
    refine (spec_validTests_c V _ x.2.1 (g1.mono l.ext)).mono ?_
    rintro _ V2 ⟨rfl, he2⟩
    replace l := l.step he2
    have k0 := l.cell (i := 0) rfl (o := 0) rfl rfl
    unfold formedB namesB
    rw [hn, hn2, decide_eq_true hn3]
    simp (disch := omega) only [↓stp, vls, inf, frs, mark_eq, ↓reduceIte, Nat.reduceEqDiff, ite_tt, ite_ff, eq_self, and_true, true_and, and_self, implies_true, Bool.true_eq_false, Bool.false_eq_true, decide_true, decide_false, decide_eq_true_eq, decide_eq_false_iff_not, ne_eq, not_true_eq_false, not_false_eq_true, Bool.not_eq_true', Bool.not_eq_false', beq_self_eq_true, Bool.not_true, Bool.not_false, List.getElem?_toArray, List.getElem?_cons_zero, List.getElem?_cons_succ, h1, h3]
    refine ⟨fun e1 => ?_, fun e1 => ?_⟩ <;> simp (disch := omega) only [↓stp, vls, inf, frs, mark_eq, ↓reduceIte, Nat.reduceEqDiff, ite_tt, ite_ff, eq_self, and_true, true_and, and_self, implies_true, Bool.true_eq_false, Bool.false_eq_true, decide_true, decide_false, decide_eq_true_eq, decide_eq_false_iff_not, ne_eq, not_true_eq_false, not_false_eq_true, Bool.not_eq_true', Bool.not_eq_false', beq_self_eq_true, Bool.not_true, Bool.not_false, List.getElem?_toArray, List.getElem?_cons_zero, List.getElem?_cons_succ, h1, h3, e1, add_at, k0]
    · refine ⟨?_, l.ext⟩
      congr 1
      rw [List.length_map, Bool.true_and, Bool.and_true, Bool.true_and, Bool.true_and]
    · exact ⟨by rw [Bool.and_false], l.ext⟩

end Go.Proofs.Ytggklaimbklefaa

/- What fixtures need, directly and by others. -/
set_option maxHeartbeats 4000000
set_option synthInstance.maxHeartbeats 400000
set_option synthInstance.maxSize 4096
set_option linter.unusedSimpArgs false
set_option linter.unusedVariables false
namespace Go.Proofs.Ytggklaimbklefaa

section
variable {fs : List FixtureD} {a b c : ByteArray}

/-- What a fixture of a name needs itself. -/
def needsAt (fs : List FixtureD) (a : ByteArray) : List ByteArray := ((fs.find? (isF a)).map (·.2.2.1)).getD []
/-- One fixture needs another one, in one or more steps. -/
inductive Rch (fs : List FixtureD) (a : ByteArray) : ByteArray → Prop where
  | one {b : ByteArray} : b ∈ needsAt fs a → Rch fs a b
  | more {b c : ByteArray} : Rch fs a b → c ∈ needsAt fs b → Rch fs a c

theorem Rch.trans (h : Rch fs a b) (h' : Rch fs b c) : Rch fs a c := by
  induction h' with
  | one h1 => exact .more h h1
  | more _ h1 ih => exact .more ih h1
/-- There is a fixture of a name. -/
def hasF (fs : List FixtureD) (a : ByteArray) : Prop := a ∈ fs.map (·.1)
instance : Decidable (hasF fs a) := inferInstanceAs (Decidable (a ∈ fs.map (·.1)))
theorem needsAt_no (h : ¬ hasF fs a) : needsAt fs a = [] := by
  unfold needsAt
  rw [List.find?_eq_none.2 ?_]
  · rfl
  · intro f hf hq
    exact h (List.mem_map.2 ⟨f, hf, of_decide_eq_true hq⟩)
theorem hasF_of (h : b ∈ needsAt fs a) : hasF fs a := Classical.byContradiction fun hn => by
  rw [needsAt_no hn] at h
  cases h

/-! ### a list that is closed -/

/-- What is added of some needs. -/
def addN (r : List ByteArray) (ns : List ByteArray) : List ByteArray := ns.foldl (fun r n => if n ∈ r then r else r ++ [n]) r
theorem addN_cons (r : List ByteArray) (n : ByteArray) (ns : List ByteArray) : addN r (n :: ns) = addN (if n ∈ r then r else r ++ [n]) ns := rfl
theorem addN_take {r ns : List ByteArray} {i : Nat} (h : i < ns.length) : addN r (ns.take (i + 1)) = if ns[i] ∈ addN r (ns.take i) then addN r (ns.take i) else addN r (ns.take i) ++ [ns[i]] := by
  unfold addN
  rw [List.take_succ_eq_append_getElem h, List.foldl_append]; rfl
theorem addN_mem {ns : List ByteArray} : ∀ {r : List ByteArray} {y : ByteArray}, y ∈ addN r ns ↔ y ∈ r ∨ y ∈ ns := by
  induction ns with
  | nil => intro r y; simp [addN]
  | cons n ns ih =>
    intro r y
    rw [addN_cons, ih, List.mem_cons]
    split
    · rename_i hn
      constructor
      · rintro (h | h) <;> simp [h]
      · rintro (h | rfl | h)
        · exact .inl h
        · exact .inl hn
        · exact .inr h
    · rw [List.mem_append, List.mem_singleton]
      constructor
      · rintro ((h | h) | h) <;> simp [h]
      · rintro (h | h | h) <;> simp [h]
theorem addN_nodup {ns : List ByteArray} : ∀ {r : List ByteArray}, r.Nodup → (addN r ns).Nodup := by
  induction ns with
  | nil => intro r h; exact h
  | cons n ns ih =>
    intro r h
    rw [addN_cons]
    refine ih ?_
    split
    · exact h
    · rename_i hn
      rw [List.nodup_append]
      exact ⟨h, by simp, fun x hx y hy => by rw [List.mem_singleton.1 hy]; rintro rfl; exact hn hx⟩
theorem addN_pre {ns : List ByteArray} : ∀ {r : List ByteArray}, r <+: addN r ns := by
  induction ns with
  | nil => intro r; exact List.prefix_refl r
  | cons n ns ih =>
    intro r
    rw [addN_cons]
    refine List.IsPrefix.trans ?_ ih
    split
    · exact List.prefix_refl r
    · exact List.prefix_append r _

/-- The closing of what a fixture needs, up to a place: what is known of it. -/
structure Closing (fs : List FixtureD) (a : ByteArray) (r : List ByteArray) (i : Nat) : Prop where
  nd : r.Nodup
  base : ∀ n, n ∈ needsAt fs a → n ∈ r
  from_ : ∀ n, n ∈ r → Rch fs a n
  upto : ∀ k (h : k < r.length), k < i → ∀ n, n ∈ needsAt fs r[k] → n ∈ r
theorem Closing.start (h : (needsAt fs a).Nodup) : Closing fs a (needsAt fs a) 0 := ⟨h, fun _ h => h, fun _ h => .one h, fun _ _ h => by omega⟩
theorem Closing.next {r : List ByteArray} {i : Nat} (h : Closing fs a r i) (hi : i < r.length) : Closing fs a (addN r (needsAt fs r[i])) (i + 1) := by
  refine ⟨addN_nodup h.nd, fun n hn => addN_mem.2 (.inl (h.base n hn)), fun n hn => ?_, fun k hk hki n hn => ?_⟩
  · rcases addN_mem.1 hn with hn | hn
    · exact h.from_ n hn
    · exact .more (h.from_ _ (List.getElem_mem hi)) hn
  · obtain ⟨t, ht⟩ := addN_pre (r := r) (ns := needsAt fs r[i])
    have hk' : k < r.length := by omega
    have hq : (addN r (needsAt fs r[i]))[k] = r[k] := by
      simp only [← ht]
      rw [List.getElem_append_left hk']
    rw [hq] at hn
    by_cases hki' : k = i
    · subst hki'; exact addN_mem.2 (.inr hn)
    · exact addN_mem.2 (.inl (h.upto k hk' (by omega) n hn))
theorem Closing.done {r : List ByteArray} {i : Nat} (h : Closing fs a r i) (hi : r.length ≤ i) (n : ByteArray) : n ∈ r ↔ Rch fs a n := by
  refine ⟨h.from_ n, fun hr => ?_⟩
  induction hr with
  | one h1 => exact h.base _ h1
  | more _ h1 ih =>
    obtain ⟨k, hk, rfl⟩ := List.mem_iff_getElem.1 ih
    exact h.upto k hk (by omega) _ h1
theorem needs_sub (h : b ∈ needsAt fs a) : b ∈ fs.flatMap (·.2.2.1) := by
  unfold needsAt at h
  cases hf : fs.find? (isF a) with
  | none => rw [hf] at h; cases h
  | some f =>
    rw [hf] at h
    exact List.mem_flatMap.2 ⟨f, List.mem_of_find?_eq_some hf, h⟩
theorem Rch.sub (h : Rch fs a b) : b ∈ fs.flatMap (·.2.2.1) := by
  cases h with
  | one h1 => exact needs_sub h1
  | more _ h1 => exact needs_sub h1
theorem nodup_len {α : Type} [BEq α] [LawfulBEq α] : ∀ {r U : List α}, r.Nodup → (∀ x, x ∈ r → x ∈ U) → r.length ≤ U.length
  | [], _, _, _ => Nat.zero_le _
  | x :: r, U, h, hs => by
    have hx := hs x (List.mem_cons_self ..)
    have h1 := nodup_len (r := r) (U := U.erase x) (List.nodup_cons.1 h).2 fun y hy => (List.mem_erase_of_ne (show y ≠ x from by rintro rfl; exact (List.nodup_cons.1 h).1 hy)).2 (hs y (List.mem_cons_of_mem _ hy))
    have h2 := List.length_erase_of_mem hx
    have h3 := List.length_pos_of_mem hx
    rw [List.length_cons]
    omega
theorem Closing.len {r : List ByteArray} {i : Nat} (h : Closing fs a r i) : r.length ≤ (fs.flatMap (·.2.2.1)).length :=
  nodup_len h.nd fun _ hn => (h.from_ _ hn).sub

/-! ### the search in depth -/

/-- The reference's search, with fuel. -/
def rchF (fs : List FixtureD) : Nat → ByteArray → List ByteArray → List ByteArray → List ByteArray
  | 0, _, _, out => out
  | n + 1, a, op, out => if hasF fs a ∧ a ∉ out ∧ a ∉ op then (needsAt fs a).foldl (fun out b => rchF fs n b (op ++ [a]) out) out ++ [a] else out
/-- How many fixtures are not open. -/
def freeN (fs : List FixtureD) (op : List ByteArray) : Nat := (fs.map (·.1)).countP fun a => decide (a ∉ op)
theorem countP_lt {α : Type} {p q : α → Bool} {xs : List α} (h : ∀ x, x ∈ xs → q x = true → p x = true) {a : α} (ha : a ∈ xs) (h1 : p a = true) (h2 : q a = false) : xs.countP q < xs.countP p := by
  induction xs with
  | nil => cases ha
  | cons x xs ih =>
    have hle : xs.countP q ≤ xs.countP p := List.countP_mono_left fun y hy => h y (List.mem_cons_of_mem _ hy)
    rw [List.countP_cons, List.countP_cons]
    rcases List.mem_cons.1 ha with rfl | ha
    · rw [h1, h2]; simp; omega
    · have := ih (fun y hy => h y (List.mem_cons_of_mem _ hy)) ha
      have hx := h x (List.mem_cons_self ..)
      cases hq : q x
      · simp; split <;> omega
      · rw [hx hq]; simp; omega
theorem freeN_lt {op : List ByteArray} (h : hasF fs a) (ho : a ∉ op) : freeN fs (op ++ [a]) < freeN fs op := by
  unfold freeN
  refine countP_lt (a := a) (fun x _ hx => ?_) h (by simpa using ho) (by simp)
  simp only [List.mem_append, not_or, decide_eq_true_eq] at hx ⊢
  exact hx.1
theorem freeN_pos {op : List ByteArray} (h : hasF fs a) (ho : a ∉ op) : 0 < freeN fs op := by
  have := freeN_lt h ho
  omega

/-- What is found is closed, but for what is open. -/
def Inv (fs : List FixtureD) (out op : List ByteArray) : Prop := ∀ x, x ∈ out → ∀ y, y ∈ needsAt fs x → hasF fs y → y ∈ out ∨ y ∈ op

theorem foldl_inv {α β : Type} {f : β → α → β} {I : β → Prop} {xs : List α} (hs : ∀ b x, x ∈ xs → I b → I (f b x)) {b : β} (h : I b) : I (xs.foldl f b) := by
  induction xs generalizing b with
  | nil => exact h
  | cons x xs ih => exact ih (fun b y hy => hs b y (List.mem_cons_of_mem _ hy)) (hs b x (List.mem_cons_self ..) h)

theorem rchF_sub (n : Nat) : ∀ (a : ByteArray) (op out : List ByteArray), (∀ x, x ∈ out → x ∈ rchF fs n a op out) ∧ (∀ x, x ∈ rchF fs n a op out → x ∈ out ∨ ((x = a ∨ Rch fs a x) ∧ hasF fs x)) := by
  induction n with
  | zero => intro a op out; exact ⟨fun x h => h, fun x h => .inl h⟩
  | succ n ih =>
    intro a op out
    unfold rchF
    split
    · rename_i hc
      have key := foldl_inv (xs := needsAt fs a) (f := fun out b => rchF fs n b (op ++ [a]) out) (b := out) (I := fun o => (∀ x, x ∈ out → x ∈ o) ∧ (∀ x, x ∈ o → x ∈ out ∨ (Rch fs a x ∧ hasF fs x))) (fun o b hb ho => by
        refine ⟨fun x hx => (ih b (op ++ [a]) o).1 x (ho.1 x hx), fun x hx => ?_⟩
        rcases (ih b (op ++ [a]) o).2 x hx with h | ⟨h, h2⟩
        · exact ho.2 x h
        · rcases h with rfl | h
          · exact .inr ⟨.one hb, h2⟩
          · exact .inr ⟨(Rch.one hb).trans h, h2⟩) ⟨fun x h => h, fun x h => .inl h⟩
      refine ⟨fun x hx => List.mem_append_left _ (key.1 x hx), fun x hx => ?_⟩
      rcases List.mem_append.1 hx with hx | hx
      · rcases key.2 x hx with h | h
        · exact .inl h
        · exact .inr ⟨.inr h.1, h.2⟩
      · rw [List.mem_singleton.1 hx]
        exact .inr ⟨.inl rfl, hc.1⟩
    · exact ⟨fun x h => h, fun x h => .inl h⟩

theorem rchF_inv (n : Nat) : ∀ (a : ByteArray) (op out : List ByteArray), freeN fs op ≤ n → Inv fs out op → Inv fs (rchF fs n a op out) op ∧ (hasF fs a → a ∈ rchF fs n a op out ∨ a ∈ op) := by
  induction n with
  | zero =>
    intro a op out hn hi
    refine ⟨hi, fun ha => .inr (Classical.byContradiction fun ho => ?_)⟩
    have := freeN_pos ha ho
    omega
  | succ n ih =>
    intro a op out hn hi
    unfold rchF
    split
    · rename_i hc
      have hn' : freeN fs (op ++ [a]) ≤ n := by have := freeN_lt hc.1 hc.2.2; omega
      have key : ∀ (ns : List ByteArray) (o : List ByteArray), Inv fs o (op ++ [a]) → Inv fs (ns.foldl (fun out b => rchF fs n b (op ++ [a]) out) o) (op ++ [a]) ∧ (∀ b, b ∈ ns → hasF fs b → b ∈ ns.foldl (fun out b => rchF fs n b (op ++ [a]) out) o ∨ b ∈ op ++ [a]) ∧ (∀ x, x ∈ o → x ∈ ns.foldl (fun out b => rchF fs n b (op ++ [a]) out) o) := by
        intro ns
        induction ns with
        | nil => intro o ho; exact ⟨ho, (by intro b hb; cases hb), fun x h => h⟩
        | cons m ns ihn =>
          intro o ho
          rw [List.foldl_cons]
          have h1 := ih m (op ++ [a]) o hn' ho
          have h2 := ihn _ h1.1
          refine ⟨h2.1, fun b hb hf => ?_, fun x hx => h2.2.2 x ((rchF_sub n m (op ++ [a]) o).1 x hx)⟩
          rcases List.mem_cons.1 hb with rfl | hb
          · rcases h1.2 hf with h | h
            · exact .inl (h2.2.2 _ h)
            · exact .inr h
          · exact h2.2.1 b hb hf
      have hk := key (needsAt fs a) out fun x hx y hy hf => by
        rcases hi x hx y hy hf with h | h
        · exact .inl h
        · exact .inr (List.mem_append_left _ h)
      refine ⟨fun x hx y hy hf => ?_, fun _ => .inl (List.mem_append_right _ (List.mem_singleton.2 rfl))⟩
      have : y ∈ (needsAt fs a).foldl (fun out b => rchF fs n b (op ++ [a]) out) out ∨ y ∈ op ++ [a] := by
        rcases List.mem_append.1 hx with hx | hx
        · exact hk.1 x hx y hy hf
        · rw [List.mem_singleton.1 hx] at hy
          exact hk.2.1 y hy hf
      rcases this with h | h
      · exact .inl (List.mem_append_left _ h)
      · rcases List.mem_append.1 h with h | h
        · exact .inr h
        · exact .inl (List.mem_append_right _ h)
    · rename_i hc
      refine ⟨hi, fun ha => ?_⟩
      by_cases h1 : a ∈ out
      · exact .inl h1
      · exact .inr (Classical.byContradiction fun h2 => hc ⟨ha, h1, h2⟩)

/-- All that is found from a fixture. -/
theorem rchF_all {n : Nat} (hn : freeN fs [] ≤ n) (ha : hasF fs a) (x : ByteArray) : x ∈ rchF fs n a [] [] ↔ (x = a ∨ Rch fs a x) ∧ hasF fs x := by
  have h1 := rchF_inv (fs := fs) n a [] [] hn (by intro x hx; cases hx)
  have h0 : a ∈ rchF fs n a [] [] := by
    rcases h1.2 ha with h | h
    · exact h
    · cases h
  constructor
  · intro hx
    rcases (rchF_sub (fs := fs) n a [] []).2 x hx with h | h
    · cases h
    · exact h
  · rintro ⟨hx, hf⟩
    rcases hx with rfl | hx
    · exact h0
    · have step : ∀ b c, b ∈ rchF fs n a [] [] → c ∈ needsAt fs b → hasF fs c → c ∈ rchF fs n a [] [] := fun b c hb hc hf => by
        rcases h1.1 b hb c hc hf with h | h
        · exact h
        · cases h
      clear h1
      induction hx with
      | one hb => exact step a _ h0 hb hf
      | more _ hb ih => exact step _ _ (ih (hasF_of hb)) hb hf

/-- A fixture needs itself: some that is found has it among its needs. -/
theorem circle_iff {n : Nat} (hn : freeN fs [] ≤ n) (ha : hasF fs a) : (∃ x, x ∈ rchF fs n a [] [] ∧ a ∈ needsAt fs x) ↔ Rch fs a a := by
  constructor
  · rintro ⟨x, hx, h⟩
    rcases ((rchF_all hn ha x).1 hx).1 with rfl | hr
    · exact .one h
    · exact .more hr h
  · intro h
    cases h with
    | one h => exact ⟨a, (rchF_all hn ha a).2 ⟨.inl rfl, ha⟩, h⟩
    | more hr h => exact ⟨_, (rchF_all hn ha _).2 ⟨.inr hr, hasF_of h⟩, h⟩
end

end Go.Proofs.Ytggklaimbklefaa

/- The reference's search among fixtures. -/
set_option maxHeartbeats 4000000
set_option synthInstance.maxHeartbeats 400000
set_option synthInstance.maxSize 4096
set_option linter.unusedSimpArgs false
set_option linter.unusedVariables false
namespace Go.Proofs.Ytggklaimbklefaa

set_option maxRecDepth 100000

section
variable {fs : List FixtureD}
/-- A list of different fixtures' names. -/
def Names (fs : List FixtureD) (xs : List ByteArray) : Prop := xs.Nodup ∧ ∀ x, x ∈ xs → hasF fs x
theorem Names.len {xs : List ByteArray} (h : Names fs xs) : xs.length ≤ fs.length := by
  have := nodup_len (U := fs.map fun f : FixtureD => f.1) h.1 h.2
  rwa [List.length_map] at this
theorem Names.snoc {xs : List ByteArray} {a : ByteArray} (h : Names fs xs) (ha : hasF fs a) (hn : a ∉ xs) : Names fs (xs ++ [a]) := by
  refine ⟨?_, fun x hx => ?_⟩
  · rw [List.nodup_append]
    exact ⟨h.1, by simp, fun x hx y hy => by rw [List.mem_singleton.1 hy]; rintro rfl; exact hn hx⟩
  · rcases List.mem_append.1 hx with hx | hx
    · exact h.2 x hx
    · rw [List.mem_singleton.1 hx]; exact ha
/-- What is open is not added. -/
theorem rchF_open (n : Nat) : ∀ (a : ByteArray) (op out : List ByteArray) (x : ByteArray), x ∈ op → x ∈ rchF fs n a op out → x ∈ out := by
  induction n with
  | zero => intro a op out x _ h; exact h
  | succ n ih =>
    intro a op out x hx h
    unfold rchF at h
    split at h
    · rename_i hc
      rcases List.mem_append.1 h with h | h
      · have key := foldl_inv (xs := needsAt fs a) (f := fun out b => rchF fs n b (op ++ [a]) out) (b := out) (I := fun o => x ∈ o → x ∈ out) (fun o b _ ho h2 => ho (ih b (op ++ [a]) o x (List.mem_append_left _ hx) h2)) id
        exact key h
      · rw [List.mem_singleton.1 h] at hx
        exact absurd hx hc.2.2
    · exact h
theorem rchF_names (n : Nat) : ∀ (a : ByteArray) (op out : List ByteArray), Names fs out → Names fs (rchF fs n a op out) := by
  induction n with
  | zero => intro a op out h; exact h
  | succ n ih =>
    intro a op out h
    unfold rchF
    split
    · rename_i hc
      have key := foldl_inv (xs := needsAt fs a) (f := fun out b => rchF fs n b (op ++ [a]) out) (b := out) (I := fun o => Names fs o ∧ (a ∈ o → a ∈ out)) (fun o b _ ho => ⟨ih b (op ++ [a]) o ho.1, fun h2 => ho.2 (rchF_open n b (op ++ [a]) o a (List.mem_append_right _ (List.mem_singleton.2 rfl)) h2)⟩) ⟨h, id⟩
      exact key.1.snoc hc.1 fun h2 => hc.2.1 (key.2 h2)
    · exact h
end

/-- The needs of a fixture in its place. -/
theorem needsAt_idx {fs : List FixtureD} {a : ByteArray} (h : 0 ≤ fAt fs a) : ∃ i : Nat, fAt fs a = i ∧ ∃ hi : i < fs.length, needsAt fs a = fs[i].2.2.1 ∧ fs[i].1 = a := by
  obtain ⟨i, h1, hi, h2, h3⟩ := idxI_lt h
  exact ⟨i, h1, hi, by unfold needsAt; rw [h3]; rfl, of_decide_eq_true h2⟩
theorem hasF_idx {fs : List FixtureD} {a : ByteArray} : hasF fs a ↔ 0 ≤ fAt fs a := fAt_in.symm

theorem rchF_stop {fs : List FixtureD} (n : Nat) {a : ByteArray} {op out : List ByteArray} (h : ¬ (hasF fs a ∧ a ∉ out ∧ a ∉ op)) : rchF fs n a op out = out := by
  cases n with
  | zero => rfl
  | succ n => unfold rchF; rw [if_neg h]

theorem spec_reach_c (B : View) (d : List Value) (x : SuiteD) (hx : suiteS.rel B x d) (hsm : x.1.length ≤ 1048576) : ∀ (n : Nat) (A : View) (L : List It) (name : ByteArray) (vo : Value) (op : List ByteArray) (fp : List Nat) (w : Value) (out : List ByteArray), name.size ≤ 140737488355328 →
    (∀ V fp w out, Led B (osl 9 strO fp w out :: L) V → Sl strS V vo op) → freeN x.1 op ≤ n → Names x.1 op → Names x.1 out → Led B (osl 9 strO fp w out :: L) A →
    ACalls Try.prog 76 #[.agg d.toArray, .string name, vo, w] A fun r V => ∃ fp', Led B (osl 9 strO fp' r (rchF x.1 n name op out) :: L) V := by
  obtain ⟨u0, u1, rfl, g0, g1⟩ := suiteS_open hx
  obtain ⟨a0, c0, rfl, _, _⟩ := g0.slice
  obtain ⟨a1, c1, rfl, _, _⟩ := g1.slice
  intro n
  induction n using Nat.strongRecOn with
  | _ n ih =>
    intro A L name vo op fp w out hz hop hfr hnop hnout l
    obtain ⟨ao, co, rfl, hco, hlo⟩ := (hop A fp w out l).slice
    obtain ⟨aw, cw, rfl, hcw, hlw⟩ := (show Sl strS A w out from OSl.toS (show OSl 9 strO A fp w out from l.at (i := 0) rfl)).slice
    refine acalls Try.func76 rfl (by kernel_rfl) ?_
    simp (disch := omega) only [↓stp, vls, inf, frs, mark_eq, ↓reduceIte, Nat.reduceEqDiff, ite_tt, ite_ff, eq_self, and_true, true_and, and_self, implies_true, Bool.true_eq_false, Bool.false_eq_true, decide_true, decide_false, decide_eq_true_eq, decide_eq_false_iff_not, ne_eq, not_true_eq_false, not_false_eq_true, Bool.not_eq_true', Bool.not_eq_false', beq_self_eq_true, Bool.not_true, Bool.not_false, List.getElem?_toArray, List.getElem?_cons_zero, List.getElem?_cons_succ]
    refine led_box l rfl fun q V he l => ?_
    have k0 := l.cell (i := 0) rfl (o := 0) rfl rfl
    have k1 := l.part (i := 0) rfl rfl
    have hOut : Sl strS V (.slice aw out.length cw) out := OSl.toS (show OSl 9 strO V fp _ out from l.at (i := 1) rfl)
    have hOp : Sl strS V (.slice ao op.length co) op := hop V _ _ _ l.tail
    simp (disch := omega) only [↓stp, vls, inf, frs, mark_eq, ↓reduceIte, Nat.reduceEqDiff, ite_tt, ite_ff, eq_self, and_true, true_and, and_self, implies_true, Bool.true_eq_false, Bool.false_eq_true, decide_true, decide_false, decide_eq_true_eq, decide_eq_false_iff_not, ne_eq, not_true_eq_false, not_false_eq_true, Bool.not_eq_true', Bool.not_eq_false', beq_self_eq_true, Bool.not_true, Bool.not_false, List.getElem?_toArray, List.getElem?_cons_zero, List.getElem?_cons_succ, add_at, k0]
    refine (spec_fixtureAt_c V _ x.1 name (g0.mono l.ext)).mono ?_
    rintro _ V ⟨rfl, rfl⟩
    simp (disch := omega) only [↓stp, vls, inf, frs, mark_eq, ↓reduceIte, Nat.reduceEqDiff, ite_tt, ite_ff, eq_self, and_true, true_and, and_self, implies_true, Bool.true_eq_false, Bool.false_eq_true, decide_true, decide_false, decide_eq_true_eq, decide_eq_false_iff_not, ne_eq, not_true_eq_false, not_false_eq_true, Bool.not_eq_true', Bool.not_eq_false', beq_self_eq_true, Bool.not_true, Bool.not_false, List.getElem?_toArray, List.getElem?_cons_zero, List.getElem?_cons_succ]
    refine ⟨fun e1 => ?_, fun e1 => ?_⟩ <;> simp (disch := omega) only [↓stp, vls, inf, frs, mark_eq, ↓reduceIte, Nat.reduceEqDiff, ite_tt, ite_ff, eq_self, and_true, true_and, and_self, implies_true, Bool.true_eq_false, Bool.false_eq_true, decide_true, decide_false, decide_eq_true_eq, decide_eq_false_iff_not, ne_eq, not_true_eq_false, not_false_eq_true, Bool.not_eq_true', Bool.not_eq_false', beq_self_eq_true, Bool.not_true, Bool.not_false, List.getElem?_toArray, List.getElem?_cons_zero, List.getElem?_cons_succ, e1]
    · refine (spec_hasText_c V _ out name hOut).mono ?_
      rintro _ V ⟨rfl, rfl⟩
      simp (disch := omega) only [↓stp, vls, inf, frs, mark_eq, ↓reduceIte, Nat.reduceEqDiff, ite_tt, ite_ff, eq_self, and_true, true_and, and_self, implies_true, Bool.true_eq_false, Bool.false_eq_true, decide_true, decide_false, decide_eq_true_eq, decide_eq_false_iff_not, ne_eq, not_true_eq_false, not_false_eq_true, Bool.not_eq_true', Bool.not_eq_false', beq_self_eq_true, Bool.not_true, Bool.not_false, List.getElem?_toArray, List.getElem?_cons_zero, List.getElem?_cons_succ, e1]
      refine ⟨fun e2 => ?_, fun e2 => ?_⟩ <;> simp (disch := omega) only [↓stp, vls, inf, frs, mark_eq, ↓reduceIte, Nat.reduceEqDiff, ite_tt, ite_ff, eq_self, and_true, true_and, and_self, implies_true, Bool.true_eq_false, Bool.false_eq_true, decide_true, decide_false, decide_eq_true_eq, decide_eq_false_iff_not, ne_eq, not_true_eq_false, not_false_eq_true, Bool.not_eq_true', Bool.not_eq_false', beq_self_eq_true, Bool.not_true, Bool.not_false, List.getElem?_toArray, List.getElem?_cons_zero, List.getElem?_cons_succ, e1, e2]
      · refine (spec_hasText_c V _ op name hOp).mono ?_
        rintro _ V ⟨rfl, rfl⟩
        simp (disch := omega) only [↓stp, vls, inf, frs, mark_eq, ↓reduceIte, Nat.reduceEqDiff, ite_tt, ite_ff, eq_self, and_true, true_and, and_self, implies_true, Bool.true_eq_false, Bool.false_eq_true, decide_true, decide_false, decide_eq_true_eq, decide_eq_false_iff_not, ne_eq, not_true_eq_false, not_false_eq_true, Bool.not_eq_true', Bool.not_eq_false', beq_self_eq_true, Bool.not_true, Bool.not_false, List.getElem?_toArray, List.getElem?_cons_zero, List.getElem?_cons_succ, e1, e2]
        refine ⟨fun e3 => ?_, fun e3 => ?_⟩ <;> simp (disch := omega) only [↓stp, vls, inf, frs, mark_eq, ↓reduceIte, Nat.reduceEqDiff, ite_tt, ite_ff, eq_self, and_true, true_and, and_self, implies_true, Bool.true_eq_false, Bool.false_eq_true, decide_true, decide_false, decide_eq_true_eq, decide_eq_false_iff_not, ne_eq, not_true_eq_false, not_false_eq_true, Bool.not_eq_true', Bool.not_eq_false', beq_self_eq_true, Bool.not_true, Bool.not_false, List.getElem?_toArray, List.getElem?_cons_zero, List.getElem?_cons_succ, add_at, k0]
        · rw [rchF_stop n fun hc => hc.2.2 e3]
          exact ⟨fp, l.tail⟩
        · have hF : hasF x.1 name := hasF_idx.2 (by omega)
          obtain ⟨m, rfl⟩ : ∃ m, n = m + 1 := ⟨n - 1, by have := freeN_pos hF e3; omega⟩
          obtain ⟨i, hi, hlt, hnd, hnm⟩ := needsAt_idx (fs := x.1) (a := name) (by omega)
          have hrw : rchF x.1 (m + 1) name op out = (needsAt x.1 name).foldl (fun o b => rchF x.1 m b (op ++ [name]) o) out ++ [name] := by
            rw [rchF, if_pos ⟨hF, e2, e3⟩]
          rw [hrw, hnd, hi]
          obtain ⟨ad, u2, rfl, hclB, z1, z2, f2⟩ := g0.fixture hlt
          obtain ⟨a2, c2, rfl, hc2, hl2⟩ := f2.slice
          have hcl := l.ext.part hclB
          have k2 := View.part_cell hcl (j := 2) (v := .slice a2 (x.1[i]).2.2.1.length c2) rfl
          have hnop' := hnop.snoc hF e3
          have hfr' : freeN x.1 (op ++ [name]) ≤ m := by have := freeN_lt hF e3; omega
          generalize hns : (x.1[i]).2.2.1 = ns at f2 k2 hcl hclB hc2 hl2
          simp (disch := omega) only [↓stp, vls, inf, frs, mark_eq, ↓reduceIte, Nat.reduceEqDiff, ite_tt, ite_ff, eq_self, and_true, true_and, and_self, implies_true, Bool.true_eq_false, Bool.false_eq_true, decide_true, decide_false, decide_eq_true_eq, decide_eq_false_iff_not, ne_eq, not_true_eq_false, not_false_eq_true, Bool.not_eq_true', Bool.not_eq_false', beq_self_eq_true, Bool.not_true, Bool.not_false, List.getElem?_toArray, List.getElem?_cons_zero, List.getElem?_cons_succ, k2]
          refine aloop (fun d fr V => ∃ (k : Nat) (fp : List Nat) (w : Value), k ≤ ns.length ∧ d = ns.length - k ∧ Led B (osl 9 strO fp w ((ns.take k).foldl (fun o b => rchF x.1 m b (op ++ [name]) o) out) :: bx q ⟨41, [.slice (some ad) x.1.length c0, .slice a1 x.2.1.length c1], 2, true⟩ :: L) V ∧ fr 1 = .string name ∧ fr 2 = .slice ao op.length co ∧ fr 3 = w ∧ fr 4 = .pointer (some ⟨q, 0, none⟩) ∧ fr 10 = .slice a2 ns.length c2 ∧ fr 11 = .int .i64 k) ns.length ⟨0, _, _, by omega, by omega, l.perm (List.Perm.swap ..), by rfl, by rfl, by rfl, by rfl, by rfl, by rfl⟩ ?_
          clear l hOut hOp k0 k1 hcl k2
          rintro d fr V ⟨k, fp, w, hk, rfl, l, h1, h2, h3, h4, h10, h11⟩
          simp (disch := omega) only [↓stp, vls, inf, frs, mark_eq, ↓reduceIte, Nat.reduceEqDiff, ite_tt, ite_ff, eq_self, and_true, true_and, and_self, implies_true, Bool.true_eq_false, Bool.false_eq_true, decide_true, decide_false, decide_eq_true_eq, decide_eq_false_iff_not, ne_eq, not_true_eq_false, not_false_eq_true, Bool.not_eq_true', Bool.not_eq_false', beq_self_eq_true, Bool.not_true, Bool.not_false, List.getElem?_toArray, List.getElem?_cons_zero, List.getElem?_cons_succ, h1, h2, h3, h4, h10, h11]
          have hNo : Names x.1 ((ns.take k).foldl (fun o b => rchF x.1 m b (op ++ [name]) o) out) := foldl_inv (I := Names x.1) (fun o b _ ho => rchF_names m b (op ++ [name]) o ho) hnout
          refine ⟨fun e => ?_, fun e => ?_⟩
          · have hltk : k < ns.length := by omega
            obtain ⟨ad2, rfl, kk, zk⟩ := (f2.mono l.ext).str hltk
            have k0 := l.part (i := 1) rfl rfl
            have hpart : V.part ⟨q, 0, none⟩ 2 = some [.slice (some ad) x.1.length c0, .slice a1 x.2.1.length c1] := k0
            simp (disch := omega) only [↓stp, vls, inf, frs, mark_eq, ↓reduceIte, Nat.reduceEqDiff, ite_tt, ite_ff, eq_self, and_true, true_and, and_self, implies_true, Bool.true_eq_false, Bool.false_eq_true, decide_true, decide_false, decide_eq_true_eq, decide_eq_false_iff_not, ne_eq, not_true_eq_false, not_false_eq_true, Bool.not_eq_true', Bool.not_eq_false', beq_self_eq_true, Bool.not_true, Bool.not_false, List.getElem?_toArray, List.getElem?_cons_zero, List.getElem?_cons_succ, h1, h2, h3, h4, h10, h11]
            refine adraw_items [.l 0 true, .q 1, .q 2, .q 3, .l 4 true, .q 6, .q 8, .q 11, .c 5 [], .c 7 [0, 4], .c 9 [], .c 10 [0, 4], .c 12 [], .q 13] (by kernel_rfl) (by kernel_rfl) ?_
            simp (disch := omega) only [↓stp, ↓pln, plv, nilOk, Nat.reduceBEq, Bool.or_false, Bool.or_true, Bool.false_or, Bool.true_or, vls, inf, frs, mark_eq, ↓reduceIte, Nat.reduceEqDiff, ite_tt, ite_ff, eq_self, and_true, true_and, and_self, implies_true, Bool.true_eq_false, Bool.false_eq_true, decide_true, decide_false, decide_eq_true_eq, decide_eq_false_iff_not, ne_eq, not_true_eq_false, not_false_eq_true, Bool.not_eq_true', Bool.not_eq_false', beq_self_eq_true, Bool.not_true, Bool.not_false, List.getElem?_toArray, List.getElem?_cons_zero, List.getElem?_cons_succ, h1, h2, h3, h4, h10, h11, hpart, kk]
            have hkk : ∀ V', Ext B V' → V'.cell (ad2.add k) = some (.string ns[k]) := fun V' hE => by
              obtain ⟨_, hq, kx, _⟩ := (f2.mono hE).str hltk
              obtain rfl := Option.some.inj hq
              exact kx
            refine led_lit0 (O := strO) li54 l fun b1 V1 _ l => ?_
            have kk := hkk _ l.ext
            have hpart : V1.part ⟨q, 0, none⟩ 2 = some [.slice (some ad) x.1.length c0, .slice a1 x.2.1.length c1] := l.part (i := 2) rfl rfl
            simp (disch := omega) only [↓stp, ↓pln, plv, nilOk, Nat.reduceBEq, Bool.or_false, Bool.or_true, Bool.false_or, Bool.true_or, vls, inf, frs, mark_eq, ↓reduceIte, Nat.reduceEqDiff, ite_tt, ite_ff, eq_self, and_true, true_and, and_self, implies_true, Bool.true_eq_false, Bool.false_eq_true, decide_true, decide_false, decide_eq_true_eq, decide_eq_false_iff_not, ne_eq, not_true_eq_false, not_false_eq_true, Bool.not_eq_true', Bool.not_eq_false', beq_self_eq_true, Bool.not_true, Bool.not_false, List.getElem?_toArray, List.getElem?_cons_zero, List.getElem?_cons_succ, h1, h2, h3, h4, h10, h11, hpart, kk, false_implies]
            refine led_app (O := strO) ap54_54 (by decide) l (i := 0) rfl (Sl.srcOf (hop V1 _ _ _ (l.sub (.cons _ (.cons_cons _ (.cons _ (List.Sublist.refl L))))))) (by rw [List.length_nil]; have := hnop.len; omega) fun fp1 w1 V2 _ l => ?_
            have kk := hkk _ l.ext
            have hpart : V2.part ⟨q, 0, none⟩ 2 = some [.slice (some ad) x.1.length c0, .slice a1 x.2.1.length c1] := l.part (i := 2) rfl rfl
            simp (disch := omega) only [↓stp, ↓pln, plv, nilOk, Nat.reduceBEq, Bool.or_false, Bool.or_true, Bool.false_or, Bool.true_or, vls, inf, frs, mark_eq, ↓reduceIte, Nat.reduceEqDiff, ite_tt, ite_ff, eq_self, and_true, true_and, and_self, implies_true, Bool.true_eq_false, Bool.false_eq_true, decide_true, decide_false, decide_eq_true_eq, decide_eq_false_iff_not, ne_eq, not_true_eq_false, not_false_eq_true, Bool.not_eq_true', Bool.not_eq_false', beq_self_eq_true, Bool.not_true, Bool.not_false, List.getElem?_toArray, List.getElem?_cons_zero, List.getElem?_cons_succ, h1, h2, h3, h4, h10, h11, hpart, kk, false_implies]
            refine led_lit li54 (by omega) rfl (fun p hp => by rcases List.mem_singleton.1 hp with rfl; exact ⟨rfl, rfl⟩) l fun bl V3 _ l => ?_
            have kk := hkk _ l.ext
            have hpart : V3.part ⟨q, 0, none⟩ 2 = some [.slice (some ad) x.1.length c0, .slice a1 x.2.1.length c1] := l.part (i := 3) rfl rfl
            simp (disch := omega) only [↓stp, ↓pln, plv, nilOk, Nat.reduceBEq, Bool.or_false, Bool.or_true, Bool.false_or, Bool.true_or, vls, inf, frs, mark_eq, ↓reduceIte, Nat.reduceEqDiff, ite_tt, ite_ff, eq_self, and_true, true_and, and_self, implies_true, Bool.true_eq_false, Bool.false_eq_true, decide_true, decide_false, decide_eq_true_eq, decide_eq_false_iff_not, ne_eq, not_true_eq_false, not_false_eq_true, Bool.not_eq_true', Bool.not_eq_false', beq_self_eq_true, Bool.not_true, Bool.not_false, List.getElem?_toArray, List.getElem?_cons_zero, List.getElem?_cons_succ, h1, h2, h3, h4, h10, h11, hpart, kk, false_implies]
            refine led_app (O := strO) ap54_54 (by decide) l (i := 1) rfl (l.src1 (S := strS) (j := 0) rfl ⟨rfl, hz⟩) (by rw [List.length_singleton, List.nil_append]; have := hnop.len; omega) fun fp2 w2 V4 _ l => ?_
            have kk := hkk _ l.ext
            have hpart : V4.part ⟨q, 0, none⟩ 2 = some [.slice (some ad) x.1.length c0, .slice a1 x.2.1.length c1] := l.part (i := 3) rfl rfl
            simp (disch := omega) only [↓stp, ↓pln, plv, nilOk, Nat.reduceBEq, Bool.or_false, Bool.or_true, Bool.false_or, Bool.true_or, vls, inf, frs, mark_eq, ↓reduceIte, Nat.reduceEqDiff, ite_tt, ite_ff, eq_self, and_true, true_and, and_self, implies_true, Bool.true_eq_false, Bool.false_eq_true, decide_true, decide_false, decide_eq_true_eq, decide_eq_false_iff_not, ne_eq, not_true_eq_false, not_false_eq_true, Bool.not_eq_true', Bool.not_eq_false', beq_self_eq_true, Bool.not_true, Bool.not_false, List.getElem?_toArray, List.getElem?_cons_zero, List.getElem?_cons_succ, h1, h2, h3, h4, h10, h11, hpart, kk, false_implies]
            refine (ih m (Nat.lt_succ_self m) V4 (bx bl _ :: osl 9 strO fp2 w2 (([] ++ op) ++ [name]) :: bx q _ :: L) ns[k] w2 (op ++ [name]) fp w _ zk (fun V' fp' w' o' l' => OSl.toS (show OSl 9 strO V' fp2 w2 (op ++ [name]) from by have := l'.at (i := 2) rfl; rw [List.nil_append] at this; exact this)) hfr' hnop' hNo (l.perm (List.perm_middle (l₁ := [_, _])).symm)).mono ?_
            rintro r V5 ⟨fp5, l⟩
            have kk := hkk _ l.ext
            have hpart : V5.part ⟨q, 0, none⟩ 2 = some [.slice (some ad) x.1.length c0, .slice a1 x.2.1.length c1] := l.part (i := 3) rfl rfl
            simp (disch := omega) only [↓stp, ↓pln, plv, nilOk, Nat.reduceBEq, Bool.or_false, Bool.or_true, Bool.false_or, Bool.true_or, vls, inf, frs, mark_eq, ↓reduceIte, Nat.reduceEqDiff, ite_tt, ite_ff, eq_self, and_true, true_and, and_self, implies_true, Bool.true_eq_false, Bool.false_eq_true, decide_true, decide_false, decide_eq_true_eq, decide_eq_false_iff_not, ne_eq, not_true_eq_false, not_false_eq_true, Bool.not_eq_true', Bool.not_eq_false', beq_self_eq_true, Bool.not_true, Bool.not_false, List.getElem?_toArray, List.getElem?_cons_zero, List.getElem?_cons_succ, h1, h2, h3, h4, h10, h11, hpart, kk, false_implies]
            have l2 : Led B (osl 9 strO fp5 r ((ns.take (k + 1)).foldl (fun o b => rchF x.1 m b (op ++ [name]) o) out) :: bx q ⟨41, [.slice (some ad) x.1.length c0, .slice a1 x.2.1.length c1], 2, true⟩ :: L) V5 := by
              rw [List.take_succ_eq_append_getElem hltk, List.foldl_append]
              exact l.sub (.cons_cons _ (.cons _ (.cons _ (.cons_cons _ (List.Sublist.refl L)))))
            exact ⟨_, by omega, k + 1, fp5, r, by omega, rfl, l2, rfl, rfl⟩
          · simp (disch := omega) only [↓stp, vls, inf, frs, mark_eq, ↓reduceIte, Nat.reduceEqDiff, ite_tt, ite_ff, eq_self, and_true, true_and, and_self, implies_true, Bool.true_eq_false, Bool.false_eq_true, decide_true, decide_false, decide_eq_true_eq, decide_eq_false_iff_not, ne_eq, not_true_eq_false, not_false_eq_true, Bool.not_eq_true', Bool.not_eq_false', beq_self_eq_true, Bool.not_true, Bool.not_false, List.getElem?_toArray, List.getElem?_cons_zero, List.getElem?_cons_succ, h1, h2, h3, h4, h10, h11]
            refine led_lit li54 (by omega) rfl (fun p hp => by rcases List.mem_singleton.1 hp with rfl; exact ⟨rfl, rfl⟩) l fun bl V6 _ l => ?_
            simp (disch := omega) only [↓stp, vls, inf, frs, mark_eq, ↓reduceIte, Nat.reduceEqDiff, ite_tt, ite_ff, eq_self, and_true, true_and, and_self, implies_true, Bool.true_eq_false, Bool.false_eq_true, decide_true, decide_false, decide_eq_true_eq, decide_eq_false_iff_not, ne_eq, not_true_eq_false, not_false_eq_true, Bool.not_eq_true', Bool.not_eq_false', beq_self_eq_true, Bool.not_true, Bool.not_false, List.getElem?_toArray, List.getElem?_cons_zero, List.getElem?_cons_succ, h1, h2, h3, h4, h10, h11]
            refine led_app (O := strO) ap54_54 (by decide) l (i := 1) rfl (l.src1 (S := strS) (j := 0) rfl ⟨rfl, hz⟩) (by rw [List.length_singleton]; have := hNo.len; omega) fun fp2 w2 V7 _ l => ?_
            simp (disch := omega) only [↓stp, vls, inf, frs, mark_eq, ↓reduceIte, Nat.reduceEqDiff, ite_tt, ite_ff, eq_self, and_true, true_and, and_self, implies_true, Bool.true_eq_false, Bool.false_eq_true, decide_true, decide_false, decide_eq_true_eq, decide_eq_false_iff_not, ne_eq, not_true_eq_false, not_false_eq_true, Bool.not_eq_true', Bool.not_eq_false', beq_self_eq_true, Bool.not_true, Bool.not_false, List.getElem?_toArray, List.getElem?_cons_zero, List.getElem?_cons_succ, h1, h2, h3, h4, h10, h11]
            rw [List.take_of_length_le (by omega)] at l
            exact ⟨fp2, l.sub (.cons _ (.cons_cons _ (.cons _ (List.Sublist.refl L))))⟩
      · rw [rchF_stop n fun hc => hc.2.1 e2]
        exact ⟨fp, l.tail⟩
    · rw [rchF_stop n fun hc => by have := hasF_idx.1 hc.1; omega]
      exact ⟨fp, l.tail⟩

end Go.Proofs.Ytggklaimbklefaa

/- What a fixture needs; circles. -/
set_option maxHeartbeats 4000000
set_option synthInstance.maxHeartbeats 400000
set_option synthInstance.maxSize 4096
set_option linter.unusedSimpArgs false
set_option linter.unusedVariables false
namespace Go.Proofs.Ytggklaimbklefaa

set_option maxRecDepth 100000

def fuel (fs : List FixtureD) : Nat := freeN fs []
theorem fuel_ok (fs : List FixtureD) : freeN fs [] ≤ fuel fs := Nat.le_refl _
def needsR (fs : List FixtureD) (a : ByteArray) : List ByteArray := (rchF fs (fuel fs) a [] []).dropLast

/-- The end of a slice of one's own is forgotten. -/
theorem osl_cut {α : Type} {O : OwnS α} [Flat O] {A V : View} {L : List It} {e : TypeId} {fp : List Nat} {b n c k : Nat} {xs : List α} (h : Led A (osl e O fp (.slice (some ⟨b, 0, none⟩) n c) xs :: L) V) (hk : k ≤ xs.length) :
    ∃ V', Weaker V' V ∧ Led A (osl e O fp (.slice (some ⟨b, 0, none⟩) k c) (xs.take k) :: L) V' := by
  obtain ⟨hl, ⟨hq, _⟩ | ⟨b', c', cells, f, hq, hc, rfl, hb, he⟩⟩ := (show OSl e O V fp _ xs from h.at (i := 0) rfl)
  · cases hq
  · injection hq with q1 q2 q3
    injection q1 with q1
    injection q1 with q1
    subst q1; subst q3
    obtain rfl := he.flatN
    have hlen := he.len
    have hle : (cells.take (k * O.S.size)).length ≤ c * O.S.size := by
      rw [List.length_take, hlen]
      have := Nat.mul_le_mul_right O.S.size hc
      omega
    have hrel : OElems O (V.set b ⟨e, cells.take (k * O.S.size), c * O.S.size, true⟩) [] (xs.take k) (cells.take (k * O.S.size)) := OElems.flatE (he.toS.take k)
    refine ⟨V.set b ⟨e, cells.take (k * O.S.size), c * O.S.size, true⟩, Weaker.set hb rfl ⟨rfl, Nat.le_refl _, hle, cells.drop (k * O.S.size), by rw [List.take_append_drop]⟩, ?_⟩
    exact h.upd (i := 0) rfl rfl (Only.set _ (List.mem_cons_self ..)) (show OSl e O _ [b] _ _ from ⟨by rw [List.length_take]; omega, .inr ⟨b, c, _, [], by rw [List.length_take, Nat.min_eq_left hk], by rw [List.length_take]; omega, rfl, View.set_same .., hrel⟩⟩)

theorem spec_needs_c (B : View) (d : List Value) (x : SuiteD) (name : ByteArray) (hx : suiteS.rel B x d) (hsm : x.1.length ≤ 1048576) (hz : name.size ≤ 140737488355328) : ACalls Try.prog 104 #[.agg d.toArray, .string name] B fun r V => NewSl 9 strO B r V (needsR x.1 name) := by
  obtain ⟨u0, u1, rfl, g0, g1⟩ := suiteS_open hx
  obtain ⟨a0, c0, rfl, _, _⟩ := g0.slice
  obtain ⟨a1, c1, rfl, _, _⟩ := g1.slice
  refine ACalls.weaken (R := fun r V => ∃ fp ar cr, Led B [osl 9 strO fp (.slice ar (rchF x.1 (fuel x.1) name [] []).length cr) (rchF x.1 (fuel x.1) name [] [])] V ∧ ((rchF x.1 (fuel x.1) name [] [] = [] ∧ r = .slice ar 0 cr) ∨ (0 < (rchF x.1 (fuel x.1) name [] []).length ∧ r = .slice (cutAddr ar 0 cr 1) ((rchF x.1 (fuel x.1) name [] []).length - 1) cr))) ?_ ?_
  rotate_left
  · unfold needsR
    generalize rchF x.1 (fuel x.1) name [] [] = R
    rintro r V ⟨fp, ar, cr, l, ⟨rfl, rfl⟩ | ⟨hp, rfl⟩⟩
    · exact ⟨V, (fun b k2 h => ⟨k2, h, rfl, .inl rfl⟩), fp, l⟩
    · obtain ⟨hl, ⟨hq, hn, _⟩ | ⟨b', c', cells, f, hq, hc, rfl, hb, he⟩⟩ := (show OSl 9 strO V fp _ R from l.at (i := 0) rfl)
      · rw [hn] at hp; cases hp
      · injection hq with q1 q2 q3
        subst q1; subst q3
        obtain ⟨V', hw, l'⟩ := osl_cut l (k := R.length - 1) (by omega)
        have e1 : cutAddr (some (⟨b', 0, none⟩ : Addr)) 0 cr 1 = some ⟨b', 0, none⟩ := by unfold cutAddr; rw [if_neg (by omega)]; simp [Addr.add]
        rw [e1, List.dropLast_eq_take]
        exact ⟨V', hw, _, l'⟩
  refine acalls Try.func104 rfl (by kernel_rfl) ?_
  simp (disch := omega) only [↓stp, vls, inf, frs, mark_eq, ↓reduceIte, Nat.reduceEqDiff, ite_tt, ite_ff, eq_self, and_true, true_and, and_self, implies_true, Bool.true_eq_false, Bool.false_eq_true, decide_true, decide_false, decide_eq_true_eq, decide_eq_false_iff_not, ne_eq, not_true_eq_false, not_false_eq_true, Bool.not_eq_true', Bool.not_eq_false', beq_self_eq_true, Bool.not_true, Bool.not_false, List.getElem?_toArray, List.getElem?_cons_zero, List.getElem?_cons_succ]
  refine led_box (Led.nil B) rfl fun q V he l => ?_
  have k0 : V.part ⟨q, 0, none⟩ 2 = some _ := l.part (i := 0) rfl rfl
  simp (disch := omega) only [↓stp, vls, inf, frs, mark_eq, ↓reduceIte, Nat.reduceEqDiff, ite_tt, ite_ff, eq_self, and_true, true_and, and_self, implies_true, Bool.true_eq_false, Bool.false_eq_true, decide_true, decide_false, decide_eq_true_eq, decide_eq_false_iff_not, ne_eq, not_true_eq_false, not_false_eq_true, Bool.not_eq_true', Bool.not_eq_false', beq_self_eq_true, Bool.not_true, Bool.not_false, List.getElem?_toArray, List.getElem?_cons_zero, List.getElem?_cons_succ, k0]
  refine led_lit0 (O := strO) li54 l fun b1 V1 _ l => ?_
  simp (disch := omega) only [↓stp, vls, inf, frs, mark_eq, ↓reduceIte, Nat.reduceEqDiff, ite_tt, ite_ff, eq_self, and_true, true_and, and_self, implies_true, Bool.true_eq_false, Bool.false_eq_true, decide_true, decide_false, decide_eq_true_eq, decide_eq_false_iff_not, ne_eq, not_true_eq_false, not_false_eq_true, Bool.not_eq_true', Bool.not_eq_false', beq_self_eq_true, Bool.not_true, Bool.not_false, List.getElem?_toArray, List.getElem?_cons_zero, List.getElem?_cons_succ]
  refine led_lit0 (O := strO) li54 l fun b2 V2 _ l => ?_
  simp (disch := omega) only [↓stp, vls, inf, frs, mark_eq, ↓reduceIte, Nat.reduceEqDiff, ite_tt, ite_ff, eq_self, and_true, true_and, and_self, implies_true, Bool.true_eq_false, Bool.false_eq_true, decide_true, decide_false, decide_eq_true_eq, decide_eq_false_iff_not, ne_eq, not_true_eq_false, not_false_eq_true, Bool.not_eq_true', Bool.not_eq_false', beq_self_eq_true, Bool.not_true, Bool.not_false, List.getElem?_toArray, List.getElem?_cons_zero, List.getElem?_cons_succ]
  refine (spec_reach_c B _ x hx hsm (fuel x.1) V2 _ name _ [] _ _ [] hz (fun V' fp' w' o' l' => OSl.toS (show OSl 9 strO V' [b1] _ [] from l'.at (i := 1) rfl)) (fuel_ok _) ⟨List.nodup_nil, (by intro x hx; cases hx)⟩ ⟨List.nodup_nil, (by intro x hx; cases hx)⟩ l).mono ?_
  rintro r V3 ⟨fp, l⟩
  generalize rchF x.1 (fuel x.1) name [] [] = R at l
  obtain ⟨ar, cr, rfl, hcr, hlr⟩ := (show Sl strS V3 r R from OSl.toS (show OSl 9 strO V3 fp r R from l.at (i := 0) rfl)).slice
  have l2 : Led B [osl 9 strO fp (.slice ar R.length cr) R] V3 := l.sub (by simp)
  simp (disch := omega) only [↓stp, vls, inf, frs, mark_eq, ↓reduceIte, Nat.reduceEqDiff, ite_tt, ite_ff, eq_self, and_true, true_and, and_self, implies_true, Bool.true_eq_false, Bool.false_eq_true, decide_true, decide_false, decide_eq_true_eq, decide_eq_false_iff_not, ne_eq, not_true_eq_false, not_false_eq_true, Bool.not_eq_true', Bool.not_eq_false', beq_self_eq_true, Bool.not_true, Bool.not_false, List.getElem?_toArray, List.getElem?_cons_zero, List.getElem?_cons_succ]
  refine ⟨fun e => ?_, fun e => ?_⟩ <;> simp (disch := omega) only [↓stp, vls, inf, frs, mark_eq, ↓reduceIte, Nat.reduceEqDiff, ite_tt, ite_ff, eq_self, and_true, true_and, and_self, implies_true, Bool.true_eq_false, Bool.false_eq_true, decide_true, decide_false, decide_eq_true_eq, decide_eq_false_iff_not, ne_eq, not_true_eq_false, not_false_eq_true, Bool.not_eq_true', Bool.not_eq_false', beq_self_eq_true, Bool.not_true, Bool.not_false, List.getElem?_toArray, List.getElem?_cons_zero, List.getElem?_cons_succ]
  · refine ⟨fp, ar, cr, l2, .inr ⟨by omega, ?_⟩⟩
    congr 1
    omega
  · have : R = [] := List.length_eq_zero_iff.1 (by omega)
    subst this
    exact ⟨fp, ar, cr, l2, .inl ⟨rfl, rfl⟩⟩

theorem rchF_last {fs : List FixtureD} {a : ByteArray} (h : hasF fs a) : needsR fs a ++ [a] = rchF fs (fuel fs) a [] [] := by
  unfold needsR
  obtain ⟨m, hm⟩ : ∃ m, fuel fs = m + 1 := ⟨fuel fs - 1, by have := freeN_pos (op := []) h (by simp); unfold fuel; omega⟩
  rw [hm, rchF, if_pos ⟨h, by simp, by simp⟩, List.dropLast_concat]
theorem needsR_names {fs : List FixtureD} {a : ByteArray} : Names fs (needsR fs a) := by
  have h := rchF_names (fs := fs) (fuel fs) a [] [] ⟨List.nodup_nil, (by intro x hx; cases hx)⟩
  exact ⟨List.Sublist.nodup (List.dropLast_sublist _) h.1, fun x hx => h.2 x ((List.dropLast_sublist _).subset hx)⟩
/-- A fixture needs itself, directly or by others. -/
noncomputable def circB (fs : List FixtureD) (a : ByteArray) : Bool := @decide (Rch fs a a) (Classical.propDecidable _)
theorem circB_any {fs : List FixtureD} {a : ByteArray} (h : hasF fs a) : (needsR fs a ++ [a]).any (fun x => decide (a ∈ needsAt fs x)) = circB fs a := by
  rw [rchF_last h, Bool.eq_iff_iff, List.any_eq_true]
  have := circle_iff (fuel_ok fs) h
  simp only [decide_eq_true_eq]
  rw [this]
  unfold circB
  exact ⟨fun h => @decide_eq_true _ (Classical.propDecidable _) h, fun h => @of_decide_eq_true _ (Classical.propDecidable _) h⟩

theorem spec_circular_c (B : View) (d : List Value) (x : SuiteD) (name : ByteArray) (hx : suiteS.rel B x d) (hsm : x.1.length ≤ 1048576) (hz : name.size ≤ 140737488355328) (hF : hasF x.1 name) : ACalls Try.prog 88 #[.agg d.toArray, .string name] B fun r V => r = .bool (circB x.1 name) ∧ Ext B V := by
  rw [← circB_any hF]
  have hx0 := hx
  obtain ⟨u0, u1, rfl, g0, g1⟩ := suiteS_open hx
  obtain ⟨a0, c0, rfl, _, _⟩ := g0.slice
  obtain ⟨a1, c1, rfl, _, _⟩ := g1.slice
  refine acalls Try.func88 rfl (by kernel_rfl) ?_
  simp (disch := omega) only [↓stp, vls, inf, frs, mark_eq, ↓reduceIte, Nat.reduceEqDiff, ite_tt, ite_ff, eq_self, and_true, true_and, and_self, implies_true, Bool.true_eq_false, Bool.false_eq_true, decide_true, decide_false, decide_eq_true_eq, decide_eq_false_iff_not, ne_eq, not_true_eq_false, not_false_eq_true, Bool.not_eq_true', Bool.not_eq_false', beq_self_eq_true, Bool.not_true, Bool.not_false, List.getElem?_toArray, List.getElem?_cons_zero, List.getElem?_cons_succ]
  refine led_box (Led.nil B) rfl fun q V he l => ?_
  have k0 : V.part ⟨q, 0, none⟩ 2 = some _ := l.part (i := 0) rfl rfl
  simp (disch := omega) only [↓stp, vls, inf, frs, mark_eq, ↓reduceIte, Nat.reduceEqDiff, ite_tt, ite_ff, eq_self, and_true, true_and, and_self, implies_true, Bool.true_eq_false, Bool.false_eq_true, decide_true, decide_false, decide_eq_true_eq, decide_eq_false_iff_not, ne_eq, not_true_eq_false, not_false_eq_true, Bool.not_eq_true', Bool.not_eq_false', beq_self_eq_true, Bool.not_true, Bool.not_false, List.getElem?_toArray, List.getElem?_cons_zero, List.getElem?_cons_succ, k0]
  refine (spec_needs_c V _ x name (suiteS_mk (g0.mono l.ext) (g1.mono l.ext)) hsm hz).mono ?_
  rintro r V2 ⟨fp, l1⟩
  replace l := l.append l1
  simp (disch := omega) only [↓stp, vls, inf, frs, mark_eq, ↓reduceIte, Nat.reduceEqDiff, ite_tt, ite_ff, eq_self, and_true, true_and, and_self, implies_true, Bool.true_eq_false, Bool.false_eq_true, decide_true, decide_false, decide_eq_true_eq, decide_eq_false_iff_not, ne_eq, not_true_eq_false, not_false_eq_true, Bool.not_eq_true', Bool.not_eq_false', beq_self_eq_true, Bool.not_true, Bool.not_false, List.getElem?_toArray, List.getElem?_cons_zero, List.getElem?_cons_succ]
  refine led_lit li54 (by omega) rfl (fun p hp => by rcases List.mem_singleton.1 hp with rfl; exact ⟨rfl, rfl⟩) l fun bl V6 _ l => ?_
  simp (disch := omega) only [↓stp, vls, inf, frs, mark_eq, ↓reduceIte, Nat.reduceEqDiff, ite_tt, ite_ff, eq_self, and_true, true_and, and_self, implies_true, Bool.true_eq_false, Bool.false_eq_true, decide_true, decide_false, decide_eq_true_eq, decide_eq_false_iff_not, ne_eq, not_true_eq_false, not_false_eq_true, Bool.not_eq_true', Bool.not_eq_false', beq_self_eq_true, Bool.not_true, Bool.not_false, List.getElem?_toArray, List.getElem?_cons_zero, List.getElem?_cons_succ]
  refine led_app (O := strO) ap54_54 (by decide) l (i := 1) rfl (l.src1 (S := strS) (j := 0) rfl ⟨rfl, hz⟩) (by rw [List.length_singleton]; have := (needsR_names (fs := x.1) (a := name)).len; omega) fun fp2 w2 V7 _ l => ?_
  simp (disch := omega) only [↓stp, vls, inf, frs, mark_eq, ↓reduceIte, Nat.reduceEqDiff, ite_tt, ite_ff, eq_self, and_true, true_and, and_self, implies_true, Bool.true_eq_false, Bool.false_eq_true, decide_true, decide_false, decide_eq_true_eq, decide_eq_false_iff_not, ne_eq, not_true_eq_false, not_false_eq_true, Bool.not_eq_true', Bool.not_eq_false', beq_self_eq_true, Bool.not_true, Bool.not_false, List.getElem?_toArray, List.getElem?_cons_zero, List.getElem?_cons_succ]
  generalize needsR x.1 name ++ [name] = R at l
  have hS : Sl strS V7 w2 R := OSl.toS (show OSl 9 strO V7 fp2 w2 R from l.at (i := 1) rfl)
  obtain ⟨ar, cr, rfl, hcr, hlr⟩ := hS.slice
  have k0 := l.cell (i := 2) rfl (o := 0) rfl rfl
  refine aloop (fun d fr V => ∃ i : Nat, i ≤ R.length ∧ d = R.length - i ∧ V = V7 ∧ fr 1 = .string name ∧ fr 2 = .pointer (some ⟨q, 0, none⟩) ∧ fr 5 = .slice ar R.length cr ∧ fr 6 = .int .i64 i ∧ (∀ j (hj : j < i) (hl : j < R.length), decide (name ∈ needsAt x.1 R[j]) = false)) R.length ⟨0, by omega, by omega, rfl, by rfl, by rfl, by rfl, by rfl, by omega⟩ ?_
  rintro d fr V ⟨i, hi, rfl, rfl, h1, h2, h5, h6, hn⟩
  simp (disch := omega) only [↓stp, vls, inf, frs, mark_eq, ↓reduceIte, Nat.reduceEqDiff, ite_tt, ite_ff, eq_self, and_true, true_and, and_self, implies_true, Bool.true_eq_false, Bool.false_eq_true, decide_true, decide_false, decide_eq_true_eq, decide_eq_false_iff_not, ne_eq, not_true_eq_false, not_false_eq_true, Bool.not_eq_true', Bool.not_eq_false', beq_self_eq_true, Bool.not_true, Bool.not_false, List.getElem?_toArray, List.getElem?_cons_zero, List.getElem?_cons_succ, h1, h2, h5, h6]
  refine ⟨fun e => ?_, fun e => ?_⟩
  · have hlt : i < R.length := by omega
    obtain ⟨ad, rfl, kk, zk⟩ := hS.str hlt
    have hnext : decide (name ∈ needsAt x.1 R[i]) = false → ∀ j (hj : j < i + 1) (hl : j < R.length), decide (name ∈ needsAt x.1 R[j]) = false := fun hq j hj hl => by
      by_cases hji : j = i
      · subst hji; exact hq
      · exact hn j (by omega) hl
    simp (disch := omega) only [↓stp, vls, inf, frs, mark_eq, ↓reduceIte, Nat.reduceEqDiff, ite_tt, ite_ff, eq_self, and_true, true_and, and_self, implies_true, Bool.true_eq_false, Bool.false_eq_true, decide_true, decide_false, decide_eq_true_eq, decide_eq_false_iff_not, ne_eq, not_true_eq_false, not_false_eq_true, Bool.not_eq_true', Bool.not_eq_false', beq_self_eq_true, Bool.not_true, Bool.not_false, List.getElem?_toArray, List.getElem?_cons_zero, List.getElem?_cons_succ, h1, h2, h5, h6]
    refine adraw_items [.q 0, .l 1 false, .q 2, .q 3, .q 4, .l 5 false, .c 6 [], .q 7] (by kernel_rfl) (by kernel_rfl) ?_
    simp (disch := omega) only [↓stp, ↓pln, plv, nilOk, Nat.reduceBEq, Bool.or_false, Bool.or_true, Bool.false_or, Bool.true_or, vls, inf, frs, mark_eq, ↓reduceIte, Nat.reduceEqDiff, ite_tt, ite_ff, eq_self, and_true, true_and, and_self, implies_true, Bool.true_eq_false, Bool.false_eq_true, decide_true, decide_false, decide_eq_true_eq, decide_eq_false_iff_not, ne_eq, not_true_eq_false, not_false_eq_true, Bool.not_eq_true', Bool.not_eq_false', beq_self_eq_true, Bool.not_true, Bool.not_false, List.getElem?_toArray, List.getElem?_cons_zero, List.getElem?_cons_succ, h1, h2, h5, h6, add_at, k0, kk]
    refine (spec_fixtureAt_c V _ x.1 R[i] (g0.mono l.ext)).mono ?_
    rintro _ V ⟨rfl, rfl⟩
    simp (disch := omega) only [↓stp, ↓pln, plv, nilOk, Nat.reduceBEq, Bool.or_false, Bool.or_true, Bool.false_or, Bool.true_or, vls, inf, frs, mark_eq, ↓reduceIte, Nat.reduceEqDiff, ite_tt, ite_ff, eq_self, and_true, true_and, and_self, implies_true, Bool.true_eq_false, Bool.false_eq_true, decide_true, decide_false, decide_eq_true_eq, decide_eq_false_iff_not, ne_eq, not_true_eq_false, not_false_eq_true, Bool.not_eq_true', Bool.not_eq_false', beq_self_eq_true, Bool.not_true, Bool.not_false, List.getElem?_toArray, List.getElem?_cons_zero, List.getElem?_cons_succ, h1, h2, h5, h6, add_at, k0, kk]
    refine ⟨fun e1 => ?_, fun e1 => ?_⟩ <;> simp (disch := omega) only [↓stp, vls, inf, frs, mark_eq, ↓reduceIte, Nat.reduceEqDiff, ite_tt, ite_ff, eq_self, and_true, true_and, and_self, implies_true, Bool.true_eq_false, Bool.false_eq_true, decide_true, decide_false, decide_eq_true_eq, decide_eq_false_iff_not, ne_eq, not_true_eq_false, not_false_eq_true, Bool.not_eq_true', Bool.not_eq_false', beq_self_eq_true, Bool.not_true, Bool.not_false, List.getElem?_toArray, List.getElem?_cons_zero, List.getElem?_cons_succ, h1, h2, h5, h6, e1, add_at, k0]
    · obtain ⟨m, hm, hml, hnd, hnm⟩ := needsAt_idx e1
      obtain ⟨ad2, u2, rfl, hclB, z1, z2, f2⟩ := g0.fixture hml
      have k2 := View.part_cell (l.ext.part hclB) (j := 2) rfl
      rw [hm]
      have e2 : (0 : Int) ≤ m := by omega
      simp (disch := omega) only [↓stp, vls, inf, frs, mark_eq, ↓reduceIte, Nat.reduceEqDiff, ite_tt, ite_ff, eq_self, and_true, true_and, and_self, implies_true, Bool.true_eq_false, Bool.false_eq_true, decide_true, decide_false, decide_eq_true_eq, decide_eq_false_iff_not, ne_eq, not_true_eq_false, not_false_eq_true, Bool.not_eq_true', Bool.not_eq_false', beq_self_eq_true, Bool.not_true, Bool.not_false, List.getElem?_toArray, List.getElem?_cons_zero, List.getElem?_cons_succ, h1, h2, h5, h6, e2, k2]
      refine (spec_hasText_c V _ _ name (f2.mono l.ext)).mono ?_
      rintro _ V ⟨rfl, rfl⟩
      simp (disch := omega) only [↓stp, vls, inf, frs, mark_eq, ↓reduceIte, Nat.reduceEqDiff, ite_tt, ite_ff, eq_self, and_true, true_and, and_self, implies_true, Bool.true_eq_false, Bool.false_eq_true, decide_true, decide_false, decide_eq_true_eq, decide_eq_false_iff_not, ne_eq, not_true_eq_false, not_false_eq_true, Bool.not_eq_true', Bool.not_eq_false', beq_self_eq_true, Bool.not_true, Bool.not_false, List.getElem?_toArray, List.getElem?_cons_zero, List.getElem?_cons_succ, h1, h2, h5, h6, e2]
      refine ⟨fun e3 => ?_, fun e3 => ?_⟩ <;> simp (disch := omega) only [↓stp, vls, inf, frs, mark_eq, ↓reduceIte, Nat.reduceEqDiff, ite_tt, ite_ff, eq_self, and_true, true_and, and_self, implies_true, Bool.true_eq_false, Bool.false_eq_true, decide_true, decide_false, decide_eq_true_eq, decide_eq_false_iff_not, ne_eq, not_true_eq_false, not_false_eq_true, Bool.not_eq_true', Bool.not_eq_false', beq_self_eq_true, Bool.not_true, Bool.not_false, List.getElem?_toArray, List.getElem?_cons_zero, List.getElem?_cons_succ, h1, h2, h5, h6]
      · refine ⟨?_, l.ext⟩
        rw [List.any_eq_true.2 ⟨R[i], List.getElem_mem hlt, decide_eq_true (by rw [hnd]; exact e3)⟩]
      · exact ⟨_, by omega, i + 1, by omega, rfl, rfl, fun j hj hl => of_decide_eq_false (hnext (decide_eq_false (by rw [hnd]; exact e3)) j hj hl)⟩
    · exact ⟨_, by omega, i + 1, by omega, rfl, rfl, fun j hj hl => of_decide_eq_false (hnext (decide_eq_false (by rw [needsAt_no fun h => by have := hasF_idx.1 h; omega]; simp)) j hj hl)⟩
  · simp (disch := omega) only [↓stp, vls, inf, frs, mark_eq, ↓reduceIte, Nat.reduceEqDiff, ite_tt, ite_ff, eq_self, and_true, true_and, and_self, implies_true, Bool.true_eq_false, Bool.false_eq_true, decide_true, decide_false, decide_eq_true_eq, decide_eq_false_iff_not, ne_eq, not_true_eq_false, not_false_eq_true, Bool.not_eq_true', Bool.not_eq_false', beq_self_eq_true, Bool.not_true, Bool.not_false, List.getElem?_toArray, List.getElem?_cons_zero, List.getElem?_cons_succ, h1, h2, h5, h6]
    refine ⟨?_, l.ext⟩
    rw [List.any_eq_false.2 fun y hy => ?_]
    obtain ⟨j, hj, rfl⟩ := List.mem_iff_getElem.1 hy
    rw [hn j (by omega) hj]
    exact Bool.false_ne_true

end Go.Proofs.Ytggklaimbklefaa

/- The helpers of the laws for Problem: counted, copied, compared, marked. -/
set_option maxHeartbeats 4000000
set_option synthInstance.maxHeartbeats 400000
set_option synthInstance.maxSize 4096
set_option linter.unusedSimpArgs false
set_option linter.unusedVariables false
namespace Go.Proofs.Ytggklaimbklefaa

set_option maxRecDepth 100000

abbrev ProblemD := Int × ByteArray × ByteArray × Unit

def problemS : Shape ProblemD := consS intS (consS strS (consS strS unitS))

def problemO : OwnS ProblemD := consO intO (consO strO (consO strO unitO))

def problemT : GT ProblemD := consT intT (consT strT (consT strT unitT))

theorem problemS_open {A : View} {x : ProblemD} {d : List Value} (h : problemS.rel A x d) : d = [.int .i64 x.1, .string x.2.1, .string x.2.2.1] ∧ (-9223372036854775808 ≤ x.1 ∧ x.1 < 9223372036854775808) ∧ x.2.1.size ≤ 140737488355328 ∧ x.2.2.1.size ≤ 140737488355328 := by
  obtain ⟨_, _, rfl, ⟨rfl, hh0⟩, ⟨_, _, rfl, ⟨rfl, hh1⟩, ⟨_, _, rfl, ⟨rfl, hh2⟩, rfl⟩⟩⟩ := h
  exact ⟨rfl, hh0, hh1, hh2⟩

theorem problemS_mk {A : View} {x : ProblemD} (hh0 : (-9223372036854775808 ≤ x.1 ∧ x.1 < 9223372036854775808)) (hh1 : x.2.1.size ≤ 140737488355328) (hh2 : x.2.2.1.size ≤ 140737488355328) : problemS.rel A x [.int .i64 x.1, .string x.2.1, .string x.2.2.1] := ⟨_, _, rfl, ⟨rfl, hh0⟩, ⟨_, _, rfl, ⟨rfl, hh1⟩, ⟨_, _, rfl, ⟨rfl, hh2⟩, rfl⟩⟩⟩

theorem problemO_open {A : View} {fp : List Nat} {x : ProblemD} {d : List Value} (h : problemO.rel A fp x d) : [] = fp ∧ d = [.int .i64 x.1, .string x.2.1, .string x.2.2.1] ∧ (-9223372036854775808 ≤ x.1 ∧ x.1 < 9223372036854775808) ∧ x.2.1.size ≤ 140737488355328 ∧ x.2.2.1.size ≤ 140737488355328 := by
  obtain ⟨_, _, _, _, rfl, rfl, ⟨rfl, rfl, hh0⟩, ⟨_, _, _, _, rfl, rfl, ⟨rfl, rfl, hh1⟩, ⟨_, _, _, _, rfl, rfl, ⟨rfl, rfl, hh2⟩, ⟨rfl, rfl⟩⟩⟩⟩ := h
  exact ⟨by simp, rfl, hh0, hh1, hh2⟩

theorem problemO_mk {A : View} {x : ProblemD} (hh0 : (-9223372036854775808 ≤ x.1 ∧ x.1 < 9223372036854775808)) (hh1 : x.2.1.size ≤ 140737488355328) (hh2 : x.2.2.1.size ≤ 140737488355328) : problemO.rel A ([]) x [.int .i64 x.1, .string x.2.1, .string x.2.2.1] := ⟨[], [], [.int .i64 x.1], _, by simp, rfl, ⟨rfl, rfl, hh0⟩, ⟨[], [], [.string x.2.1], _, by simp, rfl, ⟨rfl, rfl, hh1⟩, ⟨[], [], [.string x.2.2.1], _, by simp, rfl, ⟨rfl, rfl, hh2⟩, ⟨rfl, rfl⟩⟩⟩⟩

theorem problemO_S {A : View} {fp : List Nat} {x : ProblemD} {d : List Value} (h : problemO.rel A fp x d) : problemS.rel A x d := problemO.toS h

theorem problemT_w (x : ProblemD) : problemT.w x = 0 + (x.2.1.size + (x.2.2.1.size + 0)) := rfl

theorem problemT_cnt (x : ProblemD) : problemT.cnt x = 1 + (1 + (1 + 0)) := rfl

theorem problemT_le (x : ProblemD) : problemT.cnt x ≤ 4 + 4 * problemT.w x := by
  rw [problemT_cnt, problemT_w]
  omega

theorem problemL_le : ∀ (xs : List ProblemD), cntL problemT xs ≤ 4 * (xs.length + wL problemT xs)
  | [] => by simp [cntL]
  | x :: xs => by
    have := problemT_le x
    have := problemL_le xs
    simp only [cntL, wL, List.length_cons]
    omega

theorem Sl.problem {A : View} {a : Option Addr} {n c : Nat} {xs : List ProblemD} (h : Sl problemS A (.slice a n c) xs) {i : Nat} (hi : i < xs.length) : ∃ (ad : Addr) , a = some ad ∧ A.part (ad.add (i * 3)) 3 = some [.int .i64 (xs[i]).1, .string (xs[i]).2.1, .string (xs[i]).2.2.1] ∧ (-9223372036854775808 ≤ (xs[i]).1 ∧ (xs[i]).1 < 9223372036854775808) ∧ (xs[i]).2.1.size ≤ 140737488355328 ∧ (xs[i]).2.2.1.size ≤ 140737488355328 := by
  obtain ⟨ad, d, h1, h2, h3, _⟩ := h.at hi
  obtain ⟨rfl, hh0, hh1, hh2⟩ := problemS_open h2
  exact ⟨ad, h1, h3, hh0, hh1, hh2⟩

end Go.Proofs.Ytggklaimbklefaa

/- What is wrong with a suite. -/
set_option maxHeartbeats 4000000
set_option synthInstance.maxHeartbeats 400000
set_option synthInstance.maxSize 4096
set_option linter.unusedSimpArgs false
set_option linter.unusedVariables false
namespace Go.Proofs.Ytggklaimbklefaa

set_option maxRecDepth 100000

def scopeAt (fs : List FixtureD) (a : ByteArray) : Int := ((fs.find? (isF a)).map (·.2.1)).getD 0
def prNeed (fs : List FixtureD) (f : FixtureD) (nd : ByteArray) : List ProblemD := if fAt fs nd < 0 then [(0, f.1, nd, ())] else if scopeAt fs nd < f.2.1 then [(1, f.1, nd, ())] else []
noncomputable def prFix (fs : List FixtureD) (f : FixtureD) : List ProblemD := f.2.2.1.flatMap (prNeed fs f) ++ (if circB fs f.1 then [(2, f.1, f.1, ())] else [])
def prTestN (fs : List FixtureD) (t : TestD) (nd : ByteArray) : List ProblemD := if fAt fs nd < 0 then [(0, idD t, nd, ())] else []
def prTest (fs : List FixtureD) (t : TestD) : List ProblemD := t.2.2.2.1.flatMap (prTestN fs t)
/-- What is wrong with a suite of the right form. -/
noncomputable def probR (x : SuiteD) : List ProblemD := x.1.flatMap (prFix x.1) ++ x.2.1.flatMap (prTest x.1)

theorem flatMap_le {α β : Type} {f : α → List β} {m : Nat} (h : ∀ x, (f x).length ≤ m) (xs : List α) : (xs.flatMap f).length ≤ m * xs.length := by
  induction xs with
  | nil => simp
  | cons x xs ih =>
    rw [List.flatMap_cons, List.length_append, List.length_cons, Nat.mul_succ]
    have := h x
    omega
theorem flatMap_le' {α β : Type} {f : α → List β} {m : Nat} (xs : List α) (h : ∀ x, x ∈ xs → (f x).length ≤ m) : (xs.flatMap f).length ≤ m * xs.length := by
  induction xs with
  | nil => simp
  | cons x xs ih =>
    rw [List.flatMap_cons, List.length_append, List.length_cons, Nat.mul_succ]
    have h1 := h x (List.mem_cons_self ..)
    have h2 := ih fun y hy => h y (List.mem_cons_of_mem _ hy)
    omega
theorem prNeed_len (fs : List FixtureD) (f : FixtureD) (nd : ByteArray) : (prNeed fs f nd).length ≤ 1 := by
  unfold prNeed
  split
  · simp
  · split <;> simp
theorem prTestN_len (fs : List FixtureD) (t : TestD) (nd : ByteArray) : (prTestN fs t nd).length ≤ 1 := by
  unfold prTestN
  split <;> simp
theorem prFix_len {fs : List FixtureD} {f : FixtureD} (h : f.2.2.1.length ≤ 4) : (prFix fs f).length ≤ 5 := by
  unfold prFix
  have := flatMap_le (prNeed_len fs f) f.2.2.1
  rw [List.length_append]
  split
  · rw [List.length_singleton]; omega
  · rw [List.length_nil]; omega
theorem prTest_len {fs : List FixtureD} {t : TestD} (h : t.2.2.2.1.length ≤ 4) : (prTest fs t).length ≤ 4 := by
  unfold prTest
  have := flatMap_le (prTestN_len fs t) t.2.2.2.1
  omega

instance flatProblem : Flat problemO := inferInstanceAs (Flat (consO intO (consO strO (consO strO unitO))))

structure Formed (x : SuiteD) : Prop where
  fl : x.1.length ≤ 6
  fn : (x.1.map (·.1)).Nodup
  fs : ∀ f, f ∈ x.1 → f.2.2.1.length ≤ 4 ∧ f.2.2.1.Nodup ∧ 0 ≤ f.2.1 ∧ f.2.1 ≤ 2
  tl : x.2.1.length ≤ 10
  ts : ∀ t, t ∈ x.2.1 → testB t = true ∧ t.2.2.2.1.length ≤ 4
theorem formed_of {x : SuiteD} (h : formedB x = true) : Formed x := by
  unfold formedB at h
  rw [Bool.and_eq_true, Bool.and_eq_true, List.all_eq_true] at h
  obtain ⟨⟨h1, h2⟩, h3⟩ := h
  unfold testsB at h3
  rw [Bool.and_eq_true, Bool.and_eq_true, List.all_eq_true, decide_eq_true_eq, decide_eq_true_eq] at h3
  obtain ⟨⟨h3, _⟩, h4⟩ := h3
  refine ⟨?_, namesB_nodup h2, fun f hf => ?_, h4, fun t ht => ⟨h3 t ht, ?_⟩⟩
  · have := namesB_len h2
    rw [List.length_map] at this
    omega
  · have := h1 f hf
    unfold fixB at this
    rw [Bool.and_eq_true, Bool.and_eq_true, decide_eq_true_eq, decide_eq_true_eq] at this
    have hl := namesB_len this.2
    exact ⟨by omega, namesB_nodup this.2, this.1.1, this.1.2⟩
  · have := h3 t ht
    unfold testB at this
    rw [Bool.and_eq_true] at this
    have hl := namesB_len this.2
    omega
theorem find_self {fs : List FixtureD} (hn : (fs.map (·.1)).Nodup) {i : Nat} (hi : i < fs.length) : fs.find? (isF (fs[i]).1) = some fs[i] := by
  rw [List.find?_eq_some_iff_getElem]
  refine ⟨by simp [isF], i, hi, rfl, fun j hj => ?_⟩
  have := List.pairwise_iff_getElem.1 hn j i (by rw [List.length_map]; omega) (by rw [List.length_map]; exact hi) hj
  rw [List.getElem_map, List.getElem_map] at this
  simp [isF, this]
theorem needs_self {fs : List FixtureD} (hn : (fs.map (·.1)).Nodup) {i : Nat} (hi : i < fs.length) : needsAt fs (fs[i]).1 = (fs[i]).2.2.1 := by
  unfold needsAt
  rw [find_self hn hi]; rfl
theorem scope_idx {fs : List FixtureD} {a : ByteArray} (h : 0 ≤ fAt fs a) : ∃ i : Nat, fAt fs a = i ∧ ∃ hi : i < fs.length, needsAt fs a = fs[i].2.2.1 ∧ scopeAt fs a = fs[i].2.1 ∧ fs[i].1 = a := by
  obtain ⟨i, h1, hi, h2, h3⟩ := idxI_lt h
  exact ⟨i, h1, hi, by unfold needsAt; rw [h3]; rfl, by unfold scopeAt; rw [h3]; rfl, of_decide_eq_true h2⟩

end Go.Proofs.Ytggklaimbklefaa

/- Slices copied, cut, clipped. -/
set_option maxHeartbeats 4000000
set_option synthInstance.maxHeartbeats 400000
set_option synthInstance.maxSize 4096
set_option linter.unusedSimpArgs false
set_option linter.unusedVariables false
namespace Go.Proofs.Ytggklaimbklefaa

set_option maxRecDepth 100000

/-- A slice of one's own, read: its elements as they are known beside its block. -/
theorem OSl.toR {α : Type} {e : TypeId} {O : OwnS α} {A : View} {fp : List Nat} {v : Value} {xs : List α} (h : OSl e O A fp v xs) (hnd : fp.Nodup) : ∃ fq B, (∀ b, b ∈ fq → b ∈ fp) ∧ RSl e O.S B A fq v xs ∧ (∀ V, Only fq A V → Ext B V) := by
  obtain ⟨hl, ⟨rfl, rfl, rfl⟩ | ⟨b, c, cells, f, rfl, hc, rfl, hb, he⟩⟩ := h
  · exact ⟨[], A, fun _ h => h, ⟨hl, .inl ⟨rfl, rfl, rfl⟩⟩, fun V h => Only.toExt h⟩
  · refine ⟨[b], A.kill b, fun x hx => by rw [List.mem_singleton.1 hx]; exact List.mem_cons_self .., ⟨hl, .inr ⟨b, c, cells, rfl, hc, rfl, hb, (he.stay fun x k hx hk => ?_).toS⟩⟩, fun V h x k hk => ?_⟩
    · rw [View.kill_ne _ (fun e => (List.nodup_cons.1 hnd).1 (by rw [← e]; exact hx))]; exact hk
    · by_cases hxb : x = b
      · subst hxb; rw [View.kill_same] at hk; cases hk
      · rw [View.kill_ne _ hxb] at hk
        exact h x k (by simpa using hxb) hk
theorem RSl.toO {α : Type} {e : TypeId} {O : OwnS α} [Flat O] {A B : View} {fp : List Nat} {v : Value} {xs : List α} (h : RSl e O.S B A fp v xs) : OSl e O A fp v xs := by
  obtain ⟨hl, ⟨rfl, rfl, rfl⟩ | ⟨b, c, cells, rfl, hc, rfl, hb, he⟩⟩ := h
  · exact ⟨hl, .inl ⟨rfl, rfl, rfl⟩⟩
  · exact ⟨hl, .inr ⟨b, c, cells, [], rfl, hc, rfl, hb, OElems.flatE he⟩⟩
theorem OSl.toRflat {α : Type} {e : TypeId} {O : OwnS α} [Flat O] {A : View} {fp : List Nat} {v : Value} {xs : List α} (h : OSl e O A fp v xs) : ∃ B, RSl e O.S B A fp v xs := by
  obtain ⟨hl, ⟨rfl, rfl, rfl⟩ | ⟨b, c, cells, f, rfl, hc, rfl, hb, he⟩⟩ := h
  · exact ⟨A, hl, .inl ⟨rfl, rfl, rfl⟩⟩
  · obtain rfl := he.flatN
    exact ⟨A, hl, .inr ⟨b, c, cells, rfl, hc, rfl, hb, he.toS⟩⟩

theorem cloneString_c (A : View) (v : Value) (xs : List ByteArray) (h : Sl strS A v xs) (hsm : xs.length ≤ 16777216) : ACalls Try.prog 94 #[v] A fun r A' => NewSl 9 strO A r A' xs := by
  obtain ⟨a, c, rfl, hc, hl⟩ := h.slice
  cases a with
  | none =>
    have hx : xs = [] := by
      obtain ⟨_, a, c, h1, _, h3⟩ := h
      cases xs with
      | nil => rfl
      | cons x xs =>
        injection h1 with h1
        obtain ⟨ad, _, h4, _⟩ := h3 (by simp)
        rw [h4] at h1; cases h1
    subst hx
    refine acalls Try.func94 rfl (by kernel_rfl) ?_
    simp (disch := omega) only [↓stp, vls, inf, frs, mark_eq, ↓reduceIte, Nat.reduceEqDiff, ite_tt, ite_ff, eq_self, and_true, true_and, and_self, implies_true, Bool.true_eq_false, Bool.false_eq_true, decide_true, decide_false, decide_eq_true_eq, decide_eq_false_iff_not, ne_eq, not_true_eq_false, not_false_eq_true, Bool.not_eq_true', Bool.not_eq_false', beq_self_eq_true, Bool.not_true, Bool.not_false, List.getElem?_toArray, List.getElem?_cons_zero, List.getElem?_cons_succ]
    exact NewSl.nil (Ext.refl _)
  | some ad =>
    refine acalls Try.func94 rfl (by kernel_rfl) ?_
    simp (disch := omega) only [↓stp, vls, inf, frs, mark_eq, ↓reduceIte, Nat.reduceEqDiff, ite_tt, ite_ff, eq_self, and_true, true_and, and_self, implies_true, Bool.true_eq_false, Bool.false_eq_true, decide_true, decide_false, decide_eq_true_eq, decide_eq_false_iff_not, ne_eq, not_true_eq_false, not_false_eq_true, Bool.not_eq_true', Bool.not_eq_false', beq_self_eq_true, Bool.not_true, Bool.not_false, List.getElem?_toArray, List.getElem?_cons_zero, List.getElem?_cons_succ]
    refine led_lit0 (O := strO) li54 (Led.nil A) fun b V he l => ?_
    simp (disch := omega) only [↓stp, vls, inf, frs, mark_eq, ↓reduceIte, Nat.reduceEqDiff, ite_tt, ite_ff, eq_self, and_true, true_and, and_self, implies_true, Bool.true_eq_false, Bool.false_eq_true, decide_true, decide_false, decide_eq_true_eq, decide_eq_false_iff_not, ne_eq, not_true_eq_false, not_false_eq_true, Bool.not_eq_true', Bool.not_eq_false', beq_self_eq_true, Bool.not_true, Bool.not_false, List.getElem?_toArray, List.getElem?_cons_zero, List.getElem?_cons_succ]
    refine led_app (O := strO) ap54_54 (by decide) l (i := 0) rfl (Sl.srcOf (h.mono he)) (by simpa using hsm) fun fp' w' W _ l => ?_
    simp (disch := omega) only [↓stp, vls, inf, frs, mark_eq, ↓reduceIte, Nat.reduceEqDiff, ite_tt, ite_ff, eq_self, and_true, true_and, and_self, implies_true, Bool.true_eq_false, Bool.false_eq_true, decide_true, decide_false, decide_eq_true_eq, decide_eq_false_iff_not, ne_eq, not_true_eq_false, not_false_eq_true, Bool.not_eq_true', Bool.not_eq_false', beq_self_eq_true, Bool.not_true, Bool.not_false, List.getElem?_toArray, List.getElem?_cons_zero, List.getElem?_cons_succ]
    exact NewSl.of (i := 0) l rfl

theorem Led.regroup {A V : View} {L M : List It} (h : Led A L V) (hp : (fps M).Perm (fps L)) (hφ : ∀ it, it ∈ M → it.φ V) : Led A M V :=
  ⟨h.ext, hφ, fun b hb => h.new b (hp.mem_iff.1 hb), hp.nodup_iff.2 h.nd⟩
/-- Two things as one. -/
theorem Led.join2 {A V : View} {it1 it2 jt : It} {L : List It} (h : Led A (it1 :: it2 :: L) V) (hfp : jt.fp = it2.fp ++ it1.fp) (hφ : jt.φ V) : Led A (jt :: L) V := by
  refine h.regroup ?_ fun it hit => ?_
  · simp only [fps, List.flatMap_cons, hfp]
    rw [← List.append_assoc]
    exact List.Perm.append_right _ List.perm_append_comm
  · rcases List.mem_cons.1 hit with rfl | hit
    · exact hφ
    · exact h.all it (List.mem_cons_of_mem _ (List.mem_cons_of_mem _ hit))
/-- One thing as two. -/
theorem Led.split2 {A V : View} {it1 it2 jt : It} {L : List It} (h : Led A (jt :: L) V) (hfp : jt.fp = it1.fp ++ it2.fp) (h1 : it1.φ V) (h2 : it2.φ V) : Led A (it1 :: it2 :: L) V := by
  refine h.regroup ?_ fun it hit => ?_
  · simp only [fps, List.flatMap_cons, hfp, List.append_assoc]
    exact List.Perm.refl _
  · rcases List.mem_cons.1 hit with rfl | hit
    · exact h1
    · rcases List.mem_cons.1 hit with rfl | hit
      · exact h2
      · exact h.all it (List.mem_cons_of_mem _ hit)

/-- A struct of one's own that came of a call. -/
def NewOc {α : Type} (O : OwnS α) (A : View) (r : Value) (A' : View) (x : α) : Prop := ∃ fp cells, r = .agg cells.toArray ∧ Led A [oc O fp x cells] A'
theorem NewOc.base {α : Type} {O : OwnS α} {A B A' : View} {r : Value} {x : α} (h : NewOc O B r A' x) (he : Ext A B) : NewOc O A r A' x := let ⟨fp, c, e, h⟩ := h; ⟨fp, c, e, h.base he⟩

theorem Led.openAt {α : Type} {O : OwnS α} {e : TypeId} {A V : View} {L : List It} {fp : List Nat} {v : Value} {xs : List α} {k : Nat} (h : Led A (osl e O fp v xs :: L) V) (hk : k < xs.length) :
    ∃ b c c1 c2 c3 f1 f2 f3, v = .slice (some ⟨b, 0, none⟩) xs.length c ∧ xs.length ≤ c ∧ c1.length = k * O.S.size ∧ Led A (bx b ⟨e, c1 ++ (c2 ++ c3), c * O.S.size, true⟩ :: oc O f2 xs[k] c2 :: oel O f1 (xs.take k) c1 :: oel O f3 (xs.drop (k + 1)) c3 :: L) V := by
  obtain ⟨hl, ⟨rfl, rfl, rfl⟩ | ⟨b, c, cells, f, rfl, hc, rfl, hb, he⟩⟩ := (show OSl e O V fp v xs from h.at (i := 0) rfl)
  · cases hk
  · obtain ⟨f1, f2, f3, c1, c2, c3, rfl, rfl, hc1, h1, h2, h3⟩ := he.at hk
    refine ⟨b, c, c1, c2, c3, f1, f2, f3, rfl, hc, hc1, h.regroup ?_ fun it hit => ?_⟩
    · simp only [fps, List.flatMap_cons, bx, oc, oel, osl, List.cons_append, List.nil_append, List.append_assoc]
      exact (List.perm_append_comm_assoc ..).cons _
    · simp only [List.mem_cons] at hit
      rcases hit with rfl | rfl | rfl | rfl | hit
      · exact hb
      · exact h2
      · exact h1
      · exact h3
      · exact h.all it (List.mem_cons_of_mem _ hit)
theorem Led.closeAt {α : Type} {O : OwnS α} {e : TypeId} {A V : View} {L : List It} {xs : List α} {k b c : Nat} {x' : α} {c1 c2 c3 : List Value} {f1 f2 f3 : List Nat} (h : Led A (bx b ⟨e, c1 ++ (c2 ++ c3), c * O.S.size, true⟩ :: oc O f2 x' c2 :: oel O f1 (xs.take k) c1 :: oel O f3 (xs.drop (k + 1)) c3 :: L) V) (hk : k < xs.length) (hc : xs.length ≤ c) (hl : xs.length ≤ 140737488355328) :
    Led A (osl e O (b :: (f1 ++ (f2 ++ f3))) (.slice (some ⟨b, 0, none⟩) xs.length c) (xs.set k x') :: L) V := by
  refine h.regroup ?_ fun it hit => ?_
  · simp only [fps, List.flatMap_cons, bx, oc, oel, osl, List.cons_append, List.nil_append, List.append_assoc]
    exact (List.perm_append_comm_assoc ..).cons _
  · rcases List.mem_cons.1 hit with rfl | hit
    · have h1 : OElems O V f1 (xs.take k) c1 := h.at (i := 2) rfl
      have h2 : O.rel V f2 x' c2 := h.at (i := 1) rfl
      have h3 : OElems O V f3 (xs.drop (k + 1)) c3 := h.at (i := 3) rfl
      have hb : V b = some ⟨e, c1 ++ (c2 ++ c3), c * O.S.size, true⟩ := h.at (i := 0) rfl
      have hs : xs.set k x' = xs.take k ++ (x' :: xs.drop (k + 1)) := by rw [List.set_eq_take_append_cons_drop, if_pos hk]
      show OSl e O V _ _ _
      rw [hs]
      have hlen : (xs.take k ++ (x' :: xs.drop (k + 1))).length = xs.length := by rw [← hs, List.length_set]
      exact ⟨by omega, .inr ⟨b, c, _, _, by rw [hlen], by omega, rfl, hb, h1.append (.cons h2 h3)⟩⟩
    · exact h.all it (List.mem_cons_of_mem _ (List.mem_cons_of_mem _ (List.mem_cons_of_mem _ (List.mem_cons_of_mem _ hit))))

/-- One thing to the front. -/
theorem front_perm {α : Type} : ∀ (L : List α) (i : Nat) (hi : i < L.length), (L[i] :: L.eraseIdx i).Perm L
  | [], _, hi => absurd hi (Nat.not_lt_zero _)
  | _ :: _, 0, _ => List.Perm.refl _
  | x :: L, i + 1, hi => (List.Perm.swap ..).trans ((front_perm L i (Nat.lt_of_succ_lt_succ hi)).cons x)
theorem Led.front {A V : View} {L : List It} (h : Led A L V) (i : Nat) (hi : i < L.length) : Led A (L[i] :: L.eraseIdx i) V := h.perm (front_perm L i hi)
theorem asrc_ext {A V : View} (he : Ext A V) {size : Nat} {x : Value} {r : Nat × List Value} (h : asrc A size x = some r) : asrc V size x = some r := by
  unfold asrc at h ⊢
  split at h
  · exact h
  · split at h
    · rename_i h0; rw [if_pos h0]; exact h
    · rename_i h0
      rw [if_neg h0]
      rw [Option.map_eq_some_iff] at h ⊢
      obtain ⟨cs, hp, hq⟩ := h
      exact ⟨cs, he.part hp, hq⟩
  · exact h
  · cases h
/-- Elements that are read, appended: from a slice that is read. -/
theorem led_appS {α : Type} {S : Shape α} {P : Program} {K : Value → View → Prop} {A B V : View} {L : List It} {t tx ty e : TypeId} {bytes i : Nat} {fp : List Nat} {v u : Value} {xs ys : List α} (hT : appT P t tx = some (e, S.size, bytes)) (hby : bytes ≤ 1024) (h : Led A L V) (hi : L[i]? = some (rsl e S B fp v xs))
    (hs : Sl S B u ys) (he : Ext B V) (hsm : xs.length + ys.length ≤ 16777216) (hk : ∀ fp' v' W, Only fp V W → Led A (L.set i (rsl e S B fp' v' (xs ++ ys))) W → K v' W) : aappend P #[t, tx] ty #[v, u] V K := by
  obtain ⟨cells, h1, h2⟩ := hs.srcOf
  exact led_appR hT hby h hi (asrc_ext he h1) h2 hsm hk

end Go.Proofs.Ytggklaimbklefaa

/- What is wrong with a suite: the program. -/
set_option maxHeartbeats 4000000
set_option synthInstance.maxHeartbeats 400000
set_option synthInstance.maxSize 4096
set_option linter.unusedSimpArgs false
set_option linter.unusedVariables false
namespace Go.Proofs.Ytggklaimbklefaa

set_option maxRecDepth 100000

theorem addN_len (ns : List ByteArray) : ∀ r : List ByteArray, (addN r ns).length ≤ r.length + ns.length := by
  induction ns with
  | nil => intro r; exact Nat.le_refl _
  | cons n ns ih =>
    intro r
    rw [addN_cons, List.length_cons]
    have h1 := ih (if n ∈ r then r else r ++ [n])
    have h2 : (if n ∈ r then r else r ++ [n]).length ≤ r.length + 1 := by
      split
      · omega
      · rw [List.length_append, List.length_singleton]
        omega
    omega

theorem flatMap_take {α β : Type} (f : α → List β) {xs : List α} {i : Nat} (h : i < xs.length) : (xs.take (i + 1)).flatMap f = (xs.take i).flatMap f ++ f xs[i] := by
  rw [List.take_succ_eq_append_getElem h, List.flatMap_append]
  simp

theorem impl_problems_c (A : View) (d : List Value) (x : SuiteD) (hx : suiteS.rel A x d) (hF : Formed x) : ACalls Try.prog 72 #[.agg d.toArray] A fun r V => NewSl 121 problemO A r V (probR x) := by
  obtain ⟨u0, u1, rfl, g0, g1⟩ := suiteS_open hx
  obtain ⟨a0, c0, rfl, _, _⟩ := g0.slice
  obtain ⟨a1, c1, rfl, _, _⟩ := g1.slice
  have hfl := hF.fl
  have htl := hF.tl
  refine acalls Try.func72 rfl (by kernel_rfl) ?_
  simp (disch := omega) only [↓stp, vls, inf, frs, mark_eq, ↓reduceIte, Nat.reduceEqDiff, ite_tt, ite_ff, eq_self, and_true, true_and, and_self, implies_true, Bool.true_eq_false, Bool.false_eq_true, decide_true, decide_false, decide_eq_true_eq, decide_eq_false_iff_not, ne_eq, not_true_eq_false, not_false_eq_true, Bool.not_eq_true', Bool.not_eq_false', beq_self_eq_true, Bool.not_true, Bool.not_false, List.getElem?_toArray, List.getElem?_cons_zero, List.getElem?_cons_succ]
  refine led_box (Led.nil A) rfl fun q V he l => ?_
  simp (disch := omega) only [↓stp, vls, inf, frs, mark_eq, ↓reduceIte, Nat.reduceEqDiff, ite_tt, ite_ff, eq_self, and_true, true_and, and_self, implies_true, Bool.true_eq_false, Bool.false_eq_true, decide_true, decide_false, decide_eq_true_eq, decide_eq_false_iff_not, ne_eq, not_true_eq_false, not_false_eq_true, Bool.not_eq_true', Bool.not_eq_false', beq_self_eq_true, Bool.not_true, Bool.not_false, List.getElem?_toArray, List.getElem?_cons_zero, List.getElem?_cons_succ]
  refine led_lit0 (O := problemO) li101 l fun b1 V1 _ l => ?_
  have k0 := l.cell (i := 1) rfl (o := 0) rfl rfl
  simp (disch := omega) only [↓stp, vls, inf, frs, mark_eq, ↓reduceIte, Nat.reduceEqDiff, ite_tt, ite_ff, eq_self, and_true, true_and, and_self, implies_true, Bool.true_eq_false, Bool.false_eq_true, decide_true, decide_false, decide_eq_true_eq, decide_eq_false_iff_not, ne_eq, not_true_eq_false, not_false_eq_true, Bool.not_eq_true', Bool.not_eq_false', beq_self_eq_true, Bool.not_true, Bool.not_false, List.getElem?_toArray, List.getElem?_cons_zero, List.getElem?_cons_succ, add_at, k0]
  refine aloop (fun d fr V => ∃ (i : Nat) (fp : List Nat) (w : Value), i ≤ x.1.length ∧ d = x.1.length - i ∧ Led A [osl 121 problemO fp w ((x.1.take i).flatMap (prFix x.1)), bx q ⟨41, [.slice a0 x.1.length c0, .slice a1 x.2.1.length c1], 2, true⟩] V ∧ fr 1 = .pointer (some ⟨q, 0, none⟩) ∧ fr 3 = w ∧ fr 20 = .slice a0 x.1.length c0 ∧ fr 21 = .int .i64 x.1.length ∧ fr 22 = .int .i64 i) x.1.length ⟨0, _, _, by omega, by omega, l, by rfl, by rfl, by rfl, by rfl, by rfl⟩ ?_
  clear k0 l he
  rintro d fr V ⟨i, fp, w, hi, rfl, l, h1, h3, h20, h21, h22⟩
  simp (disch := omega) only [↓stp, vls, inf, frs, mark_eq, ↓reduceIte, Nat.reduceEqDiff, ite_tt, ite_ff, eq_self, and_true, true_and, and_self, implies_true, Bool.true_eq_false, Bool.false_eq_true, decide_true, decide_false, decide_eq_true_eq, decide_eq_false_iff_not, ne_eq, not_true_eq_false, not_false_eq_true, Bool.not_eq_true', Bool.not_eq_false', beq_self_eq_true, Bool.not_true, Bool.not_false, List.getElem?_toArray, List.getElem?_cons_zero, List.getElem?_cons_succ, h1, h3, h20, h21, h22]
  refine ⟨fun e => ?_, fun e => ?_⟩
  · have hlt : i < x.1.length := by omega
    have hout : ((x.1.take i).flatMap (prFix x.1)).length ≤ 30 := by
      have := flatMap_le' (f := prFix x.1) (m := 5) (x.1.take i) fun f hf => prFix_len (hF.fs f (List.mem_of_mem_take hf)).1
      rw [List.length_take] at this
      omega
    have hft := flatMap_take (prFix x.1) hlt
    obtain ⟨ad, u2, rfl, hclA, z1, z2, f2⟩ := g0.fixture hlt
    obtain ⟨a2, c2, rfl, _, _⟩ := f2.slice
    have hff := hF.fs _ (List.getElem_mem hlt)
    have hcl := l.ext.part hclA
    generalize (x.1.take i).flatMap (prFix x.1) = out0 at l hout hft
    simp (disch := omega) only [↓stp, vls, inf, frs, mark_eq, ↓reduceIte, Nat.reduceEqDiff, ite_tt, ite_ff, eq_self, and_true, true_and, and_self, implies_true, Bool.true_eq_false, Bool.false_eq_true, decide_true, decide_false, decide_eq_true_eq, decide_eq_false_iff_not, ne_eq, not_true_eq_false, not_false_eq_true, Bool.not_eq_true', Bool.not_eq_false', beq_self_eq_true, Bool.not_true, Bool.not_false, List.getElem?_toArray, List.getElem?_cons_zero, List.getElem?_cons_succ, h1, h3, h20, h21, h22, hcl]
    refine led_alloc zc75 l fun q5 V5 he5 l => ?_
    simp (disch := omega) only [↓stp, vls, inf, frs, mark_eq, ↓reduceIte, Nat.reduceEqDiff, ite_tt, ite_ff, eq_self, and_true, true_and, and_self, implies_true, Bool.true_eq_false, Bool.false_eq_true, decide_true, decide_false, decide_eq_true_eq, decide_eq_false_iff_not, ne_eq, not_true_eq_false, not_false_eq_true, Bool.not_eq_true', Bool.not_eq_false', beq_self_eq_true, Bool.not_true, Bool.not_false, List.getElem?_toArray, List.getElem?_cons_zero, List.getElem?_cons_succ, h1, h3, h20, h21, h22]
    refine led_storeAll l 0 rfl sz75 rfl rfl (by simp [Value.oneCell']) fun V6 l => ?_
    have m2 := l.cell (i := 0) rfl (o := 2) rfl rfl
    simp (disch := omega) only [↓stp, vls, inf, frs, mark_eq, ↓reduceIte, Nat.reduceEqDiff, ite_tt, ite_ff, eq_self, and_true, true_and, and_self, implies_true, Bool.true_eq_false, Bool.false_eq_true, decide_true, decide_false, decide_eq_true_eq, decide_eq_false_iff_not, ne_eq, not_true_eq_false, not_false_eq_true, Bool.not_eq_true', Bool.not_eq_false', beq_self_eq_true, Bool.not_true, Bool.not_false, List.getElem?_toArray, List.getElem?_cons_zero, List.getElem?_cons_succ, h1, h3, h20, h21, h22, add_at, m2]
    refine aloop (fun d fr V => ∃ (k : Nat) (fp : List Nat) (w : Value), k ≤ (x.1[i]).2.2.1.length ∧ d = (x.1[i]).2.2.1.length - k ∧ Led A [osl 121 problemO fp w (out0 ++ ((x.1[i]).2.2.1.take k).flatMap (prNeed x.1 x.1[i])), bx q5 ⟨75, [.string (x.1[i]).1, .int .i64 (x.1[i]).2.1, .slice a2 (x.1[i]).2.2.1.length c2, .bool (x.1[i]).2.2.2.1], 4, true⟩, bx q ⟨41, [.slice (some ad) x.1.length c0, .slice a1 x.2.1.length c1], 2, true⟩] V ∧ fr 1 = .pointer (some ⟨q, 0, none⟩) ∧ fr 3 = w ∧ fr 5 = .pointer (some ⟨q5, 0, none⟩) ∧ fr 20 = .slice (some ad) x.1.length c0 ∧ fr 21 = .int .i64 x.1.length ∧ fr 22 = .int .i64 i ∧ fr 27 = .slice a2 (x.1[i]).2.2.1.length c2 ∧ fr 28 = .int .i64 (x.1[i]).2.2.1.length ∧ fr 29 = .int .i64 k) (x.1[i]).2.2.1.length ⟨0, _, _, by omega, by omega, by rw [List.take_zero, List.flatMap_nil, List.append_nil]; exact l.perm (List.Perm.swap ..), h1, h3, by rfl, h20, h21, h22, by rfl, by rfl, by rfl⟩ ?_
    clear l m2 hcl h1 h3 h20 h21 h22
    rintro d fr V ⟨k, fp, w, hk, rfl, l, h1, h3, h5, h20, h21, h22, h27, h28, h29⟩
    have m0 := l.cell (i := 1) rfl (o := 0) rfl rfl
    have m1 := l.cell (i := 1) rfl (o := 1) rfl rfl
    have m2 := l.cell (i := 1) rfl (o := 2) rfl rfl
    have k0 := l.cell (i := 2) rfl (o := 0) rfl rfl
    have kp : V.part ⟨q, 0, none⟩ 2 = some _ := l.part (i := 2) rfl rfl
    simp (disch := omega) only [↓stp, vls, inf, frs, mark_eq, ↓reduceIte, Nat.reduceEqDiff, ite_tt, ite_ff, eq_self, and_true, true_and, and_self, implies_true, Bool.true_eq_false, Bool.false_eq_true, decide_true, decide_false, decide_eq_true_eq, decide_eq_false_iff_not, ne_eq, not_true_eq_false, not_false_eq_true, Bool.not_eq_true', Bool.not_eq_false', beq_self_eq_true, Bool.not_true, Bool.not_false, List.getElem?_toArray, List.getElem?_cons_zero, List.getElem?_cons_succ, h1, h3, h5, h20, h21, h22, h27, h28, h29]
    refine ⟨fun e1 => ?_, fun e1 => ?_⟩
    · have hltk : k < (x.1[i]).2.2.1.length := by omega
      obtain ⟨ad2, rfl, kk, zk⟩ := (f2.mono l.ext).str hltk
      simp (disch := omega) only [↓stp, vls, inf, frs, mark_eq, ↓reduceIte, Nat.reduceEqDiff, ite_tt, ite_ff, eq_self, and_true, true_and, and_self, implies_true, Bool.true_eq_false, Bool.false_eq_true, decide_true, decide_false, decide_eq_true_eq, decide_eq_false_iff_not, ne_eq, not_true_eq_false, not_false_eq_true, Bool.not_eq_true', Bool.not_eq_false', beq_self_eq_true, Bool.not_true, Bool.not_false, List.getElem?_toArray, List.getElem?_cons_zero, List.getElem?_cons_succ, h1, h3, h5, h20, h21, h22, h27, h28, h29, kk, kp]
      refine (impl_fixtureAt_c V _ x _ (suiteS_mk (g0.mono l.ext) (g1.mono l.ext))).mono ?_
      rintro _ V2 ⟨rfl, he2⟩
      replace l := l.step he2
      have m0 := l.cell (i := 1) rfl (o := 0) rfl rfl
      have m1 := l.cell (i := 1) rfl (o := 1) rfl rfl
      have k0 := l.cell (i := 2) rfl (o := 0) rfl rfl
      have hlen : (out0 ++ ((x.1[i]).2.2.1.take k).flatMap (prNeed x.1 x.1[i])).length ≤ 34 := by
        have := flatMap_le (prNeed_len x.1 x.1[i]) ((x.1[i]).2.2.1.take k)
        rw [List.length_take] at this
        rw [List.length_append]
        omega
      have hst := flatMap_take (prNeed x.1 x.1[i]) hltk
      simp (disch := omega) only [↓stp, vls, inf, frs, mark_eq, ↓reduceIte, Nat.reduceEqDiff, ite_tt, ite_ff, eq_self, and_true, true_and, and_self, implies_true, Bool.true_eq_false, Bool.false_eq_true, decide_true, decide_false, decide_eq_true_eq, decide_eq_false_iff_not, ne_eq, not_true_eq_false, not_false_eq_true, Bool.not_eq_true', Bool.not_eq_false', beq_self_eq_true, Bool.not_true, Bool.not_false, List.getElem?_toArray, List.getElem?_cons_zero, List.getElem?_cons_succ, h1, h3, h5, h20, h21, h22, h27, h28, h29]
      refine ⟨fun e2 => ?_, fun e2 => ?_⟩ <;> simp (disch := omega) only [↓stp, vls, inf, frs, mark_eq, ↓reduceIte, Nat.reduceEqDiff, ite_tt, ite_ff, eq_self, and_true, true_and, and_self, implies_true, Bool.true_eq_false, Bool.false_eq_true, decide_true, decide_false, decide_eq_true_eq, decide_eq_false_iff_not, ne_eq, not_true_eq_false, not_false_eq_true, Bool.not_eq_true', Bool.not_eq_false', beq_self_eq_true, Bool.not_true, Bool.not_false, List.getElem?_toArray, List.getElem?_cons_zero, List.getElem?_cons_succ, h1, h3, h5, h20, h21, h22, h27, h28, h29, add_at, m0]
      · refine led_lit li101 (by omega) rfl (fun p hp => by rcases List.mem_singleton.1 hp with rfl; exact ⟨rfl, rfl⟩) l fun bl V3 _ l => ?_
        simp (disch := omega) only [↓stp, vls, inf, frs, mark_eq, ↓reduceIte, Nat.reduceEqDiff, ite_tt, ite_ff, eq_self, and_true, true_and, and_self, implies_true, Bool.true_eq_false, Bool.false_eq_true, decide_true, decide_false, decide_eq_true_eq, decide_eq_false_iff_not, ne_eq, not_true_eq_false, not_false_eq_true, Bool.not_eq_true', Bool.not_eq_false', beq_self_eq_true, Bool.not_true, Bool.not_false, List.getElem?_toArray, List.getElem?_cons_zero, List.getElem?_cons_succ, h1, h3, h5, h20, h21, h22, h27, h28, h29]
        refine led_app (O := problemO) ap101_101 (by decide) l (i := 1) rfl (l.src1 (S := problemS) (j := 0) rfl (problemS_mk (x := (0, (x.1[i]).1, (x.1[i]).2.2.1[k], ())) (show (-9223372036854775808 : Int) ≤ 0 ∧ (0 : Int) < 9223372036854775808 from ⟨by decide, by decide⟩) z1 zk)) (by rw [List.length_singleton]; omega) fun fp2 w2 V4 _ l => ?_
        simp (disch := omega) only [↓stp, vls, inf, frs, mark_eq, ↓reduceIte, Nat.reduceEqDiff, ite_tt, ite_ff, eq_self, and_true, true_and, and_self, implies_true, Bool.true_eq_false, Bool.false_eq_true, decide_true, decide_false, decide_eq_true_eq, decide_eq_false_iff_not, ne_eq, not_true_eq_false, not_false_eq_true, Bool.not_eq_true', Bool.not_eq_false', beq_self_eq_true, Bool.not_true, Bool.not_false, List.getElem?_toArray, List.getElem?_cons_zero, List.getElem?_cons_succ, h1, h3, h5, h20, h21, h22, h27, h28, h29]
        have l2 : Led A [osl 121 problemO fp2 w2 (out0 ++ ((x.1[i]).2.2.1.take (k + 1)).flatMap (prNeed x.1 x.1[i])), bx q5 ⟨75, [.string (x.1[i]).1, .int .i64 (x.1[i]).2.1, .slice (some ad2) (x.1[i]).2.2.1.length c2, .bool (x.1[i]).2.2.2.1], 4, true⟩, bx q ⟨41, [.slice (some ad) x.1.length c0, .slice a1 x.2.1.length c1], 2, true⟩] V4 := by
          rw [hst, ← List.append_assoc]
          rw [show prNeed x.1 x.1[i] (x.1[i]).2.2.1[k] = [(0, (x.1[i]).1, (x.1[i]).2.2.1[k], ())] by unfold prNeed; rw [if_pos e2]]
          exact l.tail
        exact ⟨_, by omega, k + 1, _, _, by omega, rfl, l2, rfl, rfl⟩
      · obtain ⟨j, hj, hjl, _, hsc, _⟩ := scope_idx (fs := x.1) (a := (x.1[i]).2.2.1[k]) (by omega)
        obtain ⟨ad3, u3, hq, hcl3, _⟩ := g0.fixture hjl
        obtain rfl := Option.some.inj hq
        have s1 := View.part_cell (l.ext.part hcl3) (j := 1) rfl
        rw [hj]
        refine adraw_items [.q 0, .l 1 false, .q 2, .q 3, .q 4, .l 5 false, .q 6, .l 7 false, .q 8, .q 9] (by kernel_rfl) (by kernel_rfl) ?_
        simp (disch := omega) only [↓stp, ↓pln, plv, nilOk, Nat.reduceBEq, Bool.or_false, Bool.or_true, Bool.false_or, Bool.true_or, vls, inf, frs, mark_eq, ↓reduceIte, Nat.reduceEqDiff, ite_tt, ite_ff, eq_self, and_true, true_and, and_self, implies_true, Bool.true_eq_false, Bool.false_eq_true, decide_true, decide_false, decide_eq_true_eq, decide_eq_false_iff_not, ne_eq, not_true_eq_false, not_false_eq_true, Bool.not_eq_true', Bool.not_eq_false', beq_self_eq_true, Bool.not_true, Bool.not_false, List.getElem?_toArray, List.getElem?_cons_zero, List.getElem?_cons_succ, h1, h3, h5, h20, h21, h22, h27, h28, h29, add_at, k0, m1, s1]
        refine ⟨fun e3 => ?_, fun e3 => ?_⟩ <;> simp (disch := omega) only [↓stp, vls, inf, frs, mark_eq, ↓reduceIte, Nat.reduceEqDiff, ite_tt, ite_ff, eq_self, and_true, true_and, and_self, implies_true, Bool.true_eq_false, Bool.false_eq_true, decide_true, decide_false, decide_eq_true_eq, decide_eq_false_iff_not, ne_eq, not_true_eq_false, not_false_eq_true, Bool.not_eq_true', Bool.not_eq_false', beq_self_eq_true, Bool.not_true, Bool.not_false, List.getElem?_toArray, List.getElem?_cons_zero, List.getElem?_cons_succ, h1, h3, h5, h20, h21, h22, h27, h28, h29, add_at, m0]
        · refine led_lit li101 (by omega) rfl (fun p hp => by rcases List.mem_singleton.1 hp with rfl; exact ⟨rfl, rfl⟩) l fun bl V3 _ l => ?_
          simp (disch := omega) only [↓stp, vls, inf, frs, mark_eq, ↓reduceIte, Nat.reduceEqDiff, ite_tt, ite_ff, eq_self, and_true, true_and, and_self, implies_true, Bool.true_eq_false, Bool.false_eq_true, decide_true, decide_false, decide_eq_true_eq, decide_eq_false_iff_not, ne_eq, not_true_eq_false, not_false_eq_true, Bool.not_eq_true', Bool.not_eq_false', beq_self_eq_true, Bool.not_true, Bool.not_false, List.getElem?_toArray, List.getElem?_cons_zero, List.getElem?_cons_succ, h1, h3, h5, h20, h21, h22, h27, h28, h29]
          refine led_app (O := problemO) ap101_101 (by decide) l (i := 1) rfl (l.src1 (S := problemS) (j := 0) rfl (problemS_mk (x := (1, (x.1[i]).1, (x.1[i]).2.2.1[k], ())) (show (-9223372036854775808 : Int) ≤ 1 ∧ (1 : Int) < 9223372036854775808 from ⟨by decide, by decide⟩) z1 zk)) (by rw [List.length_singleton]; omega) fun fp2 w2 V4 _ l => ?_
          simp (disch := omega) only [↓stp, vls, inf, frs, mark_eq, ↓reduceIte, Nat.reduceEqDiff, ite_tt, ite_ff, eq_self, and_true, true_and, and_self, implies_true, Bool.true_eq_false, Bool.false_eq_true, decide_true, decide_false, decide_eq_true_eq, decide_eq_false_iff_not, ne_eq, not_true_eq_false, not_false_eq_true, Bool.not_eq_true', Bool.not_eq_false', beq_self_eq_true, Bool.not_true, Bool.not_false, List.getElem?_toArray, List.getElem?_cons_zero, List.getElem?_cons_succ, h1, h3, h5, h20, h21, h22, h27, h28, h29]
          have l2 : Led A [osl 121 problemO fp2 w2 (out0 ++ ((x.1[i]).2.2.1.take (k + 1)).flatMap (prNeed x.1 x.1[i])), bx q5 ⟨75, [.string (x.1[i]).1, .int .i64 (x.1[i]).2.1, .slice (some ad2) (x.1[i]).2.2.1.length c2, .bool (x.1[i]).2.2.2.1], 4, true⟩, bx q ⟨41, [.slice (some ad) x.1.length c0, .slice a1 x.2.1.length c1], 2, true⟩] V4 := by
            rw [hst, ← List.append_assoc]
            rw [show prNeed x.1 x.1[i] (x.1[i]).2.2.1[k] = [(1, (x.1[i]).1, (x.1[i]).2.2.1[k], ())] by unfold prNeed; rw [if_neg (by omega), hsc, if_pos e3]]
            exact l.tail
          exact ⟨_, by omega, k + 1, _, _, by omega, rfl, l2, rfl, rfl⟩
        · have l2 : Led A [osl 121 problemO fp w (out0 ++ ((x.1[i]).2.2.1.take (k + 1)).flatMap (prNeed x.1 x.1[i])), bx q5 ⟨75, [.string (x.1[i]).1, .int .i64 (x.1[i]).2.1, .slice (some ad2) (x.1[i]).2.2.1.length c2, .bool (x.1[i]).2.2.2.1], 4, true⟩, bx q ⟨41, [.slice (some ad) x.1.length c0, .slice a1 x.2.1.length c1], 2, true⟩] V2 := by
            rw [hst, ← List.append_assoc]
            rw [show prNeed x.1 x.1[i] (x.1[i]).2.2.1[k] = [] by unfold prNeed; rw [if_neg (by omega), hsc, if_neg e3], List.append_nil]
            exact l
          exact ⟨_, by omega, k + 1, _, _, by omega, rfl, l2, rfl, rfl⟩
    · simp (disch := omega) only [↓stp, vls, inf, frs, mark_eq, ↓reduceIte, Nat.reduceEqDiff, ite_tt, ite_ff, eq_self, and_true, true_and, and_self, implies_true, Bool.true_eq_false, Bool.false_eq_true, decide_true, decide_false, decide_eq_true_eq, decide_eq_false_iff_not, ne_eq, not_true_eq_false, not_false_eq_true, Bool.not_eq_true', Bool.not_eq_false', beq_self_eq_true, Bool.not_true, Bool.not_false, List.getElem?_toArray, List.getElem?_cons_zero, List.getElem?_cons_succ, h1, h3, h5, h20, h21, h22, h27, h28, h29, add_at, m2]
      rw [List.take_of_length_le (by omega)] at l
      have hout2 : (out0 ++ (x.1[i]).2.2.1.flatMap (prNeed x.1 x.1[i])).length ≤ 34 := by
        have := flatMap_le (prNeed_len x.1 x.1[i]) (x.1[i]).2.2.1
        rw [List.length_append]
        omega
      have hfx : prFix x.1 x.1[i] = (x.1[i]).2.2.1.flatMap (prNeed x.1 x.1[i]) ++ (if circB x.1 (x.1[i]).1 then [(2, (x.1[i]).1, (x.1[i]).1, ())] else []) := rfl
      generalize (x.1[i]).2.2.1.flatMap (prNeed x.1 x.1[i]) = out1 at l hout2 hfx
      refine (cloneString_c V _ _ (f2.mono l.ext) (by omega)).mono ?_
      rintro r V2 ⟨f0, l1⟩
      replace l := l.append l1
      have hns := needs_self hF.fn hlt
      have hU : (x.1.flatMap (·.2.2.1)).length ≤ 24 := by
        have := flatMap_le' (f := fun f : FixtureD => f.2.2.1) (m := 4) x.1 fun f hf => (hF.fs f hf).1
        omega
      have hcl0 : Closing x.1 (x.1[i]).1 (x.1[i]).2.2.1 0 := by rw [← hns]; exact Closing.start (by rw [hns]; exact hff.2.1)
      simp (disch := omega) only [↓stp, vls, inf, frs, mark_eq, ↓reduceIte, Nat.reduceEqDiff, ite_tt, ite_ff, eq_self, and_true, true_and, and_self, implies_true, Bool.true_eq_false, Bool.false_eq_true, decide_true, decide_false, decide_eq_true_eq, decide_eq_false_iff_not, ne_eq, not_true_eq_false, not_false_eq_true, Bool.not_eq_true', Bool.not_eq_false', beq_self_eq_true, Bool.not_true, Bool.not_false, List.getElem?_toArray, List.getElem?_cons_zero, List.getElem?_cons_succ, h1, h3, h5, h20, h21, h22, h27, h28, h29]
      refine aloop (fun d fr V => ∃ (j : Nat) (f1 : List Nat) (w1 : Value) (rl : List ByteArray), j ≤ rl.length ∧ d = (x.1.flatMap (·.2.2.1)).length - j ∧ Closing x.1 (x.1[i]).1 rl j ∧ Led A [osl 9 strO f1 w1 rl, osl 121 problemO fp w (out0 ++ out1), bx q5 ⟨75, [.string (x.1[i]).1, .int .i64 (x.1[i]).2.1, .slice a2 (x.1[i]).2.2.1.length c2, .bool (x.1[i]).2.2.2.1], 4, true⟩, bx q ⟨41, [.slice (some ad) x.1.length c0, .slice a1 x.2.1.length c1], 2, true⟩] V ∧ fr 1 = .pointer (some ⟨q, 0, none⟩) ∧ fr 3 = w ∧ fr 5 = .pointer (some ⟨q5, 0, none⟩) ∧ fr 9 = w1 ∧ fr 10 = .int .i64 j ∧ fr 20 = .slice (some ad) x.1.length c0 ∧ fr 21 = .int .i64 x.1.length ∧ fr 22 = .int .i64 i) (x.1.flatMap (·.2.2.1)).length ⟨0, _, _, _, by omega, by omega, hcl0, l, h1, h3, h5, by rfl, by rfl, h20, h21, h22⟩ ?_
      clear l l1 m0 m1 m2 k0 kp h1 h3 h5 h20 h21 h22 h27 h28 h29 hcl0
      rintro d fr V ⟨j, f1, w1, rl, hj, rfl, hC, l, h1, h3, h5, h9, h10, h20, h21, h22⟩
      have hS : Sl strS V w1 rl := OSl.toS (show OSl 9 strO V f1 w1 rl from l.at (i := 0) rfl)
      obtain ⟨ar, cr, rfl, hcr, hlr⟩ := hS.slice
      have hrl := hC.len
      have m0 := l.cell (i := 2) rfl (o := 0) rfl rfl
      have k0 := l.cell (i := 3) rfl (o := 0) rfl rfl
      have kp : V.part ⟨q, 0, none⟩ 2 = some _ := l.part (i := 3) rfl rfl
      simp (disch := omega) only [↓stp, vls, inf, frs, mark_eq, ↓reduceIte, Nat.reduceEqDiff, ite_tt, ite_ff, eq_self, and_true, true_and, and_self, implies_true, Bool.true_eq_false, Bool.false_eq_true, decide_true, decide_false, decide_eq_true_eq, decide_eq_false_iff_not, ne_eq, not_true_eq_false, not_false_eq_true, Bool.not_eq_true', Bool.not_eq_false', beq_self_eq_true, Bool.not_true, Bool.not_false, List.getElem?_toArray, List.getElem?_cons_zero, List.getElem?_cons_succ, h1, h3, h5, h9, h10, h20, h21, h22]
      refine ⟨fun e2 => ?_, fun e2 => ?_⟩
      · have hjl : j < rl.length := by omega
        obtain ⟨ad4, rfl, kk, zk⟩ := hS.str hjl
        have hN := hC.next hjl
        simp (disch := omega) only [↓stp, vls, inf, frs, mark_eq, ↓reduceIte, Nat.reduceEqDiff, ite_tt, ite_ff, eq_self, and_true, true_and, and_self, implies_true, Bool.true_eq_false, Bool.false_eq_true, decide_true, decide_false, decide_eq_true_eq, decide_eq_false_iff_not, ne_eq, not_true_eq_false, not_false_eq_true, Bool.not_eq_true', Bool.not_eq_false', beq_self_eq_true, Bool.not_true, Bool.not_false, List.getElem?_toArray, List.getElem?_cons_zero, List.getElem?_cons_succ, h1, h3, h5, h9, h10, h20, h21, h22]
        refine adraw_items [.l 0 false, .q 1, .q 2, .q 3, .l 4 false, .c 5 [], .q 6] (by kernel_rfl) (by kernel_rfl) ?_
        simp (disch := omega) only [↓stp, ↓pln, plv, nilOk, Nat.reduceBEq, Bool.or_false, Bool.or_true, Bool.false_or, Bool.true_or, vls, inf, frs, mark_eq, ↓reduceIte, Nat.reduceEqDiff, ite_tt, ite_ff, eq_self, and_true, true_and, and_self, implies_true, Bool.true_eq_false, Bool.false_eq_true, decide_true, decide_false, decide_eq_true_eq, decide_eq_false_iff_not, ne_eq, not_true_eq_false, not_false_eq_true, Bool.not_eq_true', Bool.not_eq_false', beq_self_eq_true, Bool.not_true, Bool.not_false, List.getElem?_toArray, List.getElem?_cons_zero, List.getElem?_cons_succ, h1, h3, h5, h9, h10, h20, h21, h22, kp, kk]
        refine (impl_fixtureAt_c V _ x _ (suiteS_mk (g0.mono l.ext) (g1.mono l.ext))).mono ?_
        rintro _ V3 ⟨rfl, he3⟩
        have kk := he3.cell kk
        have kp := he3.part kp
        replace l := l.step he3
        have k0 := l.cell (i := 3) rfl (o := 0) rfl rfl
        simp (disch := omega) only [↓stp, ↓pln, plv, nilOk, Nat.reduceBEq, Bool.or_false, Bool.or_true, Bool.false_or, Bool.true_or, vls, inf, frs, mark_eq, ↓reduceIte, Nat.reduceEqDiff, ite_tt, ite_ff, eq_self, and_true, true_and, and_self, implies_true, Bool.true_eq_false, Bool.false_eq_true, decide_true, decide_false, decide_eq_true_eq, decide_eq_false_iff_not, ne_eq, not_true_eq_false, not_false_eq_true, Bool.not_eq_true', Bool.not_eq_false', beq_self_eq_true, Bool.not_true, Bool.not_false, List.getElem?_toArray, List.getElem?_cons_zero, List.getElem?_cons_succ, h1, h3, h5, h9, h10, h20, h21, h22, kp, kk]
        refine ⟨fun e3 => ?_, fun e3 => ?_⟩
        · simp (disch := omega) only [↓stp, vls, inf, frs, mark_eq, ↓reduceIte, Nat.reduceEqDiff, ite_tt, ite_ff, eq_self, and_true, true_and, and_self, implies_true, Bool.true_eq_false, Bool.false_eq_true, decide_true, decide_false, decide_eq_true_eq, decide_eq_false_iff_not, ne_eq, not_true_eq_false, not_false_eq_true, Bool.not_eq_true', Bool.not_eq_false', beq_self_eq_true, Bool.not_true, Bool.not_false, List.getElem?_toArray, List.getElem?_cons_zero, List.getElem?_cons_succ, h1, h3, h5, h9, h10, h20, h21, h22, add_at, k0]
          obtain ⟨p, hp, hpl, hnd, _⟩ := needsAt_idx e3
          obtain ⟨ad5, u5, hq, hcl5, _, _, f5⟩ := g0.fixture hpl
          obtain rfl := Option.some.inj hq
          obtain ⟨a5, c5, rfl, hc5, hl5⟩ := f5.slice
          have s2 := View.part_cell (l.ext.part hcl5) (j := 2) rfl
          rw [hnd] at hN
          have hn4 := (hF.fs _ (List.getElem_mem hpl)).1
          rw [hp]
          generalize hns5 : (x.1[p]).2.2.1 = ns at f5 s2 hN hc5 hl5 hn4
          simp (disch := omega) only [↓stp, vls, inf, frs, mark_eq, ↓reduceIte, Nat.reduceEqDiff, ite_tt, ite_ff, eq_self, and_true, true_and, and_self, implies_true, Bool.true_eq_false, Bool.false_eq_true, decide_true, decide_false, decide_eq_true_eq, decide_eq_false_iff_not, ne_eq, not_true_eq_false, not_false_eq_true, Bool.not_eq_true', Bool.not_eq_false', beq_self_eq_true, Bool.not_true, Bool.not_false, List.getElem?_toArray, List.getElem?_cons_zero, List.getElem?_cons_succ, h1, h3, h5, h9, h10, h20, h21, h22, s2]
          refine aloop (fun d fr V => ∃ (m : Nat) (f1 : List Nat) (w1 : Value), m ≤ ns.length ∧ d = ns.length - m ∧ Led A [osl 9 strO f1 w1 (addN rl (ns.take m)), osl 121 problemO fp w (out0 ++ out1), bx q5 ⟨75, [.string (x.1[i]).1, .int .i64 (x.1[i]).2.1, .slice a2 (x.1[i]).2.2.1.length c2, .bool (x.1[i]).2.2.2.1], 4, true⟩, bx q ⟨41, [.slice (some ad) x.1.length c0, .slice a1 x.2.1.length c1], 2, true⟩] V ∧ fr 1 = .pointer (some ⟨q, 0, none⟩) ∧ fr 3 = w ∧ fr 5 = .pointer (some ⟨q5, 0, none⟩) ∧ fr 9 = w1 ∧ fr 10 = .int .i64 j ∧ fr 20 = .slice (some ad) x.1.length c0 ∧ fr 21 = .int .i64 x.1.length ∧ fr 22 = .int .i64 i ∧ fr 86 = .slice a5 ns.length c5 ∧ fr 87 = .int .i64 ns.length ∧ fr 88 = .int .i64 m) ns.length ⟨0, _, _, by omega, by omega, l, h1, h3, h5, h9, h10, h20, h21, h22, by rfl, by rfl, by rfl⟩ ?_
          clear l hS m0 k0 kp kk s2 h1 h3 h5 h9 h10 h20 h21 h22
          rintro d fr V ⟨m, f1, w1, hm, rfl, l, h1, h3, h5, h9, h10, h20, h21, h22, h86, h87, h88⟩
          have hS : Sl strS V w1 (addN rl (ns.take m)) := OSl.toS (show OSl 9 strO V f1 w1 _ from l.at (i := 0) rfl)
          simp (disch := omega) only [↓stp, vls, inf, frs, mark_eq, ↓reduceIte, Nat.reduceEqDiff, ite_tt, ite_ff, eq_self, and_true, true_and, and_self, implies_true, Bool.true_eq_false, Bool.false_eq_true, decide_true, decide_false, decide_eq_true_eq, decide_eq_false_iff_not, ne_eq, not_true_eq_false, not_false_eq_true, Bool.not_eq_true', Bool.not_eq_false', beq_self_eq_true, Bool.not_true, Bool.not_false, List.getElem?_toArray, List.getElem?_cons_zero, List.getElem?_cons_succ, h1, h3, h5, h9, h10, h20, h21, h22, h86, h87, h88]
          refine ⟨fun e4 => ?_, fun e4 => ?_⟩
          · have hml : m < ns.length := by omega
            obtain ⟨ad6, rfl, kk, zk⟩ := (f5.mono l.ext).str hml
            have hst := addN_take (r := rl) hml
            have hal : (addN rl (ns.take m)).length ≤ 28 := by
              have := addN_len (ns.take m) rl
              rw [List.length_take] at this
              omega
            simp (disch := omega) only [↓stp, vls, inf, frs, mark_eq, ↓reduceIte, Nat.reduceEqDiff, ite_tt, ite_ff, eq_self, and_true, true_and, and_self, implies_true, Bool.true_eq_false, Bool.false_eq_true, decide_true, decide_false, decide_eq_true_eq, decide_eq_false_iff_not, ne_eq, not_true_eq_false, not_false_eq_true, Bool.not_eq_true', Bool.not_eq_false', beq_self_eq_true, Bool.not_true, Bool.not_false, List.getElem?_toArray, List.getElem?_cons_zero, List.getElem?_cons_succ, h1, h3, h5, h9, h10, h20, h21, h22, h86, h87, h88, kk]
            refine (contains_str_c V w1 _ _ hS).mono ?_
            rintro _ V ⟨rfl, rfl⟩
            simp (disch := omega) only [↓stp, vls, inf, frs, mark_eq, ↓reduceIte, Nat.reduceEqDiff, ite_tt, ite_ff, eq_self, and_true, true_and, and_self, implies_true, Bool.true_eq_false, Bool.false_eq_true, decide_true, decide_false, decide_eq_true_eq, decide_eq_false_iff_not, ne_eq, not_true_eq_false, not_false_eq_true, Bool.not_eq_true', Bool.not_eq_false', beq_self_eq_true, Bool.not_true, Bool.not_false, List.getElem?_toArray, List.getElem?_cons_zero, List.getElem?_cons_succ, h1, h3, h5, h9, h10, h20, h21, h22, h86, h87, h88]
            refine ⟨fun e5 => ?_, fun e5 => ?_⟩ <;> simp (disch := omega) only [↓stp, vls, inf, frs, mark_eq, ↓reduceIte, Nat.reduceEqDiff, ite_tt, ite_ff, eq_self, and_true, true_and, and_self, implies_true, Bool.true_eq_false, Bool.false_eq_true, decide_true, decide_false, decide_eq_true_eq, decide_eq_false_iff_not, ne_eq, not_true_eq_false, not_false_eq_true, Bool.not_eq_true', Bool.not_eq_false', beq_self_eq_true, Bool.not_true, Bool.not_false, List.getElem?_toArray, List.getElem?_cons_zero, List.getElem?_cons_succ, h1, h3, h5, h9, h10, h20, h21, h22, h86, h87, h88]
            · rw [if_neg e5] at hst
              refine led_lit li54 (by omega) rfl (fun p hp => by rcases List.mem_singleton.1 hp with rfl; exact ⟨rfl, rfl⟩) l fun bl V3 _ l => ?_
              simp (disch := omega) only [↓stp, vls, inf, frs, mark_eq, ↓reduceIte, Nat.reduceEqDiff, ite_tt, ite_ff, eq_self, and_true, true_and, and_self, implies_true, Bool.true_eq_false, Bool.false_eq_true, decide_true, decide_false, decide_eq_true_eq, decide_eq_false_iff_not, ne_eq, not_true_eq_false, not_false_eq_true, Bool.not_eq_true', Bool.not_eq_false', beq_self_eq_true, Bool.not_true, Bool.not_false, List.getElem?_toArray, List.getElem?_cons_zero, List.getElem?_cons_succ, h1, h3, h5, h9, h10, h20, h21, h22, h86, h87, h88]
              refine led_app (O := strO) ap54_54 (by decide) l (i := 1) rfl (l.src1 (S := strS) (j := 0) rfl ⟨rfl, zk⟩) (by rw [List.length_singleton]; omega) fun fp2 w2 V4 _ l => ?_
              simp (disch := omega) only [↓stp, vls, inf, frs, mark_eq, ↓reduceIte, Nat.reduceEqDiff, ite_tt, ite_ff, eq_self, and_true, true_and, and_self, implies_true, Bool.true_eq_false, Bool.false_eq_true, decide_true, decide_false, decide_eq_true_eq, decide_eq_false_iff_not, ne_eq, not_true_eq_false, not_false_eq_true, Bool.not_eq_true', Bool.not_eq_false', beq_self_eq_true, Bool.not_true, Bool.not_false, List.getElem?_toArray, List.getElem?_cons_zero, List.getElem?_cons_succ, h1, h3, h5, h9, h10, h20, h21, h22, h86, h87, h88]
              exact ⟨_, by omega, m + 1, _, _, by omega, rfl, by rw [hst]; exact l.tail, rfl, rfl⟩
            · rw [if_pos e5] at hst
              exact ⟨_, by omega, m + 1, _, _, by omega, rfl, by rw [hst]; exact l, rfl, rfl⟩
          · rw [List.take_of_length_le (by omega)] at l
            have hN' := hN.len
            have hpre := addN_pre (r := rl) (ns := ns)
            have := hpre.length_le
            simp (disch := omega) only [↓stp, vls, inf, frs, mark_eq, ↓reduceIte, Nat.reduceEqDiff, ite_tt, ite_ff, eq_self, and_true, true_and, and_self, implies_true, Bool.true_eq_false, Bool.false_eq_true, decide_true, decide_false, decide_eq_true_eq, decide_eq_false_iff_not, ne_eq, not_true_eq_false, not_false_eq_true, Bool.not_eq_true', Bool.not_eq_false', beq_self_eq_true, Bool.not_true, Bool.not_false, List.getElem?_toArray, List.getElem?_cons_zero, List.getElem?_cons_succ, h1, h3, h5, h9, h10, h20, h21, h22, h86, h87, h88]
            exact ⟨_, by omega, j + 1, _, _, _, by omega, rfl, hN, l, rfl, rfl⟩
        · rw [needsAt_no fun h => by have := hasF_idx.1 h; omega] at hN
          simp (disch := omega) only [↓stp, vls, inf, frs, mark_eq, ↓reduceIte, Nat.reduceEqDiff, ite_tt, ite_ff, eq_self, and_true, true_and, and_self, implies_true, Bool.true_eq_false, Bool.false_eq_true, decide_true, decide_false, decide_eq_true_eq, decide_eq_false_iff_not, ne_eq, not_true_eq_false, not_false_eq_true, Bool.not_eq_true', Bool.not_eq_false', beq_self_eq_true, Bool.not_true, Bool.not_false, List.getElem?_toArray, List.getElem?_cons_zero, List.getElem?_cons_succ, h1, h3, h5, h9, h10, h20, h21, h22]
          have hN' : (addN rl []) = rl := rfl
          rw [hN'] at hN
          exact ⟨_, by omega, j + 1, _, _, _, by omega, rfl, hN, l, rfl, rfl⟩
      · simp (disch := omega) only [↓stp, vls, inf, frs, mark_eq, ↓reduceIte, Nat.reduceEqDiff, ite_tt, ite_ff, eq_self, and_true, true_and, and_self, implies_true, Bool.true_eq_false, Bool.false_eq_true, decide_true, decide_false, decide_eq_true_eq, decide_eq_false_iff_not, ne_eq, not_true_eq_false, not_false_eq_true, Bool.not_eq_true', Bool.not_eq_false', beq_self_eq_true, Bool.not_true, Bool.not_false, List.getElem?_toArray, List.getElem?_cons_zero, List.getElem?_cons_succ, h1, h3, h5, h9, h10, h20, h21, h22, add_at, m0]
        have hcc : decide ((x.1[i]).1 ∈ rl) = circB x.1 (x.1[i]).1 := by
          unfold circB
          rw [Bool.eq_iff_iff, decide_eq_true_eq, @decide_eq_true_eq _ (Classical.propDecidable _)]
          exact hC.done (by omega) _
        refine (contains_str_c V _ _ _ hS).mono ?_
        rintro _ V ⟨rfl, rfl⟩
        rw [hcc]
        simp (disch := omega) only [↓stp, vls, inf, frs, mark_eq, ↓reduceIte, Nat.reduceEqDiff, ite_tt, ite_ff, eq_self, and_true, true_and, and_self, implies_true, Bool.true_eq_false, Bool.false_eq_true, decide_true, decide_false, decide_eq_true_eq, decide_eq_false_iff_not, ne_eq, not_true_eq_false, not_false_eq_true, Bool.not_eq_true', Bool.not_eq_false', beq_self_eq_true, Bool.not_true, Bool.not_false, List.getElem?_toArray, List.getElem?_cons_zero, List.getElem?_cons_succ, h1, h3, h5, h9, h10, h20, h21, h22]
        refine ⟨fun e3 => ?_, fun e3 => ?_⟩ <;> simp (disch := omega) only [↓stp, vls, inf, frs, mark_eq, ↓reduceIte, Nat.reduceEqDiff, ite_tt, ite_ff, eq_self, and_true, true_and, and_self, implies_true, Bool.true_eq_false, Bool.false_eq_true, decide_true, decide_false, decide_eq_true_eq, decide_eq_false_iff_not, ne_eq, not_true_eq_false, not_false_eq_true, Bool.not_eq_true', Bool.not_eq_false', beq_self_eq_true, Bool.not_true, Bool.not_false, List.getElem?_toArray, List.getElem?_cons_zero, List.getElem?_cons_succ, h1, h3, h5, h9, h10, h20, h21, h22, add_at, m0]
        · refine led_lit li101 (by omega) rfl (fun p hp => by rcases List.mem_singleton.1 hp with rfl; exact ⟨rfl, rfl⟩) l fun bl V3 _ l => ?_
          simp (disch := omega) only [↓stp, vls, inf, frs, mark_eq, ↓reduceIte, Nat.reduceEqDiff, ite_tt, ite_ff, eq_self, and_true, true_and, and_self, implies_true, Bool.true_eq_false, Bool.false_eq_true, decide_true, decide_false, decide_eq_true_eq, decide_eq_false_iff_not, ne_eq, not_true_eq_false, not_false_eq_true, Bool.not_eq_true', Bool.not_eq_false', beq_self_eq_true, Bool.not_true, Bool.not_false, List.getElem?_toArray, List.getElem?_cons_zero, List.getElem?_cons_succ, h1, h3, h5, h9, h10, h20, h21, h22]
          refine led_app (O := problemO) ap101_101 (by decide) l (i := 2) rfl (l.src1 (S := problemS) (j := 0) rfl (problemS_mk (x := (2, (x.1[i]).1, (x.1[i]).1, ())) (show (-9223372036854775808 : Int) ≤ 2 ∧ (2 : Int) < 9223372036854775808 from ⟨by decide, by decide⟩) z1 z1)) (by rw [List.length_singleton]; omega) fun fp2 w2 V4 _ l => ?_
          simp (disch := omega) only [↓stp, vls, inf, frs, mark_eq, ↓reduceIte, Nat.reduceEqDiff, ite_tt, ite_ff, eq_self, and_true, true_and, and_self, implies_true, Bool.true_eq_false, Bool.false_eq_true, decide_true, decide_false, decide_eq_true_eq, decide_eq_false_iff_not, ne_eq, not_true_eq_false, not_false_eq_true, Bool.not_eq_true', Bool.not_eq_false', beq_self_eq_true, Bool.not_true, Bool.not_false, List.getElem?_toArray, List.getElem?_cons_zero, List.getElem?_cons_succ, h1, h3, h5, h9, h10, h20, h21, h22]
          have l2 : Led A [osl 121 problemO fp2 w2 ((x.1.take (i + 1)).flatMap (prFix x.1)), bx q ⟨41, [.slice (some ad) x.1.length c0, .slice a1 x.2.1.length c1], 2, true⟩] V4 := by
            rw [hft, hfx, if_pos e3, ← List.append_assoc]
            exact l.sub (.cons _ (.cons _ (.cons_cons _ (.cons _ (List.Sublist.refl _)))))
          exact ⟨_, by omega, i + 1, _, _, by omega, rfl, l2, rfl, rfl⟩
        · have l2 : Led A [osl 121 problemO fp w ((x.1.take (i + 1)).flatMap (prFix x.1)), bx q ⟨41, [.slice (some ad) x.1.length c0, .slice a1 x.2.1.length c1], 2, true⟩] V := by
            rw [hft, hfx, if_neg (by rw [e3]; exact Bool.false_ne_true), List.append_nil]
            exact l.sub (.cons _ (.cons_cons _ (.cons _ (List.Sublist.refl _))))
          exact ⟨_, by omega, i + 1, _, _, by omega, rfl, l2, rfl, rfl⟩
  · have k1 := l.cell (i := 1) rfl (o := 1) rfl rfl
    rw [List.take_of_length_le (by omega)] at l
    have hoF : (x.1.flatMap (prFix x.1)).length ≤ 30 := by
      have := flatMap_le' (f := prFix x.1) (m := 5) x.1 fun f hf => prFix_len (hF.fs f hf).1
      omega
    have hpr : probR x = x.1.flatMap (prFix x.1) ++ x.2.1.flatMap (prTest x.1) := rfl
    generalize x.1.flatMap (prFix x.1) = out0 at l hoF hpr
    simp (disch := omega) only [↓stp, vls, inf, frs, mark_eq, ↓reduceIte, Nat.reduceEqDiff, ite_tt, ite_ff, eq_self, and_true, true_and, and_self, implies_true, Bool.true_eq_false, Bool.false_eq_true, decide_true, decide_false, decide_eq_true_eq, decide_eq_false_iff_not, ne_eq, not_true_eq_false, not_false_eq_true, Bool.not_eq_true', Bool.not_eq_false', beq_self_eq_true, Bool.not_true, Bool.not_false, List.getElem?_toArray, List.getElem?_cons_zero, List.getElem?_cons_succ, h1, h3, h20, h21, h22, add_at, k1]
    refine aloop (fun d fr V => ∃ (j : Nat) (fp : List Nat) (w : Value), j ≤ x.2.1.length ∧ d = x.2.1.length - j ∧ Led A [osl 121 problemO fp w (out0 ++ (x.2.1.take j).flatMap (prTest x.1)), bx q ⟨41, [.slice a0 x.1.length c0, .slice a1 x.2.1.length c1], 2, true⟩] V ∧ fr 1 = .pointer (some ⟨q, 0, none⟩) ∧ fr 3 = w ∧ fr 115 = .slice a1 x.2.1.length c1 ∧ fr 116 = .int .i64 x.2.1.length ∧ fr 117 = .int .i64 j) x.2.1.length ⟨0, _, _, by omega, by omega, by rw [List.take_zero, List.flatMap_nil, List.append_nil]; exact l, h1, h3, by rfl, by rfl, by rfl⟩ ?_
    clear l k1 h1 h3 h20 h21 h22
    rintro d fr V ⟨j, fp, w, hj, rfl, l, h1, h3, h115, h116, h117⟩
    simp (disch := omega) only [↓stp, vls, inf, frs, mark_eq, ↓reduceIte, Nat.reduceEqDiff, ite_tt, ite_ff, eq_self, and_true, true_and, and_self, implies_true, Bool.true_eq_false, Bool.false_eq_true, decide_true, decide_false, decide_eq_true_eq, decide_eq_false_iff_not, ne_eq, not_true_eq_false, not_false_eq_true, Bool.not_eq_true', Bool.not_eq_false', beq_self_eq_true, Bool.not_true, Bool.not_false, List.getElem?_toArray, List.getElem?_cons_zero, List.getElem?_cons_succ, h1, h3, h115, h116, h117]
    refine ⟨fun e1 => ?_, fun e1 => ?_⟩
    · have hlt : j < x.2.1.length := by omega
      have hout : (out0 ++ (x.2.1.take j).flatMap (prTest x.1)).length ≤ 70 := by
        have := flatMap_le' (f := prTest x.1) (m := 4) (x.2.1.take j) fun f hf => prTest_len (hF.ts f (List.mem_of_mem_take hf)).2
        rw [List.length_take] at this
        rw [List.length_append]
        omega
      have hft := flatMap_take (prTest x.1) hlt
      obtain ⟨ad, u2, u3, rfl, hclA, z1, z2, f2, f3⟩ := g1.test hlt
      obtain ⟨a2, c2, rfl, _, _⟩ := f2.slice
      obtain ⟨a3, c3, rfl, _, _⟩ := f3.slice
      have hff := hF.ts _ (List.getElem_mem hlt)
      have hcl := l.ext.part hclA
      simp (disch := omega) only [↓stp, vls, inf, frs, mark_eq, ↓reduceIte, Nat.reduceEqDiff, ite_tt, ite_ff, eq_self, and_true, true_and, and_self, implies_true, Bool.true_eq_false, Bool.false_eq_true, decide_true, decide_false, decide_eq_true_eq, decide_eq_false_iff_not, ne_eq, not_true_eq_false, not_false_eq_true, Bool.not_eq_true', Bool.not_eq_false', beq_self_eq_true, Bool.not_true, Bool.not_false, List.getElem?_toArray, List.getElem?_cons_zero, List.getElem?_cons_succ, h1, h3, h115, h116, h117, hcl]
      refine led_alloc zc78 l fun q5 V5 he5 l => ?_
      simp (disch := omega) only [↓stp, vls, inf, frs, mark_eq, ↓reduceIte, Nat.reduceEqDiff, ite_tt, ite_ff, eq_self, and_true, true_and, and_self, implies_true, Bool.true_eq_false, Bool.false_eq_true, decide_true, decide_false, decide_eq_true_eq, decide_eq_false_iff_not, ne_eq, not_true_eq_false, not_false_eq_true, Bool.not_eq_true', Bool.not_eq_false', beq_self_eq_true, Bool.not_true, Bool.not_false, List.getElem?_toArray, List.getElem?_cons_zero, List.getElem?_cons_succ, h1, h3, h115, h116, h117]
      refine led_storeAll l 0 rfl sz78 rfl rfl (by simp [Value.oneCell']) fun V6 l => ?_
      have m3 := l.cell (i := 0) rfl (o := 3) rfl rfl
      simp (disch := omega) only [↓stp, vls, inf, frs, mark_eq, ↓reduceIte, Nat.reduceEqDiff, ite_tt, ite_ff, eq_self, and_true, true_and, and_self, implies_true, Bool.true_eq_false, Bool.false_eq_true, decide_true, decide_false, decide_eq_true_eq, decide_eq_false_iff_not, ne_eq, not_true_eq_false, not_false_eq_true, Bool.not_eq_true', Bool.not_eq_false', beq_self_eq_true, Bool.not_true, Bool.not_false, List.getElem?_toArray, List.getElem?_cons_zero, List.getElem?_cons_succ, h1, h3, h115, h116, h117, add_at, m3]
      generalize (x.2.1.take j).flatMap (prTest x.1) = out1 at l hout hft
      refine aloop (fun d fr V => ∃ (k : Nat) (fp : List Nat) (w : Value), k ≤ (x.2.1[j]).2.2.2.1.length ∧ d = (x.2.1[j]).2.2.2.1.length - k ∧ Led A [osl 121 problemO fp w (out0 ++ out1 ++ ((x.2.1[j]).2.2.2.1.take k).flatMap (prTestN x.1 x.2.1[j])), bx q5 ⟨78, [.string (x.2.1[j]).1, .string (x.2.1[j]).2.1, .slice a2 (x.2.1[j]).2.2.1.length c2, .slice a3 (x.2.1[j]).2.2.2.1.length c3], 4, true⟩, bx q ⟨41, [.slice a0 x.1.length c0, .slice (some ad) x.2.1.length c1], 2, true⟩] V ∧ fr 1 = .pointer (some ⟨q, 0, none⟩) ∧ fr 3 = w ∧ fr 15 = .pointer (some ⟨q5, 0, none⟩) ∧ fr 115 = .slice (some ad) x.2.1.length c1 ∧ fr 116 = .int .i64 x.2.1.length ∧ fr 117 = .int .i64 j ∧ fr 122 = .slice a3 (x.2.1[j]).2.2.2.1.length c3 ∧ fr 123 = .int .i64 (x.2.1[j]).2.2.2.1.length ∧ fr 124 = .int .i64 k) (x.2.1[j]).2.2.2.1.length ⟨0, _, _, by omega, by omega, by rw [List.take_zero, List.flatMap_nil, List.append_nil]; exact l.perm (List.Perm.swap ..), h1, h3, by rfl, h115, h116, h117, by rfl, by rfl, by rfl⟩ ?_
      clear l m3 hcl h1 h3 h115 h116 h117
      rintro d fr V ⟨k, fp, w, hk, rfl, l, h1, h3, h15, h115, h116, h117, h122, h123, h124⟩
      have kp : V.part ⟨q, 0, none⟩ 2 = some _ := l.part (i := 2) rfl rfl
      simp (disch := omega) only [↓stp, vls, inf, frs, mark_eq, ↓reduceIte, Nat.reduceEqDiff, ite_tt, ite_ff, eq_self, and_true, true_and, and_self, implies_true, Bool.true_eq_false, Bool.false_eq_true, decide_true, decide_false, decide_eq_true_eq, decide_eq_false_iff_not, ne_eq, not_true_eq_false, not_false_eq_true, Bool.not_eq_true', Bool.not_eq_false', beq_self_eq_true, Bool.not_true, Bool.not_false, List.getElem?_toArray, List.getElem?_cons_zero, List.getElem?_cons_succ, h1, h3, h15, h115, h116, h117, h122, h123, h124]
      refine ⟨fun e2 => ?_, fun e2 => ?_⟩
      · have hltk : k < (x.2.1[j]).2.2.2.1.length := by omega
        obtain ⟨ad2, rfl, kk, zk⟩ := (f3.mono l.ext).str hltk
        simp (disch := omega) only [↓stp, vls, inf, frs, mark_eq, ↓reduceIte, Nat.reduceEqDiff, ite_tt, ite_ff, eq_self, and_true, true_and, and_self, implies_true, Bool.true_eq_false, Bool.false_eq_true, decide_true, decide_false, decide_eq_true_eq, decide_eq_false_iff_not, ne_eq, not_true_eq_false, not_false_eq_true, Bool.not_eq_true', Bool.not_eq_false', beq_self_eq_true, Bool.not_true, Bool.not_false, List.getElem?_toArray, List.getElem?_cons_zero, List.getElem?_cons_succ, h1, h3, h15, h115, h116, h117, h122, h123, h124, kk, kp]
        refine (impl_fixtureAt_c V _ x _ (suiteS_mk (g0.mono l.ext) (g1.mono l.ext))).mono ?_
        rintro _ V2 ⟨rfl, he2⟩
        replace l := l.step he2
        have kt : V2.part ⟨q5, 0, none⟩ 4 = some _ := l.part (i := 1) rfl rfl
        have hlen : (out0 ++ out1 ++ ((x.2.1[j]).2.2.2.1.take k).flatMap (prTestN x.1 x.2.1[j])).length ≤ 74 := by
          have := flatMap_le (prTestN_len x.1 x.2.1[j]) ((x.2.1[j]).2.2.2.1.take k)
          rw [List.length_take] at this
          rw [List.length_append]
          omega
        have hst := flatMap_take (prTestN x.1 x.2.1[j]) hltk
        simp (disch := omega) only [↓stp, vls, inf, frs, mark_eq, ↓reduceIte, Nat.reduceEqDiff, ite_tt, ite_ff, eq_self, and_true, true_and, and_self, implies_true, Bool.true_eq_false, Bool.false_eq_true, decide_true, decide_false, decide_eq_true_eq, decide_eq_false_iff_not, ne_eq, not_true_eq_false, not_false_eq_true, Bool.not_eq_true', Bool.not_eq_false', beq_self_eq_true, Bool.not_true, Bool.not_false, List.getElem?_toArray, List.getElem?_cons_zero, List.getElem?_cons_succ, h1, h3, h15, h115, h116, h117, h122, h123, h124]
        refine ⟨fun e3 => ?_, fun e3 => ?_⟩ <;> simp (disch := omega) only [↓stp, vls, inf, frs, mark_eq, ↓reduceIte, Nat.reduceEqDiff, ite_tt, ite_ff, eq_self, and_true, true_and, and_self, implies_true, Bool.true_eq_false, Bool.false_eq_true, decide_true, decide_false, decide_eq_true_eq, decide_eq_false_iff_not, ne_eq, not_true_eq_false, not_false_eq_true, Bool.not_eq_true', Bool.not_eq_false', beq_self_eq_true, Bool.not_true, Bool.not_false, List.getElem?_toArray, List.getElem?_cons_zero, List.getElem?_cons_succ, h1, h3, h15, h115, h116, h117, h122, h123, h124, kt]
        · refine (impl_idOf_c V2 _ x.2.1[j] (testS_mk z1 z2 (f2.mono l.ext) (f3.mono l.ext))).mono ?_
          rintro _ V ⟨rfl, he3⟩
          replace l := l.step he3
          simp (disch := omega) only [↓stp, vls, inf, frs, mark_eq, ↓reduceIte, Nat.reduceEqDiff, ite_tt, ite_ff, eq_self, and_true, true_and, and_self, implies_true, Bool.true_eq_false, Bool.false_eq_true, decide_true, decide_false, decide_eq_true_eq, decide_eq_false_iff_not, ne_eq, not_true_eq_false, not_false_eq_true, Bool.not_eq_true', Bool.not_eq_false', beq_self_eq_true, Bool.not_true, Bool.not_false, List.getElem?_toArray, List.getElem?_cons_zero, List.getElem?_cons_succ, h1, h3, h15, h115, h116, h117, h122, h123, h124]
          refine led_lit li101 (by omega) rfl (fun p hp => by rcases List.mem_singleton.1 hp with rfl; exact ⟨rfl, rfl⟩) l fun bl V3 _ l => ?_
          simp (disch := omega) only [↓stp, vls, inf, frs, mark_eq, ↓reduceIte, Nat.reduceEqDiff, ite_tt, ite_ff, eq_self, and_true, true_and, and_self, implies_true, Bool.true_eq_false, Bool.false_eq_true, decide_true, decide_false, decide_eq_true_eq, decide_eq_false_iff_not, ne_eq, not_true_eq_false, not_false_eq_true, Bool.not_eq_true', Bool.not_eq_false', beq_self_eq_true, Bool.not_true, Bool.not_false, List.getElem?_toArray, List.getElem?_cons_zero, List.getElem?_cons_succ, h1, h3, h15, h115, h116, h117, h122, h123, h124]
          refine led_app (O := problemO) ap101_101 (by decide) l (i := 1) rfl (l.src1 (S := problemS) (j := 0) rfl (problemS_mk (x := (0, idD x.2.1[j], (x.2.1[j]).2.2.2.1[k], ())) (show (-9223372036854775808 : Int) ≤ 0 ∧ (0 : Int) < 9223372036854775808 from ⟨by decide, by decide⟩) (by have := testB_id hff.1; show (idD x.2.1[j]).size ≤ _; omega) zk)) (by rw [List.length_singleton]; omega) fun fp2 w2 V4 _ l => ?_
          simp (disch := omega) only [↓stp, vls, inf, frs, mark_eq, ↓reduceIte, Nat.reduceEqDiff, ite_tt, ite_ff, eq_self, and_true, true_and, and_self, implies_true, Bool.true_eq_false, Bool.false_eq_true, decide_true, decide_false, decide_eq_true_eq, decide_eq_false_iff_not, ne_eq, not_true_eq_false, not_false_eq_true, Bool.not_eq_true', Bool.not_eq_false', beq_self_eq_true, Bool.not_true, Bool.not_false, List.getElem?_toArray, List.getElem?_cons_zero, List.getElem?_cons_succ, h1, h3, h15, h115, h116, h117, h122, h123, h124]
          have l2 : Led A [osl 121 problemO fp2 w2 (out0 ++ out1 ++ ((x.2.1[j]).2.2.2.1.take (k + 1)).flatMap (prTestN x.1 x.2.1[j])), bx q5 ⟨78, [.string (x.2.1[j]).1, .string (x.2.1[j]).2.1, .slice a2 (x.2.1[j]).2.2.1.length c2, .slice (some ad2) (x.2.1[j]).2.2.2.1.length c3], 4, true⟩, bx q ⟨41, [.slice a0 x.1.length c0, .slice (some ad) x.2.1.length c1], 2, true⟩] V4 := by
            rw [hst, ← List.append_assoc]
            rw [show prTestN x.1 x.2.1[j] (x.2.1[j]).2.2.2.1[k] = [(0, idD x.2.1[j], (x.2.1[j]).2.2.2.1[k], ())] by unfold prTestN; rw [if_pos e3]]
            exact l.tail
          exact ⟨_, by omega, k + 1, _, _, by omega, rfl, l2, rfl, rfl⟩
        · have l2 : Led A [osl 121 problemO fp w (out0 ++ out1 ++ ((x.2.1[j]).2.2.2.1.take (k + 1)).flatMap (prTestN x.1 x.2.1[j])), bx q5 ⟨78, [.string (x.2.1[j]).1, .string (x.2.1[j]).2.1, .slice a2 (x.2.1[j]).2.2.1.length c2, .slice (some ad2) (x.2.1[j]).2.2.2.1.length c3], 4, true⟩, bx q ⟨41, [.slice a0 x.1.length c0, .slice (some ad) x.2.1.length c1], 2, true⟩] V2 := by
            rw [hst, ← List.append_assoc]
            rw [show prTestN x.1 x.2.1[j] (x.2.1[j]).2.2.2.1[k] = [] by unfold prTestN; rw [if_neg (by omega)], List.append_nil]
            exact l
          exact ⟨_, by omega, k + 1, _, _, by omega, rfl, l2, rfl, rfl⟩
      · simp (disch := omega) only [↓stp, vls, inf, frs, mark_eq, ↓reduceIte, Nat.reduceEqDiff, ite_tt, ite_ff, eq_self, and_true, true_and, and_self, implies_true, Bool.true_eq_false, Bool.false_eq_true, decide_true, decide_false, decide_eq_true_eq, decide_eq_false_iff_not, ne_eq, not_true_eq_false, not_false_eq_true, Bool.not_eq_true', Bool.not_eq_false', beq_self_eq_true, Bool.not_true, Bool.not_false, List.getElem?_toArray, List.getElem?_cons_zero, List.getElem?_cons_succ, h1, h3, h15, h115, h116, h117, h122, h123, h124]
        rw [List.take_of_length_le (by omega)] at l
        have l2 : Led A [osl 121 problemO fp w (out0 ++ (x.2.1.take (j + 1)).flatMap (prTest x.1)), bx q ⟨41, [.slice a0 x.1.length c0, .slice (some ad) x.2.1.length c1], 2, true⟩] V := by
          rw [hft, ← List.append_assoc]
          exact l.sub (.cons_cons _ (.cons _ (List.Sublist.refl _)))
        exact ⟨_, by omega, j + 1, _, _, by omega, rfl, l2, rfl, rfl⟩
    · rw [List.take_of_length_le (by omega)] at l
      rw [hpr]
      simp (disch := omega) only [↓stp, vls, inf, frs, mark_eq, ↓reduceIte, Nat.reduceEqDiff, ite_tt, ite_ff, eq_self, and_true, true_and, and_self, implies_true, Bool.true_eq_false, Bool.false_eq_true, decide_true, decide_false, decide_eq_true_eq, decide_eq_false_iff_not, ne_eq, not_true_eq_false, not_false_eq_true, Bool.not_eq_true', Bool.not_eq_false', beq_self_eq_true, Bool.not_true, Bool.not_false, List.getElem?_toArray, List.getElem?_cons_zero, List.getElem?_cons_succ, h1, h3, h115, h116, h117]
      exact NewSl.of l (i := 0) rfl

end Go.Proofs.Ytggklaimbklefaa

/- What is wrong with a suite: the reference. -/
set_option maxHeartbeats 4000000
set_option synthInstance.maxHeartbeats 400000
set_option synthInstance.maxSize 4096
set_option linter.unusedSimpArgs false
set_option linter.unusedVariables false
namespace Go.Proofs.Ytggklaimbklefaa

set_option maxRecDepth 100000

theorem spec_problems_c (A : View) (d : List Value) (x : SuiteD) (hx : suiteS.rel A x d) (hF : Formed x) : ACalls Try.prog 66 #[.agg d.toArray] A fun r V => NewSl 121 problemO A r V (probR x) := by
  obtain ⟨u0, u1, rfl, g0, g1⟩ := suiteS_open hx
  obtain ⟨a0, c0, rfl, _, _⟩ := g0.slice
  obtain ⟨a1, c1, rfl, _, _⟩ := g1.slice
  have hfl := hF.fl
  have htl := hF.tl
  refine acalls Try.func66 rfl (by kernel_rfl) ?_
  simp (disch := omega) only [↓stp, vls, inf, frs, mark_eq, ↓reduceIte, Nat.reduceEqDiff, ite_tt, ite_ff, eq_self, and_true, true_and, and_self, implies_true, Bool.true_eq_false, Bool.false_eq_true, decide_true, decide_false, decide_eq_true_eq, decide_eq_false_iff_not, ne_eq, not_true_eq_false, not_false_eq_true, Bool.not_eq_true', Bool.not_eq_false', beq_self_eq_true, Bool.not_true, Bool.not_false, List.getElem?_toArray, List.getElem?_cons_zero, List.getElem?_cons_succ]
  refine led_box (Led.nil A) rfl fun q V he l => ?_
  simp (disch := omega) only [↓stp, vls, inf, frs, mark_eq, ↓reduceIte, Nat.reduceEqDiff, ite_tt, ite_ff, eq_self, and_true, true_and, and_self, implies_true, Bool.true_eq_false, Bool.false_eq_true, decide_true, decide_false, decide_eq_true_eq, decide_eq_false_iff_not, ne_eq, not_true_eq_false, not_false_eq_true, Bool.not_eq_true', Bool.not_eq_false', beq_self_eq_true, Bool.not_true, Bool.not_false, List.getElem?_toArray, List.getElem?_cons_zero, List.getElem?_cons_succ]
  refine led_lit0 (O := problemO) li101 l fun b1 V1 _ l => ?_
  simp (disch := omega) only [↓stp, vls, inf, frs, mark_eq, ↓reduceIte, Nat.reduceEqDiff, ite_tt, ite_ff, eq_self, and_true, true_and, and_self, implies_true, Bool.true_eq_false, Bool.false_eq_true, decide_true, decide_false, decide_eq_true_eq, decide_eq_false_iff_not, ne_eq, not_true_eq_false, not_false_eq_true, Bool.not_eq_true', Bool.not_eq_false', beq_self_eq_true, Bool.not_true, Bool.not_false, List.getElem?_toArray, List.getElem?_cons_zero, List.getElem?_cons_succ]
  refine aloop (fun d fr V => ∃ (i : Nat) (fp : List Nat) (w : Value), i ≤ x.1.length ∧ d = x.1.length - i ∧ Led A [osl 121 problemO fp w ((x.1.take i).flatMap (prFix x.1)), bx q ⟨41, [.slice a0 x.1.length c0, .slice a1 x.2.1.length c1], 2, true⟩] V ∧ fr 1 = .pointer (some ⟨q, 0, none⟩) ∧ fr 3 = w ∧ fr 4 = .int .i64 i) x.1.length ⟨0, _, _, by omega, by omega, l, by rfl, by rfl, by rfl⟩ ?_
  clear l he
  rintro d fr V ⟨i, fp, w, hi, rfl, l, h1, h3, h4⟩
  have k0 := l.cell (i := 1) rfl (o := 0) rfl rfl
  simp (disch := omega) only [↓stp, vls, inf, frs, mark_eq, ↓reduceIte, Nat.reduceEqDiff, ite_tt, ite_ff, eq_self, and_true, true_and, and_self, implies_true, Bool.true_eq_false, Bool.false_eq_true, decide_true, decide_false, decide_eq_true_eq, decide_eq_false_iff_not, ne_eq, not_true_eq_false, not_false_eq_true, Bool.not_eq_true', Bool.not_eq_false', beq_self_eq_true, Bool.not_true, Bool.not_false, List.getElem?_toArray, List.getElem?_cons_zero, List.getElem?_cons_succ, h1, h3, h4, add_at, k0]
  refine ⟨fun e => ?_, fun e => ?_⟩
  · have hlt : i < x.1.length := by omega
    have hout : ((x.1.take i).flatMap (prFix x.1)).length ≤ 30 := by
      have := flatMap_le' (f := prFix x.1) (m := 5) (x.1.take i) fun f hf => prFix_len (hF.fs f (List.mem_of_mem_take hf)).1
      rw [List.length_take] at this
      omega
    have hft := flatMap_take (prFix x.1) hlt
    obtain ⟨ad, u2, rfl, hclA, z1, z2, f2⟩ := g0.fixture hlt
    obtain ⟨a2, c2, rfl, _, _⟩ := f2.slice
    have hff := hF.fs _ (List.getElem_mem hlt)
    have hcl := l.ext.part hclA
    generalize (x.1.take i).flatMap (prFix x.1) = out0 at l hout hft
    simp (disch := omega) only [↓stp, vls, inf, frs, mark_eq, ↓reduceIte, Nat.reduceEqDiff, ite_tt, ite_ff, eq_self, and_true, true_and, and_self, implies_true, Bool.true_eq_false, Bool.false_eq_true, decide_true, decide_false, decide_eq_true_eq, decide_eq_false_iff_not, ne_eq, not_true_eq_false, not_false_eq_true, Bool.not_eq_true', Bool.not_eq_false', beq_self_eq_true, Bool.not_true, Bool.not_false, List.getElem?_toArray, List.getElem?_cons_zero, List.getElem?_cons_succ, h1, h3, h4, add_at, k0, hcl]
    refine led_alloc zc75 l fun q5 V5 he5 l => ?_
    simp (disch := omega) only [↓stp, vls, inf, frs, mark_eq, ↓reduceIte, Nat.reduceEqDiff, ite_tt, ite_ff, eq_self, and_true, true_and, and_self, implies_true, Bool.true_eq_false, Bool.false_eq_true, decide_true, decide_false, decide_eq_true_eq, decide_eq_false_iff_not, ne_eq, not_true_eq_false, not_false_eq_true, Bool.not_eq_true', Bool.not_eq_false', beq_self_eq_true, Bool.not_true, Bool.not_false, List.getElem?_toArray, List.getElem?_cons_zero, List.getElem?_cons_succ, h1, h3, h4]
    refine led_storeAll l 0 rfl sz75 rfl rfl (by simp [Value.oneCell']) fun V6 l => ?_
    simp (disch := omega) only [↓stp, vls, inf, frs, mark_eq, ↓reduceIte, Nat.reduceEqDiff, ite_tt, ite_ff, eq_self, and_true, true_and, and_self, implies_true, Bool.true_eq_false, Bool.false_eq_true, decide_true, decide_false, decide_eq_true_eq, decide_eq_false_iff_not, ne_eq, not_true_eq_false, not_false_eq_true, Bool.not_eq_true', Bool.not_eq_false', beq_self_eq_true, Bool.not_true, Bool.not_false, List.getElem?_toArray, List.getElem?_cons_zero, List.getElem?_cons_succ, h1, h3, h4]
    refine aloop (fun d fr V => ∃ (k : Nat) (fp : List Nat) (w : Value), k ≤ (x.1[i]).2.2.1.length ∧ d = (x.1[i]).2.2.1.length - k ∧ Led A [osl 121 problemO fp w (out0 ++ ((x.1[i]).2.2.1.take k).flatMap (prNeed x.1 x.1[i])), bx q5 ⟨75, [.string (x.1[i]).1, .int .i64 (x.1[i]).2.1, .slice a2 (x.1[i]).2.2.1.length c2, .bool (x.1[i]).2.2.2.1], 4, true⟩, bx q ⟨41, [.slice (some ad) x.1.length c0, .slice a1 x.2.1.length c1], 2, true⟩] V ∧ fr 1 = .pointer (some ⟨q, 0, none⟩) ∧ fr 3 = w ∧ fr 4 = .int .i64 i ∧ fr 5 = .pointer (some ⟨q5, 0, none⟩) ∧ fr 6 = .int .i64 k) (x.1[i]).2.2.1.length ⟨0, _, _, by omega, by omega, by rw [List.take_zero, List.flatMap_nil, List.append_nil]; exact l.perm (List.Perm.swap ..), h1, h3, h4, by rfl, by rfl⟩ ?_
    clear l k0 hcl h1 h3 h4
    rintro d fr V ⟨k, fp, w, hk, rfl, l, h1, h3, h4, h5, h6⟩
    have m0 := l.cell (i := 1) rfl (o := 0) rfl rfl
    have m1 := l.cell (i := 1) rfl (o := 1) rfl rfl
    have m2 := l.cell (i := 1) rfl (o := 2) rfl rfl
    have k0 := l.cell (i := 2) rfl (o := 0) rfl rfl
    have kp : V.part ⟨q, 0, none⟩ 2 = some _ := l.part (i := 2) rfl rfl
    simp (disch := omega) only [↓stp, vls, inf, frs, mark_eq, ↓reduceIte, Nat.reduceEqDiff, ite_tt, ite_ff, eq_self, and_true, true_and, and_self, implies_true, Bool.true_eq_false, Bool.false_eq_true, decide_true, decide_false, decide_eq_true_eq, decide_eq_false_iff_not, ne_eq, not_true_eq_false, not_false_eq_true, Bool.not_eq_true', Bool.not_eq_false', beq_self_eq_true, Bool.not_true, Bool.not_false, List.getElem?_toArray, List.getElem?_cons_zero, List.getElem?_cons_succ, h1, h3, h4, h5, h6, add_at, m2]
    refine ⟨fun e1 => ?_, fun e1 => ?_⟩
    · have hltk : k < (x.1[i]).2.2.1.length := by omega
      obtain ⟨ad2, rfl, kk, zk⟩ := (f2.mono l.ext).str hltk
      have hlen : (out0 ++ ((x.1[i]).2.2.1.take k).flatMap (prNeed x.1 x.1[i])).length ≤ 34 := by
        have := flatMap_le (prNeed_len x.1 x.1[i]) ((x.1[i]).2.2.1.take k)
        rw [List.length_take] at this
        rw [List.length_append]
        omega
      have hst := flatMap_take (prNeed x.1 x.1[i]) hltk
      simp (disch := omega) only [↓stp, vls, inf, frs, mark_eq, ↓reduceIte, Nat.reduceEqDiff, ite_tt, ite_ff, eq_self, and_true, true_and, and_self, implies_true, Bool.true_eq_false, Bool.false_eq_true, decide_true, decide_false, decide_eq_true_eq, decide_eq_false_iff_not, ne_eq, not_true_eq_false, not_false_eq_true, Bool.not_eq_true', Bool.not_eq_false', beq_self_eq_true, Bool.not_true, Bool.not_false, List.getElem?_toArray, List.getElem?_cons_zero, List.getElem?_cons_succ, h1, h3, h4, h5, h6]
      refine adraw_items [.q 0, .l 1 false, .q 2, .l 3 false, .q 4, .q 5, .l 6 false, .c 7 [], .q 8] (by kernel_rfl) (by kernel_rfl) ?_
      simp (disch := omega) only [↓stp, ↓pln, plv, nilOk, Nat.reduceBEq, Bool.or_false, Bool.or_true, Bool.false_or, Bool.true_or, vls, inf, frs, mark_eq, ↓reduceIte, Nat.reduceEqDiff, ite_tt, ite_ff, eq_self, and_true, true_and, and_self, implies_true, Bool.true_eq_false, Bool.false_eq_true, decide_true, decide_false, decide_eq_true_eq, decide_eq_false_iff_not, ne_eq, not_true_eq_false, not_false_eq_true, Bool.not_eq_true', Bool.not_eq_false', beq_self_eq_true, Bool.not_true, Bool.not_false, List.getElem?_toArray, List.getElem?_cons_zero, List.getElem?_cons_succ, h1, h3, h4, h5, h6, add_at, k0, m2, kk]
      refine (spec_fixtureAt_c V _ x.1 _ (g0.mono l.ext)).mono ?_
      rintro _ V ⟨rfl, rfl⟩
      simp (disch := omega) only [↓stp, ↓pln, plv, nilOk, Nat.reduceBEq, Bool.or_false, Bool.or_true, Bool.false_or, Bool.true_or, vls, inf, frs, mark_eq, ↓reduceIte, Nat.reduceEqDiff, ite_tt, ite_ff, eq_self, and_true, true_and, and_self, implies_true, Bool.true_eq_false, Bool.false_eq_true, decide_true, decide_false, decide_eq_true_eq, decide_eq_false_iff_not, ne_eq, not_true_eq_false, not_false_eq_true, Bool.not_eq_true', Bool.not_eq_false', beq_self_eq_true, Bool.not_true, Bool.not_false, List.getElem?_toArray, List.getElem?_cons_zero, List.getElem?_cons_succ, h1, h3, h4, h5, h6, add_at, k0, m2, kk]
      refine ⟨fun e2 => ?_, fun e2 => ?_⟩ <;> simp (disch := omega) only [↓stp, vls, inf, frs, mark_eq, ↓reduceIte, Nat.reduceEqDiff, ite_tt, ite_ff, eq_self, and_true, true_and, and_self, implies_true, Bool.true_eq_false, Bool.false_eq_true, decide_true, decide_false, decide_eq_true_eq, decide_eq_false_iff_not, ne_eq, not_true_eq_false, not_false_eq_true, Bool.not_eq_true', Bool.not_eq_false', beq_self_eq_true, Bool.not_true, Bool.not_false, List.getElem?_toArray, List.getElem?_cons_zero, List.getElem?_cons_succ, h1, h3, h4, h5, h6]
      · refine adraw_items [.q 0, .q 1, .l 2 false, .q 3, .l 4 false, .q 5, .q 6, .l 7 false, .q 8, .c 9 [], .c 10 [], .q 11] (by kernel_rfl) (by kernel_rfl) ?_
        simp (disch := omega) only [↓stp, ↓pln, plv, nilOk, Nat.reduceBEq, Bool.or_false, Bool.or_true, Bool.false_or, Bool.true_or, vls, inf, frs, mark_eq, ↓reduceIte, Nat.reduceEqDiff, ite_tt, ite_ff, eq_self, and_true, true_and, and_self, implies_true, Bool.true_eq_false, Bool.false_eq_true, decide_true, decide_false, decide_eq_true_eq, decide_eq_false_iff_not, ne_eq, not_true_eq_false, not_false_eq_true, Bool.not_eq_true', Bool.not_eq_false', beq_self_eq_true, Bool.not_true, Bool.not_false, List.getElem?_toArray, List.getElem?_cons_zero, List.getElem?_cons_succ, h1, h3, h4, h5, h6, add_at, m0, m2, kk]
        refine led_lit li101 (by omega) rfl (fun p hp => by rcases List.mem_singleton.1 hp with rfl; exact ⟨rfl, rfl⟩) l fun bl V3 he3 l => ?_
        have m0 := l.cell (i := 2) rfl (o := 0) rfl rfl
        have m2 := l.cell (i := 2) rfl (o := 2) rfl rfl
        have kk := he3.cell kk
        simp (disch := omega) only [↓stp, ↓pln, plv, nilOk, Nat.reduceBEq, Bool.or_false, Bool.or_true, Bool.false_or, Bool.true_or, vls, inf, frs, mark_eq, ↓reduceIte, Nat.reduceEqDiff, ite_tt, ite_ff, eq_self, and_true, true_and, and_self, implies_true, Bool.true_eq_false, Bool.false_eq_true, decide_true, decide_false, decide_eq_true_eq, decide_eq_false_iff_not, ne_eq, not_true_eq_false, not_false_eq_true, Bool.not_eq_true', Bool.not_eq_false', beq_self_eq_true, Bool.not_true, Bool.not_false, List.getElem?_toArray, List.getElem?_cons_zero, List.getElem?_cons_succ, h1, h3, h4, h5, h6, add_at, m0, m2, kk, false_implies]
        refine led_app (O := problemO) ap101_101 (by decide) l (i := 1) rfl (l.src1 (S := problemS) (j := 0) rfl (problemS_mk (x := (0, (x.1[i]).1, (x.1[i]).2.2.1[k], ())) (show (-9223372036854775808 : Int) ≤ 0 ∧ (0 : Int) < 9223372036854775808 from ⟨by decide, by decide⟩) z1 zk)) (by rw [List.length_singleton]; omega) fun fp2 w2 V4 _ l => ?_
        have m0 := l.cell (i := 2) rfl (o := 0) rfl rfl
        have m2 := l.cell (i := 2) rfl (o := 2) rfl rfl
        obtain ⟨_, hq, kk, _⟩ := (f2.mono l.ext).str hltk
        obtain rfl := Option.some.inj hq
        simp (disch := omega) only [↓stp, ↓pln, plv, nilOk, Nat.reduceBEq, Bool.or_false, Bool.or_true, Bool.false_or, Bool.true_or, vls, inf, frs, mark_eq, ↓reduceIte, Nat.reduceEqDiff, ite_tt, ite_ff, eq_self, and_true, true_and, and_self, implies_true, Bool.true_eq_false, Bool.false_eq_true, decide_true, decide_false, decide_eq_true_eq, decide_eq_false_iff_not, ne_eq, not_true_eq_false, not_false_eq_true, Bool.not_eq_true', Bool.not_eq_false', beq_self_eq_true, Bool.not_true, Bool.not_false, List.getElem?_toArray, List.getElem?_cons_zero, List.getElem?_cons_succ, h1, h3, h4, h5, h6, add_at, m0, m2, kk, false_implies]
        have l2 : Led A [osl 121 problemO fp2 w2 (out0 ++ ((x.1[i]).2.2.1.take (k + 1)).flatMap (prNeed x.1 x.1[i])), bx q5 ⟨75, [.string (x.1[i]).1, .int .i64 (x.1[i]).2.1, .slice (some ad2) (x.1[i]).2.2.1.length c2, .bool (x.1[i]).2.2.2.1], 4, true⟩, bx q ⟨41, [.slice (some ad) x.1.length c0, .slice a1 x.2.1.length c1], 2, true⟩] V4 := by
          rw [hst, ← List.append_assoc]
          rw [show prNeed x.1 x.1[i] (x.1[i]).2.2.1[k] = [(0, (x.1[i]).1, (x.1[i]).2.2.1[k], ())] by unfold prNeed; rw [if_pos e2]]
          exact l.tail
        exact ⟨_, by omega, k + 1, _, _, by omega, rfl, l2, rfl, rfl⟩
      · obtain ⟨j, hj, hjl, _, hsc, _⟩ := scope_idx (fs := x.1) (a := (x.1[i]).2.2.1[k]) (by omega)
        obtain ⟨ad3, u3, hq, hcl3, _⟩ := g0.fixture hjl
        obtain rfl := Option.some.inj hq
        have s1 := View.part_cell (l.ext.part hcl3) (j := 1) rfl
        rw [hj]
        refine adraw_items [.q 0, .l 1 false, .q 2, .q 3, .q 4, .l 5 false, .q 6, .l 7 false, .q 8, .q 9] (by kernel_rfl) (by kernel_rfl) ?_
        simp (disch := omega) only [↓stp, ↓pln, plv, nilOk, Nat.reduceBEq, Bool.or_false, Bool.or_true, Bool.false_or, Bool.true_or, vls, inf, frs, mark_eq, ↓reduceIte, Nat.reduceEqDiff, ite_tt, ite_ff, eq_self, and_true, true_and, and_self, implies_true, Bool.true_eq_false, Bool.false_eq_true, decide_true, decide_false, decide_eq_true_eq, decide_eq_false_iff_not, ne_eq, not_true_eq_false, not_false_eq_true, Bool.not_eq_true', Bool.not_eq_false', beq_self_eq_true, Bool.not_true, Bool.not_false, List.getElem?_toArray, List.getElem?_cons_zero, List.getElem?_cons_succ, h1, h3, h4, h5, h6, add_at, k0, m1, s1]
        refine ⟨fun e3 => ?_, fun e3 => ?_⟩ <;> simp (disch := omega) only [↓stp, vls, inf, frs, mark_eq, ↓reduceIte, Nat.reduceEqDiff, ite_tt, ite_ff, eq_self, and_true, true_and, and_self, implies_true, Bool.true_eq_false, Bool.false_eq_true, decide_true, decide_false, decide_eq_true_eq, decide_eq_false_iff_not, ne_eq, not_true_eq_false, not_false_eq_true, Bool.not_eq_true', Bool.not_eq_false', beq_self_eq_true, Bool.not_true, Bool.not_false, List.getElem?_toArray, List.getElem?_cons_zero, List.getElem?_cons_succ, h1, h3, h4, h5, h6]
        · refine adraw_items [.q 0, .q 1, .l 2 false, .q 3, .l 4 false, .q 5, .q 6, .l 7 false, .q 8, .c 9 [], .c 10 [], .q 11] (by kernel_rfl) (by kernel_rfl) ?_
          simp (disch := omega) only [↓stp, ↓pln, plv, nilOk, Nat.reduceBEq, Bool.or_false, Bool.or_true, Bool.false_or, Bool.true_or, vls, inf, frs, mark_eq, ↓reduceIte, Nat.reduceEqDiff, ite_tt, ite_ff, eq_self, and_true, true_and, and_self, implies_true, Bool.true_eq_false, Bool.false_eq_true, decide_true, decide_false, decide_eq_true_eq, decide_eq_false_iff_not, ne_eq, not_true_eq_false, not_false_eq_true, Bool.not_eq_true', Bool.not_eq_false', beq_self_eq_true, Bool.not_true, Bool.not_false, List.getElem?_toArray, List.getElem?_cons_zero, List.getElem?_cons_succ, h1, h3, h4, h5, h6, add_at, m0, m2, kk]
          refine led_lit li101 (by omega) rfl (fun p hp => by rcases List.mem_singleton.1 hp with rfl; exact ⟨rfl, rfl⟩) l fun bl V3 he3 l => ?_
          have m0 := l.cell (i := 2) rfl (o := 0) rfl rfl
          have m2 := l.cell (i := 2) rfl (o := 2) rfl rfl
          have kk := he3.cell kk
          simp (disch := omega) only [↓stp, ↓pln, plv, nilOk, Nat.reduceBEq, Bool.or_false, Bool.or_true, Bool.false_or, Bool.true_or, vls, inf, frs, mark_eq, ↓reduceIte, Nat.reduceEqDiff, ite_tt, ite_ff, eq_self, and_true, true_and, and_self, implies_true, Bool.true_eq_false, Bool.false_eq_true, decide_true, decide_false, decide_eq_true_eq, decide_eq_false_iff_not, ne_eq, not_true_eq_false, not_false_eq_true, Bool.not_eq_true', Bool.not_eq_false', beq_self_eq_true, Bool.not_true, Bool.not_false, List.getElem?_toArray, List.getElem?_cons_zero, List.getElem?_cons_succ, h1, h3, h4, h5, h6, add_at, m0, m2, kk, false_implies]
          refine led_app (O := problemO) ap101_101 (by decide) l (i := 1) rfl (l.src1 (S := problemS) (j := 0) rfl (problemS_mk (x := (1, (x.1[i]).1, (x.1[i]).2.2.1[k], ())) (show (-9223372036854775808 : Int) ≤ 1 ∧ (1 : Int) < 9223372036854775808 from ⟨by decide, by decide⟩) z1 zk)) (by rw [List.length_singleton]; omega) fun fp2 w2 V4 _ l => ?_
          have m0 := l.cell (i := 2) rfl (o := 0) rfl rfl
          have m2 := l.cell (i := 2) rfl (o := 2) rfl rfl
          obtain ⟨_, hq, kk, _⟩ := (f2.mono l.ext).str hltk
          obtain rfl := Option.some.inj hq
          simp (disch := omega) only [↓stp, ↓pln, plv, nilOk, Nat.reduceBEq, Bool.or_false, Bool.or_true, Bool.false_or, Bool.true_or, vls, inf, frs, mark_eq, ↓reduceIte, Nat.reduceEqDiff, ite_tt, ite_ff, eq_self, and_true, true_and, and_self, implies_true, Bool.true_eq_false, Bool.false_eq_true, decide_true, decide_false, decide_eq_true_eq, decide_eq_false_iff_not, ne_eq, not_true_eq_false, not_false_eq_true, Bool.not_eq_true', Bool.not_eq_false', beq_self_eq_true, Bool.not_true, Bool.not_false, List.getElem?_toArray, List.getElem?_cons_zero, List.getElem?_cons_succ, h1, h3, h4, h5, h6, add_at, m0, m2, kk, false_implies]
          have l2 : Led A [osl 121 problemO fp2 w2 (out0 ++ ((x.1[i]).2.2.1.take (k + 1)).flatMap (prNeed x.1 x.1[i])), bx q5 ⟨75, [.string (x.1[i]).1, .int .i64 (x.1[i]).2.1, .slice (some ad2) (x.1[i]).2.2.1.length c2, .bool (x.1[i]).2.2.2.1], 4, true⟩, bx q ⟨41, [.slice (some ad) x.1.length c0, .slice a1 x.2.1.length c1], 2, true⟩] V4 := by
            rw [hst, ← List.append_assoc]
            rw [show prNeed x.1 x.1[i] (x.1[i]).2.2.1[k] = [(1, (x.1[i]).1, (x.1[i]).2.2.1[k], ())] by unfold prNeed; rw [if_neg (by omega), hsc, if_pos e3]]
            exact l.tail
          exact ⟨_, by omega, k + 1, _, _, by omega, rfl, l2, rfl, rfl⟩
        · have l2 : Led A [osl 121 problemO fp w (out0 ++ ((x.1[i]).2.2.1.take (k + 1)).flatMap (prNeed x.1 x.1[i])), bx q5 ⟨75, [.string (x.1[i]).1, .int .i64 (x.1[i]).2.1, .slice (some ad2) (x.1[i]).2.2.1.length c2, .bool (x.1[i]).2.2.2.1], 4, true⟩, bx q ⟨41, [.slice (some ad) x.1.length c0, .slice a1 x.2.1.length c1], 2, true⟩] V := by
            rw [hst, ← List.append_assoc]
            rw [show prNeed x.1 x.1[i] (x.1[i]).2.2.1[k] = [] by unfold prNeed; rw [if_neg (by omega), hsc, if_neg e3], List.append_nil]
            exact l
          exact ⟨_, by omega, k + 1, _, _, by omega, rfl, l2, rfl, rfl⟩
    · have hFi : hasF x.1 (x.1[i]).1 := List.mem_map.2 ⟨_, List.getElem_mem hlt, rfl⟩
      simp (disch := omega) only [↓stp, vls, inf, frs, mark_eq, ↓reduceIte, Nat.reduceEqDiff, ite_tt, ite_ff, eq_self, and_true, true_and, and_self, implies_true, Bool.true_eq_false, Bool.false_eq_true, decide_true, decide_false, decide_eq_true_eq, decide_eq_false_iff_not, ne_eq, not_true_eq_false, not_false_eq_true, Bool.not_eq_true', Bool.not_eq_false', beq_self_eq_true, Bool.not_true, Bool.not_false, List.getElem?_toArray, List.getElem?_cons_zero, List.getElem?_cons_succ, h1, h3, h4, h5, h6, add_at, m0, kp]
      rw [List.take_of_length_le (by omega)] at l
      have hout2 : (out0 ++ (x.1[i]).2.2.1.flatMap (prNeed x.1 x.1[i])).length ≤ 34 := by
        have := flatMap_le (prNeed_len x.1 x.1[i]) (x.1[i]).2.2.1
        rw [List.length_append]
        omega
      have hfx : prFix x.1 x.1[i] = (x.1[i]).2.2.1.flatMap (prNeed x.1 x.1[i]) ++ (if circB x.1 (x.1[i]).1 then [(2, (x.1[i]).1, (x.1[i]).1, ())] else []) := rfl
      generalize (x.1[i]).2.2.1.flatMap (prNeed x.1 x.1[i]) = out1 at l hout2 hfx
      refine (spec_circular_c V _ x _ (suiteS_mk (g0.mono l.ext) (g1.mono l.ext)) (by omega) z1 hFi).mono ?_
      rintro _ V2 ⟨rfl, he2⟩
      replace l := l.step he2
      have m0 := l.cell (i := 1) rfl (o := 0) rfl rfl
      simp (disch := omega) only [↓stp, vls, inf, frs, mark_eq, ↓reduceIte, Nat.reduceEqDiff, ite_tt, ite_ff, eq_self, and_true, true_and, and_self, implies_true, Bool.true_eq_false, Bool.false_eq_true, decide_true, decide_false, decide_eq_true_eq, decide_eq_false_iff_not, ne_eq, not_true_eq_false, not_false_eq_true, Bool.not_eq_true', Bool.not_eq_false', beq_self_eq_true, Bool.not_true, Bool.not_false, List.getElem?_toArray, List.getElem?_cons_zero, List.getElem?_cons_succ, h1, h3, h4, h5, h6]
      refine ⟨fun e3 => ?_, fun e3 => ?_⟩ <;> simp (disch := omega) only [↓stp, vls, inf, frs, mark_eq, ↓reduceIte, Nat.reduceEqDiff, ite_tt, ite_ff, eq_self, and_true, true_and, and_self, implies_true, Bool.true_eq_false, Bool.false_eq_true, decide_true, decide_false, decide_eq_true_eq, decide_eq_false_iff_not, ne_eq, not_true_eq_false, not_false_eq_true, Bool.not_eq_true', Bool.not_eq_false', beq_self_eq_true, Bool.not_true, Bool.not_false, List.getElem?_toArray, List.getElem?_cons_zero, List.getElem?_cons_succ, h1, h3, h4, h5, h6, add_at, m0]
      · refine led_lit li101 (by omega) rfl (fun p hp => by rcases List.mem_singleton.1 hp with rfl; exact ⟨rfl, rfl⟩) l fun bl V3 _ l => ?_
        simp (disch := omega) only [↓stp, vls, inf, frs, mark_eq, ↓reduceIte, Nat.reduceEqDiff, ite_tt, ite_ff, eq_self, and_true, true_and, and_self, implies_true, Bool.true_eq_false, Bool.false_eq_true, decide_true, decide_false, decide_eq_true_eq, decide_eq_false_iff_not, ne_eq, not_true_eq_false, not_false_eq_true, Bool.not_eq_true', Bool.not_eq_false', beq_self_eq_true, Bool.not_true, Bool.not_false, List.getElem?_toArray, List.getElem?_cons_zero, List.getElem?_cons_succ, h1, h3, h4, h5, h6]
        refine led_app (O := problemO) ap101_101 (by decide) l (i := 1) rfl (l.src1 (S := problemS) (j := 0) rfl (problemS_mk (x := (2, (x.1[i]).1, (x.1[i]).1, ())) (show (-9223372036854775808 : Int) ≤ 2 ∧ (2 : Int) < 9223372036854775808 from ⟨by decide, by decide⟩) z1 z1)) (by rw [List.length_singleton]; omega) fun fp2 w2 V4 _ l => ?_
        simp (disch := omega) only [↓stp, vls, inf, frs, mark_eq, ↓reduceIte, Nat.reduceEqDiff, ite_tt, ite_ff, eq_self, and_true, true_and, and_self, implies_true, Bool.true_eq_false, Bool.false_eq_true, decide_true, decide_false, decide_eq_true_eq, decide_eq_false_iff_not, ne_eq, not_true_eq_false, not_false_eq_true, Bool.not_eq_true', Bool.not_eq_false', beq_self_eq_true, Bool.not_true, Bool.not_false, List.getElem?_toArray, List.getElem?_cons_zero, List.getElem?_cons_succ, h1, h3, h4, h5, h6]
        have l2 : Led A [osl 121 problemO fp2 w2 ((x.1.take (i + 1)).flatMap (prFix x.1)), bx q ⟨41, [.slice (some ad) x.1.length c0, .slice a1 x.2.1.length c1], 2, true⟩] V4 := by
          rw [hft, hfx, if_pos e3, ← List.append_assoc]
          exact l.sub (.cons _ (.cons_cons _ (.cons _ (List.Sublist.refl _))))
        exact ⟨_, by omega, i + 1, _, _, by omega, rfl, l2, rfl, rfl⟩
      · have l2 : Led A [osl 121 problemO fp w ((x.1.take (i + 1)).flatMap (prFix x.1)), bx q ⟨41, [.slice (some ad) x.1.length c0, .slice a1 x.2.1.length c1], 2, true⟩] V2 := by
          rw [hft, hfx, if_neg (by rw [e3]; exact Bool.false_ne_true), List.append_nil]
          exact l.sub (.cons_cons _ (.cons _ (List.Sublist.refl _)))
        exact ⟨_, by omega, i + 1, _, _, by omega, rfl, l2, rfl, rfl⟩
  · rw [List.take_of_length_le (by omega)] at l
    have hoF : (x.1.flatMap (prFix x.1)).length ≤ 30 := by
      have := flatMap_le' (f := prFix x.1) (m := 5) x.1 fun f hf => prFix_len (hF.fs f hf).1
      omega
    have hpr : probR x = x.1.flatMap (prFix x.1) ++ x.2.1.flatMap (prTest x.1) := rfl
    generalize x.1.flatMap (prFix x.1) = out0 at l hoF hpr
    simp (disch := omega) only [↓stp, vls, inf, frs, mark_eq, ↓reduceIte, Nat.reduceEqDiff, ite_tt, ite_ff, eq_self, and_true, true_and, and_self, implies_true, Bool.true_eq_false, Bool.false_eq_true, decide_true, decide_false, decide_eq_true_eq, decide_eq_false_iff_not, ne_eq, not_true_eq_false, not_false_eq_true, Bool.not_eq_true', Bool.not_eq_false', beq_self_eq_true, Bool.not_true, Bool.not_false, List.getElem?_toArray, List.getElem?_cons_zero, List.getElem?_cons_succ, h1, h3, h4]
    refine aloop (fun d fr V => ∃ (j : Nat) (fp : List Nat) (w : Value), j ≤ x.2.1.length ∧ d = x.2.1.length - j ∧ Led A [osl 121 problemO fp w (out0 ++ (x.2.1.take j).flatMap (prTest x.1)), bx q ⟨41, [.slice a0 x.1.length c0, .slice a1 x.2.1.length c1], 2, true⟩] V ∧ fr 1 = .pointer (some ⟨q, 0, none⟩) ∧ fr 3 = w ∧ fr 8 = .int .i64 j) x.2.1.length ⟨0, _, _, by omega, by omega, by rw [List.take_zero, List.flatMap_nil, List.append_nil]; exact l, h1, h3, by rfl⟩ ?_
    clear l k0 h1 h3 h4
    rintro d fr V ⟨j, fp, w, hj, rfl, l, h1, h3, h8⟩
    have k0 := l.cell (i := 1) rfl (o := 0) rfl rfl
    have k1 := l.cell (i := 1) rfl (o := 1) rfl rfl
    simp (disch := omega) only [↓stp, vls, inf, frs, mark_eq, ↓reduceIte, Nat.reduceEqDiff, ite_tt, ite_ff, eq_self, and_true, true_and, and_self, implies_true, Bool.true_eq_false, Bool.false_eq_true, decide_true, decide_false, decide_eq_true_eq, decide_eq_false_iff_not, ne_eq, not_true_eq_false, not_false_eq_true, Bool.not_eq_true', Bool.not_eq_false', beq_self_eq_true, Bool.not_true, Bool.not_false, List.getElem?_toArray, List.getElem?_cons_zero, List.getElem?_cons_succ, h1, h3, h8, add_at, k1]
    refine ⟨fun e1 => ?_, fun e1 => ?_⟩
    · have hlt : j < x.2.1.length := by omega
      have hout : (out0 ++ (x.2.1.take j).flatMap (prTest x.1)).length ≤ 70 := by
        have := flatMap_le' (f := prTest x.1) (m := 4) (x.2.1.take j) fun f hf => prTest_len (hF.ts f (List.mem_of_mem_take hf)).2
        rw [List.length_take] at this
        rw [List.length_append]
        omega
      have hft := flatMap_take (prTest x.1) hlt
      obtain ⟨ad, u2, u3, rfl, hclA, z1, z2, f2, f3⟩ := g1.test hlt
      obtain ⟨a2, c2, rfl, _, _⟩ := f2.slice
      obtain ⟨a3, c3, rfl, _, _⟩ := f3.slice
      have hff := hF.ts _ (List.getElem_mem hlt)
      have hcl := View.part_cell (l.ext.part hclA) (j := 3) rfl
      simp (disch := omega) only [↓stp, vls, inf, frs, mark_eq, ↓reduceIte, Nat.reduceEqDiff, ite_tt, ite_ff, eq_self, and_true, true_and, and_self, implies_true, Bool.true_eq_false, Bool.false_eq_true, decide_true, decide_false, decide_eq_true_eq, decide_eq_false_iff_not, ne_eq, not_true_eq_false, not_false_eq_true, Bool.not_eq_true', Bool.not_eq_false', beq_self_eq_true, Bool.not_true, Bool.not_false, List.getElem?_toArray, List.getElem?_cons_zero, List.getElem?_cons_succ, h1, h3, h8, add_at, k1, hcl]
      generalize (x.2.1.take j).flatMap (prTest x.1) = out1 at l hout hft
      refine aloop (fun d fr V => ∃ (k : Nat) (fp : List Nat) (w : Value), k ≤ (x.2.1[j]).2.2.2.1.length ∧ d = (x.2.1[j]).2.2.2.1.length - k ∧ Led A [osl 121 problemO fp w (out0 ++ out1 ++ ((x.2.1[j]).2.2.2.1.take k).flatMap (prTestN x.1 x.2.1[j])), bx q ⟨41, [.slice a0 x.1.length c0, .slice (some ad) x.2.1.length c1], 2, true⟩] V ∧ fr 1 = .pointer (some ⟨q, 0, none⟩) ∧ fr 3 = w ∧ fr 8 = .int .i64 j ∧ fr 9 = .slice a3 (x.2.1[j]).2.2.2.1.length c3 ∧ fr 10 = .int .i64 k) (x.2.1[j]).2.2.2.1.length ⟨0, _, _, by omega, by omega, by rw [List.take_zero, List.flatMap_nil, List.append_nil]; exact l, h1, h3, h8, by rfl, by rfl⟩ ?_
      clear l k0 k1 hcl h1 h3 h8
      rintro d fr V ⟨k, fp, w, hk, rfl, l, h1, h3, h8, h9, h10⟩
      have k0 := l.cell (i := 1) rfl (o := 0) rfl rfl
      have k1 := l.cell (i := 1) rfl (o := 1) rfl rfl
      simp (disch := omega) only [↓stp, vls, inf, frs, mark_eq, ↓reduceIte, Nat.reduceEqDiff, ite_tt, ite_ff, eq_self, and_true, true_and, and_self, implies_true, Bool.true_eq_false, Bool.false_eq_true, decide_true, decide_false, decide_eq_true_eq, decide_eq_false_iff_not, ne_eq, not_true_eq_false, not_false_eq_true, Bool.not_eq_true', Bool.not_eq_false', beq_self_eq_true, Bool.not_true, Bool.not_false, List.getElem?_toArray, List.getElem?_cons_zero, List.getElem?_cons_succ, h1, h3, h8, h9, h10]
      refine ⟨fun e2 => ?_, fun e2 => ?_⟩
      · have hltk : k < (x.2.1[j]).2.2.2.1.length := by omega
        obtain ⟨ad2, rfl, kk, zk⟩ := (f3.mono l.ext).str hltk
        have hlen : (out0 ++ out1 ++ ((x.2.1[j]).2.2.2.1.take k).flatMap (prTestN x.1 x.2.1[j])).length ≤ 74 := by
          have := flatMap_le (prTestN_len x.1 x.2.1[j]) ((x.2.1[j]).2.2.2.1.take k)
          rw [List.length_take] at this
          rw [List.length_append]
          omega
        have hst := flatMap_take (prTestN x.1 x.2.1[j]) hltk
        simp (disch := omega) only [↓stp, vls, inf, frs, mark_eq, ↓reduceIte, Nat.reduceEqDiff, ite_tt, ite_ff, eq_self, and_true, true_and, and_self, implies_true, Bool.true_eq_false, Bool.false_eq_true, decide_true, decide_false, decide_eq_true_eq, decide_eq_false_iff_not, ne_eq, not_true_eq_false, not_false_eq_true, Bool.not_eq_true', Bool.not_eq_false', beq_self_eq_true, Bool.not_true, Bool.not_false, List.getElem?_toArray, List.getElem?_cons_zero, List.getElem?_cons_succ, h1, h3, h8, h9, h10]
        refine adraw_items [.q 0, .l 1 false, .q 2, .q 3, .q 4, .l 5 false, .c 6 [], .q 7] (by kernel_rfl) (by kernel_rfl) ?_
        simp (disch := omega) only [↓stp, ↓pln, plv, nilOk, Nat.reduceBEq, Bool.or_false, Bool.or_true, Bool.false_or, Bool.true_or, vls, inf, frs, mark_eq, ↓reduceIte, Nat.reduceEqDiff, ite_tt, ite_ff, eq_self, and_true, true_and, and_self, implies_true, Bool.true_eq_false, Bool.false_eq_true, decide_true, decide_false, decide_eq_true_eq, decide_eq_false_iff_not, ne_eq, not_true_eq_false, not_false_eq_true, Bool.not_eq_true', Bool.not_eq_false', beq_self_eq_true, Bool.not_true, Bool.not_false, List.getElem?_toArray, List.getElem?_cons_zero, List.getElem?_cons_succ, h1, h3, h8, h9, h10, add_at, k0, kk]
        refine (spec_fixtureAt_c V _ x.1 _ (g0.mono l.ext)).mono ?_
        rintro _ V ⟨rfl, rfl⟩
        simp (disch := omega) only [↓stp, ↓pln, plv, nilOk, Nat.reduceBEq, Bool.or_false, Bool.or_true, Bool.false_or, Bool.true_or, vls, inf, frs, mark_eq, ↓reduceIte, Nat.reduceEqDiff, ite_tt, ite_ff, eq_self, and_true, true_and, and_self, implies_true, Bool.true_eq_false, Bool.false_eq_true, decide_true, decide_false, decide_eq_true_eq, decide_eq_false_iff_not, ne_eq, not_true_eq_false, not_false_eq_true, Bool.not_eq_true', Bool.not_eq_false', beq_self_eq_true, Bool.not_true, Bool.not_false, List.getElem?_toArray, List.getElem?_cons_zero, List.getElem?_cons_succ, h1, h3, h8, h9, h10, add_at, k0, kk]
        refine ⟨fun e3 => ?_, fun e3 => ?_⟩ <;> simp (disch := omega) only [↓stp, vls, inf, frs, mark_eq, ↓reduceIte, Nat.reduceEqDiff, ite_tt, ite_ff, eq_self, and_true, true_and, and_self, implies_true, Bool.true_eq_false, Bool.false_eq_true, decide_true, decide_false, decide_eq_true_eq, decide_eq_false_iff_not, ne_eq, not_true_eq_false, not_false_eq_true, Bool.not_eq_true', Bool.not_eq_false', beq_self_eq_true, Bool.not_true, Bool.not_false, List.getElem?_toArray, List.getElem?_cons_zero, List.getElem?_cons_succ, h1, h3, h8, h9, h10]
        · have ktt := l.ext.part hclA
          refine adraw_items [.q 0, .q 1, .l 2 false, .q 3, .q 4, .l 5 false, .q 7, .q 8, .q 9, .l 10 true, .c 6 [10], .q 11, .c 12 [], .c 13 [], .q 14] (by kernel_rfl) (by kernel_rfl) ?_
          simp (disch := omega) only [↓stp, ↓pln, plv, nilOk, Nat.reduceBEq, Bool.or_false, Bool.or_true, Bool.false_or, Bool.true_or, vls, inf, frs, mark_eq, ↓reduceIte, Nat.reduceEqDiff, ite_tt, ite_ff, eq_self, and_true, true_and, and_self, implies_true, Bool.true_eq_false, Bool.false_eq_true, decide_true, decide_false, decide_eq_true_eq, decide_eq_false_iff_not, ne_eq, not_true_eq_false, not_false_eq_true, Bool.not_eq_true', Bool.not_eq_false', beq_self_eq_true, Bool.not_true, Bool.not_false, List.getElem?_toArray, List.getElem?_cons_zero, List.getElem?_cons_succ, h1, h3, h8, h9, h10, add_at, k1, ktt, kk]
          refine (spec_idOf_c V _ x.2.1[j] (testS_mk z1 z2 (f2.mono l.ext) (f3.mono l.ext))).mono ?_
          rintro _ V2 ⟨rfl, he3⟩
          replace l := l.step he3
          have k1 := l.cell (i := 1) rfl (o := 1) rfl rfl
          have ktt := he3.part ktt
          have kk := he3.cell kk
          simp (disch := omega) only [↓stp, ↓pln, plv, nilOk, Nat.reduceBEq, Bool.or_false, Bool.or_true, Bool.false_or, Bool.true_or, vls, inf, frs, mark_eq, ↓reduceIte, Nat.reduceEqDiff, ite_tt, ite_ff, eq_self, and_true, true_and, and_self, implies_true, Bool.true_eq_false, Bool.false_eq_true, decide_true, decide_false, decide_eq_true_eq, decide_eq_false_iff_not, ne_eq, not_true_eq_false, not_false_eq_true, Bool.not_eq_true', Bool.not_eq_false', beq_self_eq_true, Bool.not_true, Bool.not_false, List.getElem?_toArray, List.getElem?_cons_zero, List.getElem?_cons_succ, h1, h3, h8, h9, h10, add_at, k1, ktt, kk]
          refine led_lit li101 (by omega) rfl (fun p hp => by rcases List.mem_singleton.1 hp with rfl; exact ⟨rfl, rfl⟩) l fun bl V3 he4 l => ?_
          have k1 := l.cell (i := 2) rfl (o := 1) rfl rfl
          have ktt := he4.part ktt
          have kk := he4.cell kk
          simp (disch := omega) only [↓stp, ↓pln, plv, nilOk, Nat.reduceBEq, Bool.or_false, Bool.or_true, Bool.false_or, Bool.true_or, vls, inf, frs, mark_eq, ↓reduceIte, Nat.reduceEqDiff, ite_tt, ite_ff, eq_self, and_true, true_and, and_self, implies_true, Bool.true_eq_false, Bool.false_eq_true, decide_true, decide_false, decide_eq_true_eq, decide_eq_false_iff_not, ne_eq, not_true_eq_false, not_false_eq_true, Bool.not_eq_true', Bool.not_eq_false', beq_self_eq_true, Bool.not_true, Bool.not_false, List.getElem?_toArray, List.getElem?_cons_zero, List.getElem?_cons_succ, h1, h3, h8, h9, h10, add_at, k1, ktt, kk, false_implies]
          refine led_app (O := problemO) ap101_101 (by decide) l (i := 1) rfl (l.src1 (S := problemS) (j := 0) rfl (problemS_mk (x := (0, idD x.2.1[j], (x.2.1[j]).2.2.2.1[k], ())) (show (-9223372036854775808 : Int) ≤ 0 ∧ (0 : Int) < 9223372036854775808 from ⟨by decide, by decide⟩) (by have := testB_id hff.1; show (idD x.2.1[j]).size ≤ _; omega) zk)) (by rw [List.length_singleton]; omega) fun fp2 w2 V4 _ l => ?_
          have k1 := l.cell (i := 2) rfl (o := 1) rfl rfl
          have ktt := l.ext.part hclA
          obtain ⟨_, hq, kk, _⟩ := (f3.mono l.ext).str hltk
          obtain rfl := Option.some.inj hq
          simp (disch := omega) only [↓stp, ↓pln, plv, nilOk, Nat.reduceBEq, Bool.or_false, Bool.or_true, Bool.false_or, Bool.true_or, vls, inf, frs, mark_eq, ↓reduceIte, Nat.reduceEqDiff, ite_tt, ite_ff, eq_self, and_true, true_and, and_self, implies_true, Bool.true_eq_false, Bool.false_eq_true, decide_true, decide_false, decide_eq_true_eq, decide_eq_false_iff_not, ne_eq, not_true_eq_false, not_false_eq_true, Bool.not_eq_true', Bool.not_eq_false', beq_self_eq_true, Bool.not_true, Bool.not_false, List.getElem?_toArray, List.getElem?_cons_zero, List.getElem?_cons_succ, h1, h3, h8, h9, h10, add_at, k1, ktt, kk, false_implies]
          have l2 : Led A [osl 121 problemO fp2 w2 (out0 ++ out1 ++ ((x.2.1[j]).2.2.2.1.take (k + 1)).flatMap (prTestN x.1 x.2.1[j])), bx q ⟨41, [.slice a0 x.1.length c0, .slice (some ad) x.2.1.length c1], 2, true⟩] V4 := by
            rw [hst, ← List.append_assoc]
            rw [show prTestN x.1 x.2.1[j] (x.2.1[j]).2.2.2.1[k] = [(0, idD x.2.1[j], (x.2.1[j]).2.2.2.1[k], ())] by unfold prTestN; rw [if_pos e3]]
            exact l.tail
          exact ⟨_, by omega, k + 1, _, _, by omega, rfl, l2, rfl, rfl⟩
        · have l2 : Led A [osl 121 problemO fp w (out0 ++ out1 ++ ((x.2.1[j]).2.2.2.1.take (k + 1)).flatMap (prTestN x.1 x.2.1[j])), bx q ⟨41, [.slice a0 x.1.length c0, .slice (some ad) x.2.1.length c1], 2, true⟩] V := by
            rw [hst, ← List.append_assoc]
            rw [show prTestN x.1 x.2.1[j] (x.2.1[j]).2.2.2.1[k] = [] by unfold prTestN; rw [if_neg (by omega)], List.append_nil]
            exact l
          exact ⟨_, by omega, k + 1, _, _, by omega, rfl, l2, rfl, rfl⟩
      · simp (disch := omega) only [↓stp, vls, inf, frs, mark_eq, ↓reduceIte, Nat.reduceEqDiff, ite_tt, ite_ff, eq_self, and_true, true_and, and_self, implies_true, Bool.true_eq_false, Bool.false_eq_true, decide_true, decide_false, decide_eq_true_eq, decide_eq_false_iff_not, ne_eq, not_true_eq_false, not_false_eq_true, Bool.not_eq_true', Bool.not_eq_false', beq_self_eq_true, Bool.not_true, Bool.not_false, List.getElem?_toArray, List.getElem?_cons_zero, List.getElem?_cons_succ, h1, h3, h8, h9, h10]
        rw [List.take_of_length_le (by omega)] at l
        have l2 : Led A [osl 121 problemO fp w (out0 ++ (x.2.1.take (j + 1)).flatMap (prTest x.1)), bx q ⟨41, [.slice a0 x.1.length c0, .slice (some ad) x.2.1.length c1], 2, true⟩] V := by
          rw [hft, ← List.append_assoc]
          exact l
        exact ⟨_, by omega, j + 1, _, _, by omega, rfl, l2, rfl, rfl⟩
    · rw [List.take_of_length_le (by omega)] at l
      rw [hpr]
      simp (disch := omega) only [↓stp, vls, inf, frs, mark_eq, ↓reduceIte, Nat.reduceEqDiff, ite_tt, ite_ff, eq_self, and_true, true_and, and_self, implies_true, Bool.true_eq_false, Bool.false_eq_true, decide_true, decide_false, decide_eq_true_eq, decide_eq_false_iff_not, ne_eq, not_true_eq_false, not_false_eq_true, Bool.not_eq_true', Bool.not_eq_false', beq_self_eq_true, Bool.not_true, Bool.not_false, List.getElem?_toArray, List.getElem?_cons_zero, List.getElem?_cons_succ, h1, h3, h8]
      exact NewSl.of l (i := 0) rfl

end Go.Proofs.Ytggklaimbklefaa
