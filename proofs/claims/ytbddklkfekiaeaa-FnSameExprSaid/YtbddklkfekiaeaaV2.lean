/- Valid tests. -/
import Derived.Test.YtbddklkfekiaeaaV1
import Derived.Test.YtbddklkfekiaeaaITest
set_option maxHeartbeats 4000000
set_option synthInstance.maxHeartbeats 400000
set_option synthInstance.maxSize 4096
set_option linter.unusedSimpArgs false
set_option linter.unusedVariables false
namespace Go.Proofs.Ytbddklkfekiaeaa

set_option maxRecDepth 100000

noncomputable def testB (x : TestD) : Bool := nmOk x.1 && nmOk x.2.1 && namesB x.2.2.1 3 && ascB x.2.2.1 && namesB x.2.2.2.1 4
/-- The id of a test. -/
def idD (x : TestD) : ByteArray := x.1 ++ ⟨#[46]⟩ ++ x.2.1
theorem idD_size (x : TestD) : (idD x).size = x.1.size + 1 + x.2.1.size := by
  unfold idD
  rw [ByteArray.size_append, ByteArray.size_append]; rfl
theorem nmOk_size {s : ByteArray} (h : nmOk s = true) : s.size ≤ 6 := by
  unfold nmOk at h
  simp only [Bool.and_eq_true, decide_eq_true_eq] at h
  omega
theorem testB_id {x : TestD} (h : testB x = true) : (idD x).size ≤ 13 := by
  unfold testB at h
  simp only [Bool.and_eq_true] at h
  have h1 := nmOk_size h.1.1.1.1
  have h2 := nmOk_size h.1.1.1.2
  rw [idD_size]
  omega
theorem namesB_nodup {xs : List ByteArray} {m : Int} (h : namesB xs m = true) : xs.Nodup := by
  unfold namesB at h
  simp only [Bool.and_eq_true, decide_eq_true_eq] at h
  exact h.1.2

theorem impl_testOk_c (A : View) (d : List Value) (x : TestD) (h : testS.rel A x d) : ACalls Try.prog 54 #[.agg d.toArray] A fun r A' => r = .bool (testB x) ∧ Ext A A' := by
  obtain ⟨u2, u3, rfl, z1, z2, g2, g3⟩ := testS_open h
  obtain ⟨a2, c2, rfl, _, _⟩ := g2.slice
  obtain ⟨a3, c3, rfl, _, _⟩ := g3.slice
  refine acalls Try.func54 rfl (by kernel_rfl) ?_
  simp (disch := omega) only [↓stp, vls, inf, frs, mark_eq, ↓reduceIte, Nat.reduceEqDiff, ite_tt, ite_ff, eq_self, and_true, true_and, and_self, implies_true, Bool.true_eq_false, Bool.false_eq_true, decide_true, decide_false, decide_eq_true_eq, decide_eq_false_iff_not, ne_eq, not_true_eq_false, not_false_eq_true, Bool.not_eq_true', Bool.not_eq_false', beq_self_eq_true, Bool.not_true, Bool.not_false, List.getElem?_toArray, List.getElem?_cons_zero, List.getElem?_cons_succ]
  refine led_box (Led.nil A) rfl fun q V he l => ?_
  have k0 := l.cell (i := 0) rfl (o := 0) rfl rfl
  have k1 := l.cell (i := 0) rfl (o := 1) rfl rfl
  have k2 := l.cell (i := 0) rfl (o := 2) rfl rfl
  have k3 := l.cell (i := 0) rfl (o := 3) rfl rfl
  simp (disch := omega) only [↓stp, vls, inf, frs, mark_eq, ↓reduceIte, Nat.reduceEqDiff, ite_tt, ite_ff, eq_self, and_true, true_and, and_self, implies_true, Bool.true_eq_false, Bool.false_eq_true, decide_true, decide_false, decide_eq_true_eq, decide_eq_false_iff_not, ne_eq, not_true_eq_false, not_false_eq_true, Bool.not_eq_true', Bool.not_eq_false', beq_self_eq_true, Bool.not_true, Bool.not_false, List.getElem?_toArray, List.getElem?_cons_zero, List.getElem?_cons_succ, add_at, k0]
  refine (impl_nameOk_c V _ z1).mono ?_
  rintro _ V ⟨rfl, rfl⟩
  simp (disch := omega) only [↓stp, vls, inf, frs, mark_eq, ↓reduceIte, Nat.reduceEqDiff, ite_tt, ite_ff, eq_self, and_true, true_and, and_self, implies_true, Bool.true_eq_false, Bool.false_eq_true, decide_true, decide_false, decide_eq_true_eq, decide_eq_false_iff_not, ne_eq, not_true_eq_false, not_false_eq_true, Bool.not_eq_true', Bool.not_eq_false', beq_self_eq_true, Bool.not_true, Bool.not_false, List.getElem?_toArray, List.getElem?_cons_zero, List.getElem?_cons_succ]
  unfold testB
  refine ⟨fun e1 => ?_, fun e1 => ?_⟩ <;> simp (disch := omega) only [↓stp, vls, inf, frs, mark_eq, ↓reduceIte, Nat.reduceEqDiff, ite_tt, ite_ff, eq_self, and_true, true_and, and_self, implies_true, Bool.true_eq_false, Bool.false_eq_true, decide_true, decide_false, decide_eq_true_eq, decide_eq_false_iff_not, ne_eq, not_true_eq_false, not_false_eq_true, Bool.not_eq_true', Bool.not_eq_false', beq_self_eq_true, Bool.not_true, Bool.not_false, List.getElem?_toArray, List.getElem?_cons_zero, List.getElem?_cons_succ, e1, add_at, k1]
  · refine (impl_nameOk_c V _ z2).mono ?_
    rintro _ V ⟨rfl, rfl⟩
    simp (disch := omega) only [↓stp, vls, inf, frs, mark_eq, ↓reduceIte, Nat.reduceEqDiff, ite_tt, ite_ff, eq_self, and_true, true_and, and_self, implies_true, Bool.true_eq_false, Bool.false_eq_true, decide_true, decide_false, decide_eq_true_eq, decide_eq_false_iff_not, ne_eq, not_true_eq_false, not_false_eq_true, Bool.not_eq_true', Bool.not_eq_false', beq_self_eq_true, Bool.not_true, Bool.not_false, List.getElem?_toArray, List.getElem?_cons_zero, List.getElem?_cons_succ, e1, Bool.true_and]
    refine ⟨fun e2 => ?_, fun e2 => ?_⟩ <;> simp (disch := omega) only [↓stp, vls, inf, frs, mark_eq, ↓reduceIte, Nat.reduceEqDiff, ite_tt, ite_ff, eq_self, and_true, true_and, and_self, implies_true, Bool.true_eq_false, Bool.false_eq_true, decide_true, decide_false, decide_eq_true_eq, decide_eq_false_iff_not, ne_eq, not_true_eq_false, not_false_eq_true, Bool.not_eq_true', Bool.not_eq_false', beq_self_eq_true, Bool.not_true, Bool.not_false, List.getElem?_toArray, List.getElem?_cons_zero, List.getElem?_cons_succ, e1, e2, add_at, k2, Bool.true_and, Bool.false_and]
    · refine (impl_namesOk_c V _ _ 3 (g2.mono he)).mono ?_
      rintro _ V ⟨rfl, rfl⟩
      simp (disch := omega) only [↓stp, vls, inf, frs, mark_eq, ↓reduceIte, Nat.reduceEqDiff, ite_tt, ite_ff, eq_self, and_true, true_and, and_self, implies_true, Bool.true_eq_false, Bool.false_eq_true, decide_true, decide_false, decide_eq_true_eq, decide_eq_false_iff_not, ne_eq, not_true_eq_false, not_false_eq_true, Bool.not_eq_true', Bool.not_eq_false', beq_self_eq_true, Bool.not_true, Bool.not_false, List.getElem?_toArray, List.getElem?_cons_zero, List.getElem?_cons_succ, e1, e2]
      refine ⟨fun e3 => ?_, fun e3 => ?_⟩ <;> simp (disch := omega) only [↓stp, vls, inf, frs, mark_eq, ↓reduceIte, Nat.reduceEqDiff, ite_tt, ite_ff, eq_self, and_true, true_and, and_self, implies_true, Bool.true_eq_false, Bool.false_eq_true, decide_true, decide_false, decide_eq_true_eq, decide_eq_false_iff_not, ne_eq, not_true_eq_false, not_false_eq_true, Bool.not_eq_true', Bool.not_eq_false', beq_self_eq_true, Bool.not_true, Bool.not_false, List.getElem?_toArray, List.getElem?_cons_zero, List.getElem?_cons_succ, e1, e2, e3, add_at, k2, Bool.true_and, Bool.false_and]
      · refine (isSorted_c V _ _ (g2.mono he)).mono ?_
        rintro _ V ⟨rfl, rfl⟩
        simp (disch := omega) only [↓stp, vls, inf, frs, mark_eq, ↓reduceIte, Nat.reduceEqDiff, ite_tt, ite_ff, eq_self, and_true, true_and, and_self, implies_true, Bool.true_eq_false, Bool.false_eq_true, decide_true, decide_false, decide_eq_true_eq, decide_eq_false_iff_not, ne_eq, not_true_eq_false, not_false_eq_true, Bool.not_eq_true', Bool.not_eq_false', beq_self_eq_true, Bool.not_true, Bool.not_false, List.getElem?_toArray, List.getElem?_cons_zero, List.getElem?_cons_succ, e1, e2, e3]
        refine ⟨fun e4 => ?_, fun e4 => ?_⟩ <;> simp (disch := omega) only [↓stp, vls, inf, frs, mark_eq, ↓reduceIte, Nat.reduceEqDiff, ite_tt, ite_ff, eq_self, and_true, true_and, and_self, implies_true, Bool.true_eq_false, Bool.false_eq_true, decide_true, decide_false, decide_eq_true_eq, decide_eq_false_iff_not, ne_eq, not_true_eq_false, not_false_eq_true, Bool.not_eq_true', Bool.not_eq_false', beq_self_eq_true, Bool.not_true, Bool.not_false, List.getElem?_toArray, List.getElem?_cons_zero, List.getElem?_cons_succ, e1, e2, e3, e4, add_at, k3, Bool.true_and, Bool.false_and]
        · refine (impl_namesOk_c V _ _ 4 (g3.mono he)).mono ?_
          rintro _ V ⟨rfl, rfl⟩
          simp (disch := omega) only [↓stp, vls, inf, frs, mark_eq, ↓reduceIte, Nat.reduceEqDiff, ite_tt, ite_ff, eq_self, and_true, true_and, and_self, implies_true, Bool.true_eq_false, Bool.false_eq_true, decide_true, decide_false, decide_eq_true_eq, decide_eq_false_iff_not, ne_eq, not_true_eq_false, not_false_eq_true, Bool.not_eq_true', Bool.not_eq_false', beq_self_eq_true, Bool.not_true, Bool.not_false, List.getElem?_toArray, List.getElem?_cons_zero, List.getElem?_cons_succ, e1, e2, e3, e4]
          exact ⟨rfl, he⟩
        · exact he
      · exact he
    · exact he
  · simp only [Bool.false_and]
    exact ⟨trivial, he⟩

theorem impl_idOf_c (A : View) (d : List Value) (x : TestD) (h : testS.rel A x d) : ACalls Try.prog 51 #[.agg d.toArray] A fun r A' => r = .string (idD x) ∧ Ext A A' := by
  obtain ⟨u2, u3, rfl, z1, z2, g2, g3⟩ := testS_open h
  obtain ⟨a2, c2, rfl, _, _⟩ := g2.slice
  obtain ⟨a3, c3, rfl, _, _⟩ := g3.slice
  refine acalls Try.func51 rfl (by kernel_rfl) ?_
  simp (disch := omega) only [↓stp, vls, inf, frs, mark_eq, ↓reduceIte, Nat.reduceEqDiff, ite_tt, ite_ff, eq_self, and_true, true_and, and_self, implies_true, Bool.true_eq_false, Bool.false_eq_true, decide_true, decide_false, decide_eq_true_eq, decide_eq_false_iff_not, ne_eq, not_true_eq_false, not_false_eq_true, Bool.not_eq_true', Bool.not_eq_false', beq_self_eq_true, Bool.not_true, Bool.not_false, List.getElem?_toArray, List.getElem?_cons_zero, List.getElem?_cons_succ]
  refine led_box (Led.nil A) rfl fun q V he l => ?_
  have k0 := l.cell (i := 0) rfl (o := 0) rfl rfl
  have k1 := l.cell (i := 0) rfl (o := 1) rfl rfl
  have hz : (x.1 ++ (⟨#[46]⟩ : ByteArray)).size = x.1.size + 1 := by rw [ByteArray.size_append]; rfl
  simp (disch := omega) only [↓stp, vls, inf, frs, mark_eq, ↓reduceIte, Nat.reduceEqDiff, ite_tt, ite_ff, eq_self, and_true, true_and, and_self, implies_true, Bool.true_eq_false, Bool.false_eq_true, decide_true, decide_false, decide_eq_true_eq, decide_eq_false_iff_not, ne_eq, not_true_eq_false, not_false_eq_true, Bool.not_eq_true', Bool.not_eq_false', beq_self_eq_true, Bool.not_true, Bool.not_false, List.getElem?_toArray, List.getElem?_cons_zero, List.getElem?_cons_succ, add_at, k0]
  rw [abin_cat _ _ _ (by show _ + 1 ≤ _; omega)]
  simp (disch := omega) only [↓stp, vls, inf, frs, mark_eq, ↓reduceIte, Nat.reduceEqDiff, ite_tt, ite_ff, eq_self, and_true, true_and, and_self, implies_true, Bool.true_eq_false, Bool.false_eq_true, decide_true, decide_false, decide_eq_true_eq, decide_eq_false_iff_not, ne_eq, not_true_eq_false, not_false_eq_true, Bool.not_eq_true', Bool.not_eq_false', beq_self_eq_true, Bool.not_true, Bool.not_false, List.getElem?_toArray, List.getElem?_cons_zero, List.getElem?_cons_succ, add_at, k1]
  exact ⟨rfl, he⟩

theorem spec_idOf_c (A : View) (d : List Value) (x : TestD) (h : testS.rel A x d) : ACalls Try.prog 53 #[.agg d.toArray] A fun r A' => r = .string (idD x) ∧ Ext A A' := by
  obtain ⟨u2, u3, rfl, z1, z2, g2, g3⟩ := testS_open h
  obtain ⟨a2, c2, rfl, _, _⟩ := g2.slice
  obtain ⟨a3, c3, rfl, _, _⟩ := g3.slice
  refine acalls Try.func53 rfl (by kernel_rfl) ?_
  simp (disch := omega) only [↓stp, vls, inf, frs, mark_eq, ↓reduceIte, Nat.reduceEqDiff, ite_tt, ite_ff, eq_self, and_true, true_and, and_self, implies_true, Bool.true_eq_false, Bool.false_eq_true, decide_true, decide_false, decide_eq_true_eq, decide_eq_false_iff_not, ne_eq, not_true_eq_false, not_false_eq_true, Bool.not_eq_true', Bool.not_eq_false', beq_self_eq_true, Bool.not_true, Bool.not_false, List.getElem?_toArray, List.getElem?_cons_zero, List.getElem?_cons_succ]
  refine led_box (Led.nil A) rfl fun q V he l => ?_
  have k0 := l.cell (i := 0) rfl (o := 0) rfl rfl
  have k1 := l.cell (i := 0) rfl (o := 1) rfl rfl
  have hz : (x.1 ++ (⟨#[46]⟩ : ByteArray)).size = x.1.size + 1 := by rw [ByteArray.size_append]; rfl
  simp (disch := omega) only [↓stp, vls, inf, frs, mark_eq, ↓reduceIte, Nat.reduceEqDiff, ite_tt, ite_ff, eq_self, and_true, true_and, and_self, implies_true, Bool.true_eq_false, Bool.false_eq_true, decide_true, decide_false, decide_eq_true_eq, decide_eq_false_iff_not, ne_eq, not_true_eq_false, not_false_eq_true, Bool.not_eq_true', Bool.not_eq_false', beq_self_eq_true, Bool.not_true, Bool.not_false, List.getElem?_toArray, List.getElem?_cons_zero, List.getElem?_cons_succ, add_at, k0]
  rw [abin_cat _ _ _ (by show _ + 1 ≤ _; omega)]
  simp (disch := omega) only [↓stp, vls, inf, frs, mark_eq, ↓reduceIte, Nat.reduceEqDiff, ite_tt, ite_ff, eq_self, and_true, true_and, and_self, implies_true, Bool.true_eq_false, Bool.false_eq_true, decide_true, decide_false, decide_eq_true_eq, decide_eq_false_iff_not, ne_eq, not_true_eq_false, not_false_eq_true, Bool.not_eq_true', Bool.not_eq_false', beq_self_eq_true, Bool.not_true, Bool.not_false, List.getElem?_toArray, List.getElem?_cons_zero, List.getElem?_cons_succ, add_at, k1]
  exact ⟨rfl, he⟩

noncomputable def testsB (xs : List TestD) : Bool := xs.all testB && decide (xs.map idD).Nodup && decide (xs.length ≤ 10)

theorem map_take2 {α β : Type} {f : α → β} {xs : List α} {i : Nat} : (xs.take i).map f = (xs.map f).take i := List.map_take

theorem spec_findTest_c (A : View) (v : Value) (xs : List TestD) (id : ByteArray) (h : Sl testS A v xs) : ACalls Try.prog 87 #[v, .string id] A fun r A' => r = .int .i64 (idxI (fun x => decide (idD x = id)) xs) ∧ Ext A A' := by
  obtain ⟨a, c, rfl, hc, hl⟩ := h.slice
  refine acalls Try.func87 rfl (by kernel_rfl) ?_
  simp (disch := omega) only [↓stp, vls, inf, frs, mark_eq, ↓reduceIte, Nat.reduceEqDiff, ite_tt, ite_ff, eq_self, and_true, true_and, and_self, implies_true, Bool.true_eq_false, Bool.false_eq_true, decide_true, decide_false, decide_eq_true_eq, decide_eq_false_iff_not, ne_eq, not_true_eq_false, not_false_eq_true, Bool.not_eq_true', Bool.not_eq_false', beq_self_eq_true, Bool.not_true, Bool.not_false, List.getElem?_toArray, List.getElem?_cons_zero, List.getElem?_cons_succ]
  refine aloop (fun d fr V => ∃ i : Nat, i ≤ xs.length ∧ d = xs.length - i ∧ Ext A V ∧ fr 0 = .slice a xs.length c ∧ fr 1 = .string id ∧ fr 5 = .int .i64 i ∧ (∀ j (hj : j < i) (hl : j < xs.length), decide (idD xs[j] = id) = false)) xs.length ⟨0, by omega, by omega, Ext.refl _, rfl, rfl, by rfl, by omega⟩ ?_
  rintro d fr V ⟨i, hi, rfl, he, h0, h1, h5, hn⟩
  simp (disch := omega) only [↓stp, vls, inf, frs, mark_eq, ↓reduceIte, Nat.reduceEqDiff, ite_tt, ite_ff, eq_self, and_true, true_and, and_self, implies_true, Bool.true_eq_false, Bool.false_eq_true, decide_true, decide_false, decide_eq_true_eq, decide_eq_false_iff_not, ne_eq, not_true_eq_false, not_false_eq_true, Bool.not_eq_true', Bool.not_eq_false', beq_self_eq_true, Bool.not_true, Bool.not_false, List.getElem?_toArray, List.getElem?_cons_zero, List.getElem?_cons_succ, h0, h1, h5]
  refine ⟨fun e => ?_, fun e => ?_⟩
  · have hlt : i < xs.length := by omega
    obtain ⟨ad, d, rfl, hd, hcl, _⟩ := (h.mono he).at hlt
    have hcl : V.part (ad.add (i * 4)) 4 = some d := hcl
    simp (disch := omega) only [↓stp, vls, inf, frs, mark_eq, ↓reduceIte, Nat.reduceEqDiff, ite_tt, ite_ff, eq_self, and_true, true_and, and_self, implies_true, Bool.true_eq_false, Bool.false_eq_true, decide_true, decide_false, decide_eq_true_eq, decide_eq_false_iff_not, ne_eq, not_true_eq_false, not_false_eq_true, Bool.not_eq_true', Bool.not_eq_false', beq_self_eq_true, Bool.not_true, Bool.not_false, List.getElem?_toArray, List.getElem?_cons_zero, List.getElem?_cons_succ, h0, h1, h5, hcl]
    refine (spec_idOf_c V d xs[i] hd).mono ?_
    rintro _ V2 ⟨rfl, he2⟩
    simp (disch := omega) only [↓stp, vls, inf, frs, mark_eq, ↓reduceIte, Nat.reduceEqDiff, ite_tt, ite_ff, eq_self, and_true, true_and, and_self, implies_true, Bool.true_eq_false, Bool.false_eq_true, decide_true, decide_false, decide_eq_true_eq, decide_eq_false_iff_not, ne_eq, not_true_eq_false, not_false_eq_true, Bool.not_eq_true', Bool.not_eq_false', beq_self_eq_true, Bool.not_true, Bool.not_false, List.getElem?_toArray, List.getElem?_cons_zero, List.getElem?_cons_succ, h0, h1, h5]
    refine ⟨fun e1 => ?_, fun e1 => ?_⟩ <;> simp (disch := omega) only [↓stp, vls, inf, frs, mark_eq, ↓reduceIte, Nat.reduceEqDiff, ite_tt, ite_ff, eq_self, and_true, true_and, and_self, implies_true, Bool.true_eq_false, Bool.false_eq_true, decide_true, decide_false, decide_eq_true_eq, decide_eq_false_iff_not, ne_eq, not_true_eq_false, not_false_eq_true, Bool.not_eq_true', Bool.not_eq_false', beq_self_eq_true, Bool.not_true, Bool.not_false, List.getElem?_toArray, List.getElem?_cons_zero, List.getElem?_cons_succ, h0, h1, h5]
    · rw [idxI_found hlt (fun j hj => hn j hj (by omega)) (decide_eq_true e1)]
      exact ⟨rfl, he.trans he2⟩
    · refine ⟨_, by omega, i + 1, by omega, rfl, he.trans he2, rfl, fun j hj hl => ?_⟩
      by_cases hji : j = i
      · subst hji; exact e1
      · exact of_decide_eq_false (hn j (by omega) hl)
  · simp (disch := omega) only [↓stp, vls, inf, frs, mark_eq, ↓reduceIte, Nat.reduceEqDiff, ite_tt, ite_ff, eq_self, and_true, true_and, and_self, implies_true, Bool.true_eq_false, Bool.false_eq_true, decide_true, decide_false, decide_eq_true_eq, decide_eq_false_iff_not, ne_eq, not_true_eq_false, not_false_eq_true, Bool.not_eq_true', Bool.not_eq_false', beq_self_eq_true, Bool.not_true, Bool.not_false, List.getElem?_toArray, List.getElem?_cons_zero, List.getElem?_cons_succ, h0, h1, h5]
    rw [idxI_none (fun j hj => hn j (by omega) hj)]
    exact ⟨rfl, he⟩

theorem spec_validTest_c (A : View) (d : List Value) (x : TestD) (h : testS.rel A x d) : ACalls Try.prog 66 #[.agg d.toArray] A fun r A' => r = .bool (testB x) ∧ Ext A A' := by
  obtain ⟨u2, u3, rfl, z1, z2, g2, g3⟩ := testS_open h
  obtain ⟨a2, c2, rfl, _, _⟩ := g2.slice
  obtain ⟨a3, c3, rfl, _, _⟩ := g3.slice
  refine acalls Try.func66 rfl (by kernel_rfl) ?_
  simp (disch := omega) only [↓stp, vls, inf, frs, mark_eq, ↓reduceIte, Nat.reduceEqDiff, ite_tt, ite_ff, eq_self, and_true, true_and, and_self, implies_true, Bool.true_eq_false, Bool.false_eq_true, decide_true, decide_false, decide_eq_true_eq, decide_eq_false_iff_not, ne_eq, not_true_eq_false, not_false_eq_true, Bool.not_eq_true', Bool.not_eq_false', beq_self_eq_true, Bool.not_true, Bool.not_false, List.getElem?_toArray, List.getElem?_cons_zero, List.getElem?_cons_succ]
  refine led_box (Led.nil A) rfl fun q V he l => ?_
  have k0 := l.cell (i := 0) rfl (o := 0) rfl rfl
  have k1 := l.cell (i := 0) rfl (o := 1) rfl rfl
  have k2 := l.cell (i := 0) rfl (o := 2) rfl rfl
  have k3 := l.cell (i := 0) rfl (o := 3) rfl rfl
  simp (disch := omega) only [↓stp, vls, inf, frs, mark_eq, ↓reduceIte, Nat.reduceEqDiff, ite_tt, ite_ff, eq_self, and_true, true_and, and_self, implies_true, Bool.true_eq_false, Bool.false_eq_true, decide_true, decide_false, decide_eq_true_eq, decide_eq_false_iff_not, ne_eq, not_true_eq_false, not_false_eq_true, Bool.not_eq_true', Bool.not_eq_false', beq_self_eq_true, Bool.not_true, Bool.not_false, List.getElem?_toArray, List.getElem?_cons_zero, List.getElem?_cons_succ, add_at, k0]
  refine (spec_validName_c V _ z1).mono ?_
  rintro _ V ⟨rfl, rfl⟩
  simp (disch := omega) only [↓stp, vls, inf, frs, mark_eq, ↓reduceIte, Nat.reduceEqDiff, ite_tt, ite_ff, eq_self, and_true, true_and, and_self, implies_true, Bool.true_eq_false, Bool.false_eq_true, decide_true, decide_false, decide_eq_true_eq, decide_eq_false_iff_not, ne_eq, not_true_eq_false, not_false_eq_true, Bool.not_eq_true', Bool.not_eq_false', beq_self_eq_true, Bool.not_true, Bool.not_false, List.getElem?_toArray, List.getElem?_cons_zero, List.getElem?_cons_succ]
  unfold testB
  refine ⟨fun e1 => ?_, fun e1 => ?_⟩ <;> simp (disch := omega) only [↓stp, vls, inf, frs, mark_eq, ↓reduceIte, Nat.reduceEqDiff, ite_tt, ite_ff, eq_self, and_true, true_and, and_self, implies_true, Bool.true_eq_false, Bool.false_eq_true, decide_true, decide_false, decide_eq_true_eq, decide_eq_false_iff_not, ne_eq, not_true_eq_false, not_false_eq_true, Bool.not_eq_true', Bool.not_eq_false', beq_self_eq_true, Bool.not_true, Bool.not_false, List.getElem?_toArray, List.getElem?_cons_zero, List.getElem?_cons_succ, e1, add_at, k1]
  · refine (spec_validName_c V _ z2).mono ?_
    rintro _ V ⟨rfl, rfl⟩
    simp (disch := omega) only [↓stp, vls, inf, frs, mark_eq, ↓reduceIte, Nat.reduceEqDiff, ite_tt, ite_ff, eq_self, and_true, true_and, and_self, implies_true, Bool.true_eq_false, Bool.false_eq_true, decide_true, decide_false, decide_eq_true_eq, decide_eq_false_iff_not, ne_eq, not_true_eq_false, not_false_eq_true, Bool.not_eq_true', Bool.not_eq_false', beq_self_eq_true, Bool.not_true, Bool.not_false, List.getElem?_toArray, List.getElem?_cons_zero, List.getElem?_cons_succ, e1, Bool.true_and]
    refine ⟨fun e2 => ?_, fun e2 => ?_⟩ <;> simp (disch := omega) only [↓stp, vls, inf, frs, mark_eq, ↓reduceIte, Nat.reduceEqDiff, ite_tt, ite_ff, eq_self, and_true, true_and, and_self, implies_true, Bool.true_eq_false, Bool.false_eq_true, decide_true, decide_false, decide_eq_true_eq, decide_eq_false_iff_not, ne_eq, not_true_eq_false, not_false_eq_true, Bool.not_eq_true', Bool.not_eq_false', beq_self_eq_true, Bool.not_true, Bool.not_false, List.getElem?_toArray, List.getElem?_cons_zero, List.getElem?_cons_succ, e1, e2, add_at, k2, Bool.true_and, Bool.false_and]
    · refine (spec_validNames_c V _ _ 3 (g2.mono he)).mono ?_
      rintro _ V ⟨rfl, rfl⟩
      simp (disch := omega) only [↓stp, vls, inf, frs, mark_eq, ↓reduceIte, Nat.reduceEqDiff, ite_tt, ite_ff, eq_self, and_true, true_and, and_self, implies_true, Bool.true_eq_false, Bool.false_eq_true, decide_true, decide_false, decide_eq_true_eq, decide_eq_false_iff_not, ne_eq, not_true_eq_false, not_false_eq_true, Bool.not_eq_true', Bool.not_eq_false', beq_self_eq_true, Bool.not_true, Bool.not_false, List.getElem?_toArray, List.getElem?_cons_zero, List.getElem?_cons_succ, e1, e2]
      refine ⟨fun e3 => ?_, fun e3 => ?_⟩ <;> simp (disch := omega) only [↓stp, vls, inf, frs, mark_eq, ↓reduceIte, Nat.reduceEqDiff, ite_tt, ite_ff, eq_self, and_true, true_and, and_self, implies_true, Bool.true_eq_false, Bool.false_eq_true, decide_true, decide_false, decide_eq_true_eq, decide_eq_false_iff_not, ne_eq, not_true_eq_false, not_false_eq_true, Bool.not_eq_true', Bool.not_eq_false', beq_self_eq_true, Bool.not_true, Bool.not_false, List.getElem?_toArray, List.getElem?_cons_zero, List.getElem?_cons_succ, e1, e2, e3, add_at, k2, Bool.true_and, Bool.false_and]
      · refine (spec_ascending_c V _ _ (g2.mono he)).mono ?_
        have hq : @decide (AscS x.2.2.1) (Classical.propDecidable _) = ascB x.2.2.1 := by
          unfold ascB
          congr 1
          exact propext (ascS_iff (namesB_nodup e3))
        rw [hq]
        rintro _ V ⟨rfl, rfl⟩
        simp (disch := omega) only [↓stp, vls, inf, frs, mark_eq, ↓reduceIte, Nat.reduceEqDiff, ite_tt, ite_ff, eq_self, and_true, true_and, and_self, implies_true, Bool.true_eq_false, Bool.false_eq_true, decide_true, decide_false, decide_eq_true_eq, decide_eq_false_iff_not, ne_eq, not_true_eq_false, not_false_eq_true, Bool.not_eq_true', Bool.not_eq_false', beq_self_eq_true, Bool.not_true, Bool.not_false, List.getElem?_toArray, List.getElem?_cons_zero, List.getElem?_cons_succ, e1, e2, e3]
        refine ⟨fun e4 => ?_, fun e4 => ?_⟩ <;> simp (disch := omega) only [↓stp, vls, inf, frs, mark_eq, ↓reduceIte, Nat.reduceEqDiff, ite_tt, ite_ff, eq_self, and_true, true_and, and_self, implies_true, Bool.true_eq_false, Bool.false_eq_true, decide_true, decide_false, decide_eq_true_eq, decide_eq_false_iff_not, ne_eq, not_true_eq_false, not_false_eq_true, Bool.not_eq_true', Bool.not_eq_false', beq_self_eq_true, Bool.not_true, Bool.not_false, List.getElem?_toArray, List.getElem?_cons_zero, List.getElem?_cons_succ, e1, e2, e3, e4, add_at, k3, Bool.true_and, Bool.false_and]
        · refine (spec_validNames_c V _ _ 4 (g3.mono he)).mono ?_
          rintro _ V ⟨rfl, rfl⟩
          simp (disch := omega) only [↓stp, vls, inf, frs, mark_eq, ↓reduceIte, Nat.reduceEqDiff, ite_tt, ite_ff, eq_self, and_true, true_and, and_self, implies_true, Bool.true_eq_false, Bool.false_eq_true, decide_true, decide_false, decide_eq_true_eq, decide_eq_false_iff_not, ne_eq, not_true_eq_false, not_false_eq_true, Bool.not_eq_true', Bool.not_eq_false', beq_self_eq_true, Bool.not_true, Bool.not_false, List.getElem?_toArray, List.getElem?_cons_zero, List.getElem?_cons_succ, e1, e2, e3, e4]
          exact ⟨rfl, he⟩
        · exact he
      · exact he
    · exact he
  · simp only [Bool.false_and]
    exact ⟨trivial, he⟩

theorem idx_in {xs : List TestD} {id : ByteArray} : (0 ≤ idxI (fun x => decide (idD x = id)) xs) ↔ id ∈ xs.map idD := by
  rw [idxI_ge, List.any_eq_true, List.mem_map]
  simp

theorem spec_validTests_c (A : View) (v : Value) (xs : List TestD) (h : Sl testS A v xs) : ACalls Try.prog 52 #[v] A fun r A' => r = .bool (testsB xs) ∧ Ext A A' := by
  obtain ⟨a, c, rfl, hc, hl⟩ := h.slice
  refine acalls Try.func52 rfl (by kernel_rfl) ?_
  simp (disch := omega) only [↓stp, vls, inf, frs, mark_eq, ↓reduceIte, Nat.reduceEqDiff, ite_tt, ite_ff, eq_self, and_true, true_and, and_self, implies_true, Bool.true_eq_false, Bool.false_eq_true, decide_true, decide_false, decide_eq_true_eq, decide_eq_false_iff_not, ne_eq, not_true_eq_false, not_false_eq_true, Bool.not_eq_true', Bool.not_eq_false', beq_self_eq_true, Bool.not_true, Bool.not_false, List.getElem?_toArray, List.getElem?_cons_zero, List.getElem?_cons_succ]
  refine aloop (fun d fr V => ∃ i : Nat, i ≤ xs.length ∧ d = xs.length - i ∧ Ext A V ∧ fr 0 = .slice a xs.length c ∧ fr 3 = .int .i64 i ∧ (xs.take i).all testB = true ∧ ((xs.map idD).take i).Nodup) xs.length ⟨0, by omega, by omega, Ext.refl _, rfl, by rfl, by simp, by simp⟩ ?_
  rintro d fr V ⟨i, hi, rfl, he, h0, h3, hn, hn2⟩
  simp (disch := omega) only [↓stp, vls, inf, frs, mark_eq, ↓reduceIte, Nat.reduceEqDiff, ite_tt, ite_ff, eq_self, and_true, true_and, and_self, implies_true, Bool.true_eq_false, Bool.false_eq_true, decide_true, decide_false, decide_eq_true_eq, decide_eq_false_iff_not, ne_eq, not_true_eq_false, not_false_eq_true, Bool.not_eq_true', Bool.not_eq_false', beq_self_eq_true, Bool.not_true, Bool.not_false, List.getElem?_toArray, List.getElem?_cons_zero, List.getElem?_cons_succ, h0, h3]
  refine ⟨fun e => ?_, fun e => ?_⟩
  · have hlt : i < xs.length := by omega
    have hg : (xs.map idD)[i]'(by rw [List.length_map]; exact hlt) = idD xs[i] := by rw [List.getElem_map]
    obtain ⟨ad, d, rfl, hd, hcl, _⟩ := (h.mono he).at hlt
    have hcl : V.part (ad.add (i * 4)) 4 = some d := hcl
    simp (disch := omega) only [↓stp, vls, inf, frs, mark_eq, ↓reduceIte, Nat.reduceEqDiff, ite_tt, ite_ff, eq_self, and_true, true_and, and_self, implies_true, Bool.true_eq_false, Bool.false_eq_true, decide_true, decide_false, decide_eq_true_eq, decide_eq_false_iff_not, ne_eq, not_true_eq_false, not_false_eq_true, Bool.not_eq_true', Bool.not_eq_false', beq_self_eq_true, Bool.not_true, Bool.not_false, List.getElem?_toArray, List.getElem?_cons_zero, List.getElem?_cons_succ, h0, h3]
    refine adraw_items [.q 0, .q 1, .q 2, .l 3 false, .c 4 [], .q 5, .q 6, .q 7, .q 8, .q 9, .q 10, .q 11, .q 12, .l 13 false, .c 14 [], .c 15 [], .q 16, .q 17] (by kernel_rfl) (by kernel_rfl) ?_
    simp (disch := omega) only [↓stp, ↓pln, plv, nilOk, Nat.reduceBEq, Bool.or_false, Bool.or_true, Bool.false_or, Bool.true_or, vls, inf, frs, mark_eq, ↓reduceIte, Nat.reduceEqDiff, ite_tt, ite_ff, eq_self, and_true, true_and, and_self, implies_true, Bool.true_eq_false, Bool.false_eq_true, decide_true, decide_false, decide_eq_true_eq, decide_eq_false_iff_not, ne_eq, not_true_eq_false, not_false_eq_true, Bool.not_eq_true', Bool.not_eq_false', beq_self_eq_true, Bool.not_true, Bool.not_false, List.getElem?_toArray, List.getElem?_cons_zero, List.getElem?_cons_succ, h0, h3, hcl]
    refine (spec_validTest_c V d xs[i] hd).mono ?_
    rintro _ V2 ⟨rfl, he2⟩
    obtain ⟨_, d', hq, hd', hcl', _⟩ := (h.mono (he.trans he2)).at hlt
    obtain rfl := Option.some.inj hq
    have hcl' : V2.part (ad.add (i * 4)) 4 = some d' := hcl'
    simp (disch := omega) only [↓stp, ↓pln, plv, nilOk, Nat.reduceBEq, Bool.or_false, Bool.or_true, Bool.false_or, Bool.true_or, vls, inf, frs, mark_eq, ↓reduceIte, Nat.reduceEqDiff, ite_tt, ite_ff, eq_self, and_true, true_and, and_self, implies_true, Bool.true_eq_false, Bool.false_eq_true, decide_true, decide_false, decide_eq_true_eq, decide_eq_false_iff_not, ne_eq, not_true_eq_false, not_false_eq_true, Bool.not_eq_true', Bool.not_eq_false', beq_self_eq_true, Bool.not_true, Bool.not_false, List.getElem?_toArray, List.getElem?_cons_zero, List.getElem?_cons_succ, h0, h3, hcl']
    refine ⟨fun e1 => ?_, fun e1 => ?_⟩ <;> simp (disch := omega) only [↓stp, ↓pln, plv, nilOk, Nat.reduceBEq, Bool.or_false, Bool.or_true, Bool.false_or, Bool.true_or, vls, inf, frs, mark_eq, ↓reduceIte, Nat.reduceEqDiff, ite_tt, ite_ff, eq_self, and_true, true_and, and_self, implies_true, Bool.true_eq_false, Bool.false_eq_true, decide_true, decide_false, decide_eq_true_eq, decide_eq_false_iff_not, ne_eq, not_true_eq_false, not_false_eq_true, Bool.not_eq_true', Bool.not_eq_false', beq_self_eq_true, Bool.not_true, Bool.not_false, List.getElem?_toArray, List.getElem?_cons_zero, List.getElem?_cons_succ, h0, h3, e1, hcl']
    · refine (spec_idOf_c V2 d' xs[i] hd').mono ?_
      rintro _ V3 ⟨rfl, he3⟩
      have hcl3 : V3.part (ad.add (i * 4)) 4 = some d' := he3.part hcl'
      simp (disch := omega) only [↓stp, ↓pln, plv, nilOk, Nat.reduceBEq, Bool.or_false, Bool.or_true, Bool.false_or, Bool.true_or, vls, inf, frs, mark_eq, ↓reduceIte, Nat.reduceEqDiff, ite_tt, ite_ff, eq_self, and_true, true_and, and_self, implies_true, Bool.true_eq_false, Bool.false_eq_true, decide_true, decide_false, decide_eq_true_eq, decide_eq_false_iff_not, ne_eq, not_true_eq_false, not_false_eq_true, Bool.not_eq_true', Bool.not_eq_false', beq_self_eq_true, Bool.not_true, Bool.not_false, List.getElem?_toArray, List.getElem?_cons_zero, List.getElem?_cons_succ, h0, h3, e1, hcl3]
      refine (spec_findTest_c V3 _ (xs.take i) _ ((h.mono (he.trans (he2.trans he3))).take (by omega) 4)).mono ?_
      rintro _ V4 ⟨rfl, he4⟩
      have hE := he.trans (he2.trans (he3.trans he4))
      simp (disch := omega) only [↓stp, ↓pln, plv, nilOk, Nat.reduceBEq, Bool.or_false, Bool.or_true, Bool.false_or, Bool.true_or, vls, inf, frs, mark_eq, ↓reduceIte, Nat.reduceEqDiff, ite_tt, ite_ff, eq_self, and_true, true_and, and_self, implies_true, Bool.true_eq_false, Bool.false_eq_true, decide_true, decide_false, decide_eq_true_eq, decide_eq_false_iff_not, ne_eq, not_true_eq_false, not_false_eq_true, Bool.not_eq_true', Bool.not_eq_false', beq_self_eq_true, Bool.not_true, Bool.not_false, List.getElem?_toArray, List.getElem?_cons_zero, List.getElem?_cons_succ, h0, h3, e1]
      refine ⟨fun e2 => ?_, fun e2 => ?_⟩ <;> simp (disch := omega) only [↓stp, vls, inf, frs, mark_eq, ↓reduceIte, Nat.reduceEqDiff, ite_tt, ite_ff, eq_self, and_true, true_and, and_self, implies_true, Bool.true_eq_false, Bool.false_eq_true, decide_true, decide_false, decide_eq_true_eq, decide_eq_false_iff_not, ne_eq, not_true_eq_false, not_false_eq_true, Bool.not_eq_true', Bool.not_eq_false', beq_self_eq_true, Bool.not_true, Bool.not_false, List.getElem?_toArray, List.getElem?_cons_zero, List.getElem?_cons_succ, h0, h3]
      · rw [idx_in, map_take2, ← hg] at e2
        refine ⟨?_, hE⟩
        have : ¬ (xs.map idD).Nodup := nodup_no _ e2
        simp [testsB, this]
      · rw [idx_in, map_take2, ← hg] at e2
        exact ⟨_, by omega, i + 1, by omega, rfl, hE, rfl, all_take hlt hn e1, (nodup_take_succ (by rw [List.length_map]; exact hlt)).2 ⟨hn2, e2⟩⟩
    · refine ⟨?_, he.trans he2⟩
      simp [testsB, all_no (p := testB) hlt e1]
  · simp (disch := omega) only [↓stp, vls, inf, frs, mark_eq, ↓reduceIte, Nat.reduceEqDiff, ite_tt, ite_ff, eq_self, and_true, true_and, and_self, implies_true, Bool.true_eq_false, Bool.false_eq_true, decide_true, decide_false, decide_eq_true_eq, decide_eq_false_iff_not, ne_eq, not_true_eq_false, not_false_eq_true, Bool.not_eq_true', Bool.not_eq_false', beq_self_eq_true, Bool.not_true, Bool.not_false, List.getElem?_toArray, List.getElem?_cons_zero, List.getElem?_cons_succ, h0, h3]
    rw [List.take_of_length_le (by omega)] at hn
    rw [List.take_of_length_le (by rw [List.length_map]; omega)] at hn2
    refine ⟨?_, he⟩
    unfold testsB
    rw [hn, decide_eq_true hn2]
    congr 1
    rw [Bool.true_and, Bool.true_and]
    exact decide_eq_decide.2 (by omega)

theorem impl_validTests_c (A : View) (v : Value) (xs : List TestD) (h : Sl testS A v xs) (hsm : xs.length ≤ 16777215) : ACalls Try.prog 17 #[v] A fun r A' => r = .bool (testsB xs) ∧ Ext A A' := by
  obtain ⟨a, c, rfl, hc, hl⟩ := h.slice
  refine acalls Try.func17 rfl (by kernel_rfl) ?_
  simp (disch := omega) only [↓stp, vls, inf, frs, mark_eq, ↓reduceIte, Nat.reduceEqDiff, ite_tt, ite_ff, eq_self, and_true, true_and, and_self, implies_true, Bool.true_eq_false, Bool.false_eq_true, decide_true, decide_false, decide_eq_true_eq, decide_eq_false_iff_not, ne_eq, not_true_eq_false, not_false_eq_true, Bool.not_eq_true', Bool.not_eq_false', beq_self_eq_true, Bool.not_true, Bool.not_false, List.getElem?_toArray, List.getElem?_cons_zero, List.getElem?_cons_succ]
  refine led_lit0 (O := strO) li25 (Led.nil A) fun b V _ l => ?_
  simp (disch := omega) only [↓stp, vls, inf, frs, mark_eq, ↓reduceIte, Nat.reduceEqDiff, ite_tt, ite_ff, eq_self, and_true, true_and, and_self, implies_true, Bool.true_eq_false, Bool.false_eq_true, decide_true, decide_false, decide_eq_true_eq, decide_eq_false_iff_not, ne_eq, not_true_eq_false, not_false_eq_true, Bool.not_eq_true', Bool.not_eq_false', beq_self_eq_true, Bool.not_true, Bool.not_false, List.getElem?_toArray, List.getElem?_cons_zero, List.getElem?_cons_succ]
  refine aloop (fun d fr V => ∃ (i : Nat) (fp : List Nat) (w : Value), i ≤ xs.length ∧ d = xs.length - i ∧ Led A [osl 9 strO fp w ((xs.map idD).take i)] V ∧ fr 0 = .slice a xs.length c ∧ fr 3 = w ∧ fr 7 = .slice a xs.length c ∧ fr 8 = .int .i64 xs.length ∧ fr 9 = .int .i64 i ∧ (xs.take i).all testB = true ∧ ((xs.map idD).take i).Nodup) xs.length ⟨0, _, _, by omega, by omega, l, rfl, by rfl, by rfl, by rfl, by rfl, by simp, by simp⟩ ?_
  rintro d fr V ⟨i, fp, w, hi, rfl, l, h0, h3, h7, h8, h9, hn, hn2⟩
  simp (disch := omega) only [↓stp, vls, inf, frs, mark_eq, ↓reduceIte, Nat.reduceEqDiff, ite_tt, ite_ff, eq_self, and_true, true_and, and_self, implies_true, Bool.true_eq_false, Bool.false_eq_true, decide_true, decide_false, decide_eq_true_eq, decide_eq_false_iff_not, ne_eq, not_true_eq_false, not_false_eq_true, Bool.not_eq_true', Bool.not_eq_false', beq_self_eq_true, Bool.not_true, Bool.not_false, List.getElem?_toArray, List.getElem?_cons_zero, List.getElem?_cons_succ, h0, h3, h7, h8, h9]
  refine ⟨fun e => ?_, fun e => ?_⟩
  · have hlt : i < xs.length := by omega
    have hg : (xs.map idD)[i]'(by rw [List.length_map]; exact hlt) = idD xs[i] := by rw [List.getElem_map]
    obtain ⟨ad, u2, u3, rfl, hclA, z1, z2, g2, g3⟩ := h.test hlt
    obtain ⟨a2, c2, rfl, _, _⟩ := g2.slice
    obtain ⟨a3, c3, rfl, _, _⟩ := g3.slice
    have hx : ∀ V3, Ext A V3 → testS.rel V3 xs[i] [.string (xs[i]).1, .string (xs[i]).2.1, .slice a2 (xs[i]).2.2.1.length c2, .slice a3 (xs[i]).2.2.2.1.length c3] := fun V3 hE => testS_mk z1 z2 (g2.mono hE) (g3.mono hE)
    have hcl := l.ext.part hclA
    simp (disch := omega) only [↓stp, vls, inf, frs, mark_eq, ↓reduceIte, Nat.reduceEqDiff, ite_tt, ite_ff, eq_self, and_true, true_and, and_self, implies_true, Bool.true_eq_false, Bool.false_eq_true, decide_true, decide_false, decide_eq_true_eq, decide_eq_false_iff_not, ne_eq, not_true_eq_false, not_false_eq_true, Bool.not_eq_true', Bool.not_eq_false', beq_self_eq_true, Bool.not_true, Bool.not_false, List.getElem?_toArray, List.getElem?_cons_zero, List.getElem?_cons_succ, h0, h3, h7, h8, h9, hcl]
    refine led_alloc zc34 l fun q V1 he1 l => ?_
    simp (disch := omega) only [↓stp, vls, inf, frs, mark_eq, ↓reduceIte, Nat.reduceEqDiff, ite_tt, ite_ff, eq_self, and_true, true_and, and_self, implies_true, Bool.true_eq_false, Bool.false_eq_true, decide_true, decide_false, decide_eq_true_eq, decide_eq_false_iff_not, ne_eq, not_true_eq_false, not_false_eq_true, Bool.not_eq_true', Bool.not_eq_false', beq_self_eq_true, Bool.not_true, Bool.not_false, List.getElem?_toArray, List.getElem?_cons_zero, List.getElem?_cons_succ, h0, h3, h7, h8, h9]
    refine led_storeAll l 0 rfl sz34 rfl rfl (by simp [Value.oneCell']) fun V2 l => ?_
    have kp : V2.part ⟨q, 0, none⟩ 4 = some _ := l.partn (i := 0) rfl rfl (by simp [Value.oneCell'])
    simp (disch := omega) only [↓stp, vls, inf, frs, mark_eq, ↓reduceIte, Nat.reduceEqDiff, ite_tt, ite_ff, eq_self, and_true, true_and, and_self, implies_true, Bool.true_eq_false, Bool.false_eq_true, decide_true, decide_false, decide_eq_true_eq, decide_eq_false_iff_not, ne_eq, not_true_eq_false, not_false_eq_true, Bool.not_eq_true', Bool.not_eq_false', beq_self_eq_true, Bool.not_true, Bool.not_false, List.getElem?_toArray, List.getElem?_cons_zero, List.getElem?_cons_succ, h0, h3, h7, h8, h9, kp]
    refine (impl_testOk_c V2 _ xs[i] (hx _ l.ext)).mono ?_
    rintro _ V3 ⟨rfl, he3⟩
    replace l := l.step he3
    replace kp := he3.part kp
    simp (disch := omega) only [↓stp, vls, inf, frs, mark_eq, ↓reduceIte, Nat.reduceEqDiff, ite_tt, ite_ff, eq_self, and_true, true_and, and_self, implies_true, Bool.true_eq_false, Bool.false_eq_true, decide_true, decide_false, decide_eq_true_eq, decide_eq_false_iff_not, ne_eq, not_true_eq_false, not_false_eq_true, Bool.not_eq_true', Bool.not_eq_false', beq_self_eq_true, Bool.not_true, Bool.not_false, List.getElem?_toArray, List.getElem?_cons_zero, List.getElem?_cons_succ, h0, h3, h7, h8, h9]
    refine ⟨fun e1 => ?_, fun e1 => ?_⟩ <;> simp (disch := omega) only [↓stp, vls, inf, frs, mark_eq, ↓reduceIte, Nat.reduceEqDiff, ite_tt, ite_ff, eq_self, and_true, true_and, and_self, implies_true, Bool.true_eq_false, Bool.false_eq_true, decide_true, decide_false, decide_eq_true_eq, decide_eq_false_iff_not, ne_eq, not_true_eq_false, not_false_eq_true, Bool.not_eq_true', Bool.not_eq_false', beq_self_eq_true, Bool.not_true, Bool.not_false, List.getElem?_toArray, List.getElem?_cons_zero, List.getElem?_cons_succ, h0, h3, h7, h8, h9, e1, kp]
    · refine (impl_idOf_c V3 _ xs[i] (hx _ l.ext)).mono ?_
      rintro _ V4 ⟨rfl, he4⟩
      replace l := l.step he4
      replace kp := he4.part kp
      simp (disch := omega) only [↓stp, vls, inf, frs, mark_eq, ↓reduceIte, Nat.reduceEqDiff, ite_tt, ite_ff, eq_self, and_true, true_and, and_self, implies_true, Bool.true_eq_false, Bool.false_eq_true, decide_true, decide_false, decide_eq_true_eq, decide_eq_false_iff_not, ne_eq, not_true_eq_false, not_false_eq_true, Bool.not_eq_true', Bool.not_eq_false', beq_self_eq_true, Bool.not_true, Bool.not_false, List.getElem?_toArray, List.getElem?_cons_zero, List.getElem?_cons_succ, h0, h3, h7, h8, h9, e1]
      have hS : Sl strS V4 w ((xs.map idD).take i) := OSl.toS (show OSl 9 strO V4 fp w _ from l.at (i := 1) rfl)
      refine (contains_str_c V4 w _ _ hS).mono ?_
      rintro _ V4 ⟨rfl, rfl⟩
      simp (disch := omega) only [↓stp, vls, inf, frs, mark_eq, ↓reduceIte, Nat.reduceEqDiff, ite_tt, ite_ff, eq_self, and_true, true_and, and_self, implies_true, Bool.true_eq_false, Bool.false_eq_true, decide_true, decide_false, decide_eq_true_eq, decide_eq_false_iff_not, ne_eq, not_true_eq_false, not_false_eq_true, Bool.not_eq_true', Bool.not_eq_false', beq_self_eq_true, Bool.not_true, Bool.not_false, List.getElem?_toArray, List.getElem?_cons_zero, List.getElem?_cons_succ, h0, h3, h7, h8, h9, e1]
      refine ⟨fun e2 => ?_, fun e2 => ?_⟩ <;> simp (disch := omega) only [↓stp, vls, inf, frs, mark_eq, ↓reduceIte, Nat.reduceEqDiff, ite_tt, ite_ff, eq_self, and_true, true_and, and_self, implies_true, Bool.true_eq_false, Bool.false_eq_true, decide_true, decide_false, decide_eq_true_eq, decide_eq_false_iff_not, ne_eq, not_true_eq_false, not_false_eq_true, Bool.not_eq_true', Bool.not_eq_false', beq_self_eq_true, Bool.not_true, Bool.not_false, List.getElem?_toArray, List.getElem?_cons_zero, List.getElem?_cons_succ, h0, h3, h7, h8, h9, kp]
      · rw [← hg] at e2
        have : ¬ (xs.map idD).Nodup := nodup_no _ e2
        exact ⟨by simp [testsB, this], l.ext⟩
      · refine (impl_idOf_c V4 _ xs[i] (hx _ l.ext)).mono ?_
        rintro _ V5 ⟨rfl, he5⟩
        replace l := l.step he5
        simp (disch := omega) only [↓stp, vls, inf, frs, mark_eq, ↓reduceIte, Nat.reduceEqDiff, ite_tt, ite_ff, eq_self, and_true, true_and, and_self, implies_true, Bool.true_eq_false, Bool.false_eq_true, decide_true, decide_false, decide_eq_true_eq, decide_eq_false_iff_not, ne_eq, not_true_eq_false, not_false_eq_true, Bool.not_eq_true', Bool.not_eq_false', beq_self_eq_true, Bool.not_true, Bool.not_false, List.getElem?_toArray, List.getElem?_cons_zero, List.getElem?_cons_succ, h0, h3, h7, h8, h9]
        refine led_lit li25 (by omega) rfl (fun p hp => by rcases List.mem_singleton.1 hp with rfl; exact ⟨rfl, rfl⟩) l fun bl V6 _ l => ?_
        simp (disch := omega) only [↓stp, vls, inf, frs, mark_eq, ↓reduceIte, Nat.reduceEqDiff, ite_tt, ite_ff, eq_self, and_true, true_and, and_self, implies_true, Bool.true_eq_false, Bool.false_eq_true, decide_true, decide_false, decide_eq_true_eq, decide_eq_false_iff_not, ne_eq, not_true_eq_false, not_false_eq_true, Bool.not_eq_true', Bool.not_eq_false', beq_self_eq_true, Bool.not_true, Bool.not_false, List.getElem?_toArray, List.getElem?_cons_zero, List.getElem?_cons_succ, h0, h3, h7, h8, h9]
        refine led_app (O := strO) ap25_25 (by decide) l (i := 2) rfl (l.src1 (S := strS) (j := 0) rfl ⟨rfl, by have := testB_id e1; omega⟩) (by rw [List.length_singleton, List.length_take]; omega) fun fp2 w2 V7 _ l => ?_
        simp (disch := omega) only [↓stp, vls, inf, frs, mark_eq, ↓reduceIte, Nat.reduceEqDiff, ite_tt, ite_ff, eq_self, and_true, true_and, and_self, implies_true, Bool.true_eq_false, Bool.false_eq_true, decide_true, decide_false, decide_eq_true_eq, decide_eq_false_iff_not, ne_eq, not_true_eq_false, not_false_eq_true, Bool.not_eq_true', Bool.not_eq_false', beq_self_eq_true, Bool.not_true, Bool.not_false, List.getElem?_toArray, List.getElem?_cons_zero, List.getElem?_cons_succ, h0, h3, h7, h8, h9]
        have l2 : Led A [osl 9 strO fp2 w2 ((xs.map idD).take (i + 1))] V7 := by
          rw [List.take_succ_eq_append_getElem (by rw [List.length_map]; exact hlt), hg]
          exact l.tail.tail
        rw [← hg] at e2
        exact ⟨_, by omega, i + 1, _, _, by omega, rfl, l2, rfl, rfl, all_take hlt hn e1, (nodup_take_succ (by rw [List.length_map]; exact hlt)).2 ⟨hn2, e2⟩⟩
    · refine ⟨?_, l.ext⟩
      simp [testsB, all_no (p := testB) hlt e1]
  · simp (disch := omega) only [↓stp, vls, inf, frs, mark_eq, ↓reduceIte, Nat.reduceEqDiff, ite_tt, ite_ff, eq_self, and_true, true_and, and_self, implies_true, Bool.true_eq_false, Bool.false_eq_true, decide_true, decide_false, decide_eq_true_eq, decide_eq_false_iff_not, ne_eq, not_true_eq_false, not_false_eq_true, Bool.not_eq_true', Bool.not_eq_false', beq_self_eq_true, Bool.not_true, Bool.not_false, List.getElem?_toArray, List.getElem?_cons_zero, List.getElem?_cons_succ, h0, h3, h7, h8, h9]
    rw [List.take_of_length_le (by omega)] at hn
    rw [List.take_of_length_le (by rw [List.length_map]; omega)] at hn2
    refine ⟨?_, l.ext⟩
    unfold testsB
    rw [hn, decide_eq_true hn2]
    congr 1
    rw [Bool.true_and, Bool.true_and]
    exact decide_eq_decide.2 (by omega)

end Go.Proofs.Ytbddklkfekiaeaa

