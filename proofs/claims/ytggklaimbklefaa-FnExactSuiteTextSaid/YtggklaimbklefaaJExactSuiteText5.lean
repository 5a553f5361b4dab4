/- Part 5 of the proof: its texts, one behind the other. -/
import Derived.Test.YtggklaimbklefaaJExactSuiteText4
import Derived.Test.YtggklaimbklefaaJExactSuiteText3

/- Which suites are valid. -/
set_option maxHeartbeats 4000000
set_option synthInstance.maxHeartbeats 400000
set_option synthInstance.maxSize 4096
set_option linter.unusedSimpArgs false
set_option linter.unusedVariables false
namespace Go.Proofs.Ytggklaimbklefaa

set_option maxRecDepth 100000

/-- A suite is valid. -/
noncomputable def validB (x : SuiteD) : Bool := formedB x && decide ((probR x).length = 0)

theorem spec_validB_c (A : View) (d : List Value) (x : SuiteD) (h : suiteS.rel A x d) (_ : True) : ACalls Try.prog 37 #[.agg d.toArray] A fun r A' => r = .bool (validB x) ∧ Ext A A' := by
  have hx := h
  obtain ⟨u0, u1, rfl, g0, g1⟩ := suiteS_open h
  obtain ⟨a0, c0, rfl, _, _⟩ := g0.slice
  obtain ⟨a1, c1, rfl, _, _⟩ := g1.slice
  refine acalls Try.func37 rfl (by kernel_rfl) ?_
  simp (disch := omega) only [↓stp, vls, inf, frs, mark_eq, ↓reduceIte, Nat.reduceEqDiff, ite_tt, ite_ff, eq_self, and_true, true_and, and_self, implies_true, Bool.true_eq_false, Bool.false_eq_true, decide_true, decide_false, decide_eq_true_eq, decide_eq_false_iff_not, ne_eq, not_true_eq_false, not_false_eq_true, Bool.not_eq_true', Bool.not_eq_false', beq_self_eq_true, Bool.not_true, Bool.not_false, List.getElem?_toArray, List.getElem?_cons_zero, List.getElem?_cons_succ]
  refine led_box (Led.nil A) rfl fun q V he l => ?_
  have kp : V.part ⟨q, 0, none⟩ 2 = some _ := l.part (i := 0) rfl rfl
  simp (disch := omega) only [↓stp, vls, inf, frs, mark_eq, ↓reduceIte, Nat.reduceEqDiff, ite_tt, ite_ff, eq_self, and_true, true_and, and_self, implies_true, Bool.true_eq_false, Bool.false_eq_true, decide_true, decide_false, decide_eq_true_eq, decide_eq_false_iff_not, ne_eq, not_true_eq_false, not_false_eq_true, Bool.not_eq_true', Bool.not_eq_false', beq_self_eq_true, Bool.not_true, Bool.not_false, List.getElem?_toArray, List.getElem?_cons_zero, List.getElem?_cons_succ, kp]
  refine (spec_wellFormed_c V _ x (suiteS_mk (g0.mono l.ext) (g1.mono l.ext)) ).mono ?_
  rintro _ V2 ⟨rfl, he2⟩
  replace l := l.step he2
  have kp := he2.part kp
  simp (disch := omega) only [↓stp, vls, inf, frs, mark_eq, ↓reduceIte, Nat.reduceEqDiff, ite_tt, ite_ff, eq_self, and_true, true_and, and_self, implies_true, Bool.true_eq_false, Bool.false_eq_true, decide_true, decide_false, decide_eq_true_eq, decide_eq_false_iff_not, ne_eq, not_true_eq_false, not_false_eq_true, Bool.not_eq_true', Bool.not_eq_false', beq_self_eq_true, Bool.not_true, Bool.not_false, List.getElem?_toArray, List.getElem?_cons_zero, List.getElem?_cons_succ, kp]
  refine ⟨fun e1 => ?_, fun e1 => ?_⟩ <;> simp (disch := omega) only [↓stp, vls, inf, frs, mark_eq, ↓reduceIte, Nat.reduceEqDiff, ite_tt, ite_ff, eq_self, and_true, true_and, and_self, implies_true, Bool.true_eq_false, Bool.false_eq_true, decide_true, decide_false, decide_eq_true_eq, decide_eq_false_iff_not, ne_eq, not_true_eq_false, not_false_eq_true, Bool.not_eq_true', Bool.not_eq_false', beq_self_eq_true, Bool.not_true, Bool.not_false, List.getElem?_toArray, List.getElem?_cons_zero, List.getElem?_cons_succ, kp, e1]
  · refine (spec_problems_c V2 _ x (suiteS_mk (g0.mono l.ext) (g1.mono l.ext)) (formed_of e1)).mono ?_
    rintro r V3 ⟨fp, l2⟩
    obtain ⟨ar, cr, rfl, hcr, hlr⟩ := (show Sl problemS V3 r (probR x) from OSl.toS (show OSl 121 problemO V3 fp r (probR x) from l2.at (i := 0) rfl)).slice
    simp (disch := omega) only [↓stp, vls, inf, frs, mark_eq, ↓reduceIte, Nat.reduceEqDiff, ite_tt, ite_ff, eq_self, and_true, true_and, and_self, implies_true, Bool.true_eq_false, Bool.false_eq_true, decide_true, decide_false, decide_eq_true_eq, decide_eq_false_iff_not, ne_eq, not_true_eq_false, not_false_eq_true, Bool.not_eq_true', Bool.not_eq_false', beq_self_eq_true, Bool.not_true, Bool.not_false, List.getElem?_toArray, List.getElem?_cons_zero, List.getElem?_cons_succ, e1]
    refine ⟨?_, l.ext.trans l2.ext⟩
    unfold validB
    rw [e1, Bool.true_and]
    congr 1
    rw [Bool.eq_iff_iff, decide_eq_true_eq, decide_eq_true_eq]
    omega
  · refine ⟨?_, l.ext⟩
    unfold validB
    rw [e1, Bool.false_and]

theorem impl_validB_c (A : View) (d : List Value) (x : SuiteD) (h : suiteS.rel A x d) (hs0 : x.1.length ≤ 16777215) (hs1 : x.2.1.length ≤ 16777215) : ACalls Try.prog 41 #[.agg d.toArray] A fun r A' => r = .bool (validB x) ∧ Ext A A' := by
  have hx := h
  obtain ⟨u0, u1, rfl, g0, g1⟩ := suiteS_open h
  obtain ⟨a0, c0, rfl, _, _⟩ := g0.slice
  obtain ⟨a1, c1, rfl, _, _⟩ := g1.slice
  refine acalls Try.func41 rfl (by kernel_rfl) ?_
  simp (disch := omega) only [↓stp, vls, inf, frs, mark_eq, ↓reduceIte, Nat.reduceEqDiff, ite_tt, ite_ff, eq_self, and_true, true_and, and_self, implies_true, Bool.true_eq_false, Bool.false_eq_true, decide_true, decide_false, decide_eq_true_eq, decide_eq_false_iff_not, ne_eq, not_true_eq_false, not_false_eq_true, Bool.not_eq_true', Bool.not_eq_false', beq_self_eq_true, Bool.not_true, Bool.not_false, List.getElem?_toArray, List.getElem?_cons_zero, List.getElem?_cons_succ]
  refine led_box (Led.nil A) rfl fun q V he l => ?_
  have kp : V.part ⟨q, 0, none⟩ 2 = some _ := l.part (i := 0) rfl rfl
  simp (disch := omega) only [↓stp, vls, inf, frs, mark_eq, ↓reduceIte, Nat.reduceEqDiff, ite_tt, ite_ff, eq_self, and_true, true_and, and_self, implies_true, Bool.true_eq_false, Bool.false_eq_true, decide_true, decide_false, decide_eq_true_eq, decide_eq_false_iff_not, ne_eq, not_true_eq_false, not_false_eq_true, Bool.not_eq_true', Bool.not_eq_false', beq_self_eq_true, Bool.not_true, Bool.not_false, List.getElem?_toArray, List.getElem?_cons_zero, List.getElem?_cons_succ, kp]
  refine (impl_suiteFormed_c V _ x (suiteS_mk (g0.mono l.ext) (g1.mono l.ext)) hs0 hs1).mono ?_
  rintro _ V2 ⟨rfl, he2⟩
  replace l := l.step he2
  have kp := he2.part kp
  simp (disch := omega) only [↓stp, vls, inf, frs, mark_eq, ↓reduceIte, Nat.reduceEqDiff, ite_tt, ite_ff, eq_self, and_true, true_and, and_self, implies_true, Bool.true_eq_false, Bool.false_eq_true, decide_true, decide_false, decide_eq_true_eq, decide_eq_false_iff_not, ne_eq, not_true_eq_false, not_false_eq_true, Bool.not_eq_true', Bool.not_eq_false', beq_self_eq_true, Bool.not_true, Bool.not_false, List.getElem?_toArray, List.getElem?_cons_zero, List.getElem?_cons_succ, kp]
  refine ⟨fun e1 => ?_, fun e1 => ?_⟩ <;> simp (disch := omega) only [↓stp, vls, inf, frs, mark_eq, ↓reduceIte, Nat.reduceEqDiff, ite_tt, ite_ff, eq_self, and_true, true_and, and_self, implies_true, Bool.true_eq_false, Bool.false_eq_true, decide_true, decide_false, decide_eq_true_eq, decide_eq_false_iff_not, ne_eq, not_true_eq_false, not_false_eq_true, Bool.not_eq_true', Bool.not_eq_false', beq_self_eq_true, Bool.not_true, Bool.not_false, List.getElem?_toArray, List.getElem?_cons_zero, List.getElem?_cons_succ, kp, e1]
  · refine (impl_problems_c V2 _ x (suiteS_mk (g0.mono l.ext) (g1.mono l.ext)) (formed_of e1)).mono ?_
    rintro r V3 ⟨fp, l2⟩
    obtain ⟨ar, cr, rfl, hcr, hlr⟩ := (show Sl problemS V3 r (probR x) from OSl.toS (show OSl 121 problemO V3 fp r (probR x) from l2.at (i := 0) rfl)).slice
    simp (disch := omega) only [↓stp, vls, inf, frs, mark_eq, ↓reduceIte, Nat.reduceEqDiff, ite_tt, ite_ff, eq_self, and_true, true_and, and_self, implies_true, Bool.true_eq_false, Bool.false_eq_true, decide_true, decide_false, decide_eq_true_eq, decide_eq_false_iff_not, ne_eq, not_true_eq_false, not_false_eq_true, Bool.not_eq_true', Bool.not_eq_false', beq_self_eq_true, Bool.not_true, Bool.not_false, List.getElem?_toArray, List.getElem?_cons_zero, List.getElem?_cons_succ, e1]
    refine ⟨?_, l.ext.trans l2.ext⟩
    unfold validB
    rw [e1, Bool.true_and]
    congr 1
    rw [Bool.eq_iff_iff, decide_eq_true_eq, decide_eq_true_eq]
    omega
  · refine ⟨?_, l.ext⟩
    unfold validB
    rw [e1, Bool.false_and]

def fAtR (b : Bool) (x : SuiteD) (name : ByteArray) : Int := if b then fAt x.1 name else -1

def probsR (b : Bool) (l : List ProblemD) : List ProblemD := if b then l else []

theorem probR_len {x : SuiteD} (hF : Formed x) : (probR x).length ≤ 70 := by
  unfold probR
  rw [List.length_append]
  have h1 := flatMap_le' (f := prFix x.1) (m := 5) x.1 fun f hf => prFix_len (hF.fs f hf).1
  have h2 := flatMap_le' (f := prTest x.1) (m := 4) x.2.1 fun f hf => prTest_len (hF.ts f hf).2
  have := hF.fl
  have := hF.tl
  omega

theorem probsR_len (x : SuiteD) : (probsR (formedB x) (probR x)).length ≤ 70 := by
  unfold probsR
  split
  · rename_i h
    exact probR_len (formed_of h)
  · simp

end Go.Proofs.Ytggklaimbklefaa

/- Texts of suites: what stands in them. -/
set_option maxHeartbeats 4000000
set_option synthInstance.maxHeartbeats 400000
set_option synthInstance.maxSize 4096
set_option linter.unusedSimpArgs false
set_option linter.unusedVariables false
namespace Go.Proofs.Ytggklaimbklefaa

set_option maxRecDepth 100000

/-- Names with a comma between two of them. -/
def listT (xs : List ByteArray) : ByteArray := if xs.length = 0 then ⟨#[45]⟩ else Bt (joinA [44] xs)
def scopeW (k : Int) : ByteArray := if k = 0 then ⟨#[116, 101, 115, 116]⟩ else if k = 1 then ⟨#[109, 111, 100, 117, 108, 101]⟩ else ⟨#[114, 117, 110]⟩
/-- The line of a fixture, up to its needs. -/
def fixT (f : FixtureD) : ByteArray := ⟨#[102, 105, 120, 116, 117, 114, 101, 32]⟩ ++ f.1 ++ ⟨#[32]⟩ ++ scopeW f.2.1 ++ ⟨#[32]⟩ ++ listT f.2.2.1
def autoT (b : Bool) : ByteArray := if b = true then ⟨#[32, 97, 117, 116, 111]⟩ else ⟨#[]⟩
def fixL (f : FixtureD) : List UInt8 := (fixT f).data.toList ++ (autoT f.2.2.2.1).data.toList ++ [10]
/-- The line of a test. -/
def tstT (x : TestD) : ByteArray := ⟨#[116, 101, 115, 116, 32]⟩ ++ idD x ++ ⟨#[32]⟩ ++ listT x.2.2.1 ++ ⟨#[32]⟩ ++ listT x.2.2.2.1 ++ ⟨#[10]⟩
def tstL (x : TestD) : List UInt8 := (tstT x).data.toList
def suiteL (x : SuiteD) : List UInt8 := x.1.flatMap fixL ++ x.2.1.flatMap tstL
noncomputable def suiteX (x : SuiteD) : ByteArray := if validB x = true then Bt (suiteL x) else ⟨#[]⟩

theorem scopeW_size (k : Int) : (scopeW k).size ≤ 6 := by
  unfold scopeW
  split
  · decide
  · split <;> decide
theorem names_len {xs : List ByteArray} {m : Nat} (h : namesB xs m = true) (hm : m ≤ 6) : xs.length ≤ m ∧ (joinA [44] xs).length ≤ 42 := by
  have h1 := namesB_len h
  have hl : xs.length ≤ m := by omega
  refine ⟨hl, ?_⟩
  have hs : lenS xs ≤ 6 * xs.length := by
    unfold namesB at h
    simp only [Bool.and_eq_true] at h
    have hall := List.all_eq_true.1 h.1.1
    clear h h1 hl
    unfold lenS
    induction xs with
    | nil => simp
    | cons x xs ih =>
      have h1 := nmOk_size (hall x (List.mem_cons_self ..))
      have h2 := ih fun y hy => hall y (List.mem_cons_of_mem _ hy)
      rw [List.map_cons, List.sum_cons, List.length_cons]
      omega
  rw [joinA_len]
  have e : ([44] : List UInt8).length = 1 := rfl
  rw [e]
  omega
theorem listT_size {xs : List ByteArray} {m : Nat} (h : namesB xs m = true) (hm : m ≤ 6) : (listT xs).size ≤ 42 := by
  have := (names_len h hm).2
  unfold listT
  split
  · show (⟨#[45]⟩ : ByteArray).size ≤ 42
    decide
  · rw [Bt_size]; exact this

/-- What is known of a suite that is valid. -/
theorem valid_fix {x : SuiteD} (h : validB x = true) : x.1.length ≤ 6 ∧ ∀ f ∈ x.1, (0 ≤ f.2.1 ∧ f.2.1 ≤ 2) ∧ f.1.size ≤ 6 ∧ namesB f.2.2.1 4 = true := by
  unfold validB formedB at h
  simp only [Bool.and_eq_true] at h
  obtain ⟨⟨⟨h1, h2⟩, h3⟩, h4⟩ := h
  have h5 := namesB_len h2
  rw [List.length_map] at h5
  refine ⟨by omega, fun f hf => ?_⟩
  have h6 := List.all_eq_true.1 h1 f hf
  unfold fixB at h6
  simp only [Bool.and_eq_true, decide_eq_true_eq] at h6
  refine ⟨h6.1, ?_, h6.2⟩
  unfold namesB at h2
  simp only [Bool.and_eq_true] at h2
  exact nmOk_size (List.all_eq_true.1 h2.1.1 _ (List.mem_map.2 ⟨f, hf, rfl⟩))
theorem valid_tst {x : SuiteD} (h : validB x = true) : x.2.1.length ≤ 10 ∧ ∀ t ∈ x.2.1, t.1.size ≤ 6 ∧ t.2.1.size ≤ 6 ∧ namesB t.2.2.1 3 = true ∧ namesB t.2.2.2.1 4 = true := by
  unfold validB formedB testsB at h
  simp only [Bool.and_eq_true, decide_eq_true_eq] at h
  obtain ⟨⟨⟨h1, h2⟩, ⟨⟨h3, _⟩, h5⟩⟩, h4⟩ := h
  refine ⟨h5, fun t ht => ?_⟩
  have h6 := List.all_eq_true.1 h3 t ht
  unfold testB at h6
  simp only [Bool.and_eq_true] at h6
  exact ⟨nmOk_size h6.1.1.1.1, nmOk_size h6.1.1.1.2, h6.1.1.2, h6.2⟩
theorem fixT_size {f : FixtureD} (h : f.1.size ≤ 6) (hn : namesB f.2.2.1 4 = true) : (fixT f).size ≤ 64 := by
  have h1 := listT_size (m := 4) hn (by omega)
  have h2 := scopeW_size f.2.1
  have e1 : (⟨#[102, 105, 120, 116, 117, 114, 101, 32]⟩ : ByteArray).size = 8 := rfl
  have e2 : (⟨#[32]⟩ : ByteArray).size = 1 := rfl
  unfold fixT
  simp only [ByteArray.size_append, e1, e2]
  omega
theorem tstT_size {t : TestD} (h1 : t.1.size ≤ 6) (h2 : t.2.1.size ≤ 6) (hm : namesB t.2.2.1 3 = true) (hn : namesB t.2.2.2.1 4 = true) : (tstT t).size ≤ 105 := by
  have h3 := listT_size (m := 3) hm (by omega)
  have h4 := listT_size (m := 4) hn (by omega)
  have h5 := idD_size t
  have e1 : (⟨#[116, 101, 115, 116, 32]⟩ : ByteArray).size = 5 := rfl
  have e2 : (⟨#[32]⟩ : ByteArray).size = 1 := rfl
  have e3 : (⟨#[10]⟩ : ByteArray).size = 1 := rfl
  unfold tstT
  simp only [ByteArray.size_append, e1, e2, e3]
  omega
theorem fixL_len {f : FixtureD} (h : f.1.size ≤ 6) (hn : namesB f.2.2.1 4 = true) : (fixL f).length ≤ 70 := by
  have h1 := fixT_size h hn
  have h2 : (autoT f.2.2.2.1).size ≤ 5 := by
    unfold autoT
    split <;> decide
  unfold fixL
  simp only [List.length_append, dsize, List.length_singleton]
  omega
theorem flat_len {α : Type} {g : α → List UInt8} {m : Nat} : ∀ {xs : List α}, (∀ x ∈ xs, (g x).length ≤ m) → (xs.flatMap g).length ≤ m * xs.length
  | [], _ => by simp
  | x :: xs, h => by
    have h1 := h x (List.mem_cons_self ..)
    have h2 := flat_len (xs := xs) fun y hy => h y (List.mem_cons_of_mem _ hy)
    rw [List.flatMap_cons, List.length_append, List.length_cons, Nat.mul_add]
    omega
theorem flat_take {α : Type} {g : α → List UInt8} {xs : List α} {i : Nat} (hi : i < xs.length) : (xs.take (i + 1)).flatMap g = (xs.take i).flatMap g ++ g xs[i] := by
  rw [List.take_succ_eq_append_getElem hi, List.flatMap_append]
  simp

theorem scope_cell {W : View} {b room : Nat} {e : TypeId} {k : Int} (hb : W b = some ⟨e, [.string (scopeW 0), .string (scopeW 1), .string (scopeW 2)], room, true⟩) (hk : 0 ≤ k ∧ k ≤ 2) : W.cell ⟨b, 0 + k.toNat, none⟩ = some (.string (scopeW k)) := by
  have h3 : k = 0 ∨ k = 1 ∨ k = 2 := by omega
  rcases h3 with rfl | rfl | rfl
  · exact View.cell_mk rfl hb rfl rfl
  · exact View.cell_mk rfl hb rfl rfl
  · exact View.cell_mk rfl hb rfl rfl

theorem impl_scopeWords_c (A : View) : ACalls Try.prog 42 #[] A fun r V => ∃ b, r = .slice (some ⟨b, 0, none⟩) 3 3 ∧ Led A [bx b ⟨9, [.string (scopeW 0), .string (scopeW 1), .string (scopeW 2)], 3, true⟩] V := by
  refine acalls Try.func42 rfl (by kernel_rfl) ?_
  simp (disch := omega) only [↓stq, amv_at, vls, inf, frs, mark_eq, ↓reduceIte, Nat.reduceEqDiff, ite_tt, ite_ff, eq_self, and_true, true_and, and_self, implies_true, Bool.true_eq_false, Bool.false_eq_true, decide_true, decide_false, decide_eq_true_eq, decide_eq_false_iff_not, ne_eq, not_true_eq_false, not_false_eq_true, Bool.not_eq_true', Bool.not_eq_false', beq_self_eq_true, Bool.not_true, Bool.not_false, List.getElem?_toArray, List.getElem?_cons_zero, List.getElem?_cons_succ]
  refine led_lit li54 (by omega) rfl (by simp [Value.cells, Value.oneCell']) (Led.nil A) fun b V _ l => ?_
  simp (disch := omega) only [↓stq, amv_at, vls, inf, frs, mark_eq, ↓reduceIte, Nat.reduceEqDiff, ite_tt, ite_ff, eq_self, and_true, true_and, and_self, implies_true, Bool.true_eq_false, Bool.false_eq_true, decide_true, decide_false, decide_eq_true_eq, decide_eq_false_iff_not, ne_eq, not_true_eq_false, not_false_eq_true, Bool.not_eq_true', Bool.not_eq_false', beq_self_eq_true, Bool.not_true, Bool.not_false, List.getElem?_toArray, List.getElem?_cons_zero, List.getElem?_cons_succ]
  exact ⟨b, rfl, l⟩

theorem spec_scopeWords_c (A : View) : ACalls Try.prog 67 #[] A fun r V => ∃ b, r = .slice (some ⟨b, 0, none⟩) 3 3 ∧ Led A [bx b ⟨9, [.string (scopeW 0), .string (scopeW 1), .string (scopeW 2)], 3, true⟩] V := by
  refine acalls Try.func67 rfl (by kernel_rfl) ?_
  simp (disch := omega) only [↓stq, amv_at, vls, inf, frs, mark_eq, ↓reduceIte, Nat.reduceEqDiff, ite_tt, ite_ff, eq_self, and_true, true_and, and_self, implies_true, Bool.true_eq_false, Bool.false_eq_true, decide_true, decide_false, decide_eq_true_eq, decide_eq_false_iff_not, ne_eq, not_true_eq_false, not_false_eq_true, Bool.not_eq_true', Bool.not_eq_false', beq_self_eq_true, Bool.not_true, Bool.not_false, List.getElem?_toArray, List.getElem?_cons_zero, List.getElem?_cons_succ]
  refine led_lit li54 (by omega) rfl (by simp [Value.cells, Value.oneCell']) (Led.nil A) fun b V _ l => ?_
  simp (disch := omega) only [↓stq, amv_at, vls, inf, frs, mark_eq, ↓reduceIte, Nat.reduceEqDiff, ite_tt, ite_ff, eq_self, and_true, true_and, and_self, implies_true, Bool.true_eq_false, Bool.false_eq_true, decide_true, decide_false, decide_eq_true_eq, decide_eq_false_iff_not, ne_eq, not_true_eq_false, not_false_eq_true, Bool.not_eq_true', Bool.not_eq_false', beq_self_eq_true, Bool.not_true, Bool.not_false, List.getElem?_toArray, List.getElem?_cons_zero, List.getElem?_cons_succ]
  exact ⟨b, rfl, l⟩

theorem impl_commas_c (A : View) (v : Value) (xs : List ByteArray) (h : Sl strS A v xs) (hx : xs.length ≤ 16) (hsm : (joinA [44] xs).length ≤ 42) : ACalls Try.prog 43 #[v] A fun r V => r = .string (listT xs) ∧ Ext A V := by
  obtain ⟨a, c, rfl, _, _⟩ := h.slice
  refine acalls Try.func43 rfl (by kernel_rfl) ?_
  simp (disch := omega) only [↓stq, amv_at, vls, inf, frs, mark_eq, ↓reduceIte, Nat.reduceEqDiff, ite_tt, ite_ff, eq_self, and_true, true_and, and_self, implies_true, Bool.true_eq_false, Bool.false_eq_true, decide_true, decide_false, decide_eq_true_eq, decide_eq_false_iff_not, ne_eq, not_true_eq_false, not_false_eq_true, Bool.not_eq_true', Bool.not_eq_false', beq_self_eq_true, Bool.not_true, Bool.not_false, List.getElem?_toArray, List.getElem?_cons_zero, List.getElem?_cons_succ]
  by_cases h0 : xs.length = 0
  · have e0 : ((xs.length : Int) = 0) = True := eq_true (by omega)
    simp (disch := omega) only [↓stq, amv_at, vls, inf, frs, mark_eq, ↓reduceIte, Nat.reduceEqDiff, ite_tt, ite_ff, eq_self, and_true, true_and, and_self, implies_true, Bool.true_eq_false, Bool.false_eq_true, decide_true, decide_false, decide_eq_true_eq, decide_eq_false_iff_not, ne_eq, not_true_eq_false, not_false_eq_true, Bool.not_eq_true', Bool.not_eq_false', beq_self_eq_true, Bool.not_true, Bool.not_false, List.getElem?_toArray, List.getElem?_cons_zero, List.getElem?_cons_succ, e0]
    unfold listT
    rw [if_pos h0]
    exact ⟨rfl, Ext.refl _⟩
  · have e0 : ((xs.length : Int) = 0) = False := eq_false (by omega)
    simp (disch := omega) only [↓stq, amv_at, vls, inf, frs, mark_eq, ↓reduceIte, Nat.reduceEqDiff, ite_tt, ite_ff, eq_self, and_true, true_and, and_self, implies_true, Bool.true_eq_false, Bool.false_eq_true, decide_true, decide_false, decide_eq_true_eq, decide_eq_false_iff_not, ne_eq, not_true_eq_false, not_false_eq_true, Bool.not_eq_true', Bool.not_eq_false', beq_self_eq_true, Bool.not_true, Bool.not_false, List.getElem?_toArray, List.getElem?_cons_zero, List.getElem?_cons_succ, e0]
    refine (join_c A _ xs ⟨#[44]⟩ h (by decide) (by omega) (by show (joinA [44] xs).length ≤ _; omega)).mono ?_
    rintro _ V ⟨rfl, he⟩
    simp (disch := omega) only [↓stq, amv_at, vls, inf, frs, mark_eq, ↓reduceIte, Nat.reduceEqDiff, ite_tt, ite_ff, eq_self, and_true, true_and, and_self, implies_true, Bool.true_eq_false, Bool.false_eq_true, decide_true, decide_false, decide_eq_true_eq, decide_eq_false_iff_not, ne_eq, not_true_eq_false, not_false_eq_true, Bool.not_eq_true', Bool.not_eq_false', beq_self_eq_true, Bool.not_true, Bool.not_false, List.getElem?_toArray, List.getElem?_cons_zero, List.getElem?_cons_succ]
    unfold listT
    rw [if_neg h0]
    exact ⟨rfl, he⟩

theorem spec_listText_c (A : View) (v : Value) (xs : List ByteArray) (h : Sl strS A v xs) (hsm : (joinA [44] xs).length ≤ 42) : ACalls Try.prog 68 #[v] A fun r V => r = .string (listT xs) ∧ V = A := by
  obtain ⟨a, c, rfl, _, _⟩ := h.slice
  refine acalls Try.func68 rfl (by kernel_rfl) ?_
  simp (disch := omega) only [↓stq, amv_at, vls, inf, frs, mark_eq, ↓reduceIte, Nat.reduceEqDiff, ite_tt, ite_ff, eq_self, and_true, true_and, and_self, implies_true, Bool.true_eq_false, Bool.false_eq_true, decide_true, decide_false, decide_eq_true_eq, decide_eq_false_iff_not, ne_eq, not_true_eq_false, not_false_eq_true, Bool.not_eq_true', Bool.not_eq_false', beq_self_eq_true, Bool.not_true, Bool.not_false, List.getElem?_toArray, List.getElem?_cons_zero, List.getElem?_cons_succ]
  by_cases h0 : xs.length = 0
  · have e0 : ((xs.length : Int) = 0) = True := eq_true (by omega)
    simp (disch := omega) only [↓stq, amv_at, vls, inf, frs, mark_eq, ↓reduceIte, Nat.reduceEqDiff, ite_tt, ite_ff, eq_self, and_true, true_and, and_self, implies_true, Bool.true_eq_false, Bool.false_eq_true, decide_true, decide_false, decide_eq_true_eq, decide_eq_false_iff_not, ne_eq, not_true_eq_false, not_false_eq_true, Bool.not_eq_true', Bool.not_eq_false', beq_self_eq_true, Bool.not_true, Bool.not_false, List.getElem?_toArray, List.getElem?_cons_zero, List.getElem?_cons_succ, e0]
    unfold listT
    rw [if_pos h0]
  · have e0 : ((xs.length : Int) = 0) = False := eq_false (by omega)
    simp (disch := omega) only [↓stq, amv_at, vls, inf, frs, mark_eq, ↓reduceIte, Nat.reduceEqDiff, ite_tt, ite_ff, eq_self, and_true, true_and, and_self, implies_true, Bool.true_eq_false, Bool.false_eq_true, decide_true, decide_false, decide_eq_true_eq, decide_eq_false_iff_not, ne_eq, not_true_eq_false, not_false_eq_true, Bool.not_eq_true', Bool.not_eq_false', beq_self_eq_true, Bool.not_true, Bool.not_false, List.getElem?_toArray, List.getElem?_cons_zero, List.getElem?_cons_succ, e0]
    refine (joinWith_c A _ xs ⟨#[44]⟩ h (by show (joinA [44] xs).length ≤ _; omega)).mono ?_
    rintro _ V ⟨rfl, rfl⟩
    simp (disch := omega) only [↓stq, amv_at, vls, inf, frs, mark_eq, ↓reduceIte, Nat.reduceEqDiff, ite_tt, ite_ff, eq_self, and_true, true_and, and_self, implies_true, Bool.true_eq_false, Bool.false_eq_true, decide_true, decide_false, decide_eq_true_eq, decide_eq_false_iff_not, ne_eq, not_true_eq_false, not_false_eq_true, Bool.not_eq_true', Bool.not_eq_false', beq_self_eq_true, Bool.not_true, Bool.not_false, List.getElem?_toArray, List.getElem?_cons_zero, List.getElem?_cons_succ]
    unfold listT
    rw [if_neg h0]

end Go.Proofs.Ytggklaimbklefaa

/- Texts of suites: what the program writes. -/
set_option maxHeartbeats 4000000
set_option synthInstance.maxHeartbeats 400000
set_option synthInstance.maxSize 4096
set_option linter.unusedSimpArgs false
set_option linter.unusedVariables false
namespace Go.Proofs.Ytggklaimbklefaa

set_option maxRecDepth 100000

theorem impl_SuiteText_c (A : View) (d : List Value) (x : SuiteD) (h : suiteS.rel A x d) (hs0 : x.1.length ≤ 16777215) (hs1 : x.2.1.length ≤ 16777215) : ACalls Try.prog 17 #[.agg d.toArray] A fun r V => r = .string (suiteX x) ∧ Ext A V := by
  have hx := h
  obtain ⟨u0, u1, rfl, g0, g1⟩ := suiteS_open h
  obtain ⟨a0, c0, rfl, _, _⟩ := g0.slice
  obtain ⟨a1, c1, rfl, _, _⟩ := g1.slice
  refine acalls Try.func17 rfl (by kernel_rfl) ?_
  simp (disch := omega) only [↓stq, amv_at, vls, inf, frs, mark_eq, ↓reduceIte, Nat.reduceEqDiff, ite_tt, ite_ff, eq_self, and_true, true_and, and_self, implies_true, Bool.true_eq_false, Bool.false_eq_true, decide_true, decide_false, decide_eq_true_eq, decide_eq_false_iff_not, ne_eq, not_true_eq_false, not_false_eq_true, Bool.not_eq_true', Bool.not_eq_false', beq_self_eq_true, Bool.not_true, Bool.not_false, List.getElem?_toArray, List.getElem?_cons_zero, List.getElem?_cons_succ]
  refine led_box (Led.nil A) rfl fun q V he l => ?_
  have kp : V.part ⟨q, 0, none⟩ 2 = some [.slice a0 x.1.length c0, .slice a1 x.2.1.length c1] := l.part (i := 0) rfl rfl
  simp (disch := omega) only [↓stq, amv_at, vls, inf, frs, mark_eq, ↓reduceIte, Nat.reduceEqDiff, ite_tt, ite_ff, eq_self, and_true, true_and, and_self, implies_true, Bool.true_eq_false, Bool.false_eq_true, decide_true, decide_false, decide_eq_true_eq, decide_eq_false_iff_not, ne_eq, not_true_eq_false, not_false_eq_true, Bool.not_eq_true', Bool.not_eq_false', beq_self_eq_true, Bool.not_true, Bool.not_false, List.getElem?_toArray, List.getElem?_cons_zero, List.getElem?_cons_succ, kp]
  refine (impl_validB_c V _ x (suiteS_mk (g0.mono l.ext) (g1.mono l.ext)) hs0 hs1).mono ?_
  rintro _ V2 ⟨rfl, he2⟩
  replace l := l.step he2
  cases hv : validB x with
  | false =>
    simp (disch := omega) only [↓stq, amv_at, vls, inf, frs, mark_eq, ↓reduceIte, Nat.reduceEqDiff, ite_tt, ite_ff, eq_self, and_true, true_and, and_self, implies_true, Bool.true_eq_false, Bool.false_eq_true, decide_true, decide_false, decide_eq_true_eq, decide_eq_false_iff_not, ne_eq, not_true_eq_false, not_false_eq_true, Bool.not_eq_true', Bool.not_eq_false', beq_self_eq_true, Bool.not_true, Bool.not_false, List.getElem?_toArray, List.getElem?_cons_zero, List.getElem?_cons_succ]
    unfold suiteX
    rw [hv]
    exact ⟨rfl, l.ext⟩
  | true =>
    obtain ⟨hf1, hf2⟩ := valid_fix hv
    obtain ⟨ht1, ht2⟩ := valid_tst hv
    simp (disch := omega) only [↓stq, amv_at, vls, inf, frs, mark_eq, ↓reduceIte, Nat.reduceEqDiff, ite_tt, ite_ff, eq_self, and_true, true_and, and_self, implies_true, Bool.true_eq_false, Bool.false_eq_true, decide_true, decide_false, decide_eq_true_eq, decide_eq_false_iff_not, ne_eq, not_true_eq_false, not_false_eq_true, Bool.not_eq_true', Bool.not_eq_false', beq_self_eq_true, Bool.not_true, Bool.not_false, List.getElem?_toArray, List.getElem?_cons_zero, List.getElem?_cons_succ]
    refine led_alloc zc62 l fun q3 V _ l => ?_
    have m0 := l.cell (i := 1) rfl (o := 0) rfl rfl
    replace l := wb_new l
    simp (disch := omega) only [↓stq, amv_at, vls, inf, frs, mark_eq, ↓reduceIte, Nat.reduceEqDiff, ite_tt, ite_ff, eq_self, and_true, true_and, and_self, implies_true, Bool.true_eq_false, Bool.false_eq_true, decide_true, decide_false, decide_eq_true_eq, decide_eq_false_iff_not, ne_eq, not_true_eq_false, not_false_eq_true, Bool.not_eq_true', Bool.not_eq_false', beq_self_eq_true, Bool.not_true, Bool.not_false, List.getElem?_toArray, List.getElem?_cons_zero, List.getElem?_cons_succ, add_at, m0]
    refine aloop (fun d fr V => ∃ (i : Nat) (fp : List Nat), i ≤ x.1.length ∧ d = x.1.length - i ∧ Led A (wb q3 fp ((x.1.take i).flatMap fixL) :: [bx q ⟨41, [.slice a0 x.1.length c0, .slice a1 x.2.1.length c1], 2, true⟩]) V ∧ fr 1 = .pointer (some ⟨q, 0, none⟩) ∧ fr 3 = .pointer (some ⟨q3, 0, none⟩) ∧ fr 12 = .slice a0 x.1.length c0 ∧ fr 13 = .int .i64 x.1.length ∧ fr 14 = .int .i64 i) x.1.length ⟨0, [], by omega, by omega, l, rfl, rfl, rfl, rfl, rfl⟩ ?_
    clear l m0 kp
    rintro d fr V ⟨i, fp, hi, rfl, l, h1, h3, h12, h13, h14⟩
    simp (disch := omega) only [↓stq, amv_at, vls, inf, frs, mark_eq, ↓reduceIte, Nat.reduceEqDiff, ite_tt, ite_ff, eq_self, and_true, true_and, and_self, implies_true, Bool.true_eq_false, Bool.false_eq_true, decide_true, decide_false, decide_eq_true_eq, decide_eq_false_iff_not, ne_eq, not_true_eq_false, not_false_eq_true, Bool.not_eq_true', Bool.not_eq_false', beq_self_eq_true, Bool.not_true, Bool.not_false, List.getElem?_toArray, List.getElem?_cons_zero, List.getElem?_cons_succ, h1, h3, h12, h13, h14]
    have hsz1 : ((x.1.take i).flatMap fixL).length ≤ 420 := by
      have := flat_len (g := fixL) (m := 70) (xs := x.1.take i) fun f hf => fixL_len (hf2 f (List.mem_of_mem_take hf)).2.1 (hf2 f (List.mem_of_mem_take hf)).2.2
      rw [List.length_take] at this
      omega
    refine ⟨fun e1 => ?_, fun e1 => ?_⟩
    · have hlt : i < x.1.length := by omega
      obtain ⟨hk, hn1, hn2⟩ := hf2 x.1[i] (List.getElem_mem hlt)
      have hfz := fixT_size hn1 hn2
      have hlz := listT_size (m := 4) hn2 (by omega)
      obtain ⟨hnl, hnj⟩ := names_len (m := 4) hn2 (by omega)
      have hsw := scopeW_size x.1[i].2.1
      obtain ⟨ad, u2, rfl, hclA, _, _, f2⟩ := g0.fixture hlt
      have hcl := l.ext.part hclA
      have hS0 := f2.mono l.ext
      obtain ⟨a2, c2, rfl, _, _⟩ := hS0.slice
      have hnx := flat_take (g := fixL) hlt
      simp (disch := omega) only [↓stq, amv_at, vls, inf, frs, mark_eq, ↓reduceIte, Nat.reduceEqDiff, ite_tt, ite_ff, eq_self, and_true, true_and, and_self, implies_true, Bool.true_eq_false, Bool.false_eq_true, decide_true, decide_false, decide_eq_true_eq, decide_eq_false_iff_not, ne_eq, not_true_eq_false, not_false_eq_true, Bool.not_eq_true', Bool.not_eq_false', beq_self_eq_true, Bool.not_true, Bool.not_false, List.getElem?_toArray, List.getElem?_cons_zero, List.getElem?_cons_succ, h1, h3, h12, h13, h14, hcl]
      refine led_alloc zc75 l fun q5 V5 _ l => ?_
      simp (disch := omega) only [↓stq, amv_at, vls, inf, frs, mark_eq, ↓reduceIte, Nat.reduceEqDiff, ite_tt, ite_ff, eq_self, and_true, true_and, and_self, implies_true, Bool.true_eq_false, Bool.false_eq_true, decide_true, decide_false, decide_eq_true_eq, decide_eq_false_iff_not, ne_eq, not_true_eq_false, not_false_eq_true, Bool.not_eq_true', Bool.not_eq_false', beq_self_eq_true, Bool.not_true, Bool.not_false, List.getElem?_toArray, List.getElem?_cons_zero, List.getElem?_cons_succ, h1, h3, h12, h13, h14]
      refine led_storeAll l 0 rfl sz75 rfl rfl (by simp [Value.oneCell']) fun V l => ?_
      have m0 := l.cell (i := 0) rfl (o := 0) rfl rfl
      have m1 := l.cell (i := 0) rfl (o := 1) rfl rfl
      have m2 := l.cell (i := 0) rfl (o := 2) rfl rfl
      simp (disch := omega) only [↓stq, amv_at, vls, inf, frs, mark_eq, ↓reduceIte, Nat.reduceEqDiff, ite_tt, ite_ff, eq_self, and_true, true_and, and_self, implies_true, Bool.true_eq_false, Bool.false_eq_true, decide_true, decide_false, decide_eq_true_eq, decide_eq_false_iff_not, ne_eq, not_true_eq_false, not_false_eq_true, Bool.not_eq_true', Bool.not_eq_false', beq_self_eq_true, Bool.not_true, Bool.not_false, List.getElem?_toArray, List.getElem?_cons_zero, List.getElem?_cons_succ, h1, h3, h12, h13, h14]
      refine adraw_items [.q 0, .l 1 true, .q 2, .q 3, .q 5, .l 6 true, .q 11, .l 12 true, .c 4 [1, 6, 12], .q 7, .l 8 true, .q 9, .q 10, .c 13 [1, 6, 8], .q 14, .c 15 []] (by kernel_rfl) (by kernel_rfl) ?_
      have e8 : (⟨#[102, 105, 120, 116, 117, 114, 101, 32]⟩ : ByteArray).size = 8 := rfl
      have e9 : (⟨#[32]⟩ : ByteArray).size = 1 := rfl
      have s1 := ByteArray.size_append (a := ⟨#[102, 105, 120, 116, 117, 114, 101, 32]⟩) (b := x.1[i].1)
      have s2 := ByteArray.size_append (a := ⟨#[102, 105, 120, 116, 117, 114, 101, 32]⟩ ++ x.1[i].1) (b := ⟨#[32]⟩)
      have s3 := ByteArray.size_append (a := ⟨#[102, 105, 120, 116, 117, 114, 101, 32]⟩ ++ x.1[i].1 ++ ⟨#[32]⟩) (b := scopeW x.1[i].2.1)
      have s4 := ByteArray.size_append (a := ⟨#[102, 105, 120, 116, 117, 114, 101, 32]⟩ ++ x.1[i].1 ++ ⟨#[32]⟩ ++ scopeW x.1[i].2.1) (b := ⟨#[32]⟩)
      have m3 := l.cell (i := 0) rfl (o := 3) rfl rfl
      simp (disch := omega) only [↓stq, amv_at, ↓pln, plv, nilOk, Nat.reduceBEq, Bool.or_false, Bool.or_true, Bool.false_or, Bool.true_or, vls, inf, frs, mark_eq, ↓reduceIte, Nat.reduceEqDiff, ite_tt, ite_ff, eq_self, and_true, true_and, and_self, implies_true, Bool.true_eq_false, Bool.false_eq_true, decide_true, decide_false, decide_eq_true_eq, decide_eq_false_iff_not, ne_eq, not_true_eq_false, not_false_eq_true, Bool.not_eq_true', Bool.not_eq_false', beq_self_eq_true, Bool.not_true, Bool.not_false, List.getElem?_toArray, List.getElem?_cons_zero, List.getElem?_cons_succ, h1, h3, h12, h13, h14, add_at, m0, m1, m2]
      refine (impl_scopeWords_c V).mono ?_
      rintro _ V3 ⟨bw, rfl, lw⟩
      replace l := l.append lw
      have m0 := lw.ext.cell m0
      have m1 := lw.ext.cell m1
      have m2 := lw.ext.cell m2
      have m3 := lw.ext.cell m3
      have hS1 := (f2.mono l.ext)
      have hw := scope_cell (k := x.1[i].2.1) (lw.at (i := 0) rfl) hk
      have hk0 := hk.1
      have hk1 := hk.2
      clear lw
      simp (disch := omega) only [↓stq, amv_at, ↓pln, plv, nilOk, Nat.reduceBEq, Bool.or_false, Bool.or_true, Bool.false_or, Bool.true_or, vls, inf, frs, mark_eq, ↓reduceIte, Nat.reduceEqDiff, ite_tt, ite_ff, eq_self, and_true, true_and, and_self, implies_true, Bool.true_eq_false, Bool.false_eq_true, decide_true, decide_false, decide_eq_true_eq, decide_eq_false_iff_not, ne_eq, not_true_eq_false, not_false_eq_true, Bool.not_eq_true', Bool.not_eq_false', beq_self_eq_true, Bool.not_true, Bool.not_false, List.getElem?_toArray, List.getElem?_cons_zero, List.getElem?_cons_succ, h1, h3, h12, h13, h14, add_at, m0, m1, m2, hw]
      refine (impl_commas_c V3 _ _ hS1 (by omega) hnj).mono ?_
      rintro _ V4 ⟨rfl, he4⟩
      replace l := l.step he4
      have m0 := he4.cell m0
      have m1 := he4.cell m1
      have m2 := he4.cell m2
      have m3 := he4.cell m3
      have hw := he4.cell hw
      simp (disch := omega) only [↓stq, amv_at, ↓pln, plv, nilOk, Nat.reduceBEq, Bool.or_false, Bool.or_true, Bool.false_or, Bool.true_or, vls, inf, frs, mark_eq, ↓reduceIte, Nat.reduceEqDiff, ite_tt, ite_ff, eq_self, and_true, true_and, and_self, implies_true, Bool.true_eq_false, Bool.false_eq_true, decide_true, decide_false, decide_eq_true_eq, decide_eq_false_iff_not, ne_eq, not_true_eq_false, not_false_eq_true, Bool.not_eq_true', Bool.not_eq_false', beq_self_eq_true, Bool.not_true, Bool.not_false, List.getElem?_toArray, List.getElem?_cons_zero, List.getElem?_cons_succ, h1, h3, h12, h13, h14, add_at, m0, m1, m2, hw]
      replace l := l.perm (M := wb q3 fp ((x.1.take i).flatMap fixL) :: [bx bw _, bx q5 _, bx q _]) ((List.Perm.swap ..).trans ((List.Perm.swap ..).cons _))
      refine (writeString_c A V4 _ q3 fp _ (fixT x.1[i]) (by omega) l).mono ?_
      rintro _ V5 ⟨rfl, fp5, l⟩
      simp (disch := omega) only [↓stq, amv_at, ↓pln, plv, nilOk, Nat.reduceBEq, Bool.or_false, Bool.or_true, Bool.false_or, Bool.true_or, vls, inf, frs, mark_eq, ↓reduceIte, Nat.reduceEqDiff, ite_tt, ite_ff, eq_self, and_true, true_and, and_self, implies_true, Bool.true_eq_false, Bool.false_eq_true, decide_true, decide_false, decide_eq_true_eq, decide_eq_false_iff_not, ne_eq, not_true_eq_false, not_false_eq_true, Bool.not_eq_true', Bool.not_eq_false', beq_self_eq_true, Bool.not_true, Bool.not_false, List.getElem?_toArray, List.getElem?_cons_zero, List.getElem?_cons_succ, h1, h3, h12, h13, h14, false_implies]
      replace m3 := l.cell (i := 2) rfl (o := 3) rfl rfl
      have hT : (((x.1.take i).flatMap fixL) ++ (fixT x.1[i]).data.toList).length ≤ 484 := by
        rw [List.length_append, dsize]
        omega
      have ea : (⟨#[32, 97, 117, 116, 111]⟩ : ByteArray).size = 5 := rfl
      have en : (⟨#[10]⟩ : ByteArray).size = 1 := rfl
      cases hau : x.1[i].2.2.2.1 with
      | true =>
        rw [hau] at m3 l
        simp (disch := omega) only [↓stq, amv_at, vls, inf, frs, mark_eq, ↓reduceIte, Nat.reduceEqDiff, ite_tt, ite_ff, eq_self, and_true, true_and, and_self, implies_true, Bool.true_eq_false, Bool.false_eq_true, decide_true, decide_false, decide_eq_true_eq, decide_eq_false_iff_not, ne_eq, not_true_eq_false, not_false_eq_true, Bool.not_eq_true', Bool.not_eq_false', beq_self_eq_true, Bool.not_true, Bool.not_false, List.getElem?_toArray, List.getElem?_cons_zero, List.getElem?_cons_succ, h1, h3, h12, h13, h14, add_at, m3]
        refine (writeString_c A V5 _ q3 fp5 _ ⟨#[32, 97, 117, 116, 111]⟩ (by omega) l).mono ?_
        rintro _ V6 ⟨rfl, fp6, l⟩
        simp (disch := omega) only [↓stq, amv_at, vls, inf, frs, mark_eq, ↓reduceIte, Nat.reduceEqDiff, ite_tt, ite_ff, eq_self, and_true, true_and, and_self, implies_true, Bool.true_eq_false, Bool.false_eq_true, decide_true, decide_false, decide_eq_true_eq, decide_eq_false_iff_not, ne_eq, not_true_eq_false, not_false_eq_true, Bool.not_eq_true', Bool.not_eq_false', beq_self_eq_true, Bool.not_true, Bool.not_false, List.getElem?_toArray, List.getElem?_cons_zero, List.getElem?_cons_succ, h1, h3, h12, h13, h14]
        refine (writeString_c A V6 _ q3 fp6 _ ⟨#[10]⟩ (by rw [List.length_append, dsize]; omega) l).mono ?_
        rintro _ V7 ⟨rfl, fp7, l⟩
        simp (disch := omega) only [↓stq, amv_at, vls, inf, frs, mark_eq, ↓reduceIte, Nat.reduceEqDiff, ite_tt, ite_ff, eq_self, and_true, true_and, and_self, implies_true, Bool.true_eq_false, Bool.false_eq_true, decide_true, decide_false, decide_eq_true_eq, decide_eq_false_iff_not, ne_eq, not_true_eq_false, not_false_eq_true, Bool.not_eq_true', Bool.not_eq_false', beq_self_eq_true, Bool.not_true, Bool.not_false, List.getElem?_toArray, List.getElem?_cons_zero, List.getElem?_cons_succ, h1, h3, h12, h13, h14]
        refine ⟨_, by omega, i + 1, fp7, by omega, rfl, ?_, rfl⟩
        have e : ((x.1.take i).flatMap fixL ++ (fixT x.1[i]).data.toList) ++ (⟨#[32, 97, 117, 116, 111]⟩ : ByteArray).data.toList ++ (⟨#[10]⟩ : ByteArray).data.toList = (x.1.take (i + 1)).flatMap fixL := by
          rw [hnx]
          unfold fixL autoT
          rw [hau]
          simp
        rw [← e]
        exact l.sub (.cons_cons _ (.cons _ (.cons _ (List.Sublist.refl _))))
      | false =>
        rw [hau] at m3 l
        simp (disch := omega) only [↓stq, amv_at, vls, inf, frs, mark_eq, ↓reduceIte, Nat.reduceEqDiff, ite_tt, ite_ff, eq_self, and_true, true_and, and_self, implies_true, Bool.true_eq_false, Bool.false_eq_true, decide_true, decide_false, decide_eq_true_eq, decide_eq_false_iff_not, ne_eq, not_true_eq_false, not_false_eq_true, Bool.not_eq_true', Bool.not_eq_false', beq_self_eq_true, Bool.not_true, Bool.not_false, List.getElem?_toArray, List.getElem?_cons_zero, List.getElem?_cons_succ, h1, h3, h12, h13, h14, add_at, m3]
        refine (writeString_c A V5 _ q3 fp5 _ ⟨#[10]⟩ (by omega) l).mono ?_
        rintro _ V7 ⟨rfl, fp7, l⟩
        simp (disch := omega) only [↓stq, amv_at, vls, inf, frs, mark_eq, ↓reduceIte, Nat.reduceEqDiff, ite_tt, ite_ff, eq_self, and_true, true_and, and_self, implies_true, Bool.true_eq_false, Bool.false_eq_true, decide_true, decide_false, decide_eq_true_eq, decide_eq_false_iff_not, ne_eq, not_true_eq_false, not_false_eq_true, Bool.not_eq_true', Bool.not_eq_false', beq_self_eq_true, Bool.not_true, Bool.not_false, List.getElem?_toArray, List.getElem?_cons_zero, List.getElem?_cons_succ, h1, h3, h12, h13, h14]
        refine ⟨_, by omega, i + 1, fp7, by omega, rfl, ?_, rfl⟩
        have e : ((x.1.take i).flatMap fixL ++ (fixT x.1[i]).data.toList) ++ (⟨#[10]⟩ : ByteArray).data.toList = (x.1.take (i + 1)).flatMap fixL := by
          rw [hnx]
          unfold fixL autoT
          rw [hau]
          simp
        rw [← e]
        exact l.sub (.cons_cons _ (.cons _ (.cons _ (List.Sublist.refl _))))
    · have hie : i = x.1.length := by omega
      subst hie
      rw [List.take_length] at l hsz1
      have k1 := l.cell (i := 1) rfl (o := 1) rfl rfl
      simp (disch := omega) only [↓stq, amv_at, vls, inf, frs, mark_eq, ↓reduceIte, Nat.reduceEqDiff, ite_tt, ite_ff, eq_self, and_true, true_and, and_self, implies_true, Bool.true_eq_false, Bool.false_eq_true, decide_true, decide_false, decide_eq_true_eq, decide_eq_false_iff_not, ne_eq, not_true_eq_false, not_false_eq_true, Bool.not_eq_true', Bool.not_eq_false', beq_self_eq_true, Bool.not_true, Bool.not_false, List.getElem?_toArray, List.getElem?_cons_zero, List.getElem?_cons_succ, h1, h3, h12, h13, h14, add_at, k1]
      refine aloop (fun d fr V => ∃ (i : Nat) (fp : List Nat), i ≤ x.2.1.length ∧ d = x.2.1.length - i ∧ Led A (wb q3 fp (x.1.flatMap fixL ++ (x.2.1.take i).flatMap tstL) :: [bx q ⟨41, [.slice a0 x.1.length c0, .slice a1 x.2.1.length c1], 2, true⟩]) V ∧ fr 3 = .pointer (some ⟨q3, 0, none⟩) ∧ fr 40 = .slice a1 x.2.1.length c1 ∧ fr 41 = .int .i64 x.2.1.length ∧ fr 42 = .int .i64 i) x.2.1.length ⟨0, fp, by omega, by omega, by rw [List.take_zero, List.flatMap_nil, List.append_nil]; exact l, by simp (disch := omega) only [↓stq, amv_at, vls, inf, frs, mark_eq, ↓reduceIte, Nat.reduceEqDiff, ite_tt, ite_ff, eq_self, and_true, true_and, and_self, implies_true, Bool.true_eq_false, Bool.false_eq_true, decide_true, decide_false, decide_eq_true_eq, decide_eq_false_iff_not, ne_eq, not_true_eq_false, not_false_eq_true, Bool.not_eq_true', Bool.not_eq_false', beq_self_eq_true, Bool.not_true, Bool.not_false, List.getElem?_toArray, List.getElem?_cons_zero, List.getElem?_cons_succ, h1, h3, h12, h13, h14], rfl, rfl, rfl⟩ ?_
      clear l k1 h1 h3 h12 h13 h14
      rintro d fr V ⟨i, fp, hi, rfl, l, h3, h40, h41, h42⟩
      have hsz2 : ((x.2.1.take i).flatMap tstL).length ≤ 1050 := by
        have := flat_len (g := tstL) (m := 105) (xs := x.2.1.take i) fun t ht => by
          have h := ht2 t (List.mem_of_mem_take ht)
          have := tstT_size h.1 h.2.1 h.2.2.1 h.2.2.2
          unfold tstL
          rw [dsize]
          exact this
        rw [List.length_take] at this
        omega
      simp (disch := omega) only [↓stq, amv_at, vls, inf, frs, mark_eq, ↓reduceIte, Nat.reduceEqDiff, ite_tt, ite_ff, eq_self, and_true, true_and, and_self, implies_true, Bool.true_eq_false, Bool.false_eq_true, decide_true, decide_false, decide_eq_true_eq, decide_eq_false_iff_not, ne_eq, not_true_eq_false, not_false_eq_true, Bool.not_eq_true', Bool.not_eq_false', beq_self_eq_true, Bool.not_true, Bool.not_false, List.getElem?_toArray, List.getElem?_cons_zero, List.getElem?_cons_succ, h3, h40, h41, h42]
      refine ⟨fun e1 => ?_, fun e1 => ?_⟩
      · have hlt : i < x.2.1.length := by omega
        obtain ⟨hn1, hn2, hm3, hn4⟩ := ht2 x.2.1[i] (List.getElem_mem hlt)
        have htz := tstT_size hn1 hn2 hm3 hn4
        have hlz3 := listT_size (m := 3) hm3 (by omega)
        have hlz4 := listT_size (m := 4) hn4 (by omega)
        obtain ⟨hnl3, hnj3⟩ := names_len (m := 3) hm3 (by omega)
        obtain ⟨hnl4, hnj4⟩ := names_len (m := 4) hn4 (by omega)
        have hid := idD_size x.2.1[i]
        obtain ⟨ad, u2, u3, rfl, hclA, z1, z2, f2, f3⟩ := g1.test hlt
        have hcl := l.ext.part hclA
        obtain ⟨a2, c2, rfl, _, _⟩ := f2.slice
        obtain ⟨a3, c3, rfl, _, _⟩ := f3.slice
        have hnx := flat_take (g := tstL) hlt
        simp (disch := omega) only [↓stq, amv_at, vls, inf, frs, mark_eq, ↓reduceIte, Nat.reduceEqDiff, ite_tt, ite_ff, eq_self, and_true, true_and, and_self, implies_true, Bool.true_eq_false, Bool.false_eq_true, decide_true, decide_false, decide_eq_true_eq, decide_eq_false_iff_not, ne_eq, not_true_eq_false, not_false_eq_true, Bool.not_eq_true', Bool.not_eq_false', beq_self_eq_true, Bool.not_true, Bool.not_false, List.getElem?_toArray, List.getElem?_cons_zero, List.getElem?_cons_succ, h3, h40, h41, h42, hcl]
        refine led_alloc zc78 l fun q7 V5 _ l => ?_
        simp (disch := omega) only [↓stq, amv_at, vls, inf, frs, mark_eq, ↓reduceIte, Nat.reduceEqDiff, ite_tt, ite_ff, eq_self, and_true, true_and, and_self, implies_true, Bool.true_eq_false, Bool.false_eq_true, decide_true, decide_false, decide_eq_true_eq, decide_eq_false_iff_not, ne_eq, not_true_eq_false, not_false_eq_true, Bool.not_eq_true', Bool.not_eq_false', beq_self_eq_true, Bool.not_true, Bool.not_false, List.getElem?_toArray, List.getElem?_cons_zero, List.getElem?_cons_succ, h3, h40, h41, h42]
        refine led_storeAll l 0 rfl sz78 rfl rfl (by simp [Value.oneCell']) fun V l => ?_
        have kp : V.part ⟨q7, 0, none⟩ 4 = some [.string x.2.1[i].1, .string x.2.1[i].2.1, .slice a2 x.2.1[i].2.2.1.length c2, .slice a3 x.2.1[i].2.2.2.1.length c3] := l.partn (i := 0) rfl rfl (by simp [Value.oneCell'])
        have m2 := l.cell (i := 0) rfl (o := 2) rfl rfl
        have m3 := l.cell (i := 0) rfl (o := 3) rfl rfl
        simp (disch := omega) only [↓stq, amv_at, vls, inf, frs, mark_eq, ↓reduceIte, Nat.reduceEqDiff, ite_tt, ite_ff, eq_self, and_true, true_and, and_self, implies_true, Bool.true_eq_false, Bool.false_eq_true, decide_true, decide_false, decide_eq_true_eq, decide_eq_false_iff_not, ne_eq, not_true_eq_false, not_false_eq_true, Bool.not_eq_true', Bool.not_eq_false', beq_self_eq_true, Bool.not_true, Bool.not_false, List.getElem?_toArray, List.getElem?_cons_zero, List.getElem?_cons_succ, h3, h40, h41, h42]
        refine adraw_items [.l 0 false, .q 4, .l 5 true, .q 9, .l 10 true, .c 1 [5, 10], .q 2, .q 3, .c 6 [10], .q 7, .q 8, .c 11 [], .q 12, .q 13, .c 14 []] (by kernel_rfl) (by kernel_rfl) ?_
        have e8 : (⟨#[116, 101, 115, 116, 32]⟩ : ByteArray).size = 5 := rfl
        have e9 : (⟨#[32]⟩ : ByteArray).size = 1 := rfl
        have en : (⟨#[10]⟩ : ByteArray).size = 1 := rfl
        have s1 := ByteArray.size_append (a := ⟨#[116, 101, 115, 116, 32]⟩) (b := idD x.2.1[i])
        have s2 := ByteArray.size_append (a := ⟨#[116, 101, 115, 116, 32]⟩ ++ idD x.2.1[i]) (b := ⟨#[32]⟩)
        have s3 := ByteArray.size_append (a := ⟨#[116, 101, 115, 116, 32]⟩ ++ idD x.2.1[i] ++ ⟨#[32]⟩) (b := listT x.2.1[i].2.2.1)
        have s4 := ByteArray.size_append (a := ⟨#[116, 101, 115, 116, 32]⟩ ++ idD x.2.1[i] ++ ⟨#[32]⟩ ++ listT x.2.1[i].2.2.1) (b := ⟨#[32]⟩)
        have s5 := ByteArray.size_append (a := ⟨#[116, 101, 115, 116, 32]⟩ ++ idD x.2.1[i] ++ ⟨#[32]⟩ ++ listT x.2.1[i].2.2.1 ++ ⟨#[32]⟩) (b := listT x.2.1[i].2.2.2.1)
        simp (disch := omega) only [↓stq, amv_at, ↓pln, plv, nilOk, Nat.reduceBEq, Bool.or_false, Bool.or_true, Bool.false_or, Bool.true_or, vls, inf, frs, mark_eq, ↓reduceIte, Nat.reduceEqDiff, ite_tt, ite_ff, eq_self, and_true, true_and, and_self, implies_true, Bool.true_eq_false, Bool.false_eq_true, decide_true, decide_false, decide_eq_true_eq, decide_eq_false_iff_not, ne_eq, not_true_eq_false, not_false_eq_true, Bool.not_eq_true', Bool.not_eq_false', beq_self_eq_true, Bool.not_true, Bool.not_false, List.getElem?_toArray, List.getElem?_cons_zero, List.getElem?_cons_succ, h3, h40, h41, h42, add_at, kp, m2, m3]
        refine (impl_idOf_c V _ x.2.1[i] (testS_mk z1 z2 (f2.mono l.ext) (f3.mono l.ext))).mono ?_
        rintro _ V2 ⟨rfl, he2⟩
        replace l := l.step he2
        have kp := he2.part kp
        have m2 := he2.cell m2
        have m3 := he2.cell m3
        simp (disch := omega) only [↓stq, amv_at, ↓pln, plv, nilOk, Nat.reduceBEq, Bool.or_false, Bool.or_true, Bool.false_or, Bool.true_or, vls, inf, frs, mark_eq, ↓reduceIte, Nat.reduceEqDiff, ite_tt, ite_ff, eq_self, and_true, true_and, and_self, implies_true, Bool.true_eq_false, Bool.false_eq_true, decide_true, decide_false, decide_eq_true_eq, decide_eq_false_iff_not, ne_eq, not_true_eq_false, not_false_eq_true, Bool.not_eq_true', Bool.not_eq_false', beq_self_eq_true, Bool.not_true, Bool.not_false, List.getElem?_toArray, List.getElem?_cons_zero, List.getElem?_cons_succ, h3, h40, h41, h42, add_at, kp, m2, m3]
        refine (impl_commas_c V2 _ _ (f2.mono l.ext) (by omega) hnj3).mono ?_
        rintro _ V3 ⟨rfl, he3⟩
        replace l := l.step he3
        have kp := he3.part kp
        have m2 := he3.cell m2
        have m3 := he3.cell m3
        simp (disch := omega) only [↓stq, amv_at, ↓pln, plv, nilOk, Nat.reduceBEq, Bool.or_false, Bool.or_true, Bool.false_or, Bool.true_or, vls, inf, frs, mark_eq, ↓reduceIte, Nat.reduceEqDiff, ite_tt, ite_ff, eq_self, and_true, true_and, and_self, implies_true, Bool.true_eq_false, Bool.false_eq_true, decide_true, decide_false, decide_eq_true_eq, decide_eq_false_iff_not, ne_eq, not_true_eq_false, not_false_eq_true, Bool.not_eq_true', Bool.not_eq_false', beq_self_eq_true, Bool.not_true, Bool.not_false, List.getElem?_toArray, List.getElem?_cons_zero, List.getElem?_cons_succ, h3, h40, h41, h42, add_at, kp, m2, m3]
        refine (impl_commas_c V3 _ _ (f3.mono l.ext) (by omega) hnj4).mono ?_
        rintro _ V4 ⟨rfl, he4⟩
        replace l := l.step he4
        have kp := he4.part kp
        have m2 := he4.cell m2
        have m3 := he4.cell m3
        simp (disch := omega) only [↓stq, amv_at, ↓pln, plv, nilOk, Nat.reduceBEq, Bool.or_false, Bool.or_true, Bool.false_or, Bool.true_or, vls, inf, frs, mark_eq, ↓reduceIte, Nat.reduceEqDiff, ite_tt, ite_ff, eq_self, and_true, true_and, and_self, implies_true, Bool.true_eq_false, Bool.false_eq_true, decide_true, decide_false, decide_eq_true_eq, decide_eq_false_iff_not, ne_eq, not_true_eq_false, not_false_eq_true, Bool.not_eq_true', Bool.not_eq_false', beq_self_eq_true, Bool.not_true, Bool.not_false, List.getElem?_toArray, List.getElem?_cons_zero, List.getElem?_cons_succ, h3, h40, h41, h42, add_at, kp, m2, m3]
        replace l := l.perm (M := wb q3 fp (x.1.flatMap fixL ++ (x.2.1.take i).flatMap tstL) :: [bx q7 _, bx q _]) (List.Perm.swap ..)
        refine (writeString_c A V4 _ q3 fp _ (tstT x.2.1[i]) (by rw [List.length_append]; omega) l).mono ?_
        rintro _ V5 ⟨rfl, fp5, l⟩
        simp (disch := omega) only [↓stq, amv_at, ↓pln, plv, nilOk, Nat.reduceBEq, Bool.or_false, Bool.or_true, Bool.false_or, Bool.true_or, vls, inf, frs, mark_eq, ↓reduceIte, Nat.reduceEqDiff, ite_tt, ite_ff, eq_self, and_true, true_and, and_self, implies_true, Bool.true_eq_false, Bool.false_eq_true, decide_true, decide_false, decide_eq_true_eq, decide_eq_false_iff_not, ne_eq, not_true_eq_false, not_false_eq_true, Bool.not_eq_true', Bool.not_eq_false', beq_self_eq_true, Bool.not_true, Bool.not_false, List.getElem?_toArray, List.getElem?_cons_zero, List.getElem?_cons_succ, h3, h40, h41, h42, false_implies]
        refine ⟨_, by omega, i + 1, fp5, by omega, rfl, ?_, rfl⟩
        rw [hnx, ← List.append_assoc]
        exact l.sub (.cons_cons _ (.cons _ (List.Sublist.refl _)))
      · have hie : i = x.2.1.length := by omega
        subst hie
        rw [List.take_length] at l hsz2
        simp (disch := omega) only [↓stq, amv_at, vls, inf, frs, mark_eq, ↓reduceIte, Nat.reduceEqDiff, ite_tt, ite_ff, eq_self, and_true, true_and, and_self, implies_true, Bool.true_eq_false, Bool.false_eq_true, decide_true, decide_false, decide_eq_true_eq, decide_eq_false_iff_not, ne_eq, not_true_eq_false, not_false_eq_true, Bool.not_eq_true', Bool.not_eq_false', beq_self_eq_true, Bool.not_true, Bool.not_false, List.getElem?_toArray, List.getElem?_cons_zero, List.getElem?_cons_succ, h3, h40, h41, h42]
        refine (string_c A V _ q3 fp _ (by rw [List.length_append]; omega) l).mono ?_
        rintro _ V2 ⟨rfl, l⟩
        simp (disch := omega) only [↓stq, amv_at, vls, inf, frs, mark_eq, ↓reduceIte, Nat.reduceEqDiff, ite_tt, ite_ff, eq_self, and_true, true_and, and_self, implies_true, Bool.true_eq_false, Bool.false_eq_true, decide_true, decide_false, decide_eq_true_eq, decide_eq_false_iff_not, ne_eq, not_true_eq_false, not_false_eq_true, Bool.not_eq_true', Bool.not_eq_false', beq_self_eq_true, Bool.not_true, Bool.not_false, List.getElem?_toArray, List.getElem?_cons_zero, List.getElem?_cons_succ, h3, h40, h41, h42]
        unfold suiteX
        rw [if_pos hv]
        exact ⟨rfl, l.ext⟩

end Go.Proofs.Ytggklaimbklefaa

/- Texts of suites: what the reference writes. -/
set_option maxHeartbeats 4000000
set_option synthInstance.maxHeartbeats 400000
set_option synthInstance.maxSize 4096
set_option linter.unusedSimpArgs false
set_option linter.unusedVariables false
namespace Go.Proofs.Ytggklaimbklefaa

set_option maxRecDepth 100000

theorem spec_suiteText_c (A : View) (d : List Value) (x : SuiteD) (h : suiteS.rel A x d) (hv : validB x = true) : ACalls Try.prog 38 #[.agg d.toArray] A fun r V => r = .string (Bt (suiteL x)) ∧ Ext A V := by
  obtain ⟨u0, u1, rfl, g0, g1⟩ := suiteS_open h
  obtain ⟨a0, c0, rfl, _, _⟩ := g0.slice
  obtain ⟨a1, c1, rfl, _, _⟩ := g1.slice
  obtain ⟨hf1, hf2⟩ := valid_fix hv
  obtain ⟨ht1, ht2⟩ := valid_tst hv
  refine acalls Try.func38 rfl (by kernel_rfl) ?_
  simp (disch := omega) only [↓stq, amv_at, vls, inf, frs, mark_eq, ↓reduceIte, Nat.reduceEqDiff, ite_tt, ite_ff, eq_self, and_true, true_and, and_self, implies_true, Bool.true_eq_false, Bool.false_eq_true, decide_true, decide_false, decide_eq_true_eq, decide_eq_false_iff_not, ne_eq, not_true_eq_false, not_false_eq_true, Bool.not_eq_true', Bool.not_eq_false', beq_self_eq_true, Bool.not_true, Bool.not_false, List.getElem?_toArray, List.getElem?_cons_zero, List.getElem?_cons_succ]
  refine led_box (Led.nil A) rfl fun q V he l => ?_
  simp (disch := omega) only [↓stq, amv_at, vls, inf, frs, mark_eq, ↓reduceIte, Nat.reduceEqDiff, ite_tt, ite_ff, eq_self, and_true, true_and, and_self, implies_true, Bool.true_eq_false, Bool.false_eq_true, decide_true, decide_false, decide_eq_true_eq, decide_eq_false_iff_not, ne_eq, not_true_eq_false, not_false_eq_true, Bool.not_eq_true', Bool.not_eq_false', beq_self_eq_true, Bool.not_true, Bool.not_false, List.getElem?_toArray, List.getElem?_cons_zero, List.getElem?_cons_succ]
  refine aloop (fun d fr V => ∃ (i : Nat), i ≤ x.1.length ∧ d = x.1.length - i ∧ Led A [bx q ⟨41, [.slice a0 x.1.length c0, .slice a1 x.2.1.length c1], 2, true⟩] V ∧ fr 1 = .pointer (some ⟨q, 0, none⟩) ∧ fr 3 = .string (Bt ((x.1.take i).flatMap fixL)) ∧ fr 4 = .int .i64 i) x.1.length ⟨0, by omega, by omega, l, rfl, rfl, rfl⟩ ?_
  clear l he
  rintro d fr V ⟨i, hi, rfl, l, h1, h3, h4⟩
  have k0 := l.cell (i := 0) rfl (o := 0) rfl rfl
  simp (disch := omega) only [↓stq, amv_at, vls, inf, frs, mark_eq, ↓reduceIte, Nat.reduceEqDiff, ite_tt, ite_ff, eq_self, and_true, true_and, and_self, implies_true, Bool.true_eq_false, Bool.false_eq_true, decide_true, decide_false, decide_eq_true_eq, decide_eq_false_iff_not, ne_eq, not_true_eq_false, not_false_eq_true, Bool.not_eq_true', Bool.not_eq_false', beq_self_eq_true, Bool.not_true, Bool.not_false, List.getElem?_toArray, List.getElem?_cons_zero, List.getElem?_cons_succ, h1, h3, h4, add_at, k0]
  have hsz1 : ((x.1.take i).flatMap fixL).length ≤ 420 := by
    have := flat_len (g := fixL) (m := 70) (xs := x.1.take i) fun f hf => fixL_len (hf2 f (List.mem_of_mem_take hf)).2.1 (hf2 f (List.mem_of_mem_take hf)).2.2
    rw [List.length_take] at this
    omega
  refine ⟨fun e1 => ?_, fun e1 => ?_⟩
  · have hlt : i < x.1.length := by omega
    obtain ⟨hk, hn1, hn2⟩ := hf2 x.1[i] (List.getElem_mem hlt)
    have hfz := fixT_size hn1 hn2
    have hlz := listT_size (m := 4) hn2 (by omega)
    obtain ⟨hnl, hnj⟩ := names_len (m := 4) hn2 (by omega)
    have hsw := scopeW_size x.1[i].2.1
    obtain ⟨ad, u2, rfl, hclA, _, _, f2⟩ := g0.fixture hlt
    have hcl := l.ext.part hclA
    have hS0 := f2.mono l.ext
    obtain ⟨a2, c2, rfl, _, _⟩ := hS0.slice
    have hnx := flat_take (g := fixL) hlt
    simp (disch := omega) only [↓stq, amv_at, vls, inf, frs, mark_eq, ↓reduceIte, Nat.reduceEqDiff, ite_tt, ite_ff, eq_self, and_true, true_and, and_self, implies_true, Bool.true_eq_false, Bool.false_eq_true, decide_true, decide_false, decide_eq_true_eq, decide_eq_false_iff_not, ne_eq, not_true_eq_false, not_false_eq_true, Bool.not_eq_true', Bool.not_eq_false', beq_self_eq_true, Bool.not_true, Bool.not_false, List.getElem?_toArray, List.getElem?_cons_zero, List.getElem?_cons_succ, h1, h3, h4, add_at, k0, hcl]
    refine led_alloc zc75 l fun q5 V5 _ l => ?_
    simp (disch := omega) only [↓stq, amv_at, vls, inf, frs, mark_eq, ↓reduceIte, Nat.reduceEqDiff, ite_tt, ite_ff, eq_self, and_true, true_and, and_self, implies_true, Bool.true_eq_false, Bool.false_eq_true, decide_true, decide_false, decide_eq_true_eq, decide_eq_false_iff_not, ne_eq, not_true_eq_false, not_false_eq_true, Bool.not_eq_true', Bool.not_eq_false', beq_self_eq_true, Bool.not_true, Bool.not_false, List.getElem?_toArray, List.getElem?_cons_zero, List.getElem?_cons_succ, h1, h3, h4]
    refine led_storeAll l 0 rfl sz75 rfl rfl (by simp [Value.oneCell']) fun V l => ?_
    have m0 := l.cell (i := 0) rfl (o := 0) rfl rfl
    have m1 := l.cell (i := 0) rfl (o := 1) rfl rfl
    have m2 := l.cell (i := 0) rfl (o := 2) rfl rfl
    have m3 := l.cell (i := 0) rfl (o := 3) rfl rfl
    simp (disch := omega) only [↓stq, amv_at, vls, inf, frs, mark_eq, ↓reduceIte, Nat.reduceEqDiff, ite_tt, ite_ff, eq_self, and_true, true_and, and_self, implies_true, Bool.true_eq_false, Bool.false_eq_true, decide_true, decide_false, decide_eq_true_eq, decide_eq_false_iff_not, ne_eq, not_true_eq_false, not_false_eq_true, Bool.not_eq_true', Bool.not_eq_false', beq_self_eq_true, Bool.not_true, Bool.not_false, List.getElem?_toArray, List.getElem?_cons_zero, List.getElem?_cons_succ, h1, h3, h4]
    refine adraw_items [.q 0, .q 1, .q 2, .l 3 true, .q 4, .q 5, .q 7, .l 8 true, .q 13, .l 14 true, .c 6 [3, 8, 14], .q 9, .l 10 true, .q 11, .q 12, .c 15 [3, 8, 10], .q 16, .q 17] (by kernel_rfl) (by kernel_rfl) ?_
    obtain ⟨T, hT⟩ : ∃ T, Bt ((x.1.take i).flatMap fixL) = T := ⟨_, rfl⟩
    have hTz : T.size ≤ 420 := by rw [← hT, Bt_size]; exact hsz1
    have e8 : (⟨#[102, 105, 120, 116, 117, 114, 101, 32]⟩ : ByteArray).size = 8 := rfl
    have e9 : (⟨#[32]⟩ : ByteArray).size = 1 := rfl
    have s1 := ByteArray.size_append (a := T) (b := ⟨#[102, 105, 120, 116, 117, 114, 101, 32]⟩)
    have s2 := ByteArray.size_append (a := T ++ ⟨#[102, 105, 120, 116, 117, 114, 101, 32]⟩) (b := x.1[i].1)
    have s3 := ByteArray.size_append (a := T ++ ⟨#[102, 105, 120, 116, 117, 114, 101, 32]⟩ ++ x.1[i].1) (b := ⟨#[32]⟩)
    have s4 := ByteArray.size_append (a := T ++ ⟨#[102, 105, 120, 116, 117, 114, 101, 32]⟩ ++ x.1[i].1 ++ ⟨#[32]⟩) (b := scopeW x.1[i].2.1)
    have s5 := ByteArray.size_append (a := T ++ ⟨#[102, 105, 120, 116, 117, 114, 101, 32]⟩ ++ x.1[i].1 ++ ⟨#[32]⟩ ++ scopeW x.1[i].2.1) (b := ⟨#[32]⟩)
    have s6 := ByteArray.size_append (a := T ++ ⟨#[102, 105, 120, 116, 117, 114, 101, 32]⟩ ++ x.1[i].1 ++ ⟨#[32]⟩ ++ scopeW x.1[i].2.1 ++ ⟨#[32]⟩) (b := listT x.1[i].2.2.1)
    have s7 := ByteArray.size_append (a := T ++ ⟨#[102, 105, 120, 116, 117, 114, 101, 32]⟩ ++ x.1[i].1 ++ ⟨#[32]⟩ ++ scopeW x.1[i].2.1 ++ ⟨#[32]⟩ ++ listT x.1[i].2.2.1) (b := ⟨#[32, 97, 117, 116, 111]⟩)
    rw [hT] at h3
    simp (disch := omega) only [↓stq, amv_at, ↓pln, plv, nilOk, Nat.reduceBEq, Bool.or_false, Bool.or_true, Bool.false_or, Bool.true_or, vls, inf, frs, mark_eq, ↓reduceIte, Nat.reduceEqDiff, ite_tt, ite_ff, eq_self, and_true, true_and, and_self, implies_true, Bool.true_eq_false, Bool.false_eq_true, decide_true, decide_false, decide_eq_true_eq, decide_eq_false_iff_not, ne_eq, not_true_eq_false, not_false_eq_true, Bool.not_eq_true', Bool.not_eq_false', beq_self_eq_true, Bool.not_true, Bool.not_false, List.getElem?_toArray, List.getElem?_cons_zero, List.getElem?_cons_succ, h1, h3, h4, add_at, m0, m1, m2]
    refine (spec_scopeWords_c V).mono ?_
    rintro _ V3 ⟨bw, rfl, lw⟩
    replace l := l.append lw
    have m0 := lw.ext.cell m0
    have m1 := lw.ext.cell m1
    have m2 := lw.ext.cell m2
    have m3 := lw.ext.cell m3
    have hS1 := (f2.mono l.ext)
    have hw := scope_cell (k := x.1[i].2.1) (lw.at (i := 0) rfl) hk
    have hk0 := hk.1
    have hk1 := hk.2
    clear lw
    simp (disch := omega) only [↓stq, amv_at, ↓pln, plv, nilOk, Nat.reduceBEq, Bool.or_false, Bool.or_true, Bool.false_or, Bool.true_or, vls, inf, frs, mark_eq, ↓reduceIte, Nat.reduceEqDiff, ite_tt, ite_ff, eq_self, and_true, true_and, and_self, implies_true, Bool.true_eq_false, Bool.false_eq_true, decide_true, decide_false, decide_eq_true_eq, decide_eq_false_iff_not, ne_eq, not_true_eq_false, not_false_eq_true, Bool.not_eq_true', Bool.not_eq_false', beq_self_eq_true, Bool.not_true, Bool.not_false, List.getElem?_toArray, List.getElem?_cons_zero, List.getElem?_cons_succ, h1, h3, h4, add_at, m0, m1, m2, hw]
    refine (spec_listText_c V3 _ _ hS1 hnj).mono ?_
    rintro _ V3 ⟨rfl, rfl⟩
    simp (disch := omega) only [↓stq, amv_at, ↓pln, plv, nilOk, Nat.reduceBEq, Bool.or_false, Bool.or_true, Bool.false_or, Bool.true_or, vls, inf, frs, mark_eq, ↓reduceIte, Nat.reduceEqDiff, ite_tt, ite_ff, eq_self, and_true, true_and, and_self, implies_true, Bool.true_eq_false, Bool.false_eq_true, decide_true, decide_false, decide_eq_true_eq, decide_eq_false_iff_not, ne_eq, not_true_eq_false, not_false_eq_true, Bool.not_eq_true', Bool.not_eq_false', beq_self_eq_true, Bool.not_true, Bool.not_false, List.getElem?_toArray, List.getElem?_cons_zero, List.getElem?_cons_succ, h1, h3, h4, add_at, m0, m1, m2, hw]
    replace l : Led A [bx q ⟨41, [.slice (some ad) x.1.length c0, .slice a1 x.2.1.length c1], 2, true⟩] V3 := l.tail.tail
    have ea : (⟨#[32, 97, 117, 116, 111]⟩ : ByteArray).size = 5 := rfl
    have en : (⟨#[10]⟩ : ByteArray).size = 1 := rfl
    cases hau : x.1[i].2.2.2.1 with
    | true =>
      rw [hau] at m3
      simp (disch := omega) only [↓stq, amv_at, vls, inf, frs, mark_eq, ↓reduceIte, Nat.reduceEqDiff, ite_tt, ite_ff, eq_self, and_true, true_and, and_self, implies_true, Bool.true_eq_false, Bool.false_eq_true, decide_true, decide_false, decide_eq_true_eq, decide_eq_false_iff_not, ne_eq, not_true_eq_false, not_false_eq_true, Bool.not_eq_true', Bool.not_eq_false', beq_self_eq_true, Bool.not_true, Bool.not_false, List.getElem?_toArray, List.getElem?_cons_zero, List.getElem?_cons_succ, h1, h3, h4, add_at, m3]
      refine ⟨_, by omega, i + 1, by omega, rfl, l, congrArg Value.string (ByteArray.ext ?_), rfl⟩
      rw [hnx, ← hT]
      unfold fixL fixT autoT
      rw [hau]
      simp [Bt]
    | false =>
      rw [hau] at m3
      simp (disch := omega) only [↓stq, amv_at, vls, inf, frs, mark_eq, ↓reduceIte, Nat.reduceEqDiff, ite_tt, ite_ff, eq_self, and_true, true_and, and_self, implies_true, Bool.true_eq_false, Bool.false_eq_true, decide_true, decide_false, decide_eq_true_eq, decide_eq_false_iff_not, ne_eq, not_true_eq_false, not_false_eq_true, Bool.not_eq_true', Bool.not_eq_false', beq_self_eq_true, Bool.not_true, Bool.not_false, List.getElem?_toArray, List.getElem?_cons_zero, List.getElem?_cons_succ, h1, h3, h4, add_at, m3]
      refine ⟨_, by omega, i + 1, by omega, rfl, l, congrArg Value.string (ByteArray.ext ?_), rfl⟩
      rw [hnx, ← hT]
      unfold fixL fixT autoT
      rw [hau]
      simp [Bt]
  · have hie : i = x.1.length := by omega
    subst hie
    rw [List.take_length] at hsz1 h3
    clear k0
    simp (disch := omega) only [↓stq, amv_at, vls, inf, frs, mark_eq, ↓reduceIte, Nat.reduceEqDiff, ite_tt, ite_ff, eq_self, and_true, true_and, and_self, implies_true, Bool.true_eq_false, Bool.false_eq_true, decide_true, decide_false, decide_eq_true_eq, decide_eq_false_iff_not, ne_eq, not_true_eq_false, not_false_eq_true, Bool.not_eq_true', Bool.not_eq_false', beq_self_eq_true, Bool.not_true, Bool.not_false, List.getElem?_toArray, List.getElem?_cons_zero, List.getElem?_cons_succ, h1, h3, h4]
    refine aloop (fun d fr V => ∃ (i : Nat), i ≤ x.2.1.length ∧ d = x.2.1.length - i ∧ Led A [bx q ⟨41, [.slice a0 x.1.length c0, .slice a1 x.2.1.length c1], 2, true⟩] V ∧ fr 1 = .pointer (some ⟨q, 0, none⟩) ∧ fr 3 = .string (Bt (x.1.flatMap fixL ++ (x.2.1.take i).flatMap tstL)) ∧ fr 6 = .int .i64 i) x.2.1.length ⟨0, by omega, by omega, l, by simp (disch := omega) only [↓stq, amv_at, vls, inf, frs, mark_eq, ↓reduceIte, Nat.reduceEqDiff, ite_tt, ite_ff, eq_self, and_true, true_and, and_self, implies_true, Bool.true_eq_false, Bool.false_eq_true, decide_true, decide_false, decide_eq_true_eq, decide_eq_false_iff_not, ne_eq, not_true_eq_false, not_false_eq_true, Bool.not_eq_true', Bool.not_eq_false', beq_self_eq_true, Bool.not_true, Bool.not_false, List.getElem?_toArray, List.getElem?_cons_zero, List.getElem?_cons_succ, h1, h3, h4], by simp (disch := omega) only [↓stq, amv_at, vls, inf, frs, mark_eq, ↓reduceIte, Nat.reduceEqDiff, ite_tt, ite_ff, eq_self, and_true, true_and, and_self, implies_true, Bool.true_eq_false, Bool.false_eq_true, decide_true, decide_false, decide_eq_true_eq, decide_eq_false_iff_not, ne_eq, not_true_eq_false, not_false_eq_true, Bool.not_eq_true', Bool.not_eq_false', beq_self_eq_true, Bool.not_true, Bool.not_false, List.getElem?_toArray, List.getElem?_cons_zero, List.getElem?_cons_succ, h1, h3, h4]; simp, rfl⟩ ?_
    clear l h1 h3 h4
    rintro d fr V ⟨i, hi, rfl, l, h1, h3, h6⟩
    have k1 := l.cell (i := 0) rfl (o := 1) rfl rfl
    have hsz2 : ((x.2.1.take i).flatMap tstL).length ≤ 1050 := by
      have := flat_len (g := tstL) (m := 105) (xs := x.2.1.take i) fun t ht => by
        have h := ht2 t (List.mem_of_mem_take ht)
        have := tstT_size h.1 h.2.1 h.2.2.1 h.2.2.2
        unfold tstL
        rw [dsize]
        exact this
      rw [List.length_take] at this
      omega
    simp (disch := omega) only [↓stq, amv_at, vls, inf, frs, mark_eq, ↓reduceIte, Nat.reduceEqDiff, ite_tt, ite_ff, eq_self, and_true, true_and, and_self, implies_true, Bool.true_eq_false, Bool.false_eq_true, decide_true, decide_false, decide_eq_true_eq, decide_eq_false_iff_not, ne_eq, not_true_eq_false, not_false_eq_true, Bool.not_eq_true', Bool.not_eq_false', beq_self_eq_true, Bool.not_true, Bool.not_false, List.getElem?_toArray, List.getElem?_cons_zero, List.getElem?_cons_succ, h1, h3, h6, add_at, k1]
    refine ⟨fun e1 => ?_, fun e1 => ?_⟩
    · have hlt : i < x.2.1.length := by omega
      obtain ⟨hn1, hn2, hm3, hn4⟩ := ht2 x.2.1[i] (List.getElem_mem hlt)
      have htz := tstT_size hn1 hn2 hm3 hn4
      have hlz3 := listT_size (m := 3) hm3 (by omega)
      have hlz4 := listT_size (m := 4) hn4 (by omega)
      obtain ⟨hnl3, hnj3⟩ := names_len (m := 3) hm3 (by omega)
      obtain ⟨hnl4, hnj4⟩ := names_len (m := 4) hn4 (by omega)
      have hid := idD_size x.2.1[i]
      obtain ⟨ad, u2, u3, rfl, hclA, z1, z2, f2, f3⟩ := g1.test hlt
      have hcl := l.ext.part hclA
      obtain ⟨a2, c2, rfl, _, _⟩ := f2.slice
      obtain ⟨a3, c3, rfl, _, _⟩ := f3.slice
      have hnx := flat_take (g := tstL) hlt
      simp (disch := omega) only [↓stq, amv_at, vls, inf, frs, mark_eq, ↓reduceIte, Nat.reduceEqDiff, ite_tt, ite_ff, eq_self, and_true, true_and, and_self, implies_true, Bool.true_eq_false, Bool.false_eq_true, decide_true, decide_false, decide_eq_true_eq, decide_eq_false_iff_not, ne_eq, not_true_eq_false, not_false_eq_true, Bool.not_eq_true', Bool.not_eq_false', beq_self_eq_true, Bool.not_true, Bool.not_false, List.getElem?_toArray, List.getElem?_cons_zero, List.getElem?_cons_succ, h1, h3, h6, add_at, k1, hcl]
      refine led_alloc zc78 l fun q7 V5 _ l => ?_
      simp (disch := omega) only [↓stq, amv_at, vls, inf, frs, mark_eq, ↓reduceIte, Nat.reduceEqDiff, ite_tt, ite_ff, eq_self, and_true, true_and, and_self, implies_true, Bool.true_eq_false, Bool.false_eq_true, decide_true, decide_false, decide_eq_true_eq, decide_eq_false_iff_not, ne_eq, not_true_eq_false, not_false_eq_true, Bool.not_eq_true', Bool.not_eq_false', beq_self_eq_true, Bool.not_true, Bool.not_false, List.getElem?_toArray, List.getElem?_cons_zero, List.getElem?_cons_succ, h1, h3, h6]
      refine led_storeAll l 0 rfl sz78 rfl rfl (by simp [Value.oneCell']) fun V l => ?_
      have kp : V.part ⟨q7, 0, none⟩ 4 = some [.string x.2.1[i].1, .string x.2.1[i].2.1, .slice a2 x.2.1[i].2.2.1.length c2, .slice a3 x.2.1[i].2.2.2.1.length c3] := l.partn (i := 0) rfl rfl (by simp [Value.oneCell'])
      have m2 := l.cell (i := 0) rfl (o := 2) rfl rfl
      have m3 := l.cell (i := 0) rfl (o := 3) rfl rfl
      simp (disch := omega) only [↓stq, amv_at, vls, inf, frs, mark_eq, ↓reduceIte, Nat.reduceEqDiff, ite_tt, ite_ff, eq_self, and_true, true_and, and_self, implies_true, Bool.true_eq_false, Bool.false_eq_true, decide_true, decide_false, decide_eq_true_eq, decide_eq_false_iff_not, ne_eq, not_true_eq_false, not_false_eq_true, Bool.not_eq_true', Bool.not_eq_false', beq_self_eq_true, Bool.not_true, Bool.not_false, List.getElem?_toArray, List.getElem?_cons_zero, List.getElem?_cons_succ, h1, h3, h6]
      refine adraw_items [.q 0, .q 1, .l 2 false, .q 6, .l 7 true, .q 11, .l 12 true, .c 3 [7, 12], .q 4, .q 5, .c 8 [12], .q 9, .q 10, .c 13 [], .q 14, .q 15, .q 16] (by kernel_rfl) (by kernel_rfl) ?_
      obtain ⟨T, hT⟩ : ∃ T, Bt (x.1.flatMap fixL ++ (x.2.1.take i).flatMap tstL) = T := ⟨_, rfl⟩
      have hTz : T.size ≤ 1470 := by rw [← hT, Bt_size, List.length_append]; omega
      have e8 : (⟨#[116, 101, 115, 116, 32]⟩ : ByteArray).size = 5 := rfl
      have e9 : (⟨#[32]⟩ : ByteArray).size = 1 := rfl
      have en : (⟨#[10]⟩ : ByteArray).size = 1 := rfl
      have s0 := ByteArray.size_append (a := T) (b := ⟨#[116, 101, 115, 116, 32]⟩)
      have s1 := ByteArray.size_append (a := T ++ ⟨#[116, 101, 115, 116, 32]⟩) (b := idD x.2.1[i])
      have s2 := ByteArray.size_append (a := T ++ ⟨#[116, 101, 115, 116, 32]⟩ ++ idD x.2.1[i]) (b := ⟨#[32]⟩)
      have s3 := ByteArray.size_append (a := T ++ ⟨#[116, 101, 115, 116, 32]⟩ ++ idD x.2.1[i] ++ ⟨#[32]⟩) (b := listT x.2.1[i].2.2.1)
      have s4 := ByteArray.size_append (a := T ++ ⟨#[116, 101, 115, 116, 32]⟩ ++ idD x.2.1[i] ++ ⟨#[32]⟩ ++ listT x.2.1[i].2.2.1) (b := ⟨#[32]⟩)
      have s5 := ByteArray.size_append (a := T ++ ⟨#[116, 101, 115, 116, 32]⟩ ++ idD x.2.1[i] ++ ⟨#[32]⟩ ++ listT x.2.1[i].2.2.1 ++ ⟨#[32]⟩) (b := listT x.2.1[i].2.2.2.1)
      rw [hT] at h3
      simp (disch := omega) only [↓stq, amv_at, ↓pln, plv, nilOk, Nat.reduceBEq, Bool.or_false, Bool.or_true, Bool.false_or, Bool.true_or, vls, inf, frs, mark_eq, ↓reduceIte, Nat.reduceEqDiff, ite_tt, ite_ff, eq_self, and_true, true_and, and_self, implies_true, Bool.true_eq_false, Bool.false_eq_true, decide_true, decide_false, decide_eq_true_eq, decide_eq_false_iff_not, ne_eq, not_true_eq_false, not_false_eq_true, Bool.not_eq_true', Bool.not_eq_false', beq_self_eq_true, Bool.not_true, Bool.not_false, List.getElem?_toArray, List.getElem?_cons_zero, List.getElem?_cons_succ, h1, h3, h6, add_at, kp, m2, m3]
      refine (spec_idOf_c V _ x.2.1[i] (testS_mk z1 z2 (f2.mono l.ext) (f3.mono l.ext))).mono ?_
      rintro _ V2 ⟨rfl, he2⟩
      replace l := l.step he2
      have kp := he2.part kp
      have m2 := he2.cell m2
      have m3 := he2.cell m3
      simp (disch := omega) only [↓stq, amv_at, ↓pln, plv, nilOk, Nat.reduceBEq, Bool.or_false, Bool.or_true, Bool.false_or, Bool.true_or, vls, inf, frs, mark_eq, ↓reduceIte, Nat.reduceEqDiff, ite_tt, ite_ff, eq_self, and_true, true_and, and_self, implies_true, Bool.true_eq_false, Bool.false_eq_true, decide_true, decide_false, decide_eq_true_eq, decide_eq_false_iff_not, ne_eq, not_true_eq_false, not_false_eq_true, Bool.not_eq_true', Bool.not_eq_false', beq_self_eq_true, Bool.not_true, Bool.not_false, List.getElem?_toArray, List.getElem?_cons_zero, List.getElem?_cons_succ, h1, h3, h6, add_at, kp, m2, m3]
      refine (spec_listText_c V2 _ _ (f2.mono l.ext) hnj3).mono ?_
      rintro _ V2 ⟨rfl, rfl⟩
      simp (disch := omega) only [↓stq, amv_at, ↓pln, plv, nilOk, Nat.reduceBEq, Bool.or_false, Bool.or_true, Bool.false_or, Bool.true_or, vls, inf, frs, mark_eq, ↓reduceIte, Nat.reduceEqDiff, ite_tt, ite_ff, eq_self, and_true, true_and, and_self, implies_true, Bool.true_eq_false, Bool.false_eq_true, decide_true, decide_false, decide_eq_true_eq, decide_eq_false_iff_not, ne_eq, not_true_eq_false, not_false_eq_true, Bool.not_eq_true', Bool.not_eq_false', beq_self_eq_true, Bool.not_true, Bool.not_false, List.getElem?_toArray, List.getElem?_cons_zero, List.getElem?_cons_succ, h1, h3, h6, add_at, kp, m2, m3]
      refine (spec_listText_c V2 _ _ (f3.mono l.ext) hnj4).mono ?_
      rintro _ V2 ⟨rfl, rfl⟩
      simp (disch := omega) only [↓stq, amv_at, ↓pln, plv, nilOk, Nat.reduceBEq, Bool.or_false, Bool.or_true, Bool.false_or, Bool.true_or, vls, inf, frs, mark_eq, ↓reduceIte, Nat.reduceEqDiff, ite_tt, ite_ff, eq_self, and_true, true_and, and_self, implies_true, Bool.true_eq_false, Bool.false_eq_true, decide_true, decide_false, decide_eq_true_eq, decide_eq_false_iff_not, ne_eq, not_true_eq_false, not_false_eq_true, Bool.not_eq_true', Bool.not_eq_false', beq_self_eq_true, Bool.not_true, Bool.not_false, List.getElem?_toArray, List.getElem?_cons_zero, List.getElem?_cons_succ, h1, h3, h6, add_at, kp, m2, m3]
      refine ⟨_, by omega, i + 1, by omega, rfl, l.tail, congrArg Value.string (ByteArray.ext ?_), rfl⟩
      rw [hnx, ← hT]
      unfold tstL tstT
      simp [Bt]
    · have hie : i = x.2.1.length := by omega
      subst hie
      rw [List.take_length] at h3
      simp (disch := omega) only [↓stq, amv_at, vls, inf, frs, mark_eq, ↓reduceIte, Nat.reduceEqDiff, ite_tt, ite_ff, eq_self, and_true, true_and, and_self, implies_true, Bool.true_eq_false, Bool.false_eq_true, decide_true, decide_false, decide_eq_true_eq, decide_eq_false_iff_not, ne_eq, not_true_eq_false, not_false_eq_true, Bool.not_eq_true', Bool.not_eq_false', beq_self_eq_true, Bool.not_true, Bool.not_false, List.getElem?_toArray, List.getElem?_cons_zero, List.getElem?_cons_succ, h1, h3, h6]
      exact ⟨rfl, l.ext⟩

theorem spec_SuiteText_c (A : View) (d : List Value) (x : SuiteD) (h : suiteS.rel A x d) : ACalls Try.prog 15 #[.agg d.toArray] A fun r V => r = .string (suiteX x) ∧ Ext A V := by
  obtain ⟨u0, u1, rfl, g0, g1⟩ := suiteS_open h
  obtain ⟨a0, c0, rfl, _, _⟩ := g0.slice
  obtain ⟨a1, c1, rfl, _, _⟩ := g1.slice
  refine acalls Try.func15 rfl (by kernel_rfl) ?_
  simp (disch := omega) only [↓stq, amv_at, vls, inf, frs, mark_eq, ↓reduceIte, Nat.reduceEqDiff, ite_tt, ite_ff, eq_self, and_true, true_and, and_self, implies_true, Bool.true_eq_false, Bool.false_eq_true, decide_true, decide_false, decide_eq_true_eq, decide_eq_false_iff_not, ne_eq, not_true_eq_false, not_false_eq_true, Bool.not_eq_true', Bool.not_eq_false', beq_self_eq_true, Bool.not_true, Bool.not_false, List.getElem?_toArray, List.getElem?_cons_zero, List.getElem?_cons_succ]
  refine led_box (Led.nil A) rfl fun q V he l => ?_
  have kp : V.part ⟨q, 0, none⟩ 2 = some [.slice a0 x.1.length c0, .slice a1 x.2.1.length c1] := l.part (i := 0) rfl rfl
  simp (disch := omega) only [↓stq, amv_at, vls, inf, frs, mark_eq, ↓reduceIte, Nat.reduceEqDiff, ite_tt, ite_ff, eq_self, and_true, true_and, and_self, implies_true, Bool.true_eq_false, Bool.false_eq_true, decide_true, decide_false, decide_eq_true_eq, decide_eq_false_iff_not, ne_eq, not_true_eq_false, not_false_eq_true, Bool.not_eq_true', Bool.not_eq_false', beq_self_eq_true, Bool.not_true, Bool.not_false, List.getElem?_toArray, List.getElem?_cons_zero, List.getElem?_cons_succ, kp]
  refine (spec_validB_c V _ x (suiteS_mk (g0.mono l.ext) (g1.mono l.ext)) trivial).mono ?_
  rintro _ V2 ⟨rfl, he2⟩
  replace l := l.step he2
  have kp := he2.part kp
  unfold suiteX
  cases hv : validB x with
  | false =>
    simp (disch := omega) only [↓stq, amv_at, vls, inf, frs, mark_eq, ↓reduceIte, Nat.reduceEqDiff, ite_tt, ite_ff, eq_self, and_true, true_and, and_self, implies_true, Bool.true_eq_false, Bool.false_eq_true, decide_true, decide_false, decide_eq_true_eq, decide_eq_false_iff_not, ne_eq, not_true_eq_false, not_false_eq_true, Bool.not_eq_true', Bool.not_eq_false', beq_self_eq_true, Bool.not_true, Bool.not_false, List.getElem?_toArray, List.getElem?_cons_zero, List.getElem?_cons_succ]
    exact l.ext
  | true =>
    simp (disch := omega) only [↓stq, amv_at, vls, inf, frs, mark_eq, ↓reduceIte, Nat.reduceEqDiff, ite_tt, ite_ff, eq_self, and_true, true_and, and_self, implies_true, Bool.true_eq_false, Bool.false_eq_true, decide_true, decide_false, decide_eq_true_eq, decide_eq_false_iff_not, ne_eq, not_true_eq_false, not_false_eq_true, Bool.not_eq_true', Bool.not_eq_false', beq_self_eq_true, Bool.not_true, Bool.not_false, List.getElem?_toArray, List.getElem?_cons_zero, List.getElem?_cons_succ, kp]
    refine (spec_suiteText_c V2 _ x (suiteS_mk (g0.mono l.ext) (g1.mono l.ext)) hv).mono ?_
    rintro _ V3 ⟨rfl, he3⟩
    simp (disch := omega) only [↓stq, amv_at, vls, inf, frs, mark_eq, ↓reduceIte, Nat.reduceEqDiff, ite_tt, ite_ff, eq_self, and_true, true_and, and_self, implies_true, Bool.true_eq_false, Bool.false_eq_true, decide_true, decide_false, decide_eq_true_eq, decide_eq_false_iff_not, ne_eq, not_true_eq_false, not_false_eq_true, Bool.not_eq_true', Bool.not_eq_false', beq_self_eq_true, Bool.not_true, Bool.not_false, List.getElem?_toArray, List.getElem?_cons_zero, List.getElem?_cons_succ]
    exact l.ext.trans he3

end Go.Proofs.Ytggklaimbklefaa

/- The law FnExactSuiteText, over the contracts. -/
set_option maxHeartbeats 4000000
set_option synthInstance.maxHeartbeats 400000
set_option synthInstance.maxSize 4096
set_option linter.unusedSimpArgs false
set_option linter.unusedVariables false
namespace Go.Proofs.Ytggklaimbklefaa

theorem law_FnExactSuiteText (A : View) (d0 : List Value) (x0 : SuiteD) (h0 : suiteS.rel A x0 d0) : ACalls Try.prog 5 #[.agg d0.toArray] A fun r _ => r = .bool true :=
  walkFnExactSuiteText A d0 x0 h0 (suiteX x0)
    (fun B d0 h0 w0 => (spec_SuiteText_c B d0 x0 h0).mono fun r B' h => ⟨h.1, (Led.nil B).step h.2⟩)
    (fun B d0 h0 w0 => (impl_SuiteText_c B d0 x0 h0 (by rw [suiteT_w] at w0; omega) (by rw [suiteT_w] at w0; omega)).mono fun r B' h => ⟨h.1, (Led.nil B).step h.2⟩)

end Go.Proofs.Ytggklaimbklefaa
