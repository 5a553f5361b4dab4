/- Covers: what is valid, what is touched. -/
import Derived.Test.YtaknlfkoomagoaaGCover
set_option maxHeartbeats 4000000
set_option synthInstance.maxHeartbeats 400000
set_option synthInstance.maxSize 4096
set_option linter.unusedSimpArgs false
set_option linter.unusedVariables false
namespace Go.Proofs.Ytaknlfkoomagoaa

set_option maxRecDepth 100000

/-- A line: in 1..30, more than the one ahead of it. -/
def lineAt (ys : List Int) (j : Nat) : Bool := decide (1 ≤ ys.getD j 0) && decide (ys.getD j 0 ≤ 30) && (decide (j = 0) || decide (ys.getD (j - 1) 0 < ys.getD j 0))
def linesB (ys : List Int) : Bool := (List.range ys.length).all (lineAt ys)
def coversB (xs : List CoverD) : Bool := xs.all (fun x => linesB x.2.1) && idsB (xs.map (·.1))

theorem linesB_no {ys : List Int} {j : Nat} (hj : j < ys.length) (h : lineAt ys j = false) : linesB ys = false := by
  unfold linesB
  rw [List.all_eq_false]
  exact ⟨j, List.mem_range.2 hj, by simp [h]⟩

theorem range_all_succ {p : Nat → Bool} {i : Nat} (h : (List.range i).all p = true) (h2 : p i = true) : (List.range (i + 1)).all p = true := by
  rw [List.range_succ, List.all_append, h]; simp [h2]

theorem coversB_no {xs : List CoverD} {i : Nat} (hi : i < xs.length) (h : linesB (xs[i]).2.1 = false) : coversB xs = false := by
  unfold coversB
  rw [all_no (p := fun x => linesB x.2.1) hi h, Bool.false_and]

/-- Texts in a block of one's own that grows. -/
structure Grow (A A' : View) (b c : Nat) (ys : List ByteArray) : Prop where
  new : A b = none
  at_ : A' b = some ⟨9, ys.map .string, c * 1, true⟩
  ext : Ext A A'
  fits : ys.length ≤ c
  small : ∀ y ∈ ys, y.size ≤ 140737488355328

theorem asrc_lit {A : View} {b c r : Nat} {e : TypeId} {v : Value} (h : A b = some ⟨e, [v], r, true⟩) (h1 : v.oneCell' = true) : asrc A 1 (.slice (some ⟨b, 0, none⟩) 1 c) = some (1, [v]) := by
  have hp := part_at (n := 1) (off := 0) h (by simp) (by simpa using h1)
  simp only [List.drop_zero, List.take_succ_cons, List.take_zero] at hp
  unfold asrc
  simp [hp]

theorem Grow.mono {A A' B : View} {b c : Nat} {ys : List ByteArray} (h : Grow A A' b c ys) (he : Ext A' B) : Grow A B b c ys := ⟨h.new, he _ _ h.at_, h.ext.trans he, h.fits, h.small⟩

theorem Grow.app {A A' : View} {b c n : Nat} {ys : List ByteArray} {s : ByteArray} {K : Value → View → Prop} {ty : TypeId} {x : Value} (g : Grow A A' b c ys) (hx : asrc A' 1 x = some (1, [.string s])) (hn : n = ys.length) (hsm : ys.length ≤ 16777216) (hsz : s.size ≤ 140737488355328)
    (h : ∀ b' c' A2, Grow A A2 b' c' (ys ++ [s]) → K (.slice (some ⟨b', 0, none⟩) (n + 1) c') A2) : aappend Try.prog #[25, 25] ty #[.slice (some ⟨b, 0, none⟩) n c, x] A' K := by
  subst hn
  refine aappend_own ap25_25 g.at_ (by simp) hx (by omega) (by omega) fun b' c' hb' hle => ?_
  have hb : A b' = none := by
    by_cases e : b' = b
    · rw [e]; exact g.new
    · rw [View.kill_ne _ e] at hb'; exact g.ext.none hb'
  have hk : Ext A (A'.kill b) := fun y k hy => by
    rw [View.kill_ne _ (fun e => by rw [e, g.new] at hy; cases hy)]; exact g.ext _ _ hy
  refine h b' c' _ ⟨hb, ?_, hk.setOld hb _, by simpa using hle, fun y hy => ?_⟩
  · rw [View.set_same, List.map_append]; rfl
  · rcases List.mem_append.1 hy with hy | hy
    · exact g.small y hy
    · rw [List.mem_singleton.1 hy]; exact hsz

theorem Grow.sl {A A' : View} {b c n : Nat} {ys : List ByteArray} (g : Grow A A' b c ys) (hn : n = ys.length) (hl : ys.length ≤ 140737488355328) : Sl strS A' (.slice (some ⟨b, 0, none⟩) n c) ys := by
  subst hn
  have he := elems_str (A := A') ys g.small
  refine ⟨hl, _, c, rfl, g.fits, fun _ => ⟨_, ys.map .string, rfl, ?_, he⟩⟩
  rw [part_at g.at_ (by simp [strS]) (fun v hv => he.one v (List.mem_of_mem_drop (List.mem_of_mem_take hv)))]
  simp only [strS, List.drop_zero, Nat.mul_one]
  rw [List.take_of_length_le (by simp)]

theorem spec_validCovers_c (A : View) (v : Value) (xs : List CoverD) (h : Sl coverS A v xs) (hsm : xs.length ≤ 16777215) : ACalls Try.prog 60 #[v] A fun r A' => r = .bool (coversB xs) ∧ Ext A A' := by
  obtain ⟨a, c, rfl, hc, hl⟩ := h.slice
  refine acalls Try.func60 rfl (by kernel_rfl) ?_
  simp (disch := omega) only [↓stp, vls, inf, frs, mark_eq, ↓reduceIte, Nat.reduceEqDiff, ite_tt, ite_ff, eq_self, and_true, true_and, and_self, implies_true, Bool.true_eq_false, Bool.false_eq_true, decide_true, decide_false, decide_eq_true_eq, decide_eq_false_iff_not, ne_eq, not_true_eq_false, not_false_eq_true, Bool.not_eq_true', Bool.not_eq_false', beq_self_eq_true, Bool.not_true, Bool.not_false, List.getElem?_toArray, List.getElem?_cons_zero, List.getElem?_cons_succ]
  refine alit_at (n := 0) li25 (by omega) rfl (by simp) fun b hb => ?_
  simp (disch := omega) only [↓stp, vls, inf, frs, mark_eq, ↓reduceIte, Nat.reduceEqDiff, ite_tt, ite_ff, eq_self, and_true, true_and, and_self, implies_true, Bool.true_eq_false, Bool.false_eq_true, decide_true, decide_false, decide_eq_true_eq, decide_eq_false_iff_not, ne_eq, not_true_eq_false, not_false_eq_true, Bool.not_eq_true', Bool.not_eq_false', beq_self_eq_true, Bool.not_true, Bool.not_false, List.getElem?_toArray, List.getElem?_cons_zero, List.getElem?_cons_succ]
  refine aloop (fun d fr A' => ∃ i b c', i ≤ xs.length ∧ d = xs.length - i ∧ Grow A A' b c' ((xs.take i).map (·.1)) ∧ (xs.take i).all (fun x => linesB x.2.1) = true ∧ fr 0 = .slice a xs.length c ∧ fr 3 = .slice (some ⟨b, 0, none⟩) i c' ∧ fr 4 = .int .i64 i) xs.length ⟨0, b, 0, by omega, by omega, ⟨hb, by rw [View.set_same]; rfl, Ext.new hb _, by simp, by simp⟩, by simp, by rfl, by rfl, by rfl⟩ ?_
  rintro d fr A' ⟨i, b, c', hi, rfl, hg, hall, h0, h3, h4⟩
  simp (disch := omega) only [↓stp, vls, inf, frs, mark_eq, ↓reduceIte, Nat.reduceEqDiff, ite_tt, ite_ff, eq_self, and_true, true_and, and_self, implies_true, Bool.true_eq_false, Bool.false_eq_true, decide_true, decide_false, decide_eq_true_eq, decide_eq_false_iff_not, ne_eq, not_true_eq_false, not_false_eq_true, Bool.not_eq_true', Bool.not_eq_false', beq_self_eq_true, Bool.not_true, Bool.not_false, List.getElem?_toArray, List.getElem?_cons_zero, List.getElem?_cons_succ, h0, h3, h4]
  refine ⟨fun e => ?_, fun e => ?_⟩
  · have hlt : i < xs.length := by omega
    obtain ⟨ad, u, rfl, hp, hs, hu⟩ := (h.mono hg.ext).cover hlt
    have hc0 := View.part_cell hp (j := 0) (v := .string (xs[i]).1) rfl
    have hc1 := View.part_cell hp (j := 1) (v := u) rfl
    simp (disch := omega) only [↓stp, vls, inf, frs, mark_eq, ↓reduceIte, Nat.reduceEqDiff, ite_tt, ite_ff, eq_self, and_true, true_and, and_self, implies_true, Bool.true_eq_false, Bool.false_eq_true, decide_true, decide_false, decide_eq_true_eq, decide_eq_false_iff_not, ne_eq, not_true_eq_false, not_false_eq_true, Bool.not_eq_true', Bool.not_eq_false', beq_self_eq_true, Bool.not_true, Bool.not_false, List.getElem?_toArray, List.getElem?_cons_zero, List.getElem?_cons_succ, h0, h3, h4, hc0]
    refine alit_at (n := 1) li25 (by omega) rfl (by simp [Value.cells, Value.oneCell']) fun bl hbl => ?_
    generalize hB : A'.set bl _ = B
    have hBl : B bl = some ⟨9, [.string (xs[i]).1], 1 * 1, true⟩ := by rw [← hB]; exact View.set_same ..
    have hBe : Ext A' B := by rw [← hB]; exact Ext.new hbl _
    have hil : i = ((xs.take i).map (·.1)).length := by simp; omega
    simp (disch := omega) only [↓stp, vls, inf, frs, mark_eq, ↓reduceIte, Nat.reduceEqDiff, ite_tt, ite_ff, eq_self, and_true, true_and, and_self, implies_true, Bool.true_eq_false, Bool.false_eq_true, decide_true, decide_false, decide_eq_true_eq, decide_eq_false_iff_not, ne_eq, not_true_eq_false, not_false_eq_true, Bool.not_eq_true', Bool.not_eq_false', beq_self_eq_true, Bool.not_true, Bool.not_false, List.getElem?_toArray, List.getElem?_cons_zero, List.getElem?_cons_succ, h0, h3, h4]
    refine (hg.mono hBe).app (asrc_lit hBl rfl) hil (by omega) hs fun b2 c2 A2 hg2 => ?_
    simp (disch := omega) only [↓stp, vls, inf, frs, mark_eq, ↓reduceIte, Nat.reduceEqDiff, ite_tt, ite_ff, eq_self, and_true, true_and, and_self, implies_true, Bool.true_eq_false, Bool.false_eq_true, decide_true, decide_false, decide_eq_true_eq, decide_eq_false_iff_not, ne_eq, not_true_eq_false, not_false_eq_true, Bool.not_eq_true', Bool.not_eq_false', beq_self_eq_true, Bool.not_true, Bool.not_false, List.getElem?_toArray, List.getElem?_cons_zero, List.getElem?_cons_succ, h0, h3, h4]
    obtain ⟨ad', u', hadd, hp2, _, hu2⟩ := (h.mono hg2.ext).cover hlt
    injection hadd with hadd
    subst hadd
    obtain ⟨au, cu, rfl, hcu, hlu⟩ := hu2.slice
    have hd1 := View.part_cell hp2 (j := 1) (v := .slice au (xs[i]).2.1.length cu) rfl
    refine aloop (fun d fr A' => ∃ j, j ≤ (xs[i]).2.1.length ∧ d = (xs[i]).2.1.length - j ∧ A' = A2 ∧ (List.range j).all (lineAt (xs[i]).2.1) = true ∧ fr 0 = .slice (some ad) xs.length c ∧ fr 3 = .slice (some ⟨b2, 0, none⟩) (i + 1) c2 ∧ fr 4 = .int .i64 i ∧ fr 5 = .int .i64 j) (xs[i]).2.1.length ⟨0, by omega, by omega, rfl, rfl, h0, by rfl, h4, by rfl⟩ ?_
    rintro d fr A2 ⟨j, hj, rfl, rfl, hln, h0, h3, h4, h5⟩
    simp (disch := omega) only [↓stp, vls, inf, frs, mark_eq, ↓reduceIte, Nat.reduceEqDiff, ite_tt, ite_ff, eq_self, and_true, true_and, and_self, implies_true, Bool.true_eq_false, Bool.false_eq_true, decide_true, decide_false, decide_eq_true_eq, decide_eq_false_iff_not, ne_eq, not_true_eq_false, not_false_eq_true, Bool.not_eq_true', Bool.not_eq_false', beq_self_eq_true, Bool.not_true, Bool.not_false, List.getElem?_toArray, List.getElem?_cons_zero, List.getElem?_cons_succ, h0, h3, h4, h5, hd1]
    refine ⟨fun e1 => ?_, fun e1 => ?_⟩
    · have hjl : j < (xs[i]).2.1.length := by omega
      obtain ⟨al, rfl, hcl, _⟩ := hu2.int hjl
      have hgd : (xs[i]).2.1.getD j 0 = (xs[i]).2.1[j] := by simp [List.getD, hjl]
      simp (disch := omega) only [↓stp, vls, inf, frs, mark_eq, ↓reduceIte, Nat.reduceEqDiff, ite_tt, ite_ff, eq_self, and_true, true_and, and_self, implies_true, Bool.true_eq_false, Bool.false_eq_true, decide_true, decide_false, decide_eq_true_eq, decide_eq_false_iff_not, ne_eq, not_true_eq_false, not_false_eq_true, Bool.not_eq_true', Bool.not_eq_false', beq_self_eq_true, Bool.not_true, Bool.not_false, List.getElem?_toArray, List.getElem?_cons_zero, List.getElem?_cons_succ, h0, h3, h4, h5]
      refine adraw_items [.q 0, .q 1, .q 2, .q 3, .l 4 false, .q 5, .q 6, .l 7 false, .c 8 [], .q 9, .q 10, .q 11, .q 12, .q 13, .q 14, .q 15, .q 16, .q 17, .l 18 false, .q 19, .q 20, .l 21 false, .q 22, .q 23, .q 24, .q 25, .l 26 false, .q 27, .q 28, .q 29, .l 30 false, .q 31, .q 32, .q 33] (by kernel_rfl) (by kernel_rfl) ?_
      simp (disch := omega) only [↓stp, ↓pln, plv, nilOk, Nat.reduceBEq, Bool.or_false, Bool.or_true, Bool.false_or, Bool.true_or, vls, inf, frs, mark_eq, ↓reduceIte, Nat.reduceEqDiff, ite_tt, ite_ff, eq_self, and_true, true_and, and_self, implies_true, Bool.true_eq_false, Bool.false_eq_true, decide_true, decide_false, decide_eq_true_eq, decide_eq_false_iff_not, ne_eq, not_true_eq_false, not_false_eq_true, Bool.not_eq_true', Bool.not_eq_false', beq_self_eq_true, Bool.not_true, Bool.not_false, List.getElem?_toArray, List.getElem?_cons_zero, List.getElem?_cons_succ, h0, h3, h4, h5, hd1, hcl]
      refine (spec_inRange_c A2 _ _ _).mono ?_
      rintro _ A2 ⟨rfl, rfl⟩
      simp (disch := omega) only [↓stp, ↓pln, plv, nilOk, Nat.reduceBEq, Bool.or_false, Bool.or_true, Bool.false_or, Bool.true_or, vls, inf, frs, mark_eq, ↓reduceIte, Nat.reduceEqDiff, ite_tt, ite_ff, eq_self, and_true, true_and, and_self, implies_true, Bool.true_eq_false, Bool.false_eq_true, decide_true, decide_false, decide_eq_true_eq, decide_eq_false_iff_not, ne_eq, not_true_eq_false, not_false_eq_true, Bool.not_eq_true', Bool.not_eq_false', beq_self_eq_true, Bool.not_true, Bool.not_false, List.getElem?_toArray, List.getElem?_cons_zero, List.getElem?_cons_succ, h0, h3, h4, h5, hd1, hcl]
      refine ⟨fun e2 => ?_, fun e2 => ?_⟩ <;> simp (disch := omega) only [↓stp, ↓pln, plv, nilOk, Nat.reduceBEq, Bool.or_false, Bool.or_true, Bool.false_or, Bool.true_or, vls, inf, frs, mark_eq, ↓reduceIte, Nat.reduceEqDiff, ite_tt, ite_ff, eq_self, and_true, true_and, and_self, implies_true, Bool.true_eq_false, Bool.false_eq_true, decide_true, decide_false, decide_eq_true_eq, decide_eq_false_iff_not, ne_eq, not_true_eq_false, not_false_eq_true, Bool.not_eq_true', Bool.not_eq_false', beq_self_eq_true, Bool.not_true, Bool.not_false, List.getElem?_toArray, List.getElem?_cons_zero, List.getElem?_cons_succ, h0, h3, h4, h5, hd1, hcl, e2]
      · have e2' := e2
        rw [Bool.and_eq_true, decide_eq_true_eq, decide_eq_true_eq] at e2'
        refine ⟨fun e3 => ?_, fun e3 => ?_⟩
        · have hj1 : j - 1 < (xs[i]).2.1.length := by omega
          obtain ⟨al', hal, hcp, _⟩ := hu2.int hj1
          injection hal with hal
          subst hal
          have htn : ((j : Int) - 1).toNat = j - 1 := by omega
          have hgp : (xs[i]).2.1.getD (j - 1) 0 = (xs[i]).2.1[j - 1] := by simp [List.getD, hj1]
          replace hcp : A2.cell (al.add ((j : Int) - 1).toNat) = some (.int .i64 ((xs[i]).2.1.getD (j - 1) 0)) := by rw [htn, hgp]; exact hcp
          simp (disch := omega) only [↓stp, ↓pln, plv, nilOk, Nat.reduceBEq, Bool.or_false, Bool.or_true, Bool.false_or, Bool.true_or, vls, inf, frs, mark_eq, ↓reduceIte, Nat.reduceEqDiff, ite_tt, ite_ff, eq_self, and_true, true_and, and_self, implies_true, Bool.true_eq_false, Bool.false_eq_true, decide_true, decide_false, decide_eq_true_eq, decide_eq_false_iff_not, ne_eq, not_true_eq_false, not_false_eq_true, Bool.not_eq_true', Bool.not_eq_false', beq_self_eq_true, Bool.not_true, Bool.not_false, List.getElem?_toArray, List.getElem?_cons_zero, List.getElem?_cons_succ, h0, h3, h4, h5, hd1, hcl, hcp, e2, e3]
          refine ⟨fun e4 => ?_, fun e4 => ?_⟩ <;> simp (disch := omega) only [↓stp, vls, inf, frs, mark_eq, ↓reduceIte, Nat.reduceEqDiff, ite_tt, ite_ff, eq_self, and_true, true_and, and_self, implies_true, Bool.true_eq_false, Bool.false_eq_true, decide_true, decide_false, decide_eq_true_eq, decide_eq_false_iff_not, ne_eq, not_true_eq_false, not_false_eq_true, Bool.not_eq_true', Bool.not_eq_false', beq_self_eq_true, Bool.not_true, Bool.not_false, List.getElem?_toArray, List.getElem?_cons_zero, List.getElem?_cons_succ, h0, h3, h4, h5]
          · refine ⟨?_, hg2.ext⟩
            rw [coversB_no hlt (linesB_no hjl ?_)]
            unfold lineAt
            rw [hgd]
            have h1 : ¬ j = 0 := by omega
            have h2 : ¬ (xs[i]).2.1.getD (j - 1) 0 < (xs[i]).2.1[j] := by omega
            rw [decide_eq_false h1, decide_eq_false h2, Bool.or_false, Bool.and_false]
          · refine ⟨_, by omega, j + 1, by omega, rfl, range_all_succ hln ?_, rfl⟩
            unfold lineAt
            rw [hgd]
            have h2 : (xs[i]).2.1.getD (j - 1) 0 < (xs[i]).2.1[j] := by omega
            rw [decide_eq_true e2'.1, decide_eq_true e2'.2, decide_eq_true h2, Bool.or_true]; rfl
        · simp (disch := omega) only [↓stp, ↓pln, plv, nilOk, Nat.reduceBEq, Bool.or_false, Bool.or_true, Bool.false_or, Bool.true_or, vls, inf, frs, mark_eq, ↓reduceIte, Nat.reduceEqDiff, ite_tt, ite_ff, eq_self, and_true, true_and, and_self, implies_true, Bool.true_eq_false, Bool.false_eq_true, decide_true, decide_false, decide_eq_true_eq, decide_eq_false_iff_not, ne_eq, not_true_eq_false, not_false_eq_true, Bool.not_eq_true', Bool.not_eq_false', beq_self_eq_true, Bool.not_true, Bool.not_false, List.getElem?_toArray, List.getElem?_cons_zero, List.getElem?_cons_succ, h0, h3, h4, h5, hd1, hcl, e2, e3]
          refine ⟨_, by omega, j + 1, by omega, rfl, range_all_succ hln ?_, rfl⟩
          have h1 : j = 0 := by omega
          unfold lineAt
          rw [hgd]
          rw [decide_eq_true e2'.1, decide_eq_true e2'.2, decide_eq_true h1]; rfl
      · refine ⟨?_, hg2.ext⟩
        rw [coversB_no hlt (linesB_no hjl ?_)]
        unfold lineAt
        rw [hgd, e2, Bool.false_and]
    · simp (disch := omega) only [↓stp, vls, inf, frs, mark_eq, ↓reduceIte, Nat.reduceEqDiff, ite_tt, ite_ff, eq_self, and_true, true_and, and_self, implies_true, Bool.true_eq_false, Bool.false_eq_true, decide_true, decide_false, decide_eq_true_eq, decide_eq_false_iff_not, ne_eq, not_true_eq_false, not_false_eq_true, Bool.not_eq_true', Bool.not_eq_false', beq_self_eq_true, Bool.not_true, Bool.not_false, List.getElem?_toArray, List.getElem?_cons_zero, List.getElem?_cons_succ, h0, h3, h4, h5]
      have hj' : j = (xs[i]).2.1.length := by omega
      subst hj'
      refine ⟨_, by omega, i + 1, b2, c2, by omega, rfl, ?_, all_take (p := fun x => linesB x.2.1) hlt hall (show linesB (xs[i]).2.1 = true from hln), rfl, rfl⟩
      rw [List.take_succ_eq_append_getElem hlt, List.map_append]
      exact hg2
  · simp (disch := omega) only [↓stp, vls, inf, frs, mark_eq, ↓reduceIte, Nat.reduceEqDiff, ite_tt, ite_ff, eq_self, and_true, true_and, and_self, implies_true, Bool.true_eq_false, Bool.false_eq_true, decide_true, decide_false, decide_eq_true_eq, decide_eq_false_iff_not, ne_eq, not_true_eq_false, not_false_eq_true, Bool.not_eq_true', Bool.not_eq_false', beq_self_eq_true, Bool.not_true, Bool.not_false, List.getElem?_toArray, List.getElem?_cons_zero, List.getElem?_cons_succ, h0, h3, h4]
    have hi' : i = xs.length := by omega
    subst hi'
    rw [List.take_length] at hg hall
    have hlm : (xs.map (·.1)).length = xs.length := by simp
    have hsl : Sl strS A' (.slice (some ⟨b, 0, none⟩) xs.length c') (xs.map (·.1)) := hg.sl hlm.symm (by omega)
    refine (spec_validOrder_c A' _ _ hsl).mono ?_
    rintro _ A' ⟨rfl, rfl⟩
    simp (disch := omega) only [↓stp, vls, inf, frs, mark_eq, ↓reduceIte, Nat.reduceEqDiff, ite_tt, ite_ff, eq_self, and_true, true_and, and_self, implies_true, Bool.true_eq_false, Bool.false_eq_true, decide_true, decide_false, decide_eq_true_eq, decide_eq_false_iff_not, ne_eq, not_true_eq_false, not_false_eq_true, Bool.not_eq_true', Bool.not_eq_false', beq_self_eq_true, Bool.not_true, Bool.not_false, List.getElem?_toArray, List.getElem?_cons_zero, List.getElem?_cons_succ]
    refine ⟨?_, hg.ext⟩
    unfold coversB
    rw [hall, Bool.true_and]

end Go.Proofs.Ytaknlfkoomagoaa

