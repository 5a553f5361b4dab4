/- Shrunk and halved tests: the program and the reference. -/
import Derived.Test.YtbbhhdcimmofoaaQ3
set_option maxHeartbeats 4000000
set_option synthInstance.maxHeartbeats 400000
set_option synthInstance.maxSize 4096
set_option linter.unusedSimpArgs false
set_option linter.unusedVariables false
namespace Go.Proofs.Ytbbhhdcimmofoaa

set_option maxRecDepth 100000

theorem inOrd_all {ids c : List ByteArray} (hi : ids.Nodup) (hc : c.Nodup) : (inOrd ids c).length = c.length ↔ ∀ x ∈ c, x ∈ ids := by
  have hn : (inOrd ids c).Nodup := List.filter_sublist.nodup hi
  have hsub : inOrd ids c ⊆ c := fun x hx => by simpa using (List.mem_filter.1 hx).2
  constructor
  · intro h x hx
    refine Classical.byContradiction fun hni => ?_
    have hsub2 : inOrd ids c ⊆ c.erase x := fun y hy => by
      have hy' := List.mem_filter.1 hy
      have hne : y ≠ x := fun e => hni (by rw [← e]; exact hy'.1)
      exact (List.mem_erase_of_ne hne).2 (by simpa using hy'.2)
    have h1 := hn.length_le_of_subset hsub2
    rw [List.length_erase_of_mem hx] at h1
    have := List.length_pos_of_mem hx
    omega
  · intro h
    have h1 := hn.length_le_of_subset hsub
    have hsub2 : c ⊆ inOrd ids c := fun x hx => List.mem_filter.2 ⟨h x hx, by simpa using hx⟩
    have h2 := hc.length_le_of_subset hsub2
    omega

theorem without_none {c ids : List ByteArray} : (without c ids).length = 0 ↔ ∀ x ∈ c, x ∈ ids := by
  rw [List.length_eq_zero_iff]
  unfold without
  rw [List.filter_eq_nil_iff]
  simp

theorem any_congr' {α : Type} {p q : α → Bool} : ∀ {xs : List α}, (∀ x ∈ xs, p x = q x) → xs.any p = xs.any q
  | [], _ => rfl
  | x :: xs, h => by rw [List.any_cons, List.any_cons, h x (List.mem_cons_self ..), any_congr' fun y hy => h y (List.mem_cons_of_mem _ hy)]

theorem causesB_len {cs : List (List ByteArray)} (h : causesB cs = true) : ∀ c ∈ cs, c.length ≤ 3 ∧ c.Nodup := by
  intro c hc
  unfold causesB at h
  rw [Bool.and_eq_true, List.all_eq_true] at h
  have := h.1 c hc
  unfold causeB at this
  simp only [Bool.and_eq_true, decide_eq_true_eq] at this
  exact ⟨this.1.2, idsB_nodup this.2⟩

theorem fails_eq {cs : List (List ByteArray)} (h : causesB cs = true) {ids : List ByteArray} (hi : ids.Nodup) : failsI cs ids = failsS cs ids := by
  unfold failsI failsS
  refine any_congr' fun c hc => ?_
  have := causesB_len h c hc
  congr 1
  rw [inOrd_all hi this.2, without_none]

/-- Tests that fail. -/
def failB (cs : List (List ByteArray)) (ids : List ByteArray) : Bool := causesB cs && idsB ids && failsS cs ids
theorem failB_impl (cs : List (List ByteArray)) (ids : List ByteArray) : (causesB cs && idsB ids && failsI cs ids) = failB cs ids := by
  unfold failB
  cases h1 : causesB cs with
  | false => rfl
  | true =>
    cases h2 : idsB ids with
    | false => rfl
    | true => rw [fails_eq h1 (idsB_nodup h2)]

def shrunkR (cs : List (List ByteArray)) (ids : List ByteArray) : List ByteArray := if failB cs ids then shr (failsS cs) ids 0 else []
theorem failB_spec {cs : List (List ByteArray)} {ids : List ByteArray} (h : failB cs ids = true) : causesB cs = true ∧ idsB ids = true ∧ failsS cs ids = true := by
  unfold failB at h
  simp only [Bool.and_eq_true] at h
  exact ⟨h.1.1, h.1.2, h.2⟩
theorem shrunkR_len (cs : List (List ByteArray)) (ids : List ByteArray) : (shrunkR cs ids).length ≤ 10 := by
  unfold shrunkR
  split
  · rename_i h
    have h1 := idsB_len' (failB_spec h).2.1
    have h2 := shr_le (failsS cs) ids 0
    omega
  · simp

/-- What is left of tests that are halved. -/
def halve (f : List ByteArray → Bool) (xs : List ByteArray) : List ByteArray :=
  if h : 1 < xs.length then (if f (xs.take (xs.length / 2)) then halve f (xs.take (xs.length / 2)) else if f (xs.drop (xs.length / 2)) then halve f (xs.drop (xs.length / 2)) else xs) else xs
termination_by xs.length
decreasing_by
  all_goals simp; omega

theorem halve_sub (f : List ByteArray → Bool) (xs : List ByteArray) : (halve f xs).Sublist xs := by
  unfold halve
  split
  · split
    · exact (halve_sub f _).trans (List.take_sublist _ _)
    · split
      · exact (halve_sub f _).trans (List.drop_sublist _ _)
      · exact List.Sublist.refl _
  · exact List.Sublist.refl _
termination_by xs.length
decreasing_by
  all_goals simp; omega

theorem halve_congr {f g : List ByteArray → Bool} (hfg : ∀ xs : List ByteArray, xs.Nodup → f xs = g xs) (xs : List ByteArray) (h : xs.Nodup) : halve f xs = halve g xs := by
  have ht : (xs.take (xs.length / 2)).Nodup := (List.take_sublist _ _).nodup h
  have hd : (xs.drop (xs.length / 2)).Nodup := (List.drop_sublist _ _).nodup h
  unfold halve
  split
  · rw [hfg _ ht, hfg _ hd]
    split
    · exact halve_congr hfg _ ht
    · split
      · exact halve_congr hfg _ hd
      · rfl
  · rfl
termination_by xs.length
decreasing_by
  all_goals simp; omega

def halvedR (cs : List (List ByteArray)) (ids : List ByteArray) : List ByteArray := if failB cs ids then shr (failsS cs) (halve (failsS cs) ids) 0 else []
theorem halvedR_len (cs : List (List ByteArray)) (ids : List ByteArray) : (halvedR cs ids).length ≤ 10 := by
  unfold halvedR
  split
  · rename_i h
    have h1 := idsB_len' (failB_spec h).2.1
    have h2 := shr_le (failsS cs) (halve (failsS cs) ids) 0
    have h3 := (halve_sub (failsS cs) ids).length_le
    omega
  · simp

theorem impl_failB_c (A : View) (v u : Value) (cs : List (List ByteArray)) (ids : List ByteArray) (h : Sl (slS strS) A v cs) (h' : Sl strS A u ids) : ACalls Try.prog 11 #[v, u] A fun r A' => r = .bool (failB cs ids) ∧ Ext A A' := by
  rw [← failB_impl]; exact impl_failsWith_c A v u cs ids h h'

theorem impl_shrinkIds_c (A : View) (v u : Value) (cs : List (List ByteArray)) (ids : List ByteArray) (h : Sl (slS strS) A v cs) (h' : Sl strS A u ids) : ACalls Try.prog 19 #[v, u] A fun r A' => ∃ u0, r = .tuple #[u0, .bool (failB cs ids)] ∧ NewSl 9 strO A u0 A' (shrunkR cs ids) := by
  refine acalls Try.func19 rfl (by kernel_rfl) ?_
  simp (disch := omega) only [↓stp, vls, inf, frs, mark_eq, ↓reduceIte, Nat.reduceEqDiff, ite_tt, ite_ff, eq_self, and_true, true_and, and_self, implies_true, Bool.true_eq_false, Bool.false_eq_true, decide_true, decide_false, decide_eq_true_eq, decide_eq_false_iff_not, ne_eq, not_true_eq_false, not_false_eq_true, Bool.not_eq_true', Bool.not_eq_false', beq_self_eq_true, Bool.not_true, Bool.not_false, List.getElem?_toArray, List.getElem?_cons_zero, List.getElem?_cons_succ]
  refine (impl_failB_c A v u cs ids h h').mono ?_
  rintro _ V ⟨rfl, he⟩
  simp (disch := omega) only [↓stp, vls, inf, frs, mark_eq, ↓reduceIte, Nat.reduceEqDiff, ite_tt, ite_ff, eq_self, and_true, true_and, and_self, implies_true, Bool.true_eq_false, Bool.false_eq_true, decide_true, decide_false, decide_eq_true_eq, decide_eq_false_iff_not, ne_eq, not_true_eq_false, not_false_eq_true, Bool.not_eq_true', Bool.not_eq_false', beq_self_eq_true, Bool.not_true, Bool.not_false, List.getElem?_toArray, List.getElem?_cons_zero, List.getElem?_cons_succ]
  refine ⟨fun e => ?_, fun e => ?_⟩ <;> simp (disch := omega) only [↓stp, vls, inf, frs, mark_eq, ↓reduceIte, Nat.reduceEqDiff, ite_tt, ite_ff, eq_self, and_true, true_and, and_self, implies_true, Bool.true_eq_false, Bool.false_eq_true, decide_true, decide_false, decide_eq_true_eq, decide_eq_false_iff_not, ne_eq, not_true_eq_false, not_false_eq_true, Bool.not_eq_true', Bool.not_eq_false', beq_self_eq_true, Bool.not_true, Bool.not_false, List.getElem?_toArray, List.getElem?_cons_zero, List.getElem?_cons_succ]
  · refine ⟨_, by rw [e], ?_⟩
    unfold shrunkR
    rw [e]
    exact NewSl.nil he
  · obtain ⟨h1, h2, h3⟩ := failB_spec e
    have := idsB_len' h2
    refine (impl_shrunk_c V v u cs ids (h.mono he) (h'.mono he) (by omega)).mono ?_
    rintro r W hr
    simp (disch := omega) only [↓stp, vls, inf, frs, mark_eq, ↓reduceIte, Nat.reduceEqDiff, ite_tt, ite_ff, eq_self, and_true, true_and, and_self, implies_true, Bool.true_eq_false, Bool.false_eq_true, decide_true, decide_false, decide_eq_true_eq, decide_eq_false_iff_not, ne_eq, not_true_eq_false, not_false_eq_true, Bool.not_eq_true', Bool.not_eq_false', beq_self_eq_true, Bool.not_true, Bool.not_false, List.getElem?_toArray, List.getElem?_cons_zero, List.getElem?_cons_succ]
    refine ⟨_, by rw [e], ?_⟩
    unfold shrunkR
    rw [if_pos e, ← shr_congr (fun xs hx => fails_eq h1 hx) ids 0 (idsB_nodup h2)]
    exact hr.base he

theorem spec_shrinkIds_c (A : View) (v u : Value) (cs : List (List ByteArray)) (ids : List ByteArray) (h : Sl (slS strS) A v cs) (h' : Sl strS A u ids) (hcs : ∀ c ∈ cs, c.length ≤ 16777215) : ACalls Try.prog 25 #[v, u] A fun r A' => ∃ u0, r = .tuple #[u0, .bool (failB cs ids)] ∧ NewSl 9 strO A u0 A' (shrunkR cs ids) := by
  refine acalls Try.func25 rfl (by kernel_rfl) ?_
  simp (disch := omega) only [↓stp, vls, inf, frs, mark_eq, ↓reduceIte, Nat.reduceEqDiff, ite_tt, ite_ff, eq_self, and_true, true_and, and_self, implies_true, Bool.true_eq_false, Bool.false_eq_true, decide_true, decide_false, decide_eq_true_eq, decide_eq_false_iff_not, ne_eq, not_true_eq_false, not_false_eq_true, Bool.not_eq_true', Bool.not_eq_false', beq_self_eq_true, Bool.not_true, Bool.not_false, List.getElem?_toArray, List.getElem?_cons_zero, List.getElem?_cons_succ]
  refine (spec_goodCauses_c A v u cs ids h h').mono ?_
  rintro _ A ⟨rfl, rfl⟩
  simp (disch := omega) only [↓stp, vls, inf, frs, mark_eq, ↓reduceIte, Nat.reduceEqDiff, ite_tt, ite_ff, eq_self, and_true, true_and, and_self, implies_true, Bool.true_eq_false, Bool.false_eq_true, decide_true, decide_false, decide_eq_true_eq, decide_eq_false_iff_not, ne_eq, not_true_eq_false, not_false_eq_true, Bool.not_eq_true', Bool.not_eq_false', beq_self_eq_true, Bool.not_true, Bool.not_false, List.getElem?_toArray, List.getElem?_cons_zero, List.getElem?_cons_succ]
  refine ⟨fun e1 => ?_, fun e1 => ?_⟩ <;> simp (disch := omega) only [↓stp, vls, inf, frs, mark_eq, ↓reduceIte, Nat.reduceEqDiff, ite_tt, ite_ff, eq_self, and_true, true_and, and_self, implies_true, Bool.true_eq_false, Bool.false_eq_true, decide_true, decide_false, decide_eq_true_eq, decide_eq_false_iff_not, ne_eq, not_true_eq_false, not_false_eq_true, Bool.not_eq_true', Bool.not_eq_false', beq_self_eq_true, Bool.not_true, Bool.not_false, List.getElem?_toArray, List.getElem?_cons_zero, List.getElem?_cons_succ, e1]
  · refine (spec_failing_c A v u cs ids h h' hcs).mono ?_
    rintro _ V ⟨rfl, he⟩
    simp (disch := omega) only [↓stp, vls, inf, frs, mark_eq, ↓reduceIte, Nat.reduceEqDiff, ite_tt, ite_ff, eq_self, and_true, true_and, and_self, implies_true, Bool.true_eq_false, Bool.false_eq_true, decide_true, decide_false, decide_eq_true_eq, decide_eq_false_iff_not, ne_eq, not_true_eq_false, not_false_eq_true, Bool.not_eq_true', Bool.not_eq_false', beq_self_eq_true, Bool.not_true, Bool.not_false, List.getElem?_toArray, List.getElem?_cons_zero, List.getElem?_cons_succ, e1]
    refine ⟨fun e2 => ?_, fun e2 => ?_⟩ <;> simp (disch := omega) only [↓stp, vls, inf, frs, mark_eq, ↓reduceIte, Nat.reduceEqDiff, ite_tt, ite_ff, eq_self, and_true, true_and, and_self, implies_true, Bool.true_eq_false, Bool.false_eq_true, decide_true, decide_false, decide_eq_true_eq, decide_eq_false_iff_not, ne_eq, not_true_eq_false, not_false_eq_true, Bool.not_eq_true', Bool.not_eq_false', beq_self_eq_true, Bool.not_true, Bool.not_false, List.getElem?_toArray, List.getElem?_cons_zero, List.getElem?_cons_succ]
    · have e : failB cs ids = false := by unfold failB; rw [e2, Bool.and_false]
      refine ⟨_, by rw [e], ?_⟩
      unfold shrunkR
      rw [e]
      exact NewSl.nil he
    · have e : failB cs ids = true := by unfold failB; rw [e1, e2]; rfl
      have := idsB_len' (failB_spec e).2.1
      refine (spec_shrunk_c V v u cs ids (h.mono he) (h'.mono he) (by omega) hcs).mono ?_
      rintro r W hr
      simp (disch := omega) only [↓stp, vls, inf, frs, mark_eq, ↓reduceIte, Nat.reduceEqDiff, ite_tt, ite_ff, eq_self, and_true, true_and, and_self, implies_true, Bool.true_eq_false, Bool.false_eq_true, decide_true, decide_false, decide_eq_true_eq, decide_eq_false_iff_not, ne_eq, not_true_eq_false, not_false_eq_true, Bool.not_eq_true', Bool.not_eq_false', beq_self_eq_true, Bool.not_true, Bool.not_false, List.getElem?_toArray, List.getElem?_cons_zero, List.getElem?_cons_succ]
      refine ⟨_, by rw [e], ?_⟩
      unfold shrunkR
      rw [if_pos e]
      exact hr.base he
  · have e : failB cs ids = false := by unfold failB; rw [e1]; rfl
    refine ⟨_, by rw [e], ?_⟩
    unfold shrunkR
    rw [e]
    exact NewSl.nil (Ext.refl _)

theorem impl_halveIds_c (A : View) (v u : Value) (cs : List (List ByteArray)) (ids : List ByteArray) (h : Sl (slS strS) A v cs) (h' : Sl strS A u ids) : ACalls Try.prog 22 #[v, u] A fun r A' => ∃ u0, r = .tuple #[u0, .bool (failB cs ids)] ∧ NewSl 9 strO A u0 A' (halvedR cs ids) := by
  refine acalls Try.func22 rfl (by kernel_rfl) ?_
  simp (disch := omega) only [↓stp, vls, inf, frs, mark_eq, ↓reduceIte, Nat.reduceEqDiff, ite_tt, ite_ff, eq_self, and_true, true_and, and_self, implies_true, Bool.true_eq_false, Bool.false_eq_true, decide_true, decide_false, decide_eq_true_eq, decide_eq_false_iff_not, ne_eq, not_true_eq_false, not_false_eq_true, Bool.not_eq_true', Bool.not_eq_false', beq_self_eq_true, Bool.not_true, Bool.not_false, List.getElem?_toArray, List.getElem?_cons_zero, List.getElem?_cons_succ]
  refine (impl_failB_c A v u cs ids h h').mono ?_
  rintro _ V ⟨rfl, he⟩
  simp (disch := omega) only [↓stp, vls, inf, frs, mark_eq, ↓reduceIte, Nat.reduceEqDiff, ite_tt, ite_ff, eq_self, and_true, true_and, and_self, implies_true, Bool.true_eq_false, Bool.false_eq_true, decide_true, decide_false, decide_eq_true_eq, decide_eq_false_iff_not, ne_eq, not_true_eq_false, not_false_eq_true, Bool.not_eq_true', Bool.not_eq_false', beq_self_eq_true, Bool.not_true, Bool.not_false, List.getElem?_toArray, List.getElem?_cons_zero, List.getElem?_cons_succ]
  refine ⟨fun e => ?_, fun e => ?_⟩ <;> simp (disch := omega) only [↓stp, vls, inf, frs, mark_eq, ↓reduceIte, Nat.reduceEqDiff, ite_tt, ite_ff, eq_self, and_true, true_and, and_self, implies_true, Bool.true_eq_false, Bool.false_eq_true, decide_true, decide_false, decide_eq_true_eq, decide_eq_false_iff_not, ne_eq, not_true_eq_false, not_false_eq_true, Bool.not_eq_true', Bool.not_eq_false', beq_self_eq_true, Bool.not_true, Bool.not_false, List.getElem?_toArray, List.getElem?_cons_zero, List.getElem?_cons_succ]
  · refine ⟨_, by rw [e], ?_⟩
    unfold halvedR
    rw [e]
    exact NewSl.nil he
  · obtain ⟨h1, h2, h3⟩ := failB_spec e
    have hl10 := idsB_len' h2
    have hres : halvedR cs ids = shr (failsI cs) (halve (failsI cs) ids) 0 := by
      unfold halvedR
      rw [if_pos e, ← halve_congr (fun xs hx => fails_eq h1 hx) ids (idsB_nodup h2), ← shr_congr (fun xs hx => fails_eq h1 hx) _ 0 ((halve_sub _ _).nodup (idsB_nodup h2))]
    refine aloop (fun d fr A' => ∃ (left : List ByteArray) (w : Value), left.length ≤ ids.length ∧ d = left.length ∧ Ext A A' ∧ Sl strS A' w left ∧ halve (failsI cs) left = halve (failsI cs) ids ∧ fr 0 = v ∧ fr 6 = w) ids.length ⟨ids, u, by omega, rfl, he, h'.mono he, rfl, by rfl, by rfl⟩ ?_
    rintro d fr A' ⟨left, w, hle, rfl, he', hw, hh, h0, h6⟩
    obtain ⟨aw, cw, rfl, hcw, _⟩ := hw.slice
    simp (disch := omega) only [↓stp, vls, inf, frs, mark_eq, ↓reduceIte, Nat.reduceEqDiff, ite_tt, ite_ff, eq_self, and_true, true_and, and_self, implies_true, Bool.true_eq_false, Bool.false_eq_true, decide_true, decide_false, decide_eq_true_eq, decide_eq_false_iff_not, ne_eq, not_true_eq_false, not_false_eq_true, Bool.not_eq_true', Bool.not_eq_false', beq_self_eq_true, Bool.not_true, Bool.not_false, List.getElem?_toArray, List.getElem?_cons_zero, List.getElem?_cons_succ, h0, h6]
    rw [halve] at hh
    refine ⟨fun e1 => ?_, fun e1 => ?_⟩
    · have hdiv : ((left.length : Nat) : Int).tdiv 2 = ((left.length / 2 : Nat) : Int) := (Int.ofNat_tdiv left.length 2).symm
      rw [dif_pos (by omega)] at hh
      simp (disch := omega) only [↓stp, vls, inf, frs, mark_eq, ↓reduceIte, Nat.reduceEqDiff, ite_tt, ite_ff, eq_self, and_true, true_and, and_self, implies_true, Bool.true_eq_false, Bool.false_eq_true, decide_true, decide_false, decide_eq_true_eq, decide_eq_false_iff_not, ne_eq, not_true_eq_false, not_false_eq_true, Bool.not_eq_true', Bool.not_eq_false', beq_self_eq_true, Bool.not_true, Bool.not_false, List.getElem?_toArray, List.getElem?_cons_zero, List.getElem?_cons_succ, h0, h6, abin_quo, hdiv]
      refine (impl_fails_c A' v _ cs _ (h.mono he') (hw.take (k := left.length / 2) (by omega) 1) (by simp; omega)).mono ?_
      rintro _ W ⟨rfl, he2⟩
      simp (disch := omega) only [↓stp, vls, inf, frs, mark_eq, ↓reduceIte, Nat.reduceEqDiff, ite_tt, ite_ff, eq_self, and_true, true_and, and_self, implies_true, Bool.true_eq_false, Bool.false_eq_true, decide_true, decide_false, decide_eq_true_eq, decide_eq_false_iff_not, ne_eq, not_true_eq_false, not_false_eq_true, Bool.not_eq_true', Bool.not_eq_false', beq_self_eq_true, Bool.not_true, Bool.not_false, List.getElem?_toArray, List.getElem?_cons_zero, List.getElem?_cons_succ, h0, h6]
      refine ⟨fun e2 => ?_, fun e2 => ?_⟩ <;> simp (disch := omega) only [↓stp, vls, inf, frs, mark_eq, ↓reduceIte, Nat.reduceEqDiff, ite_tt, ite_ff, eq_self, and_true, true_and, and_self, implies_true, Bool.true_eq_false, Bool.false_eq_true, decide_true, decide_false, decide_eq_true_eq, decide_eq_false_iff_not, ne_eq, not_true_eq_false, not_false_eq_true, Bool.not_eq_true', Bool.not_eq_false', beq_self_eq_true, Bool.not_true, Bool.not_false, List.getElem?_toArray, List.getElem?_cons_zero, List.getElem?_cons_succ, h0, h6]
      · rw [if_pos e2] at hh
        exact ⟨_, by rw [List.length_take]; omega, _, _, by rw [List.length_take]; omega, rfl, he'.trans he2, (hw.take (k := left.length / 2) (by omega) 1).mono he2, hh, rfl⟩
      · rw [if_neg (by simp [e2])] at hh
        refine (impl_fails_c W v _ cs _ (h.mono (he'.trans he2)) ((hw.drop (k := left.length / 2) (by omega)).mono he2) (by simp; omega)).mono ?_
        rintro _ X ⟨rfl, he3⟩
        simp (disch := omega) only [↓stp, vls, inf, frs, mark_eq, ↓reduceIte, Nat.reduceEqDiff, ite_tt, ite_ff, eq_self, and_true, true_and, and_self, implies_true, Bool.true_eq_false, Bool.false_eq_true, decide_true, decide_false, decide_eq_true_eq, decide_eq_false_iff_not, ne_eq, not_true_eq_false, not_false_eq_true, Bool.not_eq_true', Bool.not_eq_false', beq_self_eq_true, Bool.not_true, Bool.not_false, List.getElem?_toArray, List.getElem?_cons_zero, List.getElem?_cons_succ, h0, h6]
        refine ⟨fun e3 => ?_, fun e3 => ?_⟩ <;> simp (disch := omega) only [↓stp, vls, inf, frs, mark_eq, ↓reduceIte, Nat.reduceEqDiff, ite_tt, ite_ff, eq_self, and_true, true_and, and_self, implies_true, Bool.true_eq_false, Bool.false_eq_true, decide_true, decide_false, decide_eq_true_eq, decide_eq_false_iff_not, ne_eq, not_true_eq_false, not_false_eq_true, Bool.not_eq_true', Bool.not_eq_false', beq_self_eq_true, Bool.not_true, Bool.not_false, List.getElem?_toArray, List.getElem?_cons_zero, List.getElem?_cons_succ, h0, h6]
        · rw [if_pos e3] at hh
          exact ⟨_, by rw [List.length_drop]; omega, _, _, by rw [List.length_drop]; omega, rfl, (he'.trans he2).trans he3, (hw.drop (k := left.length / 2) (by omega)).mono (he2.trans he3), hh, rfl⟩
        · rw [if_neg (by simp [e3])] at hh
          have hE := (he'.trans he2).trans he3
          refine (impl_shrunk_c X v _ cs left (h.mono hE) (hw.mono (he2.trans he3)) (by omega)).mono ?_
          rintro r Y hr
          simp (disch := omega) only [↓stp, vls, inf, frs, mark_eq, ↓reduceIte, Nat.reduceEqDiff, ite_tt, ite_ff, eq_self, and_true, true_and, and_self, implies_true, Bool.true_eq_false, Bool.false_eq_true, decide_true, decide_false, decide_eq_true_eq, decide_eq_false_iff_not, ne_eq, not_true_eq_false, not_false_eq_true, Bool.not_eq_true', Bool.not_eq_false', beq_self_eq_true, Bool.not_true, Bool.not_false, List.getElem?_toArray, List.getElem?_cons_zero, List.getElem?_cons_succ, h0, h6]
          refine ⟨_, by rw [e], ?_⟩
          rw [hres, ← hh]
          exact hr.base hE
    · rw [dif_neg (by omega)] at hh
      simp (disch := omega) only [↓stp, vls, inf, frs, mark_eq, ↓reduceIte, Nat.reduceEqDiff, ite_tt, ite_ff, eq_self, and_true, true_and, and_self, implies_true, Bool.true_eq_false, Bool.false_eq_true, decide_true, decide_false, decide_eq_true_eq, decide_eq_false_iff_not, ne_eq, not_true_eq_false, not_false_eq_true, Bool.not_eq_true', Bool.not_eq_false', beq_self_eq_true, Bool.not_true, Bool.not_false, List.getElem?_toArray, List.getElem?_cons_zero, List.getElem?_cons_succ, h0, h6]
      refine (impl_shrunk_c A' v _ cs left (h.mono he') hw (by omega)).mono ?_
      rintro r Y hr
      simp (disch := omega) only [↓stp, vls, inf, frs, mark_eq, ↓reduceIte, Nat.reduceEqDiff, ite_tt, ite_ff, eq_self, and_true, true_and, and_self, implies_true, Bool.true_eq_false, Bool.false_eq_true, decide_true, decide_false, decide_eq_true_eq, decide_eq_false_iff_not, ne_eq, not_true_eq_false, not_false_eq_true, Bool.not_eq_true', Bool.not_eq_false', beq_self_eq_true, Bool.not_true, Bool.not_false, List.getElem?_toArray, List.getElem?_cons_zero, List.getElem?_cons_succ, h0, h6]
      refine ⟨_, by rw [e], ?_⟩
      rw [hres, ← hh]
      exact hr.base he'

theorem spec_halveIds_c (A : View) (v u : Value) (cs : List (List ByteArray)) (ids : List ByteArray) (h : Sl (slS strS) A v cs) (h' : Sl strS A u ids) (hcs : ∀ c ∈ cs, c.length ≤ 16777215) : ACalls Try.prog 23 #[v, u] A fun r A' => ∃ u0, r = .tuple #[u0, .bool (failB cs ids)] ∧ NewSl 9 strO A u0 A' (halvedR cs ids) := by
  refine acalls Try.func23 rfl (by kernel_rfl) ?_
  simp (disch := omega) only [↓stp, vls, inf, frs, mark_eq, ↓reduceIte, Nat.reduceEqDiff, ite_tt, ite_ff, eq_self, and_true, true_and, and_self, implies_true, Bool.true_eq_false, Bool.false_eq_true, decide_true, decide_false, decide_eq_true_eq, decide_eq_false_iff_not, ne_eq, not_true_eq_false, not_false_eq_true, Bool.not_eq_true', Bool.not_eq_false', beq_self_eq_true, Bool.not_true, Bool.not_false, List.getElem?_toArray, List.getElem?_cons_zero, List.getElem?_cons_succ]
  refine (spec_goodCauses_c A v u cs ids h h').mono ?_
  rintro _ A ⟨rfl, rfl⟩
  simp (disch := omega) only [↓stp, vls, inf, frs, mark_eq, ↓reduceIte, Nat.reduceEqDiff, ite_tt, ite_ff, eq_self, and_true, true_and, and_self, implies_true, Bool.true_eq_false, Bool.false_eq_true, decide_true, decide_false, decide_eq_true_eq, decide_eq_false_iff_not, ne_eq, not_true_eq_false, not_false_eq_true, Bool.not_eq_true', Bool.not_eq_false', beq_self_eq_true, Bool.not_true, Bool.not_false, List.getElem?_toArray, List.getElem?_cons_zero, List.getElem?_cons_succ]
  refine ⟨fun e1 => ?_, fun e1 => ?_⟩ <;> simp (disch := omega) only [↓stp, vls, inf, frs, mark_eq, ↓reduceIte, Nat.reduceEqDiff, ite_tt, ite_ff, eq_self, and_true, true_and, and_self, implies_true, Bool.true_eq_false, Bool.false_eq_true, decide_true, decide_false, decide_eq_true_eq, decide_eq_false_iff_not, ne_eq, not_true_eq_false, not_false_eq_true, Bool.not_eq_true', Bool.not_eq_false', beq_self_eq_true, Bool.not_true, Bool.not_false, List.getElem?_toArray, List.getElem?_cons_zero, List.getElem?_cons_succ, e1]
  · refine (spec_failing_c A v u cs ids h h' hcs).mono ?_
    rintro _ V ⟨rfl, he⟩
    simp (disch := omega) only [↓stp, vls, inf, frs, mark_eq, ↓reduceIte, Nat.reduceEqDiff, ite_tt, ite_ff, eq_self, and_true, true_and, and_self, implies_true, Bool.true_eq_false, Bool.false_eq_true, decide_true, decide_false, decide_eq_true_eq, decide_eq_false_iff_not, ne_eq, not_true_eq_false, not_false_eq_true, Bool.not_eq_true', Bool.not_eq_false', beq_self_eq_true, Bool.not_true, Bool.not_false, List.getElem?_toArray, List.getElem?_cons_zero, List.getElem?_cons_succ, e1]
    refine ⟨fun e2 => ?_, fun e2 => ?_⟩ <;> simp (disch := omega) only [↓stp, vls, inf, frs, mark_eq, ↓reduceIte, Nat.reduceEqDiff, ite_tt, ite_ff, eq_self, and_true, true_and, and_self, implies_true, Bool.true_eq_false, Bool.false_eq_true, decide_true, decide_false, decide_eq_true_eq, decide_eq_false_iff_not, ne_eq, not_true_eq_false, not_false_eq_true, Bool.not_eq_true', Bool.not_eq_false', beq_self_eq_true, Bool.not_true, Bool.not_false, List.getElem?_toArray, List.getElem?_cons_zero, List.getElem?_cons_succ]
    · have e : failB cs ids = false := by unfold failB; rw [e2, Bool.and_false]
      refine ⟨_, by rw [e], ?_⟩
      unfold halvedR
      rw [e]
      exact NewSl.nil he
    · have e : failB cs ids = true := by unfold failB; rw [e1, e2]; rfl
      have hl10 := idsB_len' (failB_spec e).2.1
      have hres : halvedR cs ids = shr (failsS cs) (halve (failsS cs) ids) 0 := by unfold halvedR; rw [if_pos e]
      refine led_lit0 (O := strO) li24 (Led.nil V) fun b V1 he1 l => ?_
      simp (disch := omega) only [↓stp, vls, inf, frs, mark_eq, ↓reduceIte, Nat.reduceEqDiff, ite_tt, ite_ff, eq_self, and_true, true_and, and_self, implies_true, Bool.true_eq_false, Bool.false_eq_true, decide_true, decide_false, decide_eq_true_eq, decide_eq_false_iff_not, ne_eq, not_true_eq_false, not_false_eq_true, Bool.not_eq_true', Bool.not_eq_false', beq_self_eq_true, Bool.not_true, Bool.not_false, List.getElem?_toArray, List.getElem?_cons_zero, List.getElem?_cons_succ]
      refine led_app (O := strO) ap24_24 (by decide) l (i := 0) rfl (Sl.srcOf ((h'.mono he).mono he1)) (by simp; omega) fun f0 w0 V2 _ l => ?_
      simp (disch := omega) only [↓stp, vls, inf, frs, mark_eq, ↓reduceIte, Nat.reduceEqDiff, ite_tt, ite_ff, eq_self, and_true, true_and, and_self, implies_true, Bool.true_eq_false, Bool.false_eq_true, decide_true, decide_false, decide_eq_true_eq, decide_eq_false_iff_not, ne_eq, not_true_eq_false, not_false_eq_true, Bool.not_eq_true', Bool.not_eq_false', beq_self_eq_true, Bool.not_true, Bool.not_false, List.getElem?_toArray, List.getElem?_cons_zero, List.getElem?_cons_succ]
      refine aloop (fun d fr A' => ∃ (left : List ByteArray) (w : Value), left.length ≤ ids.length ∧ d = left.length ∧ Ext A A' ∧ Sl strS A' w left ∧ halve (failsS cs) left = halve (failsS cs) ids ∧ fr 0 = v ∧ fr 6 = w) ids.length ⟨ids, w0, by omega, rfl, he.trans l.ext, OSl.toS (l.at (i := 0) rfl), rfl, by rfl, by rfl⟩ ?_
      rintro d fr A' ⟨left, w, hle, rfl, he', hw, hh, h0, h6⟩
      obtain ⟨aw, cw, rfl, hcw, _⟩ := hw.slice
      have hdiv : ((left.length : Nat) : Int).tdiv 2 = ((left.length / 2 : Nat) : Int) := (Int.ofNat_tdiv left.length 2).symm
      simp (disch := omega) only [↓stp, vls, inf, frs, mark_eq, ↓reduceIte, Nat.reduceEqDiff, ite_tt, ite_ff, eq_self, and_true, true_and, and_self, implies_true, Bool.true_eq_false, Bool.false_eq_true, decide_true, decide_false, decide_eq_true_eq, decide_eq_false_iff_not, ne_eq, not_true_eq_false, not_false_eq_true, Bool.not_eq_true', Bool.not_eq_false', beq_self_eq_true, Bool.not_true, Bool.not_false, List.getElem?_toArray, List.getElem?_cons_zero, List.getElem?_cons_succ, h0, h6, abin_quo, hdiv]
      rw [halve] at hh
      have fin : left = halve (failsS cs) ids → ∀ X, Ext A X → Sl strS X (.slice aw left.length cw) left → ACalls Try.prog 53 #[v, .slice aw left.length cw] X fun r Y => NewSl 9 strO A r Y (halvedR cs ids) := fun hq X hE hX =>
        (spec_shrunk_c X v _ cs left (h.mono hE) hX (by omega) hcs).mono fun r Y hr => by rw [hres, ← hq]; exact hr.base hE
      refine ⟨fun e3 => ?_, fun e3 => ?_⟩ <;> simp (disch := omega) only [↓stp, vls, inf, frs, mark_eq, ↓reduceIte, Nat.reduceEqDiff, ite_tt, ite_ff, eq_self, and_true, true_and, and_self, implies_true, Bool.true_eq_false, Bool.false_eq_true, decide_true, decide_false, decide_eq_true_eq, decide_eq_false_iff_not, ne_eq, not_true_eq_false, not_false_eq_true, Bool.not_eq_true', Bool.not_eq_false', beq_self_eq_true, Bool.not_true, Bool.not_false, List.getElem?_toArray, List.getElem?_cons_zero, List.getElem?_cons_succ, h0, h6, e3, hdiv]
      · rw [dif_pos (by omega)] at hh
        refine (spec_failing_c A' v _ cs _ (h.mono he') (hw.take (k := left.length / 2) (by omega) 1) hcs).mono ?_
        rintro _ W ⟨rfl, he2⟩
        simp (disch := omega) only [↓stp, vls, inf, frs, mark_eq, ↓reduceIte, Nat.reduceEqDiff, ite_tt, ite_ff, eq_self, and_true, true_and, and_self, implies_true, Bool.true_eq_false, Bool.false_eq_true, decide_true, decide_false, decide_eq_true_eq, decide_eq_false_iff_not, ne_eq, not_true_eq_false, not_false_eq_true, Bool.not_eq_true', Bool.not_eq_false', beq_self_eq_true, Bool.not_true, Bool.not_false, List.getElem?_toArray, List.getElem?_cons_zero, List.getElem?_cons_succ, h0, h6, e3, hdiv]
        refine ⟨fun e2 => ?_, fun e2 => ?_⟩ <;> simp (disch := omega) only [↓stp, vls, inf, frs, mark_eq, ↓reduceIte, Nat.reduceEqDiff, ite_tt, ite_ff, eq_self, and_true, true_and, and_self, implies_true, Bool.true_eq_false, Bool.false_eq_true, decide_true, decide_false, decide_eq_true_eq, decide_eq_false_iff_not, ne_eq, not_true_eq_false, not_false_eq_true, Bool.not_eq_true', Bool.not_eq_false', beq_self_eq_true, Bool.not_true, Bool.not_false, List.getElem?_toArray, List.getElem?_cons_zero, List.getElem?_cons_succ, h0, h6, e3, hdiv]
        · rw [if_pos e2] at hh
          exact ⟨_, by rw [List.length_take]; omega, _, _, by rw [List.length_take]; omega, rfl, he'.trans he2, (hw.take (k := left.length / 2) (by omega) 1).mono he2, hh, rfl⟩
        · rw [if_neg (by simp [e2])] at hh
          refine (spec_failing_c W v _ cs _ (h.mono (he'.trans he2)) ((hw.drop (k := left.length / 2) (by omega)).mono he2) hcs).mono ?_
          rintro _ X ⟨rfl, he3⟩
          simp (disch := omega) only [↓stp, vls, inf, frs, mark_eq, ↓reduceIte, Nat.reduceEqDiff, ite_tt, ite_ff, eq_self, and_true, true_and, and_self, implies_true, Bool.true_eq_false, Bool.false_eq_true, decide_true, decide_false, decide_eq_true_eq, decide_eq_false_iff_not, ne_eq, not_true_eq_false, not_false_eq_true, Bool.not_eq_true', Bool.not_eq_false', beq_self_eq_true, Bool.not_true, Bool.not_false, List.getElem?_toArray, List.getElem?_cons_zero, List.getElem?_cons_succ, h0, h6, e3, hdiv]
          refine ⟨fun e4 => ?_, fun e4 => ?_⟩ <;> simp (disch := omega) only [↓stp, vls, inf, frs, mark_eq, ↓reduceIte, Nat.reduceEqDiff, ite_tt, ite_ff, eq_self, and_true, true_and, and_self, implies_true, Bool.true_eq_false, Bool.false_eq_true, decide_true, decide_false, decide_eq_true_eq, decide_eq_false_iff_not, ne_eq, not_true_eq_false, not_false_eq_true, Bool.not_eq_true', Bool.not_eq_false', beq_self_eq_true, Bool.not_true, Bool.not_false, List.getElem?_toArray, List.getElem?_cons_zero, List.getElem?_cons_succ, h0, h6]
          · rw [if_pos e4] at hh
            exact ⟨_, by rw [List.length_drop]; omega, _, _, by rw [List.length_drop]; omega, rfl, (he'.trans he2).trans he3, (hw.drop (k := left.length / 2) (by omega)).mono (he2.trans he3), hh, rfl⟩
          · rw [if_neg (by simp [e4])] at hh
            refine (fin hh X ((he'.trans he2).trans he3) (hw.mono (he2.trans he3))).mono ?_
            rintro r Y hr
            simp (disch := omega) only [↓stp, vls, inf, frs, mark_eq, ↓reduceIte, Nat.reduceEqDiff, ite_tt, ite_ff, eq_self, and_true, true_and, and_self, implies_true, Bool.true_eq_false, Bool.false_eq_true, decide_true, decide_false, decide_eq_true_eq, decide_eq_false_iff_not, ne_eq, not_true_eq_false, not_false_eq_true, Bool.not_eq_true', Bool.not_eq_false', beq_self_eq_true, Bool.not_true, Bool.not_false, List.getElem?_toArray, List.getElem?_cons_zero, List.getElem?_cons_succ, h0, h6]
            exact ⟨_, by rw [e], hr⟩
      · rw [dif_neg (by omega)] at hh
        refine (fin hh A' he' hw).mono ?_
        rintro r Y hr
        simp (disch := omega) only [↓stp, vls, inf, frs, mark_eq, ↓reduceIte, Nat.reduceEqDiff, ite_tt, ite_ff, eq_self, and_true, true_and, and_self, implies_true, Bool.true_eq_false, Bool.false_eq_true, decide_true, decide_false, decide_eq_true_eq, decide_eq_false_iff_not, ne_eq, not_true_eq_false, not_false_eq_true, Bool.not_eq_true', Bool.not_eq_false', beq_self_eq_true, Bool.not_true, Bool.not_false, List.getElem?_toArray, List.getElem?_cons_zero, List.getElem?_cons_succ, h0, h6]
        exact ⟨_, by rw [e], hr⟩
  · have e : failB cs ids = false := by unfold failB; rw [e1]; rfl
    refine ⟨_, by rw [e], ?_⟩
    unfold halvedR
    rw [e]
    exact NewSl.nil (Ext.refl _)

end Go.Proofs.Ytbbhhdcimmofoaa

