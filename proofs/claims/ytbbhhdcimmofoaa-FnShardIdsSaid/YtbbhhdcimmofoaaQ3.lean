/- What is shrunk, what is halved. -/
import Derived.Test.YtbbhhdcimmofoaaQ2
set_option maxHeartbeats 4000000
set_option synthInstance.maxHeartbeats 400000
set_option synthInstance.maxSize 4096
set_option linter.unusedSimpArgs false
set_option linter.unusedVariables false
namespace Go.Proofs.Ytbbhhdcimmofoaa

set_option maxRecDepth 100000

theorem less_len {α : Type} {out : List α} {i : Nat} (h : i < out.length) : (out.take i ++ out.drop (i + 1)).length = out.length - 1 := by
  simp; omega

/-- What is left, from a place on, of what can be left out. -/
def shr (f : List ByteArray → Bool) (out : List ByteArray) (i : Nat) : List ByteArray :=
  if h : i < out.length then (if f (out.take i ++ out.drop (i + 1)) then shr f (out.take i ++ out.drop (i + 1)) i else shr f out (i + 1)) else out
termination_by out.length - i
decreasing_by
  all_goals first | (rw [less_len (by assumption)]; omega) | omega

theorem shr_le (f : List ByteArray → Bool) (out : List ByteArray) (i : Nat) : (shr f out i).length ≤ out.length := by
  unfold shr
  split
  · rename_i h
    split
    · have := shr_le f (out.take i ++ out.drop (i + 1)) i
      rw [less_len h] at this
      omega
    · exact shr_le f out (i + 1)
  · exact Nat.le_refl _
termination_by out.length - i
decreasing_by
  all_goals first | (rw [less_len (by assumption)]; omega) | omega

theorem less_nodup {out : List ByteArray} (i : Nat) (h : out.Nodup) : (out.take i ++ out.drop (i + 1)).Nodup := by
  have h1 : (out.take i ++ out.drop (i + 1)).Sublist out := by
    conv => rhs; rw [← List.take_append_drop i out]
    exact List.Sublist.append (List.Sublist.refl _) (List.drop_sublist_drop_left _ (by omega))
  exact h1.nodup h

theorem shr_congr {f g : List ByteArray → Bool} (hfg : ∀ xs : List ByteArray, xs.Nodup → f xs = g xs) (out : List ByteArray) (i : Nat) (h : out.Nodup) : shr f out i = shr g out i := by
  unfold shr
  split
  · rename_i hi
    have hn := less_nodup i h
    rw [hfg _ hn]
    split
    · exact shr_congr hfg _ i hn
    · exact shr_congr hfg _ (i + 1) h
  · rfl
termination_by out.length - i
decreasing_by
  all_goals first | (rw [less_len (by assumption)]; omega) | omega

theorem clip_S (A : View) (fp : List Nat) (v : Value) (xs : List ByteArray) (h : OSl 9 strO A fp v xs) : ACalls Try.prog 78 #[v] A fun r A' => OSl 9 strO A' fp r xs ∧ Only fp A A' := by
  obtain ⟨hl, ⟨rfl, rfl, rfl⟩ | ⟨b, c, cells, f, rfl, hc, rfl, hb, he⟩⟩ := h
  · refine acalls Try.func78 rfl (by kernel_rfl) ?_
    simp (disch := omega) only [↓stp, vls, inf, frs, mark_eq, ↓reduceIte, Nat.reduceEqDiff, ite_tt, ite_ff, eq_self, and_true, true_and, and_self, implies_true, Bool.true_eq_false, Bool.false_eq_true, decide_true, decide_false, decide_eq_true_eq, decide_eq_false_iff_not, ne_eq, not_true_eq_false, not_false_eq_true, Bool.not_eq_true', Bool.not_eq_false', beq_self_eq_true, Bool.not_true, Bool.not_false, List.getElem?_toArray, List.getElem?_cons_zero, List.getElem?_cons_succ]
    exact ⟨⟨by simp, .inl ⟨rfl, rfl, rfl⟩⟩, Only.refl _ _⟩
  · have hf := he.flatN
    subst hf
    have hlen : cells.length = xs.length := by rw [he.len]; simp [strO, scalO, strS]
    have hcut : cutAddr (some (⟨b, 0, none⟩ : Addr)) 0 xs.length 1 = some ⟨b, 0, none⟩ := by unfold cutAddr; split <;> simp [Addr.add]
    refine ACalls.weaken (R := fun r A' => r = .slice (some ⟨b, 0, none⟩) xs.length xs.length ∧ A' = A) ?_ ?_
    · refine acalls Try.func78 rfl (by kernel_rfl) ?_
      simp (disch := omega) only [↓stp, vls, inf, frs, mark_eq, ↓reduceIte, Nat.reduceEqDiff, ite_tt, ite_ff, eq_self, and_true, true_and, and_self, implies_true, Bool.true_eq_false, Bool.false_eq_true, decide_true, decide_false, decide_eq_true_eq, decide_eq_false_iff_not, ne_eq, not_true_eq_false, not_false_eq_true, Bool.not_eq_true', Bool.not_eq_false', beq_self_eq_true, Bool.not_true, Bool.not_false, List.getElem?_toArray, List.getElem?_cons_zero, List.getElem?_cons_succ]
      rw [hcut]
    · rintro r A' ⟨rfl, rfl⟩
      refine ⟨A'.set b ⟨9, cells, xs.length * 1, true⟩, Weaker.set hb rfl ⟨rfl, Nat.mul_le_mul_right 1 hc, by simp; omega, [], by simp⟩, ⟨hl, .inr ⟨b, xs.length, cells, [], rfl, Nat.le_refl _, rfl, View.set_same .., ?_⟩⟩, Only.set _ (by simp)⟩
      exact he.stay fun x k hx => by cases hx

theorem impl_shrunk_c (A : View) (v u : Value) (cs : List (List ByteArray)) (ids : List ByteArray) (h : Sl (slS strS) A v cs) (h' : Sl strS A u ids) (hsm : ids.length ≤ 16777215) : ACalls Try.prog 48 #[v, u] A fun r A' => NewSl 9 strO A r A' (shr (failsI cs) ids 0) := by
  refine acalls Try.func48 rfl (by kernel_rfl) ?_
  simp (disch := omega) only [↓stp, vls, inf, frs, mark_eq, ↓reduceIte, Nat.reduceEqDiff, ite_tt, ite_ff, eq_self, and_true, true_and, and_self, implies_true, Bool.true_eq_false, Bool.false_eq_true, decide_true, decide_false, decide_eq_true_eq, decide_eq_false_iff_not, ne_eq, not_true_eq_false, not_false_eq_true, Bool.not_eq_true', Bool.not_eq_false', beq_self_eq_true, Bool.not_true, Bool.not_false, List.getElem?_toArray, List.getElem?_cons_zero, List.getElem?_cons_succ]
  refine (cloneString_c A u ids h' (by omega)).mono ?_
  rintro w0 V ⟨f0, l⟩
  simp (disch := omega) only [↓stp, vls, inf, frs, mark_eq, ↓reduceIte, Nat.reduceEqDiff, ite_tt, ite_ff, eq_self, and_true, true_and, and_self, implies_true, Bool.true_eq_false, Bool.false_eq_true, decide_true, decide_false, decide_eq_true_eq, decide_eq_false_iff_not, ne_eq, not_true_eq_false, not_false_eq_true, Bool.not_eq_true', Bool.not_eq_false', beq_self_eq_true, Bool.not_true, Bool.not_false, List.getElem?_toArray, List.getElem?_cons_zero, List.getElem?_cons_succ]
  refine aloop (fun d fr A' => ∃ (out : List ByteArray) (i : Nat) (fp : List Nat) (w : Value), i ≤ out.length ∧ out.length ≤ ids.length ∧ d = out.length - i ∧ Led A [osl 9 strO fp w out] A' ∧ shr (failsI cs) out i = shr (failsI cs) ids 0 ∧ fr 0 = v ∧ fr 5 = w ∧ fr 6 = .int .i64 i) ids.length ⟨ids, 0, _, _, by omega, by omega, by omega, l, rfl, by rfl, by rfl, by rfl⟩ ?_
  rintro d fr A' ⟨out, i, fp, w, hi, hol, rfl, l, hs, h0, h5, h6⟩
  obtain ⟨aw, cw, rfl, _, _⟩ := (OSl.toS (l.at (i := 0) rfl)).slice
  simp (disch := omega) only [↓stp, vls, inf, frs, mark_eq, ↓reduceIte, Nat.reduceEqDiff, ite_tt, ite_ff, eq_self, and_true, true_and, and_self, implies_true, Bool.true_eq_false, Bool.false_eq_true, decide_true, decide_false, decide_eq_true_eq, decide_eq_false_iff_not, ne_eq, not_true_eq_false, not_false_eq_true, Bool.not_eq_true', Bool.not_eq_false', beq_self_eq_true, Bool.not_true, Bool.not_false, List.getElem?_toArray, List.getElem?_cons_zero, List.getElem?_cons_succ, h0, h5, h6]
  refine ⟨fun e => ?_, fun e => ?_⟩
  · have hlt : i < out.length := by omega
    have hll := less_len hlt
    simp (disch := omega) only [↓stp, vls, inf, frs, mark_eq, ↓reduceIte, Nat.reduceEqDiff, ite_tt, ite_ff, eq_self, and_true, true_and, and_self, implies_true, Bool.true_eq_false, Bool.false_eq_true, decide_true, decide_false, decide_eq_true_eq, decide_eq_false_iff_not, ne_eq, not_true_eq_false, not_false_eq_true, Bool.not_eq_true', Bool.not_eq_false', beq_self_eq_true, Bool.not_true, Bool.not_false, List.getElem?_toArray, List.getElem?_cons_zero, List.getElem?_cons_succ, h0, h5, h6]
    refine (cloneString_c A' _ out (OSl.toS (l.at (i := 0) rfl)) (by omega)).mono ?_
    rintro w1 V1 ⟨f1, l1⟩
    replace l := l.append l1
    have ho1 : OSl 9 strO V1 f1 w1 out := l.at (i := 0) rfl
    obtain ⟨B, hR⟩ := ho1.toRflat
    simp (disch := omega) only [↓stp, vls, inf, frs, mark_eq, ↓reduceIte, Nat.reduceEqDiff, ite_tt, ite_ff, eq_self, and_true, true_and, and_self, implies_true, Bool.true_eq_false, Bool.false_eq_true, decide_true, decide_false, decide_eq_true_eq, decide_eq_false_iff_not, ne_eq, not_true_eq_false, not_false_eq_true, Bool.not_eq_true', Bool.not_eq_false', beq_self_eq_true, Bool.not_true, Bool.not_false, List.getElem?_toArray, List.getElem?_cons_zero, List.getElem?_cons_succ, h0, h5, h6]
    refine (delete_S V1 B f1 w1 out i (i + 1) hR (by omega) (by omega) (by omega)).mono ?_
    rintro w2 V2 ⟨hR2, ho2⟩
    have hO2 : OSl 9 strO V2 f1 w2 (out.take i ++ out.drop (i + 1)) := RSl.toO (O := strO) hR2
    replace l := l.upd (i := 0) (it := osl 9 strO f1 w1 out) (jt := osl 9 strO f1 w2 (out.take i ++ out.drop (i + 1))) rfl rfl ho2 hO2
    simp (disch := omega) only [↓stp, vls, inf, frs, mark_eq, ↓reduceIte, Nat.reduceEqDiff, ite_tt, ite_ff, eq_self, and_true, true_and, and_self, implies_true, Bool.true_eq_false, Bool.false_eq_true, decide_true, decide_false, decide_eq_true_eq, decide_eq_false_iff_not, ne_eq, not_true_eq_false, not_false_eq_true, Bool.not_eq_true', Bool.not_eq_false', beq_self_eq_true, Bool.not_true, Bool.not_false, List.getElem?_toArray, List.getElem?_cons_zero, List.getElem?_cons_succ, h0, h5, h6]
    refine (impl_fails_c V2 v w2 cs _ (h.mono l.ext) (OSl.toS (l.at (i := 0) rfl)) (by omega)).mono ?_
    rintro _ V3 ⟨rfl, he3⟩
    replace l := l.step he3
    rw [shr, dif_pos hlt] at hs
    simp (disch := omega) only [↓stp, vls, inf, frs, mark_eq, ↓reduceIte, Nat.reduceEqDiff, ite_tt, ite_ff, eq_self, and_true, true_and, and_self, implies_true, Bool.true_eq_false, Bool.false_eq_true, decide_true, decide_false, decide_eq_true_eq, decide_eq_false_iff_not, ne_eq, not_true_eq_false, not_false_eq_true, Bool.not_eq_true', Bool.not_eq_false', beq_self_eq_true, Bool.not_true, Bool.not_false, List.getElem?_toArray, List.getElem?_cons_zero, List.getElem?_cons_succ, h0, h5, h6]
    refine ⟨fun e1 => ?_, fun e1 => ?_⟩ <;> simp (disch := omega) only [↓stp, vls, inf, frs, mark_eq, ↓reduceIte, Nat.reduceEqDiff, ite_tt, ite_ff, eq_self, and_true, true_and, and_self, implies_true, Bool.true_eq_false, Bool.false_eq_true, decide_true, decide_false, decide_eq_true_eq, decide_eq_false_iff_not, ne_eq, not_true_eq_false, not_false_eq_true, Bool.not_eq_true', Bool.not_eq_false', beq_self_eq_true, Bool.not_true, Bool.not_false, List.getElem?_toArray, List.getElem?_cons_zero, List.getElem?_cons_succ, h0, h5, h6]
    · rw [if_pos e1] at hs
      exact ⟨_, by omega, _, i, f1, _, by omega, by omega, rfl, l.sub (by simp), hs, rfl, rfl⟩
    · rw [if_neg (by simp [e1])] at hs
      exact ⟨_, by omega, out, i + 1, fp, _, by omega, by omega, rfl, l.tail, hs, rfl, rfl⟩
  · simp (disch := omega) only [↓stp, vls, inf, frs, mark_eq, ↓reduceIte, Nat.reduceEqDiff, ite_tt, ite_ff, eq_self, and_true, true_and, and_self, implies_true, Bool.true_eq_false, Bool.false_eq_true, decide_true, decide_false, decide_eq_true_eq, decide_eq_false_iff_not, ne_eq, not_true_eq_false, not_false_eq_true, Bool.not_eq_true', Bool.not_eq_false', beq_self_eq_true, Bool.not_true, Bool.not_false, List.getElem?_toArray, List.getElem?_cons_zero, List.getElem?_cons_succ, h0, h5, h6]
    rw [shr, dif_neg (by omega)] at hs
    subst hs
    refine (clip_S A' fp _ _ (l.at (i := 0) rfl)).mono ?_
    rintro r V ⟨hO, ho⟩
    replace l := l.upd (i := 0) (it := osl 9 strO fp _ _) (jt := osl 9 strO fp r _) rfl rfl ho hO
    simp (disch := omega) only [↓stp, vls, inf, frs, mark_eq, ↓reduceIte, Nat.reduceEqDiff, ite_tt, ite_ff, eq_self, and_true, true_and, and_self, implies_true, Bool.true_eq_false, Bool.false_eq_true, decide_true, decide_false, decide_eq_true_eq, decide_eq_false_iff_not, ne_eq, not_true_eq_false, not_false_eq_true, Bool.not_eq_true', Bool.not_eq_false', beq_self_eq_true, Bool.not_true, Bool.not_false, List.getElem?_toArray, List.getElem?_cons_zero, List.getElem?_cons_succ, h0, h5, h6]
    exact NewSl.of l (i := 0) rfl

theorem spec_shrunk_c (A : View) (v u : Value) (cs : List (List ByteArray)) (ids : List ByteArray) (h : Sl (slS strS) A v cs) (h' : Sl strS A u ids) (hsm : ids.length ≤ 16777215) (hcs : ∀ c ∈ cs, c.length ≤ 16777215) : ACalls Try.prog 53 #[v, u] A fun r A' => NewSl 9 strO A r A' (shr (failsS cs) ids 0) := by
  refine acalls Try.func53 rfl (by kernel_rfl) ?_
  simp (disch := omega) only [↓stp, vls, inf, frs, mark_eq, ↓reduceIte, Nat.reduceEqDiff, ite_tt, ite_ff, eq_self, and_true, true_and, and_self, implies_true, Bool.true_eq_false, Bool.false_eq_true, decide_true, decide_false, decide_eq_true_eq, decide_eq_false_iff_not, ne_eq, not_true_eq_false, not_false_eq_true, Bool.not_eq_true', Bool.not_eq_false', beq_self_eq_true, Bool.not_true, Bool.not_false, List.getElem?_toArray, List.getElem?_cons_zero, List.getElem?_cons_succ]
  refine led_lit0 (O := strO) li24 (Led.nil A) fun b V he l => ?_
  simp (disch := omega) only [↓stp, vls, inf, frs, mark_eq, ↓reduceIte, Nat.reduceEqDiff, ite_tt, ite_ff, eq_self, and_true, true_and, and_self, implies_true, Bool.true_eq_false, Bool.false_eq_true, decide_true, decide_false, decide_eq_true_eq, decide_eq_false_iff_not, ne_eq, not_true_eq_false, not_false_eq_true, Bool.not_eq_true', Bool.not_eq_false', beq_self_eq_true, Bool.not_true, Bool.not_false, List.getElem?_toArray, List.getElem?_cons_zero, List.getElem?_cons_succ]
  refine led_app (O := strO) ap24_24 (by decide) l (i := 0) rfl (Sl.srcOf (h'.mono he)) (by simp; omega) fun f0 w0 V _ l => ?_
  simp (disch := omega) only [↓stp, vls, inf, frs, mark_eq, ↓reduceIte, Nat.reduceEqDiff, ite_tt, ite_ff, eq_self, and_true, true_and, and_self, implies_true, Bool.true_eq_false, Bool.false_eq_true, decide_true, decide_false, decide_eq_true_eq, decide_eq_false_iff_not, ne_eq, not_true_eq_false, not_false_eq_true, Bool.not_eq_true', Bool.not_eq_false', beq_self_eq_true, Bool.not_true, Bool.not_false, List.getElem?_toArray, List.getElem?_cons_zero, List.getElem?_cons_succ]
  refine aloop (fun d fr A' => ∃ (out : List ByteArray) (i : Nat) (fp : List Nat) (w : Value), i ≤ out.length ∧ out.length ≤ ids.length ∧ d = out.length - i ∧ Led A [osl 9 strO fp w out] A' ∧ shr (failsS cs) out i = shr (failsS cs) ids 0 ∧ fr 0 = v ∧ fr 5 = w ∧ fr 6 = .int .i64 i) ids.length ⟨ids, 0, _, _, by omega, by omega, by omega, l, rfl, by rfl, by rfl, by rfl⟩ ?_
  rintro d fr A' ⟨out, i, fp, w, hi, hol, rfl, l, hs, h0, h5, h6⟩
  obtain ⟨aw, cw, rfl, hcw, _⟩ := (OSl.toS (l.at (i := 0) rfl)).slice
  simp (disch := omega) only [↓stp, vls, inf, frs, mark_eq, ↓reduceIte, Nat.reduceEqDiff, ite_tt, ite_ff, eq_self, and_true, true_and, and_self, implies_true, Bool.true_eq_false, Bool.false_eq_true, decide_true, decide_false, decide_eq_true_eq, decide_eq_false_iff_not, ne_eq, not_true_eq_false, not_false_eq_true, Bool.not_eq_true', Bool.not_eq_false', beq_self_eq_true, Bool.not_true, Bool.not_false, List.getElem?_toArray, List.getElem?_cons_zero, List.getElem?_cons_succ, h0, h5, h6]
  refine ⟨fun e => ?_, fun e => ?_⟩
  · have hlt : i < out.length := by omega
    have hll := less_len hlt
    have hsl : Sl strS A' (.slice aw out.length cw) out := OSl.toS (l.at (i := 0) rfl)
    simp (disch := omega) only [↓stp, vls, inf, frs, mark_eq, ↓reduceIte, Nat.reduceEqDiff, ite_tt, ite_ff, eq_self, and_true, true_and, and_self, implies_true, Bool.true_eq_false, Bool.false_eq_true, decide_true, decide_false, decide_eq_true_eq, decide_eq_false_iff_not, ne_eq, not_true_eq_false, not_false_eq_true, Bool.not_eq_true', Bool.not_eq_false', beq_self_eq_true, Bool.not_true, Bool.not_false, List.getElem?_toArray, List.getElem?_cons_zero, List.getElem?_cons_succ, h0, h5, h6]
    refine adraw_items [.q 1, .q 2, .q 3, .q 5, .q 6, .q 7, .q 8, .c 0 [], .c 4 [], .c 9 [], .q 10] (by kernel_rfl) (by kernel_rfl) ?_
    simp (disch := omega) only [↓stp, ↓pln, plv, nilOk, Nat.reduceBEq, Bool.or_false, Bool.or_true, Bool.false_or, Bool.true_or, vls, inf, frs, mark_eq, ↓reduceIte, Nat.reduceEqDiff, ite_tt, ite_ff, eq_self, and_true, true_and, and_self, implies_true, Bool.true_eq_false, Bool.false_eq_true, decide_true, decide_false, decide_eq_true_eq, decide_eq_false_iff_not, ne_eq, not_true_eq_false, not_false_eq_true, Bool.not_eq_true', Bool.not_eq_false', beq_self_eq_true, Bool.not_true, Bool.not_false, List.getElem?_toArray, List.getElem?_cons_zero, List.getElem?_cons_succ, h0, h5, h6]
    refine led_lit0 (O := strO) li24 l fun b V he l => ?_
    simp (disch := omega) only [↓stp, ↓pln, plv, nilOk, Nat.reduceBEq, Bool.or_false, Bool.or_true, Bool.false_or, Bool.true_or, vls, inf, frs, mark_eq, ↓reduceIte, Nat.reduceEqDiff, ite_tt, ite_ff, eq_self, and_true, true_and, and_self, implies_true, Bool.true_eq_false, Bool.false_eq_true, decide_true, decide_false, decide_eq_true_eq, decide_eq_false_iff_not, ne_eq, not_true_eq_false, not_false_eq_true, Bool.not_eq_true', Bool.not_eq_false', beq_self_eq_true, Bool.not_true, Bool.not_false, List.getElem?_toArray, List.getElem?_cons_zero, List.getElem?_cons_succ, h0, h5, h6]
    refine led_app (O := strO) ap24_24 (by decide) l (i := 0) rfl (Sl.srcOf ((hsl.take (k := i) (by omega) 1).mono he)) (by simp; omega) fun f1 w1 V1 ho1 l => ?_
    simp (disch := omega) only [↓stp, ↓pln, plv, nilOk, Nat.reduceBEq, Bool.or_false, Bool.or_true, Bool.false_or, Bool.true_or, vls, inf, frs, mark_eq, ↓reduceIte, Nat.reduceEqDiff, ite_tt, ite_ff, eq_self, and_true, true_and, and_self, implies_true, Bool.true_eq_false, Bool.false_eq_true, decide_true, decide_false, decide_eq_true_eq, decide_eq_false_iff_not, ne_eq, not_true_eq_false, not_false_eq_true, Bool.not_eq_true', Bool.not_eq_false', beq_self_eq_true, Bool.not_true, Bool.not_false, List.getElem?_toArray, List.getElem?_cons_zero, List.getElem?_cons_succ, h0, h5, h6]
    have hsl1 : Sl strS V1 (.slice aw out.length cw) out := OSl.toS (l.at (i := 1) rfl)
    refine led_app (O := strO) ap24_24 (by decide) l (i := 0) rfl (Sl.srcOf (hsl1.drop (k := i + 1) (by omega))) (by simp; omega) fun f2 w2 V2 ho2 l => ?_
    simp (disch := omega) only [↓stp, ↓pln, plv, nilOk, Nat.reduceBEq, Bool.or_false, Bool.or_true, Bool.false_or, Bool.true_or, vls, inf, frs, mark_eq, ↓reduceIte, Nat.reduceEqDiff, ite_tt, ite_ff, eq_self, and_true, true_and, and_self, implies_true, Bool.true_eq_false, Bool.false_eq_true, decide_true, decide_false, decide_eq_true_eq, decide_eq_false_iff_not, ne_eq, not_true_eq_false, not_false_eq_true, Bool.not_eq_true', Bool.not_eq_false', beq_self_eq_true, Bool.not_true, Bool.not_false, List.getElem?_toArray, List.getElem?_cons_zero, List.getElem?_cons_succ, h0, h5, h6]
    refine (spec_failing_c V2 v w2 cs _ (h.mono l.ext) (OSl.toS (l.at (i := 0) rfl)) hcs).mono ?_
    rintro _ V3 ⟨rfl, he3⟩
    replace l := l.step he3
    rw [shr, dif_pos hlt] at hs
    simp (disch := omega) only [↓stp, vls, inf, frs, mark_eq, ↓reduceIte, Nat.reduceEqDiff, ite_tt, ite_ff, eq_self, and_true, true_and, and_self, implies_true, Bool.true_eq_false, Bool.false_eq_true, decide_true, decide_false, decide_eq_true_eq, decide_eq_false_iff_not, ne_eq, not_true_eq_false, not_false_eq_true, Bool.not_eq_true', Bool.not_eq_false', beq_self_eq_true, Bool.not_true, Bool.not_false, List.getElem?_toArray, List.getElem?_cons_zero, List.getElem?_cons_succ, h0, h5, h6]
    refine ⟨fun e1 => ?_, fun e1 => ?_⟩ <;> simp (disch := omega) only [↓stp, vls, inf, frs, mark_eq, ↓reduceIte, Nat.reduceEqDiff, ite_tt, ite_ff, eq_self, and_true, true_and, and_self, implies_true, Bool.true_eq_false, Bool.false_eq_true, decide_true, decide_false, decide_eq_true_eq, decide_eq_false_iff_not, ne_eq, not_true_eq_false, not_false_eq_true, Bool.not_eq_true', Bool.not_eq_false', beq_self_eq_true, Bool.not_true, Bool.not_false, List.getElem?_toArray, List.getElem?_cons_zero, List.getElem?_cons_succ, h0, h5, h6]
    · rw [List.nil_append] at e1 l
      rw [if_pos e1] at hs
      exact ⟨_, by omega, _, i, f2, _, by omega, by omega, rfl, l.sub (by simp), hs, rfl, rfl⟩
    · rw [List.nil_append] at e1 l
      rw [if_neg (by simp [e1])] at hs
      exact ⟨_, by omega, out, i + 1, fp, _, by omega, by omega, rfl, l.tail, hs, rfl, rfl⟩
  · simp (disch := omega) only [↓stp, vls, inf, frs, mark_eq, ↓reduceIte, Nat.reduceEqDiff, ite_tt, ite_ff, eq_self, and_true, true_and, and_self, implies_true, Bool.true_eq_false, Bool.false_eq_true, decide_true, decide_false, decide_eq_true_eq, decide_eq_false_iff_not, ne_eq, not_true_eq_false, not_false_eq_true, Bool.not_eq_true', Bool.not_eq_false', beq_self_eq_true, Bool.not_true, Bool.not_false, List.getElem?_toArray, List.getElem?_cons_zero, List.getElem?_cons_succ, h0, h5, h6]
    rw [shr, dif_neg (by omega)] at hs
    subst hs
    exact NewSl.of l (i := 0) rfl

theorem impl_failsWith_c (A : View) (v u : Value) (cs : List (List ByteArray)) (ids : List ByteArray) (h : Sl (slS strS) A v cs) (h' : Sl strS A u ids) : ACalls Try.prog 11 #[v, u] A fun r A' => r = .bool (causesB cs && idsB ids && failsI cs ids) ∧ Ext A A' := by
  refine acalls Try.func11 rfl (by kernel_rfl) ?_
  simp (disch := omega) only [↓stp, vls, inf, frs, mark_eq, ↓reduceIte, Nat.reduceEqDiff, ite_tt, ite_ff, eq_self, and_true, true_and, and_self, implies_true, Bool.true_eq_false, Bool.false_eq_true, decide_true, decide_false, decide_eq_true_eq, decide_eq_false_iff_not, ne_eq, not_true_eq_false, not_false_eq_true, Bool.not_eq_true', Bool.not_eq_false', beq_self_eq_true, Bool.not_true, Bool.not_false, List.getElem?_toArray, List.getElem?_cons_zero, List.getElem?_cons_succ]
  refine (impl_validCauses_c A _ cs h).mono ?_
  rintro _ A ⟨rfl, rfl⟩
  simp (disch := omega) only [↓stp, vls, inf, frs, mark_eq, ↓reduceIte, Nat.reduceEqDiff, ite_tt, ite_ff, eq_self, and_true, true_and, and_self, implies_true, Bool.true_eq_false, Bool.false_eq_true, decide_true, decide_false, decide_eq_true_eq, decide_eq_false_iff_not, ne_eq, not_true_eq_false, not_false_eq_true, Bool.not_eq_true', Bool.not_eq_false', beq_self_eq_true, Bool.not_true, Bool.not_false, List.getElem?_toArray, List.getElem?_cons_zero, List.getElem?_cons_succ]
  refine ⟨fun e1 => ?_, fun e1 => ?_⟩ <;> simp (disch := omega) only [↓stp, vls, inf, frs, mark_eq, ↓reduceIte, Nat.reduceEqDiff, ite_tt, ite_ff, eq_self, and_true, true_and, and_self, implies_true, Bool.true_eq_false, Bool.false_eq_true, decide_true, decide_false, decide_eq_true_eq, decide_eq_false_iff_not, ne_eq, not_true_eq_false, not_false_eq_true, Bool.not_eq_true', Bool.not_eq_false', beq_self_eq_true, Bool.not_true, Bool.not_false, List.getElem?_toArray, List.getElem?_cons_zero, List.getElem?_cons_succ, e1]
  · refine (impl_idsOk_c A _ ids h').mono ?_
    rintro _ A ⟨rfl, rfl⟩
    simp (disch := omega) only [↓stp, vls, inf, frs, mark_eq, ↓reduceIte, Nat.reduceEqDiff, ite_tt, ite_ff, eq_self, and_true, true_and, and_self, implies_true, Bool.true_eq_false, Bool.false_eq_true, decide_true, decide_false, decide_eq_true_eq, decide_eq_false_iff_not, ne_eq, not_true_eq_false, not_false_eq_true, Bool.not_eq_true', Bool.not_eq_false', beq_self_eq_true, Bool.not_true, Bool.not_false, List.getElem?_toArray, List.getElem?_cons_zero, List.getElem?_cons_succ, e1]
    refine ⟨fun e2 => ?_, fun e2 => ?_⟩ <;> simp (disch := omega) only [↓stp, vls, inf, frs, mark_eq, ↓reduceIte, Nat.reduceEqDiff, ite_tt, ite_ff, eq_self, and_true, true_and, and_self, implies_true, Bool.true_eq_false, Bool.false_eq_true, decide_true, decide_false, decide_eq_true_eq, decide_eq_false_iff_not, ne_eq, not_true_eq_false, not_false_eq_true, Bool.not_eq_true', Bool.not_eq_false', beq_self_eq_true, Bool.not_true, Bool.not_false, List.getElem?_toArray, List.getElem?_cons_zero, List.getElem?_cons_succ, e1, e2]
    · have := idsB_len' e2
      refine (impl_fails_c A _ _ cs ids h h' (by omega)).mono ?_
      rintro _ V ⟨rfl, he⟩
      simp (disch := omega) only [↓stp, vls, inf, frs, mark_eq, ↓reduceIte, Nat.reduceEqDiff, ite_tt, ite_ff, eq_self, and_true, true_and, and_self, implies_true, Bool.true_eq_false, Bool.false_eq_true, decide_true, decide_false, decide_eq_true_eq, decide_eq_false_iff_not, ne_eq, not_true_eq_false, not_false_eq_true, Bool.not_eq_true', Bool.not_eq_false', beq_self_eq_true, Bool.not_true, Bool.not_false, List.getElem?_toArray, List.getElem?_cons_zero, List.getElem?_cons_succ, e1, e2, Bool.true_and]
      exact he
    · exact ⟨by simp, Ext.refl _⟩
  · exact ⟨by simp, Ext.refl _⟩

theorem spec_failsWith_c (A : View) (v u : Value) (cs : List (List ByteArray)) (ids : List ByteArray) (h : Sl (slS strS) A v cs) (h' : Sl strS A u ids) (hcs : ∀ c ∈ cs, c.length ≤ 16777215) : ACalls Try.prog 12 #[v, u] A fun r A' => r = .bool (causesB cs && idsB ids && failsS cs ids) ∧ Ext A A' := by
  refine acalls Try.func12 rfl (by kernel_rfl) ?_
  simp (disch := omega) only [↓stp, vls, inf, frs, mark_eq, ↓reduceIte, Nat.reduceEqDiff, ite_tt, ite_ff, eq_self, and_true, true_and, and_self, implies_true, Bool.true_eq_false, Bool.false_eq_true, decide_true, decide_false, decide_eq_true_eq, decide_eq_false_iff_not, ne_eq, not_true_eq_false, not_false_eq_true, Bool.not_eq_true', Bool.not_eq_false', beq_self_eq_true, Bool.not_true, Bool.not_false, List.getElem?_toArray, List.getElem?_cons_zero, List.getElem?_cons_succ]
  refine (spec_goodCauses_c A _ _ cs ids h h').mono ?_
  rintro _ A ⟨rfl, rfl⟩
  simp (disch := omega) only [↓stp, vls, inf, frs, mark_eq, ↓reduceIte, Nat.reduceEqDiff, ite_tt, ite_ff, eq_self, and_true, true_and, and_self, implies_true, Bool.true_eq_false, Bool.false_eq_true, decide_true, decide_false, decide_eq_true_eq, decide_eq_false_iff_not, ne_eq, not_true_eq_false, not_false_eq_true, Bool.not_eq_true', Bool.not_eq_false', beq_self_eq_true, Bool.not_true, Bool.not_false, List.getElem?_toArray, List.getElem?_cons_zero, List.getElem?_cons_succ]
  refine ⟨fun e1 => ?_, fun e1 => ?_⟩ <;> simp (disch := omega) only [↓stp, vls, inf, frs, mark_eq, ↓reduceIte, Nat.reduceEqDiff, ite_tt, ite_ff, eq_self, and_true, true_and, and_self, implies_true, Bool.true_eq_false, Bool.false_eq_true, decide_true, decide_false, decide_eq_true_eq, decide_eq_false_iff_not, ne_eq, not_true_eq_false, not_false_eq_true, Bool.not_eq_true', Bool.not_eq_false', beq_self_eq_true, Bool.not_true, Bool.not_false, List.getElem?_toArray, List.getElem?_cons_zero, List.getElem?_cons_succ, e1]
  · refine (spec_failing_c A _ _ cs ids h h' hcs).mono ?_
    rintro _ V ⟨rfl, he⟩
    simp (disch := omega) only [↓stp, vls, inf, frs, mark_eq, ↓reduceIte, Nat.reduceEqDiff, ite_tt, ite_ff, eq_self, and_true, true_and, and_self, implies_true, Bool.true_eq_false, Bool.false_eq_true, decide_true, decide_false, decide_eq_true_eq, decide_eq_false_iff_not, ne_eq, not_true_eq_false, not_false_eq_true, Bool.not_eq_true', Bool.not_eq_false', beq_self_eq_true, Bool.not_true, Bool.not_false, List.getElem?_toArray, List.getElem?_cons_zero, List.getElem?_cons_succ, e1, Bool.true_and]
    exact he
  · exact ⟨by simp, Ext.refl _⟩

end Go.Proofs.Ytbbhhdcimmofoaa

