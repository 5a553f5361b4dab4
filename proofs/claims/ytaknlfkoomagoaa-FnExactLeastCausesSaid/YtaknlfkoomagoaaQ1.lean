/- Slices copied, cut, clipped. -/
import Derived.Test.YtaknlfkoomagoaaC3
set_option maxHeartbeats 4000000
set_option synthInstance.maxHeartbeats 400000
set_option synthInstance.maxSize 4096
set_option linter.unusedSimpArgs false
set_option linter.unusedVariables false
namespace Go.Proofs.Ytaknlfkoomagoaa

set_option maxRecDepth 100000

/-- A slice of one's own, read: its elements as they are known beside its block. -/
theorem OSl.toR {α : Type} {e : TypeId} {O : OwnS α} {A : View} {fp : List Nat} {v : Value} {xs : List α} (h : OSl e O A fp v xs) (hnd : fp.Nodup) : ∃ fq B, (∀ b, b ∈ fq → b ∈ fp) ∧ RSl e O.S B A fq v xs ∧ (∀ V, Only fq A V → Ext B V) := by
  obtain ⟨hl, ⟨rfl, rfl, rfl⟩ | ⟨b, c, cells, f, rfl, hc, rfl, hb, he⟩⟩ := h
  · exact ⟨[], A, fun _ h => h, ⟨hl, .inl ⟨rfl, rfl, rfl⟩⟩, fun V h => Only.toExt h⟩
  · refine ⟨[b], A.kill b, fun x hx => by rw [List.mem_singleton.1 hx]; exact List.mem_cons_self .., ⟨hl, .inr ⟨b, c, cells, rfl, hc, rfl, hb, (he.stay fun x k hx hk => ?_).toS⟩⟩, fun V h x k hk => ?_⟩
    · rw [View.kill_ne _ (fun e => (List.nodup_cons.1 hnd).1 (by rw [← e]; exact hx))]; exact hk
    · by_cases hxb : x = b
      · subst hxb; rw [View.kill_same] at hk; cases hk
      · rw [View.kill_ne _ hxb] at hk
        exact h x k (by simpa using hxb) hk
theorem RSl.toO {α : Type} {e : TypeId} {O : OwnS α} [Flat O] {A B : View} {fp : List Nat} {v : Value} {xs : List α} (h : RSl e O.S B A fp v xs) : OSl e O A fp v xs := by
  obtain ⟨hl, ⟨rfl, rfl, rfl⟩ | ⟨b, c, cells, rfl, hc, rfl, hb, he⟩⟩ := h
  · exact ⟨hl, .inl ⟨rfl, rfl, rfl⟩⟩
  · exact ⟨hl, .inr ⟨b, c, cells, [], rfl, hc, rfl, hb, OElems.flatE he⟩⟩
theorem OSl.toRflat {α : Type} {e : TypeId} {O : OwnS α} [Flat O] {A : View} {fp : List Nat} {v : Value} {xs : List α} (h : OSl e O A fp v xs) : ∃ B, RSl e O.S B A fp v xs := by
  obtain ⟨hl, ⟨rfl, rfl, rfl⟩ | ⟨b, c, cells, f, rfl, hc, rfl, hb, he⟩⟩ := h
  · exact ⟨A, hl, .inl ⟨rfl, rfl, rfl⟩⟩
  · obtain rfl := he.flatN
    exact ⟨A, hl, .inr ⟨b, c, cells, rfl, hc, rfl, hb, he.toS⟩⟩

theorem cloneString_c (A : View) (v : Value) (xs : List ByteArray) (h : Sl strS A v xs) (hsm : xs.length ≤ 16777216) : ACalls Try.prog 105 #[v] A fun r A' => NewSl 9 strO A r A' xs := by
  obtain ⟨a, c, rfl, hc, hl⟩ := h.slice
  cases a with
  | none =>
    have hx : xs = [] := by
      obtain ⟨_, a, c, h1, _, h3⟩ := h
      cases xs with
      | nil => rfl
      | cons x xs =>
        injection h1 with h1
        obtain ⟨ad, _, h4, _⟩ := h3 (by simp)
        rw [h4] at h1; cases h1
    subst hx
    refine acalls Try.func105 rfl (by kernel_rfl) ?_
    simp (disch := omega) only [↓stp, vls, inf, frs, mark_eq, ↓reduceIte, Nat.reduceEqDiff, ite_tt, ite_ff, eq_self, and_true, true_and, and_self, implies_true, Bool.true_eq_false, Bool.false_eq_true, decide_true, decide_false, decide_eq_true_eq, decide_eq_false_iff_not, ne_eq, not_true_eq_false, not_false_eq_true, Bool.not_eq_true', Bool.not_eq_false', beq_self_eq_true, Bool.not_true, Bool.not_false, List.getElem?_toArray, List.getElem?_cons_zero, List.getElem?_cons_succ]
    exact NewSl.nil (Ext.refl _)
  | some ad =>
    refine acalls Try.func105 rfl (by kernel_rfl) ?_
    simp (disch := omega) only [↓stp, vls, inf, frs, mark_eq, ↓reduceIte, Nat.reduceEqDiff, ite_tt, ite_ff, eq_self, and_true, true_and, and_self, implies_true, Bool.true_eq_false, Bool.false_eq_true, decide_true, decide_false, decide_eq_true_eq, decide_eq_false_iff_not, ne_eq, not_true_eq_false, not_false_eq_true, Bool.not_eq_true', Bool.not_eq_false', beq_self_eq_true, Bool.not_true, Bool.not_false, List.getElem?_toArray, List.getElem?_cons_zero, List.getElem?_cons_succ]
    refine led_lit0 (O := strO) li25 (Led.nil A) fun b V he l => ?_
    simp (disch := omega) only [↓stp, vls, inf, frs, mark_eq, ↓reduceIte, Nat.reduceEqDiff, ite_tt, ite_ff, eq_self, and_true, true_and, and_self, implies_true, Bool.true_eq_false, Bool.false_eq_true, decide_true, decide_false, decide_eq_true_eq, decide_eq_false_iff_not, ne_eq, not_true_eq_false, not_false_eq_true, Bool.not_eq_true', Bool.not_eq_false', beq_self_eq_true, Bool.not_true, Bool.not_false, List.getElem?_toArray, List.getElem?_cons_zero, List.getElem?_cons_succ]
    refine led_app (O := strO) ap25_25 (by decide) l (i := 0) rfl (Sl.srcOf (h.mono he)) (by simpa using hsm) fun fp' w' W _ l => ?_
    simp (disch := omega) only [↓stp, vls, inf, frs, mark_eq, ↓reduceIte, Nat.reduceEqDiff, ite_tt, ite_ff, eq_self, and_true, true_and, and_self, implies_true, Bool.true_eq_false, Bool.false_eq_true, decide_true, decide_false, decide_eq_true_eq, decide_eq_false_iff_not, ne_eq, not_true_eq_false, not_false_eq_true, Bool.not_eq_true', Bool.not_eq_false', beq_self_eq_true, Bool.not_true, Bool.not_false, List.getElem?_toArray, List.getElem?_cons_zero, List.getElem?_cons_succ]
    exact NewSl.of (i := 0) l rfl

theorem delete_S (A B : View) (fp : List Nat) (v : Value) (xs : List ByteArray) (i j : Nat) (h : RSl 9 strS B A fp v xs) (hij : i ≤ j) (hj : j ≤ xs.length) (hsm : xs.length ≤ 16777216) : ACalls Try.prog 106 #[v, .int .i64 i, .int .i64 j] A fun r A' => RSl 9 strS B A' fp r (xs.take i ++ xs.drop j) ∧ Only fp A A' := by
  obtain ⟨hl, ⟨rfl, rfl, rfl⟩ | ⟨b, c, cells, rfl, hc, rfl, hb, he⟩⟩ := h
  · have hi0 : i = 0 := by simp at hj; omega
    have hj0 : j = 0 := by simp at hj; omega
    subst hi0; subst hj0
    refine acalls Try.func106 rfl (by kernel_rfl) ?_
    simp (disch := omega) only [↓stp, vls, inf, frs, mark_eq, ↓reduceIte, Nat.reduceEqDiff, ite_tt, ite_ff, eq_self, and_true, true_and, and_self, implies_true, Bool.true_eq_false, Bool.false_eq_true, decide_true, decide_false, decide_eq_true_eq, decide_eq_false_iff_not, ne_eq, not_true_eq_false, not_false_eq_true, Bool.not_eq_true', Bool.not_eq_false', beq_self_eq_true, Bool.not_true, Bool.not_false, List.getElem?_toArray, List.getElem?_cons_zero, List.getElem?_cons_succ]
    exact ⟨⟨by simp, .inl ⟨rfl, rfl, rfl⟩⟩, Only.refl _ _⟩
  · have hlen : cells.length = xs.length := by rw [he.len]; simp [strS]
    by_cases hijq : i = j
    · subst hijq
      refine acalls Try.func106 rfl (by kernel_rfl) ?_
      simp (disch := omega) only [↓stp, vls, inf, frs, mark_eq, ↓reduceIte, Nat.reduceEqDiff, ite_tt, ite_ff, eq_self, and_true, true_and, and_self, implies_true, Bool.true_eq_false, Bool.false_eq_true, decide_true, decide_false, decide_eq_true_eq, decide_eq_false_iff_not, ne_eq, not_true_eq_false, not_false_eq_true, Bool.not_eq_true', Bool.not_eq_false', beq_self_eq_true, Bool.not_true, Bool.not_false, List.getElem?_toArray, List.getElem?_cons_zero, List.getElem?_cons_succ]
      rw [List.take_append_drop]
      exact ⟨⟨hl, .inr ⟨b, c, cells, rfl, hc, rfl, hb, he⟩⟩, Only.refl _ _⟩
    · have hne : ¬ (i : Int) = (j : Int) := by omega
      have hc0 : ¬ c = 0 := by omega
      refine ACalls.weaken (R := fun r A' => ∃ zs, r = .slice (some ⟨b, 0, none⟩) (xs.length - (j - i)) c ∧ A' = A.set b ⟨9, (cells.take i ++ cells.drop j) ++ zs, c * 1, true⟩) ?_ ?_
      · refine acalls Try.func106 rfl (by kernel_rfl) ?_
        simp (disch := omega) only [↓stp, vls, inf, frs, mark_eq, ↓reduceIte, Nat.reduceEqDiff, ite_tt, ite_ff, eq_self, and_true, true_and, and_self, implies_true, Bool.true_eq_false, Bool.false_eq_true, decide_true, decide_false, decide_eq_true_eq, decide_eq_false_iff_not, ne_eq, not_true_eq_false, not_false_eq_true, Bool.not_eq_true', Bool.not_eq_false', beq_self_eq_true, Bool.not_true, Bool.not_false, List.getElem?_toArray, List.getElem?_cons_zero, List.getElem?_cons_succ]
        simp (disch := omega) only [↓stp, vls, inf, frs, mark_eq, ↓reduceIte, Nat.reduceEqDiff, ite_tt, ite_ff, eq_self, and_true, true_and, and_self, implies_true, Bool.true_eq_false, Bool.false_eq_true, decide_true, decide_false, decide_eq_true_eq, decide_eq_false_iff_not, ne_eq, not_true_eq_false, not_false_eq_true, Bool.not_eq_true', Bool.not_eq_false', beq_self_eq_true, Bool.not_true, Bool.not_false, List.getElem?_toArray, List.getElem?_cons_zero, List.getElem?_cons_succ, hne]
        refine adraw_items [.q 0, .q 1, .q 2, .q 3, .q 4, .q 5, .c 6 [], .q 7] (by kernel_rfl) (by kernel_rfl) ?_
        simp (disch := omega) only [↓stp, ↓pln, plv, nilOk, Nat.reduceBEq, Bool.or_false, Bool.or_true, Bool.false_or, Bool.true_or, vls, inf, frs, mark_eq, ↓reduceIte, Nat.reduceEqDiff, ite_tt, ite_ff, eq_self, and_true, true_and, and_self, implies_true, Bool.true_eq_false, Bool.false_eq_true, decide_true, decide_false, decide_eq_true_eq, decide_eq_false_iff_not, ne_eq, not_true_eq_false, not_false_eq_true, Bool.not_eq_true', Bool.not_eq_false', beq_self_eq_true, Bool.not_true, Bool.not_false, List.getElem?_toArray, List.getElem?_cons_zero, List.getElem?_cons_succ]
        have hcut0 : cutAddr (some (⟨b, 0, none⟩ : Addr)) 0 c 1 = some ⟨b, 0, none⟩ := by unfold cutAddr; rw [if_neg hc0]; simp [Addr.add]
        have hpart := part_at (A := A) (off := j) (n := cells.length - j) hb (by simp; omega) (fun u hu => he.one u (List.mem_of_mem_drop (List.mem_of_mem_take hu)))
        rw [List.take_of_length_le (by simp)] at hpart
        have hsrc : asrc A 1 (.slice (cutAddr (some ⟨b, 0, none⟩) j c 1) (xs.length - j) (c - j)) = some (xs.length - j, cells.drop j) := by
          by_cases hjl : xs.length - j = 0
          · have : cells.drop j = [] := List.drop_of_length_le (by omega)
            rw [this, hjl]
            cases cutAddr (some (⟨b, 0, none⟩ : Addr)) j c 1 <;> simp [asrc]
          · have hcj : ¬ c = j := by omega
            have e1 : cutAddr (some (⟨b, 0, none⟩ : Addr)) j c 1 = some ⟨b, j, none⟩ := by unfold cutAddr; rw [if_neg hcj]; simp [add_at]
            rw [e1]
            unfold asrc
            simp only [hjl, if_false, Nat.mul_one]
            rw [show xs.length - j = cells.length - j by omega, hpart]
            rfl
        rw [hcut0]
        refine aappend_room (size := 1) (n := i) (m := xs.length - j) (c := c) ap25_25 hb rfl hsrc (by omega) (by simp; omega) ?_
        simp (disch := omega) only [↓stp, ↓pln, plv, nilOk, Nat.reduceBEq, Bool.or_false, Bool.or_true, Bool.false_or, Bool.true_or, vls, inf, frs, mark_eq, ↓reduceIte, Nat.reduceEqDiff, ite_tt, ite_ff, eq_self, and_true, true_and, and_self, implies_true, Bool.true_eq_false, Bool.false_eq_true, decide_true, decide_false, decide_eq_true_eq, decide_eq_false_iff_not, ne_eq, not_true_eq_false, not_false_eq_true, Bool.not_eq_true', Bool.not_eq_false', beq_self_eq_true, Bool.not_true, Bool.not_false, List.getElem?_toArray, List.getElem?_cons_zero, List.getElem?_cons_succ]
        have hq : (i + (xs.length - j) : Nat) = xs.length - (j - i) := by omega
        have e2 : List.take (i * 1) cells ++ List.drop j cells ++ List.drop ((i + (xs.length - j)) * 1) cells = (cells.take i ++ cells.drop j) ++ cells.drop (xs.length - (j - i)) := by
          rw [Nat.mul_one, Nat.mul_one, hq]
        rw [e2, hq]
        generalize hV : A.set b _ = V
        have hVb : V b = some ⟨9, (cells.take i ++ cells.drop j) ++ cells.drop (xs.length - (j - i)), c * 1, true⟩ := by rw [← hV, View.set_same]; rfl
        have hcm : ¬ c = xs.length - (j - i) := by omega
        simp (disch := omega) only [↓stp, vls, inf, frs, mark_eq, ↓reduceIte, Nat.reduceEqDiff, ite_tt, ite_ff, eq_self, and_true, true_and, and_self, implies_true, Bool.true_eq_false, Bool.false_eq_true, decide_true, decide_false, decide_eq_true_eq, decide_eq_false_iff_not, ne_eq, not_true_eq_false, not_false_eq_true, Bool.not_eq_true', Bool.not_eq_false', beq_self_eq_true, Bool.not_true, Bool.not_false, List.getElem?_toArray, List.getElem?_cons_zero, List.getElem?_cons_succ]
        have e3 : cutAddr (some (⟨b, 0, none⟩ : Addr)) (xs.length - (j - i)) c 1 = some ⟨b, xs.length - (j - i), none⟩ := by unfold cutAddr; rw [if_neg hcm]; simp [add_at]
        rw [e3]
        have htl : (cells.take i ++ cells.drop j).length = xs.length - (j - i) := by simp; omega
        refine aclear_at (z := [.string ⟨#[]⟩]) (o := xs.length - (j - i)) (n := xs.length - (xs.length - (j - i))) mk25 hVb rfl (by omega) (by simp; omega) fun zs hzs => ?_
        simp (disch := omega) only [↓stp, vls, inf, frs, mark_eq, ↓reduceIte, Nat.reduceEqDiff, ite_tt, ite_ff, eq_self, and_true, true_and, and_self, implies_true, Bool.true_eq_false, Bool.false_eq_true, decide_true, decide_false, decide_eq_true_eq, decide_eq_false_iff_not, ne_eq, not_true_eq_false, not_false_eq_true, Bool.not_eq_true', Bool.not_eq_false', beq_self_eq_true, Bool.not_true, Bool.not_false, List.getElem?_toArray, List.getElem?_cons_zero, List.getElem?_cons_succ]
        refine ⟨zs, ?_⟩
        rw [← hV, View.set_set]
        have e4 : ∀ T : List Value, T.length = xs.length - (xs.length - (j - i)) → List.take (xs.length - (j - i)) ((cells.take i ++ cells.drop j) ++ T) ++ zs ++ List.drop (xs.length - (j - i) + (xs.length - (xs.length - (j - i))) * [Value.string ⟨#[]⟩].length) ((cells.take i ++ cells.drop j) ++ T) = (cells.take i ++ cells.drop j) ++ zs := fun T hT => by
          have hd : ∀ (q : Nat) (X : List Value), X.length ≤ q → List.drop q X = [] := fun q X h => List.drop_of_length_le h
          rw [List.take_left' htl, hd _ ((cells.take i ++ cells.drop j) ++ T) (by rw [List.length_append, htl, hT, List.length_singleton]; omega), List.append_nil]
        exact congrArg (fun q => A.set b ⟨9, q, c, true⟩) (e4 (cells.drop (xs.length - (j - i))) (by simp; omega))
      · rintro r A' ⟨zs, rfl, rfl⟩
        have hw := Weaker.set (A := A.set b ⟨9, (cells.take i ++ cells.drop j) ++ zs, c * 1, true⟩) (b := b) (k2 := ⟨9, cells.take i ++ cells.drop j, c * 1, true⟩) (View.set_same ..) rfl ⟨rfl, Nat.le_refl _, by simp; omega, zs, rfl⟩
        rw [View.set_set] at hw
        refine ⟨A.set b ⟨9, cells.take i ++ cells.drop j, c * 1, true⟩, hw, ⟨by simp; omega, .inr ⟨b, c, _, by congr 1; simp; omega, by simp; omega, rfl, View.set_same .., ?_⟩⟩, Only.set _ (by simp)⟩
        have h1 := he.take i
        have h2 := he.drop j
        simp only [strS, Nat.mul_one] at h1 h2
        exact h1.append h2

end Go.Proofs.Ytaknlfkoomagoaa

