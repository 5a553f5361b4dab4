/- Slices copied, cut, clipped. -/
import Derived.Test.YtjiioedohbbceaaC3
set_option maxHeartbeats 4000000
set_option synthInstance.maxHeartbeats 400000
set_option synthInstance.maxSize 4096
set_option linter.unusedSimpArgs false
set_option linter.unusedVariables false
namespace Go.Proofs.Ytjiioedohbbceaa

set_option maxRecDepth 100000

/-- A slice of one's own, read: its elements as they are known beside its block. -/
theorem OSl.toR {α : Type} {e : TypeId} {O : OwnS α} {A : View} {fp : List Nat} {v : Value} {xs : List α} (h : OSl e O A fp v xs) (hnd : fp.Nodup) : ∃ fq B, (∀ b, b ∈ fq → b ∈ fp) ∧ RSl e O.S B A fq v xs ∧ (∀ V, Only fq A V → Ext B V) := by
  obtain ⟨hl, ⟨rfl, rfl, rfl⟩ | ⟨b, c, cells, f, rfl, hc, rfl, hb, he⟩⟩ := h
  · exact ⟨[], A, fun _ h => h, ⟨hl, .inl ⟨rfl, rfl, rfl⟩⟩, fun V h => Only.toExt h⟩
  · refine ⟨[b], A.kill b, fun x hx => by rw [List.mem_singleton.1 hx]; exact List.mem_cons_self .., ⟨hl, .inr ⟨b, c, cells, rfl, hc, rfl, hb, (he.stay fun x k hx hk => ?_).toS⟩⟩, fun V h x k hk => ?_⟩
    · rw [View.kill_ne _ (fun e => (List.nodup_cons.1 hnd).1 (by rw [← e]; exact hx))]; exact hk
    · by_cases hxb : x = b
      · subst hxb; rw [View.kill_same] at hk; cases hk
      · rw [View.kill_ne _ hxb] at hk
        exact h x k (by simpa using hxb) hk
theorem RSl.toO {α : Type} {e : TypeId} {O : OwnS α} [Flat O] {A B : View} {fp : List Nat} {v : Value} {xs : List α} (h : RSl e O.S B A fp v xs) : OSl e O A fp v xs := by
  obtain ⟨hl, ⟨rfl, rfl, rfl⟩ | ⟨b, c, cells, rfl, hc, rfl, hb, he⟩⟩ := h
  · exact ⟨hl, .inl ⟨rfl, rfl, rfl⟩⟩
  · exact ⟨hl, .inr ⟨b, c, cells, [], rfl, hc, rfl, hb, OElems.flatE he⟩⟩
theorem OSl.toRflat {α : Type} {e : TypeId} {O : OwnS α} [Flat O] {A : View} {fp : List Nat} {v : Value} {xs : List α} (h : OSl e O A fp v xs) : ∃ B, RSl e O.S B A fp v xs := by
  obtain ⟨hl, ⟨rfl, rfl, rfl⟩ | ⟨b, c, cells, f, rfl, hc, rfl, hb, he⟩⟩ := h
  · exact ⟨A, hl, .inl ⟨rfl, rfl, rfl⟩⟩
  · obtain rfl := he.flatN
    exact ⟨A, hl, .inr ⟨b, c, cells, rfl, hc, rfl, hb, he.toS⟩⟩

theorem cloneString_c (A : View) (v : Value) (xs : List ByteArray) (h : Sl strS A v xs) (hsm : xs.length ≤ 16777216) : ACalls Try.prog 91 #[v] A fun r A' => NewSl 9 strO A r A' xs := by
  obtain ⟨a, c, rfl, hc, hl⟩ := h.slice
  cases a with
  | none =>
    have hx : xs = [] := by
      obtain ⟨_, a, c, h1, _, h3⟩ := h
      cases xs with
      | nil => rfl
      | cons x xs =>
        injection h1 with h1
        obtain ⟨ad, _, h4, _⟩ := h3 (by simp)
        rw [h4] at h1; cases h1
    subst hx
    refine acalls Try.func91 rfl (by kernel_rfl) ?_
    simp (disch := omega) only [↓stp, vls, inf, frs, mark_eq, ↓reduceIte, Nat.reduceEqDiff, ite_tt, ite_ff, eq_self, and_true, true_and, and_self, implies_true, Bool.true_eq_false, Bool.false_eq_true, decide_true, decide_false, decide_eq_true_eq, decide_eq_false_iff_not, ne_eq, not_true_eq_false, not_false_eq_true, Bool.not_eq_true', Bool.not_eq_false', beq_self_eq_true, Bool.not_true, Bool.not_false, List.getElem?_toArray, List.getElem?_cons_zero, List.getElem?_cons_succ]
    exact NewSl.nil (Ext.refl _)
  | some ad =>
    refine acalls Try.func91 rfl (by kernel_rfl) ?_
    simp (disch := omega) only [↓stp, vls, inf, frs, mark_eq, ↓reduceIte, Nat.reduceEqDiff, ite_tt, ite_ff, eq_self, and_true, true_and, and_self, implies_true, Bool.true_eq_false, Bool.false_eq_true, decide_true, decide_false, decide_eq_true_eq, decide_eq_false_iff_not, ne_eq, not_true_eq_false, not_false_eq_true, Bool.not_eq_true', Bool.not_eq_false', beq_self_eq_true, Bool.not_true, Bool.not_false, List.getElem?_toArray, List.getElem?_cons_zero, List.getElem?_cons_succ]
    refine led_lit0 (O := strO) li31 (Led.nil A) fun b V he l => ?_
    simp (disch := omega) only [↓stp, vls, inf, frs, mark_eq, ↓reduceIte, Nat.reduceEqDiff, ite_tt, ite_ff, eq_self, and_true, true_and, and_self, implies_true, Bool.true_eq_false, Bool.false_eq_true, decide_true, decide_false, decide_eq_true_eq, decide_eq_false_iff_not, ne_eq, not_true_eq_false, not_false_eq_true, Bool.not_eq_true', Bool.not_eq_false', beq_self_eq_true, Bool.not_true, Bool.not_false, List.getElem?_toArray, List.getElem?_cons_zero, List.getElem?_cons_succ]
    refine led_app (O := strO) ap31_31 (by decide) l (i := 0) rfl (Sl.srcOf (h.mono he)) (by simpa using hsm) fun fp' w' W _ l => ?_
    simp (disch := omega) only [↓stp, vls, inf, frs, mark_eq, ↓reduceIte, Nat.reduceEqDiff, ite_tt, ite_ff, eq_self, and_true, true_and, and_self, implies_true, Bool.true_eq_false, Bool.false_eq_true, decide_true, decide_false, decide_eq_true_eq, decide_eq_false_iff_not, ne_eq, not_true_eq_false, not_false_eq_true, Bool.not_eq_true', Bool.not_eq_false', beq_self_eq_true, Bool.not_true, Bool.not_false, List.getElem?_toArray, List.getElem?_cons_zero, List.getElem?_cons_succ]
    exact NewSl.of (i := 0) l rfl

end Go.Proofs.Ytjiioedohbbceaa

