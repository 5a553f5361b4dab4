/- The helpers of the laws for numbers and texts: copied, compared, counted, marked. -/
import Derived.Test.YtggklaimbklefaaDoorFw11
import Derived.Test.YtggklaimbklefaaDoorC2
set_option maxHeartbeats 4000000
set_option synthInstance.maxHeartbeats 400000
set_option synthInstance.maxSize 4096
set_option linter.unusedSimpArgs false
set_option linter.unusedVariables false
namespace Go.Proofs.YtggklaimbklefaaDoor

set_option maxRecDepth 100000

theorem Elems.map {α : Type} {S : Shape α} {A : View} {g : α → Value} (hg : ∀ A x cs, S.rel A x cs → cs = [g x]) {xs : List α} {cs : List Value} (h : Elems S A xs cs) : cs = xs.map g := by
  induction h with
  | nil => rfl
  | cons h1 _ ih => rw [hg _ _ _ h1, ih]; rfl

theorem Sl.elems {α : Type} {S : Shape α} {A : View} {g : α → Value} (hg : ∀ A x cs, S.rel A x cs → cs = [g x]) {v : Value} {xs : List α} (h : Sl S A v xs) : Elems S A xs (xs.map g) := by
  obtain ⟨_, a, c, _, _, h3⟩ := h
  cases xs with
  | nil => exact .nil
  | cons x xs =>
    obtain ⟨ad, cs, _, _, he⟩ := h3 (by simp)
    have := he.map hg
    subst this
    exact he

theorem OElems.scal {α : Type} {S : Shape α} {hS : ∀ {A B x cs}, S.rel A x cs → S.rel B x cs} {A B : View} {xs : List α} {cs : List Value} (h : Elems S A xs cs) : OElems (scalO S hS) B [] xs cs := by
  induction h with
  | nil => exact .nil
  | cons h1 _ ih =>
    have := OElems.cons (O := scalO S hS) (A := B) (f := []) (fp := []) ⟨rfl, hS h1⟩ ih
    exact this

theorem int_map (A : View) (x : Int) (cs : List Value) (h : intS.rel A x cs) : cs = [.int .i64 x] := h.1
theorem str_map (A : View) (x : ByteArray) (cs : List Value) (h : strS.rel A x cs) : cs = [.string x] := h.1

/-- The digits of a mark are in E2; texts weigh their bytes. -/
def wStr : List ByteArray → Nat
  | [] => 0
  | x :: xs => x.size + wStr xs

theorem wStr_append (xs ys : List ByteArray) : wStr (xs ++ ys) = wStr xs + wStr ys := by
  induction xs with
  | nil => simp [wStr]
  | cons x xs ih => simp only [List.cons_append, wStr, ih, Nat.add_assoc]

theorem wStr_take (xs : List ByteArray) {i : Nat} (h : i < xs.length) : wStr (xs.take (i + 1)) = wStr (xs.take i) + (xs[i]).size := by
  rw [List.take_succ_eq_append_getElem h, wStr_append]; simp [wStr]

theorem szStringS_c0 (A : View) (v : Value) (xs : List ByteArray) (k : Int) (h : Sl strS A v xs) (hk : 0 ≤ k ∧ k ≤ 1048576) : ACalls Tryd.prog 10 #[v, .int .i64 k] A fun r A' => (∃ j : Int, r = .int .i64 j ∧ (j = -1 ∨ (0 ≤ j ∧ j + (xs.length + wStr xs : Nat) = k))) ∧ Ext A A' := by
  obtain ⟨a, c, rfl, hc, hl⟩ := h.slice
  refine acalls Tryd.func10 rfl (by kernel_rfl) ?_
  simp (disch := omega) only [↓stp, vls, inf, frs, mark_eq, ↓reduceIte, Nat.reduceEqDiff, ite_tt, ite_ff, eq_self, and_true, true_and, and_self, implies_true, Bool.true_eq_false, Bool.false_eq_true, decide_true, decide_false, decide_eq_true_eq, decide_eq_false_iff_not, ne_eq, not_true_eq_false, not_false_eq_true, Bool.not_eq_true', Bool.not_eq_false', beq_self_eq_true, Bool.not_true, Bool.not_false, List.getElem?_toArray, List.getElem?_cons_zero, List.getElem?_cons_succ]
  refine ⟨fun e => ?_, fun e => ?_⟩
  · simp (disch := omega) only [↓stp, vls, inf, frs, mark_eq, ↓reduceIte, Nat.reduceEqDiff, ite_tt, ite_ff, eq_self, and_true, true_and, and_self, implies_true, Bool.true_eq_false, Bool.false_eq_true, decide_true, decide_false, decide_eq_true_eq, decide_eq_false_iff_not, ne_eq, not_true_eq_false, not_false_eq_true, Bool.not_eq_true', Bool.not_eq_false', beq_self_eq_true, Bool.not_true, Bool.not_false, List.getElem?_toArray, List.getElem?_cons_zero, List.getElem?_cons_succ, e]
    exact ⟨⟨_, rfl, .inl rfl⟩, Ext.refl _⟩
  · simp (disch := omega) only [↓stp, vls, inf, frs, mark_eq, ↓reduceIte, Nat.reduceEqDiff, ite_tt, ite_ff, eq_self, and_true, true_and, and_self, implies_true, Bool.true_eq_false, Bool.false_eq_true, decide_true, decide_false, decide_eq_true_eq, decide_eq_false_iff_not, ne_eq, not_true_eq_false, not_false_eq_true, Bool.not_eq_true', Bool.not_eq_false', beq_self_eq_true, Bool.not_true, Bool.not_false, List.getElem?_toArray, List.getElem?_cons_zero, List.getElem?_cons_succ]
    refine aloop (fun d fr A' => ∃ (i : Nat) (kk : Int), i ≤ xs.length ∧ d = xs.length - i ∧ A' = A ∧ fr 0 = .slice a xs.length c ∧ fr 1 = .int .i64 kk ∧ fr 5 = .int .i64 i ∧ 0 ≤ kk ∧ kk + (xs.length + wStr (xs.take i) : Nat) = k) xs.length ⟨0, k - xs.length, by omega, by omega, rfl, rfl, by rfl, by rfl, by omega, by simp [wStr]⟩ ?_
    rintro d fr A ⟨i, kk, hi, rfl, rfl, h0, h1, h5, hk1, hk2⟩
    simp (disch := omega) only [↓stp, vls, inf, frs, mark_eq, ↓reduceIte, Nat.reduceEqDiff, ite_tt, ite_ff, eq_self, and_true, true_and, and_self, implies_true, Bool.true_eq_false, Bool.false_eq_true, decide_true, decide_false, decide_eq_true_eq, decide_eq_false_iff_not, ne_eq, not_true_eq_false, not_false_eq_true, Bool.not_eq_true', Bool.not_eq_false', beq_self_eq_true, Bool.not_true, Bool.not_false, List.getElem?_toArray, List.getElem?_cons_zero, List.getElem?_cons_succ, h0, h1, h5]
    refine ⟨fun e => ?_, fun e => ?_⟩
    · have hlt : i < xs.length := by omega
      obtain ⟨ad, rfl, hcl, hsz⟩ := h.str hlt
      simp (disch := omega) only [↓stp, vls, inf, frs, mark_eq, ↓reduceIte, Nat.reduceEqDiff, ite_tt, ite_ff, eq_self, and_true, true_and, and_self, implies_true, Bool.true_eq_false, Bool.false_eq_true, decide_true, decide_false, decide_eq_true_eq, decide_eq_false_iff_not, ne_eq, not_true_eq_false, not_false_eq_true, Bool.not_eq_true', Bool.not_eq_false', beq_self_eq_true, Bool.not_true, Bool.not_false, List.getElem?_toArray, List.getElem?_cons_zero, List.getElem?_cons_succ, h0, h1, h5, hcl]
      have hw := wStr_take xs hlt
      refine ⟨fun e1 => ?_, fun e1 => ?_⟩ <;> simp (disch := omega) only [↓stp, vls, inf, frs, mark_eq, ↓reduceIte, Nat.reduceEqDiff, ite_tt, ite_ff, eq_self, and_true, true_and, and_self, implies_true, Bool.true_eq_false, Bool.false_eq_true, decide_true, decide_false, decide_eq_true_eq, decide_eq_false_iff_not, ne_eq, not_true_eq_false, not_false_eq_true, Bool.not_eq_true', Bool.not_eq_false', beq_self_eq_true, Bool.not_true, Bool.not_false, List.getElem?_toArray, List.getElem?_cons_zero, List.getElem?_cons_succ, h0, h1, h5]
      · exact ⟨⟨_, rfl, .inl rfl⟩, Ext.refl _⟩
      · exact ⟨_, by omega, i + 1, _, by omega, rfl, rfl, rfl, by omega, by omega⟩
    · simp (disch := omega) only [↓stp, vls, inf, frs, mark_eq, ↓reduceIte, Nat.reduceEqDiff, ite_tt, ite_ff, eq_self, and_true, true_and, and_self, implies_true, Bool.true_eq_false, Bool.false_eq_true, decide_true, decide_false, decide_eq_true_eq, decide_eq_false_iff_not, ne_eq, not_true_eq_false, not_false_eq_true, Bool.not_eq_true', Bool.not_eq_false', beq_self_eq_true, Bool.not_true, Bool.not_false, List.getElem?_toArray, List.getElem?_cons_zero, List.getElem?_cons_succ, h0, h1, h5]
      rw [List.take_of_length_le (by omega)] at hk2
      exact ⟨⟨_, rfl, .inr ⟨hk1, hk2⟩⟩, Ext.refl _⟩

theorem eqStringS_c0 (A : View) (v u : Value) (xs ys : List ByteArray) (h : Sl strS A v xs) (h' : Sl strS A u ys) : ACalls Tryd.prog 22 #[v, u] A fun r A' => r = .bool (decide (xs = ys)) ∧ A' = A := by
  obtain ⟨a, c, rfl, hc, hl⟩ := h.slice
  obtain ⟨a', c', rfl, hc', hl'⟩ := h'.slice
  refine acalls Tryd.func22 rfl (by kernel_rfl) ?_
  simp (disch := omega) only [↓stp, vls, inf, frs, mark_eq, ↓reduceIte, Nat.reduceEqDiff, ite_tt, ite_ff, eq_self, and_true, true_and, and_self, implies_true, Bool.true_eq_false, Bool.false_eq_true, decide_true, decide_false, decide_eq_true_eq, decide_eq_false_iff_not, ne_eq, not_true_eq_false, not_false_eq_true, Bool.not_eq_true', Bool.not_eq_false', beq_self_eq_true, Bool.not_true, Bool.not_false, List.getElem?_toArray, List.getElem?_cons_zero, List.getElem?_cons_succ]
  refine ⟨fun e => ?_, fun e => ?_⟩
  · simp (disch := omega) only [↓stp, vls, inf, frs, mark_eq, ↓reduceIte, Nat.reduceEqDiff, ite_tt, ite_ff, eq_self, and_true, true_and, and_self, implies_true, Bool.true_eq_false, Bool.false_eq_true, decide_true, decide_false, decide_eq_true_eq, decide_eq_false_iff_not, ne_eq, not_true_eq_false, not_false_eq_true, Bool.not_eq_true', Bool.not_eq_false', beq_self_eq_true, Bool.not_true, Bool.not_false, List.getElem?_toArray, List.getElem?_cons_zero, List.getElem?_cons_succ]
    have : xs ≠ ys := fun he => e (by rw [he])
    simp [this]
  · have hlen : xs.length = ys.length := by omega
    simp (disch := omega) only [↓stp, vls, inf, frs, mark_eq, ↓reduceIte, Nat.reduceEqDiff, ite_tt, ite_ff, eq_self, and_true, true_and, and_self, implies_true, Bool.true_eq_false, Bool.false_eq_true, decide_true, decide_false, decide_eq_true_eq, decide_eq_false_iff_not, ne_eq, not_true_eq_false, not_false_eq_true, Bool.not_eq_true', Bool.not_eq_false', beq_self_eq_true, Bool.not_true, Bool.not_false, List.getElem?_toArray, List.getElem?_cons_zero, List.getElem?_cons_succ]
    refine aloop (fun d fr A' => ∃ i : Nat, i ≤ xs.length ∧ d = xs.length - i ∧ A' = A ∧ fr 0 = .slice a xs.length c ∧ fr 1 = .slice a' ys.length c' ∧ fr 5 = .int .i64 i ∧ xs.take i = ys.take i) xs.length ⟨0, by omega, by omega, rfl, rfl, by rfl, by rfl, by simp⟩ ?_
    rintro d fr A ⟨i, hi, rfl, rfl, h0, h1, h5, hn⟩
    simp (disch := omega) only [↓stp, vls, inf, frs, mark_eq, ↓reduceIte, Nat.reduceEqDiff, ite_tt, ite_ff, eq_self, and_true, true_and, and_self, implies_true, Bool.true_eq_false, Bool.false_eq_true, decide_true, decide_false, decide_eq_true_eq, decide_eq_false_iff_not, ne_eq, not_true_eq_false, not_false_eq_true, Bool.not_eq_true', Bool.not_eq_false', beq_self_eq_true, Bool.not_true, Bool.not_false, List.getElem?_toArray, List.getElem?_cons_zero, List.getElem?_cons_succ, h0, h1, h5]
    refine ⟨fun e => ?_, fun e => ?_⟩
    · obtain ⟨ad, rfl, hcl, _⟩ := h.str (i := i) (by omega)
      obtain ⟨ad', rfl, hcl', _⟩ := h'.str (i := i) (by omega)
      simp (disch := omega) only [↓stp, vls, inf, frs, mark_eq, ↓reduceIte, Nat.reduceEqDiff, ite_tt, ite_ff, eq_self, and_true, true_and, and_self, implies_true, Bool.true_eq_false, Bool.false_eq_true, decide_true, decide_false, decide_eq_true_eq, decide_eq_false_iff_not, ne_eq, not_true_eq_false, not_false_eq_true, Bool.not_eq_true', Bool.not_eq_false', beq_self_eq_true, Bool.not_true, Bool.not_false, List.getElem?_toArray, List.getElem?_cons_zero, List.getElem?_cons_succ, h0, h1, h5]
      refine adraw_items [.q 0, .q 1, .q 2, .l 3 false, .q 4, .q 5, .q 6, .l 7 false, .q 8] (by kernel_rfl) (by kernel_rfl) ?_
      simp (disch := omega) only [↓stp, ↓pln, plv, nilOk, Nat.reduceBEq, Bool.or_false, Bool.or_true, Bool.false_or, Bool.true_or, vls, inf, frs, mark_eq, ↓reduceIte, Nat.reduceEqDiff, ite_tt, ite_ff, eq_self, and_true, true_and, and_self, implies_true, Bool.true_eq_false, Bool.false_eq_true, decide_true, decide_false, decide_eq_true_eq, decide_eq_false_iff_not, ne_eq, not_true_eq_false, not_false_eq_true, Bool.not_eq_true', Bool.not_eq_false', beq_self_eq_true, Bool.not_true, Bool.not_false, List.getElem?_toArray, List.getElem?_cons_zero, List.getElem?_cons_succ, h0, h1, h5, hcl, hcl']
      refine ⟨fun e1 => ?_, fun e1 => ?_⟩ <;> simp (disch := omega) only [↓stp, vls, inf, frs, mark_eq, ↓reduceIte, Nat.reduceEqDiff, ite_tt, ite_ff, eq_self, and_true, true_and, and_self, implies_true, Bool.true_eq_false, Bool.false_eq_true, decide_true, decide_false, decide_eq_true_eq, decide_eq_false_iff_not, ne_eq, not_true_eq_false, not_false_eq_true, Bool.not_eq_true', Bool.not_eq_false', beq_self_eq_true, Bool.not_true, Bool.not_false, List.getElem?_toArray, List.getElem?_cons_zero, List.getElem?_cons_succ, h0, h1, h5]
      · have : xs ≠ ys := fun he => e1 (by simp only [he])
        simp [this]
      · refine ⟨_, by omega, i + 1, by omega, rfl, rfl, ?_⟩
        rw [List.take_succ_eq_append_getElem (by omega), List.take_succ_eq_append_getElem (by omega), hn]
        have : xs[i] = ys[i] := by simpa using e1
        rw [this]
    · rw [List.take_of_length_le (by omega), List.take_of_length_le (by omega)] at hn
      simp (disch := omega) only [↓stp, vls, inf, frs, mark_eq, ↓reduceIte, Nat.reduceEqDiff, ite_tt, ite_ff, eq_self, and_true, true_and, and_self, implies_true, Bool.true_eq_false, Bool.false_eq_true, decide_true, decide_false, decide_eq_true_eq, decide_eq_false_iff_not, ne_eq, not_true_eq_false, not_false_eq_true, Bool.not_eq_true', Bool.not_eq_false', beq_self_eq_true, Bool.not_true, Bool.not_false, List.getElem?_toArray, List.getElem?_cons_zero, List.getElem?_cons_succ, h0, h1, h5, hn]

theorem eqStringS_c (A : View) (v u : Value) (xs ys : List ByteArray) (h : Sl strS A v xs) (h' : Sl strS A u ys) : ACalls Tryd.prog 22 #[v, u] A fun r A' => r = .bool (decide (xs = ys)) ∧ Ext A A' :=
  (eqStringS_c0 A v u xs ys h h').mono fun _ _ ⟨h1, h2⟩ => ⟨h1, by rw [h2]; exact Ext.refl _⟩

theorem toStringS_c (A : View) (v : Value) (xs : List ByteArray) (h : Sl strS A v xs) (hb : xs.length ≤ 16777216) : ACalls Tryd.prog 16 #[v] A fun r A' => ∃ fp, OSl 9 strO A' fp r xs ∧ Ext A A' ∧ (∀ b, b ∈ fp → A b = none) ∧ fp.Nodup := by
  obtain ⟨a, c, rfl, hc, hl⟩ := h.slice
  refine acalls Tryd.func16 rfl (by kernel_rfl) ?_
  simp (disch := omega) only [↓stp, vls, inf, frs, mark_eq, ↓reduceIte, Nat.reduceEqDiff, ite_tt, ite_ff, eq_self, and_true, true_and, and_self, implies_true, Bool.true_eq_false, Bool.false_eq_true, decide_true, decide_false, decide_eq_true_eq, decide_eq_false_iff_not, ne_eq, not_true_eq_false, not_false_eq_true, Bool.not_eq_true', Bool.not_eq_false', beq_self_eq_true, Bool.not_true, Bool.not_false, List.getElem?_toArray, List.getElem?_cons_zero, List.getElem?_cons_succ]
  refine amake_at mk23 (by omega) (by omega) fun b hb => ?_
  simp (disch := omega) only [↓stp, vls, inf, frs, mark_eq, ↓reduceIte, Nat.reduceEqDiff, ite_tt, ite_ff, eq_self, and_true, true_and, and_self, implies_true, Bool.true_eq_false, Bool.false_eq_true, decide_true, decide_false, decide_eq_true_eq, decide_eq_false_iff_not, ne_eq, not_true_eq_false, not_false_eq_true, Bool.not_eq_true', Bool.not_eq_false', beq_self_eq_true, Bool.not_true, Bool.not_false, List.getElem?_toArray, List.getElem?_cons_zero, List.getElem?_cons_succ]
  refine aloop (fun d fr A' => ∃ i : Nat, i ≤ xs.length ∧ d = xs.length - i ∧ A' = A.set b ⟨9, (xs.take i).map (.string) ++ List.replicate (xs.length - i) (.string ⟨#[]⟩), xs.length, true⟩ ∧ fr 0 = .slice a xs.length c ∧ fr 3 = .slice (some ⟨b, 0, none⟩) xs.length xs.length ∧ fr 4 = .int .i64 i) xs.length ⟨0, by omega, by omega, by simp, rfl, by rfl, by rfl⟩ ?_
  rintro d fr _ ⟨i, hi, rfl, rfl, h0, h3, h4⟩
  simp (disch := omega) only [↓stp, vls, inf, frs, mark_eq, ↓reduceIte, Nat.reduceEqDiff, ite_tt, ite_ff, eq_self, and_true, true_and, and_self, implies_true, Bool.true_eq_false, Bool.false_eq_true, decide_true, decide_false, decide_eq_true_eq, decide_eq_false_iff_not, ne_eq, not_true_eq_false, not_false_eq_true, Bool.not_eq_true', Bool.not_eq_false', beq_self_eq_true, Bool.not_true, Bool.not_false, List.getElem?_toArray, List.getElem?_cons_zero, List.getElem?_cons_succ, h0, h3, h4]
  refine ⟨fun e => ?_, fun e => ?_⟩
  · have hlt : i < xs.length := by omega
    have he : Ext A (A.set b ⟨9, (xs.take i).map (.string) ++ List.replicate (xs.length - i) (.string ⟨#[]⟩), xs.length, true⟩) := Ext.new hb _
    obtain ⟨ad, rfl, hcl, _⟩ := h.str hlt
    have hcl := he.cell hcl
    have hz : List.replicate (xs.length - i) (Value.string ⟨#[]⟩) = [.string ⟨#[]⟩] ++ List.replicate (xs.length - (i + 1)) (.string ⟨#[]⟩) := by
      rw [show xs.length - i = (xs.length - (i + 1)) + 1 by omega, List.replicate_succ]; rfl
    have hst := storev_at (A := A.set b ⟨9, (xs.take i).map (.string) ++ List.replicate (xs.length - i) (.string ⟨#[]⟩), xs.length, true⟩) (b := b) (P := Tryd.prog) (v := .string xs[i]) sz9 (by rw [View.set_same, hz]) rfl rfl rfl (o := 0 + i) (by simp; omega)
    rw [View.set_set] at hst
    simp (disch := omega) only [↓stp, vls, inf, frs, mark_eq, ↓reduceIte, Nat.reduceEqDiff, ite_tt, ite_ff, eq_self, and_true, true_and, and_self, implies_true, Bool.true_eq_false, Bool.false_eq_true, decide_true, decide_false, decide_eq_true_eq, decide_eq_false_iff_not, ne_eq, not_true_eq_false, not_false_eq_true, Bool.not_eq_true', Bool.not_eq_false', beq_self_eq_true, Bool.not_true, Bool.not_false, List.getElem?_toArray, List.getElem?_cons_zero, List.getElem?_cons_succ, astore_at, h0, h3, h4, hcl, add_at, hst]
    refine ⟨_, by omega, i + 1, by omega, rfl, ?_, rfl⟩
    rw [List.take_succ_eq_append_getElem hlt, List.map_append, List.append_assoc]
    rfl
  · simp (disch := omega) only [↓stp, vls, inf, frs, mark_eq, ↓reduceIte, Nat.reduceEqDiff, ite_tt, ite_ff, eq_self, and_true, true_and, and_self, implies_true, Bool.true_eq_false, Bool.false_eq_true, decide_true, decide_false, decide_eq_true_eq, decide_eq_false_iff_not, ne_eq, not_true_eq_false, not_false_eq_true, Bool.not_eq_true', Bool.not_eq_false', beq_self_eq_true, Bool.not_true, Bool.not_false, List.getElem?_toArray, List.getElem?_cons_zero, List.getElem?_cons_succ, h0, h3, h4]
    have hi' : i = xs.length := by omega
    subst hi'
    simp only [List.take_length, Nat.sub_self, List.replicate_zero, List.append_nil]
    refine ⟨[b], ⟨by omega, .inr ⟨b, _, xs.map (.string), [], rfl, Nat.le_refl _, rfl, by rw [View.set_same]; simp [strO, scalO, strS], OElems.scal (h.elems str_map)⟩⟩, Ext.new hb _, by simpa using hb, by simp⟩

end Go.Proofs.YtggklaimbklefaaDoor

