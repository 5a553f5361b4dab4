/- What is touched. -/
import Derived.Test.YtaknlfkoomagoaaD2
set_option maxHeartbeats 4000000
set_option synthInstance.maxHeartbeats 400000
set_option synthInstance.maxSize 4096
set_option linter.unusedSimpArgs false
set_option linter.unusedVariables false
namespace Go.Proofs.Ytaknlfkoomagoaa

set_option maxRecDepth 100000

/-- The ids of the covers that have one of some lines. -/
def touched (xs : List CoverD) (ls : List Int) : List ByteArray := (xs.filter fun x => x.2.1.any fun n => decide (n ∈ ls)).map (·.1)

theorem touched_snoc {xs : List CoverD} {ls : List Int} {i : Nat} (hi : i < xs.length) : touched (xs.take (i + 1)) ls = touched (xs.take i) ls ++ (if ((xs[i]).2.1.any fun n => decide (n ∈ ls)) then [(xs[i]).1] else []) := by
  unfold touched
  rw [List.take_succ_eq_append_getElem hi, List.filter_append, List.map_append]
  congr 1
  cases h : (xs[i]).2.1.any fun n => decide (n ∈ ls) <;> simp [List.filter_cons, h]

theorem touched_len (xs : List CoverD) (ls : List Int) : (touched xs ls).length ≤ xs.length := by
  unfold touched
  rw [List.length_map]
  exact List.length_filter_le _ _

/-- A result: nil, or texts in a block of one's own that is new. -/
def NewStrs (A A' : View) (r : Value) (ys : List ByteArray) : Prop := ∃ fp, OSl 9 strO A' fp r ys ∧ Ext A A' ∧ (∀ b, b ∈ fp → A b = none) ∧ fp.Nodup

theorem Grow.new_strs {A A' : View} {b c n : Nat} {ys : List ByteArray} (g : Grow A A' b c ys) (hn : n = ys.length) (hl : ys.length ≤ 140737488355328) : NewStrs A A' (.slice (some ⟨b, 0, none⟩) n c) ys := by
  subst hn
  exact ⟨[b], ⟨hl, .inr ⟨b, c, _, [], rfl, g.fits, rfl, g.at_, OElems.scal (elems_str (A := A') ys g.small)⟩⟩, g.ext, by simpa using g.new, by simp⟩

theorem NewStrs.nil {A A' : View} (h : Ext A A') : NewStrs A A' (.slice none 0 0) [] := ⟨[], ⟨by simp, .inl ⟨rfl, rfl, rfl⟩⟩, h, by simp, by simp⟩

theorem impl_touchedBy_c (A : View) (v u : Value) (xs : List CoverD) (ls : List Int) (h : Sl coverS A v xs) (h' : Sl intS A u ls) (hsm : xs.length ≤ 16777215) : ACalls Try.prog 17 #[v, u] A fun r A' => NewStrs A A' r (if coversB xs then touched xs ls else []) := by
  obtain ⟨a, c, rfl, hc, hl⟩ := h.slice
  obtain ⟨a', c', rfl, hc', hl'⟩ := h'.slice
  refine acalls Try.func17 rfl (by kernel_rfl) ?_
  simp (disch := omega) only [↓stp, vls, inf, frs, mark_eq, ↓reduceIte, Nat.reduceEqDiff, ite_tt, ite_ff, eq_self, and_true, true_and, and_self, implies_true, Bool.true_eq_false, Bool.false_eq_true, decide_true, decide_false, decide_eq_true_eq, decide_eq_false_iff_not, ne_eq, not_true_eq_false, not_false_eq_true, Bool.not_eq_true', Bool.not_eq_false', beq_self_eq_true, Bool.not_true, Bool.not_false, List.getElem?_toArray, List.getElem?_cons_zero, List.getElem?_cons_succ]
  rw [abox_at rfl]
  intro b0 hb0
  generalize hB : A.set b0 _ = B
  have hBe : Ext A B := by rw [← hB]; exact Ext.new hb0 _
  have hk0 : B.cell ⟨b0, 0, none⟩ = some (.slice a' ls.length c') := by rw [← hB]; exact cell_at (View.set_same ..) rfl rfl
  simp (disch := omega) only [↓stp, vls, inf, frs, mark_eq, ↓reduceIte, Nat.reduceEqDiff, ite_tt, ite_ff, eq_self, and_true, true_and, and_self, implies_true, Bool.true_eq_false, Bool.false_eq_true, decide_true, decide_false, decide_eq_true_eq, decide_eq_false_iff_not, ne_eq, not_true_eq_false, not_false_eq_true, Bool.not_eq_true', Bool.not_eq_false', beq_self_eq_true, Bool.not_true, Bool.not_false, List.getElem?_toArray, List.getElem?_cons_zero, List.getElem?_cons_succ]
  refine (impl_validCovers_c B _ xs (h.mono hBe) hsm).mono ?_
  rintro _ B1 ⟨rfl, he1⟩
  simp (disch := omega) only [↓stp, vls, inf, frs, mark_eq, ↓reduceIte, Nat.reduceEqDiff, ite_tt, ite_ff, eq_self, and_true, true_and, and_self, implies_true, Bool.true_eq_false, Bool.false_eq_true, decide_true, decide_false, decide_eq_true_eq, decide_eq_false_iff_not, ne_eq, not_true_eq_false, not_false_eq_true, Bool.not_eq_true', Bool.not_eq_false', beq_self_eq_true, Bool.not_true, Bool.not_false, List.getElem?_toArray, List.getElem?_cons_zero, List.getElem?_cons_succ]
  refine ⟨fun e => ?_, fun e => ?_⟩ <;> simp (disch := omega) only [↓stp, vls, inf, frs, mark_eq, ↓reduceIte, Nat.reduceEqDiff, ite_tt, ite_ff, eq_self, and_true, true_and, and_self, implies_true, Bool.true_eq_false, Bool.false_eq_true, decide_true, decide_false, decide_eq_true_eq, decide_eq_false_iff_not, ne_eq, not_true_eq_false, not_false_eq_true, Bool.not_eq_true', Bool.not_eq_false', beq_self_eq_true, Bool.not_true, Bool.not_false, List.getElem?_toArray, List.getElem?_cons_zero, List.getElem?_cons_succ]
  · rw [e]; exact NewStrs.nil (hBe.trans he1)
  · rw [e]
    refine alit_at (n := 0) li25 (by omega) rfl (by simp) fun b hb => ?_
    simp (disch := omega) only [↓stp, vls, inf, frs, mark_eq, ↓reduceIte, Nat.reduceEqDiff, ite_tt, ite_ff, eq_self, and_true, true_and, and_self, implies_true, Bool.true_eq_false, Bool.false_eq_true, decide_true, decide_false, decide_eq_true_eq, decide_eq_false_iff_not, ne_eq, not_true_eq_false, not_false_eq_true, Bool.not_eq_true', Bool.not_eq_false', beq_self_eq_true, Bool.not_true, Bool.not_false, List.getElem?_toArray, List.getElem?_cons_zero, List.getElem?_cons_succ]
    have hl0 : ∀ k, (touched (xs.take k) ls).length ≤ xs.length := fun k => Nat.le_trans (touched_len _ _) (by simp; omega)
    refine aloop (fun d fr A' => ∃ i b c', i ≤ xs.length ∧ d = xs.length - i ∧ Grow B A' b c' (touched (xs.take i) ls) ∧ fr 3 = .pointer (some ⟨b0, 0, none⟩) ∧ fr 5 = .slice (some ⟨b, 0, none⟩) (touched (xs.take i) ls).length c' ∧ fr 12 = .slice a xs.length c ∧ fr 13 = .int .i64 xs.length ∧ fr 14 = .int .i64 i) xs.length ⟨0, b, 0, by omega, by omega, ⟨he1.none hb, by rw [View.set_same]; rfl, he1.trans (Ext.new hb _), by simp [touched], by simp [touched]⟩, by rfl, by rfl, by rfl, by rfl, by rfl⟩ ?_
    rintro d fr A' ⟨i, b, c', hi, rfl, hg, h3, h5, h12, h13, h14⟩
    simp (disch := omega) only [↓stp, vls, inf, frs, mark_eq, ↓reduceIte, Nat.reduceEqDiff, ite_tt, ite_ff, eq_self, and_true, true_and, and_self, implies_true, Bool.true_eq_false, Bool.false_eq_true, decide_true, decide_false, decide_eq_true_eq, decide_eq_false_iff_not, ne_eq, not_true_eq_false, not_false_eq_true, Bool.not_eq_true', Bool.not_eq_false', beq_self_eq_true, Bool.not_true, Bool.not_false, List.getElem?_toArray, List.getElem?_cons_zero, List.getElem?_cons_succ, h3, h5, h12, h13, h14]
    refine ⟨fun e1 => ?_, fun e1 => ?_⟩
    · have hlt : i < xs.length := by omega
      obtain ⟨ad, w, rfl, hp, hs, hw⟩ := (h.mono (hBe.trans hg.ext)).cover hlt
      obtain ⟨aw, cw, rfl, hcw, hlw⟩ := hw.slice
      simp (disch := omega) only [↓stp, vls, inf, frs, mark_eq, ↓reduceIte, Nat.reduceEqDiff, ite_tt, ite_ff, eq_self, and_true, true_and, and_self, implies_true, Bool.true_eq_false, Bool.false_eq_true, decide_true, decide_false, decide_eq_true_eq, decide_eq_false_iff_not, ne_eq, not_true_eq_false, not_false_eq_true, Bool.not_eq_true', Bool.not_eq_false', beq_self_eq_true, Bool.not_true, Bool.not_false, List.getElem?_toArray, List.getElem?_cons_zero, List.getElem?_cons_succ, h3, h5, h12, h13, h14, hp]
      rw [al65]
      intro bl hbl
      have hst := storev_at (P := Try.prog) (A := A'.set bl ⟨65, [.string ⟨#[]⟩, .slice none 0 0], 2, true⟩) (b := bl) (v := .agg #[.string (xs[i]).1, .slice aw (xs[i]).2.1.length cw]) (c1 := []) (c2 := [.string ⟨#[]⟩, .slice none 0 0]) (c3 := []) sz65 (View.set_same ..) rfl rfl rfl (o := 0) rfl
      rw [View.set_set] at hst
      simp (disch := omega) only [↓stp, vls, inf, frs, mark_eq, ↓reduceIte, Nat.reduceEqDiff, ite_tt, ite_ff, eq_self, and_true, true_and, and_self, implies_true, Bool.true_eq_false, Bool.false_eq_true, decide_true, decide_false, decide_eq_true_eq, decide_eq_false_iff_not, ne_eq, not_true_eq_false, not_false_eq_true, Bool.not_eq_true', Bool.not_eq_false', beq_self_eq_true, Bool.not_true, Bool.not_false, List.getElem?_toArray, List.getElem?_cons_zero, List.getElem?_cons_succ, astore_at, h3, h5, h12, h13, h14, hst]
      generalize hC : A'.set bl _ = C
      have hCl : C bl = some ⟨65, [.string (xs[i]).1, .slice aw (xs[i]).2.1.length cw], 2, true⟩ := by rw [← hC, View.set_same]; rfl
      have hCe : Ext A' C := by rw [← hC]; exact Ext.new hbl _
      have k0 : C.cell ⟨bl, 0 + 0, none⟩ = some (.string (xs[i]).1) := cell_at hCl rfl rfl
      have k1 : C.cell ⟨bl, 0 + 1, none⟩ = some (.slice aw (xs[i]).2.1.length cw) := cell_at hCl rfl rfl
      have hf : TellsInt C (.func (.func 65) #[] #[.pointer (some ⟨b0, 0, none⟩)]) (fun n => decide (n ∈ ls)) := ⟨_, _, _, rfl, by kernel_rfl, fun D hD n =>
        (touchedFn_c D b0 n _ ls (hD.cell (hCe.cell (hg.ext.cell hk0))) (((h'.mono hBe).mono hg.ext).mono (hCe.trans hD))).mono fun r B' hr => ⟨hr.1, by rw [hr.2]; exact Ext.refl _⟩⟩
      simp (disch := omega) only [↓stp, vls, inf, frs, mark_eq, ↓reduceIte, Nat.reduceEqDiff, ite_tt, ite_ff, eq_self, and_true, true_and, and_self, implies_true, Bool.true_eq_false, Bool.false_eq_true, decide_true, decide_false, decide_eq_true_eq, decide_eq_false_iff_not, ne_eq, not_true_eq_false, not_false_eq_true, Bool.not_eq_true', Bool.not_eq_false', beq_self_eq_true, Bool.not_true, Bool.not_false, List.getElem?_toArray, List.getElem?_cons_zero, List.getElem?_cons_succ, h3, h5, h12, h13, h14, add_at, k1]
      refine (containsFunc_int_c C _ _ _ _ (hw.mono hCe) hf).mono ?_
      rintro _ D ⟨rfl, hDe⟩
      simp (disch := omega) only [↓stp, vls, inf, frs, mark_eq, ↓reduceIte, Nat.reduceEqDiff, ite_tt, ite_ff, eq_self, and_true, true_and, and_self, implies_true, Bool.true_eq_false, Bool.false_eq_true, decide_true, decide_false, decide_eq_true_eq, decide_eq_false_iff_not, ne_eq, not_true_eq_false, not_false_eq_true, Bool.not_eq_true', Bool.not_eq_false', beq_self_eq_true, Bool.not_true, Bool.not_false, List.getElem?_toArray, List.getElem?_cons_zero, List.getElem?_cons_succ, h3, h5, h12, h13, h14]
      have hgD := (hg.mono hCe).mono hDe
      have k0' := hDe.cell k0
      have hl1 := hl0 i
      have hsn := touched_snoc (ls := ls) hlt
      refine ⟨fun e2 => ?_, fun e2 => ?_⟩ <;> rw [e2] at hsn <;> simp (disch := omega) only [↓stp, vls, inf, frs, mark_eq, ↓reduceIte, Nat.reduceEqDiff, ite_tt, ite_ff, eq_self, and_true, true_and, and_self, implies_true, Bool.true_eq_false, Bool.false_eq_true, decide_true, decide_false, decide_eq_true_eq, decide_eq_false_iff_not, ne_eq, not_true_eq_false, not_false_eq_true, Bool.not_eq_true', Bool.not_eq_false', beq_self_eq_true, Bool.not_true, Bool.not_false, List.getElem?_toArray, List.getElem?_cons_zero, List.getElem?_cons_succ, h3, h5, h12, h13, h14, add_at, k0']
      · refine alit_at (n := 1) li25 (by omega) rfl (by simp [Value.cells, Value.oneCell']) fun bm hbm => ?_
        generalize hE : D.set bm _ = E
        have hEl : E bm = some ⟨9, [.string (xs[i]).1], 1 * 1, true⟩ := by rw [← hE]; exact View.set_same ..
        have hEe : Ext D E := by rw [← hE]; exact Ext.new hbm _
        simp (disch := omega) only [↓stp, vls, inf, frs, mark_eq, ↓reduceIte, Nat.reduceEqDiff, ite_tt, ite_ff, eq_self, and_true, true_and, and_self, implies_true, Bool.true_eq_false, Bool.false_eq_true, decide_true, decide_false, decide_eq_true_eq, decide_eq_false_iff_not, ne_eq, not_true_eq_false, not_false_eq_true, Bool.not_eq_true', Bool.not_eq_false', beq_self_eq_true, Bool.not_true, Bool.not_false, List.getElem?_toArray, List.getElem?_cons_zero, List.getElem?_cons_succ, h3, h5, h12, h13, h14]
        refine (hgD.mono hEe).app (asrc_lit hEl rfl) rfl (by omega) hs fun b2 c2 A2 hg2 => ?_
        simp (disch := omega) only [↓stp, vls, inf, frs, mark_eq, ↓reduceIte, Nat.reduceEqDiff, ite_tt, ite_ff, eq_self, and_true, true_and, and_self, implies_true, Bool.true_eq_false, Bool.false_eq_true, decide_true, decide_false, decide_eq_true_eq, decide_eq_false_iff_not, ne_eq, not_true_eq_false, not_false_eq_true, Bool.not_eq_true', Bool.not_eq_false', beq_self_eq_true, Bool.not_true, Bool.not_false, List.getElem?_toArray, List.getElem?_cons_zero, List.getElem?_cons_succ, h3, h5, h12, h13, h14]
        refine ⟨_, by omega, i + 1, b2, c2, by omega, rfl, by rw [hsn]; exact hg2, ?_, rfl⟩
        rw [hsn]; simp
      · refine ⟨_, by omega, i + 1, b, c', by omega, rfl, by rw [hsn]; simpa using hgD, ?_, rfl⟩
        rw [hsn]; simp
    · simp (disch := omega) only [↓stp, vls, inf, frs, mark_eq, ↓reduceIte, Nat.reduceEqDiff, ite_tt, ite_ff, eq_self, and_true, true_and, and_self, implies_true, Bool.true_eq_false, Bool.false_eq_true, decide_true, decide_false, decide_eq_true_eq, decide_eq_false_iff_not, ne_eq, not_true_eq_false, not_false_eq_true, Bool.not_eq_true', Bool.not_eq_false', beq_self_eq_true, Bool.not_true, Bool.not_false, List.getElem?_toArray, List.getElem?_cons_zero, List.getElem?_cons_succ, h3, h5, h12, h13, h14]
      have hi' : i = xs.length := by omega
      subst hi'
      rw [List.take_length] at hg
      have hg2 : Grow A A' b c' (touched xs ls) := ⟨hBe.none hg.new, hg.at_, hBe.trans hg.ext, hg.fits, hg.small⟩
      have := touched_len xs ls
      simpa [List.take_length] using hg2.new_strs rfl (by omega)

theorem spec_touchedBy_c (A : View) (v u : Value) (xs : List CoverD) (ls : List Int) (h : Sl coverS A v xs) (h' : Sl intS A u ls) (hsm : xs.length ≤ 16777215) : ACalls Try.prog 14 #[v, u] A fun r A' => NewStrs A A' r (if coversB xs then touched xs ls else []) := by
  obtain ⟨a, c, rfl, hc, hl⟩ := h.slice
  obtain ⟨a', c', rfl, hc', hl'⟩ := h'.slice
  refine acalls Try.func14 rfl (by kernel_rfl) ?_
  simp (disch := omega) only [↓stp, vls, inf, frs, mark_eq, ↓reduceIte, Nat.reduceEqDiff, ite_tt, ite_ff, eq_self, and_true, true_and, and_self, implies_true, Bool.true_eq_false, Bool.false_eq_true, decide_true, decide_false, decide_eq_true_eq, decide_eq_false_iff_not, ne_eq, not_true_eq_false, not_false_eq_true, Bool.not_eq_true', Bool.not_eq_false', beq_self_eq_true, Bool.not_true, Bool.not_false, List.getElem?_toArray, List.getElem?_cons_zero, List.getElem?_cons_succ]
  refine (spec_validCovers_c A _ xs h hsm).mono ?_
  rintro _ B ⟨rfl, hBe⟩
  simp (disch := omega) only [↓stp, vls, inf, frs, mark_eq, ↓reduceIte, Nat.reduceEqDiff, ite_tt, ite_ff, eq_self, and_true, true_and, and_self, implies_true, Bool.true_eq_false, Bool.false_eq_true, decide_true, decide_false, decide_eq_true_eq, decide_eq_false_iff_not, ne_eq, not_true_eq_false, not_false_eq_true, Bool.not_eq_true', Bool.not_eq_false', beq_self_eq_true, Bool.not_true, Bool.not_false, List.getElem?_toArray, List.getElem?_cons_zero, List.getElem?_cons_succ]
  refine ⟨fun e => ?_, fun e => ?_⟩ <;> simp (disch := omega) only [↓stp, vls, inf, frs, mark_eq, ↓reduceIte, Nat.reduceEqDiff, ite_tt, ite_ff, eq_self, and_true, true_and, and_self, implies_true, Bool.true_eq_false, Bool.false_eq_true, decide_true, decide_false, decide_eq_true_eq, decide_eq_false_iff_not, ne_eq, not_true_eq_false, not_false_eq_true, Bool.not_eq_true', Bool.not_eq_false', beq_self_eq_true, Bool.not_true, Bool.not_false, List.getElem?_toArray, List.getElem?_cons_zero, List.getElem?_cons_succ]
  · rw [e]; exact NewStrs.nil hBe
  · rw [e]
    refine alit_at (n := 0) li25 (by omega) rfl (by simp) fun b hb => ?_
    simp (disch := omega) only [↓stp, vls, inf, frs, mark_eq, ↓reduceIte, Nat.reduceEqDiff, ite_tt, ite_ff, eq_self, and_true, true_and, and_self, implies_true, Bool.true_eq_false, Bool.false_eq_true, decide_true, decide_false, decide_eq_true_eq, decide_eq_false_iff_not, ne_eq, not_true_eq_false, not_false_eq_true, Bool.not_eq_true', Bool.not_eq_false', beq_self_eq_true, Bool.not_true, Bool.not_false, List.getElem?_toArray, List.getElem?_cons_zero, List.getElem?_cons_succ]
    have hl0 : ∀ k, (touched (xs.take k) ls).length ≤ xs.length := fun k => Nat.le_trans (touched_len _ _) (by simp; omega)
    refine aloop (fun d fr A' => ∃ i b c1, i ≤ xs.length ∧ d = xs.length - i ∧ Grow B A' b c1 (touched (xs.take i) ls) ∧ fr 0 = .slice a xs.length c ∧ fr 1 = .slice a' ls.length c' ∧ fr 5 = .slice (some ⟨b, 0, none⟩) (touched (xs.take i) ls).length c1 ∧ fr 6 = .int .i64 i) xs.length ⟨0, b, 0, by omega, by omega, ⟨hb, by rw [View.set_same]; rfl, Ext.new hb _, by simp [touched], by simp [touched]⟩, by rfl, by rfl, by rfl, by rfl⟩ ?_
    rintro d fr A' ⟨i, b, c1, hi, rfl, hg, h0, h1, h5, h6⟩
    simp (disch := omega) only [↓stp, vls, inf, frs, mark_eq, ↓reduceIte, Nat.reduceEqDiff, ite_tt, ite_ff, eq_self, and_true, true_and, and_self, implies_true, Bool.true_eq_false, Bool.false_eq_true, decide_true, decide_false, decide_eq_true_eq, decide_eq_false_iff_not, ne_eq, not_true_eq_false, not_false_eq_true, Bool.not_eq_true', Bool.not_eq_false', beq_self_eq_true, Bool.not_true, Bool.not_false, List.getElem?_toArray, List.getElem?_cons_zero, List.getElem?_cons_succ, h0, h1, h5, h6]
    refine ⟨fun e1 => ?_, fun e1 => ?_⟩
    · have hlt : i < xs.length := by omega
      obtain ⟨ad, w, rfl, hp, hs, hw⟩ := (h.mono (hBe.trans hg.ext)).cover hlt
      obtain ⟨aw, cw, rfl, hcw, hlw⟩ := hw.slice
      have k0 := View.part_cell hp (j := 0) (v := .string (xs[i]).1) rfl
      have k1 := View.part_cell hp (j := 1) (v := .slice aw (xs[i]).2.1.length cw) rfl
      simp (disch := omega) only [↓stp, vls, inf, frs, mark_eq, ↓reduceIte, Nat.reduceEqDiff, ite_tt, ite_ff, eq_self, and_true, true_and, and_self, implies_true, Bool.true_eq_false, Bool.false_eq_true, decide_true, decide_false, decide_eq_true_eq, decide_eq_false_iff_not, ne_eq, not_true_eq_false, not_false_eq_true, Bool.not_eq_true', Bool.not_eq_false', beq_self_eq_true, Bool.not_true, Bool.not_false, List.getElem?_toArray, List.getElem?_cons_zero, List.getElem?_cons_succ, h0, h1, h5, h6]
      refine aloop (fun d fr A1 => ∃ j, j ≤ (xs[i]).2.1.length ∧ d = (xs[i]).2.1.length - j ∧ A1 = A' ∧ fr 0 = .slice (some ad) xs.length c ∧ fr 1 = .slice a' ls.length c' ∧ fr 5 = .slice (some ⟨b, 0, none⟩) (touched (xs.take i) ls).length c1 ∧ fr 6 = .int .i64 i ∧ fr 7 = .bool (((xs[i]).2.1.take j).any fun n => decide (n ∈ ls)) ∧ fr 8 = .int .i64 j) (xs[i]).2.1.length ⟨0, by omega, by omega, rfl, h0, h1, h5, h6, by rfl, by rfl⟩ ?_
      rintro d fr A1 ⟨j, hj, rfl, rfl, h0, h1, h5, h6, h7, h8⟩
      simp (disch := omega) only [↓stp, vls, inf, frs, mark_eq, ↓reduceIte, Nat.reduceEqDiff, ite_tt, ite_ff, eq_self, and_true, true_and, and_self, implies_true, Bool.true_eq_false, Bool.false_eq_true, decide_true, decide_false, decide_eq_true_eq, decide_eq_false_iff_not, ne_eq, not_true_eq_false, not_false_eq_true, Bool.not_eq_true', Bool.not_eq_false', beq_self_eq_true, Bool.not_true, Bool.not_false, List.getElem?_toArray, List.getElem?_cons_zero, List.getElem?_cons_succ, h0, h1, h5, h6, h7, h8, k1]
      refine ⟨fun e2 => ?_, fun e2 => ?_⟩
      · have hjl : j < (xs[i]).2.1.length := by omega
        obtain ⟨al, rfl, hcl, _⟩ := hw.int hjl
        have hsn : ((xs[i]).2.1.take (j + 1)).any (fun n => decide (n ∈ ls)) = (((xs[i]).2.1.take j).any (fun n => decide (n ∈ ls)) || decide ((xs[i]).2.1[j] ∈ ls)) := by
          rw [List.take_succ_eq_append_getElem hjl, List.any_append]; simp
        simp (disch := omega) only [↓stp, vls, inf, frs, mark_eq, ↓reduceIte, Nat.reduceEqDiff, ite_tt, ite_ff, eq_self, and_true, true_and, and_self, implies_true, Bool.true_eq_false, Bool.false_eq_true, decide_true, decide_false, decide_eq_true_eq, decide_eq_false_iff_not, ne_eq, not_true_eq_false, not_false_eq_true, Bool.not_eq_true', Bool.not_eq_false', beq_self_eq_true, Bool.not_true, Bool.not_false, List.getElem?_toArray, List.getElem?_cons_zero, List.getElem?_cons_succ, h0, h1, h5, h6, h7, h8, k1]
        refine ⟨fun e3 => ?_, fun e3 => ?_⟩ <;> simp (disch := omega) only [↓stp, vls, inf, frs, mark_eq, ↓reduceIte, Nat.reduceEqDiff, ite_tt, ite_ff, eq_self, and_true, true_and, and_self, implies_true, Bool.true_eq_false, Bool.false_eq_true, decide_true, decide_false, decide_eq_true_eq, decide_eq_false_iff_not, ne_eq, not_true_eq_false, not_false_eq_true, Bool.not_eq_true', Bool.not_eq_false', beq_self_eq_true, Bool.not_true, Bool.not_false, List.getElem?_toArray, List.getElem?_cons_zero, List.getElem?_cons_succ, h0, h1, h5, h6, h7, h8, k1, hcl, e3]
        · refine (spec_hasInt_c A1 _ ls _ ((h'.mono hBe).mono hg.ext)).mono ?_
          rintro _ A1 ⟨rfl, rfl⟩
          simp (disch := omega) only [↓stp, vls, inf, frs, mark_eq, ↓reduceIte, Nat.reduceEqDiff, ite_tt, ite_ff, eq_self, and_true, true_and, and_self, implies_true, Bool.true_eq_false, Bool.false_eq_true, decide_true, decide_false, decide_eq_true_eq, decide_eq_false_iff_not, ne_eq, not_true_eq_false, not_false_eq_true, Bool.not_eq_true', Bool.not_eq_false', beq_self_eq_true, Bool.not_true, Bool.not_false, List.getElem?_toArray, List.getElem?_cons_zero, List.getElem?_cons_succ, h0, h1, h5, h6, h7, h8, e3]
          exact ⟨_, by omega, j + 1, by omega, rfl, by rw [hsn, e3, Bool.false_or], rfl⟩
        · exact ⟨_, by omega, j + 1, by omega, rfl, by rw [hsn, e3, Bool.true_or], rfl⟩
      · simp (disch := omega) only [↓stp, vls, inf, frs, mark_eq, ↓reduceIte, Nat.reduceEqDiff, ite_tt, ite_ff, eq_self, and_true, true_and, and_self, implies_true, Bool.true_eq_false, Bool.false_eq_true, decide_true, decide_false, decide_eq_true_eq, decide_eq_false_iff_not, ne_eq, not_true_eq_false, not_false_eq_true, Bool.not_eq_true', Bool.not_eq_false', beq_self_eq_true, Bool.not_true, Bool.not_false, List.getElem?_toArray, List.getElem?_cons_zero, List.getElem?_cons_succ, h0, h1, h5, h6, h7, h8, k1]
        have hl1 := hl0 i
        have hsn := touched_snoc (ls := ls) hlt
        rw [List.take_of_length_le (by omega)]
        refine ⟨fun e3 => ?_, fun e3 => ?_⟩ <;> rw [e3] at hsn <;> simp (disch := omega) only [↓stp, vls, inf, frs, mark_eq, ↓reduceIte, Nat.reduceEqDiff, ite_tt, ite_ff, eq_self, and_true, true_and, and_self, implies_true, Bool.true_eq_false, Bool.false_eq_true, decide_true, decide_false, decide_eq_true_eq, decide_eq_false_iff_not, ne_eq, not_true_eq_false, not_false_eq_true, Bool.not_eq_true', Bool.not_eq_false', beq_self_eq_true, Bool.not_true, Bool.not_false, List.getElem?_toArray, List.getElem?_cons_zero, List.getElem?_cons_succ, h0, h1, h5, h6, h7, h8, k0]
        · refine alit_at (n := 1) li25 (by omega) rfl (by simp [Value.cells, Value.oneCell']) fun bm hbm => ?_
          generalize hE : A1.set bm _ = E
          have hEl : E bm = some ⟨9, [.string (xs[i]).1], 1 * 1, true⟩ := by rw [← hE]; exact View.set_same ..
          have hEe : Ext A1 E := by rw [← hE]; exact Ext.new hbm _
          simp (disch := omega) only [↓stp, vls, inf, frs, mark_eq, ↓reduceIte, Nat.reduceEqDiff, ite_tt, ite_ff, eq_self, and_true, true_and, and_self, implies_true, Bool.true_eq_false, Bool.false_eq_true, decide_true, decide_false, decide_eq_true_eq, decide_eq_false_iff_not, ne_eq, not_true_eq_false, not_false_eq_true, Bool.not_eq_true', Bool.not_eq_false', beq_self_eq_true, Bool.not_true, Bool.not_false, List.getElem?_toArray, List.getElem?_cons_zero, List.getElem?_cons_succ, h0, h1, h5, h6, h7, h8]
          refine (hg.mono hEe).app (asrc_lit hEl rfl) rfl (by omega) hs fun b2 c2 A2 hg2 => ?_
          simp (disch := omega) only [↓stp, vls, inf, frs, mark_eq, ↓reduceIte, Nat.reduceEqDiff, ite_tt, ite_ff, eq_self, and_true, true_and, and_self, implies_true, Bool.true_eq_false, Bool.false_eq_true, decide_true, decide_false, decide_eq_true_eq, decide_eq_false_iff_not, ne_eq, not_true_eq_false, not_false_eq_true, Bool.not_eq_true', Bool.not_eq_false', beq_self_eq_true, Bool.not_true, Bool.not_false, List.getElem?_toArray, List.getElem?_cons_zero, List.getElem?_cons_succ, h0, h1, h5, h6, h7, h8]
          refine ⟨_, by omega, i + 1, b2, c2, by omega, rfl, by rw [hsn]; exact hg2, ?_, rfl⟩
          rw [hsn]; simp
        · refine ⟨_, by omega, i + 1, b, c1, by omega, rfl, by rw [hsn]; simpa using hg, ?_, rfl⟩
          rw [hsn]; simp
    · simp (disch := omega) only [↓stp, vls, inf, frs, mark_eq, ↓reduceIte, Nat.reduceEqDiff, ite_tt, ite_ff, eq_self, and_true, true_and, and_self, implies_true, Bool.true_eq_false, Bool.false_eq_true, decide_true, decide_false, decide_eq_true_eq, decide_eq_false_iff_not, ne_eq, not_true_eq_false, not_false_eq_true, Bool.not_eq_true', Bool.not_eq_false', beq_self_eq_true, Bool.not_true, Bool.not_false, List.getElem?_toArray, List.getElem?_cons_zero, List.getElem?_cons_succ, h0, h1, h5, h6]
      have hi' : i = xs.length := by omega
      subst hi'
      rw [List.take_length] at hg
      have hg2 : Grow A A' b c1 (touched xs ls) := ⟨hBe.none hg.new, hg.at_, hBe.trans hg.ext, hg.fits, hg.small⟩
      have := touched_len xs ls
      simpa [List.take_length] using hg2.new_strs rfl (by omega)

end Go.Proofs.Ytaknlfkoomagoaa

