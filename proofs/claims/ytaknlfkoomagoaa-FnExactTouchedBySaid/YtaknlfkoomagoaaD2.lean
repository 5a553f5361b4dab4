/- Covers: the program's own. -/
import Derived.Test.YtaknlfkoomagoaaD1
set_option maxHeartbeats 4000000
set_option synthInstance.maxHeartbeats 400000
set_option synthInstance.maxSize 4096
set_option linter.unusedSimpArgs false
set_option linter.unusedVariables false
namespace Go.Proofs.Ytaknlfkoomagoaa

set_option maxRecDepth 100000

/-- A function value that tells of numbers whether something holds, and changes nothing that is known. -/
def TellsInt (A : View) (f : Value) (p : Int → Bool) : Prop := ∃ g first cap, f = .func (.func g) first cap ∧ callable Try.prog g = true ∧ ∀ B, Ext A B → ∀ n : Int, ACalls Try.prog g (first ++ #[.int .i64 n] ++ cap) B fun r B' => r = .bool (p n) ∧ Ext B B'

theorem indexFunc_int_c (A : View) (v f : Value) (xs : List Int) (p : Int → Bool) (h : Sl intS A v xs) (hf : TellsInt A f p) : ACalls Try.prog 97 #[v, f] A fun r A' => r = .int .i64 (idxI p xs) ∧ Ext A A' := by
  obtain ⟨a, c, rfl, hc, hl⟩ := h.slice
  obtain ⟨g, first, cap, rfl, hg, hp⟩ := hf
  refine acalls Try.func97 rfl (by kernel_rfl) ?_
  simp (disch := omega) only [↓stp, vls, inf, frs, mark_eq, ↓reduceIte, Nat.reduceEqDiff, ite_tt, ite_ff, eq_self, and_true, true_and, and_self, implies_true, Bool.true_eq_false, Bool.false_eq_true, decide_true, decide_false, decide_eq_true_eq, decide_eq_false_iff_not, ne_eq, not_true_eq_false, not_false_eq_true, Bool.not_eq_true', Bool.not_eq_false', beq_self_eq_true, Bool.not_true, Bool.not_false, List.getElem?_toArray, List.getElem?_cons_zero, List.getElem?_cons_succ]
  refine aloop (fun d fr A' => ∃ i : Nat, i ≤ xs.length ∧ d = xs.length - i ∧ Ext A A' ∧ fr 0 = .slice a xs.length c ∧ fr 1 = .func (.func g) first cap ∧ fr 7 = .int .i64 xs.length ∧ fr 8 = .int .i64 i ∧ (∀ j (hj : j < i) (hl : j < xs.length), p xs[j] = false)) xs.length ⟨0, by omega, by omega, Ext.refl _, rfl, by rfl, by rfl, by rfl, by omega⟩ ?_
  rintro d fr A' ⟨i, hi, rfl, he, h0, h1, h7, h8, hn⟩
  simp (disch := omega) only [↓stp, vls, inf, frs, mark_eq, ↓reduceIte, Nat.reduceEqDiff, ite_tt, ite_ff, eq_self, and_true, true_and, and_self, implies_true, Bool.true_eq_false, Bool.false_eq_true, decide_true, decide_false, decide_eq_true_eq, decide_eq_false_iff_not, ne_eq, not_true_eq_false, not_false_eq_true, Bool.not_eq_true', Bool.not_eq_false', beq_self_eq_true, Bool.not_true, Bool.not_false, List.getElem?_toArray, List.getElem?_cons_zero, List.getElem?_cons_succ, h0, h1, h7, h8]
  refine ⟨fun e => ?_, fun e => ?_⟩
  · have hlt : i < xs.length := by omega
    obtain ⟨ad, rfl, hcl, hsz⟩ := (h.mono he).int hlt
    simp (disch := omega) only [↓stp, vls, inf, frs, mark_eq, ↓reduceIte, Nat.reduceEqDiff, ite_tt, ite_ff, eq_self, and_true, true_and, and_self, implies_true, Bool.true_eq_false, Bool.false_eq_true, decide_true, decide_false, decide_eq_true_eq, decide_eq_false_iff_not, ne_eq, not_true_eq_false, not_false_eq_true, Bool.not_eq_true', Bool.not_eq_false', beq_self_eq_true, Bool.not_true, Bool.not_false, List.getElem?_toArray, List.getElem?_cons_zero, List.getElem?_cons_succ, h0, h1, h7, h8, hcl]
    rw [acall_at hg]
    refine (hp A' he xs[i]).mono ?_
    rintro _ A1 ⟨rfl, he1⟩
    simp (disch := omega) only [↓stp, vls, inf, frs, mark_eq, ↓reduceIte, Nat.reduceEqDiff, ite_tt, ite_ff, eq_self, and_true, true_and, and_self, implies_true, Bool.true_eq_false, Bool.false_eq_true, decide_true, decide_false, decide_eq_true_eq, decide_eq_false_iff_not, ne_eq, not_true_eq_false, not_false_eq_true, Bool.not_eq_true', Bool.not_eq_false', beq_self_eq_true, Bool.not_true, Bool.not_false, List.getElem?_toArray, List.getElem?_cons_zero, List.getElem?_cons_succ, h0, h1, h7, h8]
    refine ⟨fun e1 => ?_, fun e1 => ?_⟩ <;> simp (disch := omega) only [↓stp, vls, inf, frs, mark_eq, ↓reduceIte, Nat.reduceEqDiff, ite_tt, ite_ff, eq_self, and_true, true_and, and_self, implies_true, Bool.true_eq_false, Bool.false_eq_true, decide_true, decide_false, decide_eq_true_eq, decide_eq_false_iff_not, ne_eq, not_true_eq_false, not_false_eq_true, Bool.not_eq_true', Bool.not_eq_false', beq_self_eq_true, Bool.not_true, Bool.not_false, List.getElem?_toArray, List.getElem?_cons_zero, List.getElem?_cons_succ, h0, h1, h7, h8]
    · rw [idxI_found hlt (fun j hj => hn j hj (by omega)) e1]
      exact ⟨rfl, he.trans he1⟩
    · refine ⟨_, by omega, i + 1, by omega, rfl, he.trans he1, rfl, fun j hj hl => ?_⟩
      by_cases hji : j = i
      · subst hji; exact e1
      · exact hn j (by omega) hl
  · simp (disch := omega) only [↓stp, vls, inf, frs, mark_eq, ↓reduceIte, Nat.reduceEqDiff, ite_tt, ite_ff, eq_self, and_true, true_and, and_self, implies_true, Bool.true_eq_false, Bool.false_eq_true, decide_true, decide_false, decide_eq_true_eq, decide_eq_false_iff_not, ne_eq, not_true_eq_false, not_false_eq_true, Bool.not_eq_true', Bool.not_eq_false', beq_self_eq_true, Bool.not_true, Bool.not_false, List.getElem?_toArray, List.getElem?_cons_zero, List.getElem?_cons_succ, h0, h1, h7, h8]
    rw [idxI_none (fun j hj => hn j (by omega) hj)]
    exact ⟨rfl, he⟩

theorem containsFunc_int_c (A : View) (v f : Value) (xs : List Int) (p : Int → Bool) (h : Sl intS A v xs) (hf : TellsInt A f p) : ACalls Try.prog 64 #[v, f] A fun r A' => r = .bool (xs.any p) ∧ Ext A A' := by
  refine acalls Try.func64 rfl (by kernel_rfl) ?_
  simp (disch := omega) only [↓stp, vls, inf, frs, mark_eq, ↓reduceIte, Nat.reduceEqDiff, ite_tt, ite_ff, eq_self, and_true, true_and, and_self, implies_true, Bool.true_eq_false, Bool.false_eq_true, decide_true, decide_false, decide_eq_true_eq, decide_eq_false_iff_not, ne_eq, not_true_eq_false, not_false_eq_true, Bool.not_eq_true', Bool.not_eq_false', beq_self_eq_true, Bool.not_true, Bool.not_false, List.getElem?_toArray, List.getElem?_cons_zero, List.getElem?_cons_succ]
  refine (indexFunc_int_c A v f xs p h hf).mono ?_
  rintro _ A1 ⟨rfl, he⟩
  simp (disch := omega) only [↓stp, vls, inf, frs, mark_eq, ↓reduceIte, Nat.reduceEqDiff, ite_tt, ite_ff, eq_self, and_true, true_and, and_self, implies_true, Bool.true_eq_false, Bool.false_eq_true, decide_true, decide_false, decide_eq_true_eq, decide_eq_false_iff_not, ne_eq, not_true_eq_false, not_false_eq_true, Bool.not_eq_true', Bool.not_eq_false', beq_self_eq_true, Bool.not_true, Bool.not_false, List.getElem?_toArray, List.getElem?_cons_zero, List.getElem?_cons_succ, idxI_ge]
  exact ⟨by cases xs.any p <;> simp, he⟩

theorem touchedFn_c (A : View) (b : Nat) (n : Int) (v : Value) (ys : List Int) (hb : A.cell ⟨b, 0, none⟩ = some v) (h : Sl intS A v ys) : ACalls Try.prog 65 #[.int .i64 n, .pointer (some ⟨b, 0, none⟩)] A fun r A' => r = .bool (decide (n ∈ ys)) ∧ A' = A := by
  refine acalls Try.func65 rfl (by kernel_rfl) ?_
  simp (disch := omega) only [↓stp, vls, inf, frs, mark_eq, ↓reduceIte, Nat.reduceEqDiff, ite_tt, ite_ff, eq_self, and_true, true_and, and_self, implies_true, Bool.true_eq_false, Bool.false_eq_true, decide_true, decide_false, decide_eq_true_eq, decide_eq_false_iff_not, ne_eq, not_true_eq_false, not_false_eq_true, Bool.not_eq_true', Bool.not_eq_false', beq_self_eq_true, Bool.not_true, Bool.not_false, List.getElem?_toArray, List.getElem?_cons_zero, List.getElem?_cons_succ]
  simp (disch := omega) only [↓stp, vls, inf, frs, mark_eq, ↓reduceIte, Nat.reduceEqDiff, ite_tt, ite_ff, eq_self, and_true, true_and, and_self, implies_true, Bool.true_eq_false, Bool.false_eq_true, decide_true, decide_false, decide_eq_true_eq, decide_eq_false_iff_not, ne_eq, not_true_eq_false, not_false_eq_true, Bool.not_eq_true', Bool.not_eq_false', beq_self_eq_true, Bool.not_true, Bool.not_false, List.getElem?_toArray, List.getElem?_cons_zero, List.getElem?_cons_succ, hb]
  refine (contains_int_c A v ys n h).mono ?_
  rintro _ A ⟨rfl, rfl⟩
  simp (disch := omega) only [↓stp, vls, inf, frs, mark_eq, ↓reduceIte, Nat.reduceEqDiff, ite_tt, ite_ff, eq_self, and_true, true_and, and_self, implies_true, Bool.true_eq_false, Bool.false_eq_true, decide_true, decide_false, decide_eq_true_eq, decide_eq_false_iff_not, ne_eq, not_true_eq_false, not_false_eq_true, Bool.not_eq_true', Bool.not_eq_false', beq_self_eq_true, Bool.not_true, Bool.not_false, List.getElem?_toArray, List.getElem?_cons_zero, List.getElem?_cons_succ]

theorem impl_validCovers_c (A : View) (v : Value) (xs : List CoverD) (h : Sl coverS A v xs) (hsm : xs.length ≤ 16777215) : ACalls Try.prog 63 #[v] A fun r A' => r = .bool (coversB xs) ∧ Ext A A' := by
  obtain ⟨a, c, rfl, hc, hl⟩ := h.slice
  refine acalls Try.func63 rfl (by kernel_rfl) ?_
  simp (disch := omega) only [↓stp, vls, inf, frs, mark_eq, ↓reduceIte, Nat.reduceEqDiff, ite_tt, ite_ff, eq_self, and_true, true_and, and_self, implies_true, Bool.true_eq_false, Bool.false_eq_true, decide_true, decide_false, decide_eq_true_eq, decide_eq_false_iff_not, ne_eq, not_true_eq_false, not_false_eq_true, Bool.not_eq_true', Bool.not_eq_false', beq_self_eq_true, Bool.not_true, Bool.not_false, List.getElem?_toArray, List.getElem?_cons_zero, List.getElem?_cons_succ]
  refine alit_at (n := 0) li25 (by omega) rfl (by simp) fun b hb => ?_
  simp (disch := omega) only [↓stp, vls, inf, frs, mark_eq, ↓reduceIte, Nat.reduceEqDiff, ite_tt, ite_ff, eq_self, and_true, true_and, and_self, implies_true, Bool.true_eq_false, Bool.false_eq_true, decide_true, decide_false, decide_eq_true_eq, decide_eq_false_iff_not, ne_eq, not_true_eq_false, not_false_eq_true, Bool.not_eq_true', Bool.not_eq_false', beq_self_eq_true, Bool.not_true, Bool.not_false, List.getElem?_toArray, List.getElem?_cons_zero, List.getElem?_cons_succ]
  refine aloop (fun d fr A' => ∃ i b c', i ≤ xs.length ∧ d = xs.length - i ∧ Grow A A' b c' ((xs.take i).map (·.1)) ∧ (xs.take i).all (fun x => linesB x.2.1) = true ∧ fr 0 = .slice a xs.length c ∧ fr 3 = .slice (some ⟨b, 0, none⟩) i c' ∧ fr 9 = .slice a xs.length c ∧ fr 10 = .int .i64 xs.length ∧ fr 11 = .int .i64 i) xs.length ⟨0, b, 0, by omega, by omega, ⟨hb, by rw [View.set_same]; rfl, Ext.new hb _, by simp, by simp⟩, by simp, by rfl, by rfl, by rfl, by rfl, by rfl⟩ ?_
  rintro d fr A' ⟨i, b, c', hi, rfl, hg, hall, h0, h3, h9, h10, h11⟩
  simp (disch := omega) only [↓stp, vls, inf, frs, mark_eq, ↓reduceIte, Nat.reduceEqDiff, ite_tt, ite_ff, eq_self, and_true, true_and, and_self, implies_true, Bool.true_eq_false, Bool.false_eq_true, decide_true, decide_false, decide_eq_true_eq, decide_eq_false_iff_not, ne_eq, not_true_eq_false, not_false_eq_true, Bool.not_eq_true', Bool.not_eq_false', beq_self_eq_true, Bool.not_true, Bool.not_false, List.getElem?_toArray, List.getElem?_cons_zero, List.getElem?_cons_succ, h0, h3, h9, h10, h11]
  refine ⟨fun e => ?_, fun e => ?_⟩
  · have hlt : i < xs.length := by omega
    obtain ⟨ad, u, rfl, hp, hs, hu⟩ := (h.mono hg.ext).cover hlt
    obtain ⟨au, cu, rfl, hcu, hlu⟩ := hu.slice
    simp (disch := omega) only [↓stp, vls, inf, frs, mark_eq, ↓reduceIte, Nat.reduceEqDiff, ite_tt, ite_ff, eq_self, and_true, true_and, and_self, implies_true, Bool.true_eq_false, Bool.false_eq_true, decide_true, decide_false, decide_eq_true_eq, decide_eq_false_iff_not, ne_eq, not_true_eq_false, not_false_eq_true, Bool.not_eq_true', Bool.not_eq_false', beq_self_eq_true, Bool.not_true, Bool.not_false, List.getElem?_toArray, List.getElem?_cons_zero, List.getElem?_cons_succ, h0, h3, h9, h10, h11, hp]
    rw [al65]
    intro bl hbl
    have hst := storev_at (P := Try.prog) (A := A'.set bl ⟨65, [.string ⟨#[]⟩, .slice none 0 0], 2, true⟩) (b := bl) (v := .agg #[.string (xs[i]).1, .slice au (xs[i]).2.1.length cu]) (c1 := []) (c2 := [.string ⟨#[]⟩, .slice none 0 0]) (c3 := []) sz65 (View.set_same ..) rfl rfl rfl (o := 0) rfl
    rw [View.set_set] at hst
    simp (disch := omega) only [↓stp, vls, inf, frs, mark_eq, ↓reduceIte, Nat.reduceEqDiff, ite_tt, ite_ff, eq_self, and_true, true_and, and_self, implies_true, Bool.true_eq_false, Bool.false_eq_true, decide_true, decide_false, decide_eq_true_eq, decide_eq_false_iff_not, ne_eq, not_true_eq_false, not_false_eq_true, Bool.not_eq_true', Bool.not_eq_false', beq_self_eq_true, Bool.not_true, Bool.not_false, List.getElem?_toArray, List.getElem?_cons_zero, List.getElem?_cons_succ, astore_at, h0, h3, h9, h10, h11, hst]
    generalize hB : A'.set bl _ = B
    have hBl : B bl = some ⟨65, [.string (xs[i]).1, .slice au (xs[i]).2.1.length cu], 2, true⟩ := by rw [← hB, View.set_same]; rfl
    have hBe : Ext A' B := by rw [← hB]; exact Ext.new hbl _
    have hgB := hg.mono hBe
    have huB := hu.mono hBe
    have k0 : B.cell ⟨bl, 0 + 0, none⟩ = some (.string (xs[i]).1) := cell_at hBl rfl rfl
    have k1 : B.cell ⟨bl, 0 + 1, none⟩ = some (.slice au (xs[i]).2.1.length cu) := cell_at hBl rfl rfl
    simp (disch := omega) only [↓stp, vls, inf, frs, mark_eq, ↓reduceIte, Nat.reduceEqDiff, ite_tt, ite_ff, eq_self, and_true, true_and, and_self, implies_true, Bool.true_eq_false, Bool.false_eq_true, decide_true, decide_false, decide_eq_true_eq, decide_eq_false_iff_not, ne_eq, not_true_eq_false, not_false_eq_true, Bool.not_eq_true', Bool.not_eq_false', beq_self_eq_true, Bool.not_true, Bool.not_false, List.getElem?_toArray, List.getElem?_cons_zero, List.getElem?_cons_succ, h0, h3, h9, h10, h11, add_at, k1]
    refine aloop (fun d fr A' => ∃ j, j ≤ (xs[i]).2.1.length ∧ d = (xs[i]).2.1.length - j ∧ A' = B ∧ (List.range j).all (lineAt (xs[i]).2.1) = true ∧ fr 0 = .slice (some ad) xs.length c ∧ fr 3 = .slice (some ⟨b, 0, none⟩) i c' ∧ fr 5 = .pointer (some ⟨bl, 0, none⟩) ∧ fr 9 = .slice (some ad) xs.length c ∧ fr 10 = .int .i64 xs.length ∧ fr 11 = .int .i64 i ∧ fr 16 = .slice au (xs[i]).2.1.length cu ∧ fr 17 = .int .i64 (xs[i]).2.1.length ∧ fr 18 = .int .i64 j) (xs[i]).2.1.length ⟨0, by omega, by omega, rfl, rfl, h0, h3, by rfl, h9, h10, h11, by rfl, by rfl, by rfl⟩ ?_
    rintro d fr B ⟨j, hj, rfl, rfl, hln, h0, h3, h5, h9, h10, h11, h16, h17, h18⟩
    simp (disch := omega) only [↓stp, vls, inf, frs, mark_eq, ↓reduceIte, Nat.reduceEqDiff, ite_tt, ite_ff, eq_self, and_true, true_and, and_self, implies_true, Bool.true_eq_false, Bool.false_eq_true, decide_true, decide_false, decide_eq_true_eq, decide_eq_false_iff_not, ne_eq, not_true_eq_false, not_false_eq_true, Bool.not_eq_true', Bool.not_eq_false', beq_self_eq_true, Bool.not_true, Bool.not_false, List.getElem?_toArray, List.getElem?_cons_zero, List.getElem?_cons_succ, h0, h3, h5, h9, h10, h11, h16, h17, h18]
    refine ⟨fun e1 => ?_, fun e1 => ?_⟩
    · have hjl : j < (xs[i]).2.1.length := by omega
      obtain ⟨al, rfl, hcl, _⟩ := huB.int hjl
      have hgd : (xs[i]).2.1.getD j 0 = (xs[i]).2.1[j] := by simp [List.getD, hjl]
      simp (disch := omega) only [↓stp, vls, inf, frs, mark_eq, ↓reduceIte, Nat.reduceEqDiff, ite_tt, ite_ff, eq_self, and_true, true_and, and_self, implies_true, Bool.true_eq_false, Bool.false_eq_true, decide_true, decide_false, decide_eq_true_eq, decide_eq_false_iff_not, ne_eq, not_true_eq_false, not_false_eq_true, Bool.not_eq_true', Bool.not_eq_false', beq_self_eq_true, Bool.not_true, Bool.not_false, List.getElem?_toArray, List.getElem?_cons_zero, List.getElem?_cons_succ, h0, h3, h5, h9, h10, h11, h16, h17, h18, hcl]
      refine ⟨fun f1 => ?_, fun f1 => ?_⟩ <;> simp (disch := omega) only [↓stp, vls, inf, frs, mark_eq, ↓reduceIte, Nat.reduceEqDiff, ite_tt, ite_ff, eq_self, and_true, true_and, and_self, implies_true, Bool.true_eq_false, Bool.false_eq_true, decide_true, decide_false, decide_eq_true_eq, decide_eq_false_iff_not, ne_eq, not_true_eq_false, not_false_eq_true, Bool.not_eq_true', Bool.not_eq_false', beq_self_eq_true, Bool.not_true, Bool.not_false, List.getElem?_toArray, List.getElem?_cons_zero, List.getElem?_cons_succ, h0, h3, h5, h9, h10, h11, h16, h17, h18, hcl, f1]
      · refine ⟨fun f2 => ?_, fun f2 => ?_⟩ <;> simp (disch := omega) only [↓stp, vls, inf, frs, mark_eq, ↓reduceIte, Nat.reduceEqDiff, ite_tt, ite_ff, eq_self, and_true, true_and, and_self, implies_true, Bool.true_eq_false, Bool.false_eq_true, decide_true, decide_false, decide_eq_true_eq, decide_eq_false_iff_not, ne_eq, not_true_eq_false, not_false_eq_true, Bool.not_eq_true', Bool.not_eq_false', beq_self_eq_true, Bool.not_true, Bool.not_false, List.getElem?_toArray, List.getElem?_cons_zero, List.getElem?_cons_succ, h0, h3, h5, h9, h10, h11, h16, h17, h18, hcl, f1, f2]
        · have g1 : 1 ≤ (xs[i]).2.1[j] := by omega
          have g2 : (xs[i]).2.1[j] ≤ 30 := by omega
          refine ⟨fun e3 => ?_, fun e3 => ?_⟩
          · have hj1 : j - 1 < (xs[i]).2.1.length := by omega
            obtain ⟨al', hal, hcp, _⟩ := huB.int hj1
            injection hal with hal
            subst hal
            have htn : ((j : Int) - 1).toNat = j - 1 := by omega
            have hgp : (xs[i]).2.1.getD (j - 1) 0 = (xs[i]).2.1[j - 1] := by simp [List.getD, hj1]
            replace hcp : B.cell (al.add ((j : Int) - 1).toNat) = some (.int .i64 ((xs[i]).2.1.getD (j - 1) 0)) := by rw [htn, hgp]; exact hcp
            simp (disch := omega) only [↓stp, vls, inf, frs, mark_eq, ↓reduceIte, Nat.reduceEqDiff, ite_tt, ite_ff, eq_self, and_true, true_and, and_self, implies_true, Bool.true_eq_false, Bool.false_eq_true, decide_true, decide_false, decide_eq_true_eq, decide_eq_false_iff_not, ne_eq, not_true_eq_false, not_false_eq_true, Bool.not_eq_true', Bool.not_eq_false', beq_self_eq_true, Bool.not_true, Bool.not_false, List.getElem?_toArray, List.getElem?_cons_zero, List.getElem?_cons_succ, h0, h3, h5, h9, h10, h11, h16, h17, h18, hcl, f1, f2, e3, hcp, add_at, k1]
            refine ⟨fun e4 => ?_, fun e4 => ?_⟩ <;> simp (disch := omega) only [↓stp, vls, inf, frs, mark_eq, ↓reduceIte, Nat.reduceEqDiff, ite_tt, ite_ff, eq_self, and_true, true_and, and_self, implies_true, Bool.true_eq_false, Bool.false_eq_true, decide_true, decide_false, decide_eq_true_eq, decide_eq_false_iff_not, ne_eq, not_true_eq_false, not_false_eq_true, Bool.not_eq_true', Bool.not_eq_false', beq_self_eq_true, Bool.not_true, Bool.not_false, List.getElem?_toArray, List.getElem?_cons_zero, List.getElem?_cons_succ, h0, h3, h5, h9, h10, h11, h16, h17, h18]
            · refine ⟨?_, hgB.ext⟩
              rw [coversB_no hlt (linesB_no hjl ?_)]
              unfold lineAt
              rw [hgd]
              have h1 : ¬ j = 0 := by omega
              have h2 : ¬ (xs[i]).2.1.getD (j - 1) 0 < (xs[i]).2.1[j] := by omega
              rw [decide_eq_false h1, decide_eq_false h2, Bool.or_false, Bool.and_false]
            · refine ⟨_, by omega, j + 1, by omega, rfl, range_all_succ hln ?_, rfl⟩
              unfold lineAt
              rw [hgd]
              have h2 : (xs[i]).2.1.getD (j - 1) 0 < (xs[i]).2.1[j] := by omega
              rw [decide_eq_true g1, decide_eq_true g2, decide_eq_true h2, Bool.or_true]; rfl
          · simp (disch := omega) only [↓stp, vls, inf, frs, mark_eq, ↓reduceIte, Nat.reduceEqDiff, ite_tt, ite_ff, eq_self, and_true, true_and, and_self, implies_true, Bool.true_eq_false, Bool.false_eq_true, decide_true, decide_false, decide_eq_true_eq, decide_eq_false_iff_not, ne_eq, not_true_eq_false, not_false_eq_true, Bool.not_eq_true', Bool.not_eq_false', beq_self_eq_true, Bool.not_true, Bool.not_false, List.getElem?_toArray, List.getElem?_cons_zero, List.getElem?_cons_succ, h0, h3, h5, h9, h10, h11, h16, h17, h18, hcl, f1, f2, e3]
            refine ⟨_, by omega, j + 1, by omega, rfl, range_all_succ hln ?_, rfl⟩
            have h1 : j = 0 := by omega
            unfold lineAt
            rw [hgd]
            rw [decide_eq_true g1, decide_eq_true g2, decide_eq_true h1]; rfl
        · refine ⟨?_, hgB.ext⟩
          rw [coversB_no hlt (linesB_no hjl ?_)]
          unfold lineAt
          rw [hgd, decide_eq_false (show ¬ (xs[i]).2.1[j] ≤ 30 by omega), Bool.and_false, Bool.false_and]
      · refine ⟨?_, hgB.ext⟩
        rw [coversB_no hlt (linesB_no hjl ?_)]
        unfold lineAt
        rw [hgd, decide_eq_false (show ¬ 1 ≤ (xs[i]).2.1[j] by omega), Bool.false_and, Bool.false_and]
    · simp (disch := omega) only [↓stp, vls, inf, frs, mark_eq, ↓reduceIte, Nat.reduceEqDiff, ite_tt, ite_ff, eq_self, and_true, true_and, and_self, implies_true, Bool.true_eq_false, Bool.false_eq_true, decide_true, decide_false, decide_eq_true_eq, decide_eq_false_iff_not, ne_eq, not_true_eq_false, not_false_eq_true, Bool.not_eq_true', Bool.not_eq_false', beq_self_eq_true, Bool.not_true, Bool.not_false, List.getElem?_toArray, List.getElem?_cons_zero, List.getElem?_cons_succ, h0, h3, h5, h9, h10, h11, h16, h17, h18, add_at, k0]
      have hj' : j = (xs[i]).2.1.length := by omega
      subst hj'
      refine alit_at (n := 1) li25 (by omega) rfl (by simp [Value.cells, Value.oneCell']) fun bm hbm => ?_
      generalize hC : B.set bm _ = C
      have hCl : C bm = some ⟨9, [.string (xs[i]).1], 1 * 1, true⟩ := by rw [← hC]; exact View.set_same ..
      have hCe : Ext B C := by rw [← hC]; exact Ext.new hbm _
      have hil : i = ((xs.take i).map (·.1)).length := by simp; omega
      simp (disch := omega) only [↓stp, vls, inf, frs, mark_eq, ↓reduceIte, Nat.reduceEqDiff, ite_tt, ite_ff, eq_self, and_true, true_and, and_self, implies_true, Bool.true_eq_false, Bool.false_eq_true, decide_true, decide_false, decide_eq_true_eq, decide_eq_false_iff_not, ne_eq, not_true_eq_false, not_false_eq_true, Bool.not_eq_true', Bool.not_eq_false', beq_self_eq_true, Bool.not_true, Bool.not_false, List.getElem?_toArray, List.getElem?_cons_zero, List.getElem?_cons_succ, h0, h3, h5, h9, h10, h11, h16, h17, h18]
      refine (hgB.mono hCe).app (asrc_lit hCl rfl) hil (by omega) hs fun b2 c2 A2 hg2 => ?_
      simp (disch := omega) only [↓stp, vls, inf, frs, mark_eq, ↓reduceIte, Nat.reduceEqDiff, ite_tt, ite_ff, eq_self, and_true, true_and, and_self, implies_true, Bool.true_eq_false, Bool.false_eq_true, decide_true, decide_false, decide_eq_true_eq, decide_eq_false_iff_not, ne_eq, not_true_eq_false, not_false_eq_true, Bool.not_eq_true', Bool.not_eq_false', beq_self_eq_true, Bool.not_true, Bool.not_false, List.getElem?_toArray, List.getElem?_cons_zero, List.getElem?_cons_succ, h0, h3, h5, h9, h10, h11, h16, h17, h18]
      refine ⟨_, by omega, i + 1, b2, c2, by omega, rfl, ?_, all_take (p := fun x => linesB x.2.1) hlt hall (show linesB (xs[i]).2.1 = true from hln), rfl, rfl⟩
      rw [List.take_succ_eq_append_getElem hlt, List.map_append]
      exact hg2
  · simp (disch := omega) only [↓stp, vls, inf, frs, mark_eq, ↓reduceIte, Nat.reduceEqDiff, ite_tt, ite_ff, eq_self, and_true, true_and, and_self, implies_true, Bool.true_eq_false, Bool.false_eq_true, decide_true, decide_false, decide_eq_true_eq, decide_eq_false_iff_not, ne_eq, not_true_eq_false, not_false_eq_true, Bool.not_eq_true', Bool.not_eq_false', beq_self_eq_true, Bool.not_true, Bool.not_false, List.getElem?_toArray, List.getElem?_cons_zero, List.getElem?_cons_succ, h0, h3, h9, h10, h11]
    have hi' : i = xs.length := by omega
    subst hi'
    rw [List.take_length] at hg hall
    have hlm : (xs.map (·.1)).length = xs.length := by simp
    refine (impl_idsOk_c A' _ _ (hg.sl hlm.symm (by omega))).mono ?_
    rintro _ A' ⟨rfl, rfl⟩
    simp (disch := omega) only [↓stp, vls, inf, frs, mark_eq, ↓reduceIte, Nat.reduceEqDiff, ite_tt, ite_ff, eq_self, and_true, true_and, and_self, implies_true, Bool.true_eq_false, Bool.false_eq_true, decide_true, decide_false, decide_eq_true_eq, decide_eq_false_iff_not, ne_eq, not_true_eq_false, not_false_eq_true, Bool.not_eq_true', Bool.not_eq_false', beq_self_eq_true, Bool.not_true, Bool.not_false, List.getElem?_toArray, List.getElem?_cons_zero, List.getElem?_cons_succ]
    refine ⟨?_, hg.ext⟩
    unfold coversB
    rw [hall, Bool.true_and]

end Go.Proofs.Ytaknlfkoomagoaa

