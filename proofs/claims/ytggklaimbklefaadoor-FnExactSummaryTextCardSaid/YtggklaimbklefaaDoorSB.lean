/- Summaries of reports: what the program and the reference write. -/
import Derived.Test.YtggklaimbklefaaDoorSA
set_option maxHeartbeats 4000000
set_option synthInstance.maxHeartbeats 400000
set_option synthInstance.maxSize 4096
set_option linter.unusedSimpArgs false
set_option linter.unusedVariables false
namespace Go.Proofs.YtggklaimbklefaaDoor

set_option maxRecDepth 100000

def wordO (k : Nat) : ByteArray := if k = 0 then ⟨#[112, 97, 115, 115]⟩ else if k = 1 then ⟨#[102, 97, 105, 108]⟩ else if k = 2 then ⟨#[101, 114, 114, 111, 114]⟩ else if k = 3 then ⟨#[115, 107, 105, 112]⟩ else if k = 4 then ⟨#[120, 102, 97, 105, 108]⟩ else ⟨#[120, 112, 97, 115, 115]⟩
theorem wordO_size (k : Nat) : (wordO k).size ≤ 5 := by
  unfold wordO
  split
  · decide
  · split
    · decide
    · split
      · decide
      · split
        · decide
        · split <;> decide
/-- What is told of one way to end. -/
def partO (xs : List ResultD) (k : Nat) : List ByteArray := if 0 < cntO xs k then [numB (cntO xs k) ++ ⟨#[32]⟩ ++ wordO k] else []
def partsTo (xs : List ResultD) (k : Nat) : List ByteArray := (List.range k).flatMap (partO xs)
def downO (n : Nat) : List ByteArray := if 0 < n then [numB n ++ ⟨#[32, 100, 111, 119, 110]⟩] else []
def partsR (x : ReportD) : List ByteArray := partsTo x.1 6 ++ downO x.2.1.length
def summR (x : ReportD) : ByteArray := if (partsR x).length = 0 then ⟨#[110, 111, 116, 104, 105, 110, 103]⟩ else Bt (joinA [44, 32] (partsR x))
theorem partsTo_succ (xs : List ResultD) (k : Nat) : partsTo xs (k + 1) = partsTo xs k ++ partO xs k := by
  unfold partsTo
  rw [List.range_succ, List.flatMap_append]
  simp
theorem part_size {xs : List ResultD} (h : xs.length ≤ 1048576) {k : Nat} : ∀ s ∈ partO xs k, s.size ≤ 30 := by
  intro s hs
  unfold partO at hs
  split at hs
  · rw [List.mem_singleton.1 hs, ByteArray.size_append, ByteArray.size_append]
    have h1 := numB_size (n := cntO xs k) (by have := cntO_le xs k; omega)
    have h2 := wordO_size k
    have h3 : (⟨#[32]⟩ : ByteArray).size = 1 := rfl
    omega
  · cases hs
theorem partO_len (xs : List ResultD) (k : Nat) : (partO xs k).length ≤ 1 := by
  unfold partO
  split <;> simp
theorem partsTo_len (xs : List ResultD) : ∀ k : Nat, (partsTo xs k).length ≤ k
  | 0 => by simp [partsTo]
  | k + 1 => by
    have h1 := partsTo_len xs k
    have h2 := partO_len xs k
    rw [partsTo_succ, List.length_append]
    omega
theorem downO_size {n : Nat} (h : n ≤ 1048576) : (downO n).length ≤ 1 ∧ ∀ s ∈ downO n, s.size ≤ 30 := by
  unfold downO
  split
  · refine ⟨by simp, fun s hs => ?_⟩
    rw [List.mem_singleton.1 hs, ByteArray.size_append]
    have h1 := numB_size (n := n) (by omega)
    have h3 : (⟨#[32, 100, 111, 119, 110]⟩ : ByteArray).size = 5 := rfl
    omega
  · exact ⟨by simp, fun s hs => by cases hs⟩
theorem partsR_small {x : ReportD} (h : x.1.length ≤ 1048576) (h2 : x.2.1.length ≤ 1048576) : (partsR x).length ≤ 7 ∧ (joinA [44, 32] (partsR x)).length ≤ 1000 := by
  have h3 := partsTo_len x.1 6
  obtain ⟨h4, h5⟩ := downO_size h2
  have hlen : (partsR x).length ≤ 7 := by
    unfold partsR
    rw [List.length_append]
    omega
  have hs : ∀ s ∈ partsR x, s.size ≤ 30 := by
    intro s hs
    unfold partsR at hs
    rcases List.mem_append.1 hs with hs | hs
    · unfold partsTo at hs
      obtain ⟨k, _, hk⟩ := List.mem_flatMap.1 hs
      exact part_size h s hk
    · exact h5 s hs
  refine ⟨hlen, ?_⟩
  generalize partsR x = ps at hlen hs
  have hl : lenS ps ≤ 30 * ps.length := by
    clear hlen
    unfold lenS
    induction ps with
    | nil => simp
    | cons p ps ih =>
      have h1 := hs p (List.mem_cons_self ..)
      have h2 := ih fun q hq => hs q (List.mem_cons_of_mem _ hq)
      rw [List.map_cons, List.sum_cons, List.length_cons]
      omega
  rw [joinA_len]
  have e : ([44, 32] : List UInt8).length = 2 := rfl
  rw [e]
  omega

theorem word_cell {W : View} {b room : Nat} {e : TypeId} {k : Nat} (hb : W b = some ⟨e, [.string (wordO 0), .string (wordO 1), .string (wordO 2), .string (wordO 3), .string (wordO 4), .string (wordO 5)], room, true⟩) (hk : k < 6) : W.cell ⟨b, 0 + k, none⟩ = some (.string (wordO k)) := by
  match k, hk with
  | 0, _ => exact View.cell_mk rfl hb rfl rfl
  | 1, _ => exact View.cell_mk rfl hb rfl rfl
  | 2, _ => exact View.cell_mk rfl hb rfl rfl
  | 3, _ => exact View.cell_mk rfl hb rfl rfl
  | 4, _ => exact View.cell_mk rfl hb rfl rfl
  | 5, _ => exact View.cell_mk rfl hb rfl rfl

theorem impl_outcomeWords_c (A : View) : ACalls Tryd.prog 17 #[] A fun r V => ∃ b, r = .slice (some ⟨b, 0, none⟩) 6 6 ∧ Led A [bx b ⟨9, [.string (wordO 0), .string (wordO 1), .string (wordO 2), .string (wordO 3), .string (wordO 4), .string (wordO 5)], 6, true⟩] V := by
  refine acalls Tryd.func17 rfl (by kernel_rfl) ?_
  simp (disch := omega) only [↓stq, amv_at, vls, inf, frs, mark_eq, ↓reduceIte, Nat.reduceEqDiff, ite_tt, ite_ff, eq_self, and_true, true_and, and_self, implies_true, Bool.true_eq_false, Bool.false_eq_true, decide_true, decide_false, decide_eq_true_eq, decide_eq_false_iff_not, ne_eq, not_true_eq_false, not_false_eq_true, Bool.not_eq_true', Bool.not_eq_false', beq_self_eq_true, Bool.not_true, Bool.not_false, List.getElem?_toArray, List.getElem?_cons_zero, List.getElem?_cons_succ]
  refine led_lit li23 (by omega) rfl (by simp [Value.cells, Value.oneCell']) (Led.nil A) fun b V _ l => ?_
  simp (disch := omega) only [↓stq, amv_at, vls, inf, frs, mark_eq, ↓reduceIte, Nat.reduceEqDiff, ite_tt, ite_ff, eq_self, and_true, true_and, and_self, implies_true, Bool.true_eq_false, Bool.false_eq_true, decide_true, decide_false, decide_eq_true_eq, decide_eq_false_iff_not, ne_eq, not_true_eq_false, not_false_eq_true, Bool.not_eq_true', Bool.not_eq_false', beq_self_eq_true, Bool.not_true, Bool.not_false, List.getElem?_toArray, List.getElem?_cons_zero, List.getElem?_cons_succ]
  exact ⟨b, rfl, l⟩

theorem spec_outcomeWords_c (A : View) : ACalls Tryd.prog 13 #[] A fun r V => ∃ b, r = .slice (some ⟨b, 0, none⟩) 6 6 ∧ Led A [bx b ⟨9, [.string (wordO 0), .string (wordO 1), .string (wordO 2), .string (wordO 3), .string (wordO 4), .string (wordO 5)], 6, true⟩] V := by
  refine acalls Tryd.func13 rfl (by kernel_rfl) ?_
  simp (disch := omega) only [↓stq, amv_at, vls, inf, frs, mark_eq, ↓reduceIte, Nat.reduceEqDiff, ite_tt, ite_ff, eq_self, and_true, true_and, and_self, implies_true, Bool.true_eq_false, Bool.false_eq_true, decide_true, decide_false, decide_eq_true_eq, decide_eq_false_iff_not, ne_eq, not_true_eq_false, not_false_eq_true, Bool.not_eq_true', Bool.not_eq_false', beq_self_eq_true, Bool.not_true, Bool.not_false, List.getElem?_toArray, List.getElem?_cons_zero, List.getElem?_cons_succ]
  refine led_lit li23 (by omega) rfl (by simp [Value.cells, Value.oneCell']) (Led.nil A) fun b V _ l => ?_
  simp (disch := omega) only [↓stq, amv_at, vls, inf, frs, mark_eq, ↓reduceIte, Nat.reduceEqDiff, ite_tt, ite_ff, eq_self, and_true, true_and, and_self, implies_true, Bool.true_eq_false, Bool.false_eq_true, decide_true, decide_false, decide_eq_true_eq, decide_eq_false_iff_not, ne_eq, not_true_eq_false, not_false_eq_true, Bool.not_eq_true', Bool.not_eq_false', beq_self_eq_true, Bool.not_true, Bool.not_false, List.getElem?_toArray, List.getElem?_cons_zero, List.getElem?_cons_succ]
  exact ⟨b, rfl, l⟩

theorem impl_SummaryText_c (A : View) (d : List Value) (x : ReportD) (h : reportS.rel A x d) (hr : x.1.length ≤ 1048576) (hd : x.2.1.length ≤ 1048576) (hT : TabV A) : ACalls Tryd.prog 7 #[.agg d.toArray] A fun r V => r = .string (summR x) ∧ Ext A V := by
  obtain ⟨u0, u1, rfl, g0, g1⟩ := reportS_open h
  obtain ⟨a0, c0, rfl, _, _⟩ := g0.slice
  obtain ⟨a1, c1, rfl, _, _⟩ := g1.slice
  obtain ⟨hpl, hpj⟩ := partsR_small hr hd
  refine acalls Tryd.func7 rfl (by kernel_rfl) ?_
  simp (disch := omega) only [↓stq, amv_at, vls, inf, frs, mark_eq, ↓reduceIte, Nat.reduceEqDiff, ite_tt, ite_ff, eq_self, and_true, true_and, and_self, implies_true, Bool.true_eq_false, Bool.false_eq_true, decide_true, decide_false, decide_eq_true_eq, decide_eq_false_iff_not, ne_eq, not_true_eq_false, not_false_eq_true, Bool.not_eq_true', Bool.not_eq_false', beq_self_eq_true, Bool.not_true, Bool.not_false, List.getElem?_toArray, List.getElem?_cons_zero, List.getElem?_cons_succ]
  refine led_box (Led.nil A) rfl fun q V _ l => ?_
  simp (disch := omega) only [↓stq, amv_at, vls, inf, frs, mark_eq, ↓reduceIte, Nat.reduceEqDiff, ite_tt, ite_ff, eq_self, and_true, true_and, and_self, implies_true, Bool.true_eq_false, Bool.false_eq_true, decide_true, decide_false, decide_eq_true_eq, decide_eq_false_iff_not, ne_eq, not_true_eq_false, not_false_eq_true, Bool.not_eq_true', Bool.not_eq_false', beq_self_eq_true, Bool.not_true, Bool.not_false, List.getElem?_toArray, List.getElem?_cons_zero, List.getElem?_cons_succ]
  refine led_lit0 (O := strO) li23 l fun b V _ l => ?_
  simp (disch := omega) only [↓stq, amv_at, vls, inf, frs, mark_eq, ↓reduceIte, Nat.reduceEqDiff, ite_tt, ite_ff, eq_self, and_true, true_and, and_self, implies_true, Bool.true_eq_false, Bool.false_eq_true, decide_true, decide_false, decide_eq_true_eq, decide_eq_false_iff_not, ne_eq, not_true_eq_false, not_false_eq_true, Bool.not_eq_true', Bool.not_eq_false', beq_self_eq_true, Bool.not_true, Bool.not_false, List.getElem?_toArray, List.getElem?_cons_zero, List.getElem?_cons_succ]
  refine (impl_outcomeWords_c V).mono ?_
  rintro _ V ⟨bw, rfl, lw⟩
  replace l := l.append lw
  clear lw
  simp (disch := omega) only [↓stq, amv_at, vls, inf, frs, mark_eq, ↓reduceIte, Nat.reduceEqDiff, ite_tt, ite_ff, eq_self, and_true, true_and, and_self, implies_true, Bool.true_eq_false, Bool.false_eq_true, decide_true, decide_false, decide_eq_true_eq, decide_eq_false_iff_not, ne_eq, not_true_eq_false, not_false_eq_true, Bool.not_eq_true', Bool.not_eq_false', beq_self_eq_true, Bool.not_true, Bool.not_false, List.getElem?_toArray, List.getElem?_cons_zero, List.getElem?_cons_succ]
  refine aloop (fun d fr V => ∃ (i : Nat) (fp : List Nat) (w : Value), i ≤ 6 ∧ d = 6 - i ∧ Led A [osl 9 strO fp w (partsTo x.1 i), bx q ⟨30, [.slice a0 x.1.length c0, .slice a1 x.2.1.length c1], 2, true⟩, bx bw ⟨9, [.string (wordO 0), .string (wordO 1), .string (wordO 2), .string (wordO 3), .string (wordO 4), .string (wordO 5)], 6, true⟩] V ∧ fr 1 = .pointer (some ⟨q, 0, none⟩) ∧ fr 3 = w ∧ fr 8 = .slice (some ⟨bw, 0, none⟩) 6 6 ∧ fr 9 = .int .i64 6 ∧ fr 10 = .int .i64 i) 6 ⟨0, [b], _, by omega, by omega, l.perm ((List.Perm.swap ..).trans ((List.Perm.swap ..).cons _)).symm, rfl, rfl, rfl, rfl, rfl⟩ ?_
  clear l
  rintro d fr V ⟨i, fp, w, hi, rfl, l, h1, h3, h8, h9, h10⟩
  have kp : V.part ⟨q, 0, none⟩ 2 = some [.slice a0 x.1.length c0, .slice a1 x.2.1.length c1] := l.partn (i := 1) rfl rfl (by simp [Value.oneCell'])
  simp (disch := omega) only [↓stq, amv_at, vls, inf, frs, mark_eq, ↓reduceIte, Nat.reduceEqDiff, ite_tt, ite_ff, eq_self, and_true, true_and, and_self, implies_true, Bool.true_eq_false, Bool.false_eq_true, decide_true, decide_false, decide_eq_true_eq, decide_eq_false_iff_not, ne_eq, not_true_eq_false, not_false_eq_true, Bool.not_eq_true', Bool.not_eq_false', beq_self_eq_true, Bool.not_true, Bool.not_false, List.getElem?_toArray, List.getElem?_cons_zero, List.getElem?_cons_succ, h1, h3, h8, h9, h10]
  refine ⟨fun e1 => ?_, fun e1 => ?_⟩
  · have hlt : i < 6 := by omega
    have hw := word_cell (k := i) (l.at (i := 2) rfl) hlt
    have hnx := partsTo_succ x.1 i
    have hpl2 := partsTo_len x.1 i
    have hwz := wordO_size i
    simp (disch := omega) only [↓stq, amv_at, vls, inf, frs, mark_eq, ↓reduceIte, Nat.reduceEqDiff, ite_tt, ite_ff, eq_self, and_true, true_and, and_self, implies_true, Bool.true_eq_false, Bool.false_eq_true, decide_true, decide_false, decide_eq_true_eq, decide_eq_false_iff_not, ne_eq, not_true_eq_false, not_false_eq_true, Bool.not_eq_true', Bool.not_eq_false', beq_self_eq_true, Bool.not_true, Bool.not_false, List.getElem?_toArray, List.getElem?_cons_zero, List.getElem?_cons_succ, h1, h3, h8, h9, h10, add_at, hw, kp]
    refine (impl_CountOutcome_c V _ x i (reportS_mk (g0.mono l.ext) (g1.mono l.ext)) (by omega)).mono ?_
    rintro _ V2 ⟨rfl, he2⟩
    replace l := l.step he2
    have hcl := cntO_le x.1 i
    by_cases hc : 0 < cntO x.1 i
    · have e2 : (0 < (cntO x.1 i : Int)) = True := eq_true (by omega)
      have hpo : partO x.1 i = [numB (cntO x.1 i) ++ ⟨#[32]⟩ ++ wordO i] := by unfold partO; rw [if_pos hc]
      simp (disch := omega) only [↓stq, amv_at, vls, inf, frs, mark_eq, ↓reduceIte, Nat.reduceEqDiff, ite_tt, ite_ff, eq_self, and_true, true_and, and_self, implies_true, Bool.true_eq_false, Bool.false_eq_true, decide_true, decide_false, decide_eq_true_eq, decide_eq_false_iff_not, ne_eq, not_true_eq_false, not_false_eq_true, Bool.not_eq_true', Bool.not_eq_false', beq_self_eq_true, Bool.not_true, Bool.not_false, List.getElem?_toArray, List.getElem?_cons_zero, List.getElem?_cons_succ, h1, h3, h8, h9, h10, e2]
      refine (itoa_c V2 _ (by omega) (hT.mono l.ext)).mono ?_
      rintro _ V3 ⟨rfl, he3⟩
      replace l := l.step he3
      have s0 := numB_size (n := cntO x.1 i) (by omega)
      have s9 : (⟨#[32]⟩ : ByteArray).size = 1 := rfl
      have s1 := ByteArray.size_append (a := numB (cntO x.1 i)) (b := ⟨#[32]⟩)
      have s2 := ByteArray.size_append (a := numB (cntO x.1 i) ++ ⟨#[32]⟩) (b := wordO i)
      simp (disch := omega) only [↓stq, amv_at, vls, inf, frs, mark_eq, ↓reduceIte, Nat.reduceEqDiff, ite_tt, ite_ff, eq_self, and_true, true_and, and_self, implies_true, Bool.true_eq_false, Bool.false_eq_true, decide_true, decide_false, decide_eq_true_eq, decide_eq_false_iff_not, ne_eq, not_true_eq_false, not_false_eq_true, Bool.not_eq_true', Bool.not_eq_false', beq_self_eq_true, Bool.not_true, Bool.not_false, List.getElem?_toArray, List.getElem?_cons_zero, List.getElem?_cons_succ, h1, h3, h8, h9, h10]
      refine led_lit li23 (by omega) rfl (fun p hp => by rcases List.mem_singleton.1 hp with rfl; exact ⟨rfl, rfl⟩) l fun bl V4 _ l => ?_
      simp (disch := omega) only [↓stq, amv_at, vls, inf, frs, mark_eq, ↓reduceIte, Nat.reduceEqDiff, ite_tt, ite_ff, eq_self, and_true, true_and, and_self, implies_true, Bool.true_eq_false, Bool.false_eq_true, decide_true, decide_false, decide_eq_true_eq, decide_eq_false_iff_not, ne_eq, not_true_eq_false, not_false_eq_true, Bool.not_eq_true', Bool.not_eq_false', beq_self_eq_true, Bool.not_true, Bool.not_false, List.getElem?_toArray, List.getElem?_cons_zero, List.getElem?_cons_succ, h1, h3, h8, h9, h10]
      refine led_app (O := strO) ap23_23 (by decide) l (i := 1) rfl (l.src1 (S := strS) (j := 0) (x := numB (cntO x.1 i) ++ ⟨#[32]⟩ ++ wordO i) rfl ⟨rfl, by omega⟩) (by rw [List.length_singleton]; omega) fun fp2 w2 V5 _ l => ?_
      simp (disch := omega) only [↓stq, amv_at, vls, inf, frs, mark_eq, ↓reduceIte, Nat.reduceEqDiff, ite_tt, ite_ff, eq_self, and_true, true_and, and_self, implies_true, Bool.true_eq_false, Bool.false_eq_true, decide_true, decide_false, decide_eq_true_eq, decide_eq_false_iff_not, ne_eq, not_true_eq_false, not_false_eq_true, Bool.not_eq_true', Bool.not_eq_false', beq_self_eq_true, Bool.not_true, Bool.not_false, List.getElem?_toArray, List.getElem?_cons_zero, List.getElem?_cons_succ, h1, h3, h8, h9, h10]
      refine ⟨_, by omega, i + 1, fp2, w2, by omega, rfl, ?_, rfl, rfl⟩
      rw [hnx, hpo]
      exact l.tail
    · have e2 : (0 < (cntO x.1 i : Int)) = False := eq_false (by omega)
      have hpo : partO x.1 i = [] := by unfold partO; rw [if_neg hc]
      simp (disch := omega) only [↓stq, amv_at, vls, inf, frs, mark_eq, ↓reduceIte, Nat.reduceEqDiff, ite_tt, ite_ff, eq_self, and_true, true_and, and_self, implies_true, Bool.true_eq_false, Bool.false_eq_true, decide_true, decide_false, decide_eq_true_eq, decide_eq_false_iff_not, ne_eq, not_true_eq_false, not_false_eq_true, Bool.not_eq_true', Bool.not_eq_false', beq_self_eq_true, Bool.not_true, Bool.not_false, List.getElem?_toArray, List.getElem?_cons_zero, List.getElem?_cons_succ, h1, h3, h8, h9, h10, e2]
      refine ⟨_, by omega, i + 1, fp, w, by omega, rfl, ?_, rfl, rfl⟩
      rw [hnx, hpo, List.append_nil]
      exact l
  · have hie : i = 6 := by omega
    subst hie
    have k1 := l.cell (i := 1) rfl (o := 1) rfl rfl
    have hpl2 := partsTo_len x.1 6
    by_cases hdn : 0 < x.2.1.length
    · have e2 : (0 < (x.2.1.length : Int)) = True := eq_true (by omega)
      have hdo : partsR x = partsTo x.1 6 ++ [numB x.2.1.length ++ ⟨#[32, 100, 111, 119, 110]⟩] := by unfold partsR downO; rw [if_pos hdn]
      simp (disch := omega) only [↓stq, amv_at, vls, inf, frs, mark_eq, ↓reduceIte, Nat.reduceEqDiff, ite_tt, ite_ff, eq_self, and_true, true_and, and_self, implies_true, Bool.true_eq_false, Bool.false_eq_true, decide_true, decide_false, decide_eq_true_eq, decide_eq_false_iff_not, ne_eq, not_true_eq_false, not_false_eq_true, Bool.not_eq_true', Bool.not_eq_false', beq_self_eq_true, Bool.not_true, Bool.not_false, List.getElem?_toArray, List.getElem?_cons_zero, List.getElem?_cons_succ, h1, h3, h8, h9, h10, add_at, k1, e2]
      refine (itoa_c V _ (by omega) (hT.mono l.ext)).mono ?_
      rintro _ V3 ⟨rfl, he3⟩
      replace l := l.step he3
      have s0 := numB_size (n := x.2.1.length) (by omega)
      have s9 : (⟨#[32, 100, 111, 119, 110]⟩ : ByteArray).size = 5 := rfl
      have s1 := ByteArray.size_append (a := numB x.2.1.length) (b := ⟨#[32, 100, 111, 119, 110]⟩)
      simp (disch := omega) only [↓stq, amv_at, vls, inf, frs, mark_eq, ↓reduceIte, Nat.reduceEqDiff, ite_tt, ite_ff, eq_self, and_true, true_and, and_self, implies_true, Bool.true_eq_false, Bool.false_eq_true, decide_true, decide_false, decide_eq_true_eq, decide_eq_false_iff_not, ne_eq, not_true_eq_false, not_false_eq_true, Bool.not_eq_true', Bool.not_eq_false', beq_self_eq_true, Bool.not_true, Bool.not_false, List.getElem?_toArray, List.getElem?_cons_zero, List.getElem?_cons_succ, h1, h3, h8, h9, h10]
      refine led_lit li23 (by omega) rfl (fun p hp => by rcases List.mem_singleton.1 hp with rfl; exact ⟨rfl, rfl⟩) l fun bl V4 _ l => ?_
      simp (disch := omega) only [↓stq, amv_at, vls, inf, frs, mark_eq, ↓reduceIte, Nat.reduceEqDiff, ite_tt, ite_ff, eq_self, and_true, true_and, and_self, implies_true, Bool.true_eq_false, Bool.false_eq_true, decide_true, decide_false, decide_eq_true_eq, decide_eq_false_iff_not, ne_eq, not_true_eq_false, not_false_eq_true, Bool.not_eq_true', Bool.not_eq_false', beq_self_eq_true, Bool.not_true, Bool.not_false, List.getElem?_toArray, List.getElem?_cons_zero, List.getElem?_cons_succ, h1, h3, h8, h9, h10]
      refine led_app (O := strO) ap23_23 (by decide) l (i := 1) rfl (l.src1 (S := strS) (j := 0) (x := numB x.2.1.length ++ ⟨#[32, 100, 111, 119, 110]⟩) rfl ⟨rfl, by omega⟩) (by rw [List.length_singleton]; omega) fun fp2 w2 V5 _ l => ?_
      obtain ⟨L5, l⟩ : ∃ L5, Led A (osl 9 strO fp2 w2 (partsR x) :: L5) V5 := ⟨_, by rw [hdo]; exact l.tail⟩
      have hS := OSl.toS (show OSl 9 strO V5 fp2 w2 (partsR x) from l.at (i := 0) rfl)
      obtain ⟨ap, cp, rfl, _⟩ := hS.slice
      have hne : (partsR x).length ≠ 0 := by rw [hdo]; simp
      have e3 : (((partsR x).length : Int) = 0) = False := eq_false (by omega)
      simp (disch := omega) only [↓stq, amv_at, vls, inf, frs, mark_eq, ↓reduceIte, Nat.reduceEqDiff, ite_tt, ite_ff, eq_self, and_true, true_and, and_self, implies_true, Bool.true_eq_false, Bool.false_eq_true, decide_true, decide_false, decide_eq_true_eq, decide_eq_false_iff_not, ne_eq, not_true_eq_false, not_false_eq_true, Bool.not_eq_true', Bool.not_eq_false', beq_self_eq_true, Bool.not_true, Bool.not_false, List.getElem?_toArray, List.getElem?_cons_zero, List.getElem?_cons_succ, h1, h3, h8, h9, h10, e3]
      refine (join_c V5 _ (partsR x) ⟨#[44, 32]⟩ hS (by decide) (by omega) (by show (joinA [44, 32] (partsR x)).length ≤ _; omega)).mono ?_
      rintro _ V6 ⟨rfl, he6⟩
      simp (disch := omega) only [↓stq, amv_at, vls, inf, frs, mark_eq, ↓reduceIte, Nat.reduceEqDiff, ite_tt, ite_ff, eq_self, and_true, true_and, and_self, implies_true, Bool.true_eq_false, Bool.false_eq_true, decide_true, decide_false, decide_eq_true_eq, decide_eq_false_iff_not, ne_eq, not_true_eq_false, not_false_eq_true, Bool.not_eq_true', Bool.not_eq_false', beq_self_eq_true, Bool.not_true, Bool.not_false, List.getElem?_toArray, List.getElem?_cons_zero, List.getElem?_cons_succ, h1, h3, h8, h9, h10]
      unfold summR
      rw [if_neg hne]
      exact ⟨rfl, l.ext.trans he6⟩
    · have e2 : (0 < (x.2.1.length : Int)) = False := eq_false (by omega)
      have hdo : partsR x = partsTo x.1 6 := by unfold partsR downO; rw [if_neg hdn, List.append_nil]
      rw [← hdo] at l
      have hS := OSl.toS (show OSl 9 strO V fp w (partsR x) from l.at (i := 0) rfl)
      obtain ⟨ap, cp, rfl, _⟩ := hS.slice
      unfold summR
      by_cases hne : (partsR x).length = 0
      · have e3 : (((partsR x).length : Int) = 0) = True := eq_true (by omega)
        simp (disch := omega) only [↓stq, amv_at, vls, inf, frs, mark_eq, ↓reduceIte, Nat.reduceEqDiff, ite_tt, ite_ff, eq_self, and_true, true_and, and_self, implies_true, Bool.true_eq_false, Bool.false_eq_true, decide_true, decide_false, decide_eq_true_eq, decide_eq_false_iff_not, ne_eq, not_true_eq_false, not_false_eq_true, Bool.not_eq_true', Bool.not_eq_false', beq_self_eq_true, Bool.not_true, Bool.not_false, List.getElem?_toArray, List.getElem?_cons_zero, List.getElem?_cons_succ, h1, h3, h8, h9, h10, add_at, k1, e2, e3]
        rw [if_pos hne]
        exact ⟨rfl, l.ext⟩
      · have e3 : (((partsR x).length : Int) = 0) = False := eq_false (by omega)
        simp (disch := omega) only [↓stq, amv_at, vls, inf, frs, mark_eq, ↓reduceIte, Nat.reduceEqDiff, ite_tt, ite_ff, eq_self, and_true, true_and, and_self, implies_true, Bool.true_eq_false, Bool.false_eq_true, decide_true, decide_false, decide_eq_true_eq, decide_eq_false_iff_not, ne_eq, not_true_eq_false, not_false_eq_true, Bool.not_eq_true', Bool.not_eq_false', beq_self_eq_true, Bool.not_true, Bool.not_false, List.getElem?_toArray, List.getElem?_cons_zero, List.getElem?_cons_succ, h1, h3, h8, h9, h10, add_at, k1, e2, e3]
        refine (join_c V _ (partsR x) ⟨#[44, 32]⟩ hS (by decide) (by omega) (by show (joinA [44, 32] (partsR x)).length ≤ _; omega)).mono ?_
        rintro _ V6 ⟨rfl, he6⟩
        simp (disch := omega) only [↓stq, amv_at, vls, inf, frs, mark_eq, ↓reduceIte, Nat.reduceEqDiff, ite_tt, ite_ff, eq_self, and_true, true_and, and_self, implies_true, Bool.true_eq_false, Bool.false_eq_true, decide_true, decide_false, decide_eq_true_eq, decide_eq_false_iff_not, ne_eq, not_true_eq_false, not_false_eq_true, Bool.not_eq_true', Bool.not_eq_false', beq_self_eq_true, Bool.not_true, Bool.not_false, List.getElem?_toArray, List.getElem?_cons_zero, List.getElem?_cons_succ, h1, h3, h8, h9, h10]
        rw [if_neg hne]
        exact ⟨rfl, l.ext.trans he6⟩

theorem spec_SummaryText_c (A : View) (d : List Value) (x : ReportD) (h : reportS.rel A x d) (hr : x.1.length ≤ 1048576) (hd : x.2.1.length ≤ 1048576) : ACalls Tryd.prog 5 #[.agg d.toArray] A fun r V => r = .string (summR x) ∧ Ext A V := by
  obtain ⟨u0, u1, rfl, g0, g1⟩ := reportS_open h
  obtain ⟨a0, c0, rfl, _, _⟩ := g0.slice
  obtain ⟨a1, c1, rfl, _, _⟩ := g1.slice
  obtain ⟨hpl, hpj⟩ := partsR_small hr hd
  refine acalls Tryd.func5 rfl (by kernel_rfl) ?_
  simp (disch := omega) only [↓stq, amv_at, vls, inf, frs, mark_eq, ↓reduceIte, Nat.reduceEqDiff, ite_tt, ite_ff, eq_self, and_true, true_and, and_self, implies_true, Bool.true_eq_false, Bool.false_eq_true, decide_true, decide_false, decide_eq_true_eq, decide_eq_false_iff_not, ne_eq, not_true_eq_false, not_false_eq_true, Bool.not_eq_true', Bool.not_eq_false', beq_self_eq_true, Bool.not_true, Bool.not_false, List.getElem?_toArray, List.getElem?_cons_zero, List.getElem?_cons_succ]
  refine led_box (Led.nil A) rfl fun q V _ l => ?_
  simp (disch := omega) only [↓stq, amv_at, vls, inf, frs, mark_eq, ↓reduceIte, Nat.reduceEqDiff, ite_tt, ite_ff, eq_self, and_true, true_and, and_self, implies_true, Bool.true_eq_false, Bool.false_eq_true, decide_true, decide_false, decide_eq_true_eq, decide_eq_false_iff_not, ne_eq, not_true_eq_false, not_false_eq_true, Bool.not_eq_true', Bool.not_eq_false', beq_self_eq_true, Bool.not_true, Bool.not_false, List.getElem?_toArray, List.getElem?_cons_zero, List.getElem?_cons_succ]
  refine led_lit0 (O := strO) li23 l fun b V _ l => ?_
  simp (disch := omega) only [↓stq, amv_at, vls, inf, frs, mark_eq, ↓reduceIte, Nat.reduceEqDiff, ite_tt, ite_ff, eq_self, and_true, true_and, and_self, implies_true, Bool.true_eq_false, Bool.false_eq_true, decide_true, decide_false, decide_eq_true_eq, decide_eq_false_iff_not, ne_eq, not_true_eq_false, not_false_eq_true, Bool.not_eq_true', Bool.not_eq_false', beq_self_eq_true, Bool.not_true, Bool.not_false, List.getElem?_toArray, List.getElem?_cons_zero, List.getElem?_cons_succ]
  refine aloop (fun d fr V => ∃ (i : Nat) (fp : List Nat) (w : Value), i ≤ 6 ∧ d = 6 - i ∧ Led A [osl 9 strO fp w (partsTo x.1 i), bx q ⟨30, [.slice a0 x.1.length c0, .slice a1 x.2.1.length c1], 2, true⟩] V ∧ fr 1 = .pointer (some ⟨q, 0, none⟩) ∧ fr 3 = w ∧ fr 4 = .int .i64 i) 6 ⟨0, [b], _, by omega, by omega, l, rfl, rfl, rfl⟩ ?_
  clear l
  rintro d fr V ⟨i, fp, w, hi, rfl, l, h1, h3, h4⟩
  have kp : V.part ⟨q, 0, none⟩ 2 = some [.slice a0 x.1.length c0, .slice a1 x.2.1.length c1] := l.partn (i := 1) rfl rfl (by simp [Value.oneCell'])
  simp (disch := omega) only [↓stq, amv_at, vls, inf, frs, mark_eq, ↓reduceIte, Nat.reduceEqDiff, ite_tt, ite_ff, eq_self, and_true, true_and, and_self, implies_true, Bool.true_eq_false, Bool.false_eq_true, decide_true, decide_false, decide_eq_true_eq, decide_eq_false_iff_not, ne_eq, not_true_eq_false, not_false_eq_true, Bool.not_eq_true', Bool.not_eq_false', beq_self_eq_true, Bool.not_true, Bool.not_false, List.getElem?_toArray, List.getElem?_cons_zero, List.getElem?_cons_succ, h1, h3, h4]
  refine ⟨fun e1 => ?_, fun e1 => ?_⟩
  · have hlt : i < 6 := by omega
    have hnx := partsTo_succ x.1 i
    have hpl2 := partsTo_len x.1 i
    have hwz := wordO_size i
    simp (disch := omega) only [↓stq, amv_at, vls, inf, frs, mark_eq, ↓reduceIte, Nat.reduceEqDiff, ite_tt, ite_ff, eq_self, and_true, true_and, and_self, implies_true, Bool.true_eq_false, Bool.false_eq_true, decide_true, decide_false, decide_eq_true_eq, decide_eq_false_iff_not, ne_eq, not_true_eq_false, not_false_eq_true, Bool.not_eq_true', Bool.not_eq_false', beq_self_eq_true, Bool.not_true, Bool.not_false, List.getElem?_toArray, List.getElem?_cons_zero, List.getElem?_cons_succ, h1, h3, h4, add_at, kp]
    refine (spec_CountOutcome_c V _ x i (reportS_mk (g0.mono l.ext) (g1.mono l.ext)) (by omega)).mono ?_
    rintro _ V2 ⟨rfl, he2⟩
    replace l := l.step he2
    have hcl := cntO_le x.1 i
    by_cases hc : 0 < cntO x.1 i
    · have e2 : (0 < (cntO x.1 i : Int)) = True := eq_true (by omega)
      have hpo : partO x.1 i = [numB (cntO x.1 i) ++ ⟨#[32]⟩ ++ wordO i] := by unfold partO; rw [if_pos hc]
      simp (disch := omega) only [↓stq, amv_at, vls, inf, frs, mark_eq, ↓reduceIte, Nat.reduceEqDiff, ite_tt, ite_ff, eq_self, and_true, true_and, and_self, implies_true, Bool.true_eq_false, Bool.false_eq_true, decide_true, decide_false, decide_eq_true_eq, decide_eq_false_iff_not, ne_eq, not_true_eq_false, not_false_eq_true, Bool.not_eq_true', Bool.not_eq_false', beq_self_eq_true, Bool.not_true, Bool.not_false, List.getElem?_toArray, List.getElem?_cons_zero, List.getElem?_cons_succ, h1, h3, h4, e2]
      refine (spec_number_c _ V2 (by omega)).mono ?_
      rintro _ V2 ⟨rfl, rfl⟩
      have s0 := numB_size (n := cntO x.1 i) (by omega)
      have s9 : (⟨#[32]⟩ : ByteArray).size = 1 := rfl
      have s1 := ByteArray.size_append (a := numB (cntO x.1 i)) (b := ⟨#[32]⟩)
      have s2 := ByteArray.size_append (a := numB (cntO x.1 i) ++ ⟨#[32]⟩) (b := wordO i)
      simp (disch := omega) only [↓stq, amv_at, vls, inf, frs, mark_eq, ↓reduceIte, Nat.reduceEqDiff, ite_tt, ite_ff, eq_self, and_true, true_and, and_self, implies_true, Bool.true_eq_false, Bool.false_eq_true, decide_true, decide_false, decide_eq_true_eq, decide_eq_false_iff_not, ne_eq, not_true_eq_false, not_false_eq_true, Bool.not_eq_true', Bool.not_eq_false', beq_self_eq_true, Bool.not_true, Bool.not_false, List.getElem?_toArray, List.getElem?_cons_zero, List.getElem?_cons_succ, h1, h3, h4]
      refine (spec_outcomeWords_c V2).mono ?_
      rintro _ V3 ⟨bw, rfl, lw⟩
      have hw := word_cell (k := i) (lw.at (i := 0) rfl) hlt
      replace l := l.append lw
      clear lw
      simp (disch := omega) only [↓stq, amv_at, vls, inf, frs, mark_eq, ↓reduceIte, Nat.reduceEqDiff, ite_tt, ite_ff, eq_self, and_true, true_and, and_self, implies_true, Bool.true_eq_false, Bool.false_eq_true, decide_true, decide_false, decide_eq_true_eq, decide_eq_false_iff_not, ne_eq, not_true_eq_false, not_false_eq_true, Bool.not_eq_true', Bool.not_eq_false', beq_self_eq_true, Bool.not_true, Bool.not_false, List.getElem?_toArray, List.getElem?_cons_zero, List.getElem?_cons_succ, h1, h3, h4, add_at, hw]
      refine led_lit li23 (by omega) rfl (fun p hp => by rcases List.mem_singleton.1 hp with rfl; exact ⟨rfl, rfl⟩) l fun bl V4 _ l => ?_
      simp (disch := omega) only [↓stq, amv_at, vls, inf, frs, mark_eq, ↓reduceIte, Nat.reduceEqDiff, ite_tt, ite_ff, eq_self, and_true, true_and, and_self, implies_true, Bool.true_eq_false, Bool.false_eq_true, decide_true, decide_false, decide_eq_true_eq, decide_eq_false_iff_not, ne_eq, not_true_eq_false, not_false_eq_true, Bool.not_eq_true', Bool.not_eq_false', beq_self_eq_true, Bool.not_true, Bool.not_false, List.getElem?_toArray, List.getElem?_cons_zero, List.getElem?_cons_succ, h1, h3, h4]
      refine led_app (O := strO) ap23_23 (by decide) l (i := 2) rfl (l.src1 (S := strS) (j := 0) (x := numB (cntO x.1 i) ++ ⟨#[32]⟩ ++ wordO i) rfl ⟨rfl, by omega⟩) (by rw [List.length_singleton]; omega) fun fp2 w2 V5 _ l => ?_
      simp (disch := omega) only [↓stq, amv_at, vls, inf, frs, mark_eq, ↓reduceIte, Nat.reduceEqDiff, ite_tt, ite_ff, eq_self, and_true, true_and, and_self, implies_true, Bool.true_eq_false, Bool.false_eq_true, decide_true, decide_false, decide_eq_true_eq, decide_eq_false_iff_not, ne_eq, not_true_eq_false, not_false_eq_true, Bool.not_eq_true', Bool.not_eq_false', beq_self_eq_true, Bool.not_true, Bool.not_false, List.getElem?_toArray, List.getElem?_cons_zero, List.getElem?_cons_succ, h1, h3, h4]
      refine ⟨_, by omega, i + 1, fp2, w2, by omega, rfl, ?_, rfl, rfl⟩
      rw [hnx, hpo]
      exact l.tail.tail
    · have e2 : (0 < (cntO x.1 i : Int)) = False := eq_false (by omega)
      have hpo : partO x.1 i = [] := by unfold partO; rw [if_neg hc]
      simp (disch := omega) only [↓stq, amv_at, vls, inf, frs, mark_eq, ↓reduceIte, Nat.reduceEqDiff, ite_tt, ite_ff, eq_self, and_true, true_and, and_self, implies_true, Bool.true_eq_false, Bool.false_eq_true, decide_true, decide_false, decide_eq_true_eq, decide_eq_false_iff_not, ne_eq, not_true_eq_false, not_false_eq_true, Bool.not_eq_true', Bool.not_eq_false', beq_self_eq_true, Bool.not_true, Bool.not_false, List.getElem?_toArray, List.getElem?_cons_zero, List.getElem?_cons_succ, h1, h3, h4, e2]
      refine ⟨_, by omega, i + 1, fp, w, by omega, rfl, ?_, rfl, rfl⟩
      rw [hnx, hpo, List.append_nil]
      exact l
  · have hie : i = 6 := by omega
    subst hie
    have k1 := l.cell (i := 1) rfl (o := 1) rfl rfl
    have hpl2 := partsTo_len x.1 6
    by_cases hdn : 0 < x.2.1.length
    · have e2 : (0 < (x.2.1.length : Int)) = True := eq_true (by omega)
      have hdo : partsR x = partsTo x.1 6 ++ [numB x.2.1.length ++ ⟨#[32, 100, 111, 119, 110]⟩] := by unfold partsR downO; rw [if_pos hdn]
      simp (disch := omega) only [↓stq, amv_at, vls, inf, frs, mark_eq, ↓reduceIte, Nat.reduceEqDiff, ite_tt, ite_ff, eq_self, and_true, true_and, and_self, implies_true, Bool.true_eq_false, Bool.false_eq_true, decide_true, decide_false, decide_eq_true_eq, decide_eq_false_iff_not, ne_eq, not_true_eq_false, not_false_eq_true, Bool.not_eq_true', Bool.not_eq_false', beq_self_eq_true, Bool.not_true, Bool.not_false, List.getElem?_toArray, List.getElem?_cons_zero, List.getElem?_cons_succ, h1, h3, h4, add_at, k1, e2]
      refine (spec_number_c _ V (by omega)).mono ?_
      rintro _ V ⟨rfl, rfl⟩
      have s0 := numB_size (n := x.2.1.length) (by omega)
      have s9 : (⟨#[32, 100, 111, 119, 110]⟩ : ByteArray).size = 5 := rfl
      have s1 := ByteArray.size_append (a := numB x.2.1.length) (b := ⟨#[32, 100, 111, 119, 110]⟩)
      simp (disch := omega) only [↓stq, amv_at, vls, inf, frs, mark_eq, ↓reduceIte, Nat.reduceEqDiff, ite_tt, ite_ff, eq_self, and_true, true_and, and_self, implies_true, Bool.true_eq_false, Bool.false_eq_true, decide_true, decide_false, decide_eq_true_eq, decide_eq_false_iff_not, ne_eq, not_true_eq_false, not_false_eq_true, Bool.not_eq_true', Bool.not_eq_false', beq_self_eq_true, Bool.not_true, Bool.not_false, List.getElem?_toArray, List.getElem?_cons_zero, List.getElem?_cons_succ, h1, h3, h4]
      refine led_lit li23 (by omega) rfl (fun p hp => by rcases List.mem_singleton.1 hp with rfl; exact ⟨rfl, rfl⟩) l fun bl V4 _ l => ?_
      simp (disch := omega) only [↓stq, amv_at, vls, inf, frs, mark_eq, ↓reduceIte, Nat.reduceEqDiff, ite_tt, ite_ff, eq_self, and_true, true_and, and_self, implies_true, Bool.true_eq_false, Bool.false_eq_true, decide_true, decide_false, decide_eq_true_eq, decide_eq_false_iff_not, ne_eq, not_true_eq_false, not_false_eq_true, Bool.not_eq_true', Bool.not_eq_false', beq_self_eq_true, Bool.not_true, Bool.not_false, List.getElem?_toArray, List.getElem?_cons_zero, List.getElem?_cons_succ, h1, h3, h4]
      refine led_app (O := strO) ap23_23 (by decide) l (i := 1) rfl (l.src1 (S := strS) (j := 0) (x := numB x.2.1.length ++ ⟨#[32, 100, 111, 119, 110]⟩) rfl ⟨rfl, by omega⟩) (by rw [List.length_singleton]; omega) fun fp2 w2 V5 _ l => ?_
      obtain ⟨L5, l⟩ : ∃ L5, Led A (osl 9 strO fp2 w2 (partsR x) :: L5) V5 := ⟨_, by rw [hdo]; exact l.tail⟩
      have hS := OSl.toS (show OSl 9 strO V5 fp2 w2 (partsR x) from l.at (i := 0) rfl)
      obtain ⟨ap, cp, rfl, _⟩ := hS.slice
      have hne : (partsR x).length ≠ 0 := by rw [hdo]; simp
      have e3 : (((partsR x).length : Int) = 0) = False := eq_false (by omega)
      simp (disch := omega) only [↓stq, amv_at, vls, inf, frs, mark_eq, ↓reduceIte, Nat.reduceEqDiff, ite_tt, ite_ff, eq_self, and_true, true_and, and_self, implies_true, Bool.true_eq_false, Bool.false_eq_true, decide_true, decide_false, decide_eq_true_eq, decide_eq_false_iff_not, ne_eq, not_true_eq_false, not_false_eq_true, Bool.not_eq_true', Bool.not_eq_false', beq_self_eq_true, Bool.not_true, Bool.not_false, List.getElem?_toArray, List.getElem?_cons_zero, List.getElem?_cons_succ, h1, h3, h4, e3]
      refine (joinWith_c V5 _ (partsR x) ⟨#[44, 32]⟩ hS (by show (joinA [44, 32] (partsR x)).length ≤ _; omega)).mono ?_
      rintro _ V5 ⟨rfl, rfl⟩
      simp (disch := omega) only [↓stq, amv_at, vls, inf, frs, mark_eq, ↓reduceIte, Nat.reduceEqDiff, ite_tt, ite_ff, eq_self, and_true, true_and, and_self, implies_true, Bool.true_eq_false, Bool.false_eq_true, decide_true, decide_false, decide_eq_true_eq, decide_eq_false_iff_not, ne_eq, not_true_eq_false, not_false_eq_true, Bool.not_eq_true', Bool.not_eq_false', beq_self_eq_true, Bool.not_true, Bool.not_false, List.getElem?_toArray, List.getElem?_cons_zero, List.getElem?_cons_succ, h1, h3, h4]
      unfold summR
      rw [if_neg hne]
      exact ⟨rfl, l.ext⟩
    · have e2 : (0 < (x.2.1.length : Int)) = False := eq_false (by omega)
      have hdo : partsR x = partsTo x.1 6 := by unfold partsR downO; rw [if_neg hdn, List.append_nil]
      rw [← hdo] at l
      have hS := OSl.toS (show OSl 9 strO V fp w (partsR x) from l.at (i := 0) rfl)
      obtain ⟨ap, cp, rfl, _⟩ := hS.slice
      unfold summR
      by_cases hne : (partsR x).length = 0
      · have e3 : (((partsR x).length : Int) = 0) = True := eq_true (by omega)
        simp (disch := omega) only [↓stq, amv_at, vls, inf, frs, mark_eq, ↓reduceIte, Nat.reduceEqDiff, ite_tt, ite_ff, eq_self, and_true, true_and, and_self, implies_true, Bool.true_eq_false, Bool.false_eq_true, decide_true, decide_false, decide_eq_true_eq, decide_eq_false_iff_not, ne_eq, not_true_eq_false, not_false_eq_true, Bool.not_eq_true', Bool.not_eq_false', beq_self_eq_true, Bool.not_true, Bool.not_false, List.getElem?_toArray, List.getElem?_cons_zero, List.getElem?_cons_succ, h1, h3, h4, add_at, k1, e2, e3]
        rw [if_pos hne]
        exact ⟨rfl, l.ext⟩
      · have e3 : (((partsR x).length : Int) = 0) = False := eq_false (by omega)
        simp (disch := omega) only [↓stq, amv_at, vls, inf, frs, mark_eq, ↓reduceIte, Nat.reduceEqDiff, ite_tt, ite_ff, eq_self, and_true, true_and, and_self, implies_true, Bool.true_eq_false, Bool.false_eq_true, decide_true, decide_false, decide_eq_true_eq, decide_eq_false_iff_not, ne_eq, not_true_eq_false, not_false_eq_true, Bool.not_eq_true', Bool.not_eq_false', beq_self_eq_true, Bool.not_true, Bool.not_false, List.getElem?_toArray, List.getElem?_cons_zero, List.getElem?_cons_succ, h1, h3, h4, add_at, k1, e2, e3]
        refine (joinWith_c V _ (partsR x) ⟨#[44, 32]⟩ hS (by show (joinA [44, 32] (partsR x)).length ≤ _; omega)).mono ?_
        rintro _ V ⟨rfl, rfl⟩
        simp (disch := omega) only [↓stq, amv_at, vls, inf, frs, mark_eq, ↓reduceIte, Nat.reduceEqDiff, ite_tt, ite_ff, eq_self, and_true, true_and, and_self, implies_true, Bool.true_eq_false, Bool.false_eq_true, decide_true, decide_false, decide_eq_true_eq, decide_eq_false_iff_not, ne_eq, not_true_eq_false, not_false_eq_true, Bool.not_eq_true', Bool.not_eq_false', beq_self_eq_true, Bool.not_true, Bool.not_false, List.getElem?_toArray, List.getElem?_cons_zero, List.getElem?_cons_succ, h1, h3, h4]
        rw [if_neg hne]
        exact ⟨rfl, l.ext⟩

end Go.Proofs.YtggklaimbklefaaDoor

