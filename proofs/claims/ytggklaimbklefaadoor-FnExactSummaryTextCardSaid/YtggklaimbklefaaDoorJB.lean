/- strings.Join, and the reference's own. -/
import Derived.Test.YtggklaimbklefaaDoorJA
import Derived.Test.YtggklaimbklefaaDoorBT
set_option maxHeartbeats 4000000
set_option synthInstance.maxHeartbeats 400000
set_option synthInstance.maxSize 4096
set_option linter.unusedSimpArgs false
set_option linter.unusedVariables false
namespace Go.Proofs.YtggklaimbklefaaDoor

set_option maxRecDepth 100000

/-- Texts one behind the other, with something between two of them. -/
def joinA (sep : List UInt8) : List ByteArray → List UInt8
  | [] => []
  | x :: xs => x.data.toList ++ xs.flatMap fun y => sep ++ y.data.toList
theorem joinA_cons (sep : List UInt8) (x : ByteArray) (xs : List ByteArray) : joinA sep (x :: xs) = x.data.toList ++ xs.flatMap fun y => sep ++ y.data.toList := rfl
theorem joinA_one (sep : List UInt8) {xs : List ByteArray} (h : 0 < xs.length) : joinA sep (xs.take 1) = (xs[0]).data.toList := by
  cases xs with
  | nil => cases h
  | cons x xs => simp [joinA]
theorem joinA_take (sep : List UInt8) {xs : List ByteArray} {i : Nat} (hi : i < xs.length) (h0 : 0 < i) : joinA sep (xs.take (i + 1)) = joinA sep (xs.take i) ++ (sep ++ (xs[i]).data.toList) := by
  cases xs with
  | nil => cases hi
  | cons x xs =>
    obtain ⟨j, rfl⟩ : ∃ j, i = j + 1 := ⟨i - 1, by omega⟩
    have hj : j < xs.length := by simpa using hi
    rw [List.take_succ_cons, List.take_succ_cons, List.take_succ_eq_append_getElem hj]
    rw [joinA_cons, joinA_cons, List.flatMap_append, List.getElem_cons_succ]
    simp only [List.flatMap_cons, List.flatMap_nil, List.append_nil, List.append_assoc]
theorem joinA_le (sep : List UInt8) (xs : List ByteArray) (i : Nat) : (joinA sep (xs.take i)).length ≤ (joinA sep xs).length := by
  cases xs with
  | nil => simp
  | cons x xs =>
    cases i with
    | zero => simp [joinA]
    | succ i =>
      rw [List.take_succ_cons]
      unfold joinA
      conv => rhs; rw [← List.take_append_drop i xs]
      simp only [List.flatMap_append, List.length_append]
      omega
/-- How many bytes the texts have. -/
def lenS (xs : List ByteArray) : Nat := (xs.map (·.size)).sum
theorem lenS_take {xs : List ByteArray} {i : Nat} (hi : i < xs.length) : lenS (xs.take (i + 1)) = lenS (xs.take i) + (xs[i]).size := by
  unfold lenS
  rw [List.take_succ_eq_append_getElem hi, List.map_append, List.sum_append]
  simp only [List.map_cons, List.map_nil, List.sum_cons, List.sum_nil, Nat.add_zero]
theorem lenS_le (xs : List ByteArray) (i : Nat) : lenS (xs.take i) ≤ lenS xs := by
  unfold lenS
  conv => rhs; rw [← List.take_append_drop i xs]
  rw [List.map_append, List.sum_append]
  omega
theorem dsize (s : ByteArray) : s.data.toList.length = s.size := by rw [Array.length_toList]; rfl
theorem joinA_len (sep : List UInt8) : ∀ xs : List ByteArray, (joinA sep xs).length = lenS xs + (xs.length - 1) * sep.length
  | [] => by simp [joinA, lenS]
  | x :: xs => by
    have key : ∀ xs : List ByteArray, (xs.flatMap fun y => sep ++ y.data.toList).length = lenS xs + xs.length * sep.length := by
      intro xs
      induction xs with
      | nil => simp [lenS]
      | cons y ys ih =>
        rw [List.flatMap_cons, List.length_append, ih, List.length_append, dsize]
        unfold lenS
        rw [List.map_cons, List.sum_cons, List.length_cons, Nat.add_mul]
        omega
    unfold joinA
    rw [List.length_append, key, dsize]
    unfold lenS
    rw [List.map_cons, List.sum_cons, List.length_cons, Nat.add_sub_cancel]
    omega

theorem joinWith_c (A : View) (v : Value) (xs : List ByteArray) (sep : ByteArray) (h : Sl strS A v xs) (hsm : (joinA sep.data.toList xs).length ≤ 16777216) : ACalls Tryd.prog 14 #[v, .string sep] A fun r V => r = .string (Bt (joinA sep.data.toList xs)) ∧ V = A := by
  obtain ⟨a, c, rfl, _, hl⟩ := h.slice
  have hsl := dsize sep
  refine acalls Tryd.func14 rfl (by kernel_rfl) ?_
  simp (disch := omega) only [↓stq, amv_at, vls, inf, frs, mark_eq, ↓reduceIte, Nat.reduceEqDiff, ite_tt, ite_ff, eq_self, and_true, true_and, and_self, implies_true, Bool.true_eq_false, Bool.false_eq_true, decide_true, decide_false, decide_eq_true_eq, decide_eq_false_iff_not, ne_eq, not_true_eq_false, not_false_eq_true, Bool.not_eq_true', Bool.not_eq_false', beq_self_eq_true, Bool.not_true, Bool.not_false, List.getElem?_toArray, List.getElem?_cons_zero, List.getElem?_cons_succ]
  refine aloop (fun d fr V => ∃ i : Nat, i ≤ xs.length ∧ d = xs.length - i ∧ V = A ∧ fr 0 = .slice a xs.length c ∧ fr 1 = .string sep ∧ fr 5 = .string (Bt (joinA sep.data.toList (xs.take i))) ∧ fr 6 = .int .i64 i) xs.length ⟨0, by omega, by omega, rfl, by rfl, by rfl, by rfl, by rfl⟩ ?_
  rintro d fr V ⟨i, hi, rfl, rfl, h0, h1, h5, h6⟩
  simp (disch := omega) only [↓stq, amv_at, vls, inf, frs, mark_eq, ↓reduceIte, Nat.reduceEqDiff, ite_tt, ite_ff, eq_self, and_true, true_and, and_self, implies_true, Bool.true_eq_false, Bool.false_eq_true, decide_true, decide_false, decide_eq_true_eq, decide_eq_false_iff_not, ne_eq, not_true_eq_false, not_false_eq_true, Bool.not_eq_true', Bool.not_eq_false', beq_self_eq_true, Bool.not_true, Bool.not_false, List.getElem?_toArray, List.getElem?_cons_zero, List.getElem?_cons_succ, h0, h1, h5, h6]
  refine ⟨fun e1 => ?_, fun e1 => ?_⟩
  · have hlt : i < xs.length := by omega
    obtain ⟨ad, rfl, hcl, _⟩ := h.str hlt
    have hle := joinA_le sep.data.toList xs (i + 1)
    have hbs := Bt_size (joinA sep.data.toList (xs.take i))
    have hxz := dsize xs[i]
    by_cases hi0 : 0 < i
    · have hj := joinA_take sep.data.toList hlt hi0
      rw [hj, List.length_append, List.length_append] at hle
      have e2 : (0 < (i : Int)) = True := eq_true (by omega)
      have s1 := ByteArray.size_append (a := Bt (joinA sep.data.toList (xs.take i))) (b := sep)
      simp (disch := omega) only [↓stq, amv_at, vls, inf, frs, mark_eq, ↓reduceIte, Nat.reduceEqDiff, ite_tt, ite_ff, eq_self, and_true, true_and, and_self, implies_true, Bool.true_eq_false, Bool.false_eq_true, decide_true, decide_false, decide_eq_true_eq, decide_eq_false_iff_not, ne_eq, not_true_eq_false, not_false_eq_true, Bool.not_eq_true', Bool.not_eq_false', beq_self_eq_true, Bool.not_true, Bool.not_false, List.getElem?_toArray, List.getElem?_cons_zero, List.getElem?_cons_succ, h0, h1, h5, h6, e2]
      simp (disch := omega) only [↓stq, amv_at, vls, inf, frs, mark_eq, ↓reduceIte, Nat.reduceEqDiff, ite_tt, ite_ff, eq_self, and_true, true_and, and_self, implies_true, Bool.true_eq_false, Bool.false_eq_true, decide_true, decide_false, decide_eq_true_eq, decide_eq_false_iff_not, ne_eq, not_true_eq_false, not_false_eq_true, Bool.not_eq_true', Bool.not_eq_false', beq_self_eq_true, Bool.not_true, Bool.not_false, List.getElem?_toArray, List.getElem?_cons_zero, List.getElem?_cons_succ, h0, h1, h5, h6, hcl]
      refine ⟨_, by omega, i + 1, by omega, rfl, ?_⟩
      rw [hj]
      refine ⟨congrArg Value.string (ByteArray.ext ?_), rfl⟩
      simp [Bt]
    · have hie : i = 0 := by omega
      subst hie
      have hj := joinA_one sep.data.toList (xs := xs) (by omega)
      rw [Nat.zero_add, hj] at hle
      have e2 : (0 < ((0 : Nat) : Int)) = False := eq_false (by omega)
      have hb0 : (Bt (joinA sep.data.toList (xs.take 0))).size = 0 := rfl
      simp (disch := omega) only [↓stq, amv_at, vls, inf, frs, mark_eq, ↓reduceIte, Nat.reduceEqDiff, ite_tt, ite_ff, eq_self, and_true, true_and, and_self, implies_true, Bool.true_eq_false, Bool.false_eq_true, decide_true, decide_false, decide_eq_true_eq, decide_eq_false_iff_not, ne_eq, not_true_eq_false, not_false_eq_true, Bool.not_eq_true', Bool.not_eq_false', beq_self_eq_true, Bool.not_true, Bool.not_false, List.getElem?_toArray, List.getElem?_cons_zero, List.getElem?_cons_succ, h0, h1, h5, h6, e2]
      simp (disch := omega) only [↓stq, amv_at, vls, inf, frs, mark_eq, ↓reduceIte, Nat.reduceEqDiff, ite_tt, ite_ff, eq_self, and_true, true_and, and_self, implies_true, Bool.true_eq_false, Bool.false_eq_true, decide_true, decide_false, decide_eq_true_eq, decide_eq_false_iff_not, ne_eq, not_true_eq_false, not_false_eq_true, Bool.not_eq_true', Bool.not_eq_false', beq_self_eq_true, Bool.not_true, Bool.not_false, List.getElem?_toArray, List.getElem?_cons_zero, List.getElem?_cons_succ, h0, h1, h5, h6, hcl]
      refine ⟨_, by omega, 0 + 1, by omega, rfl, ?_⟩
      rw [Nat.zero_add, hj]
      refine ⟨congrArg Value.string (ByteArray.ext ?_), rfl⟩
      simp [Bt, joinA]
  · have hie : i = xs.length := by omega
    subst hie
    rw [List.take_length] at h5
    simp (disch := omega) only [↓stq, amv_at, vls, inf, frs, mark_eq, ↓reduceIte, Nat.reduceEqDiff, ite_tt, ite_ff, eq_self, and_true, true_and, and_self, implies_true, Bool.true_eq_false, Bool.false_eq_true, decide_true, decide_false, decide_eq_true_eq, decide_eq_false_iff_not, ne_eq, not_true_eq_false, not_false_eq_true, Bool.not_eq_true', Bool.not_eq_false', beq_self_eq_true, Bool.not_true, Bool.not_false, List.getElem?_toArray, List.getElem?_cons_zero, List.getElem?_cons_succ, h0, h1, h5, h6]

theorem join_c (A : View) (v : Value) (xs : List ByteArray) (sep : ByteArray) (h : Sl strS A v xs) (hsep : 0 < sep.size ∧ sep.size ≤ 16) (hx : xs.length ≤ 1048577) (hsm : (joinA sep.data.toList xs).length ≤ 16777216) :
    ACalls Tryd.prog 20 #[v, .string sep] A fun r V => r = .string (Bt (joinA sep.data.toList xs)) ∧ Ext A V := by
  obtain ⟨a, c, rfl, hc, hl⟩ := h.slice
  have hsl := dsize sep
  have hlen := joinA_len sep.data.toList xs
  rw [hsl] at hlen
  refine acalls Tryd.func20 rfl (by kernel_rfl) ?_
  simp (disch := omega) only [↓stq, amv_at, vls, inf, frs, mark_eq, ↓reduceIte, Nat.reduceEqDiff, ite_tt, ite_ff, eq_self, and_true, true_and, and_self, implies_true, Bool.true_eq_false, Bool.false_eq_true, decide_true, decide_false, decide_eq_true_eq, decide_eq_false_iff_not, ne_eq, not_true_eq_false, not_false_eq_true, Bool.not_eq_true', Bool.not_eq_false', beq_self_eq_true, Bool.not_true, Bool.not_false, List.getElem?_toArray, List.getElem?_cons_zero, List.getElem?_cons_succ]
  by_cases h0 : xs.length = 0
  · have e0 : ((xs.length : Int) = 0) = True := eq_true (by omega)
    have hxs : xs = [] := List.eq_nil_of_length_eq_zero h0
    simp (disch := omega) only [↓stq, amv_at, vls, inf, frs, mark_eq, ↓reduceIte, Nat.reduceEqDiff, ite_tt, ite_ff, eq_self, and_true, true_and, and_self, implies_true, Bool.true_eq_false, Bool.false_eq_true, decide_true, decide_false, decide_eq_true_eq, decide_eq_false_iff_not, ne_eq, not_true_eq_false, not_false_eq_true, Bool.not_eq_true', Bool.not_eq_false', beq_self_eq_true, Bool.not_true, Bool.not_false, List.getElem?_toArray, List.getElem?_cons_zero, List.getElem?_cons_succ, e0]
    rw [hxs]
    exact ⟨rfl, Ext.refl _⟩
  have e0 : ((xs.length : Int) = 0) = False := eq_false (by omega)
  by_cases h1 : xs.length = 1
  · have e1 : ((xs.length : Int) = 1) = True := eq_true (by omega)
    obtain ⟨ad, rfl, hcl, _⟩ := h.str (i := 0) (by omega)
    replace hcl : A.cell (ad.add (Int.toNat 0)) = some (.string xs[0]) := hcl
    simp (disch := omega) only [↓stq, amv_at, vls, inf, frs, mark_eq, ↓reduceIte, Nat.reduceEqDiff, ite_tt, ite_ff, eq_self, and_true, true_and, and_self, implies_true, Bool.true_eq_false, Bool.false_eq_true, decide_true, decide_false, decide_eq_true_eq, decide_eq_false_iff_not, ne_eq, not_true_eq_false, not_false_eq_true, Bool.not_eq_true', Bool.not_eq_false', beq_self_eq_true, Bool.not_true, Bool.not_false, List.getElem?_toArray, List.getElem?_cons_zero, List.getElem?_cons_succ, e0, e1, hcl]
    have hj := joinA_one sep.data.toList (xs := xs) (by omega)
    rw [List.take_of_length_le (by omega)] at hj
    rw [hj, Bt_of]
    exact ⟨rfl, Ext.refl _⟩
  have e1 : ((xs.length : Int) = 1) = False := eq_false (by omega)
  obtain ⟨Q, hQ, hQ1, hQ2⟩ : ∃ Q : Nat, (9223372036854775807 : Int).tdiv ((xs.length : Int) - 1) = Q ∧ 1000 ≤ Q ∧ Q ≤ 9223372036854775807 := by
    refine ⟨9223372036854775807 / (xs.length - 1), ?_, ?_, Nat.div_le_self _ _⟩
    · rw [show ((xs.length : Int) - 1) = ((xs.length - 1 : Nat) : Int) by omega]
      rfl
    · rw [Nat.le_div_iff_mul_le (by omega)]
      have := Nat.mul_le_mul_left 1000 (show xs.length - 1 ≤ 1048576 by omega)
      omega
  have hm : ∃ M : Nat, (sep.size : Int) * ((xs.length : Int) - 1) = M ∧ M = (xs.length - 1) * sep.size := by
    refine ⟨(xs.length - 1) * sep.size, ?_, rfl⟩
    rw [show ((xs.length : Int) - 1) = ((xs.length - 1 : Nat) : Int) by omega, Int.mul_comm, Int.natCast_mul]
  obtain ⟨M, hM, hM2⟩ := hm
  have hM3 : M ≤ 16777216 := by omega
  have e2 : (0 < (sep.size : Int)) = True := eq_true (by omega)
  have e3 : (Q ≤ (sep.size : Int)) = False := eq_false (by omega)
  have e4 : ¬ ((xs.length : Int) - 1 = 0) := by omega
  simp (disch := omega) only [↓stq, amv_at, vls, inf, frs, mark_eq, ↓reduceIte, Nat.reduceEqDiff, ite_tt, ite_ff, eq_self, and_true, true_and, and_self, implies_true, Bool.true_eq_false, Bool.false_eq_true, decide_true, decide_false, decide_eq_true_eq, decide_eq_false_iff_not, ne_eq, not_true_eq_false, not_false_eq_true, Bool.not_eq_true', Bool.not_eq_false', beq_self_eq_true, Bool.not_true, Bool.not_false, List.getElem?_toArray, List.getElem?_cons_zero, List.getElem?_cons_succ, e0, e1, e2, abin_quo, hQ, e3, hM]
  refine aloop (fun d fr V => ∃ i : Nat, i ≤ xs.length ∧ d = xs.length - i ∧ V = A ∧ fr 0 = .slice a xs.length c ∧ fr 1 = .string sep ∧ fr 5 = .int .i64 ((M + lenS (xs.take i) : Nat) : Int) ∧ fr 39 = .slice a xs.length c ∧ fr 40 = .int .i64 xs.length ∧ fr 41 = .int .i64 i) xs.length ⟨0, by omega, by omega, rfl, by rfl, by rfl, ?_, by rfl, by rfl, by rfl⟩ ?_
  · simp (disch := omega) only [↓stq, amv_at, vls, inf, frs, mark_eq, ↓reduceIte, Nat.reduceEqDiff, ite_tt, ite_ff, eq_self, and_true, true_and, and_self, implies_true, Bool.true_eq_false, Bool.false_eq_true, decide_true, decide_false, decide_eq_true_eq, decide_eq_false_iff_not, ne_eq, not_true_eq_false, not_false_eq_true, Bool.not_eq_true', Bool.not_eq_false', beq_self_eq_true, Bool.not_true, Bool.not_false, List.getElem?_toArray, List.getElem?_cons_zero, List.getElem?_cons_succ]
    rw [List.take_zero]
    show Value.int .i64 (0 + (M : Int)) = .int .i64 ((M + 0 : Nat) : Int)
    congr 1
    omega
  rintro d fr V ⟨i, hi, rfl, rfl, g0, g1, g5, g39, g40, g41⟩
  have hle := lenS_le xs i
  simp (disch := omega) only [↓stq, amv_at, vls, inf, frs, mark_eq, ↓reduceIte, Nat.reduceEqDiff, ite_tt, ite_ff, eq_self, and_true, true_and, and_self, implies_true, Bool.true_eq_false, Bool.false_eq_true, decide_true, decide_false, decide_eq_true_eq, decide_eq_false_iff_not, ne_eq, not_true_eq_false, not_false_eq_true, Bool.not_eq_true', Bool.not_eq_false', beq_self_eq_true, Bool.not_true, Bool.not_false, List.getElem?_toArray, List.getElem?_cons_zero, List.getElem?_cons_succ, g0, g1, g5, g39, g40, g41]
  refine ⟨fun e => ?_, fun e => ?_⟩
  · have hlt : i < xs.length := by omega
    obtain ⟨ad, rfl, hcl, hz⟩ := h.str hlt
    have hnx := lenS_take hlt
    have hle2 := lenS_le xs (i + 1)
    have e5 : ((9223372036854775807 : Int) - ((M + lenS (xs.take i) : Nat) : Int) < (xs[i]).size) = False := eq_false (by omega)
    simp (disch := omega) only [↓stq, amv_at, vls, inf, frs, mark_eq, ↓reduceIte, Nat.reduceEqDiff, ite_tt, ite_ff, eq_self, and_true, true_and, and_self, implies_true, Bool.true_eq_false, Bool.false_eq_true, decide_true, decide_false, decide_eq_true_eq, decide_eq_false_iff_not, ne_eq, not_true_eq_false, not_false_eq_true, Bool.not_eq_true', Bool.not_eq_false', beq_self_eq_true, Bool.not_true, Bool.not_false, List.getElem?_toArray, List.getElem?_cons_zero, List.getElem?_cons_succ, g0, g1, g5, g39, g40, g41, hcl, e5]
    refine ⟨_, by omega, i + 1, by omega, rfl, ?_, rfl⟩
    congr 1
    rw [hnx]
    omega
  · have hie : i = xs.length := by omega
    subst hie
    rw [List.take_length] at g5
    simp (disch := omega) only [↓stq, amv_at, vls, inf, frs, mark_eq, ↓reduceIte, Nat.reduceEqDiff, ite_tt, ite_ff, eq_self, and_true, true_and, and_self, implies_true, Bool.true_eq_false, Bool.false_eq_true, decide_true, decide_false, decide_eq_true_eq, decide_eq_false_iff_not, ne_eq, not_true_eq_false, not_false_eq_true, Bool.not_eq_true', Bool.not_eq_false', beq_self_eq_true, Bool.not_true, Bool.not_false, List.getElem?_toArray, List.getElem?_cons_zero, List.getElem?_cons_succ, g0, g1, g5, g39, g40, g41]
    refine led_alloc zc52 (Led.nil V) fun q V1 _ l => ?_
    simp (disch := omega) only [↓stq, amv_at, vls, inf, frs, mark_eq, ↓reduceIte, Nat.reduceEqDiff, ite_tt, ite_ff, eq_self, and_true, true_and, and_self, implies_true, Bool.true_eq_false, Bool.false_eq_true, decide_true, decide_false, decide_eq_true_eq, decide_eq_false_iff_not, ne_eq, not_true_eq_false, not_false_eq_true, Bool.not_eq_true', Bool.not_eq_false', beq_self_eq_true, Bool.not_true, Bool.not_false, List.getElem?_toArray, List.getElem?_cons_zero, List.getElem?_cons_succ, g0, g1, g5, g39, g40, g41]
    refine (Grow_c V V1 [] q (M + lenS xs) (by omega) (wb_new l)).mono ?_
    rintro _ V2 ⟨fp, l⟩
    obtain ⟨ad, rfl, hcl, hz⟩ := h.str (i := 0) (by omega)
    replace hcl : V.cell (ad.add (Int.toNat 0)) = some (.string xs[0]) := hcl
    have k0 := l.ext.cell hcl
    simp (disch := omega) only [↓stq, amv_at, vls, inf, frs, mark_eq, ↓reduceIte, Nat.reduceEqDiff, ite_tt, ite_ff, eq_self, and_true, true_and, and_self, implies_true, Bool.true_eq_false, Bool.false_eq_true, decide_true, decide_false, decide_eq_true_eq, decide_eq_false_iff_not, ne_eq, not_true_eq_false, not_false_eq_true, Bool.not_eq_true', Bool.not_eq_false', beq_self_eq_true, Bool.not_true, Bool.not_false, List.getElem?_toArray, List.getElem?_cons_zero, List.getElem?_cons_succ, g0, g1, g5, g39, g40, g41, k0]
    have hj1 := joinA_one sep.data.toList (xs := xs) (by omega)
    have hle1 := joinA_le sep.data.toList xs 1
    rw [hj1, dsize] at hle1
    refine (writeString_c V V2 [] q fp [] _ (by rw [List.length_nil]; omega) l).mono ?_
    rintro _ V3 ⟨rfl, fp2, l⟩
    rw [List.nil_append, ← hj1] at l
    have hdr := h.drop (k := 1) (by omega)
    have e6 : (1 : Int).toNat = 1 := rfl
    simp (disch := omega) only [↓stq, amv_at, vls, inf, frs, mark_eq, ↓reduceIte, Nat.reduceEqDiff, ite_tt, ite_ff, eq_self, and_true, true_and, and_self, implies_true, Bool.true_eq_false, Bool.false_eq_true, decide_true, decide_false, decide_eq_true_eq, decide_eq_false_iff_not, ne_eq, not_true_eq_false, not_false_eq_true, Bool.not_eq_true', Bool.not_eq_false', beq_self_eq_true, Bool.not_true, Bool.not_false, List.getElem?_toArray, List.getElem?_cons_zero, List.getElem?_cons_succ, g0, g1, g5, g39, g40, g41, e6]
    refine aloop (fun d fr V' => ∃ (i : Nat) (fp : List Nat), 1 ≤ i ∧ i ≤ xs.length ∧ d = xs.length - i ∧ Led V [wb q fp (joinA sep.data.toList (xs.take i))] V' ∧ fr 1 = .string sep ∧ fr 8 = .pointer (some ⟨q, 0, none⟩) ∧ fr 63 = .slice (cutAddr (some ad) 1 c 1) (xs.length - 1) (c - 1) ∧ fr 64 = .int .i64 (xs.length - 1 : Nat) ∧ fr 65 = .int .i64 (i - 1 : Nat)) (xs.length - 1) ⟨1, fp2, by omega, by omega, rfl, l, by simp (disch := omega) only [↓stq, amv_at, vls, inf, frs, mark_eq, ↓reduceIte, Nat.reduceEqDiff, ite_tt, ite_ff, eq_self, and_true, true_and, and_self, implies_true, Bool.true_eq_false, Bool.false_eq_true, decide_true, decide_false, decide_eq_true_eq, decide_eq_false_iff_not, ne_eq, not_true_eq_false, not_false_eq_true, Bool.not_eq_true', Bool.not_eq_false', beq_self_eq_true, Bool.not_true, Bool.not_false, List.getElem?_toArray, List.getElem?_cons_zero, List.getElem?_cons_succ, g0, g1, g5, g39, g40, g41], by rfl, by rfl, by rfl, by rfl⟩ ?_
    clear l
    rintro d fr V' ⟨i, fp, hi1, hi2, rfl, l, g1, g8, g63, g64, g65⟩
    simp (disch := omega) only [↓stq, amv_at, vls, inf, frs, mark_eq, ↓reduceIte, Nat.reduceEqDiff, ite_tt, ite_ff, eq_self, and_true, true_and, and_self, implies_true, Bool.true_eq_false, Bool.false_eq_true, decide_true, decide_false, decide_eq_true_eq, decide_eq_false_iff_not, ne_eq, not_true_eq_false, not_false_eq_true, Bool.not_eq_true', Bool.not_eq_false', beq_self_eq_true, Bool.not_true, Bool.not_false, List.getElem?_toArray, List.getElem?_cons_zero, List.getElem?_cons_succ, g1, g8, g63, g64, g65]
    refine ⟨fun e => ?_, fun e => ?_⟩
    · have hlt : i < xs.length := by omega
      have hdl : (xs.drop 1).length = xs.length - 1 := by rw [List.length_drop]
      obtain ⟨ad2, hq, hcl2, hz2⟩ := hdr.str (i := i - 1) (by rw [hdl]; omega)
      have hget : (xs.drop 1)[i - 1]'(by rw [hdl]; omega) = xs[i] := by
        rw [List.getElem_drop]
        congr 1
        omega
      rw [hget] at hcl2
      have hq' : cutAddr (some ad) 1 c 1 = some ad2 := hq
      have kc := l.ext.cell hcl2
      have hj := joinA_take sep.data.toList hlt (by omega)
      have hle3 := joinA_le sep.data.toList xs (i + 1)
      rw [hj, List.length_append, List.length_append, dsize, dsize] at hle3
      simp (disch := omega) only [↓stq, amv_at, vls, inf, frs, mark_eq, ↓reduceIte, Nat.reduceEqDiff, ite_tt, ite_ff, eq_self, and_true, true_and, and_self, implies_true, Bool.true_eq_false, Bool.false_eq_true, decide_true, decide_false, decide_eq_true_eq, decide_eq_false_iff_not, ne_eq, not_true_eq_false, not_false_eq_true, Bool.not_eq_true', Bool.not_eq_false', beq_self_eq_true, Bool.not_true, Bool.not_false, List.getElem?_toArray, List.getElem?_cons_zero, List.getElem?_cons_succ, g1, g8, g63, g64, g65, hq', kc]
      refine (writeString_c V V' [] q fp _ sep (by omega) l).mono ?_
      rintro _ V4 ⟨rfl, fp3, l⟩
      simp (disch := omega) only [↓stq, amv_at, vls, inf, frs, mark_eq, ↓reduceIte, Nat.reduceEqDiff, ite_tt, ite_ff, eq_self, and_true, true_and, and_self, implies_true, Bool.true_eq_false, Bool.false_eq_true, decide_true, decide_false, decide_eq_true_eq, decide_eq_false_iff_not, ne_eq, not_true_eq_false, not_false_eq_true, Bool.not_eq_true', Bool.not_eq_false', beq_self_eq_true, Bool.not_true, Bool.not_false, List.getElem?_toArray, List.getElem?_cons_zero, List.getElem?_cons_succ, g1, g8, g63, g64, g65]
      refine (writeString_c V V4 [] q fp3 _ xs[i] (by rw [List.length_append, dsize]; omega) l).mono ?_
      rintro _ V5 ⟨rfl, fp4, l⟩
      simp (disch := omega) only [↓stq, amv_at, vls, inf, frs, mark_eq, ↓reduceIte, Nat.reduceEqDiff, ite_tt, ite_ff, eq_self, and_true, true_and, and_self, implies_true, Bool.true_eq_false, Bool.false_eq_true, decide_true, decide_false, decide_eq_true_eq, decide_eq_false_iff_not, ne_eq, not_true_eq_false, not_false_eq_true, Bool.not_eq_true', Bool.not_eq_false', beq_self_eq_true, Bool.not_true, Bool.not_false, List.getElem?_toArray, List.getElem?_cons_zero, List.getElem?_cons_succ, g1, g8, g63, g64, g65]
      refine ⟨_, by omega, i + 1, fp4, by omega, by omega, rfl, ?_, ?_⟩
      · rw [hj, ← List.append_assoc]
        exact l
      · congr 1
        omega
    · have hie : i = xs.length := by omega
      subst hie
      rw [List.take_length] at l
      simp (disch := omega) only [↓stq, amv_at, vls, inf, frs, mark_eq, ↓reduceIte, Nat.reduceEqDiff, ite_tt, ite_ff, eq_self, and_true, true_and, and_self, implies_true, Bool.true_eq_false, Bool.false_eq_true, decide_true, decide_false, decide_eq_true_eq, decide_eq_false_iff_not, ne_eq, not_true_eq_false, not_false_eq_true, Bool.not_eq_true', Bool.not_eq_false', beq_self_eq_true, Bool.not_true, Bool.not_false, List.getElem?_toArray, List.getElem?_cons_zero, List.getElem?_cons_succ, g1, g8, g63, g64, g65]
      refine (string_c V V' [] q fp _ (by omega) l).mono ?_
      rintro _ V6 ⟨rfl, l⟩
      simp (disch := omega) only [↓stq, amv_at, vls, inf, frs, mark_eq, ↓reduceIte, Nat.reduceEqDiff, ite_tt, ite_ff, eq_self, and_true, true_and, and_self, implies_true, Bool.true_eq_false, Bool.false_eq_true, decide_true, decide_false, decide_eq_true_eq, decide_eq_false_iff_not, ne_eq, not_true_eq_false, not_false_eq_true, Bool.not_eq_true', Bool.not_eq_false', beq_self_eq_true, Bool.not_true, Bool.not_false, List.getElem?_toArray, List.getElem?_cons_zero, List.getElem?_cons_succ, g1, g8, g63, g64, g65]
      exact ⟨rfl, l.ext⟩

end Go.Proofs.YtggklaimbklefaaDoor

