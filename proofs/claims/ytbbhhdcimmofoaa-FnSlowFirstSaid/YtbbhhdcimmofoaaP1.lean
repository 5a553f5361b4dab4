/- What is known of tests: valid, costs. -/
import Derived.Test.YtbbhhdcimmofoaaIPast
set_option maxHeartbeats 4000000
set_option synthInstance.maxHeartbeats 400000
set_option synthInstance.maxSize 4096
set_option linter.unusedSimpArgs false
set_option linter.unusedVariables false
namespace Go.Proofs.Ytbbhhdcimmofoaa

set_option maxRecDepth 100000

def isId (id : ByteArray) (x : PastD) : Bool := decide (x.1 = id)
/-- The cost of a test. -/
def costF (xs : List PastD) (id : ByteArray) : Int := ((xs.find? (isId id)).map (·.2.2.1)).getD 1
def costB (x : PastD) : Bool := decide (0 ≤ x.2.2.1) && decide (x.2.2.1 ≤ 99)
def pastB (xs : List PastD) : Bool := xs.all costB && idsB (xs.map (·.1))

theorem costF_range {xs : List PastD} (h : pastB xs = true) (id : ByteArray) : 0 ≤ costF xs id ∧ costF xs id ≤ 99 := by
  unfold pastB at h
  rw [Bool.and_eq_true, List.all_eq_true] at h
  unfold costF
  cases hf : xs.find? (isId id) with
  | none => simp
  | some x =>
    have := h.1 x (List.mem_of_find?_eq_some hf)
    unfold costB at this
    rw [Bool.and_eq_true, decide_eq_true_eq, decide_eq_true_eq] at this
    simpa using this

theorem impl_pastAtFn_c (A : View) (b : Nat) (d : List Value) (x : PastD) (id : ByteArray) (hb : A.cell ⟨b, 0, none⟩ = some (.string id)) (h : pastS.rel A x d) : ACalls Try.prog 97 #[.agg d.toArray, .pointer (some ⟨b, 0, none⟩)] A fun r A' => r = .bool (isId id x) ∧ Ext A A' := by
  obtain ⟨rfl, _⟩ := pastS_open h
  refine acalls Try.func97 rfl (by kernel_rfl) ?_
  simp (disch := omega) only [↓stp, vls, inf, frs, mark_eq, ↓reduceIte, Nat.reduceEqDiff, ite_tt, ite_ff, eq_self, and_true, true_and, and_self, implies_true, Bool.true_eq_false, Bool.false_eq_true, decide_true, decide_false, decide_eq_true_eq, decide_eq_false_iff_not, ne_eq, not_true_eq_false, not_false_eq_true, Bool.not_eq_true', Bool.not_eq_false', beq_self_eq_true, Bool.not_true, Bool.not_false, List.getElem?_toArray, List.getElem?_cons_zero, List.getElem?_cons_succ]
  refine led_box (Led.nil A) rfl fun q V he l => ?_
  have c0 := l.cell (i := 0) rfl (o := 0) rfl rfl
  have hb := he.cell hb
  simp (disch := omega) only [↓stp, vls, inf, frs, mark_eq, ↓reduceIte, Nat.reduceEqDiff, ite_tt, ite_ff, eq_self, and_true, true_and, and_self, implies_true, Bool.true_eq_false, Bool.false_eq_true, decide_true, decide_false, decide_eq_true_eq, decide_eq_false_iff_not, ne_eq, not_true_eq_false, not_false_eq_true, Bool.not_eq_true', Bool.not_eq_false', beq_self_eq_true, Bool.not_true, Bool.not_false, List.getElem?_toArray, List.getElem?_cons_zero, List.getElem?_cons_succ, add_at, c0, hb]
  exact ⟨rfl, l.ext⟩

theorem impl_pastAt_c (A : View) (v : Value) (xs : List PastD) (id : ByteArray) (h : Sl pastS A v xs) : ACalls Try.prog 83 #[v, .string id] A fun r A' => r = .int .i64 (idxI (isId id) xs) ∧ Ext A A' := by
  refine acalls Try.func83 rfl (by kernel_rfl) ?_
  simp (disch := omega) only [↓stp, vls, inf, frs, mark_eq, ↓reduceIte, Nat.reduceEqDiff, ite_tt, ite_ff, eq_self, and_true, true_and, and_self, implies_true, Bool.true_eq_false, Bool.false_eq_true, decide_true, decide_false, decide_eq_true_eq, decide_eq_false_iff_not, ne_eq, not_true_eq_false, not_false_eq_true, Bool.not_eq_true', Bool.not_eq_false', beq_self_eq_true, Bool.not_true, Bool.not_false, List.getElem?_toArray, List.getElem?_cons_zero, List.getElem?_cons_succ]
  refine led_box1 (Led.nil A) rfl rfl fun q V he l => ?_
  have hb : V.cell ⟨q, 0, none⟩ = some (.string id) := l.cell (i := 0) rfl (o := 0) rfl rfl
  simp (disch := omega) only [↓stp, vls, inf, frs, mark_eq, ↓reduceIte, Nat.reduceEqDiff, ite_tt, ite_ff, eq_self, and_true, true_and, and_self, implies_true, Bool.true_eq_false, Bool.false_eq_true, decide_true, decide_false, decide_eq_true_eq, decide_eq_false_iff_not, ne_eq, not_true_eq_false, not_false_eq_true, Bool.not_eq_true', Bool.not_eq_false', beq_self_eq_true, Bool.not_true, Bool.not_false, List.getElem?_toArray, List.getElem?_cons_zero, List.getElem?_cons_succ]
  refine (indexFunc_Past_c V v _ xs (isId id) (h.mono he) ⟨_, _, _, rfl, by kernel_rfl, fun B hB u x hx => ?_⟩).mono ?_
  · obtain ⟨d, rfl, hd⟩ := hx
    exact impl_pastAtFn_c B q d x id (hB.cell hb) hd
  · rintro _ W ⟨rfl, he2⟩
    simp (disch := omega) only [↓stp, vls, inf, frs, mark_eq, ↓reduceIte, Nat.reduceEqDiff, ite_tt, ite_ff, eq_self, and_true, true_and, and_self, implies_true, Bool.true_eq_false, Bool.false_eq_true, decide_true, decide_false, decide_eq_true_eq, decide_eq_false_iff_not, ne_eq, not_true_eq_false, not_false_eq_true, Bool.not_eq_true', Bool.not_eq_false', beq_self_eq_true, Bool.not_true, Bool.not_false, List.getElem?_toArray, List.getElem?_cons_zero, List.getElem?_cons_succ]
    exact he.trans he2

theorem spec_pastAt_c (A : View) (v : Value) (xs : List PastD) (id : ByteArray) (h : Sl pastS A v xs) : ACalls Try.prog 93 #[v, .string id] A fun r A' => r = .int .i64 (idxI (isId id) xs) ∧ A' = A := by
  obtain ⟨a, c, rfl, hc, hl⟩ := h.slice
  refine acalls Try.func93 rfl (by kernel_rfl) ?_
  simp (disch := omega) only [↓stp, vls, inf, frs, mark_eq, ↓reduceIte, Nat.reduceEqDiff, ite_tt, ite_ff, eq_self, and_true, true_and, and_self, implies_true, Bool.true_eq_false, Bool.false_eq_true, decide_true, decide_false, decide_eq_true_eq, decide_eq_false_iff_not, ne_eq, not_true_eq_false, not_false_eq_true, Bool.not_eq_true', Bool.not_eq_false', beq_self_eq_true, Bool.not_true, Bool.not_false, List.getElem?_toArray, List.getElem?_cons_zero, List.getElem?_cons_succ]
  refine aloop (fun d fr A' => ∃ i : Nat, i ≤ xs.length ∧ d = xs.length - i ∧ A' = A ∧ fr 0 = .slice a xs.length c ∧ fr 1 = .string id ∧ fr 5 = .int .i64 i ∧ (∀ j (hj : j < i) (hl : j < xs.length), isId id xs[j] = false)) xs.length ⟨0, by omega, by omega, rfl, rfl, by rfl, by rfl, by omega⟩ ?_
  rintro d fr A ⟨i, hi, rfl, rfl, h0, h1, h5, hn⟩
  simp (disch := omega) only [↓stp, vls, inf, frs, mark_eq, ↓reduceIte, Nat.reduceEqDiff, ite_tt, ite_ff, eq_self, and_true, true_and, and_self, implies_true, Bool.true_eq_false, Bool.false_eq_true, decide_true, decide_false, decide_eq_true_eq, decide_eq_false_iff_not, ne_eq, not_true_eq_false, not_false_eq_true, Bool.not_eq_true', Bool.not_eq_false', beq_self_eq_true, Bool.not_true, Bool.not_false, List.getElem?_toArray, List.getElem?_cons_zero, List.getElem?_cons_succ, h0, h1, h5]
  refine ⟨fun e => ?_, fun e => ?_⟩
  · have hlt : i < xs.length := by omega
    obtain ⟨ad, rfl, hp, _⟩ := h.past hlt
    have c0 := View.part_cell hp (j := 0) (v := .string (xs[i]).1) rfl
    simp (disch := omega) only [↓stp, vls, inf, frs, mark_eq, ↓reduceIte, Nat.reduceEqDiff, ite_tt, ite_ff, eq_self, and_true, true_and, and_self, implies_true, Bool.true_eq_false, Bool.false_eq_true, decide_true, decide_false, decide_eq_true_eq, decide_eq_false_iff_not, ne_eq, not_true_eq_false, not_false_eq_true, Bool.not_eq_true', Bool.not_eq_false', beq_self_eq_true, Bool.not_true, Bool.not_false, List.getElem?_toArray, List.getElem?_cons_zero, List.getElem?_cons_succ, h0, h1, h5, c0]
    refine ⟨fun e1 => ?_, fun e1 => ?_⟩ <;> simp (disch := omega) only [↓stp, vls, inf, frs, mark_eq, ↓reduceIte, Nat.reduceEqDiff, ite_tt, ite_ff, eq_self, and_true, true_and, and_self, implies_true, Bool.true_eq_false, Bool.false_eq_true, decide_true, decide_false, decide_eq_true_eq, decide_eq_false_iff_not, ne_eq, not_true_eq_false, not_false_eq_true, Bool.not_eq_true', Bool.not_eq_false', beq_self_eq_true, Bool.not_true, Bool.not_false, List.getElem?_toArray, List.getElem?_cons_zero, List.getElem?_cons_succ, h0, h1, h5]
    · rw [idxI_found hlt (fun j hj => hn j hj (by omega)) (by simp [isId, e1])]
    · refine ⟨_, by omega, i + 1, by omega, rfl, rfl, fun j hj hl => ?_⟩
      by_cases hji : j = i
      · subst hji; simpa [isId] using e1
      · exact hn j (by omega) hl
  · simp (disch := omega) only [↓stp, vls, inf, frs, mark_eq, ↓reduceIte, Nat.reduceEqDiff, ite_tt, ite_ff, eq_self, and_true, true_and, and_self, implies_true, Bool.true_eq_false, Bool.false_eq_true, decide_true, decide_false, decide_eq_true_eq, decide_eq_false_iff_not, ne_eq, not_true_eq_false, not_false_eq_true, Bool.not_eq_true', Bool.not_eq_false', beq_self_eq_true, Bool.not_true, Bool.not_false, List.getElem?_toArray, List.getElem?_cons_zero, List.getElem?_cons_succ, h0, h1, h5]
    rw [idxI_none (fun j hj => hn j (by omega) hj)]

theorem impl_costOf_c (A : View) (v : Value) (xs : List PastD) (id : ByteArray) (h : Sl pastS A v xs) : ACalls Try.prog 62 #[v, .string id] A fun r A' => r = .int .i64 (costF xs id) ∧ Ext A A' := by
  obtain ⟨a, c, rfl, hc, hl⟩ := h.slice
  refine acalls Try.func62 rfl (by kernel_rfl) ?_
  simp (disch := omega) only [↓stp, vls, inf, frs, mark_eq, ↓reduceIte, Nat.reduceEqDiff, ite_tt, ite_ff, eq_self, and_true, true_and, and_self, implies_true, Bool.true_eq_false, Bool.false_eq_true, decide_true, decide_false, decide_eq_true_eq, decide_eq_false_iff_not, ne_eq, not_true_eq_false, not_false_eq_true, Bool.not_eq_true', Bool.not_eq_false', beq_self_eq_true, Bool.not_true, Bool.not_false, List.getElem?_toArray, List.getElem?_cons_zero, List.getElem?_cons_succ]
  refine (impl_pastAt_c A _ xs id h).mono ?_
  rintro _ V ⟨rfl, he⟩
  simp (disch := omega) only [↓stp, vls, inf, frs, mark_eq, ↓reduceIte, Nat.reduceEqDiff, ite_tt, ite_ff, eq_self, and_true, true_and, and_self, implies_true, Bool.true_eq_false, Bool.false_eq_true, decide_true, decide_false, decide_eq_true_eq, decide_eq_false_iff_not, ne_eq, not_true_eq_false, not_false_eq_true, Bool.not_eq_true', Bool.not_eq_false', beq_self_eq_true, Bool.not_true, Bool.not_false, List.getElem?_toArray, List.getElem?_cons_zero, List.getElem?_cons_succ]
  refine ⟨fun e => ?_, fun e => ?_⟩
  · obtain ⟨i, hi, hlt, _, hf⟩ := idxI_lt e
    rw [hi]
    obtain ⟨ad, rfl, hp, _⟩ := (h.mono he).past hlt
    have c2 := View.part_cell hp (j := 2) (v := .int .i64 (xs[i]).2.2.1) rfl
    simp (disch := omega) only [↓stp, vls, inf, frs, mark_eq, ↓reduceIte, Nat.reduceEqDiff, ite_tt, ite_ff, eq_self, and_true, true_and, and_self, implies_true, Bool.true_eq_false, Bool.false_eq_true, decide_true, decide_false, decide_eq_true_eq, decide_eq_false_iff_not, ne_eq, not_true_eq_false, not_false_eq_true, Bool.not_eq_true', Bool.not_eq_false', beq_self_eq_true, Bool.not_true, Bool.not_false, List.getElem?_toArray, List.getElem?_cons_zero, List.getElem?_cons_succ, c2]
    unfold costF
    rw [hf]
    exact ⟨rfl, he⟩
  · obtain ⟨_, _, hf⟩ := idxI_no e
    simp (disch := omega) only [↓stp, vls, inf, frs, mark_eq, ↓reduceIte, Nat.reduceEqDiff, ite_tt, ite_ff, eq_self, and_true, true_and, and_self, implies_true, Bool.true_eq_false, Bool.false_eq_true, decide_true, decide_false, decide_eq_true_eq, decide_eq_false_iff_not, ne_eq, not_true_eq_false, not_false_eq_true, Bool.not_eq_true', Bool.not_eq_false', beq_self_eq_true, Bool.not_true, Bool.not_false, List.getElem?_toArray, List.getElem?_cons_zero, List.getElem?_cons_succ]
    unfold costF
    rw [hf]
    exact ⟨rfl, he⟩

theorem spec_costOf_c (A : View) (v : Value) (xs : List PastD) (id : ByteArray) (h : Sl pastS A v xs) : ACalls Try.prog 85 #[v, .string id] A fun r A' => r = .int .i64 (costF xs id) ∧ A' = A := by
  obtain ⟨a, c, rfl, hc, hl⟩ := h.slice
  refine acalls Try.func85 rfl (by kernel_rfl) ?_
  simp (disch := omega) only [↓stp, vls, inf, frs, mark_eq, ↓reduceIte, Nat.reduceEqDiff, ite_tt, ite_ff, eq_self, and_true, true_and, and_self, implies_true, Bool.true_eq_false, Bool.false_eq_true, decide_true, decide_false, decide_eq_true_eq, decide_eq_false_iff_not, ne_eq, not_true_eq_false, not_false_eq_true, Bool.not_eq_true', Bool.not_eq_false', beq_self_eq_true, Bool.not_true, Bool.not_false, List.getElem?_toArray, List.getElem?_cons_zero, List.getElem?_cons_succ]
  refine (spec_pastAt_c A _ xs id h).mono ?_
  rintro _ V ⟨rfl, rfl⟩
  simp (disch := omega) only [↓stp, vls, inf, frs, mark_eq, ↓reduceIte, Nat.reduceEqDiff, ite_tt, ite_ff, eq_self, and_true, true_and, and_self, implies_true, Bool.true_eq_false, Bool.false_eq_true, decide_true, decide_false, decide_eq_true_eq, decide_eq_false_iff_not, ne_eq, not_true_eq_false, not_false_eq_true, Bool.not_eq_true', Bool.not_eq_false', beq_self_eq_true, Bool.not_true, Bool.not_false, List.getElem?_toArray, List.getElem?_cons_zero, List.getElem?_cons_succ]
  refine ⟨fun e => ?_, fun e => ?_⟩
  · obtain ⟨_, _, hf⟩ := idxI_no (show ¬ 0 ≤ idxI (isId id) xs by omega)
    simp (disch := omega) only [↓stp, vls, inf, frs, mark_eq, ↓reduceIte, Nat.reduceEqDiff, ite_tt, ite_ff, eq_self, and_true, true_and, and_self, implies_true, Bool.true_eq_false, Bool.false_eq_true, decide_true, decide_false, decide_eq_true_eq, decide_eq_false_iff_not, ne_eq, not_true_eq_false, not_false_eq_true, Bool.not_eq_true', Bool.not_eq_false', beq_self_eq_true, Bool.not_true, Bool.not_false, List.getElem?_toArray, List.getElem?_cons_zero, List.getElem?_cons_succ]
    unfold costF
    rw [hf]
    rfl
  · obtain ⟨i, hi, hlt, _, hf⟩ := idxI_lt (show 0 ≤ idxI (isId id) xs by omega)
    rw [hi]
    obtain ⟨ad, rfl, hp, _⟩ := h.past hlt
    have c2 := View.part_cell hp (j := 2) (v := .int .i64 (xs[i]).2.2.1) rfl
    simp (disch := omega) only [↓stp, vls, inf, frs, mark_eq, ↓reduceIte, Nat.reduceEqDiff, ite_tt, ite_ff, eq_self, and_true, true_and, and_self, implies_true, Bool.true_eq_false, Bool.false_eq_true, decide_true, decide_false, decide_eq_true_eq, decide_eq_false_iff_not, ne_eq, not_true_eq_false, not_false_eq_true, Bool.not_eq_true', Bool.not_eq_false', beq_self_eq_true, Bool.not_true, Bool.not_false, List.getElem?_toArray, List.getElem?_cons_zero, List.getElem?_cons_succ, c2]
    unfold costF
    rw [hf]
    rfl

theorem map_take1 {α β : Type} {f : α → β} {xs : List α} {i : Nat} (h : i < xs.length) : (xs.take (i + 1)).map f = (xs.take i).map f ++ [f xs[i]] := by
  rw [List.take_succ_eq_append_getElem h, List.map_append]; rfl

theorem impl_validPast_c (A : View) (v : Value) (xs : List PastD) (h : Sl pastS A v xs) (hsm : xs.length ≤ 16777215) : ACalls Try.prog 45 #[v] A fun r A' => r = .bool (pastB xs) ∧ Ext A A' := by
  obtain ⟨a, c, rfl, hc, hl⟩ := h.slice
  refine acalls Try.func45 rfl (by kernel_rfl) ?_
  simp (disch := omega) only [↓stp, vls, inf, frs, mark_eq, ↓reduceIte, Nat.reduceEqDiff, ite_tt, ite_ff, eq_self, and_true, true_and, and_self, implies_true, Bool.true_eq_false, Bool.false_eq_true, decide_true, decide_false, decide_eq_true_eq, decide_eq_false_iff_not, ne_eq, not_true_eq_false, not_false_eq_true, Bool.not_eq_true', Bool.not_eq_false', beq_self_eq_true, Bool.not_true, Bool.not_false, List.getElem?_toArray, List.getElem?_cons_zero, List.getElem?_cons_succ]
  refine led_lit0 (O := strO) li24 (Led.nil A) fun b V _ l => ?_
  simp (disch := omega) only [↓stp, vls, inf, frs, mark_eq, ↓reduceIte, Nat.reduceEqDiff, ite_tt, ite_ff, eq_self, and_true, true_and, and_self, implies_true, Bool.true_eq_false, Bool.false_eq_true, decide_true, decide_false, decide_eq_true_eq, decide_eq_false_iff_not, ne_eq, not_true_eq_false, not_false_eq_true, Bool.not_eq_true', Bool.not_eq_false', beq_self_eq_true, Bool.not_true, Bool.not_false, List.getElem?_toArray, List.getElem?_cons_zero, List.getElem?_cons_succ]
  refine aloop (fun d fr A' => ∃ (i : Nat) (fp : List Nat) (w : Value), i ≤ xs.length ∧ d = xs.length - i ∧ Led A [osl 9 strO fp w ((xs.take i).map (·.1))] A' ∧ (xs.take i).all costB = true ∧ fr 3 = w ∧ fr 7 = .slice a xs.length c ∧ fr 8 = .int .i64 xs.length ∧ fr 9 = .int .i64 i) xs.length ⟨0, _, _, by omega, by omega, l, by simp, by rfl, by rfl, by rfl, by rfl⟩ ?_
  rintro d fr A' ⟨i, fp, w, hi, rfl, l, hall, h3, h7, h8, h9⟩
  simp (disch := omega) only [↓stp, vls, inf, frs, mark_eq, ↓reduceIte, Nat.reduceEqDiff, ite_tt, ite_ff, eq_self, and_true, true_and, and_self, implies_true, Bool.true_eq_false, Bool.false_eq_true, decide_true, decide_false, decide_eq_true_eq, decide_eq_false_iff_not, ne_eq, not_true_eq_false, not_false_eq_true, Bool.not_eq_true', Bool.not_eq_false', beq_self_eq_true, Bool.not_true, Bool.not_false, List.getElem?_toArray, List.getElem?_cons_zero, List.getElem?_cons_succ, h3, h7, h8, h9]
  refine ⟨fun e => ?_, fun e => ?_⟩
  · have hlt : i < xs.length := by omega
    obtain ⟨ad, d, rfl, hd, hp, _⟩ := (h.mono l.ext).at hlt
    have hp : A'.part (ad.add (i * 3)) 3 = some d := hp
    obtain ⟨rfl, s1, s2⟩ := pastS_open hd
    simp (disch := omega) only [↓stp, vls, inf, frs, mark_eq, ↓reduceIte, Nat.reduceEqDiff, ite_tt, ite_ff, eq_self, and_true, true_and, and_self, implies_true, Bool.true_eq_false, Bool.false_eq_true, decide_true, decide_false, decide_eq_true_eq, decide_eq_false_iff_not, ne_eq, not_true_eq_false, not_false_eq_true, Bool.not_eq_true', Bool.not_eq_false', beq_self_eq_true, Bool.not_true, Bool.not_false, List.getElem?_toArray, List.getElem?_cons_zero, List.getElem?_cons_succ, h3, h7, h8, h9, hp]
    refine led_alloc zc70 l fun q V _ l => ?_
    simp (disch := omega) only [↓stp, vls, inf, frs, mark_eq, ↓reduceIte, Nat.reduceEqDiff, ite_tt, ite_ff, eq_self, and_true, true_and, and_self, implies_true, Bool.true_eq_false, Bool.false_eq_true, decide_true, decide_false, decide_eq_true_eq, decide_eq_false_iff_not, ne_eq, not_true_eq_false, not_false_eq_true, Bool.not_eq_true', Bool.not_eq_false', beq_self_eq_true, Bool.not_true, Bool.not_false, List.getElem?_toArray, List.getElem?_cons_zero, List.getElem?_cons_succ, h3, h7, h8, h9]
    refine led_storeAll l 0 rfl sz70 rfl rfl (pastS.one hd) fun V l => ?_
    have c0 := l.cell (i := 0) rfl (o := 0) rfl rfl
    have c2 := l.cell (i := 0) rfl (o := 2) rfl rfl
    simp (disch := omega) only [↓stp, vls, inf, frs, mark_eq, ↓reduceIte, Nat.reduceEqDiff, ite_tt, ite_ff, eq_self, and_true, true_and, and_self, implies_true, Bool.true_eq_false, Bool.false_eq_true, decide_true, decide_false, decide_eq_true_eq, decide_eq_false_iff_not, ne_eq, not_true_eq_false, not_false_eq_true, Bool.not_eq_true', Bool.not_eq_false', beq_self_eq_true, Bool.not_true, Bool.not_false, List.getElem?_toArray, List.getElem?_cons_zero, List.getElem?_cons_succ, h3, h7, h8, h9, add_at, c0, c2]
    refine ⟨fun e1 => ?_, fun e1 => ?_⟩ <;> simp (disch := omega) only [↓stp, vls, inf, frs, mark_eq, ↓reduceIte, Nat.reduceEqDiff, ite_tt, ite_ff, eq_self, and_true, true_and, and_self, implies_true, Bool.true_eq_false, Bool.false_eq_true, decide_true, decide_false, decide_eq_true_eq, decide_eq_false_iff_not, ne_eq, not_true_eq_false, not_false_eq_true, Bool.not_eq_true', Bool.not_eq_false', beq_self_eq_true, Bool.not_true, Bool.not_false, List.getElem?_toArray, List.getElem?_cons_zero, List.getElem?_cons_succ, h3, h7, h8, h9, add_at, c0, c2, e1]
    · refine ⟨fun e2 => ?_, fun e2 => ?_⟩ <;> simp (disch := omega) only [↓stp, vls, inf, frs, mark_eq, ↓reduceIte, Nat.reduceEqDiff, ite_tt, ite_ff, eq_self, and_true, true_and, and_self, implies_true, Bool.true_eq_false, Bool.false_eq_true, decide_true, decide_false, decide_eq_true_eq, decide_eq_false_iff_not, ne_eq, not_true_eq_false, not_false_eq_true, Bool.not_eq_true', Bool.not_eq_false', beq_self_eq_true, Bool.not_true, Bool.not_false, List.getElem?_toArray, List.getElem?_cons_zero, List.getElem?_cons_succ, h3, h7, h8, h9, add_at, c0, c2, e1, e2]
      · have : costB xs[i] = false := by unfold costB; simp; omega
        exact ⟨by unfold pastB; rw [all_no hlt this, Bool.false_and], l.ext⟩
      · have hcb : costB xs[i] = true := by unfold costB; simp; omega
        refine led_lit li24 (by omega) rfl (by simp [Value.cells, Value.oneCell']) l fun bl V _ l => ?_
        simp (disch := omega) only [↓stp, vls, inf, frs, mark_eq, ↓reduceIte, Nat.reduceEqDiff, ite_tt, ite_ff, eq_self, and_true, true_and, and_self, implies_true, Bool.true_eq_false, Bool.false_eq_true, decide_true, decide_false, decide_eq_true_eq, decide_eq_false_iff_not, ne_eq, not_true_eq_false, not_false_eq_true, Bool.not_eq_true', Bool.not_eq_false', beq_self_eq_true, Bool.not_true, Bool.not_false, List.getElem?_toArray, List.getElem?_cons_zero, List.getElem?_cons_succ, h3, h7, h8, h9]
        refine led_app (O := strO) ap24_24 (by decide) l (i := 2) rfl (l.src1 (S := strS) (j := 0) rfl ⟨rfl, s1⟩) (by simp; omega) fun fp' w' V _ l => ?_
        simp (disch := omega) only [↓stp, vls, inf, frs, mark_eq, ↓reduceIte, Nat.reduceEqDiff, ite_tt, ite_ff, eq_self, and_true, true_and, and_self, implies_true, Bool.true_eq_false, Bool.false_eq_true, decide_true, decide_false, decide_eq_true_eq, decide_eq_false_iff_not, ne_eq, not_true_eq_false, not_false_eq_true, Bool.not_eq_true', Bool.not_eq_false', beq_self_eq_true, Bool.not_true, Bool.not_false, List.getElem?_toArray, List.getElem?_cons_zero, List.getElem?_cons_succ, h3, h7, h8, h9]
        refine ⟨_, by omega, i + 1, fp', _, by omega, rfl, ?_, all_take hlt hall hcb, rfl, rfl⟩
        rw [map_take1 hlt]
        exact l.tail.tail
    · have : costB xs[i] = false := by unfold costB; simp; omega
      exact ⟨by unfold pastB; rw [all_no hlt this, Bool.false_and], l.ext⟩
  · simp (disch := omega) only [↓stp, vls, inf, frs, mark_eq, ↓reduceIte, Nat.reduceEqDiff, ite_tt, ite_ff, eq_self, and_true, true_and, and_self, implies_true, Bool.true_eq_false, Bool.false_eq_true, decide_true, decide_false, decide_eq_true_eq, decide_eq_false_iff_not, ne_eq, not_true_eq_false, not_false_eq_true, Bool.not_eq_true', Bool.not_eq_false', beq_self_eq_true, Bool.not_true, Bool.not_false, List.getElem?_toArray, List.getElem?_cons_zero, List.getElem?_cons_succ, h3, h7, h8, h9]
    have hi' : i = xs.length := by omega
    subst hi'
    rw [List.take_length] at l hall
    refine (impl_idsOk_c A' _ _ (OSl.toS (l.at (i := 0) rfl))).mono ?_
    rintro _ A' ⟨rfl, rfl⟩
    simp (disch := omega) only [↓stp, vls, inf, frs, mark_eq, ↓reduceIte, Nat.reduceEqDiff, ite_tt, ite_ff, eq_self, and_true, true_and, and_self, implies_true, Bool.true_eq_false, Bool.false_eq_true, decide_true, decide_false, decide_eq_true_eq, decide_eq_false_iff_not, ne_eq, not_true_eq_false, not_false_eq_true, Bool.not_eq_true', Bool.not_eq_false', beq_self_eq_true, Bool.not_true, Bool.not_false, List.getElem?_toArray, List.getElem?_cons_zero, List.getElem?_cons_succ, h3, h7, h8, h9]
    refine ⟨?_, l.ext⟩
    unfold pastB
    rw [hall, Bool.true_and]

theorem any_take_mem {xs : List PastD} {i : Nat} (id : ByteArray) : ((xs.take i).any (isId id) = true) ↔ id ∈ (xs.map (·.1)).take i := by
  rw [List.any_eq_true, ← List.map_take, List.mem_map]
  constructor
  · rintro ⟨x, hx, h⟩; exact ⟨x, hx, by simpa [isId] using h⟩
  · rintro ⟨x, hx, h⟩; exact ⟨x, hx, by simpa [isId] using h⟩

theorem spec_validPast_c (A : View) (v : Value) (xs : List PastD) (h : Sl pastS A v xs) : ACalls Try.prog 84 #[v] A fun r A' => r = .bool (pastB xs) ∧ A' = A := by
  obtain ⟨a, c, rfl, hc, hl⟩ := h.slice
  refine acalls Try.func84 rfl (by kernel_rfl) ?_
  simp (disch := omega) only [↓stp, vls, inf, frs, mark_eq, ↓reduceIte, Nat.reduceEqDiff, ite_tt, ite_ff, eq_self, and_true, true_and, and_self, implies_true, Bool.true_eq_false, Bool.false_eq_true, decide_true, decide_false, decide_eq_true_eq, decide_eq_false_iff_not, ne_eq, not_true_eq_false, not_false_eq_true, Bool.not_eq_true', Bool.not_eq_false', beq_self_eq_true, Bool.not_true, Bool.not_false, List.getElem?_toArray, List.getElem?_cons_zero, List.getElem?_cons_succ]
  refine aloop (fun d fr A' => ∃ i : Nat, i ≤ xs.length ∧ d = xs.length - i ∧ A' = A ∧ fr 0 = .slice a xs.length c ∧ fr 3 = .int .i64 i ∧ (xs.take i).all costB = true ∧ (xs.take i).all (fun x => idB x.1) = true ∧ ((xs.map (·.1)).take i).Nodup) xs.length ⟨0, by omega, by omega, rfl, rfl, by rfl, by simp, by simp, by simp⟩ ?_
  rintro d fr A ⟨i, hi, rfl, rfl, h0, h3, hn1, hn2, hn3⟩
  simp (disch := omega) only [↓stp, vls, inf, frs, mark_eq, ↓reduceIte, Nat.reduceEqDiff, ite_tt, ite_ff, eq_self, and_true, true_and, and_self, implies_true, Bool.true_eq_false, Bool.false_eq_true, decide_true, decide_false, decide_eq_true_eq, decide_eq_false_iff_not, ne_eq, not_true_eq_false, not_false_eq_true, Bool.not_eq_true', Bool.not_eq_false', beq_self_eq_true, Bool.not_true, Bool.not_false, List.getElem?_toArray, List.getElem?_cons_zero, List.getElem?_cons_succ, h0, h3]
  refine ⟨fun e => ?_, fun e => ?_⟩
  · have hlt : i < xs.length := by omega
    have hlt' : i < (xs.map (·.1)).length := by simpa using hlt
    obtain ⟨ad, rfl, hp, s1, s2⟩ := h.past hlt
    have c0 := View.part_cell hp (j := 0) (v := .string (xs[i]).1) rfl
    have c2 := View.part_cell hp (j := 2) (v := .int .i64 (xs[i]).2.2.1) rfl
    simp (disch := omega) only [↓stp, vls, inf, frs, mark_eq, ↓reduceIte, Nat.reduceEqDiff, ite_tt, ite_ff, eq_self, and_true, true_and, and_self, implies_true, Bool.true_eq_false, Bool.false_eq_true, decide_true, decide_false, decide_eq_true_eq, decide_eq_false_iff_not, ne_eq, not_true_eq_false, not_false_eq_true, Bool.not_eq_true', Bool.not_eq_false', beq_self_eq_true, Bool.not_true, Bool.not_false, List.getElem?_toArray, List.getElem?_cons_zero, List.getElem?_cons_succ, h0, h3]
    refine adraw_items [.q 0, .q 1, .q 2, .q 3, .l 4 false, .c 5 [], .q 6, .q 7, .q 8, .q 9, .q 10, .q 11, .q 12, .q 13, .q 14, .l 15 false, .c 16 [], .q 17, .q 18, .q 19, .q 20, .q 21, .q 22, .q 23, .l 24 false, .c 25 [], .q 26, .q 27] (by kernel_rfl) (by kernel_rfl) ?_
    simp (disch := omega) only [↓stp, ↓pln, plv, nilOk, Nat.reduceBEq, Bool.or_false, Bool.or_true, Bool.false_or, Bool.true_or, vls, inf, frs, mark_eq, ↓reduceIte, Nat.reduceEqDiff, ite_tt, ite_ff, eq_self, and_true, true_and, and_self, implies_true, Bool.true_eq_false, Bool.false_eq_true, decide_true, decide_false, decide_eq_true_eq, decide_eq_false_iff_not, ne_eq, not_true_eq_false, not_false_eq_true, Bool.not_eq_true', Bool.not_eq_false', beq_self_eq_true, Bool.not_true, Bool.not_false, List.getElem?_toArray, List.getElem?_cons_zero, List.getElem?_cons_succ, h0, h3, c0, c2]
    refine (spec_validId_c A _ s1).mono ?_
    rintro _ A ⟨rfl, rfl⟩
    simp (disch := omega) only [↓stp, ↓pln, plv, nilOk, Nat.reduceBEq, Bool.or_false, Bool.or_true, Bool.false_or, Bool.true_or, vls, inf, frs, mark_eq, ↓reduceIte, Nat.reduceEqDiff, ite_tt, ite_ff, eq_self, and_true, true_and, and_self, implies_true, Bool.true_eq_false, Bool.false_eq_true, decide_true, decide_false, decide_eq_true_eq, decide_eq_false_iff_not, ne_eq, not_true_eq_false, not_false_eq_true, Bool.not_eq_true', Bool.not_eq_false', beq_self_eq_true, Bool.not_true, Bool.not_false, List.getElem?_toArray, List.getElem?_cons_zero, List.getElem?_cons_succ, h0, h3, c0, c2]
    refine ⟨fun e1 => ?_, fun e1 => ?_⟩ <;> simp (disch := omega) only [↓stp, ↓pln, plv, nilOk, Nat.reduceBEq, Bool.or_false, Bool.or_true, Bool.false_or, Bool.true_or, vls, inf, frs, mark_eq, ↓reduceIte, Nat.reduceEqDiff, ite_tt, ite_ff, eq_self, and_true, true_and, and_self, implies_true, Bool.true_eq_false, Bool.false_eq_true, decide_true, decide_false, decide_eq_true_eq, decide_eq_false_iff_not, ne_eq, not_true_eq_false, not_false_eq_true, Bool.not_eq_true', Bool.not_eq_false', beq_self_eq_true, Bool.not_true, Bool.not_false, List.getElem?_toArray, List.getElem?_cons_zero, List.getElem?_cons_succ, h0, h3, c0, c2, e1]
    · refine (spec_pastAt_c A _ (xs.take i) _ (h.take (by omega) 3)).mono ?_
      rintro _ A ⟨rfl, rfl⟩
      simp (disch := omega) only [↓stp, ↓pln, plv, nilOk, Nat.reduceBEq, Bool.or_false, Bool.or_true, Bool.false_or, Bool.true_or, vls, inf, frs, mark_eq, ↓reduceIte, Nat.reduceEqDiff, ite_tt, ite_ff, eq_self, and_true, true_and, and_self, implies_true, Bool.true_eq_false, Bool.false_eq_true, decide_true, decide_false, decide_eq_true_eq, decide_eq_false_iff_not, ne_eq, not_true_eq_false, not_false_eq_true, Bool.not_eq_true', Bool.not_eq_false', beq_self_eq_true, Bool.not_true, Bool.not_false, List.getElem?_toArray, List.getElem?_cons_zero, List.getElem?_cons_succ, h0, h3, c0, c2, e1]
      refine ⟨fun e2 => ?_, fun e2 => ?_⟩ <;> simp (disch := omega) only [↓stp, ↓pln, plv, nilOk, Nat.reduceBEq, Bool.or_false, Bool.or_true, Bool.false_or, Bool.true_or, vls, inf, frs, mark_eq, ↓reduceIte, Nat.reduceEqDiff, ite_tt, ite_ff, eq_self, and_true, true_and, and_self, implies_true, Bool.true_eq_false, Bool.false_eq_true, decide_true, decide_false, decide_eq_true_eq, decide_eq_false_iff_not, ne_eq, not_true_eq_false, not_false_eq_true, Bool.not_eq_true', Bool.not_eq_false', beq_self_eq_true, Bool.not_true, Bool.not_false, List.getElem?_toArray, List.getElem?_cons_zero, List.getElem?_cons_succ, h0, h3, c0, c2, e1, e2]
      · have e2' := e2
        rw [idxI_ge, any_take_mem] at e2'
        refine (spec_inRange_c A _ _ _).mono ?_
        rintro _ A ⟨rfl, rfl⟩
        simp (disch := omega) only [↓stp, ↓pln, plv, nilOk, Nat.reduceBEq, Bool.or_false, Bool.or_true, Bool.false_or, Bool.true_or, vls, inf, frs, mark_eq, ↓reduceIte, Nat.reduceEqDiff, ite_tt, ite_ff, eq_self, and_true, true_and, and_self, implies_true, Bool.true_eq_false, Bool.false_eq_true, decide_true, decide_false, decide_eq_true_eq, decide_eq_false_iff_not, ne_eq, not_true_eq_false, not_false_eq_true, Bool.not_eq_true', Bool.not_eq_false', beq_self_eq_true, Bool.not_true, Bool.not_false, List.getElem?_toArray, List.getElem?_cons_zero, List.getElem?_cons_succ, h0, h3, c0, c2, e1, e2]
        refine ⟨fun e3 => ?_, fun e3 => ?_⟩ <;> simp (disch := omega) only [↓stp, vls, inf, frs, mark_eq, ↓reduceIte, Nat.reduceEqDiff, ite_tt, ite_ff, eq_self, and_true, true_and, and_self, implies_true, Bool.true_eq_false, Bool.false_eq_true, decide_true, decide_false, decide_eq_true_eq, decide_eq_false_iff_not, ne_eq, not_true_eq_false, not_false_eq_true, Bool.not_eq_true', Bool.not_eq_false', beq_self_eq_true, Bool.not_true, Bool.not_false, List.getElem?_toArray, List.getElem?_cons_zero, List.getElem?_cons_succ, h0, h3]
        · have : costB xs[i] = false := by unfold costB; simpa using e3
          unfold pastB; rw [all_no hlt this, Bool.false_and]
        · refine ⟨_, by omega, i + 1, by omega, rfl, rfl, all_take hlt hn1 (by unfold costB; simpa using e3), all_take hlt hn2 (by simpa using e1), (nodup_take_succ hlt').2 ⟨hn3, by simpa using e2'⟩⟩
      · rw [idxI_ge, any_take_mem] at e2
        have : ¬ (xs.map (·.1)).Nodup := nodup_no hlt' (by simpa using e2)
        simp [pastB, idsB, this]
    · have : idB ((xs.map (·.1))[i]) = false := by simpa using e1
      simp [pastB, idsB, all_no (p := idB) hlt' this]
  · simp (disch := omega) only [↓stp, vls, inf, frs, mark_eq, ↓reduceIte, Nat.reduceEqDiff, ite_tt, ite_ff, eq_self, and_true, true_and, and_self, implies_true, Bool.true_eq_false, Bool.false_eq_true, decide_true, decide_false, decide_eq_true_eq, decide_eq_false_iff_not, ne_eq, not_true_eq_false, not_false_eq_true, Bool.not_eq_true', Bool.not_eq_false', beq_self_eq_true, Bool.not_true, Bool.not_false, List.getElem?_toArray, List.getElem?_cons_zero, List.getElem?_cons_succ, h0, h3]
    have hi' : i = xs.length := by omega
    subst hi'
    rw [List.take_length] at hn1 hn2
    rw [List.take_of_length_le (by simp)] at hn3
    have h4 : (xs.map (·.1)).all idB = true := by rw [List.all_map]; exact hn2
    unfold pastB idsB
    rw [hn1, h4]
    simp [hn3]
    omega

end Go.Proofs.Ytbbhhdcimmofoaa

