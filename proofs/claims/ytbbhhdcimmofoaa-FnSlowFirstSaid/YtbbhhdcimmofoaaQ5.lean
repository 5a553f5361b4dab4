/- Least causes: the program and the reference. -/
import Derived.Test.YtbbhhdcimmofoaaQ4
set_option maxHeartbeats 4000000
set_option synthInstance.maxHeartbeats 400000
set_option synthInstance.maxSize 4096
set_option linter.unusedSimpArgs false
set_option linter.unusedVariables false
namespace Go.Proofs.Ytbbhhdcimmofoaa

set_option maxRecDepth 100000

def subB (a b : List ByteArray) : Bool := decide ((without a b).length = 0)
theorem subB_iff {a b : List ByteArray} : subB a b = true ↔ ∀ x ∈ a, x ∈ b := by unfold subB; rw [decide_eq_true_eq, without_none]
def sameB (a b : List ByteArray) : Bool := subB a b && subB b a
def barB (cs : List (List ByteArray)) (i k : Nat) : Bool := subB (cs.getD k []) (cs.getD i []) && (!sameB (cs.getD k []) (cs.getD i []) || decide (k < i))
def goodB (cs : List (List ByteArray)) (ids : List ByteArray) (i : Nat) : Bool := subB (cs.getD i []) ids && (List.range cs.length).all fun k => !barB cs i k
def leastF (cs : List (List ByteArray)) (ids : List ByteArray) (n : Nat) : List (List ByteArray) := ((List.range n).filter (goodB cs ids)).map fun i => inOrd ids (cs.getD i [])

theorem leastF_succ (cs : List (List ByteArray)) (ids : List ByteArray) (n : Nat) : leastF cs ids (n + 1) = leastF cs ids n ++ (if goodB cs ids n then [inOrd ids (cs.getD n [])] else []) := by
  unfold leastF
  rw [List.range_succ, List.filter_append, List.map_append]
  congr 1
  cases h : goodB cs ids n <;> simp [List.filter_cons, h]
theorem leastF_len (cs : List (List ByteArray)) (ids : List ByteArray) (n : Nat) : (leastF cs ids n).length ≤ n := by
  unfold leastF
  rw [List.length_map]
  exact Nat.le_trans (List.length_filter_le _ _) (by simp)
theorem leastF_mem {cs : List (List ByteArray)} {ids x : List ByteArray} {n : Nat} (h : x ∈ leastF cs ids n) : ∃ k, k < n ∧ goodB cs ids k = true ∧ x = inOrd ids (cs.getD k []) := by
  unfold leastF at h
  obtain ⟨k, hk, rfl⟩ := List.mem_map.1 h
  obtain ⟨h1, h2⟩ := List.mem_filter.1 hk
  exact ⟨k, List.mem_range.1 h1, h2, rfl⟩
theorem leastF_mk {cs : List (List ByteArray)} {ids : List ByteArray} {n k : Nat} (hk : k < n) (h : goodB cs ids k = true) : inOrd ids (cs.getD k []) ∈ leastF cs ids n :=
  List.mem_map.2 ⟨k, List.mem_filter.2 ⟨List.mem_range.2 hk, h⟩, rfl⟩

/-- Nothing can be left out of it. -/
theorem shr_len (f : List ByteArray → Bool) (out : List ByteArray) (i : Nat) : (shr f out i).length = out.length ↔ ∀ j, i ≤ j → j < out.length → f (out.take j ++ out.drop (j + 1)) = false := by
  unfold shr
  split
  · rename_i h
    split
    · rename_i hf
      have h1 := shr_le f (out.take i ++ out.drop (i + 1)) i
      rw [less_len h] at h1
      constructor
      · intro h2; omega
      · intro h2
        have := h2 i (Nat.le_refl _) h
        rw [hf] at this; cases this
    · rename_i hf
      rw [shr_len f out (i + 1)]
      constructor
      · intro h2 j hj hl
        by_cases hji : j = i
        · subst hji; simpa using hf
        · exact h2 j (by omega) hl
      · exact fun h2 j hj hl => h2 j (by omega) hl
  · constructor
    · intro _ j hj hl; omega
    · intro _; rfl
termination_by out.length - i
decreasing_by
  all_goals omega

theorem mem_less {out : List ByteArray} (hn : out.Nodup) {j : Nat} (hj : j < out.length) {x : ByteArray} : x ∈ out.take j ++ out.drop (j + 1) ↔ x ∈ out ∧ x ≠ out[j] := by
  have e : out = out.take j ++ (out[j] :: out.drop (j + 1)) := by rw [List.getElem_cons_drop, List.take_append_drop]
  have hn' := hn
  rw [e] at hn'
  have h1 := List.nodup_append.1 hn'
  have h2 := List.nodup_cons.1 h1.2.1
  constructor
  · intro h
    rw [List.mem_append] at h
    refine ⟨h.elim List.mem_of_mem_take List.mem_of_mem_drop, fun hx => ?_⟩
    rcases h with h | h
    · exact h1.2.2 x h out[j] (List.mem_cons_self ..) hx
    · exact h2.1 (by rw [← hx]; exact h)
  · rintro ⟨h, hne⟩
    rw [e, List.mem_append, List.mem_cons] at h
    rw [List.mem_append]
    rcases h with h | h | h
    · exact .inl h
    · exact (hne h).elim
    · exact .inr h

theorem failsS_iff {cs : List (List ByteArray)} {ids : List ByteArray} : failsS cs ids = true ↔ ∃ k, k < cs.length ∧ ∀ x ∈ cs.getD k [], x ∈ ids := by
  unfold failsS
  rw [List.any_eq_true]
  constructor
  · rintro ⟨c, hc, h⟩
    obtain ⟨k, hk, rfl⟩ := List.getElem_of_mem hc
    exact ⟨k, hk, by rw [decide_eq_true_eq, without_none] at h; simpa [List.getD, hk] using h⟩
  · rintro ⟨k, hk, h⟩
    refine ⟨cs[k], List.getElem_mem hk, ?_⟩
    rw [decide_eq_true_eq, without_none]
    simpa [List.getD, hk] using h

theorem inOrd_mem {ids c : List ByteArray} {x : ByteArray} : x ∈ inOrd ids c ↔ x ∈ ids ∧ x ∈ c := by
  unfold inOrd
  rw [List.mem_filter, decide_eq_true_eq]

theorem inOrd_congr {ids c d : List ByteArray} (h : ∀ x ∈ ids, (x ∈ c ↔ x ∈ d)) : inOrd ids c = inOrd ids d := by
  unfold inOrd
  exact List.filter_congr fun x hx => by rw [decide_eq_decide]; exact h x hx

/-- The program's test is the reference's. -/
theorem least_test {cs : List (List ByteArray)} {ids : List ByteArray} (hcs : causesB cs = true) (hids : idsB ids = true) {i : Nat} (hi : i < cs.length) :
    goodB cs ids i = (decide ((inOrd ids cs[i]).length = (cs[i]).length) && decide ((shr (failsI cs) (inOrd ids cs[i]) 0).length = (inOrd ids cs[i]).length) && !((leastF cs ids i).any fun x => decide (x = inOrd ids cs[i]))) := by
  have hgd : cs.getD i [] = cs[i] := by simp [List.getD, hi]
  have hin := idsB_nodup hids
  have hcn := (causesB_len hcs cs[i] (List.getElem_mem hi)).2
  have hpn : (inOrd ids cs[i]).Nodup := List.filter_sublist.nodup hin
  have hA := inOrd_all hin hcn
  rw [shr_congr (fun xs hx => fails_eq hcs hx) _ 0 hpn]
  rw [Bool.eq_iff_iff]
  simp only [Bool.and_eq_true, decide_eq_true_eq, Bool.not_eq_true']
  rw [hA, shr_len]
  have hbar : ∀ k, barB cs i k = true ↔ (∀ x ∈ cs.getD k [], x ∈ cs[i]) ∧ (¬ (∀ x ∈ cs[i], x ∈ cs.getD k []) ∨ k < i) := by
    intro k
    unfold barB sameB
    rw [hgd]
    simp only [Bool.and_eq_true, Bool.or_eq_true, Bool.not_eq_true', decide_eq_true_eq, subB_iff]
    constructor
    · rintro ⟨h1, h2⟩
      refine ⟨h1, h2.imp (fun h3 h4 => ?_) id⟩
      rw [Bool.and_eq_false_iff] at h3
      rcases h3 with h3 | h3
      · rw [subB_iff.2 h1] at h3; cases h3
      · rw [subB_iff.2 h4] at h3; cases h3
    · rintro ⟨h1, h2⟩
      refine ⟨h1, h2.imp (fun h3 => ?_) id⟩
      rw [Bool.and_eq_false_iff]
      right
      cases h4 : subB cs[i] (cs.getD k []) with
      | false => rfl
      | true => exact (h3 (subB_iff.1 h4)).elim
  have hgood : ∀ m, m < cs.length → (goodB cs ids m = true ↔ (∀ x ∈ cs.getD m [], x ∈ ids) ∧ ∀ k, k < cs.length → barB cs m k = false) := by
    intro m hm
    unfold goodB
    rw [Bool.and_eq_true, subB_iff, List.all_eq_true]
    refine and_congr_right fun _ => ⟨fun h k hk => by simpa using h k (List.mem_range.2 hk), fun h k hk => by simp [h k (List.mem_range.1 hk)]⟩
  rw [hgood i hi, hgd]
  have hbarf : ∀ k, barB cs i k = false ↔ ¬ ((∀ x ∈ cs.getD k [], x ∈ cs[i]) ∧ (¬ (∀ x ∈ cs[i], x ∈ cs.getD k []) ∨ k < i)) := fun k => by rw [← hbar k]; simp
  constructor
  · rintro ⟨h1, h2⟩
    refine ⟨⟨h1, fun j _ hj => ?_⟩, ?_⟩
    · cases hf : failsS cs ((inOrd ids cs[i]).take j ++ (inOrd ids cs[i]).drop (j + 1)) with
      | false => rfl
      | true =>
        obtain ⟨k, hk, hsub⟩ := failsS_iff.1 hf
        have h3 := (hbarf k).1 (h2 k hk)
        refine (h3 ⟨fun x hx => (inOrd_mem.1 ((mem_less hpn hj).1 (hsub x hx)).1).2, .inl fun h4 => ?_⟩).elim
        have h5 := inOrd_mem.1 (List.getElem_mem hj)
        exact ((mem_less hpn hj).1 (hsub _ (h4 _ h5.2))).2 rfl
    · rw [List.any_eq_false]
      intro x hx hxe
      have hxe : x = inOrd ids cs[i] := by simpa using hxe
      obtain ⟨k, hki, hgk, hxk⟩ := leastF_mem hx
      have hk : k < cs.length := by omega
      have hsubk := ((hgood k hk).1 hgk).1
      refine (hbarf k).1 (h2 k hk) ⟨fun y hy => ?_, .inr hki⟩
      have : y ∈ inOrd ids (cs.getD k []) := inOrd_mem.2 ⟨hsubk y hy, hy⟩
      rw [← hxk, hxe] at this
      exact (inOrd_mem.1 this).2
  · rintro ⟨⟨h1, h2⟩, h3⟩
    have hmin : ∀ k, k < cs.length → (∀ x ∈ cs.getD k [], x ∈ cs[i]) → ∀ x ∈ cs[i], x ∈ cs.getD k [] := by
      intro k hk hsub x hx
      refine Classical.byContradiction fun hni => ?_
      obtain ⟨j, hj, hjx⟩ := List.getElem_of_mem (inOrd_mem.2 ⟨h1 x hx, hx⟩)
      have hf : failsS cs ((inOrd ids cs[i]).take j ++ (inOrd ids cs[i]).drop (j + 1)) = true := failsS_iff.2 ⟨k, hk, fun y hy => (mem_less hpn hj).2 ⟨inOrd_mem.2 ⟨h1 y (hsub y hy), hsub y hy⟩, fun e => hni (by rw [← hjx, ← e]; exact hy)⟩⟩
      rw [h2 j (by omega) hj] at hf
      cases hf
    refine ⟨h1, fun k hk => (hbarf k).2 ?_⟩
    rintro ⟨hsub, hor⟩
    have hsame := hmin k hk hsub
    rcases hor with h | hki
    · exact h hsame
    · -- the first cause with these tests is among what is found
      have hex : ∃ m, m < i ∧ (∀ x ∈ cs.getD m [], x ∈ cs[i]) ∧ ∀ m', m' < m → ¬ ∀ x ∈ cs.getD m' [], x ∈ cs[i] := by
        have : ∀ n, n < i → (∀ x ∈ cs.getD n [], x ∈ cs[i]) → ∃ m, m < i ∧ (∀ x ∈ cs.getD m [], x ∈ cs[i]) ∧ ∀ m', m' < m → ¬ ∀ x ∈ cs.getD m' [], x ∈ cs[i] := by
          intro n
          induction n using Nat.strongRecOn with
          | ind n ih =>
            intro hn hs
            by_cases hq : ∃ m', m' < n ∧ ∀ x ∈ cs.getD m' [], x ∈ cs[i]
            · obtain ⟨m', hm', hs'⟩ := hq
              exact ih m' hm' (by omega) hs'
            · exact ⟨n, hn, hs, fun m' hm' hs' => hq ⟨m', hm', hs'⟩⟩
        exact this k hki hsub
      obtain ⟨m, hm, hms, hmf⟩ := hex
      have hml : m < cs.length := by omega
      have hmsame := hmin m hml hms
      have hgm : goodB cs ids m = true := by
        rw [hgood m hml]
        refine ⟨fun x hx => h1 x (hms x hx), fun k' hk' => ?_⟩
        have hgdm : cs.getD m [] = cs[m] := by simp [List.getD, hml]
        cases hb : barB cs m k' with
        | false => rfl
        | true =>
          unfold barB sameB at hb
          simp only [Bool.and_eq_true, Bool.or_eq_true, Bool.not_eq_true', decide_eq_true_eq, subB_iff] at hb
          obtain ⟨hb1, hb2⟩ := hb
          have hk's : ∀ x ∈ cs.getD k' [], x ∈ cs[i] := fun x hx => hms x (hb1 x hx)
          rcases hb2 with hb2 | hb2
          · rw [Bool.and_eq_false_iff] at hb2
            rcases hb2 with hb2 | hb2
            · rw [subB_iff.2 hb1] at hb2; cases hb2
            · rw [subB_iff.2 (fun x hx => hmin k' hk' hk's x (hms x hx))] at hb2; cases hb2
          · exact (hmf k' hb2 hk's).elim
      have hin2 := leastF_mk (n := i) hm hgm
      rw [List.any_eq_false] at h3
      refine h3 _ hin2 ?_
      rw [decide_eq_true_eq]
      exact inOrd_congr fun x _ => ⟨fun hx => hms x hx, fun hx => hmsame x hx⟩

/-- All least causes. -/
def leastR (cs : List (List ByteArray)) (ids : List ByteArray) : List (List ByteArray) := if causesB cs && idsB ids then leastF cs ids cs.length else []

theorem equal_S (A : View) (v u : Value) (xs ys : List ByteArray) (h : Sl strS A v xs) (h' : Sl strS A u ys) : ACalls Try.prog 51 #[v, u] A fun r A' => r = .bool (decide (xs = ys)) ∧ A' = A := by
  obtain ⟨a, c, rfl, hc, hl⟩ := h.slice
  obtain ⟨a', c', rfl, hc', hl'⟩ := h'.slice
  refine acalls Try.func51 rfl (by kernel_rfl) ?_
  simp (disch := omega) only [↓stp, vls, inf, frs, mark_eq, ↓reduceIte, Nat.reduceEqDiff, ite_tt, ite_ff, eq_self, and_true, true_and, and_self, implies_true, Bool.true_eq_false, Bool.false_eq_true, decide_true, decide_false, decide_eq_true_eq, decide_eq_false_iff_not, ne_eq, not_true_eq_false, not_false_eq_true, Bool.not_eq_true', Bool.not_eq_false', beq_self_eq_true, Bool.not_true, Bool.not_false, List.getElem?_toArray, List.getElem?_cons_zero, List.getElem?_cons_succ]
  refine ⟨fun e => ?_, fun e => ?_⟩
  · simp (disch := omega) only [↓stp, vls, inf, frs, mark_eq, ↓reduceIte, Nat.reduceEqDiff, ite_tt, ite_ff, eq_self, and_true, true_and, and_self, implies_true, Bool.true_eq_false, Bool.false_eq_true, decide_true, decide_false, decide_eq_true_eq, decide_eq_false_iff_not, ne_eq, not_true_eq_false, not_false_eq_true, Bool.not_eq_true', Bool.not_eq_false', beq_self_eq_true, Bool.not_true, Bool.not_false, List.getElem?_toArray, List.getElem?_cons_zero, List.getElem?_cons_succ]
    have : xs ≠ ys := fun he => e (by rw [he])
    simp [this]
  · have hlen : xs.length = ys.length := by omega
    simp (disch := omega) only [↓stp, vls, inf, frs, mark_eq, ↓reduceIte, Nat.reduceEqDiff, ite_tt, ite_ff, eq_self, and_true, true_and, and_self, implies_true, Bool.true_eq_false, Bool.false_eq_true, decide_true, decide_false, decide_eq_true_eq, decide_eq_false_iff_not, ne_eq, not_true_eq_false, not_false_eq_true, Bool.not_eq_true', Bool.not_eq_false', beq_self_eq_true, Bool.not_true, Bool.not_false, List.getElem?_toArray, List.getElem?_cons_zero, List.getElem?_cons_succ]
    refine aloop (fun d fr A' => ∃ i : Nat, i ≤ xs.length ∧ d = xs.length - i ∧ A' = A ∧ fr 0 = .slice a xs.length c ∧ fr 1 = .slice a' ys.length c' ∧ fr 12 = .int .i64 xs.length ∧ fr 13 = .int .i64 i ∧ xs.take i = ys.take i) xs.length ⟨0, by omega, by omega, rfl, rfl, by rfl, by rfl, by rfl, by simp⟩ ?_
    rintro d fr A ⟨i, hi, rfl, rfl, h0, h1, h12, h13, hn⟩
    simp (disch := omega) only [↓stp, vls, inf, frs, mark_eq, ↓reduceIte, Nat.reduceEqDiff, ite_tt, ite_ff, eq_self, and_true, true_and, and_self, implies_true, Bool.true_eq_false, Bool.false_eq_true, decide_true, decide_false, decide_eq_true_eq, decide_eq_false_iff_not, ne_eq, not_true_eq_false, not_false_eq_true, Bool.not_eq_true', Bool.not_eq_false', beq_self_eq_true, Bool.not_true, Bool.not_false, List.getElem?_toArray, List.getElem?_cons_zero, List.getElem?_cons_succ, h0, h1, h12, h13]
    refine ⟨fun e => ?_, fun e => ?_⟩
    · obtain ⟨ad, rfl, hcl, _⟩ := h.str (i := i) (by omega)
      obtain ⟨ad', rfl, hcl', _⟩ := h'.str (i := i) (by omega)
      simp (disch := omega) only [↓stp, vls, inf, frs, mark_eq, ↓reduceIte, Nat.reduceEqDiff, ite_tt, ite_ff, eq_self, and_true, true_and, and_self, implies_true, Bool.true_eq_false, Bool.false_eq_true, decide_true, decide_false, decide_eq_true_eq, decide_eq_false_iff_not, ne_eq, not_true_eq_false, not_false_eq_true, Bool.not_eq_true', Bool.not_eq_false', beq_self_eq_true, Bool.not_true, Bool.not_false, List.getElem?_toArray, List.getElem?_cons_zero, List.getElem?_cons_succ, h0, h1, h12, h13]
      refine adraw_items [.q 0, .q 1, .q 2, .l 3 false, .q 4, .q 5, .q 6, .l 7 false, .q 8] (by kernel_rfl) (by kernel_rfl) ?_
      simp (disch := omega) only [↓stp, ↓pln, plv, nilOk, Nat.reduceBEq, Bool.or_false, Bool.or_true, Bool.false_or, Bool.true_or, vls, inf, frs, mark_eq, ↓reduceIte, Nat.reduceEqDiff, ite_tt, ite_ff, eq_self, and_true, true_and, and_self, implies_true, Bool.true_eq_false, Bool.false_eq_true, decide_true, decide_false, decide_eq_true_eq, decide_eq_false_iff_not, ne_eq, not_true_eq_false, not_false_eq_true, Bool.not_eq_true', Bool.not_eq_false', beq_self_eq_true, Bool.not_true, Bool.not_false, List.getElem?_toArray, List.getElem?_cons_zero, List.getElem?_cons_succ, h0, h1, h12, h13, hcl, hcl']
      refine ⟨fun e1 => ?_, fun e1 => ?_⟩ <;> simp (disch := omega) only [↓stp, vls, inf, frs, mark_eq, ↓reduceIte, Nat.reduceEqDiff, ite_tt, ite_ff, eq_self, and_true, true_and, and_self, implies_true, Bool.true_eq_false, Bool.false_eq_true, decide_true, decide_false, decide_eq_true_eq, decide_eq_false_iff_not, ne_eq, not_true_eq_false, not_false_eq_true, Bool.not_eq_true', Bool.not_eq_false', beq_self_eq_true, Bool.not_true, Bool.not_false, List.getElem?_toArray, List.getElem?_cons_zero, List.getElem?_cons_succ, h0, h1, h12, h13]
      · have : xs ≠ ys := fun he => e1 (by simp only [he])
        simp [this]
      · refine ⟨_, by omega, i + 1, by omega, rfl, rfl, ?_⟩
        rw [List.take_succ_eq_append_getElem (by omega), List.take_succ_eq_append_getElem (by omega), hn]
        have : xs[i] = ys[i] := by simpa using e1
        rw [this]
    · rw [List.take_of_length_le (by omega), List.take_of_length_le (by omega)] at hn
      simp (disch := omega) only [↓stp, vls, inf, frs, mark_eq, ↓reduceIte, Nat.reduceEqDiff, ite_tt, ite_ff, eq_self, and_true, true_and, and_self, implies_true, Bool.true_eq_false, Bool.false_eq_true, decide_true, decide_false, decide_eq_true_eq, decide_eq_false_iff_not, ne_eq, not_true_eq_false, not_false_eq_true, Bool.not_eq_true', Bool.not_eq_false', beq_self_eq_true, Bool.not_true, Bool.not_false, List.getElem?_toArray, List.getElem?_cons_zero, List.getElem?_cons_succ, h0, h1, h12, h13, hn]

theorem impl_leastFn_c (A : View) (b : Nat) (v u : Value) (part x : List ByteArray) (hb : A.cell ⟨b, 0, none⟩ = some v) (h : Sl strS A v part) (h' : Sl strS A u x) : ACalls Try.prog 50 #[u, .pointer (some ⟨b, 0, none⟩)] A fun r A' => r = .bool (decide (x = part)) ∧ Ext A A' := by
  refine acalls Try.func50 rfl (by kernel_rfl) ?_
  simp (disch := omega) only [↓stp, vls, inf, frs, mark_eq, ↓reduceIte, Nat.reduceEqDiff, ite_tt, ite_ff, eq_self, and_true, true_and, and_self, implies_true, Bool.true_eq_false, Bool.false_eq_true, decide_true, decide_false, decide_eq_true_eq, decide_eq_false_iff_not, ne_eq, not_true_eq_false, not_false_eq_true, Bool.not_eq_true', Bool.not_eq_false', beq_self_eq_true, Bool.not_true, Bool.not_false, List.getElem?_toArray, List.getElem?_cons_zero, List.getElem?_cons_succ]
  simp (disch := omega) only [↓stp, vls, inf, frs, mark_eq, ↓reduceIte, Nat.reduceEqDiff, ite_tt, ite_ff, eq_self, and_true, true_and, and_self, implies_true, Bool.true_eq_false, Bool.false_eq_true, decide_true, decide_false, decide_eq_true_eq, decide_eq_false_iff_not, ne_eq, not_true_eq_false, not_false_eq_true, Bool.not_eq_true', Bool.not_eq_false', beq_self_eq_true, Bool.not_true, Bool.not_false, List.getElem?_toArray, List.getElem?_cons_zero, List.getElem?_cons_succ, hb]
  refine (equal_S A u v x part h' h).mono ?_
  rintro _ A ⟨rfl, rfl⟩
  simp (disch := omega) only [↓stp, vls, inf, frs, mark_eq, ↓reduceIte, Nat.reduceEqDiff, ite_tt, ite_ff, eq_self, and_true, true_and, and_self, implies_true, Bool.true_eq_false, Bool.false_eq_true, decide_true, decide_false, decide_eq_true_eq, decide_eq_false_iff_not, ne_eq, not_true_eq_false, not_false_eq_true, Bool.not_eq_true', Bool.not_eq_false', beq_self_eq_true, Bool.not_true, Bool.not_false, List.getElem?_toArray, List.getElem?_cons_zero, List.getElem?_cons_succ]
  exact Ext.refl _

theorem Led.toOc {A V : View} {L : List It} {fp : List Nat} {e : TypeId} {v : Value} {α : Type} {O : OwnS α} {xs : List α} {i : Nat} (h : Led A L V) (hi : L[i]? = some (osl e O fp v xs)) : Led A (L.set i (oc (slO e O) fp xs [v])) V :=
  h.upd hi rfl (Only.refl _ _) (show (slO e O).rel V fp xs [v] from ⟨v, rfl, h.at hi⟩)

theorem impl_leastCauses_c (A : View) (v u : Value) (cs : List (List ByteArray)) (ids : List ByteArray) (h : Sl (slS strS) A v cs) (h' : Sl strS A u ids) : ACalls Try.prog 15 #[v, u] A fun r A' => NewSl 24 (slO 9 strO) A r A' (leastR cs ids) := by
  obtain ⟨a, c, rfl, hc, hl⟩ := h.slice
  refine acalls Try.func15 rfl (by kernel_rfl) ?_
  simp (disch := omega) only [↓stp, vls, inf, frs, mark_eq, ↓reduceIte, Nat.reduceEqDiff, ite_tt, ite_ff, eq_self, and_true, true_and, and_self, implies_true, Bool.true_eq_false, Bool.false_eq_true, decide_true, decide_false, decide_eq_true_eq, decide_eq_false_iff_not, ne_eq, not_true_eq_false, not_false_eq_true, Bool.not_eq_true', Bool.not_eq_false', beq_self_eq_true, Bool.not_true, Bool.not_false, List.getElem?_toArray, List.getElem?_cons_zero, List.getElem?_cons_succ]
  refine (impl_validCauses_c A _ cs h).mono ?_
  rintro _ A ⟨rfl, rfl⟩
  simp (disch := omega) only [↓stp, vls, inf, frs, mark_eq, ↓reduceIte, Nat.reduceEqDiff, ite_tt, ite_ff, eq_self, and_true, true_and, and_self, implies_true, Bool.true_eq_false, Bool.false_eq_true, decide_true, decide_false, decide_eq_true_eq, decide_eq_false_iff_not, ne_eq, not_true_eq_false, not_false_eq_true, Bool.not_eq_true', Bool.not_eq_false', beq_self_eq_true, Bool.not_true, Bool.not_false, List.getElem?_toArray, List.getElem?_cons_zero, List.getElem?_cons_succ]
  refine ⟨fun e1 => ?_, fun e1 => ?_⟩ <;> simp (disch := omega) only [↓stp, vls, inf, frs, mark_eq, ↓reduceIte, Nat.reduceEqDiff, ite_tt, ite_ff, eq_self, and_true, true_and, and_self, implies_true, Bool.true_eq_false, Bool.false_eq_true, decide_true, decide_false, decide_eq_true_eq, decide_eq_false_iff_not, ne_eq, not_true_eq_false, not_false_eq_true, Bool.not_eq_true', Bool.not_eq_false', beq_self_eq_true, Bool.not_true, Bool.not_false, List.getElem?_toArray, List.getElem?_cons_zero, List.getElem?_cons_succ, e1]
  · refine (impl_idsOk_c A _ ids h').mono ?_
    rintro _ A ⟨rfl, rfl⟩
    simp (disch := omega) only [↓stp, vls, inf, frs, mark_eq, ↓reduceIte, Nat.reduceEqDiff, ite_tt, ite_ff, eq_self, and_true, true_and, and_self, implies_true, Bool.true_eq_false, Bool.false_eq_true, decide_true, decide_false, decide_eq_true_eq, decide_eq_false_iff_not, ne_eq, not_true_eq_false, not_false_eq_true, Bool.not_eq_true', Bool.not_eq_false', beq_self_eq_true, Bool.not_true, Bool.not_false, List.getElem?_toArray, List.getElem?_cons_zero, List.getElem?_cons_succ, e1]
    refine ⟨fun e2 => ?_, fun e2 => ?_⟩ <;> simp (disch := omega) only [↓stp, vls, inf, frs, mark_eq, ↓reduceIte, Nat.reduceEqDiff, ite_tt, ite_ff, eq_self, and_true, true_and, and_self, implies_true, Bool.true_eq_false, Bool.false_eq_true, decide_true, decide_false, decide_eq_true_eq, decide_eq_false_iff_not, ne_eq, not_true_eq_false, not_false_eq_true, Bool.not_eq_true', Bool.not_eq_false', beq_self_eq_true, Bool.not_true, Bool.not_false, List.getElem?_toArray, List.getElem?_cons_zero, List.getElem?_cons_succ]
    · unfold leastR
      rw [e1, e2]
      exact NewSl.nil (Ext.refl _)
    · have hres : leastR cs ids = leastF cs ids cs.length := by unfold leastR; rw [e1, e2]; rfl
      have hids10 := idsB_len' e2
      have hcs4 : cs.length ≤ 4 := by unfold causesB at e1; rw [Bool.and_eq_true, decide_eq_true_eq] at e1; exact e1.2
      refine led_lit0 (O := slO 9 strO) li23 (Led.nil A) fun b V _ l => ?_
      simp (disch := omega) only [↓stp, vls, inf, frs, mark_eq, ↓reduceIte, Nat.reduceEqDiff, ite_tt, ite_ff, eq_self, and_true, true_and, and_self, implies_true, Bool.true_eq_false, Bool.false_eq_true, decide_true, decide_false, decide_eq_true_eq, decide_eq_false_iff_not, ne_eq, not_true_eq_false, not_false_eq_true, Bool.not_eq_true', Bool.not_eq_false', beq_self_eq_true, Bool.not_true, Bool.not_false, List.getElem?_toArray, List.getElem?_cons_zero, List.getElem?_cons_succ]
      refine aloop (fun d fr A' => ∃ (i : Nat) (fp : List Nat) (w : Value), i ≤ cs.length ∧ d = cs.length - i ∧ Led A [osl 24 (slO 9 strO) fp w (leastF cs ids i)] A' ∧ fr 0 = .slice a cs.length c ∧ fr 1 = u ∧ fr 5 = w ∧ fr 18 = .slice a cs.length c ∧ fr 19 = .int .i64 cs.length ∧ fr 20 = .int .i64 i) cs.length ⟨0, _, _, by omega, by omega, l, by rfl, by rfl, by rfl, by rfl, by rfl, by rfl⟩ ?_
      rintro d fr A' ⟨i, fp, w, hi, rfl, l, h0, h1, h5, h18, h19, h20⟩
      obtain ⟨aw, cw, rfl, _, _⟩ := (OSl.toS (l.at (i := 0) rfl)).slice
      simp (disch := omega) only [↓stp, vls, inf, frs, mark_eq, ↓reduceIte, Nat.reduceEqDiff, ite_tt, ite_ff, eq_self, and_true, true_and, and_self, implies_true, Bool.true_eq_false, Bool.false_eq_true, decide_true, decide_false, decide_eq_true_eq, decide_eq_false_iff_not, ne_eq, not_true_eq_false, not_false_eq_true, Bool.not_eq_true', Bool.not_eq_false', beq_self_eq_true, Bool.not_true, Bool.not_false, List.getElem?_toArray, List.getElem?_cons_zero, List.getElem?_cons_succ, h0, h1, h5, h18, h19, h20]
      refine ⟨fun e => ?_, fun e => ?_⟩
      · have hlt : i < cs.length := by omega
        obtain ⟨ad, bb, m, rfl, hcl, hd⟩ := (h.mono l.ext).strs hlt
        have htest := least_test e1 e2 hlt
        have hsucc := leastF_succ cs ids i
        have hgd : cs.getD i [] = cs[i] := by simp [List.getD, hlt]
        have hll := leastF_len cs ids i
        simp (disch := omega) only [↓stp, vls, inf, frs, mark_eq, ↓reduceIte, Nat.reduceEqDiff, ite_tt, ite_ff, eq_self, and_true, true_and, and_self, implies_true, Bool.true_eq_false, Bool.false_eq_true, decide_true, decide_false, decide_eq_true_eq, decide_eq_false_iff_not, ne_eq, not_true_eq_false, not_false_eq_true, Bool.not_eq_true', Bool.not_eq_false', beq_self_eq_true, Bool.not_true, Bool.not_false, List.getElem?_toArray, List.getElem?_cons_zero, List.getElem?_cons_succ, h0, h1, h5, h18, h19, h20, hcl]
        refine (impl_inOrderOf_c A' u _ ids cs[i] (h'.mono l.ext) hd (by omega)).mono ?_
        rintro pv V ⟨fq, l1⟩
        replace l := l.append l1
        obtain ⟨ap, cp, rfl, _, _⟩ := (OSl.toS (l.at (i := 0) rfl)).slice
        have hpl : (inOrd ids cs[i]).length ≤ 10 := Nat.le_trans (List.length_filter_le _ _) hids10
        simp (disch := omega) only [↓stp, vls, inf, frs, mark_eq, ↓reduceIte, Nat.reduceEqDiff, ite_tt, ite_ff, eq_self, and_true, true_and, and_self, implies_true, Bool.true_eq_false, Bool.false_eq_true, decide_true, decide_false, decide_eq_true_eq, decide_eq_false_iff_not, ne_eq, not_true_eq_false, not_false_eq_true, Bool.not_eq_true', Bool.not_eq_false', beq_self_eq_true, Bool.not_true, Bool.not_false, List.getElem?_toArray, List.getElem?_cons_zero, List.getElem?_cons_succ, h0, h1, h5, h18, h19, h20]
        refine led_alloc zc24 l fun q V _ l => ?_
        simp (disch := omega) only [↓stp, vls, inf, frs, mark_eq, ↓reduceIte, Nat.reduceEqDiff, ite_tt, ite_ff, eq_self, and_true, true_and, and_self, implies_true, Bool.true_eq_false, Bool.false_eq_true, decide_true, decide_false, decide_eq_true_eq, decide_eq_false_iff_not, ne_eq, not_true_eq_false, not_false_eq_true, Bool.not_eq_true', Bool.not_eq_false', beq_self_eq_true, Bool.not_true, Bool.not_false, List.getElem?_toArray, List.getElem?_cons_zero, List.getElem?_cons_succ, h0, h1, h5, h18, h19, h20]
        refine led_store l 0 rfl sz24 (by rfl) (by rfl) (by rfl) fun V l => ?_
        have c0 : V.cell ⟨q, 0, none⟩ = some (.slice ap (inOrd ids cs[i]).length cp) := l.cell (i := 0) rfl (o := 0) rfl rfl
        simp (disch := omega) only [↓stp, vls, inf, frs, mark_eq, ↓reduceIte, Nat.reduceEqDiff, ite_tt, ite_ff, eq_self, and_true, true_and, and_self, implies_true, Bool.true_eq_false, Bool.false_eq_true, decide_true, decide_false, decide_eq_true_eq, decide_eq_false_iff_not, ne_eq, not_true_eq_false, not_false_eq_true, Bool.not_eq_true', Bool.not_eq_false', beq_self_eq_true, Bool.not_true, Bool.not_false, List.getElem?_toArray, List.getElem?_cons_zero, List.getElem?_cons_succ, h0, h1, h5, h18, h19, h20, c0]
        refine adraw_items [.l 0 false, .q 1, .q 2, .q 3, .q 4, .q 5, .q 6, .l 7 false, .l 10 true, .q 11, .c 8 [10], .q 9, .q 12, .q 13, .q 14, .q 15, .q 16, .c 17 [], .q 18, .q 19] (by kernel_rfl) (by kernel_rfl) ?_
        simp (disch := omega) only [↓stp, ↓pln, plv, nilOk, Nat.reduceBEq, Bool.or_false, Bool.or_true, Bool.false_or, Bool.true_or, vls, inf, frs, mark_eq, ↓reduceIte, Nat.reduceEqDiff, ite_tt, ite_ff, eq_self, and_true, true_and, and_self, implies_true, Bool.true_eq_false, Bool.false_eq_true, decide_true, decide_false, decide_eq_true_eq, decide_eq_false_iff_not, ne_eq, not_true_eq_false, not_false_eq_true, Bool.not_eq_true', Bool.not_eq_false', beq_self_eq_true, Bool.not_true, Bool.not_false, List.getElem?_toArray, List.getElem?_cons_zero, List.getElem?_cons_succ, h0, h1, h5, h18, h19, h20, c0]
        have fin : goodB cs ids i = false → ∀ W, Led A (([osl 9 strO fq (.slice ap (inOrd ids cs[i]).length cp) (inOrd ids cs[i])] ++ [osl 24 (slO 9 strO) fp (.slice aw (leastF cs ids i).length cw) (leastF cs ids i)])) W → Led A [osl 24 (slO 9 strO) fp (.slice aw (leastF cs ids i).length cw) (leastF cs ids (i + 1))] W := fun hb W l => by
          rw [hsucc, hb]
          simp only [Bool.false_eq_true, if_false, List.append_nil]
          exact l.tail
        refine ⟨fun e3 => ?_, fun e3 => ?_⟩ <;> simp (disch := omega) only [↓stp, ↓pln, plv, nilOk, Nat.reduceBEq, Bool.or_false, Bool.or_true, Bool.false_or, Bool.true_or, vls, inf, frs, mark_eq, ↓reduceIte, Nat.reduceEqDiff, ite_tt, ite_ff, eq_self, and_true, true_and, and_self, implies_true, Bool.true_eq_false, Bool.false_eq_true, decide_true, decide_false, decide_eq_true_eq, decide_eq_false_iff_not, ne_eq, not_true_eq_false, not_false_eq_true, Bool.not_eq_true', Bool.not_eq_false', beq_self_eq_true, Bool.not_true, Bool.not_false, List.getElem?_toArray, List.getElem?_cons_zero, List.getElem?_cons_succ, h0, h1, h5, h18, h19, h20, c0, e3]
        · refine (impl_shrunk_c V _ _ cs _ (h.mono l.ext) (OSl.toS (l.at (i := 1) rfl)) (by omega)).mono ?_
          rintro sv W ⟨fs, l2⟩
          obtain ⟨asv, csv, rfl, _, _⟩ := (OSl.toS (l2.at (i := 0) rfl)).slice
          replace l := l.step l2.ext
          have c0 : W.cell ⟨q, 0, none⟩ = some (.slice ap (inOrd ids cs[i]).length cp) := l.cell (i := 0) rfl (o := 0) rfl rfl
          simp (disch := omega) only [↓stp, ↓pln, plv, nilOk, Nat.reduceBEq, Bool.or_false, Bool.or_true, Bool.false_or, Bool.true_or, vls, inf, frs, mark_eq, ↓reduceIte, Nat.reduceEqDiff, ite_tt, ite_ff, eq_self, and_true, true_and, and_self, implies_true, Bool.true_eq_false, Bool.false_eq_true, decide_true, decide_false, decide_eq_true_eq, decide_eq_false_iff_not, ne_eq, not_true_eq_false, not_false_eq_true, Bool.not_eq_true', Bool.not_eq_false', beq_self_eq_true, Bool.not_true, Bool.not_false, List.getElem?_toArray, List.getElem?_cons_zero, List.getElem?_cons_succ, h0, h1, h5, h18, h19, h20, c0, e3]
          refine ⟨fun e4 => ?_, fun e4 => ?_⟩ <;> simp (disch := omega) only [↓stp, ↓pln, plv, nilOk, Nat.reduceBEq, Bool.or_false, Bool.or_true, Bool.false_or, Bool.true_or, vls, inf, frs, mark_eq, ↓reduceIte, Nat.reduceEqDiff, ite_tt, ite_ff, eq_self, and_true, true_and, and_self, implies_true, Bool.true_eq_false, Bool.false_eq_true, decide_true, decide_false, decide_eq_true_eq, decide_eq_false_iff_not, ne_eq, not_true_eq_false, not_false_eq_true, Bool.not_eq_true', Bool.not_eq_false', beq_self_eq_true, Bool.not_true, Bool.not_false, List.getElem?_toArray, List.getElem?_cons_zero, List.getElem?_cons_succ, h0, h1, h5, h18, h19, h20, c0, e3, e4]
          · refine (containsFunc_strs_c W _ _ _ (fun x => decide (x = inOrd ids cs[i])) (OSl.toS (l.at (i := 2) rfl)) ⟨_, _, _, rfl, by kernel_rfl, fun B hB y x hx => ?_⟩).mono ?_
            · exact impl_leastFn_c B q _ y _ x (hB.cell c0) ((OSl.toS (l.at (i := 1) rfl)).mono hB) hx
            · rintro _ X ⟨rfl, he3⟩
              replace l := l.step he3
              have c0 : X.cell ⟨q, 0, none⟩ = some (.slice ap (inOrd ids cs[i]).length cp) := l.cell (i := 0) rfl (o := 0) rfl rfl
              simp (disch := omega) only [↓stp, ↓pln, plv, nilOk, Nat.reduceBEq, Bool.or_false, Bool.or_true, Bool.false_or, Bool.true_or, vls, inf, frs, mark_eq, ↓reduceIte, Nat.reduceEqDiff, ite_tt, ite_ff, eq_self, and_true, true_and, and_self, implies_true, Bool.true_eq_false, Bool.false_eq_true, decide_true, decide_false, decide_eq_true_eq, decide_eq_false_iff_not, ne_eq, not_true_eq_false, not_false_eq_true, Bool.not_eq_true', Bool.not_eq_false', beq_self_eq_true, Bool.not_true, Bool.not_false, List.getElem?_toArray, List.getElem?_cons_zero, List.getElem?_cons_succ, h0, h1, h5, h18, h19, h20, c0, e3, e4]
              have e3' : (inOrd ids cs[i]).length = (cs[i]).length := by omega
              have e4' : (shr (failsI cs) (inOrd ids cs[i]) 0).length = (inOrd ids cs[i]).length := by omega
              rw [decide_eq_true e3', decide_eq_true e4', Bool.true_and, Bool.true_and] at htest
              refine ⟨fun e5 => ?_, fun e5 => ?_⟩ <;> simp (disch := omega) only [↓stp, vls, inf, frs, mark_eq, ↓reduceIte, Nat.reduceEqDiff, ite_tt, ite_ff, eq_self, and_true, true_and, and_self, implies_true, Bool.true_eq_false, Bool.false_eq_true, decide_true, decide_false, decide_eq_true_eq, decide_eq_false_iff_not, ne_eq, not_true_eq_false, not_false_eq_true, Bool.not_eq_true', Bool.not_eq_false', beq_self_eq_true, Bool.not_true, Bool.not_false, List.getElem?_toArray, List.getElem?_cons_zero, List.getElem?_cons_succ, h0, h1, h5, h18, h19, h20, c0]
              · rw [e5] at htest
                simp only [Bool.not_false] at htest
                have l2 := (l.tail.toOc (i := 0) rfl)
                refine led_lit li23 (by omega) rfl (by simp [Value.cells, Value.oneCell']) l2 fun bl W2 _ l => ?_
                simp (disch := omega) only [↓stp, vls, inf, frs, mark_eq, ↓reduceIte, Nat.reduceEqDiff, ite_tt, ite_ff, eq_self, and_true, true_and, and_self, implies_true, Bool.true_eq_false, Bool.false_eq_true, decide_true, decide_false, decide_eq_true_eq, decide_eq_false_iff_not, ne_eq, not_true_eq_false, not_false_eq_true, Bool.not_eq_true', Bool.not_eq_false', beq_self_eq_true, Bool.not_true, Bool.not_false, List.getElem?_toArray, List.getElem?_cons_zero, List.getElem?_cons_succ, h0, h1, h5, h18, h19, h20]
                refine led_appO (O := slO 9 strO) ap23_23 (by decide) l (i := 0) rfl (by omega) fun fp' w' W3 _ l => ?_
                simp (disch := omega) only [↓stp, vls, inf, frs, mark_eq, ↓reduceIte, Nat.reduceEqDiff, ite_tt, ite_ff, eq_self, and_true, true_and, and_self, implies_true, Bool.true_eq_false, Bool.false_eq_true, decide_true, decide_false, decide_eq_true_eq, decide_eq_false_iff_not, ne_eq, not_true_eq_false, not_false_eq_true, Bool.not_eq_true', Bool.not_eq_false', beq_self_eq_true, Bool.not_true, Bool.not_false, List.getElem?_toArray, List.getElem?_cons_zero, List.getElem?_cons_succ, h0, h1, h5, h18, h19, h20]
                refine ⟨_, by omega, i + 1, fp', _, by omega, rfl, ?_, rfl, rfl⟩
                rw [hsucc, htest, if_pos rfl, hgd]
                exact l
              · rw [e5] at htest
                simp only [Bool.not_true] at htest
                exact ⟨_, by omega, i + 1, fp, _, by omega, rfl, fin htest _ l.tail, rfl, rfl⟩
          · rw [decide_eq_false (show ¬ (shr (failsI cs) (inOrd ids cs[i]) 0).length = (inOrd ids cs[i]).length by omega), Bool.and_false, Bool.false_and] at htest
            exact ⟨_, by omega, i + 1, fp, _, by omega, rfl, fin htest _ l.tail, rfl, rfl⟩
        · rw [decide_eq_false (show ¬ (inOrd ids cs[i]).length = (cs[i]).length by omega), Bool.false_and, Bool.false_and] at htest
          exact ⟨_, by omega, i + 1, fp, _, by omega, rfl, fin htest _ l.tail, rfl, rfl⟩
      · simp (disch := omega) only [↓stp, vls, inf, frs, mark_eq, ↓reduceIte, Nat.reduceEqDiff, ite_tt, ite_ff, eq_self, and_true, true_and, and_self, implies_true, Bool.true_eq_false, Bool.false_eq_true, decide_true, decide_false, decide_eq_true_eq, decide_eq_false_iff_not, ne_eq, not_true_eq_false, not_false_eq_true, Bool.not_eq_true', Bool.not_eq_false', beq_self_eq_true, Bool.not_true, Bool.not_false, List.getElem?_toArray, List.getElem?_cons_zero, List.getElem?_cons_succ, h0, h1, h5, h18, h19, h20]
        have hi' : i = cs.length := by omega
        subst hi'
        rw [hres]
        exact NewSl.of l (i := 0) rfl
  · unfold leastR
    rw [e1]
    exact NewSl.nil (Ext.refl _)

end Go.Proofs.Ytbbhhdcimmofoaa

