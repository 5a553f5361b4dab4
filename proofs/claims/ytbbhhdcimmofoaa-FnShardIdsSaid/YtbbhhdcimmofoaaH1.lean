/- Causes: what is least, in plain words. -/
import Derived.Test.YtbbhhdcimmofoaaQ6
set_option maxHeartbeats 4000000
set_option synthInstance.maxHeartbeats 400000
set_option synthInstance.maxSize 4096
set_option linter.unusedSimpArgs false
set_option linter.unusedVariables false
namespace Go.Proofs.Ytbbhhdcimmofoaa

set_option maxRecDepth 100000

def MonoF (f : List ByteArray → Bool) : Prop := ∀ xs ys : List ByteArray, (∀ x, x ∈ xs → x ∈ ys) → f xs = true → f ys = true
theorem failsS_mono (cs : List (List ByteArray)) : MonoF (failsS cs) := by
  intro xs ys h hf
  rw [failsS_iff] at hf ⊢
  obtain ⟨k, hk, h1⟩ := hf
  exact ⟨k, hk, fun x hx => h x (h1 x hx)⟩

theorem shr_holds (f : List ByteArray → Bool) (out : List ByteArray) (i : Nat) (h : f out = true) : f (shr f out i) = true := by
  unfold shr
  split
  · split
    · rename_i hf
      exact shr_holds f _ i hf
    · exact shr_holds f out (i + 1) h
  · exact h
termination_by out.length - i
decreasing_by
  all_goals first | (rw [less_len (by assumption)]; omega) | omega

theorem less_sub {out : List ByteArray} (i : Nat) : (out.take i ++ out.drop (i + 1)).Sublist out := by
  conv => rhs; rw [← List.take_append_drop i out]
  exact List.Sublist.append (List.Sublist.refl _) (List.drop_sublist_drop_left _ (by omega))

theorem shr_sub (f : List ByteArray → Bool) (out : List ByteArray) (i : Nat) : (shr f out i).Sublist out := by
  unfold shr
  split
  · split
    · exact (shr_sub f _ i).trans (less_sub i)
    · exact shr_sub f out (i + 1)
  · exact List.Sublist.refl _
termination_by out.length - i
decreasing_by
  all_goals first | (rw [less_len (by assumption)]; omega) | omega

/-- Nothing can be left out of what is left. -/
theorem shr_least {f : List ByteArray → Bool} (hm : MonoF f) (out : List ByteArray) (i : Nat) (hn : out.Nodup) (hp : ∀ j, j < i → j < out.length → f (out.take j ++ out.drop (j + 1)) = false) :
    ∀ j, j < (shr f out i).length → f ((shr f out i).take j ++ (shr f out i).drop (j + 1)) = false := by
  unfold shr
  split
  · rename_i hi
    split
    · rename_i hf
      refine shr_least hm _ i (less_nodup i hn) fun j hj hjl => ?_
      have hjl2 : j < out.length := by omega
      cases hq : f ((out.take i ++ out.drop (i + 1)).take j ++ (out.take i ++ out.drop (i + 1)).drop (j + 1)) with
      | false => rfl
      | true =>
        have h1 := hm _ (out.take j ++ out.drop (j + 1)) (fun x hx => by
          rw [mem_less (less_nodup i hn) hjl] at hx
          rw [mem_less hn hjl2]
          refine ⟨(less_sub i).subset hx.1, fun he => hx.2 ?_⟩
          rw [he, List.getElem_append_left (by rw [List.length_take]; omega), List.getElem_take]) hq
        rw [hp j hj hjl2] at h1
        cases h1
    · rename_i hf
      refine shr_least hm out (i + 1) hn fun j hj hjl => ?_
      by_cases hji : j = i
      · subst hji; simpa using hf
      · exact hp j (by omega) hjl
  · intro j hj
    exact hp j (by omega) hj
termination_by out.length - i
decreasing_by
  all_goals first | (rw [less_len (by assumption)]; omega) | omega

theorem least_nat {p : Nat → Prop} (h : ∃ k, p k) : ∃ k, p k ∧ ∀ j, j < k → ¬ p j := by
  obtain ⟨k, hk⟩ := h
  induction k using Nat.strongRecOn with
  | ind k ih =>
    by_cases hq : ∃ j, j < k ∧ p j
    · obtain ⟨j, hj, hpj⟩ := hq
      exact ih j hj hpj
    · exact ⟨k, hk, fun j hj hpj => hq ⟨j, hj, hpj⟩⟩

theorem filter_own {ids : List ByteArray} (hn : ids.Nodup) {xs : List ByteArray} (h : xs.Sublist ids) : inOrd ids xs = xs := by
  unfold inOrd
  induction h with
  | slnil => rfl
  | @cons xs ys y h ih =>
    have hy := List.nodup_cons.1 hn
    rw [List.filter_cons, if_neg (by rw [decide_eq_true_eq]; exact fun hx => hy.1 (h.subset hx))]
    exact ih hy.2
  | @cons_cons xs ys y h ih =>
    have hy := List.nodup_cons.1 hn
    rw [List.filter_cons, if_pos (by rw [decide_eq_true_eq]; exact List.mem_cons_self ..)]
    congr 1
    rw [← ih hy.2]
    refine List.filter_congr fun z hz => ?_
    rw [decide_eq_decide, ih hy.2, List.mem_cons]
    exact ⟨fun hq => hq.resolve_left fun e => hy.1 (e ▸ hz), .inr⟩

/-- What fails, and of which nothing can be left out, is one of the least causes. -/
theorem least_mem {cs : List (List ByteArray)} {ids xs : List ByteArray} (hn : ids.Nodup) (hs : xs.Sublist ids) (hf : failsS cs xs = true) (hl : ∀ j, j < xs.length → failsS cs (xs.take j ++ xs.drop (j + 1)) = false) : xs ∈ leastF cs ids cs.length := by
  have hxn := hs.nodup hn
  rw [failsS_iff] at hf
  have hsub : ∀ k, k < cs.length → (∀ x ∈ cs.getD k [], x ∈ xs) → ∀ x ∈ xs, x ∈ cs.getD k [] := by
    intro k hk hq x hx
    refine Classical.byContradiction fun hc => ?_
    obtain ⟨j, hj, rfl⟩ := List.getElem_of_mem hx
    have : failsS cs (xs.take j ++ xs.drop (j + 1)) = true := failsS_iff.2 ⟨k, hk, fun y hy => (mem_less hxn hj).2 ⟨hq y hy, fun he => hc (by rw [← he]; exact hy)⟩⟩
    rw [hl j hj] at this
    cases this
  obtain ⟨k, ⟨hk, hq⟩, hmin⟩ := least_nat (p := fun k => k < cs.length ∧ ∀ x ∈ cs.getD k [], x ∈ xs) hf
  have hg : goodB cs ids k = true := by
    unfold goodB
    rw [Bool.and_eq_true, List.all_eq_true]
    refine ⟨subB_iff.2 fun x hx => hs.subset (hq x hx), fun j hj => ?_⟩
    rw [List.mem_range] at hj
    unfold barB sameB
    cases h1 : subB (cs.getD j []) (cs.getD k []) with
    | false => rfl
    | true =>
      have h1' := subB_iff.1 h1
      have hjx : ∀ x ∈ cs.getD j [], x ∈ xs := fun x hx => hq x (h1' x hx)
      have h2 : subB (cs.getD k []) (cs.getD j []) = true := subB_iff.2 fun x hx => hsub j hj hjx x (hq x hx)
      have h3 : ¬ j < k := fun hjk => hmin j hjk ⟨hj, hjx⟩
      rw [h2]
      simp [h3]
  have hm := leastF_mk hk hg
  have he : inOrd ids (cs.getD k []) = xs := by
    rw [← filter_own hn hs]
    exact inOrd_congr fun x _ => ⟨hq x, hsub k hk hq x⟩
  rw [he] at hm
  exact hm

theorem idsB_sub {ids xs : List ByteArray} (hs : xs.Sublist ids) (h : idsB ids = true) : idsB xs = true := by
  unfold idsB at *
  simp only [Bool.and_eq_true, decide_eq_true_eq, List.all_eq_true] at *
  exact ⟨⟨fun x hx => h.1.1 x (hs.subset hx), hs.nodup h.1.2⟩, Nat.le_trans hs.length_le h.2⟩

theorem failB_mk {cs : List (List ByteArray)} {ids : List ByteArray} (h1 : causesB cs = true) (h2 : idsB ids = true) (h3 : failsS cs ids = true) : failB cs ids = true := by
  unfold failB; rw [h1, h2, h3]; rfl
theorem failB_sub {cs : List (List ByteArray)} {ids xs : List ByteArray} (hs : xs.Sublist ids) (hi : idsB ids = true) (h : failB cs xs = true) : failB cs ids = true :=
  let ⟨h1, _, h3⟩ := failB_spec h
  failB_mk h1 hi (failsS_mono cs _ _ (fun _ hx => hs.subset hx) h3)
theorem causeB_pos {cs : List (List ByteArray)} (h : causesB cs = true) {c : List ByteArray} (hc : c ∈ cs) : 1 ≤ c.length := by
  unfold causesB at h
  rw [Bool.and_eq_true, List.all_eq_true] at h
  have := h.1 c hc
  unfold causeB at this
  simp only [Bool.and_eq_true, decide_eq_true_eq] at this
  exact this.1.1
theorem failB_none (ids : List ByteArray) : failB [] ids = false := by
  unfold failB
  rw [show failsS [] ids = false from rfl, Bool.and_false]

theorem getD_of {cs : List (List ByteArray)} {k : Nat} (hk : k < cs.length) : cs.getD k [] = cs[k] := by simp [List.getD, hk]

/-- There are least causes exactly if the tests fail. -/
theorem least_some {cs : List (List ByteArray)} {ids : List ByteArray} (h1 : causesB cs = true) (h2 : idsB ids = true) : decide (0 < (leastR cs ids).length) = failB cs ids := by
  have hR : leastR cs ids = leastF cs ids cs.length := by unfold leastR; rw [h1, h2]; rfl
  have hn := idsB_nodup h2
  rw [hR, Bool.eq_iff_iff, decide_eq_true_eq]
  constructor
  · intro h
    obtain ⟨k, hk, hg, _⟩ := leastF_mem (List.getElem_mem h)
    unfold goodB at hg
    rw [Bool.and_eq_true] at hg
    exact failB_mk h1 h2 (failsS_iff.2 ⟨k, hk, subB_iff.1 hg.1⟩)
  · intro h
    have h3 := (failB_spec h).2.2
    exact List.length_pos_of_mem (least_mem hn (shr_sub (failsS cs) ids 0) (shr_holds _ _ _ h3) (shr_least (failsS_mono cs) ids 0 hn (by omega)))

/-- Tests that are least. -/
def lstB (cs : List (List ByteArray)) (ids : List ByteArray) : Bool := failB cs ids && decide ((shr (failsS cs) ids 0).length = ids.length)
theorem lstB_shr (cs : List (List ByteArray)) (ids : List ByteArray) : lstB cs ids = (failB cs ids && decide (shrunkR cs ids = ids)) := by
  unfold lstB shrunkR
  cases h : failB cs ids with
  | false => rfl
  | true =>
    rw [if_pos rfl, Bool.true_and, Bool.true_and, decide_eq_decide]
    exact ⟨fun he => (shr_sub _ _ _).eq_of_length he, fun he => by rw [he]⟩
theorem lstB_of {cs : List (List ByteArray)} {xs : List ByteArray} (h : failB cs xs = true) (hl : ∀ j, j < xs.length → failsS cs (xs.take j ++ xs.drop (j + 1)) = false) : lstB cs xs = true := by
  unfold lstB
  rw [h, Bool.true_and, decide_eq_true_eq, shr_len]
  exact fun j _ hj => hl j hj
theorem halve_holds (f : List ByteArray → Bool) (xs : List ByteArray) (h : f xs = true) : f (halve f xs) = true := by
  unfold halve
  split
  · split
    · rename_i h1
      exact halve_holds f _ h1
    · split
      · rename_i h1
        exact halve_holds f _ h1
      · exact h
  · exact h
termination_by xs.length
decreasing_by
  all_goals simp; omega

/-- What is left of a part that fails: it fails, it is least, it is one of the least causes, and it is left of itself. -/
structure LeftOf (cs : List (List ByteArray)) (ids R : List ByteArray) : Prop where
  sub : R.Sublist ids
  fail : failB cs R = true
  least : ∀ j, j < R.length → failsS cs (R.take j ++ R.drop (j + 1)) = false
  mem : R ∈ leastR cs ids
theorem leftOf {cs : List (List ByteArray)} {ids xs : List ByteArray} (h1 : causesB cs = true) (h2 : idsB ids = true) (hs : xs.Sublist ids) (hf : failsS cs xs = true) : LeftOf cs ids (shr (failsS cs) xs 0) := by
  have hn := idsB_nodup h2
  have hsub := (shr_sub (failsS cs) xs 0).trans hs
  have hh := shr_holds (failsS cs) xs 0 hf
  have hl := shr_least (failsS_mono cs) xs 0 (hs.nodup hn) (by omega)
  refine ⟨hsub, failB_mk h1 (idsB_sub hsub h2) hh, hl, ?_⟩
  unfold leastR
  rw [h1, h2]
  exact least_mem hn hsub hh hl
theorem shrunk_left {cs : List (List ByteArray)} {ids : List ByteArray} (h : failB cs ids = true) : LeftOf cs ids (shrunkR cs ids) := by
  obtain ⟨h1, h2, h3⟩ := failB_spec h
  unfold shrunkR
  rw [if_pos h]
  exact leftOf h1 h2 (List.Sublist.refl _) h3
theorem halved_left {cs : List (List ByteArray)} {ids : List ByteArray} (h : failB cs ids = true) : LeftOf cs ids (halvedR cs ids) := by
  obtain ⟨h1, h2, h3⟩ := failB_spec h
  unfold halvedR
  rw [if_pos h]
  exact leftOf h1 h2 (halve_sub _ _) (halve_holds _ _ h3)
theorem LeftOf.lst {cs : List (List ByteArray)} {ids R : List ByteArray} (h : LeftOf cs ids R) : lstB cs R = true := lstB_of h.fail h.least
theorem LeftOf.shr {cs : List (List ByteArray)} {ids R : List ByteArray} (h : LeftOf cs ids R) : shr (failsS cs) R 0 = R := by
  have := h.lst
  unfold lstB at this
  rw [Bool.and_eq_true, decide_eq_true_eq] at this
  exact (shr_sub _ _ _).eq_of_length this.2
theorem LeftOf.halve {cs : List (List ByteArray)} {ids R : List ByteArray} (h : LeftOf cs ids R) : halvedR cs R = R := by
  have hn := idsB_nodup (failB_spec h.fail).2.1
  have hh : Go.Proofs.Ytbbhhdcimmofoaa.halve (failsS cs) R = R := by
    unfold Go.Proofs.Ytbbhhdcimmofoaa.halve
    split
    · rename_i h1
      have ht : failsS cs (R.take (R.length / 2)) = false := by
        cases hq : failsS cs (R.take (R.length / 2)) with
        | false => rfl
        | true =>
          have := failsS_mono cs _ (R.take (R.length - 1) ++ R.drop (R.length - 1 + 1)) (fun x hx => by
            obtain ⟨i, hi, rfl⟩ := List.getElem_of_mem hx
            rw [List.length_take] at hi
            rw [List.getElem_take, mem_less hn (by omega)]
            refine ⟨List.getElem_mem _, fun he => ?_⟩
            have := (List.getElem_inj hn).1 he
            omega) hq
          rw [h.least _ (by omega)] at this
          cases this
      have hd : failsS cs (R.drop (R.length / 2)) = false := by
        cases hq : failsS cs (R.drop (R.length / 2)) with
        | false => rfl
        | true =>
          have := failsS_mono cs _ (R.take 0 ++ R.drop (0 + 1)) (fun x hx => by
            obtain ⟨i, hi, rfl⟩ := List.getElem_of_mem hx
            rw [List.length_drop] at hi
            rw [List.getElem_drop, mem_less hn (by omega)]
            refine ⟨List.getElem_mem _, fun he => ?_⟩
            have := (List.getElem_inj hn).1 he
            omega) hq
          rw [h.least _ (by omega)] at this
          cases this
      rw [ht, hd]
      rfl
    · rfl
  unfold halvedR
  rw [if_pos h.fail, hh, h.shr]

/-- Each of the least causes is least. -/
theorem leastR_lst {cs : List (List ByteArray)} {ids x : List ByteArray} (hx : x ∈ leastR cs ids) : lstB cs x = true ∧ x.Sublist ids := by
  unfold leastR at hx
  split at hx
  · rename_i hc
    rw [Bool.and_eq_true] at hc
    have hn := idsB_nodup hc.2
    obtain ⟨k, hk, hg, rfl⟩ := leastF_mem hx
    have hsub : (inOrd ids (cs.getD k [])).Sublist ids := List.filter_sublist
    have hids := idsB_sub hsub hc.2
    have hnn := hsub.nodup hn
    have ht := least_test hc.1 hc.2 hk
    rw [hg] at ht
    have hg2 := hg
    unfold goodB at hg2
    rw [Bool.and_eq_true] at hg2
    have hsb := subB_iff.1 hg2.1
    refine ⟨?_, hsub⟩
    have hF : failB cs (inOrd ids (cs.getD k [])) = true := failB_mk hc.1 hids (failsS_iff.2 ⟨k, hk, fun y hy => inOrd_mem.2 ⟨hsb y hy, hy⟩⟩)
    have ht := ht.symm
    simp only [Bool.and_eq_true, decide_eq_true_eq] at ht
    unfold lstB
    rw [hF, Bool.true_and, decide_eq_true_eq, ← shr_congr (fun xs hx => fails_eq hc.1 hx) _ 0 hnn, getD_of hk]
    exact ht.1.2
  · cases hx

/-- No one of the least causes has another one. -/
theorem leastR_apart {cs : List (List ByteArray)} {ids : List ByteArray} {i k : Nat} (hi : i < (leastR cs ids).length) (hk : k < (leastR cs ids).length) (hne : i ≠ k) : ¬ ∀ x ∈ (leastR cs ids)[i], x ∈ (leastR cs ids)[k] := by
  intro hq
  unfold leastR at hi hk hq
  split at hi
  · rename_i hc
    simp only [hc, if_true] at hk hq
    unfold leastF at hi hk hq
    rw [List.length_map] at hi hk
    have hnd : ((List.range cs.length).filter (goodB cs ids)).Nodup := List.filter_sublist.nodup List.nodup_range
    simp only [List.getElem_map] at hq
    have ha := List.mem_filter.1 (List.getElem_mem hi)
    have hb := List.mem_filter.1 (List.getElem_mem hk)
    have hab : ((List.range cs.length).filter (goodB cs ids))[i] ≠ ((List.range cs.length).filter (goodB cs ids))[k] := fun he => hne ((List.getElem_inj hnd).1 he)
    generalize ((List.range cs.length).filter (goodB cs ids))[i] = a at *
    generalize ((List.range cs.length).filter (goodB cs ids))[k] = b at *
    have hga := ha.2
    have hgb := hb.2
    unfold goodB at hga hgb
    rw [Bool.and_eq_true, List.all_eq_true] at hga hgb
    have hA := subB_iff.1 hga.1
    have hab2 : ∀ x ∈ cs.getD a [], x ∈ cs.getD b [] := fun x hx => (inOrd_mem.1 (hq x (inOrd_mem.2 ⟨hA x hx, hx⟩))).2
    have h1 := hgb.2 a ha.1
    unfold barB sameB at h1
    rw [subB_iff.2 hab2] at h1
    simp only [Bool.true_and, Bool.not_or, Bool.not_not, Bool.and_eq_true, Bool.not_eq_true', decide_eq_false_iff_not] at h1
    have h2 := hga.2 b hb.1
    unfold barB sameB at h2
    rw [h1.1, subB_iff.2 hab2] at h2
    simp only [Bool.true_and, Bool.not_or, Bool.not_not, Bool.and_eq_true, Bool.not_eq_true', decide_eq_false_iff_not] at h2
    omega
  · rename_i hc
    exact absurd hi (by simp)

end Go.Proofs.Ytbbhhdcimmofoaa

