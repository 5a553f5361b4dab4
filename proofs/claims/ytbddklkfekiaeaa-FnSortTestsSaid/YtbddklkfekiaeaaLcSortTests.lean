/- The law FnSortTests. -/
import Derived.Test.YtbddklkfekiaeaaRU
import Derived.Test.YtbddklkfekiaeaaUF
import Derived.Test.YtbddklkfekiaeaaUB
import Derived.Test.YtbddklkfekiaeaaYS
import Derived.Test.YtbddklkfekiaeaaYT
set_option maxHeartbeats 4000000
set_option synthInstance.maxHeartbeats 400000
set_option synthInstance.maxSize 4096
set_option linter.unusedSimpArgs false
set_option linter.unusedVariables false
namespace Go.Proofs.Ytbddklkfekiaeaa

set_option maxRecDepth 100000

theorem abin_ges {P : Program} {A : View} {K : Value → View → Prop} (t : TypeId) (x y : Operand) (a b : ByteArray) : abin P .geq t x y (.string a) (.string b) A K = K (.bool (!sLt a b)) A := rfl

theorem sort_asc {ts R : List TestD} (hR : sortR ts = R) (hv : testsB ts = true) {i : Nat} (hi : i < R.length) (h0 : 0 < i) : sLt (idD (R[i - 1]'(by omega))) (idD R[i]) = true := by
  subst hR
  obtain ⟨h1, h2, hn⟩ := testsB_len hv
  have hR : sortR ts = ssort (fun t => rankI (ts.map idD) (idD t)) ts := by unfold sortR; rw [if_pos hv]
  have hp : (sortR ts).Perm ts := by rw [hR]; exact ssort_perm _
  have hD : Desc (fun t => rankI (ts.map idD) (idD t)) (sortR ts) := by rw [hR]; exact ssort_desc _
  have hin : ∀ t, t ∈ sortR ts → idD t ∈ ts.map idD := fun t ht => List.mem_map_of_mem (hp.mem_iff.1 ht)
  have hle : rankI (ts.map idD) (idD (sortR ts)[i]) ≤ rankI (ts.map idD) (idD ((sortR ts)[i - 1]'(by omega))) := List.pairwise_iff_getElem.1 hD (i - 1) i (by omega) hi (by omega)
  have hnd : ((sortR ts).map idD).Nodup := (hp.map idD).nodup_iff.2 hn
  have hne := List.pairwise_iff_getElem.1 hnd (i - 1) i (by rw [List.length_map]; omega) (by rw [List.length_map]; omega) (by omega)
  rw [List.getElem_map, List.getElem_map] at hne
  rcases sLt_total hne with h | h
  · exact h
  · have := (rank_lt (hin _ (List.getElem_mem _)) (hin _ (List.getElem_mem _))).1 h
    omega

theorem id_inj {ts : List TestD} (hn : (ts.map idD).Nodup) {x y : TestD} (hx : x ∈ ts) (hy : y ∈ ts) (h : idD x = idD y) : x = y := by
  obtain ⟨i, hi, rfl⟩ := List.mem_iff_getElem.1 hx
  obtain ⟨j, hj, rfl⟩ := List.mem_iff_getElem.1 hy
  have key : ∀ {i j : Nat} (hi : i < ts.length) (hj : j < ts.length), i < j → idD ts[i] = idD ts[j] → False := fun {i j} hi hj hij h => by
    have := List.pairwise_iff_getElem.1 hn i j (by rw [List.length_map]; omega) (by rw [List.length_map]; omega) hij
    rw [List.getElem_map, List.getElem_map] at this
    exact this h
  rcases Nat.lt_trichotomy i j with hij | rfl | hij
  · exact (key hi hj hij h).elim
  · rfl
  · exact (key hj hi hij h.symm).elim

theorem law_FnSortTests (A : View) (v0 : Value) (x0 : List UInt8) (h0 : Sl byteS A v0 x0) : ACalls Try.prog 11 #[v0] A fun r _ => r = .bool true := by
  obtain ⟨a, c, rfl, _, _⟩ := h0.slice
  refine acalls Try.func11 rfl (by kernel_rfl) ?_
  simp (disch := omega) only [↓stq, amv_at, vls, inf, frs, mark_eq, ↓reduceIte, Nat.reduceEqDiff, ite_tt, ite_ff, eq_self, and_true, true_and, and_self, implies_true, Bool.true_eq_false, Bool.false_eq_true, decide_true, decide_false, decide_eq_true_eq, decide_eq_false_iff_not, ne_eq, not_true_eq_false, not_false_eq_true, Bool.not_eq_true', Bool.not_eq_false', beq_self_eq_true, Bool.not_true, Bool.not_false, List.getElem?_toArray, List.getElem?_cons_zero, List.getElem?_cons_succ]
  refine ⟨fun e => ?_, fun e => ?_⟩ <;> simp (disch := omega) only [↓stq, amv_at, vls, inf, frs, mark_eq, ↓reduceIte, Nat.reduceEqDiff, ite_tt, ite_ff, eq_self, and_true, true_and, and_self, implies_true, Bool.true_eq_false, Bool.false_eq_true, decide_true, decide_false, decide_eq_true_eq, decide_eq_false_iff_not, ne_eq, not_true_eq_false, not_false_eq_true, Bool.not_eq_true', Bool.not_eq_false', beq_self_eq_true, Bool.not_true, Bool.not_false, List.getElem?_toArray, List.getElem?_cons_zero, List.getElem?_cons_succ]
  refine (DrawSortTests_c A _ x0 h0).mono ?_
  rintro vt V ⟨ts, hl, hgt, hT, _⟩
  obtain ⟨at1, ct, rfl, _, _⟩ := hT.slice
  simp (disch := omega) only [↓stq, amv_at, vls, inf, frs, mark_eq, ↓reduceIte, Nat.reduceEqDiff, ite_tt, ite_ff, eq_self, and_true, true_and, and_self, implies_true, Bool.true_eq_false, Bool.false_eq_true, decide_true, decide_false, decide_eq_true_eq, decide_eq_false_iff_not, ne_eq, not_true_eq_false, not_false_eq_true, Bool.not_eq_true', Bool.not_eq_false', beq_self_eq_true, Bool.not_true, Bool.not_false, List.getElem?_toArray, List.getElem?_cons_zero, List.getElem?_cons_succ]
  refine (impl_SortTests_c V _ ts hT (by omega)).mono ?_
  rintro u0 V1 ⟨f1, l1⟩
  have hO1 : Sl testS V1 u0 (sortR ts) := OSl.toS (l1.at (i := 0) rfl)
  obtain ⟨R, hR⟩ : ∃ R, sortR ts = R := ⟨_, rfl⟩
  rw [hR] at hO1
  obtain ⟨au, cu, rfl, hcu, hRl⟩ := hO1.slice
  simp (disch := omega) only [↓stq, amv_at, vls, inf, frs, mark_eq, ↓reduceIte, Nat.reduceEqDiff, ite_tt, ite_ff, eq_self, and_true, true_and, and_self, implies_true, Bool.true_eq_false, Bool.false_eq_true, decide_true, decide_false, decide_eq_true_eq, decide_eq_false_iff_not, ne_eq, not_true_eq_false, not_false_eq_true, Bool.not_eq_true', Bool.not_eq_false', beq_self_eq_true, Bool.not_true, Bool.not_false, List.getElem?_toArray, List.getElem?_cons_zero, List.getElem?_cons_succ]
  have fin : ∀ V, Ext V1 V → ACalls Try.prog 42 #[.slice at1 ts.length ct] V fun r V' => ∃ a1 c1, r = .slice a1 R.length c1 ∧ Sl testS V' r R ∧ Ext V1 V' := fun V he => (spec_SortTests_c V _ ts ((hT.mono l1.ext).mono he)).mono fun r V' ⟨fp, l⟩ => by
    rw [hR] at l
    have hs : Sl testS V' r R := OSl.toS (l.at (i := 0) rfl)
    obtain ⟨a1, c1, h, _, _⟩ := hs.slice
    exact ⟨a1, c1, h, hs, he.trans l.ext⟩
  refine (fin V1 (Ext.refl _)).mono ?_
  rintro _ V2 ⟨aw, cw, rfl, hW2, he2⟩
  simp (disch := omega) only [↓stq, amv_at, vls, inf, frs, mark_eq, ↓reduceIte, Nat.reduceEqDiff, ite_tt, ite_ff, eq_self, and_true, true_and, and_self, implies_true, Bool.true_eq_false, Bool.false_eq_true, decide_true, decide_false, decide_eq_true_eq, decide_eq_false_iff_not, ne_eq, not_true_eq_false, not_false_eq_true, Bool.not_eq_true', Bool.not_eq_false', beq_self_eq_true, Bool.not_true, Bool.not_false, List.getElem?_toArray, List.getElem?_cons_zero, List.getElem?_cons_succ]
  refine (laws_equalTests_c V2 _ _ R (hO1.mono he2) hW2).mono ?_
  rintro _ V2' ⟨rfl, he2'⟩
  replace he2 := he2.trans he2'
  simp (disch := omega) only [↓stq, amv_at, vls, inf, frs, mark_eq, ↓reduceIte, Nat.reduceEqDiff, ite_tt, ite_ff, eq_self, and_true, true_and, and_self, implies_true, Bool.true_eq_false, Bool.false_eq_true, decide_true, decide_false, decide_eq_true_eq, decide_eq_false_iff_not, ne_eq, not_true_eq_false, not_false_eq_true, Bool.not_eq_true', Bool.not_eq_false', beq_self_eq_true, Bool.not_true, Bool.not_false, List.getElem?_toArray, List.getElem?_cons_zero, List.getElem?_cons_succ]
  refine (impl_validTests_c V2' _ ts ((hT.mono l1.ext).mono he2) (by omega)).mono ?_
  rintro _ V3 ⟨rfl, he3⟩
  simp (disch := omega) only [↓stq, amv_at, vls, inf, frs, mark_eq, ↓reduceIte, Nat.reduceEqDiff, ite_tt, ite_ff, eq_self, and_true, true_and, and_self, implies_true, Bool.true_eq_false, Bool.false_eq_true, decide_true, decide_false, decide_eq_true_eq, decide_eq_false_iff_not, ne_eq, not_true_eq_false, not_false_eq_true, Bool.not_eq_true', Bool.not_eq_false', beq_self_eq_true, Bool.not_true, Bool.not_false, List.getElem?_toArray, List.getElem?_cons_zero, List.getElem?_cons_succ]
  refine ⟨fun e1 => ?_, fun e1 => ?_⟩ <;> simp (disch := omega) only [↓stq, amv_at, vls, inf, frs, mark_eq, ↓reduceIte, Nat.reduceEqDiff, ite_tt, ite_ff, eq_self, and_true, true_and, and_self, implies_true, Bool.true_eq_false, Bool.false_eq_true, decide_true, decide_false, decide_eq_true_eq, decide_eq_false_iff_not, ne_eq, not_true_eq_false, not_false_eq_true, Bool.not_eq_true', Bool.not_eq_false', beq_self_eq_true, Bool.not_true, Bool.not_false, List.getElem?_toArray, List.getElem?_cons_zero, List.getElem?_cons_succ, e1]
  · refine (fin V3 (he2.trans he3)).mono ?_
    rintro _ V4 ⟨a1, c1, rfl, hs4, he4⟩
    simp (disch := omega) only [↓stq, amv_at, vls, inf, frs, mark_eq, ↓reduceIte, Nat.reduceEqDiff, ite_tt, ite_ff, eq_self, and_true, true_and, and_self, implies_true, Bool.true_eq_false, Bool.false_eq_true, decide_true, decide_false, decide_eq_true_eq, decide_eq_false_iff_not, ne_eq, not_true_eq_false, not_false_eq_true, Bool.not_eq_true', Bool.not_eq_false', beq_self_eq_true, Bool.not_true, Bool.not_false, List.getElem?_toArray, List.getElem?_cons_zero, List.getElem?_cons_succ]
    refine (laws_equalTests_c V4 _ _ R (hO1.mono he4) hs4).mono ?_
    rintro _ V4 ⟨rfl, _⟩
    simp (disch := omega) only [↓stq, amv_at, vls, inf, frs, mark_eq, ↓reduceIte, Nat.reduceEqDiff, ite_tt, ite_ff, eq_self, and_true, true_and, and_self, implies_true, Bool.true_eq_false, Bool.false_eq_true, decide_true, decide_false, decide_eq_true_eq, decide_eq_false_iff_not, ne_eq, not_true_eq_false, not_false_eq_true, Bool.not_eq_true', Bool.not_eq_false', beq_self_eq_true, Bool.not_true, Bool.not_false, List.getElem?_toArray, List.getElem?_cons_zero, List.getElem?_cons_succ]
  have hRe : R = ssort (fun t => rankI (ts.map idD) (idD t)) ts := by rw [← hR]; unfold sortR; rw [if_pos e1]
  have hperm : R.Perm ts := by rw [hRe]; exact ssort_perm _
  have hRv : testsB R = true := testsB_perm hperm e1
  have hRlen : R.length = ts.length := hperm.length_eq
  have hasc : ∀ {i : Nat} (hi : i < R.length), 0 < i → sLt (idD (R[i - 1]'(by omega))) (idD R[i]) = true := fun hi h => sort_asc hR e1 hi h
  have hE3 := he2.trans he3
  refine (impl_IdsOf_c V3 _ R (hO1.mono hE3) (by omega)).mono ?_
  rintro u4 V4 ⟨f4, l4⟩
  have hI4 : Sl strS V4 u4 (idsR R) := OSl.toS (l4.at (i := 0) rfl)
  rw [idsR_of hRv] at hI4
  obtain ⟨ids, hids⟩ : ∃ ids, R.map idD = ids := ⟨_, rfl⟩
  rw [hids] at hI4
  have hil : ids.length = R.length := by rw [← hids, List.length_map]
  obtain ⟨a4, c4, rfl, _, hl4⟩ := hI4.slice
  have hE4 := hE3.trans l4.ext
  clear l4
  simp (disch := omega) only [↓stq, amv_at, vls, inf, frs, mark_eq, ↓reduceIte, Nat.reduceEqDiff, ite_tt, ite_ff, eq_self, and_true, true_and, and_self, implies_true, Bool.true_eq_false, Bool.false_eq_true, decide_true, decide_false, decide_eq_true_eq, decide_eq_false_iff_not, ne_eq, not_true_eq_false, not_false_eq_true, Bool.not_eq_true', Bool.not_eq_false', beq_self_eq_true, Bool.not_true, Bool.not_false, List.getElem?_toArray, List.getElem?_cons_zero, List.getElem?_cons_succ]
  have hT4 := (hT.mono l1.ext).mono hE4
  have hO4 := hO1.mono hE4
  refine aloop (fun d fr V => ∃ k : Nat, 1 ≤ k ∧ (k ≤ R.length ∨ k = 1) ∧ d = R.length - k ∧ V = V4 ∧ fr 3 = .slice at1 ts.length ct ∧ fr 4 = .slice au R.length cu ∧ fr 5 = .slice a4 ids.length c4 ∧ fr 6 = .int .i64 k) (R.length - 1) ⟨1, by omega, .inr rfl, rfl, rfl, by rfl, by rfl, by rfl, by rfl⟩ ?_
  rintro d fr V ⟨k, hk1, hk, rfl, rfl, q3, q4, q5, q6⟩
  simp (disch := omega) only [↓stq, amv_at, vls, inf, frs, mark_eq, ↓reduceIte, Nat.reduceEqDiff, ite_tt, ite_ff, eq_self, and_true, true_and, and_self, implies_true, Bool.true_eq_false, Bool.false_eq_true, decide_true, decide_false, decide_eq_true_eq, decide_eq_false_iff_not, ne_eq, not_true_eq_false, not_false_eq_true, Bool.not_eq_true', Bool.not_eq_false', beq_self_eq_true, Bool.not_true, Bool.not_false, List.getElem?_toArray, List.getElem?_cons_zero, List.getElem?_cons_succ, q3, q4, q5, q6]
  refine ⟨fun e3 => ?_, fun e3 => ?_⟩
  · have hlt : k < R.length := by omega
    obtain ⟨adm, rfl, km, _⟩ := hI4.str (i := k) (by omega)
    obtain ⟨adm2, hq, km2, _⟩ := hI4.str (i := k - 1) (by omega)
    obtain rfl := Option.some.inj hq
    have hs : sLt (ids[k - 1]'(by omega)) (ids[k]'(by omega)) = true := by
      subst hids
      rw [List.getElem_map, List.getElem_map]
      exact hasc hlt (by omega)
    have hdd : ((k : Int) - 1).toNat = k - 1 := by omega
    simp (disch := omega) only [↓stq, amv_at, vls, inf, frs, mark_eq, ↓reduceIte, Nat.reduceEqDiff, ite_tt, ite_ff, eq_self, and_true, true_and, and_self, implies_true, Bool.true_eq_false, Bool.false_eq_true, decide_true, decide_false, decide_eq_true_eq, decide_eq_false_iff_not, ne_eq, not_true_eq_false, not_false_eq_true, Bool.not_eq_true', Bool.not_eq_false', beq_self_eq_true, Bool.not_true, Bool.not_false, List.getElem?_toArray, List.getElem?_cons_zero, List.getElem?_cons_succ, q3, q4, q5, q6]
    refine adraw_items [.q 0, .q 1, .q 2, .q 3, .l 4 false, .q 5, .q 6, .q 7, .l 8 false, .q 9] (by kernel_rfl) (by kernel_rfl) ?_
    simp (disch := omega) only [↓stq, amv_at, ↓pln, plv, nilOk, Nat.reduceBEq, Bool.or_false, Bool.or_true, Bool.false_or, Bool.true_or, vls, inf, frs, mark_eq, ↓reduceIte, Nat.reduceEqDiff, ite_tt, ite_ff, eq_self, and_true, true_and, and_self, implies_true, Bool.true_eq_false, Bool.false_eq_true, decide_true, decide_false, decide_eq_true_eq, decide_eq_false_iff_not, ne_eq, not_true_eq_false, not_false_eq_true, Bool.not_eq_true', Bool.not_eq_false', beq_self_eq_true, Bool.not_true, Bool.not_false, List.getElem?_toArray, List.getElem?_cons_zero, List.getElem?_cons_succ, q3, q4, q5, q6, km, km2, hdd, abin_ges, hs]
    exact ⟨_, by omega, k + 1, by omega, .inl (by omega), rfl, rfl⟩
  · simp (disch := omega) only [↓stq, amv_at, vls, inf, frs, mark_eq, ↓reduceIte, Nat.reduceEqDiff, ite_tt, ite_ff, eq_self, and_true, true_and, and_self, implies_true, Bool.true_eq_false, Bool.false_eq_true, decide_true, decide_false, decide_eq_true_eq, decide_eq_false_iff_not, ne_eq, not_true_eq_false, not_false_eq_true, Bool.not_eq_true', Bool.not_eq_false', beq_self_eq_true, Bool.not_true, Bool.not_false, List.getElem?_toArray, List.getElem?_cons_zero, List.getElem?_cons_succ, q3, q4, q5, q6]
    refine (impl_IdsOf_c V _ ts hT4 (by omega)).mono ?_
    rintro u7 V7 ⟨f7, l7⟩
    have hI7 : Sl strS V7 u7 (idsR ts) := OSl.toS (l7.at (i := 0) rfl)
    rw [idsR_of e1] at hI7
    obtain ⟨a7, c7, rfl, _, _⟩ := hI7.slice
    have he7 := l7.ext
    clear l7
    simp (disch := omega) only [↓stq, amv_at, vls, inf, frs, mark_eq, ↓reduceIte, Nat.reduceEqDiff, ite_tt, ite_ff, eq_self, and_true, true_and, and_self, implies_true, Bool.true_eq_false, Bool.false_eq_true, decide_true, decide_false, decide_eq_true_eq, decide_eq_false_iff_not, ne_eq, not_true_eq_false, not_false_eq_true, Bool.not_eq_true', Bool.not_eq_false', beq_self_eq_true, Bool.not_true, Bool.not_false, List.getElem?_toArray, List.getElem?_cons_zero, List.getElem?_cons_succ, q3, q4, q5, q6]
    refine (laws_sameTexts_c V7 _ _ ids _ (hI4.mono he7) hI7).mono ?_
    rintro _ V7 ⟨rfl, rfl⟩
    rw [sameT_perm (by rw [← hids]; exact hperm.map idD)]
    simp (disch := omega) only [↓stq, amv_at, vls, inf, frs, mark_eq, ↓reduceIte, Nat.reduceEqDiff, ite_tt, ite_ff, eq_self, and_true, true_and, and_self, implies_true, Bool.true_eq_false, Bool.false_eq_true, decide_true, decide_false, decide_eq_true_eq, decide_eq_false_iff_not, ne_eq, not_true_eq_false, not_false_eq_true, Bool.not_eq_true', Bool.not_eq_false', beq_self_eq_true, Bool.not_true, Bool.not_false, List.getElem?_toArray, List.getElem?_cons_zero, List.getElem?_cons_succ, q3, q4, q5, q6]
    have hgp := grpR_perm ts
    refine (impl_GroupModules_c V7 _ ts (hT4.mono he7) (by omega)).mono ?_
    rintro u8 V8 ⟨f8, l8⟩
    have hG8 : Sl testS V8 u8 (groupR ts) := OSl.toS (l8.at (i := 0) rfl)
    unfold groupR at hG8
    rw [if_pos e1] at hG8
    obtain ⟨a8, c8, rfl, _, _⟩ := hG8.slice
    have he8 := he7.trans l8.ext
    clear l8
    simp (disch := omega) only [↓stq, amv_at, vls, inf, frs, mark_eq, ↓reduceIte, Nat.reduceEqDiff, ite_tt, ite_ff, eq_self, and_true, true_and, and_self, implies_true, Bool.true_eq_false, Bool.false_eq_true, decide_true, decide_false, decide_eq_true_eq, decide_eq_false_iff_not, ne_eq, not_true_eq_false, not_false_eq_true, Bool.not_eq_true', Bool.not_eq_false', beq_self_eq_true, Bool.not_true, Bool.not_false, List.getElem?_toArray, List.getElem?_cons_zero, List.getElem?_cons_succ, q3, q4, q5, q6]
    refine (impl_SortTests_c V8 _ _ hG8 (by rw [hgp.length_eq]; omega)).mono ?_
    rintro u9 V9 ⟨f9, l9⟩
    have hsame : sortR (grpR ts) = R := by
      rw [hRe]
      unfold sortR
      rw [if_pos (testsB_perm hgp e1)]
      have hkey : (fun t => rankI ((grpR ts).map idD) (idD t)) = fun t => rankI (ts.map idD) (idD t) := funext fun t => rank_perm (hgp.map idD) _
      rw [hkey]
      refine ssort_unique hgp fun x y hx hy h => ?_
      have hx := hgp.mem_iff.1 hx
      have hy := hgp.mem_iff.1 hy
      have h := rank_inj (List.mem_map_of_mem hx) (List.mem_map_of_mem hy) h
      exact id_inj (testsB_len e1).2.2 hx hy h
    rw [hsame] at l9
    have hS9 : Sl testS V9 u9 R := OSl.toS (l9.at (i := 0) rfl)
    obtain ⟨a9, c9, rfl, _, _⟩ := hS9.slice
    have he9 := he8.trans l9.ext
    clear l9
    simp (disch := omega) only [↓stq, amv_at, vls, inf, frs, mark_eq, ↓reduceIte, Nat.reduceEqDiff, ite_tt, ite_ff, eq_self, and_true, true_and, and_self, implies_true, Bool.true_eq_false, Bool.false_eq_true, decide_true, decide_false, decide_eq_true_eq, decide_eq_false_iff_not, ne_eq, not_true_eq_false, not_false_eq_true, Bool.not_eq_true', Bool.not_eq_false', beq_self_eq_true, Bool.not_true, Bool.not_false, List.getElem?_toArray, List.getElem?_cons_zero, List.getElem?_cons_succ, q3, q4, q5, q6]
    refine (laws_equalTests_c V9 _ _ R hS9 (hO4.mono he9)).mono ?_
    rintro _ V10 ⟨rfl, _⟩
    simp (disch := omega) only [↓stq, amv_at, vls, inf, frs, mark_eq, ↓reduceIte, Nat.reduceEqDiff, ite_tt, ite_ff, eq_self, and_true, true_and, and_self, implies_true, Bool.true_eq_false, Bool.false_eq_true, decide_true, decide_false, decide_eq_true_eq, decide_eq_false_iff_not, ne_eq, not_true_eq_false, not_false_eq_true, Bool.not_eq_true', Bool.not_eq_false', beq_self_eq_true, Bool.not_true, Bool.not_false, List.getElem?_toArray, List.getElem?_cons_zero, List.getElem?_cons_succ, q3, q4, q5, q6]

end Go.Proofs.Ytbddklkfekiaeaa

