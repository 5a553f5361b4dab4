/- The law FnSuiteProblems. -/
import Derived.Test.YtjojofnkgeiadaaZ8
import Derived.Test.YtjojofnkgeiadaaEQ
set_option maxHeartbeats 4000000
set_option synthInstance.maxHeartbeats 400000
set_option synthInstance.maxSize 4096
set_option linter.unusedSimpArgs false
set_option linter.unusedVariables false
namespace Go.Proofs.Ytjojofnkgeiadaa

set_option maxRecDepth 100000

noncomputable def tidD (t : TestD) : ByteArray := if testB t then idD t else ⟨#[]⟩
theorem impl_TestId_c (A : View) (d : List Value) (x : TestD) (h : testS.rel A x d) : ACalls Try.prog 15 #[.agg d.toArray] A fun r V => r = .string (tidD x) ∧ Ext A V := by
  obtain ⟨u2, u3, rfl, z1, z2, f2, f3⟩ := testS_open h
  obtain ⟨a2, c2, rfl, _, _⟩ := f2.slice
  obtain ⟨a3, c3, rfl, _, _⟩ := f3.slice
  unfold tidD
  refine acalls Try.func15 rfl (by kernel_rfl) ?_
  simp (disch := omega) only [↓stq, amv_at, vls, inf, frs, mark_eq, ↓reduceIte, Nat.reduceEqDiff, ite_tt, ite_ff, eq_self, and_true, true_and, and_self, implies_true, Bool.true_eq_false, Bool.false_eq_true, decide_true, decide_false, decide_eq_true_eq, decide_eq_false_iff_not, ne_eq, not_true_eq_false, not_false_eq_true, Bool.not_eq_true', Bool.not_eq_false', beq_self_eq_true, Bool.not_true, Bool.not_false, List.getElem?_toArray, List.getElem?_cons_zero, List.getElem?_cons_succ]
  refine led_box (Led.nil A) rfl fun p V _ l => ?_
  have kp : V.part ⟨p, 0, none⟩ 4 = some [.string x.1, .string x.2.1, .slice a2 x.2.2.1.length c2, .slice a3 x.2.2.2.1.length c3] := l.part (i := 0) rfl rfl
  simp (disch := omega) only [↓stq, amv_at, vls, inf, frs, mark_eq, ↓reduceIte, Nat.reduceEqDiff, ite_tt, ite_ff, eq_self, and_true, true_and, and_self, implies_true, Bool.true_eq_false, Bool.false_eq_true, decide_true, decide_false, decide_eq_true_eq, decide_eq_false_iff_not, ne_eq, not_true_eq_false, not_false_eq_true, Bool.not_eq_true', Bool.not_eq_false', beq_self_eq_true, Bool.not_true, Bool.not_false, List.getElem?_toArray, List.getElem?_cons_zero, List.getElem?_cons_succ, kp]
  refine (impl_testOk_c V _ x (testS_mk z1 z2 (f2.mono l.ext) (f3.mono l.ext))).mono ?_
  rintro _ V2 ⟨rfl, he2⟩
  have kp := he2.part kp
  replace l := l.step he2
  simp (disch := omega) only [↓stq, amv_at, vls, inf, frs, mark_eq, ↓reduceIte, Nat.reduceEqDiff, ite_tt, ite_ff, eq_self, and_true, true_and, and_self, implies_true, Bool.true_eq_false, Bool.false_eq_true, decide_true, decide_false, decide_eq_true_eq, decide_eq_false_iff_not, ne_eq, not_true_eq_false, not_false_eq_true, Bool.not_eq_true', Bool.not_eq_false', beq_self_eq_true, Bool.not_true, Bool.not_false, List.getElem?_toArray, List.getElem?_cons_zero, List.getElem?_cons_succ]
  refine ⟨fun e1 => ?_, fun e1 => ?_⟩ <;> simp (disch := omega) only [↓stq, amv_at, vls, inf, frs, mark_eq, ↓reduceIte, Nat.reduceEqDiff, ite_tt, ite_ff, eq_self, and_true, true_and, and_self, implies_true, Bool.true_eq_false, Bool.false_eq_true, decide_true, decide_false, decide_eq_true_eq, decide_eq_false_iff_not, ne_eq, not_true_eq_false, not_false_eq_true, Bool.not_eq_true', Bool.not_eq_false', beq_self_eq_true, Bool.not_true, Bool.not_false, List.getElem?_toArray, List.getElem?_cons_zero, List.getElem?_cons_succ, kp]
  · rw [e1]
    exact ⟨rfl, l.ext⟩
  · refine (impl_idOf_c V2 _ x (testS_mk z1 z2 (f2.mono l.ext) (f3.mono l.ext))).mono ?_
    rintro _ V3 ⟨rfl, he3⟩
    simp (disch := omega) only [↓stq, amv_at, vls, inf, frs, mark_eq, ↓reduceIte, Nat.reduceEqDiff, ite_tt, ite_ff, eq_self, and_true, true_and, and_self, implies_true, Bool.true_eq_false, Bool.false_eq_true, decide_true, decide_false, decide_eq_true_eq, decide_eq_false_iff_not, ne_eq, not_true_eq_false, not_false_eq_true, Bool.not_eq_true', Bool.not_eq_false', beq_self_eq_true, Bool.not_true, Bool.not_false, List.getElem?_toArray, List.getElem?_cons_zero, List.getElem?_cons_succ]
    rw [e1]
    exact ⟨rfl, l.ext.trans he3⟩

theorem laws_equalProblems_c (A : View) (v u : Value) (xs : List ProblemD) (h : Sl problemS A v xs) (h' : Sl problemS A u xs) : ACalls Try.prog 13 #[v, u] A fun r A' => r = .bool true ∧ A' = A := by
  obtain ⟨a, c, rfl, hc, hl⟩ := h.slice
  obtain ⟨a2, c2, rfl, hc2, hl2⟩ := h'.slice
  refine acalls Try.func13 rfl (by kernel_rfl) ?_
  simp (disch := omega) only [↓stq, amv_at, vls, inf, frs, mark_eq, ↓reduceIte, Nat.reduceEqDiff, ite_tt, ite_ff, eq_self, and_true, true_and, and_self, implies_true, Bool.true_eq_false, Bool.false_eq_true, decide_true, decide_false, decide_eq_true_eq, decide_eq_false_iff_not, ne_eq, not_true_eq_false, not_false_eq_true, Bool.not_eq_true', Bool.not_eq_false', beq_self_eq_true, Bool.not_true, Bool.not_false, List.getElem?_toArray, List.getElem?_cons_zero, List.getElem?_cons_succ]
  refine aloop (fun d fr V => ∃ i : Nat, i ≤ xs.length ∧ d = xs.length - i ∧ V = A ∧ fr 0 = .slice a xs.length c ∧ fr 1 = .slice a2 xs.length c2 ∧ fr 5 = .int .i64 i) xs.length ⟨0, by omega, by omega, rfl, by rfl, by rfl, by rfl⟩ ?_
  rintro d fr A ⟨i, hi, rfl, rfl, h0, h1, h5⟩
  simp (disch := omega) only [↓stq, amv_at, vls, inf, frs, mark_eq, ↓reduceIte, Nat.reduceEqDiff, ite_tt, ite_ff, eq_self, and_true, true_and, and_self, implies_true, Bool.true_eq_false, Bool.false_eq_true, decide_true, decide_false, decide_eq_true_eq, decide_eq_false_iff_not, ne_eq, not_true_eq_false, not_false_eq_true, Bool.not_eq_true', Bool.not_eq_false', beq_self_eq_true, Bool.not_true, Bool.not_false, List.getElem?_toArray, List.getElem?_cons_zero, List.getElem?_cons_succ, h0, h1, h5]
  refine ⟨fun e1 => ?_, fun e1 => ?_⟩ <;> simp (disch := omega) only [↓stq, amv_at, vls, inf, frs, mark_eq, ↓reduceIte, Nat.reduceEqDiff, ite_tt, ite_ff, eq_self, and_true, true_and, and_self, implies_true, Bool.true_eq_false, Bool.false_eq_true, decide_true, decide_false, decide_eq_true_eq, decide_eq_false_iff_not, ne_eq, not_true_eq_false, not_false_eq_true, Bool.not_eq_true', Bool.not_eq_false', beq_self_eq_true, Bool.not_true, Bool.not_false, List.getElem?_toArray, List.getElem?_cons_zero, List.getElem?_cons_succ, h0, h1, h5]
  · have hlt : i < xs.length := by omega
    obtain ⟨ad, rfl, hcl, _⟩ := h.problem hlt
    obtain ⟨ad2, rfl, hcl2, _⟩ := h'.problem hlt
    refine adraw_items [.q 0, .q 1, .q 2, .l 3 false, .q 4, .q 5, .q 6, .l 7 false, .q 8] (by kernel_rfl) (by kernel_rfl) ?_
    simp (disch := omega) only [↓stq, amv_at, ↓pln, plv, nilOk, Nat.reduceBEq, Bool.or_false, Bool.or_true, Bool.false_or, Bool.true_or, vls, inf, frs, mark_eq, ↓reduceIte, Nat.reduceEqDiff, ite_tt, ite_ff, eq_self, and_true, true_and, and_self, implies_true, Bool.true_eq_false, Bool.false_eq_true, decide_true, decide_false, decide_eq_true_eq, decide_eq_false_iff_not, ne_eq, not_true_eq_false, not_false_eq_true, Bool.not_eq_true', Bool.not_eq_false', beq_self_eq_true, Bool.not_true, Bool.not_false, List.getElem?_toArray, List.getElem?_cons_zero, List.getElem?_cons_succ, h0, h1, h5, hcl, hcl2, nePb, Bool.and_self]
    exact ⟨_, by omega, i + 1, by omega, rfl, rfl⟩

/-- Each of the problems has an owner. -/
theorem prob_owner {x : SuiteD} (hF : formedB x = true) {p : ProblemD} (hp : p ∈ probR x) : (x.1.any (fun f => decide (f.1 = p.2.1)) || x.2.1.any (fun t => decide (tidD t = p.2.1) && decide (p.1 = 0))) = true := by
  have hf := formed_of hF
  unfold probR at hp
  rcases List.mem_append.1 hp with hp | hp
  · obtain ⟨f, hfm, hp⟩ := List.mem_flatMap.1 hp
    have : p.2.1 = f.1 := by
      unfold prFix at hp
      rcases List.mem_append.1 hp with hp | hp
      · obtain ⟨nd, _, hp⟩ := List.mem_flatMap.1 hp
        unfold prNeed at hp
        split at hp
        · rw [List.mem_singleton.1 hp]
        · split at hp
          · rw [List.mem_singleton.1 hp]
          · exact (List.not_mem_nil hp).elim
      · split at hp
        · rw [List.mem_singleton.1 hp]
        · exact (List.not_mem_nil hp).elim
    rw [Bool.or_eq_true]
    exact .inl (List.any_eq_true.2 ⟨f, hfm, decide_eq_true this.symm⟩)
  · obtain ⟨t, htm, hp⟩ := List.mem_flatMap.1 hp
    have : p.2.1 = idD t ∧ p.1 = 0 := by
      unfold prTest at hp
      obtain ⟨nd, _, hp⟩ := List.mem_flatMap.1 hp
      unfold prTestN at hp
      split at hp
      · rw [List.mem_singleton.1 hp]; exact ⟨rfl, rfl⟩
      · exact (List.not_mem_nil hp).elim
    have ht : tidD t = idD t := by unfold tidD; rw [if_pos (hf.ts t htm).1]
    rw [Bool.or_eq_true]
    refine .inr (List.any_eq_true.2 ⟨t, htm, ?_⟩)
    rw [ht, Bool.and_eq_true]
    exact ⟨decide_eq_true this.1.symm, decide_eq_true this.2⟩

theorem any_take {α : Type} {p : α → Bool} {xs : List α} {i : Nat} (h : i < xs.length) : (xs.take (i + 1)).any p = ((xs.take i).any p || p xs[i]) := by
  rw [List.take_succ_eq_append_getElem h, List.any_append]
  simp

theorem law_FnSuiteProblems (A : View) (v0 : Value) (x0 : List UInt8) (h0 : Sl byteS A v0 x0) : ACalls Try.prog 3 #[v0] A fun r _ => r = .bool true := by
  obtain ⟨a, c, rfl, _, _⟩ := h0.slice
  refine acalls Try.func3 rfl (by kernel_rfl) ?_
  simp (disch := omega) only [↓stq, amv_at, vls, inf, frs, mark_eq, ↓reduceIte, Nat.reduceEqDiff, ite_tt, ite_ff, eq_self, and_true, true_and, and_self, implies_true, Bool.true_eq_false, Bool.false_eq_true, decide_true, decide_false, decide_eq_true_eq, decide_eq_false_iff_not, ne_eq, not_true_eq_false, not_false_eq_true, Bool.not_eq_true', Bool.not_eq_false', beq_self_eq_true, Bool.not_true, Bool.not_false, List.getElem?_toArray, List.getElem?_cons_zero, List.getElem?_cons_succ]
  refine ⟨fun e => ?_, fun e => ?_⟩ <;> simp (disch := omega) only [↓stq, amv_at, vls, inf, frs, mark_eq, ↓reduceIte, Nat.reduceEqDiff, ite_tt, ite_ff, eq_self, and_true, true_and, and_self, implies_true, Bool.true_eq_false, Bool.false_eq_true, decide_true, decide_false, decide_eq_true_eq, decide_eq_false_iff_not, ne_eq, not_true_eq_false, not_false_eq_true, Bool.not_eq_true', Bool.not_eq_false', beq_self_eq_true, Bool.not_true, Bool.not_false, List.getElem?_toArray, List.getElem?_cons_zero, List.getElem?_cons_succ]
  refine (DrawSuiteProblems_c A _ x0 h0).mono ?_
  rintro _ B ⟨fp, x, d, rfl, hg, lB⟩
  have hS : suiteS.rel B x d := suiteO_S (lB.at (i := 0) rfl)
  clear lB
  obtain ⟨u0, u1, rfl, g0, g1⟩ := suiteS_open hS
  obtain ⟨a0, c0, rfl, _, _⟩ := g0.slice
  obtain ⟨a1, c1, rfl, _, _⟩ := g1.slice
  have hl0 := hg.l0
  have hl1 := hg.l1
  simp (disch := omega) only [↓stq, amv_at, vls, inf, frs, mark_eq, ↓reduceIte, Nat.reduceEqDiff, ite_tt, ite_ff, eq_self, and_true, true_and, and_self, implies_true, Bool.true_eq_false, Bool.false_eq_true, decide_true, decide_false, decide_eq_true_eq, decide_eq_false_iff_not, ne_eq, not_true_eq_false, not_false_eq_true, Bool.not_eq_true', Bool.not_eq_false', beq_self_eq_true, Bool.not_true, Bool.not_false, List.getElem?_toArray, List.getElem?_cons_zero, List.getElem?_cons_succ]
  refine led_alloc zc26 (Led.nil B) fun q V _ l => ?_
  simp (disch := omega) only [↓stq, amv_at, vls, inf, frs, mark_eq, ↓reduceIte, Nat.reduceEqDiff, ite_tt, ite_ff, eq_self, and_true, true_and, and_self, implies_true, Bool.true_eq_false, Bool.false_eq_true, decide_true, decide_false, decide_eq_true_eq, decide_eq_false_iff_not, ne_eq, not_true_eq_false, not_false_eq_true, Bool.not_eq_true', Bool.not_eq_false', beq_self_eq_true, Bool.not_true, Bool.not_false, List.getElem?_toArray, List.getElem?_cons_zero, List.getElem?_cons_succ]
  refine led_storeAll l 0 rfl sz26 rfl rfl (by simp [Value.oneCell']) fun V l => ?_
  have kp : V.part ⟨q, 0, none⟩ 2 = some [.slice a0 x.1.length c0, .slice a1 x.2.1.length c1] := l.part (i := 0) rfl rfl
  simp (disch := omega) only [↓stq, amv_at, vls, inf, frs, mark_eq, ↓reduceIte, Nat.reduceEqDiff, ite_tt, ite_ff, eq_self, and_true, true_and, and_self, implies_true, Bool.true_eq_false, Bool.false_eq_true, decide_true, decide_false, decide_eq_true_eq, decide_eq_false_iff_not, ne_eq, not_true_eq_false, not_false_eq_true, Bool.not_eq_true', Bool.not_eq_false', beq_self_eq_true, Bool.not_true, Bool.not_false, List.getElem?_toArray, List.getElem?_cons_zero, List.getElem?_cons_succ, kp]
  refine (impl_SuiteProblems_c V _ x (suiteS_mk (g0.mono l.ext) (g1.mono l.ext)) (by omega) (by omega)).mono ?_
  rintro u2 V2 ⟨f2, l2⟩
  obtain ⟨R, hR⟩ : ∃ R, probsR (formedB x) (probR x) = R := ⟨_, rfl⟩
  have hRl : R.length ≤ 70 := hR ▸ probsR_len x
  rw [hR] at l2
  obtain ⟨au, cu, rfl, _, _⟩ := (OSl.toS (show OSl 35 problemO V2 f2 u2 R from l2.at (i := 0) rfl)).slice
  replace l := l.append l2
  have kp : V2.part ⟨q, 0, none⟩ 2 = some [.slice a0 x.1.length c0, .slice a1 x.2.1.length c1] := l.part (i := 1) rfl rfl
  simp (disch := omega) only [↓stq, amv_at, vls, inf, frs, mark_eq, ↓reduceIte, Nat.reduceEqDiff, ite_tt, ite_ff, eq_self, and_true, true_and, and_self, implies_true, Bool.true_eq_false, Bool.false_eq_true, decide_true, decide_false, decide_eq_true_eq, decide_eq_false_iff_not, ne_eq, not_true_eq_false, not_false_eq_true, Bool.not_eq_true', Bool.not_eq_false', beq_self_eq_true, Bool.not_true, Bool.not_false, List.getElem?_toArray, List.getElem?_cons_zero, List.getElem?_cons_succ, kp]
  refine (spec_SuiteProblems_c V2 _ x (suiteS_mk (g0.mono l.ext) (g1.mono l.ext))).mono ?_
  rintro u3 V3 ⟨f3, l3⟩
  rw [hR] at l3
  obtain ⟨aw, cw, rfl, _, _⟩ := (OSl.toS (show OSl 35 problemO V3 f3 u3 R from l3.at (i := 0) rfl)).slice
  have hW : Sl problemS V3 (.slice aw R.length cw) R := OSl.toS (l3.at (i := 0) rfl)
  replace l := l.step l3.ext
  simp (disch := omega) only [↓stq, amv_at, vls, inf, frs, mark_eq, ↓reduceIte, Nat.reduceEqDiff, ite_tt, ite_ff, eq_self, and_true, true_and, and_self, implies_true, Bool.true_eq_false, Bool.false_eq_true, decide_true, decide_false, decide_eq_true_eq, decide_eq_false_iff_not, ne_eq, not_true_eq_false, not_false_eq_true, Bool.not_eq_true', Bool.not_eq_false', beq_self_eq_true, Bool.not_true, Bool.not_false, List.getElem?_toArray, List.getElem?_cons_zero, List.getElem?_cons_succ]
  refine (laws_equalProblems_c V3 _ _ R (OSl.toS (l.at (i := 0) rfl)) hW).mono ?_
  rintro _ V3 ⟨rfl, rfl⟩
  have hall : ∀ p, p ∈ R → (x.1.any (fun f => decide (f.1 = p.2.1)) || x.2.1.any (fun t => decide (tidD t = p.2.1) && decide (p.1 = 0))) = true := fun p hp => by
    rw [← hR] at hp
    unfold probsR at hp
    split at hp
    · rename_i hF
      exact prob_owner hF hp
    · exact (List.not_mem_nil hp).elim
  have hown : ∀ k (hk : k < R.length), (x.1.any (fun f => decide (f.1 = (R[k]).2.1)) || x.2.1.any (fun t => decide (tidD t = (R[k]).2.1) && decide ((R[k]).1 = 0))) = true := fun k hk => hall _ (List.getElem_mem hk)
  have hval : validB x = true → R.length = 0 := fun hv => by
    rw [← hR]
    unfold validB at hv
    rw [Bool.and_eq_true, decide_eq_true_eq] at hv
    unfold probsR
    rw [hv.1, if_pos rfl]
    exact hv.2
  clear hR hW l3 l2 kp
  simp (disch := omega) only [↓stq, amv_at, vls, inf, frs, mark_eq, ↓reduceIte, Nat.reduceEqDiff, ite_tt, ite_ff, eq_self, and_true, true_and, and_self, implies_true, Bool.true_eq_false, Bool.false_eq_true, decide_true, decide_false, decide_eq_true_eq, decide_eq_false_iff_not, ne_eq, not_true_eq_false, not_false_eq_true, Bool.not_eq_true', Bool.not_eq_false', beq_self_eq_true, Bool.not_true, Bool.not_false, List.getElem?_toArray, List.getElem?_cons_zero, List.getElem?_cons_succ]
  refine aloop (fun dm fr W => ∃ k : Nat, k ≤ R.length ∧ dm = R.length - k ∧ Led B [osl 35 problemO f2 (.slice au R.length cu) R, bx q ⟨26, [.slice a0 x.1.length c0, .slice a1 x.2.1.length c1], 2, true⟩] W ∧ fr 3 = .pointer (some ⟨q, 0, none⟩) ∧ fr 4 = .slice au R.length cu ∧ fr 5 = .int .i64 k) R.length ⟨0, by omega, by omega, l, by rfl, by rfl, by rfl⟩ ?_
  clear l
  rintro dm fr V ⟨k, hk, rfl, l, h3, h4, h5⟩
  simp (disch := omega) only [↓stq, amv_at, vls, inf, frs, mark_eq, ↓reduceIte, Nat.reduceEqDiff, ite_tt, ite_ff, eq_self, and_true, true_and, and_self, implies_true, Bool.true_eq_false, Bool.false_eq_true, decide_true, decide_false, decide_eq_true_eq, decide_eq_false_iff_not, ne_eq, not_true_eq_false, not_false_eq_true, Bool.not_eq_true', Bool.not_eq_false', beq_self_eq_true, Bool.not_true, Bool.not_false, List.getElem?_toArray, List.getElem?_cons_zero, List.getElem?_cons_succ, h3, h4, h5]
  refine ⟨fun e1 => ?_, fun e1 => ?_⟩
  · have hlt : k < R.length := by omega
    have hok := hown k hlt
    simp (disch := omega) only [↓stq, amv_at, vls, inf, frs, mark_eq, ↓reduceIte, Nat.reduceEqDiff, ite_tt, ite_ff, eq_self, and_true, true_and, and_self, implies_true, Bool.true_eq_false, Bool.false_eq_true, decide_true, decide_false, decide_eq_true_eq, decide_eq_false_iff_not, ne_eq, not_true_eq_false, not_false_eq_true, Bool.not_eq_true', Bool.not_eq_false', beq_self_eq_true, Bool.not_true, Bool.not_false, List.getElem?_toArray, List.getElem?_cons_zero, List.getElem?_cons_succ, h3, h4, h5]
    refine aloop (fun dm fr W => ∃ (i : Nat) (b : Bool), i ≤ x.1.length ∧ dm = x.1.length - i ∧ W = V ∧ fr 3 = .pointer (some ⟨q, 0, none⟩) ∧ fr 4 = .slice au R.length cu ∧ fr 5 = .int .i64 k ∧ fr 6 = .bool b ∧ fr 7 = .int .i64 i ∧ b = (x.1.take i).any (fun f => decide (f.1 = (R[k]).2.1))) x.1.length ⟨0, false, by omega, by omega, rfl, h3, h4, h5, by rfl, by rfl, rfl⟩ ?_
    clear h3 h4 h5
    rintro dm fr V ⟨i, b, hi, rfl, rfl, h3, h4, h5, h6, h7, hb⟩
    have w0 := l.cell (i := 1) rfl (o := 0) rfl rfl
    have w1 := l.cell (i := 1) rfl (o := 1) rfl rfl
    obtain ⟨adp, rfl, hcp, _⟩ := (OSl.toS (show OSl 35 problemO V f2 _ R from l.at (i := 0) rfl)).problem hlt
    have p0 := View.part_cell hcp (j := 0) rfl
    have p1 := View.part_cell hcp (j := 1) rfl
    simp (disch := omega) only [↓stq, amv_at, vls, inf, frs, mark_eq, ↓reduceIte, Nat.reduceEqDiff, ite_tt, ite_ff, eq_self, and_true, true_and, and_self, implies_true, Bool.true_eq_false, Bool.false_eq_true, decide_true, decide_false, decide_eq_true_eq, decide_eq_false_iff_not, ne_eq, not_true_eq_false, not_false_eq_true, Bool.not_eq_true', Bool.not_eq_false', beq_self_eq_true, Bool.not_true, Bool.not_false, List.getElem?_toArray, List.getElem?_cons_zero, List.getElem?_cons_succ, h3, h4, h5, h6, h7, add_at, w0]
    refine ⟨fun e2 => ?_, fun e2 => ?_⟩
    · have hil : i < x.1.length := by omega
      have htk := any_take (p := fun f : FixtureD => decide (f.1 = (R[k]).2.1)) hil
      obtain ⟨ad, u2, rfl, hclA, y1, y2, _⟩ := (g0.mono l.ext).fixture hil
      have s0 := View.part_cell hclA (j := 0) rfl
      simp (disch := omega) only [↓stq, amv_at, vls, inf, frs, mark_eq, ↓reduceIte, Nat.reduceEqDiff, ite_tt, ite_ff, eq_self, and_true, true_and, and_self, implies_true, Bool.true_eq_false, Bool.false_eq_true, decide_true, decide_false, decide_eq_true_eq, decide_eq_false_iff_not, ne_eq, not_true_eq_false, not_false_eq_true, Bool.not_eq_true', Bool.not_eq_false', beq_self_eq_true, Bool.not_true, Bool.not_false, List.getElem?_toArray, List.getElem?_cons_zero, List.getElem?_cons_succ, h3, h4, h5, h6, h7]
      refine adraw_items [.q 0, .q 1, .q 2, .l 3 false, .q 4, .q 5, .q 6, .l 7 false, .q 8, .q 9, .q 10, .q 11, .l 12 false, .q 13, .q 14, .q 15] (by kernel_rfl) (by kernel_rfl) ?_
      cases b with
      | true =>
        simp (disch := omega) only [↓stq, amv_at, ↓pln, plv, nilOk, Nat.reduceBEq, Bool.or_false, Bool.or_true, Bool.false_or, Bool.true_or, vls, inf, frs, mark_eq, ↓reduceIte, Nat.reduceEqDiff, ite_tt, ite_ff, eq_self, and_true, true_and, and_self, implies_true, Bool.true_eq_false, Bool.false_eq_true, decide_true, decide_false, decide_eq_true_eq, decide_eq_false_iff_not, ne_eq, not_true_eq_false, not_false_eq_true, Bool.not_eq_true', Bool.not_eq_false', beq_self_eq_true, Bool.not_true, Bool.not_false, List.getElem?_toArray, List.getElem?_cons_zero, List.getElem?_cons_succ, h3, h4, h5, h6, h7]
        exact ⟨_, by omega, i + 1, _, by omega, rfl, rfl, rfl, by rw [htk, ← hb]; rfl⟩
      | false =>
        simp (disch := omega) only [↓stq, amv_at, ↓pln, plv, nilOk, Nat.reduceBEq, Bool.or_false, Bool.or_true, Bool.false_or, Bool.true_or, vls, inf, frs, mark_eq, ↓reduceIte, Nat.reduceEqDiff, ite_tt, ite_ff, eq_self, and_true, true_and, and_self, implies_true, Bool.true_eq_false, Bool.false_eq_true, decide_true, decide_false, decide_eq_true_eq, decide_eq_false_iff_not, ne_eq, not_true_eq_false, not_false_eq_true, Bool.not_eq_true', Bool.not_eq_false', beq_self_eq_true, Bool.not_true, Bool.not_false, List.getElem?_toArray, List.getElem?_cons_zero, List.getElem?_cons_succ, h3, h4, h5, h6, h7, add_at, w0, s0, p1]
        exact ⟨_, by omega, i + 1, _, by omega, rfl, rfl, rfl, by rw [htk, ← hb]; rfl⟩
    · rw [List.take_of_length_le (by omega)] at hb
      simp (disch := omega) only [↓stq, amv_at, vls, inf, frs, mark_eq, ↓reduceIte, Nat.reduceEqDiff, ite_tt, ite_ff, eq_self, and_true, true_and, and_self, implies_true, Bool.true_eq_false, Bool.false_eq_true, decide_true, decide_false, decide_eq_true_eq, decide_eq_false_iff_not, ne_eq, not_true_eq_false, not_false_eq_true, Bool.not_eq_true', Bool.not_eq_false', beq_self_eq_true, Bool.not_true, Bool.not_false, List.getElem?_toArray, List.getElem?_cons_zero, List.getElem?_cons_succ, h3, h4, h5, h6, h7]
      refine aloop (fun dm fr W => ∃ (i : Nat) (b2 : Bool), i ≤ x.2.1.length ∧ dm = x.2.1.length - i ∧ Led B [osl 35 problemO f2 (.slice (some adp) R.length cu) R, bx q ⟨26, [.slice a0 x.1.length c0, .slice a1 x.2.1.length c1], 2, true⟩] W ∧ fr 3 = .pointer (some ⟨q, 0, none⟩) ∧ fr 4 = .slice (some adp) R.length cu ∧ fr 5 = .int .i64 k ∧ fr 6 = .bool b2 ∧ fr 8 = .int .i64 i ∧ b2 = (b || (x.2.1.take i).any (fun t => decide (tidD t = (R[k]).2.1) && decide ((R[k]).1 = 0)))) x.2.1.length ⟨0, b, by omega, by omega, l, h3, h4, h5, h6, by rfl, by simp⟩ ?_
      clear l h3 h4 h5 h6 h7 w0 w1 hcp p0 p1
      rintro dm fr V ⟨i, b2, hi, rfl, l, h3, h4, h5, h6, h8, hb2⟩
      have w1 := l.cell (i := 1) rfl (o := 1) rfl rfl
      obtain ⟨_, hq, hcp, _⟩ := (OSl.toS (show OSl 35 problemO V f2 _ R from l.at (i := 0) rfl)).problem hlt
      obtain rfl := Option.some.inj hq
      have p0 := View.part_cell hcp (j := 0) rfl
      have p1 := View.part_cell hcp (j := 1) rfl
      simp (disch := omega) only [↓stq, amv_at, vls, inf, frs, mark_eq, ↓reduceIte, Nat.reduceEqDiff, ite_tt, ite_ff, eq_self, and_true, true_and, and_self, implies_true, Bool.true_eq_false, Bool.false_eq_true, decide_true, decide_false, decide_eq_true_eq, decide_eq_false_iff_not, ne_eq, not_true_eq_false, not_false_eq_true, Bool.not_eq_true', Bool.not_eq_false', beq_self_eq_true, Bool.not_true, Bool.not_false, List.getElem?_toArray, List.getElem?_cons_zero, List.getElem?_cons_succ, h3, h4, h5, h6, h8, add_at, w1]
      refine ⟨fun e3 => ?_, fun e3 => ?_⟩
      · have hil : i < x.2.1.length := by omega
        have htk := any_take (p := fun t : TestD => decide (tidD t = (R[k]).2.1) && decide ((R[k]).1 = 0)) hil
        obtain ⟨ad, u2, u3, rfl, hclA, y1, y2, t2, t3⟩ := (g1.mono l.ext).test hil
        simp (disch := omega) only [↓stq, amv_at, vls, inf, frs, mark_eq, ↓reduceIte, Nat.reduceEqDiff, ite_tt, ite_ff, eq_self, and_true, true_and, and_self, implies_true, Bool.true_eq_false, Bool.false_eq_true, decide_true, decide_false, decide_eq_true_eq, decide_eq_false_iff_not, ne_eq, not_true_eq_false, not_false_eq_true, Bool.not_eq_true', Bool.not_eq_false', beq_self_eq_true, Bool.not_true, Bool.not_false, List.getElem?_toArray, List.getElem?_cons_zero, List.getElem?_cons_succ, h3, h4, h5, h6, h8]
        refine adraw_items [.q 0, .q 1, .q 2, .l 3 false, .q 4, .q 5, .l 6 false, .q 8, .q 9, .q 10, .q 11, .l 12 true, .c 7 [12], .q 13, .q 14, .q 15, .q 16, .q 17, .q 18, .l 19 false, .q 20, .q 21, .q 22, .q 23] (by kernel_rfl) (by kernel_rfl) ?_
        cases b2 with
        | true =>
          simp (disch := omega) only [↓stq, amv_at, ↓pln, plv, nilOk, Nat.reduceBEq, Bool.or_false, Bool.or_true, Bool.false_or, Bool.true_or, vls, inf, frs, mark_eq, ↓reduceIte, Nat.reduceEqDiff, ite_tt, ite_ff, eq_self, and_true, true_and, and_self, implies_true, Bool.true_eq_false, Bool.false_eq_true, decide_true, decide_false, decide_eq_true_eq, decide_eq_false_iff_not, ne_eq, not_true_eq_false, not_false_eq_true, Bool.not_eq_true', Bool.not_eq_false', beq_self_eq_true, Bool.not_true, Bool.not_false, List.getElem?_toArray, List.getElem?_cons_zero, List.getElem?_cons_succ, h3, h4, h5, h6, h8]
          exact ⟨_, by omega, i + 1, _, by omega, rfl, l, rfl, rfl, by rw [htk, ← Bool.or_assoc, ← hb2]; rfl⟩
        | false =>
          simp (disch := omega) only [↓stq, amv_at, ↓pln, plv, nilOk, Nat.reduceBEq, Bool.or_false, Bool.or_true, Bool.false_or, Bool.true_or, vls, inf, frs, mark_eq, ↓reduceIte, Nat.reduceEqDiff, ite_tt, ite_ff, eq_self, and_true, true_and, and_self, implies_true, Bool.true_eq_false, Bool.false_eq_true, decide_true, decide_false, decide_eq_true_eq, decide_eq_false_iff_not, ne_eq, not_true_eq_false, not_false_eq_true, Bool.not_eq_true', Bool.not_eq_false', beq_self_eq_true, Bool.not_true, Bool.not_false, List.getElem?_toArray, List.getElem?_cons_zero, List.getElem?_cons_succ, h3, h4, h5, h6, h8, add_at, w1, hclA, p0, p1]
          refine (impl_TestId_c V _ x.2.1[i] (testS_mk y1 y2 t2 t3)).mono ?_
          rintro _ V4 ⟨rfl, he4⟩
          replace l := l.step he4
          have p0 := he4.cell p0
          have p1 := he4.cell p1
          have hclA := he4.part hclA
          have w1 := l.cell (i := 1) rfl (o := 1) rfl rfl
          simp (disch := omega) only [↓stq, amv_at, ↓pln, plv, nilOk, Nat.reduceBEq, Bool.or_false, Bool.or_true, Bool.false_or, Bool.true_or, vls, inf, frs, mark_eq, ↓reduceIte, Nat.reduceEqDiff, ite_tt, ite_ff, eq_self, and_true, true_and, and_self, implies_true, Bool.true_eq_false, Bool.false_eq_true, decide_true, decide_false, decide_eq_true_eq, decide_eq_false_iff_not, ne_eq, not_true_eq_false, not_false_eq_true, Bool.not_eq_true', Bool.not_eq_false', beq_self_eq_true, Bool.not_true, Bool.not_false, List.getElem?_toArray, List.getElem?_cons_zero, List.getElem?_cons_succ, h3, h4, h5, h6, h8, add_at, w1, hclA, p0, p1]
          refine ⟨fun e4 => ?_, fun e4 => ?_⟩
          · simp (disch := omega) only [↓stq, amv_at, ↓pln, plv, nilOk, Nat.reduceBEq, Bool.or_false, Bool.or_true, Bool.false_or, Bool.true_or, vls, inf, frs, mark_eq, ↓reduceIte, Nat.reduceEqDiff, ite_tt, ite_ff, eq_self, and_true, true_and, and_self, implies_true, Bool.true_eq_false, Bool.false_eq_true, decide_true, decide_false, decide_eq_true_eq, decide_eq_false_iff_not, ne_eq, not_true_eq_false, not_false_eq_true, Bool.not_eq_true', Bool.not_eq_false', beq_self_eq_true, Bool.not_true, Bool.not_false, List.getElem?_toArray, List.getElem?_cons_zero, List.getElem?_cons_succ, h3, h4, h5, h6, h8, add_at, w1, hclA, p0, p1, e4]
            exact ⟨_, by omega, i + 1, _, by omega, rfl, l, rfl, rfl, by rw [htk, ← Bool.or_assoc, ← hb2, decide_eq_true e4]; rfl⟩
          · simp (disch := omega) only [↓stq, amv_at, ↓pln, plv, nilOk, Nat.reduceBEq, Bool.or_false, Bool.or_true, Bool.false_or, Bool.true_or, vls, inf, frs, mark_eq, ↓reduceIte, Nat.reduceEqDiff, ite_tt, ite_ff, eq_self, and_true, true_and, and_self, implies_true, Bool.true_eq_false, Bool.false_eq_true, decide_true, decide_false, decide_eq_true_eq, decide_eq_false_iff_not, ne_eq, not_true_eq_false, not_false_eq_true, Bool.not_eq_true', Bool.not_eq_false', beq_self_eq_true, Bool.not_true, Bool.not_false, List.getElem?_toArray, List.getElem?_cons_zero, List.getElem?_cons_succ, h3, h4, h5, h6, h8, add_at, w1, hclA, p0, p1, e4]
            exact ⟨_, by omega, i + 1, _, by omega, rfl, l, rfl, rfl, by rw [htk, ← Bool.or_assoc, ← hb2, decide_eq_false e4]; rfl⟩
      · rw [List.take_of_length_le (by omega), hb, hok] at hb2
        subst hb2
        simp (disch := omega) only [↓stq, amv_at, vls, inf, frs, mark_eq, ↓reduceIte, Nat.reduceEqDiff, ite_tt, ite_ff, eq_self, and_true, true_and, and_self, implies_true, Bool.true_eq_false, Bool.false_eq_true, decide_true, decide_false, decide_eq_true_eq, decide_eq_false_iff_not, ne_eq, not_true_eq_false, not_false_eq_true, Bool.not_eq_true', Bool.not_eq_false', beq_self_eq_true, Bool.not_true, Bool.not_false, List.getElem?_toArray, List.getElem?_cons_zero, List.getElem?_cons_succ, h3, h4, h5, h6, h8]
        exact ⟨_, by omega, k + 1, by omega, rfl, l, rfl⟩
  · skip
    have kp : V.part ⟨q, 0, none⟩ 2 = some [.slice a0 x.1.length c0, .slice a1 x.2.1.length c1] := l.part (i := 1) rfl rfl
    simp (disch := omega) only [↓stq, amv_at, vls, inf, frs, mark_eq, ↓reduceIte, Nat.reduceEqDiff, ite_tt, ite_ff, eq_self, and_true, true_and, and_self, implies_true, Bool.true_eq_false, Bool.false_eq_true, decide_true, decide_false, decide_eq_true_eq, decide_eq_false_iff_not, ne_eq, not_true_eq_false, not_false_eq_true, Bool.not_eq_true', Bool.not_eq_false', beq_self_eq_true, Bool.not_true, Bool.not_false, List.getElem?_toArray, List.getElem?_cons_zero, List.getElem?_cons_succ, h3, h4, h5, kp]
    refine (impl_validB_c V _ x (suiteS_mk (g0.mono l.ext) (g1.mono l.ext)) (by omega) (by omega)).mono ?_
    rintro _ V4 ⟨rfl, he4⟩
    cases hv : validB x with
    | true =>
      have := hval hv
      have h0 : (R.length : Int) = 0 := by omega
      simp (disch := omega) only [↓stq, amv_at, vls, inf, frs, mark_eq, ↓reduceIte, Nat.reduceEqDiff, ite_tt, ite_ff, eq_self, and_true, true_and, and_self, implies_true, Bool.true_eq_false, Bool.false_eq_true, decide_true, decide_false, decide_eq_true_eq, decide_eq_false_iff_not, ne_eq, not_true_eq_false, not_false_eq_true, Bool.not_eq_true', Bool.not_eq_false', beq_self_eq_true, Bool.not_true, Bool.not_false, List.getElem?_toArray, List.getElem?_cons_zero, List.getElem?_cons_succ, h3, h4, h5, h0]
    | false =>
      simp (disch := omega) only [↓stq, amv_at, vls, inf, frs, mark_eq, ↓reduceIte, Nat.reduceEqDiff, ite_tt, ite_ff, eq_self, and_true, true_and, and_self, implies_true, Bool.true_eq_false, Bool.false_eq_true, decide_true, decide_false, decide_eq_true_eq, decide_eq_false_iff_not, ne_eq, not_true_eq_false, not_false_eq_true, Bool.not_eq_true', Bool.not_eq_false', beq_self_eq_true, Bool.not_true, Bool.not_false, List.getElem?_toArray, List.getElem?_cons_zero, List.getElem?_cons_succ, h3, h4, h5]

end Go.Proofs.Ytjojofnkgeiadaa

