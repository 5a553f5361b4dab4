/- Groups of tests: the program and the reference. -/
import Derived.Test.YtbddklkfekiaeaaUE
set_option maxHeartbeats 4000000
set_option synthInstance.maxHeartbeats 400000
set_option synthInstance.maxSize 4096
set_option linter.unusedSimpArgs false
set_option linter.unusedVariables false
namespace Go.Proofs.Ytbddklkfekiaeaa

set_option maxRecDepth 100000

theorem impl_GroupModules_c (A : View) (v : Value) (ts : List TestD) (h : Sl testS A v ts) (hl : ts.length ≤ 16777215) : ACalls Try.prog 19 #[v] A fun r V => NewSl 34 testO A r V (groupR ts) := by
  obtain ⟨a, c, rfl, _, _⟩ := h.slice
  unfold groupR
  refine acalls Try.func19 rfl (by kernel_rfl) ?_
  simp (disch := omega) only [↓stq, amv_at, vls, inf, frs, mark_eq, ↓reduceIte, Nat.reduceEqDiff, ite_tt, ite_ff, eq_self, and_true, true_and, and_self, implies_true, Bool.true_eq_false, Bool.false_eq_true, decide_true, decide_false, decide_eq_true_eq, decide_eq_false_iff_not, ne_eq, not_true_eq_false, not_false_eq_true, Bool.not_eq_true', Bool.not_eq_false', beq_self_eq_true, Bool.not_true, Bool.not_false, List.getElem?_toArray, List.getElem?_cons_zero, List.getElem?_cons_succ]
  refine (impl_validTests_c A _ ts h hl).mono ?_
  rintro _ V ⟨rfl, he⟩
  simp (disch := omega) only [↓stq, amv_at, vls, inf, frs, mark_eq, ↓reduceIte, Nat.reduceEqDiff, ite_tt, ite_ff, eq_self, and_true, true_and, and_self, implies_true, Bool.true_eq_false, Bool.false_eq_true, decide_true, decide_false, decide_eq_true_eq, decide_eq_false_iff_not, ne_eq, not_true_eq_false, not_false_eq_true, Bool.not_eq_true', Bool.not_eq_false', beq_self_eq_true, Bool.not_true, Bool.not_false, List.getElem?_toArray, List.getElem?_cons_zero, List.getElem?_cons_succ]
  refine ⟨fun e1 => ?_, fun e1 => ?_⟩ <;> simp (disch := omega) only [↓stq, amv_at, vls, inf, frs, mark_eq, ↓reduceIte, Nat.reduceEqDiff, ite_tt, ite_ff, eq_self, and_true, true_and, and_self, implies_true, Bool.true_eq_false, Bool.false_eq_true, decide_true, decide_false, decide_eq_true_eq, decide_eq_false_iff_not, ne_eq, not_true_eq_false, not_false_eq_true, Bool.not_eq_true', Bool.not_eq_false', beq_self_eq_true, Bool.not_true, Bool.not_false, List.getElem?_toArray, List.getElem?_cons_zero, List.getElem?_cons_succ]
  · rw [e1]
    exact NewSl.nil he
  · rw [e1]
    obtain ⟨h1, h2, _⟩ := testsB_len e1
    refine led_lit0R (S := testS) A li23 ((Led.nil A).step he) fun b V _ l => ?_
    simp (disch := omega) only [↓stq, amv_at, vls, inf, frs, mark_eq, ↓reduceIte, Nat.reduceEqDiff, ite_tt, ite_ff, eq_self, and_true, true_and, and_self, implies_true, Bool.true_eq_false, Bool.false_eq_true, decide_true, decide_false, decide_eq_true_eq, decide_eq_false_iff_not, ne_eq, not_true_eq_false, not_false_eq_true, Bool.not_eq_true', Bool.not_eq_false', beq_self_eq_true, Bool.not_true, Bool.not_false, List.getElem?_toArray, List.getElem?_cons_zero, List.getElem?_cons_succ]
    refine (impl_modulesOf_c V _ ts (h.mono l.ext) hl).mono ?_
    rintro vm V ⟨fm, lm⟩
    replace l := l.append lm
    have hml := modsR_len ts
    obtain ⟨ms, hms⟩ : ∃ ms, modsR ts = ms := ⟨_, rfl⟩
    unfold grpR
    rw [hms] at l hml ⊢
    have hM : Sl strS V vm ms := OSl.toS (l.at (i := 0) rfl)
    obtain ⟨am, cm, rfl, _, _⟩ := hM.slice
    clear hM lm
    simp (disch := omega) only [↓stq, amv_at, vls, inf, frs, mark_eq, ↓reduceIte, Nat.reduceEqDiff, ite_tt, ite_ff, eq_self, and_true, true_and, and_self, implies_true, Bool.true_eq_false, Bool.false_eq_true, decide_true, decide_false, decide_eq_true_eq, decide_eq_false_iff_not, ne_eq, not_true_eq_false, not_false_eq_true, Bool.not_eq_true', Bool.not_eq_false', beq_self_eq_true, Bool.not_true, Bool.not_false, List.getElem?_toArray, List.getElem?_cons_zero, List.getElem?_cons_succ]
    refine aloop (fun d fr V => ∃ (k : Nat) (fp : List Nat) (w : Value), k ≤ ms.length ∧ d = ms.length - k ∧ Led A [osl 9 strO fm (.slice am ms.length cm) ms, rsl 34 testS A fp w (grpTo ts ms k 0)] V ∧ fr 0 = .slice a ts.length c ∧ fr 3 = w ∧ fr 13 = .slice am ms.length cm ∧ fr 14 = .int .i64 ms.length ∧ fr 15 = .int .i64 k) ms.length ⟨0, _, _, by omega, by omega, by rw [grpTo_zero]; exact l, by rfl, by rfl, by rfl, by rfl, by rfl⟩ ?_
    clear l
    rintro d fr V ⟨k, fp, w, hk, rfl, l, q0, q3, q13, q14, q15⟩
    simp (disch := omega) only [↓stq, amv_at, vls, inf, frs, mark_eq, ↓reduceIte, Nat.reduceEqDiff, ite_tt, ite_ff, eq_self, and_true, true_and, and_self, implies_true, Bool.true_eq_false, Bool.false_eq_true, decide_true, decide_false, decide_eq_true_eq, decide_eq_false_iff_not, ne_eq, not_true_eq_false, not_false_eq_true, Bool.not_eq_true', Bool.not_eq_false', beq_self_eq_true, Bool.not_true, Bool.not_false, List.getElem?_toArray, List.getElem?_cons_zero, List.getElem?_cons_succ, q0, q3, q13, q14, q15]
    refine ⟨fun e2 => ?_, fun e2 => ?_⟩
    · have hlk : k < ms.length := by omega
      have hM : Sl strS V (.slice am ms.length cm) ms := OSl.toS (l.at (i := 0) rfl)
      obtain ⟨adm, rfl, km, _⟩ := hM.str hlk
      simp (disch := omega) only [↓stq, amv_at, vls, inf, frs, mark_eq, ↓reduceIte, Nat.reduceEqDiff, ite_tt, ite_ff, eq_self, and_true, true_and, and_self, implies_true, Bool.true_eq_false, Bool.false_eq_true, decide_true, decide_false, decide_eq_true_eq, decide_eq_false_iff_not, ne_eq, not_true_eq_false, not_false_eq_true, Bool.not_eq_true', Bool.not_eq_false', beq_self_eq_true, Bool.not_true, Bool.not_false, List.getElem?_toArray, List.getElem?_cons_zero, List.getElem?_cons_succ, q0, q3, q13, q14, q15, km]
      refine aloop (fun d fr V => ∃ (i : Nat) (fp : List Nat) (w : Value), i ≤ ts.length ∧ d = ts.length - i ∧ Led A [osl 9 strO fm (.slice (some adm) ms.length cm) ms, rsl 34 testS A fp w (grpTo ts ms k i)] V ∧ fr 0 = .slice a ts.length c ∧ fr 3 = w ∧ fr 5 = .string ms[k] ∧ fr 13 = .slice (some adm) ms.length cm ∧ fr 14 = .int .i64 ms.length ∧ fr 15 = .int .i64 k ∧ fr 19 = .slice a ts.length c ∧ fr 20 = .int .i64 ts.length ∧ fr 21 = .int .i64 i) ts.length ⟨0, _, _, by omega, by omega, l, q0, q3, by rfl, q13, q14, q15, by rfl, by rfl, by rfl⟩ ?_
      clear l km hM q0 q3 q13 q14 q15
      rintro d fr V ⟨i, fp, w, hi, rfl, l, q0, q3, q5, q13, q14, q15, q19, q20, q21⟩
      simp (disch := omega) only [↓stq, amv_at, vls, inf, frs, mark_eq, ↓reduceIte, Nat.reduceEqDiff, ite_tt, ite_ff, eq_self, and_true, true_and, and_self, implies_true, Bool.true_eq_false, Bool.false_eq_true, decide_true, decide_false, decide_eq_true_eq, decide_eq_false_iff_not, ne_eq, not_true_eq_false, not_false_eq_true, Bool.not_eq_true', Bool.not_eq_false', beq_self_eq_true, Bool.not_true, Bool.not_false, List.getElem?_toArray, List.getElem?_cons_zero, List.getElem?_cons_succ, q0, q3, q5, q13, q14, q15, q19, q20, q21]
      refine ⟨fun e3 => ?_, fun e3 => ?_⟩
      · have hlt : i < ts.length := by omega
        have hpl := grpTo_len ts ms k i
        have hb : (ms.length + 1) * ts.length ≤ 11 * 10 := Nat.mul_le_mul (by omega) (by omega)
        have htk := grpTo_next (ts := ts) (ms := ms) (k := k) hlk hlt
        obtain ⟨ad, u2, u3, rfl, hclA, z1, z2, f2, f3⟩ := h.test hlt
        obtain ⟨a2, c2, rfl, _, _⟩ := f2.slice
        obtain ⟨a3, c3, rfl, _, _⟩ := f3.slice
        have hcl := l.ext.part hclA
        simp (disch := omega) only [↓stq, amv_at, vls, inf, frs, mark_eq, ↓reduceIte, Nat.reduceEqDiff, ite_tt, ite_ff, eq_self, and_true, true_and, and_self, implies_true, Bool.true_eq_false, Bool.false_eq_true, decide_true, decide_false, decide_eq_true_eq, decide_eq_false_iff_not, ne_eq, not_true_eq_false, not_false_eq_true, Bool.not_eq_true', Bool.not_eq_false', beq_self_eq_true, Bool.not_true, Bool.not_false, List.getElem?_toArray, List.getElem?_cons_zero, List.getElem?_cons_succ, q0, q3, q5, q13, q14, q15, q19, q20, q21, hcl]
        refine led_alloc zc34 l fun q7 V6 _ l => ?_
        simp (disch := omega) only [↓stq, amv_at, vls, inf, frs, mark_eq, ↓reduceIte, Nat.reduceEqDiff, ite_tt, ite_ff, eq_self, and_true, true_and, and_self, implies_true, Bool.true_eq_false, Bool.false_eq_true, decide_true, decide_false, decide_eq_true_eq, decide_eq_false_iff_not, ne_eq, not_true_eq_false, not_false_eq_true, Bool.not_eq_true', Bool.not_eq_false', beq_self_eq_true, Bool.not_true, Bool.not_false, List.getElem?_toArray, List.getElem?_cons_zero, List.getElem?_cons_succ, q0, q3, q5, q13, q14, q15, q19, q20, q21]
        refine led_storeAll l 0 rfl sz34 rfl rfl (by simp [Value.oneCell']) fun V7 l => ?_
        have m0 := l.cell (i := 0) rfl (o := 0) rfl rfl
        have kt : V7.part ⟨q7, 0, none⟩ 4 = some [.string (ts[i]).1, .string (ts[i]).2.1, .slice a2 (ts[i]).2.2.1.length c2, .slice a3 (ts[i]).2.2.2.1.length c3] := l.part (i := 0) rfl rfl
        simp (disch := omega) only [↓stq, amv_at, vls, inf, frs, mark_eq, ↓reduceIte, Nat.reduceEqDiff, ite_tt, ite_ff, eq_self, and_true, true_and, and_self, implies_true, Bool.true_eq_false, Bool.false_eq_true, decide_true, decide_false, decide_eq_true_eq, decide_eq_false_iff_not, ne_eq, not_true_eq_false, not_false_eq_true, Bool.not_eq_true', Bool.not_eq_false', beq_self_eq_true, Bool.not_true, Bool.not_false, List.getElem?_toArray, List.getElem?_cons_zero, List.getElem?_cons_succ, q0, q3, q5, q13, q14, q15, q19, q20, q21, add_at, m0]
        refine ⟨fun e4 => ?_, fun e4 => ?_⟩ <;> simp (disch := omega) only [↓stq, amv_at, vls, inf, frs, mark_eq, ↓reduceIte, Nat.reduceEqDiff, ite_tt, ite_ff, eq_self, and_true, true_and, and_self, implies_true, Bool.true_eq_false, Bool.false_eq_true, decide_true, decide_false, decide_eq_true_eq, decide_eq_false_iff_not, ne_eq, not_true_eq_false, not_false_eq_true, Bool.not_eq_true', Bool.not_eq_false', beq_self_eq_true, Bool.not_true, Bool.not_false, List.getElem?_toArray, List.getElem?_cons_zero, List.getElem?_cons_succ, q0, q3, q5, q13, q14, q15, q19, q20, q21, add_at, m0, kt]
        · refine led_lit li23 (by omega) rfl (fun p hp => by rcases List.mem_singleton.1 hp with rfl; exact ⟨rfl, rfl⟩) l fun bl V9 _ l => ?_
          simp (disch := omega) only [↓stq, amv_at, vls, inf, frs, mark_eq, ↓reduceIte, Nat.reduceEqDiff, ite_tt, ite_ff, eq_self, and_true, true_and, and_self, implies_true, Bool.true_eq_false, Bool.false_eq_true, decide_true, decide_false, decide_eq_true_eq, decide_eq_false_iff_not, ne_eq, not_true_eq_false, not_false_eq_true, Bool.not_eq_true', Bool.not_eq_false', beq_self_eq_true, Bool.not_true, Bool.not_false, List.getElem?_toArray, List.getElem?_cons_zero, List.getElem?_cons_succ, q0, q3, q5, q13, q14, q15, q19, q20, q21]
          refine led_appR (S := testS) (B := A) (ys := [ts[i]]) (news := [.string (ts[i]).1, .string (ts[i]).2.1, .slice a2 (ts[i]).2.2.1.length c2, .slice a3 (ts[i]).2.2.2.1.length c3]) ap23_23 (by decide) l (i := 3) rfl (lit_src4 (l.at (i := 0) rfl) rfl (by simp [Value.oneCell'])) (by have := Elems.cons (S := testS) (A := A) (x := ts[i]) (xs := []) (testS_mk z1 z2 f2 f3) .nil; simpa using this) (by rw [List.length_singleton]; omega) fun fp' w' V10 _ l => ?_
          simp (disch := omega) only [↓stq, amv_at, vls, inf, frs, mark_eq, ↓reduceIte, Nat.reduceEqDiff, ite_tt, ite_ff, eq_self, and_true, true_and, and_self, implies_true, Bool.true_eq_false, Bool.false_eq_true, decide_true, decide_false, decide_eq_true_eq, decide_eq_false_iff_not, ne_eq, not_true_eq_false, not_false_eq_true, Bool.not_eq_true', Bool.not_eq_false', beq_self_eq_true, Bool.not_true, Bool.not_false, List.getElem?_toArray, List.getElem?_cons_zero, List.getElem?_cons_succ, q0, q3, q5, q13, q14, q15, q19, q20, q21]
          rw [if_pos e4] at htk
          exact ⟨_, by omega, i + 1, fp', w', by omega, rfl, by rw [htk]; exact l.tail.tail, rfl, rfl⟩
        · rw [if_neg e4, List.append_nil] at htk
          exact ⟨_, by omega, i + 1, fp, _, by omega, rfl, by rw [htk]; exact l.tail, rfl, rfl⟩
      · have hie : i = ts.length := by omega
        subst hie
        simp (disch := omega) only [↓stq, amv_at, vls, inf, frs, mark_eq, ↓reduceIte, Nat.reduceEqDiff, ite_tt, ite_ff, eq_self, and_true, true_and, and_self, implies_true, Bool.true_eq_false, Bool.false_eq_true, decide_true, decide_false, decide_eq_true_eq, decide_eq_false_iff_not, ne_eq, not_true_eq_false, not_false_eq_true, Bool.not_eq_true', Bool.not_eq_false', beq_self_eq_true, Bool.not_true, Bool.not_false, List.getElem?_toArray, List.getElem?_cons_zero, List.getElem?_cons_succ, q0, q3, q5, q13, q14, q15, q19, q20, q21]
        exact ⟨_, by omega, k + 1, fp, w, by omega, rfl, by rw [grpTo_zero, ← grpTo_end hlk]; exact l, rfl, rfl⟩
    · have hke : k = ms.length := by omega
      subst hke
      have hpl := grpTo_len ts ms ms.length 0
      have hb : (ms.length + 1) * ts.length ≤ 11 * 10 := Nat.mul_le_mul (by omega) (by omega)
      rw [grpTo_zero, List.take_length] at l hpl
      simp (disch := omega) only [↓stq, amv_at, vls, inf, frs, mark_eq, ↓reduceIte, Nat.reduceEqDiff, ite_tt, ite_ff, eq_self, and_true, true_and, and_self, implies_true, Bool.true_eq_false, Bool.false_eq_true, decide_true, decide_false, decide_eq_true_eq, decide_eq_false_iff_not, ne_eq, not_true_eq_false, not_false_eq_true, Bool.not_eq_true', Bool.not_eq_false', beq_self_eq_true, Bool.not_true, Bool.not_false, List.getElem?_toArray, List.getElem?_cons_zero, List.getElem?_cons_succ, q0, q3, q13, q14, q15]
      have hout : Sl testS V w (ms.flatMap (ofM ts)) := RSl.toS (show RSl 34 testS A V fp w _ from l.at (i := 1) rfl) l.ext
      refine (impl_copyTests_c V _ (ms.flatMap (ofM ts)) hout (by omega) fun t ht => ?_).mono ?_
      · obtain ⟨m, _, hm⟩ := List.mem_flatMap.1 ht
        exact testB_small (h2 _ (ofM_mem.1 hm).1)
      · rintro r V2 hr
        simp (disch := omega) only [↓stq, amv_at, vls, inf, frs, mark_eq, ↓reduceIte, Nat.reduceEqDiff, ite_tt, ite_ff, eq_self, and_true, true_and, and_self, implies_true, Bool.true_eq_false, Bool.false_eq_true, decide_true, decide_false, decide_eq_true_eq, decide_eq_false_iff_not, ne_eq, not_true_eq_false, not_false_eq_true, Bool.not_eq_true', Bool.not_eq_false', beq_self_eq_true, Bool.not_true, Bool.not_false, List.getElem?_toArray, List.getElem?_cons_zero, List.getElem?_cons_succ, q0, q3, q13, q14, q15]
        exact hr.base l.ext

theorem spec_grouped_c (A : View) (v : Value) (ts : List TestD) (h : Sl testS A v ts) (e1 : testsB ts = true) : ACalls Try.prog 60 #[v] A fun r V => NewSl 34 testO A r V (grpR ts) := by
  obtain ⟨a, c, rfl, _, _⟩ := h.slice
  obtain ⟨h1, h2, _⟩ := testsB_len e1
  refine acalls Try.func60 rfl (by kernel_rfl) ?_
  simp (disch := omega) only [↓stq, amv_at, vls, inf, frs, mark_eq, ↓reduceIte, Nat.reduceEqDiff, ite_tt, ite_ff, eq_self, and_true, true_and, and_self, implies_true, Bool.true_eq_false, Bool.false_eq_true, decide_true, decide_false, decide_eq_true_eq, decide_eq_false_iff_not, ne_eq, not_true_eq_false, not_false_eq_true, Bool.not_eq_true', Bool.not_eq_false', beq_self_eq_true, Bool.not_true, Bool.not_false, List.getElem?_toArray, List.getElem?_cons_zero, List.getElem?_cons_succ]
  refine led_lit0 (O := testO) li23 (Led.nil A) fun b V _ l => ?_
  simp (disch := omega) only [↓stq, amv_at, vls, inf, frs, mark_eq, ↓reduceIte, Nat.reduceEqDiff, ite_tt, ite_ff, eq_self, and_true, true_and, and_self, implies_true, Bool.true_eq_false, Bool.false_eq_true, decide_true, decide_false, decide_eq_true_eq, decide_eq_false_iff_not, ne_eq, not_true_eq_false, not_false_eq_true, Bool.not_eq_true', Bool.not_eq_false', beq_self_eq_true, Bool.not_true, Bool.not_false, List.getElem?_toArray, List.getElem?_cons_zero, List.getElem?_cons_succ]
  refine (spec_modules_c V _ ts (h.mono l.ext) (by omega)).mono ?_
  rintro vm V ⟨fm, lm⟩
  replace l := l.append lm
  have hml := modsR_len ts
  obtain ⟨ms, hms⟩ : ∃ ms, modsR ts = ms := ⟨_, rfl⟩
  unfold grpR
  rw [hms] at l hml ⊢
  have hM : Sl strS V vm ms := OSl.toS (l.at (i := 0) rfl)
  obtain ⟨am, cm, rfl, _, _⟩ := hM.slice
  clear hM lm
  simp (disch := omega) only [↓stq, amv_at, vls, inf, frs, mark_eq, ↓reduceIte, Nat.reduceEqDiff, ite_tt, ite_ff, eq_self, and_true, true_and, and_self, implies_true, Bool.true_eq_false, Bool.false_eq_true, decide_true, decide_false, decide_eq_true_eq, decide_eq_false_iff_not, ne_eq, not_true_eq_false, not_false_eq_true, Bool.not_eq_true', Bool.not_eq_false', beq_self_eq_true, Bool.not_true, Bool.not_false, List.getElem?_toArray, List.getElem?_cons_zero, List.getElem?_cons_succ]
  refine aloop (fun d fr V => ∃ (k : Nat) (fp : List Nat) (w : Value), k ≤ ms.length ∧ d = ms.length - k ∧ Led A [osl 9 strO fm (.slice am ms.length cm) ms, osl 34 testO fp w (grpTo ts ms k 0)] V ∧ fr 0 = .slice a ts.length c ∧ fr 3 = w ∧ fr 4 = .slice am ms.length cm ∧ fr 5 = .int .i64 k) ms.length ⟨0, _, _, by omega, by omega, by rw [grpTo_zero]; exact l, by rfl, by rfl, by rfl, by rfl⟩ ?_
  clear l
  rintro d fr V ⟨k, fp, w, hk, rfl, l, q0, q3, q4, q5⟩
  simp (disch := omega) only [↓stq, amv_at, vls, inf, frs, mark_eq, ↓reduceIte, Nat.reduceEqDiff, ite_tt, ite_ff, eq_self, and_true, true_and, and_self, implies_true, Bool.true_eq_false, Bool.false_eq_true, decide_true, decide_false, decide_eq_true_eq, decide_eq_false_iff_not, ne_eq, not_true_eq_false, not_false_eq_true, Bool.not_eq_true', Bool.not_eq_false', beq_self_eq_true, Bool.not_true, Bool.not_false, List.getElem?_toArray, List.getElem?_cons_zero, List.getElem?_cons_succ, q0, q3, q4, q5]
  refine ⟨fun e2 => ?_, fun e2 => ?_⟩
  · have hlk : k < ms.length := by omega
    simp (disch := omega) only [↓stq, amv_at, vls, inf, frs, mark_eq, ↓reduceIte, Nat.reduceEqDiff, ite_tt, ite_ff, eq_self, and_true, true_and, and_self, implies_true, Bool.true_eq_false, Bool.false_eq_true, decide_true, decide_false, decide_eq_true_eq, decide_eq_false_iff_not, ne_eq, not_true_eq_false, not_false_eq_true, Bool.not_eq_true', Bool.not_eq_false', beq_self_eq_true, Bool.not_true, Bool.not_false, List.getElem?_toArray, List.getElem?_cons_zero, List.getElem?_cons_succ, q0, q3, q4, q5]
    refine aloop (fun d fr V => ∃ (i : Nat) (fp : List Nat) (w : Value), i ≤ ts.length ∧ d = ts.length - i ∧ Led A [osl 9 strO fm (.slice am ms.length cm) ms, osl 34 testO fp w (grpTo ts ms k i)] V ∧ fr 0 = .slice a ts.length c ∧ fr 3 = w ∧ fr 4 = .slice am ms.length cm ∧ fr 5 = .int .i64 k ∧ fr 6 = .int .i64 i) ts.length ⟨0, _, _, by omega, by omega, l, q0, q3, q4, q5, by rfl⟩ ?_
    clear l q0 q3 q4 q5
    rintro d fr V ⟨i, fp, w, hi, rfl, l, q0, q3, q4, q5, q6⟩
    simp (disch := omega) only [↓stq, amv_at, vls, inf, frs, mark_eq, ↓reduceIte, Nat.reduceEqDiff, ite_tt, ite_ff, eq_self, and_true, true_and, and_self, implies_true, Bool.true_eq_false, Bool.false_eq_true, decide_true, decide_false, decide_eq_true_eq, decide_eq_false_iff_not, ne_eq, not_true_eq_false, not_false_eq_true, Bool.not_eq_true', Bool.not_eq_false', beq_self_eq_true, Bool.not_true, Bool.not_false, List.getElem?_toArray, List.getElem?_cons_zero, List.getElem?_cons_succ, q0, q3, q4, q5, q6]
    refine ⟨fun e3 => ?_, fun e3 => ?_⟩
    · have hlt : i < ts.length := by omega
      have hpl := grpTo_len ts ms k i
      have hb : (ms.length + 1) * ts.length ≤ 11 * 10 := Nat.mul_le_mul (by omega) (by omega)
      have htk := grpTo_next (ts := ts) (ms := ms) (k := k) hlk hlt
      have hM : Sl strS V (.slice am ms.length cm) ms := OSl.toS (l.at (i := 0) rfl)
      obtain ⟨adm, rfl, km, _⟩ := hM.str hlk
      obtain ⟨ad, u2, u3, rfl, hclA, z1, z2, f2, f3⟩ := h.test hlt
      have hcl := l.ext.part hclA
      have m0 := View.part_cell hcl (j := 0) rfl
      simp (disch := omega) only [↓stq, amv_at, vls, inf, frs, mark_eq, ↓reduceIte, Nat.reduceEqDiff, ite_tt, ite_ff, eq_self, and_true, true_and, and_self, implies_true, Bool.true_eq_false, Bool.false_eq_true, decide_true, decide_false, decide_eq_true_eq, decide_eq_false_iff_not, ne_eq, not_true_eq_false, not_false_eq_true, Bool.not_eq_true', Bool.not_eq_false', beq_self_eq_true, Bool.not_true, Bool.not_false, List.getElem?_toArray, List.getElem?_cons_zero, List.getElem?_cons_succ, q0, q3, q4, q5, q6]
      refine adraw_items [.q 0, .q 1, .q 2, .q 3, .l 4 false, .q 5, .q 6, .q 7, .l 8 false, .q 9] (by kernel_rfl) (by kernel_rfl) ?_
      simp (disch := omega) only [↓stq, amv_at, ↓pln, plv, nilOk, Nat.reduceBEq, Bool.or_false, Bool.or_true, Bool.false_or, Bool.true_or, vls, inf, frs, mark_eq, ↓reduceIte, Nat.reduceEqDiff, ite_tt, ite_ff, eq_self, and_true, true_and, and_self, implies_true, Bool.true_eq_false, Bool.false_eq_true, decide_true, decide_false, decide_eq_true_eq, decide_eq_false_iff_not, ne_eq, not_true_eq_false, not_false_eq_true, Bool.not_eq_true', Bool.not_eq_false', beq_self_eq_true, Bool.not_true, Bool.not_false, List.getElem?_toArray, List.getElem?_cons_zero, List.getElem?_cons_succ, q0, q3, q4, q5, q6, km, m0]
      simp (disch := omega) only [↓stq, amv_at, vls, inf, frs, mark_eq, ↓reduceIte, Nat.reduceEqDiff, ite_tt, ite_ff, eq_self, and_true, true_and, and_self, implies_true, Bool.true_eq_false, Bool.false_eq_true, decide_true, decide_false, decide_eq_true_eq, decide_eq_false_iff_not, ne_eq, not_true_eq_false, not_false_eq_true, Bool.not_eq_true', Bool.not_eq_false', beq_self_eq_true, Bool.not_true, Bool.not_false, List.getElem?_toArray, List.getElem?_cons_zero, List.getElem?_cons_succ, q0, q3, q4, q5, q6]
      refine ⟨fun e4 => ?_, fun e4 => ?_⟩ <;> simp (disch := omega) only [↓stq, amv_at, vls, inf, frs, mark_eq, ↓reduceIte, Nat.reduceEqDiff, ite_tt, ite_ff, eq_self, and_true, true_and, and_self, implies_true, Bool.true_eq_false, Bool.false_eq_true, decide_true, decide_false, decide_eq_true_eq, decide_eq_false_iff_not, ne_eq, not_true_eq_false, not_false_eq_true, Bool.not_eq_true', Bool.not_eq_false', beq_self_eq_true, Bool.not_true, Bool.not_false, List.getElem?_toArray, List.getElem?_cons_zero, List.getElem?_cons_succ, q0, q3, q4, q5, q6, hcl]
      · refine (spec_copyTest_c V _ ts[i] (testS_mk z1 z2 (f2.mono l.ext) (f3.mono l.ext)) (testB_small (h2 _ (List.getElem_mem hlt)))).mono ?_
        rintro _ V3 ⟨fd, cells, rfl, l1⟩
        obtain ⟨ff2, uu2, ff3, uu3, rfl, rfl, _, _, o2, o3⟩ := testO_open (show testO.rel V3 fd ts[i] cells from l1.at (i := 0) rfl)
        obtain ⟨a2, c2, rfl, _, _⟩ := o2.toS.slice
        obtain ⟨a3, c3, rfl, _, _⟩ := o3.toS.slice
        replace l := l.append l1
        simp (disch := omega) only [↓stq, amv_at, vls, inf, frs, mark_eq, ↓reduceIte, Nat.reduceEqDiff, ite_tt, ite_ff, eq_self, and_true, true_and, and_self, implies_true, Bool.true_eq_false, Bool.false_eq_true, decide_true, decide_false, decide_eq_true_eq, decide_eq_false_iff_not, ne_eq, not_true_eq_false, not_false_eq_true, Bool.not_eq_true', Bool.not_eq_false', beq_self_eq_true, Bool.not_true, Bool.not_false, List.getElem?_toArray, List.getElem?_cons_zero, List.getElem?_cons_succ, q0, q3, q4, q5, q6]
        refine led_lit li23 (by omega) rfl (fun p hp => by rcases List.mem_singleton.1 hp with rfl; exact ⟨rfl, rfl⟩) l fun bl V11 _ l => ?_
        simp (disch := omega) only [↓stq, amv_at, vls, inf, frs, mark_eq, ↓reduceIte, Nat.reduceEqDiff, ite_tt, ite_ff, eq_self, and_true, true_and, and_self, implies_true, Bool.true_eq_false, Bool.false_eq_true, decide_true, decide_false, decide_eq_true_eq, decide_eq_false_iff_not, ne_eq, not_true_eq_false, not_false_eq_true, Bool.not_eq_true', Bool.not_eq_false', beq_self_eq_true, Bool.not_true, Bool.not_false, List.getElem?_toArray, List.getElem?_cons_zero, List.getElem?_cons_succ, q0, q3, q4, q5, q6]
        refine led_appO (O := testO) ap23_23 (by decide) (l.perm (List.Perm.cons _ (List.Perm.cons _ (List.Perm.swap ..)))) (i := 0) rfl (by omega) fun fp' w' V12 _ l => ?_
        simp (disch := omega) only [↓stq, amv_at, vls, inf, frs, mark_eq, ↓reduceIte, Nat.reduceEqDiff, ite_tt, ite_ff, eq_self, and_true, true_and, and_self, implies_true, Bool.true_eq_false, Bool.false_eq_true, decide_true, decide_false, decide_eq_true_eq, decide_eq_false_iff_not, ne_eq, not_true_eq_false, not_false_eq_true, Bool.not_eq_true', Bool.not_eq_false', beq_self_eq_true, Bool.not_true, Bool.not_false, List.getElem?_toArray, List.getElem?_cons_zero, List.getElem?_cons_succ, q0, q3, q4, q5, q6]
        rw [if_pos e4] at htk
        exact ⟨_, by omega, i + 1, _, _, by omega, rfl, by rw [htk]; exact l.perm (List.Perm.swap ..), rfl, rfl⟩
      · rw [if_neg e4, List.append_nil] at htk
        exact ⟨_, by omega, i + 1, _, _, by omega, rfl, by rw [htk]; exact l, rfl, rfl⟩
    · have hie : i = ts.length := by omega
      subst hie
      simp (disch := omega) only [↓stq, amv_at, vls, inf, frs, mark_eq, ↓reduceIte, Nat.reduceEqDiff, ite_tt, ite_ff, eq_self, and_true, true_and, and_self, implies_true, Bool.true_eq_false, Bool.false_eq_true, decide_true, decide_false, decide_eq_true_eq, decide_eq_false_iff_not, ne_eq, not_true_eq_false, not_false_eq_true, Bool.not_eq_true', Bool.not_eq_false', beq_self_eq_true, Bool.not_true, Bool.not_false, List.getElem?_toArray, List.getElem?_cons_zero, List.getElem?_cons_succ, q0, q3, q4, q5, q6]
      exact ⟨_, by omega, k + 1, fp, w, by omega, rfl, by rw [grpTo_zero, ← grpTo_end hlk]; exact l, rfl, rfl⟩
  · have hke : k = ms.length := by omega
    subst hke
    rw [grpTo_zero, List.take_length] at l
    simp (disch := omega) only [↓stq, amv_at, vls, inf, frs, mark_eq, ↓reduceIte, Nat.reduceEqDiff, ite_tt, ite_ff, eq_self, and_true, true_and, and_self, implies_true, Bool.true_eq_false, Bool.false_eq_true, decide_true, decide_false, decide_eq_true_eq, decide_eq_false_iff_not, ne_eq, not_true_eq_false, not_false_eq_true, Bool.not_eq_true', Bool.not_eq_false', beq_self_eq_true, Bool.not_true, Bool.not_false, List.getElem?_toArray, List.getElem?_cons_zero, List.getElem?_cons_succ, q0, q3, q4, q5]
    exact NewSl.of l (i := 1) rfl

theorem spec_GroupModules_c (A : View) (v : Value) (ts : List TestD) (h : Sl testS A v ts) : ACalls Try.prog 24 #[v] A fun r V => NewSl 34 testO A r V (groupR ts) := by
  unfold groupR
  refine acalls Try.func24 rfl (by kernel_rfl) ?_
  simp (disch := omega) only [↓stq, amv_at, vls, inf, frs, mark_eq, ↓reduceIte, Nat.reduceEqDiff, ite_tt, ite_ff, eq_self, and_true, true_and, and_self, implies_true, Bool.true_eq_false, Bool.false_eq_true, decide_true, decide_false, decide_eq_true_eq, decide_eq_false_iff_not, ne_eq, not_true_eq_false, not_false_eq_true, Bool.not_eq_true', Bool.not_eq_false', beq_self_eq_true, Bool.not_true, Bool.not_false, List.getElem?_toArray, List.getElem?_cons_zero, List.getElem?_cons_succ]
  refine (spec_validTests_c A _ ts h).mono ?_
  rintro _ V ⟨rfl, he⟩
  simp (disch := omega) only [↓stq, amv_at, vls, inf, frs, mark_eq, ↓reduceIte, Nat.reduceEqDiff, ite_tt, ite_ff, eq_self, and_true, true_and, and_self, implies_true, Bool.true_eq_false, Bool.false_eq_true, decide_true, decide_false, decide_eq_true_eq, decide_eq_false_iff_not, ne_eq, not_true_eq_false, not_false_eq_true, Bool.not_eq_true', Bool.not_eq_false', beq_self_eq_true, Bool.not_true, Bool.not_false, List.getElem?_toArray, List.getElem?_cons_zero, List.getElem?_cons_succ]
  refine ⟨fun e1 => ?_, fun e1 => ?_⟩ <;> simp (disch := omega) only [↓stq, amv_at, vls, inf, frs, mark_eq, ↓reduceIte, Nat.reduceEqDiff, ite_tt, ite_ff, eq_self, and_true, true_and, and_self, implies_true, Bool.true_eq_false, Bool.false_eq_true, decide_true, decide_false, decide_eq_true_eq, decide_eq_false_iff_not, ne_eq, not_true_eq_false, not_false_eq_true, Bool.not_eq_true', Bool.not_eq_false', beq_self_eq_true, Bool.not_true, Bool.not_false, List.getElem?_toArray, List.getElem?_cons_zero, List.getElem?_cons_succ]
  · rw [e1]
    exact NewSl.nil he
  · rw [e1]
    refine (spec_grouped_c V _ ts (h.mono he) e1).mono ?_
    rintro r V2 hr
    simp (disch := omega) only [↓stq, amv_at, vls, inf, frs, mark_eq, ↓reduceIte, Nat.reduceEqDiff, ite_tt, ite_ff, eq_self, and_true, true_and, and_self, implies_true, Bool.true_eq_false, Bool.false_eq_true, decide_true, decide_false, decide_eq_true_eq, decide_eq_false_iff_not, ne_eq, not_true_eq_false, not_false_eq_true, Bool.not_eq_true', Bool.not_eq_false', beq_self_eq_true, Bool.not_true, Bool.not_false, List.getElem?_toArray, List.getElem?_cons_zero, List.getElem?_cons_succ]
    exact hr.base he

end Go.Proofs.Ytbddklkfekiaeaa

