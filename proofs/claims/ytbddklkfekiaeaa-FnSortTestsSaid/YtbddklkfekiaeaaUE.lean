/- Ids, modules, groups of tests: the program and the reference. -/
import Derived.Test.YtbddklkfekiaeaaUD
set_option maxHeartbeats 4000000
set_option synthInstance.maxHeartbeats 400000
set_option synthInstance.maxSize 4096
set_option linter.unusedSimpArgs false
set_option linter.unusedVariables false
namespace Go.Proofs.Ytbddklkfekiaeaa

set_option maxRecDepth 100000

theorem lit_src4 {V : View} {bl : Nat} {t : TypeId} {cells : List Value} {room c : Nat} (h : V bl = some ⟨t, cells, room, true⟩) (hl : cells.length = 4) (h1 : ∀ v ∈ cells, v.oneCell' = true) : asrc V 4 (.slice (some ⟨bl, 0, none⟩) 1 c) = some (1, cells) := by
  have hp := part_at (off := 0) (n := 1 * 4) h (by show 0 + 1 * 4 ≤ cells.length; omega) (fun v hv => h1 v (List.mem_of_mem_drop (List.mem_of_mem_take hv)))
  show (if 1 = 0 then some (0, []) else (V.part ⟨bl, 0, none⟩ (1 * 4)).map fun cs => (1, cs)) = _
  rw [if_neg (by decide), hp]
  show some (1, (cells.drop 0).take (1 * 4)) = _
  rw [List.drop_zero, List.take_of_length_le (by omega)]

noncomputable def idsR (ts : List TestD) : List ByteArray := if testsB ts then ts.map idD else []
theorem idsR_of {ts : List TestD} (h : testsB ts = true) : idsR ts = ts.map idD := by unfold idsR; rw [if_pos h]
theorem idsR_no {ts : List TestD} (h : testsB ts = false) : idsR ts = [] := by unfold idsR; rw [if_neg (by rw [h]; decide)]
theorem test_idz {x : TestD} (h : testB x = true) : (idD x).size ≤ 100 := by
  have h1 := nmOk_size (testB_nm h)
  have h2 : nmOk x.2.1 = true := by
    unfold testB at h
    simp only [Bool.and_eq_true] at h
    exact h.1.1.1.2
  have h3 := nmOk_size h2
  rw [idD_size]
  omega

theorem impl_IdsOf_c (A : View) (v : Value) (ts : List TestD) (h : Sl testS A v ts) (hl : ts.length ≤ 16777215) : ACalls Try.prog 14 #[v] A fun r V => NewSl 9 strO A r V (idsR ts) := by
  obtain ⟨a, c, rfl, _, _⟩ := h.slice
  refine acalls Try.func14 rfl (by kernel_rfl) ?_
  simp (disch := omega) only [↓stq, amv_at, vls, inf, frs, mark_eq, ↓reduceIte, Nat.reduceEqDiff, ite_tt, ite_ff, eq_self, and_true, true_and, and_self, implies_true, Bool.true_eq_false, Bool.false_eq_true, decide_true, decide_false, decide_eq_true_eq, decide_eq_false_iff_not, ne_eq, not_true_eq_false, not_false_eq_true, Bool.not_eq_true', Bool.not_eq_false', beq_self_eq_true, Bool.not_true, Bool.not_false, List.getElem?_toArray, List.getElem?_cons_zero, List.getElem?_cons_succ]
  refine (impl_validTests_c A _ ts h hl).mono ?_
  rintro _ V ⟨rfl, he⟩
  simp (disch := omega) only [↓stq, amv_at, vls, inf, frs, mark_eq, ↓reduceIte, Nat.reduceEqDiff, ite_tt, ite_ff, eq_self, and_true, true_and, and_self, implies_true, Bool.true_eq_false, Bool.false_eq_true, decide_true, decide_false, decide_eq_true_eq, decide_eq_false_iff_not, ne_eq, not_true_eq_false, not_false_eq_true, Bool.not_eq_true', Bool.not_eq_false', beq_self_eq_true, Bool.not_true, Bool.not_false, List.getElem?_toArray, List.getElem?_cons_zero, List.getElem?_cons_succ]
  refine ⟨fun e1 => ?_, fun e1 => ?_⟩ <;> simp (disch := omega) only [↓stq, amv_at, vls, inf, frs, mark_eq, ↓reduceIte, Nat.reduceEqDiff, ite_tt, ite_ff, eq_self, and_true, true_and, and_self, implies_true, Bool.true_eq_false, Bool.false_eq_true, decide_true, decide_false, decide_eq_true_eq, decide_eq_false_iff_not, ne_eq, not_true_eq_false, not_false_eq_true, Bool.not_eq_true', Bool.not_eq_false', beq_self_eq_true, Bool.not_true, Bool.not_false, List.getElem?_toArray, List.getElem?_cons_zero, List.getElem?_cons_succ]
  · rw [idsR_no e1]
    exact NewSl.nil he
  · rw [idsR_of e1]
    obtain ⟨h1, h2, _⟩ := testsB_len e1
    refine led_lit0 (O := strO) li25 ((Led.nil A).step he) fun b V _ l => ?_
    simp (disch := omega) only [↓stq, amv_at, vls, inf, frs, mark_eq, ↓reduceIte, Nat.reduceEqDiff, ite_tt, ite_ff, eq_self, and_true, true_and, and_self, implies_true, Bool.true_eq_false, Bool.false_eq_true, decide_true, decide_false, decide_eq_true_eq, decide_eq_false_iff_not, ne_eq, not_true_eq_false, not_false_eq_true, Bool.not_eq_true', Bool.not_eq_false', beq_self_eq_true, Bool.not_true, Bool.not_false, List.getElem?_toArray, List.getElem?_cons_zero, List.getElem?_cons_succ]
    refine aloop (fun d fr V => ∃ (i : Nat) (fp : List Nat) (w : Value), i ≤ ts.length ∧ d = ts.length - i ∧ Led A [osl 9 strO fp w ((ts.take i).map idD)] V ∧ fr 3 = w ∧ fr 10 = .slice a ts.length c ∧ fr 11 = .int .i64 ts.length ∧ fr 12 = .int .i64 i) ts.length ⟨0, _, _, by omega, by omega, l, by rfl, by rfl, by rfl, by rfl⟩ ?_
    clear l
    rintro d fr V ⟨i, fp, w, hi, rfl, l, q3, q10, q11, q12⟩
    simp (disch := omega) only [↓stq, amv_at, vls, inf, frs, mark_eq, ↓reduceIte, Nat.reduceEqDiff, ite_tt, ite_ff, eq_self, and_true, true_and, and_self, implies_true, Bool.true_eq_false, Bool.false_eq_true, decide_true, decide_false, decide_eq_true_eq, decide_eq_false_iff_not, ne_eq, not_true_eq_false, not_false_eq_true, Bool.not_eq_true', Bool.not_eq_false', beq_self_eq_true, Bool.not_true, Bool.not_false, List.getElem?_toArray, List.getElem?_cons_zero, List.getElem?_cons_succ, q3, q10, q11, q12]
    refine ⟨fun e2 => ?_, fun e2 => ?_⟩
    · have hlt : i < ts.length := by omega
      have hz := test_idz (h2 _ (List.getElem_mem hlt))
      obtain ⟨ad, u2, u3, rfl, hclA, z1, z2, f2, f3⟩ := h.test hlt
      obtain ⟨a2, c2, rfl, _, _⟩ := f2.slice
      obtain ⟨a3, c3, rfl, _, _⟩ := f3.slice
      have hcl := l.ext.part hclA
      simp (disch := omega) only [↓stq, amv_at, vls, inf, frs, mark_eq, ↓reduceIte, Nat.reduceEqDiff, ite_tt, ite_ff, eq_self, and_true, true_and, and_self, implies_true, Bool.true_eq_false, Bool.false_eq_true, decide_true, decide_false, decide_eq_true_eq, decide_eq_false_iff_not, ne_eq, not_true_eq_false, not_false_eq_true, Bool.not_eq_true', Bool.not_eq_false', beq_self_eq_true, Bool.not_true, Bool.not_false, List.getElem?_toArray, List.getElem?_cons_zero, List.getElem?_cons_succ, q3, q10, q11, q12, hcl]
      refine led_alloc zc34 l fun q5 V6 _ l => ?_
      simp (disch := omega) only [↓stq, amv_at, vls, inf, frs, mark_eq, ↓reduceIte, Nat.reduceEqDiff, ite_tt, ite_ff, eq_self, and_true, true_and, and_self, implies_true, Bool.true_eq_false, Bool.false_eq_true, decide_true, decide_false, decide_eq_true_eq, decide_eq_false_iff_not, ne_eq, not_true_eq_false, not_false_eq_true, Bool.not_eq_true', Bool.not_eq_false', beq_self_eq_true, Bool.not_true, Bool.not_false, List.getElem?_toArray, List.getElem?_cons_zero, List.getElem?_cons_succ, q3, q10, q11, q12]
      refine led_storeAll l 0 rfl sz34 rfl rfl (by simp [Value.oneCell']) fun V7 l => ?_
      have kt : V7.part ⟨q5, 0, none⟩ 4 = some [.string (ts[i]).1, .string (ts[i]).2.1, .slice a2 (ts[i]).2.2.1.length c2, .slice a3 (ts[i]).2.2.2.1.length c3] := l.part (i := 0) rfl rfl
      simp (disch := omega) only [↓stq, amv_at, vls, inf, frs, mark_eq, ↓reduceIte, Nat.reduceEqDiff, ite_tt, ite_ff, eq_self, and_true, true_and, and_self, implies_true, Bool.true_eq_false, Bool.false_eq_true, decide_true, decide_false, decide_eq_true_eq, decide_eq_false_iff_not, ne_eq, not_true_eq_false, not_false_eq_true, Bool.not_eq_true', Bool.not_eq_false', beq_self_eq_true, Bool.not_true, Bool.not_false, List.getElem?_toArray, List.getElem?_cons_zero, List.getElem?_cons_succ, q3, q10, q11, q12, kt]
      refine (impl_idOf_c V7 _ ts[i] (testS_mk z1 z2 (f2.mono l.ext) (f3.mono l.ext))).mono ?_
      rintro _ V8 ⟨rfl, he8⟩
      replace l := l.step he8
      simp (disch := omega) only [↓stq, amv_at, vls, inf, frs, mark_eq, ↓reduceIte, Nat.reduceEqDiff, ite_tt, ite_ff, eq_self, and_true, true_and, and_self, implies_true, Bool.true_eq_false, Bool.false_eq_true, decide_true, decide_false, decide_eq_true_eq, decide_eq_false_iff_not, ne_eq, not_true_eq_false, not_false_eq_true, Bool.not_eq_true', Bool.not_eq_false', beq_self_eq_true, Bool.not_true, Bool.not_false, List.getElem?_toArray, List.getElem?_cons_zero, List.getElem?_cons_succ, q3, q10, q11, q12]
      refine led_lit li25 (by omega) rfl (by simp [Value.cells, Value.oneCell']) l fun bl V _ l => ?_
      simp (disch := omega) only [↓stq, amv_at, vls, inf, frs, mark_eq, ↓reduceIte, Nat.reduceEqDiff, ite_tt, ite_ff, eq_self, and_true, true_and, and_self, implies_true, Bool.true_eq_false, Bool.false_eq_true, decide_true, decide_false, decide_eq_true_eq, decide_eq_false_iff_not, ne_eq, not_true_eq_false, not_false_eq_true, Bool.not_eq_true', Bool.not_eq_false', beq_self_eq_true, Bool.not_true, Bool.not_false, List.getElem?_toArray, List.getElem?_cons_zero, List.getElem?_cons_succ, q3, q10, q11, q12]
      refine led_app (O := strO) ap25_25 (by decide) l (i := 2) rfl (l.src1 (S := strS) (j := 0) rfl ⟨rfl, by omega⟩) (by rw [List.length_singleton, List.length_map, List.length_take]; omega) fun fp2 w2 V4 _ l => ?_
      simp (disch := omega) only [↓stq, amv_at, vls, inf, frs, mark_eq, ↓reduceIte, Nat.reduceEqDiff, ite_tt, ite_ff, eq_self, and_true, true_and, and_self, implies_true, Bool.true_eq_false, Bool.false_eq_true, decide_true, decide_false, decide_eq_true_eq, decide_eq_false_iff_not, ne_eq, not_true_eq_false, not_false_eq_true, Bool.not_eq_true', Bool.not_eq_false', beq_self_eq_true, Bool.not_true, Bool.not_false, List.getElem?_toArray, List.getElem?_cons_zero, List.getElem?_cons_succ, q3, q10, q11, q12]
      refine ⟨_, by omega, i + 1, fp2, w2, by omega, rfl, ?_, rfl, rfl⟩
      rw [List.take_succ_eq_append_getElem hlt, List.map_append]
      exact l.tail.tail
    · simp (disch := omega) only [↓stq, amv_at, vls, inf, frs, mark_eq, ↓reduceIte, Nat.reduceEqDiff, ite_tt, ite_ff, eq_self, and_true, true_and, and_self, implies_true, Bool.true_eq_false, Bool.false_eq_true, decide_true, decide_false, decide_eq_true_eq, decide_eq_false_iff_not, ne_eq, not_true_eq_false, not_false_eq_true, Bool.not_eq_true', Bool.not_eq_false', beq_self_eq_true, Bool.not_true, Bool.not_false, List.getElem?_toArray, List.getElem?_cons_zero, List.getElem?_cons_succ, q3, q10, q11, q12]
      rw [List.take_of_length_le (by omega)] at l
      exact NewSl.of l (i := 0) rfl

theorem spec_IdsOf_c (A : View) (v : Value) (ts : List TestD) (h : Sl testS A v ts) : ACalls Try.prog 16 #[v] A fun r V => NewSl 9 strO A r V (idsR ts) := by
  obtain ⟨a, c, rfl, _, _⟩ := h.slice
  refine acalls Try.func16 rfl (by kernel_rfl) ?_
  simp (disch := omega) only [↓stq, amv_at, vls, inf, frs, mark_eq, ↓reduceIte, Nat.reduceEqDiff, ite_tt, ite_ff, eq_self, and_true, true_and, and_self, implies_true, Bool.true_eq_false, Bool.false_eq_true, decide_true, decide_false, decide_eq_true_eq, decide_eq_false_iff_not, ne_eq, not_true_eq_false, not_false_eq_true, Bool.not_eq_true', Bool.not_eq_false', beq_self_eq_true, Bool.not_true, Bool.not_false, List.getElem?_toArray, List.getElem?_cons_zero, List.getElem?_cons_succ]
  refine (spec_validTests_c A _ ts h).mono ?_
  rintro _ V ⟨rfl, he⟩
  simp (disch := omega) only [↓stq, amv_at, vls, inf, frs, mark_eq, ↓reduceIte, Nat.reduceEqDiff, ite_tt, ite_ff, eq_self, and_true, true_and, and_self, implies_true, Bool.true_eq_false, Bool.false_eq_true, decide_true, decide_false, decide_eq_true_eq, decide_eq_false_iff_not, ne_eq, not_true_eq_false, not_false_eq_true, Bool.not_eq_true', Bool.not_eq_false', beq_self_eq_true, Bool.not_true, Bool.not_false, List.getElem?_toArray, List.getElem?_cons_zero, List.getElem?_cons_succ]
  refine ⟨fun e1 => ?_, fun e1 => ?_⟩ <;> simp (disch := omega) only [↓stq, amv_at, vls, inf, frs, mark_eq, ↓reduceIte, Nat.reduceEqDiff, ite_tt, ite_ff, eq_self, and_true, true_and, and_self, implies_true, Bool.true_eq_false, Bool.false_eq_true, decide_true, decide_false, decide_eq_true_eq, decide_eq_false_iff_not, ne_eq, not_true_eq_false, not_false_eq_true, Bool.not_eq_true', Bool.not_eq_false', beq_self_eq_true, Bool.not_true, Bool.not_false, List.getElem?_toArray, List.getElem?_cons_zero, List.getElem?_cons_succ]
  · rw [idsR_no e1]
    exact NewSl.nil he
  · rw [idsR_of e1]
    obtain ⟨h1, h2, _⟩ := testsB_len e1
    refine led_lit0 (O := strO) li25 ((Led.nil A).step he) fun b V _ l => ?_
    simp (disch := omega) only [↓stq, amv_at, vls, inf, frs, mark_eq, ↓reduceIte, Nat.reduceEqDiff, ite_tt, ite_ff, eq_self, and_true, true_and, and_self, implies_true, Bool.true_eq_false, Bool.false_eq_true, decide_true, decide_false, decide_eq_true_eq, decide_eq_false_iff_not, ne_eq, not_true_eq_false, not_false_eq_true, Bool.not_eq_true', Bool.not_eq_false', beq_self_eq_true, Bool.not_true, Bool.not_false, List.getElem?_toArray, List.getElem?_cons_zero, List.getElem?_cons_succ]
    refine aloop (fun d fr V => ∃ (i : Nat) (fp : List Nat) (w : Value), i ≤ ts.length ∧ d = ts.length - i ∧ Led A [osl 9 strO fp w ((ts.take i).map idD)] V ∧ fr 0 = .slice a ts.length c ∧ fr 3 = w ∧ fr 4 = .int .i64 i) ts.length ⟨0, _, _, by omega, by omega, l, by rfl, by rfl, by rfl⟩ ?_
    clear l
    rintro d fr V ⟨i, fp, w, hi, rfl, l, q0, q3, q4⟩
    simp (disch := omega) only [↓stq, amv_at, vls, inf, frs, mark_eq, ↓reduceIte, Nat.reduceEqDiff, ite_tt, ite_ff, eq_self, and_true, true_and, and_self, implies_true, Bool.true_eq_false, Bool.false_eq_true, decide_true, decide_false, decide_eq_true_eq, decide_eq_false_iff_not, ne_eq, not_true_eq_false, not_false_eq_true, Bool.not_eq_true', Bool.not_eq_false', beq_self_eq_true, Bool.not_true, Bool.not_false, List.getElem?_toArray, List.getElem?_cons_zero, List.getElem?_cons_succ, q0, q3, q4]
    refine ⟨fun e2 => ?_, fun e2 => ?_⟩
    · have hlt : i < ts.length := by omega
      have hz := test_idz (h2 _ (List.getElem_mem hlt))
      obtain ⟨ad, u2, u3, rfl, hclA, z1, z2, f2, f3⟩ := h.test hlt
      have hcl := l.ext.part hclA
      simp (disch := omega) only [↓stq, amv_at, vls, inf, frs, mark_eq, ↓reduceIte, Nat.reduceEqDiff, ite_tt, ite_ff, eq_self, and_true, true_and, and_self, implies_true, Bool.true_eq_false, Bool.false_eq_true, decide_true, decide_false, decide_eq_true_eq, decide_eq_false_iff_not, ne_eq, not_true_eq_false, not_false_eq_true, Bool.not_eq_true', Bool.not_eq_false', beq_self_eq_true, Bool.not_true, Bool.not_false, List.getElem?_toArray, List.getElem?_cons_zero, List.getElem?_cons_succ, q0, q3, q4, hcl]
      refine (spec_idOf_c V _ ts[i] (testS_mk z1 z2 (f2.mono l.ext) (f3.mono l.ext))).mono ?_
      rintro _ V8 ⟨rfl, he8⟩
      replace l := l.step he8
      simp (disch := omega) only [↓stq, amv_at, vls, inf, frs, mark_eq, ↓reduceIte, Nat.reduceEqDiff, ite_tt, ite_ff, eq_self, and_true, true_and, and_self, implies_true, Bool.true_eq_false, Bool.false_eq_true, decide_true, decide_false, decide_eq_true_eq, decide_eq_false_iff_not, ne_eq, not_true_eq_false, not_false_eq_true, Bool.not_eq_true', Bool.not_eq_false', beq_self_eq_true, Bool.not_true, Bool.not_false, List.getElem?_toArray, List.getElem?_cons_zero, List.getElem?_cons_succ, q0, q3, q4]
      refine led_lit li25 (by omega) rfl (by simp [Value.cells, Value.oneCell']) l fun bl V _ l => ?_
      simp (disch := omega) only [↓stq, amv_at, vls, inf, frs, mark_eq, ↓reduceIte, Nat.reduceEqDiff, ite_tt, ite_ff, eq_self, and_true, true_and, and_self, implies_true, Bool.true_eq_false, Bool.false_eq_true, decide_true, decide_false, decide_eq_true_eq, decide_eq_false_iff_not, ne_eq, not_true_eq_false, not_false_eq_true, Bool.not_eq_true', Bool.not_eq_false', beq_self_eq_true, Bool.not_true, Bool.not_false, List.getElem?_toArray, List.getElem?_cons_zero, List.getElem?_cons_succ, q0, q3, q4]
      refine led_app (O := strO) ap25_25 (by decide) l (i := 1) rfl (l.src1 (S := strS) (j := 0) rfl ⟨rfl, by omega⟩) (by rw [List.length_singleton, List.length_map, List.length_take]; omega) fun fp2 w2 V4 _ l => ?_
      simp (disch := omega) only [↓stq, amv_at, vls, inf, frs, mark_eq, ↓reduceIte, Nat.reduceEqDiff, ite_tt, ite_ff, eq_self, and_true, true_and, and_self, implies_true, Bool.true_eq_false, Bool.false_eq_true, decide_true, decide_false, decide_eq_true_eq, decide_eq_false_iff_not, ne_eq, not_true_eq_false, not_false_eq_true, Bool.not_eq_true', Bool.not_eq_false', beq_self_eq_true, Bool.not_true, Bool.not_false, List.getElem?_toArray, List.getElem?_cons_zero, List.getElem?_cons_succ, q0, q3, q4]
      refine ⟨_, by omega, i + 1, fp2, w2, by omega, rfl, ?_, rfl, rfl⟩
      rw [List.take_succ_eq_append_getElem hlt, List.map_append]
      exact l.tail
    · simp (disch := omega) only [↓stq, amv_at, vls, inf, frs, mark_eq, ↓reduceIte, Nat.reduceEqDiff, ite_tt, ite_ff, eq_self, and_true, true_and, and_self, implies_true, Bool.true_eq_false, Bool.false_eq_true, decide_true, decide_false, decide_eq_true_eq, decide_eq_false_iff_not, ne_eq, not_true_eq_false, not_false_eq_true, Bool.not_eq_true', Bool.not_eq_false', beq_self_eq_true, Bool.not_true, Bool.not_false, List.getElem?_toArray, List.getElem?_cons_zero, List.getElem?_cons_succ, q0, q3, q4]
      rw [List.take_of_length_le (by omega)] at l
      exact NewSl.of l (i := 0) rfl

theorem impl_modulesOf_c (A : View) (v : Value) (ts : List TestD) (h : Sl testS A v ts) (hl : ts.length ≤ 16777215) : ACalls Try.prog 56 #[v] A fun r V => NewSl 9 strO A r V (modsR ts) := by
  obtain ⟨a, c, rfl, _, _⟩ := h.slice
  refine acalls Try.func56 rfl (by kernel_rfl) ?_
  simp (disch := omega) only [↓stq, amv_at, vls, inf, frs, mark_eq, ↓reduceIte, Nat.reduceEqDiff, ite_tt, ite_ff, eq_self, and_true, true_and, and_self, implies_true, Bool.true_eq_false, Bool.false_eq_true, decide_true, decide_false, decide_eq_true_eq, decide_eq_false_iff_not, ne_eq, not_true_eq_false, not_false_eq_true, Bool.not_eq_true', Bool.not_eq_false', beq_self_eq_true, Bool.not_true, Bool.not_false, List.getElem?_toArray, List.getElem?_cons_zero, List.getElem?_cons_succ]
  refine led_lit0 (O := strO) li25 (Led.nil A) fun b V _ l => ?_
  simp (disch := omega) only [↓stq, amv_at, vls, inf, frs, mark_eq, ↓reduceIte, Nat.reduceEqDiff, ite_tt, ite_ff, eq_self, and_true, true_and, and_self, implies_true, Bool.true_eq_false, Bool.false_eq_true, decide_true, decide_false, decide_eq_true_eq, decide_eq_false_iff_not, ne_eq, not_true_eq_false, not_false_eq_true, Bool.not_eq_true', Bool.not_eq_false', beq_self_eq_true, Bool.not_true, Bool.not_false, List.getElem?_toArray, List.getElem?_cons_zero, List.getElem?_cons_succ]
  refine aloop (fun d fr V => ∃ (i : Nat) (fp : List Nat) (w : Value), i ≤ ts.length ∧ d = ts.length - i ∧ Led A [osl 9 strO fp w (modsR (ts.take i))] V ∧ fr 3 = w ∧ fr 7 = .slice a ts.length c ∧ fr 8 = .int .i64 ts.length ∧ fr 9 = .int .i64 i) ts.length ⟨0, _, _, by omega, by omega, l, by rfl, by rfl, by rfl, by rfl⟩ ?_
  clear l
  rintro d fr V ⟨i, fp, w, hi, rfl, l, q3, q7, q8, q9⟩
  simp (disch := omega) only [↓stq, amv_at, vls, inf, frs, mark_eq, ↓reduceIte, Nat.reduceEqDiff, ite_tt, ite_ff, eq_self, and_true, true_and, and_self, implies_true, Bool.true_eq_false, Bool.false_eq_true, decide_true, decide_false, decide_eq_true_eq, decide_eq_false_iff_not, ne_eq, not_true_eq_false, not_false_eq_true, Bool.not_eq_true', Bool.not_eq_false', beq_self_eq_true, Bool.not_true, Bool.not_false, List.getElem?_toArray, List.getElem?_cons_zero, List.getElem?_cons_succ, q3, q7, q8, q9]
  refine ⟨fun e2 => ?_, fun e2 => ?_⟩
  · have hlt : i < ts.length := by omega
    have htk := modsR_take hlt
    have hml := modsR_len (ts.take i)
    rw [List.length_take] at hml
    obtain ⟨ad, u2, u3, rfl, hclA, z1, z2, f2, f3⟩ := h.test hlt
    obtain ⟨a2, c2, rfl, _, _⟩ := f2.slice
    obtain ⟨a3, c3, rfl, _, _⟩ := f3.slice
    have hcl := l.ext.part hclA
    simp (disch := omega) only [↓stq, amv_at, vls, inf, frs, mark_eq, ↓reduceIte, Nat.reduceEqDiff, ite_tt, ite_ff, eq_self, and_true, true_and, and_self, implies_true, Bool.true_eq_false, Bool.false_eq_true, decide_true, decide_false, decide_eq_true_eq, decide_eq_false_iff_not, ne_eq, not_true_eq_false, not_false_eq_true, Bool.not_eq_true', Bool.not_eq_false', beq_self_eq_true, Bool.not_true, Bool.not_false, List.getElem?_toArray, List.getElem?_cons_zero, List.getElem?_cons_succ, q3, q7, q8, q9, hcl]
    refine led_alloc zc34 l fun q5 V6 _ l => ?_
    simp (disch := omega) only [↓stq, amv_at, vls, inf, frs, mark_eq, ↓reduceIte, Nat.reduceEqDiff, ite_tt, ite_ff, eq_self, and_true, true_and, and_self, implies_true, Bool.true_eq_false, Bool.false_eq_true, decide_true, decide_false, decide_eq_true_eq, decide_eq_false_iff_not, ne_eq, not_true_eq_false, not_false_eq_true, Bool.not_eq_true', Bool.not_eq_false', beq_self_eq_true, Bool.not_true, Bool.not_false, List.getElem?_toArray, List.getElem?_cons_zero, List.getElem?_cons_succ, q3, q7, q8, q9]
    refine led_storeAll l 0 rfl sz34 rfl rfl (by simp [Value.oneCell']) fun V7 l => ?_
    have m0 := l.cell (i := 0) rfl (o := 0) rfl rfl
    simp (disch := omega) only [↓stq, amv_at, vls, inf, frs, mark_eq, ↓reduceIte, Nat.reduceEqDiff, ite_tt, ite_ff, eq_self, and_true, true_and, and_self, implies_true, Bool.true_eq_false, Bool.false_eq_true, decide_true, decide_false, decide_eq_true_eq, decide_eq_false_iff_not, ne_eq, not_true_eq_false, not_false_eq_true, Bool.not_eq_true', Bool.not_eq_false', beq_self_eq_true, Bool.not_true, Bool.not_false, List.getElem?_toArray, List.getElem?_cons_zero, List.getElem?_cons_succ, q3, q7, q8, q9, add_at, m0]
    refine (contains_str_c V7 _ (modsR (ts.take i)) (ts[i]).1 (OSl.toS (l.at (i := 1) rfl))).mono ?_
    rintro _ V7 ⟨rfl, rfl⟩
    simp (disch := omega) only [↓stq, amv_at, vls, inf, frs, mark_eq, ↓reduceIte, Nat.reduceEqDiff, ite_tt, ite_ff, eq_self, and_true, true_and, and_self, implies_true, Bool.true_eq_false, Bool.false_eq_true, decide_true, decide_false, decide_eq_true_eq, decide_eq_false_iff_not, ne_eq, not_true_eq_false, not_false_eq_true, Bool.not_eq_true', Bool.not_eq_false', beq_self_eq_true, Bool.not_true, Bool.not_false, List.getElem?_toArray, List.getElem?_cons_zero, List.getElem?_cons_succ, q3, q7, q8, q9]
    refine ⟨fun e3 => ?_, fun e3 => ?_⟩ <;> simp (disch := omega) only [↓stq, amv_at, vls, inf, frs, mark_eq, ↓reduceIte, Nat.reduceEqDiff, ite_tt, ite_ff, eq_self, and_true, true_and, and_self, implies_true, Bool.true_eq_false, Bool.false_eq_true, decide_true, decide_false, decide_eq_true_eq, decide_eq_false_iff_not, ne_eq, not_true_eq_false, not_false_eq_true, Bool.not_eq_true', Bool.not_eq_false', beq_self_eq_true, Bool.not_true, Bool.not_false, List.getElem?_toArray, List.getElem?_cons_zero, List.getElem?_cons_succ, q3, q7, q8, q9, add_at, m0]
    · refine led_lit li25 (by omega) rfl (by simp [Value.cells, Value.oneCell']) l fun bl V _ l => ?_
      simp (disch := omega) only [↓stq, amv_at, vls, inf, frs, mark_eq, ↓reduceIte, Nat.reduceEqDiff, ite_tt, ite_ff, eq_self, and_true, true_and, and_self, implies_true, Bool.true_eq_false, Bool.false_eq_true, decide_true, decide_false, decide_eq_true_eq, decide_eq_false_iff_not, ne_eq, not_true_eq_false, not_false_eq_true, Bool.not_eq_true', Bool.not_eq_false', beq_self_eq_true, Bool.not_true, Bool.not_false, List.getElem?_toArray, List.getElem?_cons_zero, List.getElem?_cons_succ, q3, q7, q8, q9]
      refine led_app (O := strO) ap25_25 (by decide) l (i := 2) rfl (l.src1 (S := strS) (j := 0) rfl ⟨rfl, z1⟩) (by rw [List.length_singleton]; omega) fun fp2 w2 V4 _ l => ?_
      simp (disch := omega) only [↓stq, amv_at, vls, inf, frs, mark_eq, ↓reduceIte, Nat.reduceEqDiff, ite_tt, ite_ff, eq_self, and_true, true_and, and_self, implies_true, Bool.true_eq_false, Bool.false_eq_true, decide_true, decide_false, decide_eq_true_eq, decide_eq_false_iff_not, ne_eq, not_true_eq_false, not_false_eq_true, Bool.not_eq_true', Bool.not_eq_false', beq_self_eq_true, Bool.not_true, Bool.not_false, List.getElem?_toArray, List.getElem?_cons_zero, List.getElem?_cons_succ, q3, q7, q8, q9]
      exact ⟨_, by omega, i + 1, fp2, w2, by omega, rfl, by rw [htk, addT, if_neg e3]; exact l.tail.tail, rfl, rfl⟩
    · exact ⟨_, by omega, i + 1, fp, w, by omega, rfl, by rw [htk, addT, if_pos e3]; exact l.tail, rfl, rfl⟩
  · simp (disch := omega) only [↓stq, amv_at, vls, inf, frs, mark_eq, ↓reduceIte, Nat.reduceEqDiff, ite_tt, ite_ff, eq_self, and_true, true_and, and_self, implies_true, Bool.true_eq_false, Bool.false_eq_true, decide_true, decide_false, decide_eq_true_eq, decide_eq_false_iff_not, ne_eq, not_true_eq_false, not_false_eq_true, Bool.not_eq_true', Bool.not_eq_false', beq_self_eq_true, Bool.not_true, Bool.not_false, List.getElem?_toArray, List.getElem?_cons_zero, List.getElem?_cons_succ, q3, q7, q8, q9]
    rw [List.take_of_length_le (by omega)] at l
    exact NewSl.of l (i := 0) rfl

theorem spec_modules_c (A : View) (v : Value) (ts : List TestD) (h : Sl testS A v ts) (hl : ts.length ≤ 16777215) : ACalls Try.prog 93 #[v] A fun r V => NewSl 9 strO A r V (modsR ts) := by
  obtain ⟨a, c, rfl, _, _⟩ := h.slice
  refine acalls Try.func93 rfl (by kernel_rfl) ?_
  simp (disch := omega) only [↓stq, amv_at, vls, inf, frs, mark_eq, ↓reduceIte, Nat.reduceEqDiff, ite_tt, ite_ff, eq_self, and_true, true_and, and_self, implies_true, Bool.true_eq_false, Bool.false_eq_true, decide_true, decide_false, decide_eq_true_eq, decide_eq_false_iff_not, ne_eq, not_true_eq_false, not_false_eq_true, Bool.not_eq_true', Bool.not_eq_false', beq_self_eq_true, Bool.not_true, Bool.not_false, List.getElem?_toArray, List.getElem?_cons_zero, List.getElem?_cons_succ]
  refine led_lit0 (O := strO) li25 (Led.nil A) fun b V _ l => ?_
  simp (disch := omega) only [↓stq, amv_at, vls, inf, frs, mark_eq, ↓reduceIte, Nat.reduceEqDiff, ite_tt, ite_ff, eq_self, and_true, true_and, and_self, implies_true, Bool.true_eq_false, Bool.false_eq_true, decide_true, decide_false, decide_eq_true_eq, decide_eq_false_iff_not, ne_eq, not_true_eq_false, not_false_eq_true, Bool.not_eq_true', Bool.not_eq_false', beq_self_eq_true, Bool.not_true, Bool.not_false, List.getElem?_toArray, List.getElem?_cons_zero, List.getElem?_cons_succ]
  refine aloop (fun d fr V => ∃ (i : Nat) (fp : List Nat) (w : Value), i ≤ ts.length ∧ d = ts.length - i ∧ Led A [osl 9 strO fp w (modsR (ts.take i))] V ∧ fr 0 = .slice a ts.length c ∧ fr 3 = w ∧ fr 4 = .int .i64 i) ts.length ⟨0, _, _, by omega, by omega, l, by rfl, by rfl, by rfl⟩ ?_
  clear l
  rintro d fr V ⟨i, fp, w, hi, rfl, l, q0, q3, q4⟩
  simp (disch := omega) only [↓stq, amv_at, vls, inf, frs, mark_eq, ↓reduceIte, Nat.reduceEqDiff, ite_tt, ite_ff, eq_self, and_true, true_and, and_self, implies_true, Bool.true_eq_false, Bool.false_eq_true, decide_true, decide_false, decide_eq_true_eq, decide_eq_false_iff_not, ne_eq, not_true_eq_false, not_false_eq_true, Bool.not_eq_true', Bool.not_eq_false', beq_self_eq_true, Bool.not_true, Bool.not_false, List.getElem?_toArray, List.getElem?_cons_zero, List.getElem?_cons_succ, q0, q3, q4]
  refine ⟨fun e2 => ?_, fun e2 => ?_⟩
  · have hlt : i < ts.length := by omega
    have htk := modsR_take hlt
    have hml := modsR_len (ts.take i)
    rw [List.length_take] at hml
    obtain ⟨ad, u2, u3, rfl, hclA, z1, z2, f2, f3⟩ := h.test hlt
    have hcl := l.ext.part hclA
    have m0 := View.part_cell hcl (j := 0) rfl
    simp (disch := omega) only [↓stq, amv_at, vls, inf, frs, mark_eq, ↓reduceIte, Nat.reduceEqDiff, ite_tt, ite_ff, eq_self, and_true, true_and, and_self, implies_true, Bool.true_eq_false, Bool.false_eq_true, decide_true, decide_false, decide_eq_true_eq, decide_eq_false_iff_not, ne_eq, not_true_eq_false, not_false_eq_true, Bool.not_eq_true', Bool.not_eq_false', beq_self_eq_true, Bool.not_true, Bool.not_false, List.getElem?_toArray, List.getElem?_cons_zero, List.getElem?_cons_succ, q0, q3, q4, m0]
    refine (addText_c A V [] fp w (modsR (ts.take i)) (ts[i]).1 z1 (by omega) l).mono ?_
    rintro r V ⟨fp2, l⟩
    simp (disch := omega) only [↓stq, amv_at, vls, inf, frs, mark_eq, ↓reduceIte, Nat.reduceEqDiff, ite_tt, ite_ff, eq_self, and_true, true_and, and_self, implies_true, Bool.true_eq_false, Bool.false_eq_true, decide_true, decide_false, decide_eq_true_eq, decide_eq_false_iff_not, ne_eq, not_true_eq_false, not_false_eq_true, Bool.not_eq_true', Bool.not_eq_false', beq_self_eq_true, Bool.not_true, Bool.not_false, List.getElem?_toArray, List.getElem?_cons_zero, List.getElem?_cons_succ, q0, q3, q4]
    exact ⟨_, by omega, i + 1, fp2, r, by omega, rfl, by rw [htk]; exact l, rfl, rfl⟩
  · simp (disch := omega) only [↓stq, amv_at, vls, inf, frs, mark_eq, ↓reduceIte, Nat.reduceEqDiff, ite_tt, ite_ff, eq_self, and_true, true_and, and_self, implies_true, Bool.true_eq_false, Bool.false_eq_true, decide_true, decide_false, decide_eq_true_eq, decide_eq_false_iff_not, ne_eq, not_true_eq_false, not_false_eq_true, Bool.not_eq_true', Bool.not_eq_false', beq_self_eq_true, Bool.not_true, Bool.not_false, List.getElem?_toArray, List.getElem?_cons_zero, List.getElem?_cons_succ, q0, q3, q4]
    rw [List.take_of_length_le (by omega)] at l
    exact NewSl.of l (i := 0) rfl

noncomputable def modulesR (ts : List TestD) : List ByteArray := if testsB ts then modsR ts else []
theorem impl_ModulesOf_c (A : View) (v : Value) (ts : List TestD) (h : Sl testS A v ts) (hl : ts.length ≤ 16777215) : ACalls Try.prog 25 #[v] A fun r V => NewSl 9 strO A r V (modulesR ts) := by
  unfold modulesR
  refine acalls Try.func25 rfl (by kernel_rfl) ?_
  simp (disch := omega) only [↓stq, amv_at, vls, inf, frs, mark_eq, ↓reduceIte, Nat.reduceEqDiff, ite_tt, ite_ff, eq_self, and_true, true_and, and_self, implies_true, Bool.true_eq_false, Bool.false_eq_true, decide_true, decide_false, decide_eq_true_eq, decide_eq_false_iff_not, ne_eq, not_true_eq_false, not_false_eq_true, Bool.not_eq_true', Bool.not_eq_false', beq_self_eq_true, Bool.not_true, Bool.not_false, List.getElem?_toArray, List.getElem?_cons_zero, List.getElem?_cons_succ]
  refine (impl_validTests_c A _ ts h hl).mono ?_
  rintro _ V ⟨rfl, he⟩
  simp (disch := omega) only [↓stq, amv_at, vls, inf, frs, mark_eq, ↓reduceIte, Nat.reduceEqDiff, ite_tt, ite_ff, eq_self, and_true, true_and, and_self, implies_true, Bool.true_eq_false, Bool.false_eq_true, decide_true, decide_false, decide_eq_true_eq, decide_eq_false_iff_not, ne_eq, not_true_eq_false, not_false_eq_true, Bool.not_eq_true', Bool.not_eq_false', beq_self_eq_true, Bool.not_true, Bool.not_false, List.getElem?_toArray, List.getElem?_cons_zero, List.getElem?_cons_succ]
  refine ⟨fun e1 => ?_, fun e1 => ?_⟩ <;> simp (disch := omega) only [↓stq, amv_at, vls, inf, frs, mark_eq, ↓reduceIte, Nat.reduceEqDiff, ite_tt, ite_ff, eq_self, and_true, true_and, and_self, implies_true, Bool.true_eq_false, Bool.false_eq_true, decide_true, decide_false, decide_eq_true_eq, decide_eq_false_iff_not, ne_eq, not_true_eq_false, not_false_eq_true, Bool.not_eq_true', Bool.not_eq_false', beq_self_eq_true, Bool.not_true, Bool.not_false, List.getElem?_toArray, List.getElem?_cons_zero, List.getElem?_cons_succ]
  · rw [e1]
    exact NewSl.nil he
  · rw [e1]
    refine (impl_modulesOf_c V _ ts (h.mono he) hl).mono ?_
    rintro r V2 hr
    simp (disch := omega) only [↓stq, amv_at, vls, inf, frs, mark_eq, ↓reduceIte, Nat.reduceEqDiff, ite_tt, ite_ff, eq_self, and_true, true_and, and_self, implies_true, Bool.true_eq_false, Bool.false_eq_true, decide_true, decide_false, decide_eq_true_eq, decide_eq_false_iff_not, ne_eq, not_true_eq_false, not_false_eq_true, Bool.not_eq_true', Bool.not_eq_false', beq_self_eq_true, Bool.not_true, Bool.not_false, List.getElem?_toArray, List.getElem?_cons_zero, List.getElem?_cons_succ]
    exact hr.base he

noncomputable def groupR (ts : List TestD) : List TestD := if testsB ts then grpR ts else []
/-- Groups, up to a place. -/
def grpTo (ts : List TestD) (ms : List ByteArray) (k i : Nat) : List TestD := (ms.take k).flatMap (ofM ts) ++ (match ms[k]? with
  | some m => ofM (ts.take i) m
  | none => [])
theorem grpTo_zero (ts : List TestD) (ms : List ByteArray) (k : Nat) : grpTo ts ms k 0 = (ms.take k).flatMap (ofM ts) := by
  unfold grpTo
  cases ms[k]? <;> simp [ofM]
theorem grpTo_next {ts : List TestD} {ms : List ByteArray} {k i : Nat} (hk : k < ms.length) (hi : i < ts.length) : grpTo ts ms k (i + 1) = grpTo ts ms k i ++ (if (ts[i]).1 = ms[k] then [ts[i]] else []) := by
  unfold grpTo
  rw [List.getElem?_eq_getElem hk]
  show _ ++ ofM (ts.take (i + 1)) ms[k] = _ ++ ofM (ts.take i) ms[k] ++ _
  rw [List.append_assoc]
  congr 1
  unfold ofM
  rw [List.take_succ_eq_append_getElem hi, List.filter_append]
  congr 1
  rw [List.filter_cons]
  by_cases h : (ts[i]).1 = ms[k]
  · rw [if_pos (decide_eq_true h), if_pos h]; rfl
  · rw [if_neg (by rw [decide_eq_false h]; decide), if_neg h]; rfl
theorem grpTo_end {ts : List TestD} {ms : List ByteArray} {k : Nat} (hk : k < ms.length) : grpTo ts ms k ts.length = (ms.take (k + 1)).flatMap (ofM ts) := by
  unfold grpTo
  rw [List.getElem?_eq_getElem hk, List.take_length, List.take_succ_eq_append_getElem hk, List.flatMap_append]
  simp
theorem grpTo_len (ts : List TestD) (ms : List ByteArray) (k i : Nat) : (grpTo ts ms k i).length ≤ (ms.length + 1) * ts.length := by
  have key : ∀ ks : List ByteArray, (ks.flatMap (ofM ts)).length ≤ ks.length * ts.length := by
    intro ks
    induction ks with
    | nil => simp
    | cons k ks ih =>
      rw [List.flatMap_cons, List.length_append, List.length_cons, Nat.succ_mul]
      have : (ofM ts k).length ≤ ts.length := List.length_filter_le ..
      omega
  unfold grpTo
  rw [List.length_append, Nat.succ_mul]
  have h1 := key (ms.take k)
  have h2 : (ms.take k).length * ts.length ≤ ms.length * ts.length := Nat.mul_le_mul_right _ (by rw [List.length_take]; omega)
  cases ms[k]? with
  | none =>
    show _ + 0 ≤ _
    omega
  | some m =>
    have : (ofM (ts.take i) m).length ≤ ts.length := Nat.le_trans (List.length_filter_le ..) (by rw [List.length_take]; omega)
    show _ + (ofM (ts.take i) m).length ≤ _
    omega

end Go.Proofs.Ytbddklkfekiaeaa

