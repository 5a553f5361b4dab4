/- Expressions: the program chooses tests. -/
import Derived.Test.YtbddklkfekiaeaaU9
set_option maxHeartbeats 4000000
set_option synthInstance.maxHeartbeats 400000
set_option synthInstance.maxSize 4096
set_option linter.unusedSimpArgs false
set_option linter.unusedVariables false
namespace Go.Proofs.Ytbddklkfekiaeaa

set_option maxRecDepth 100000

theorem lit_src {V : View} {bl : Nat} {t : TypeId} {cells : List Value} {room c : Nat} (h : V bl = some ⟨t, cells, room, true⟩) (hl : cells.length = 4) (h1 : ∀ v ∈ cells, v.oneCell' = true) : asrc V 4 (.slice (some ⟨bl, 0, none⟩) 1 c) = some (1, cells) := by
  have hp := part_at (off := 0) (n := 1 * 4) h (by show 0 + 1 * 4 ≤ cells.length; omega) (fun v hv => h1 v (List.mem_of_mem_drop (List.mem_of_mem_take hv)))
  show (if 1 = 0 then some (0, []) else (V.part ⟨bl, 0, none⟩ (1 * 4)).map fun cs => (1, cs)) = _
  rw [if_neg (by decide), hp]
  show some (1, (cells.drop 0).take (1 * 4)) = _
  rw [List.drop_zero, List.take_of_length_le (by omega)]

theorem impl_chosen_c (A : View) (v : Value) (s : ByteArray) (want : Bool) (ts : List TestD) (h : Sl testS A v ts) (hs : s.size ≤ 140737488355328) (hl : ts.length ≤ 16777215) : ACalls Try.prog 59 #[v, .string s, .bool want] A fun r V => NewSl 34 testO A r V (selE want s ts) := by
  obtain ⟨a, c, rfl, _, _⟩ := h.slice
  refine acalls Try.func59 rfl (by kernel_rfl) ?_
  simp (disch := omega) only [↓stq, amv_at, vls, inf, frs, mark_eq, ↓reduceIte, Nat.reduceEqDiff, ite_tt, ite_ff, eq_self, and_true, true_and, and_self, implies_true, Bool.true_eq_false, Bool.false_eq_true, decide_true, decide_false, decide_eq_true_eq, decide_eq_false_iff_not, ne_eq, not_true_eq_false, not_false_eq_true, Bool.not_eq_true', Bool.not_eq_false', beq_self_eq_true, Bool.not_true, Bool.not_false, List.getElem?_toArray, List.getElem?_cons_zero, List.getElem?_cons_succ]
  refine (impl_readExpr_c A s hs).mono ?_
  rintro _ V ⟨d, rfl, hd, hg⟩
  simp (disch := omega) only [↓stq, amv_at, vls, inf, frs, mark_eq, ↓reduceIte, Nat.reduceEqDiff, ite_tt, ite_ff, eq_self, and_true, true_and, and_self, implies_true, Bool.true_eq_false, Bool.false_eq_true, decide_true, decide_false, decide_eq_true_eq, decide_eq_false_iff_not, ne_eq, not_true_eq_false, not_false_eq_true, Bool.not_eq_true', Bool.not_eq_false', beq_self_eq_true, Bool.not_true, Bool.not_false, List.getElem?_toArray, List.getElem?_cons_zero, List.getElem?_cons_succ, List.getElem_toArray, List.getElem_cons_zero, List.getElem_cons_succ]
  cases hE : isE s with
  | false =>
    refine led_alloc zc64 ((Led.nil A).step hg.ext) fun q7 V3 _ l => ?_
    simp (disch := omega) only [↓stq, amv_at, vls, inf, frs, mark_eq, ↓reduceIte, Nat.reduceEqDiff, ite_tt, ite_ff, eq_self, and_true, true_and, and_self, implies_true, Bool.true_eq_false, Bool.false_eq_true, decide_true, decide_false, decide_eq_true_eq, decide_eq_false_iff_not, ne_eq, not_true_eq_false, not_false_eq_true, Bool.not_eq_true', Bool.not_eq_false', beq_self_eq_true, Bool.not_true, Bool.not_false, List.getElem?_toArray, List.getElem?_cons_zero, List.getElem?_cons_succ, List.getElem_toArray, List.getElem_cons_zero, List.getElem_cons_succ]
    refine led_storeAll l 0 rfl sz64 hd.1 rfl hd.2 fun V4 l => ?_
    simp (disch := omega) only [↓stq, amv_at, vls, inf, frs, mark_eq, ↓reduceIte, Nat.reduceEqDiff, ite_tt, ite_ff, eq_self, and_true, true_and, and_self, implies_true, Bool.true_eq_false, Bool.false_eq_true, decide_true, decide_false, decide_eq_true_eq, decide_eq_false_iff_not, ne_eq, not_true_eq_false, not_false_eq_true, Bool.not_eq_true', Bool.not_eq_false', beq_self_eq_true, Bool.not_true, Bool.not_false, List.getElem?_toArray, List.getElem?_cons_zero, List.getElem?_cons_succ, List.getElem_toArray, List.getElem_cons_zero, List.getElem_cons_succ]
    rw [selE_no (.inl hE)]
    exact NewSl.nil l.ext
  | true =>
    obtain ⟨e, hx⟩ := isE_some hE
    rw [hx] at hg
    obtain ⟨fe, le⟩ := hg
    refine led_alloc zc64 le fun q7 V3 _ l => ?_
    simp (disch := omega) only [↓stq, amv_at, vls, inf, frs, mark_eq, ↓reduceIte, Nat.reduceEqDiff, ite_tt, ite_ff, eq_self, and_true, true_and, and_self, implies_true, Bool.true_eq_false, Bool.false_eq_true, decide_true, decide_false, decide_eq_true_eq, decide_eq_false_iff_not, ne_eq, not_true_eq_false, not_false_eq_true, Bool.not_eq_true', Bool.not_eq_false', beq_self_eq_true, Bool.not_true, Bool.not_false, List.getElem?_toArray, List.getElem?_cons_zero, List.getElem?_cons_succ, List.getElem_toArray, List.getElem_cons_zero, List.getElem_cons_succ]
    refine led_storeAll l 0 rfl sz64 hd.1 rfl hd.2 fun V4 l => ?_
    simp (disch := omega) only [↓stq, amv_at, vls, inf, frs, mark_eq, ↓reduceIte, Nat.reduceEqDiff, ite_tt, ite_ff, eq_self, and_true, true_and, and_self, implies_true, Bool.true_eq_false, Bool.false_eq_true, decide_true, decide_false, decide_eq_true_eq, decide_eq_false_iff_not, ne_eq, not_true_eq_false, not_false_eq_true, Bool.not_eq_true', Bool.not_eq_false', beq_self_eq_true, Bool.not_true, Bool.not_false, List.getElem?_toArray, List.getElem?_cons_zero, List.getElem?_cons_succ, List.getElem_toArray, List.getElem_cons_zero, List.getElem_cons_succ]
    refine (impl_validTests_c V4 _ ts (h.mono l.ext) hl).mono ?_
    rintro _ V5 ⟨rfl, he5⟩
    replace l := l.step he5
    simp (disch := omega) only [↓stq, amv_at, vls, inf, frs, mark_eq, ↓reduceIte, Nat.reduceEqDiff, ite_tt, ite_ff, eq_self, and_true, true_and, and_self, implies_true, Bool.true_eq_false, Bool.false_eq_true, decide_true, decide_false, decide_eq_true_eq, decide_eq_false_iff_not, ne_eq, not_true_eq_false, not_false_eq_true, Bool.not_eq_true', Bool.not_eq_false', beq_self_eq_true, Bool.not_true, Bool.not_false, List.getElem?_toArray, List.getElem?_cons_zero, List.getElem?_cons_succ, List.getElem_toArray, List.getElem_cons_zero, List.getElem_cons_succ]
    refine ⟨fun e2 => ?_, fun e2 => ?_⟩ <;> simp (disch := omega) only [↓stq, amv_at, vls, inf, frs, mark_eq, ↓reduceIte, Nat.reduceEqDiff, ite_tt, ite_ff, eq_self, and_true, true_and, and_self, implies_true, Bool.true_eq_false, Bool.false_eq_true, decide_true, decide_false, decide_eq_true_eq, decide_eq_false_iff_not, ne_eq, not_true_eq_false, not_false_eq_true, Bool.not_eq_true', Bool.not_eq_false', beq_self_eq_true, Bool.not_true, Bool.not_false, List.getElem?_toArray, List.getElem?_cons_zero, List.getElem?_cons_succ, List.getElem_toArray, List.getElem_cons_zero, List.getElem_cons_succ]
    · rw [selE_no (.inr e2)]
      exact NewSl.nil l.ext
    · have hp := testsB_parts e2
      rw [selE_of hx e2]
      refine led_lit0R (S := testS) A li23 l fun b V _ l => ?_
      simp (disch := omega) only [↓stq, amv_at, vls, inf, frs, mark_eq, ↓reduceIte, Nat.reduceEqDiff, ite_tt, ite_ff, eq_self, and_true, true_and, and_self, implies_true, Bool.true_eq_false, Bool.false_eq_true, decide_true, decide_false, decide_eq_true_eq, decide_eq_false_iff_not, ne_eq, not_true_eq_false, not_false_eq_true, Bool.not_eq_true', Bool.not_eq_false', beq_self_eq_true, Bool.not_true, Bool.not_false, List.getElem?_toArray, List.getElem?_cons_zero, List.getElem?_cons_succ, List.getElem_toArray, List.getElem_cons_zero, List.getElem_cons_succ]
      refine aloop (fun dm fr V => ∃ (i : Nat) (fp : List Nat) (w : Value), i ≤ ts.length ∧ dm = ts.length - i ∧ Led A [rsl 34 testS A fp w (pickE want e (ts.take i)), bx q7 ⟨64, d, 2, true⟩, exI fe e d] V ∧ fr 2 = .bool want ∧ fr 7 = .pointer (some ⟨q7, 0, none⟩) ∧ fr 9 = w ∧ fr 25 = .slice a ts.length c ∧ fr 26 = .int .i64 ts.length ∧ fr 27 = .int .i64 i) ts.length ⟨0, _, _, by omega, by omega, l, by rfl, by rfl, by rfl, by rfl, by rfl, by rfl⟩ ?_
      clear l le
      rintro dm fr V ⟨i, fp, w, hi, rfl, l, h2, h7, h9, h25, h26, h27⟩
      simp (disch := omega) only [↓stq, amv_at, vls, inf, frs, mark_eq, ↓reduceIte, Nat.reduceEqDiff, ite_tt, ite_ff, eq_self, and_true, true_and, and_self, implies_true, Bool.true_eq_false, Bool.false_eq_true, decide_true, decide_false, decide_eq_true_eq, decide_eq_false_iff_not, ne_eq, not_true_eq_false, not_false_eq_true, Bool.not_eq_true', Bool.not_eq_false', beq_self_eq_true, Bool.not_true, Bool.not_false, List.getElem?_toArray, List.getElem?_cons_zero, List.getElem?_cons_succ, h2, h7, h9, h25, h26, h27]
      refine ⟨fun e3 => ?_, fun e3 => ?_⟩
      · have hlt : i < ts.length := by omega
        have hpl := pickE_len want e (ts.take i)
        rw [List.length_take] at hpl
        have htk := pickE_take (want := want) (e := e) hlt
        obtain ⟨ad, u2, u3, rfl, hclA, z1, z2, f2, f3⟩ := h.test hlt
        obtain ⟨a2, c2, rfl, _, _⟩ := f2.slice
        obtain ⟨a3, c3, rfl, _, _⟩ := f3.slice
        have hcl := l.ext.part hclA
        simp (disch := omega) only [↓stq, amv_at, vls, inf, frs, mark_eq, ↓reduceIte, Nat.reduceEqDiff, ite_tt, ite_ff, eq_self, and_true, true_and, and_self, implies_true, Bool.true_eq_false, Bool.false_eq_true, decide_true, decide_false, decide_eq_true_eq, decide_eq_false_iff_not, ne_eq, not_true_eq_false, not_false_eq_true, Bool.not_eq_true', Bool.not_eq_false', beq_self_eq_true, Bool.not_true, Bool.not_false, List.getElem?_toArray, List.getElem?_cons_zero, List.getElem?_cons_succ, h2, h7, h9, h25, h26, h27, hcl]
        refine led_alloc zc34 l fun q11 V6 _ l => ?_
        simp (disch := omega) only [↓stq, amv_at, vls, inf, frs, mark_eq, ↓reduceIte, Nat.reduceEqDiff, ite_tt, ite_ff, eq_self, and_true, true_and, and_self, implies_true, Bool.true_eq_false, Bool.false_eq_true, decide_true, decide_false, decide_eq_true_eq, decide_eq_false_iff_not, ne_eq, not_true_eq_false, not_false_eq_true, Bool.not_eq_true', Bool.not_eq_false', beq_self_eq_true, Bool.not_true, Bool.not_false, List.getElem?_toArray, List.getElem?_cons_zero, List.getElem?_cons_succ, h2, h7, h9, h25, h26, h27]
        refine led_storeAll l 0 rfl sz34 rfl rfl (by simp [Value.oneCell']) fun V7 l => ?_
        have k7 : V7.part ⟨q7, 0, none⟩ 2 = some d := l.partn (i := 2) rfl hd.1 hd.2
        have m0 := l.cell (i := 0) rfl (o := 0) rfl rfl
        have m2 := l.cell (i := 0) rfl (o := 2) rfl rfl
        simp (disch := omega) only [↓stq, amv_at, vls, inf, frs, mark_eq, ↓reduceIte, Nat.reduceEqDiff, ite_tt, ite_ff, eq_self, and_true, true_and, and_self, implies_true, Bool.true_eq_false, Bool.false_eq_true, decide_true, decide_false, decide_eq_true_eq, decide_eq_false_iff_not, ne_eq, not_true_eq_false, not_false_eq_true, Bool.not_eq_true', Bool.not_eq_false', beq_self_eq_true, Bool.not_true, Bool.not_false, List.getElem?_toArray, List.getElem?_cons_zero, List.getElem?_cons_succ, h2, h7, h9, h25, h26, h27, add_at, k7, m0, m2]
        refine (impl_holds_c (ts[i]).1 _ (ts[i]).2.2.1 e V7 d (exI_r (l.at (i := 3) rfl)) (f2.mono l.ext)).mono ?_
        rintro _ V8 ⟨rfl, he8⟩
        replace l := l.step he8
        simp (disch := omega) only [↓stq, amv_at, vls, inf, frs, mark_eq, ↓reduceIte, Nat.reduceEqDiff, ite_tt, ite_ff, eq_self, and_true, true_and, and_self, implies_true, Bool.true_eq_false, Bool.false_eq_true, decide_true, decide_false, decide_eq_true_eq, decide_eq_false_iff_not, ne_eq, not_true_eq_false, not_false_eq_true, Bool.not_eq_true', Bool.not_eq_false', beq_self_eq_true, Bool.not_true, Bool.not_false, List.getElem?_toArray, List.getElem?_cons_zero, List.getElem?_cons_succ, h2, h7, h9, h25, h26, h27]
        refine ⟨fun e4 => ?_, fun e4 => ?_⟩
        · have kt : V8.part ⟨q11, 0, none⟩ 4 = some [.string (ts[i]).1, .string (ts[i]).2.1, .slice a2 (ts[i]).2.2.1.length c2, .slice a3 (ts[i]).2.2.2.1.length c3] := l.part (i := 0) rfl rfl
          simp (disch := omega) only [↓stq, amv_at, vls, inf, frs, mark_eq, ↓reduceIte, Nat.reduceEqDiff, ite_tt, ite_ff, eq_self, and_true, true_and, and_self, implies_true, Bool.true_eq_false, Bool.false_eq_true, decide_true, decide_false, decide_eq_true_eq, decide_eq_false_iff_not, ne_eq, not_true_eq_false, not_false_eq_true, Bool.not_eq_true', Bool.not_eq_false', beq_self_eq_true, Bool.not_true, Bool.not_false, List.getElem?_toArray, List.getElem?_cons_zero, List.getElem?_cons_succ, h2, h7, h9, h25, h26, h27, kt]
          refine led_lit li23 (by omega) rfl (fun p hp => by rcases List.mem_singleton.1 hp with rfl; exact ⟨rfl, rfl⟩) l fun bl V9 _ l => ?_
          simp (disch := omega) only [↓stq, amv_at, vls, inf, frs, mark_eq, ↓reduceIte, Nat.reduceEqDiff, ite_tt, ite_ff, eq_self, and_true, true_and, and_self, implies_true, Bool.true_eq_false, Bool.false_eq_true, decide_true, decide_false, decide_eq_true_eq, decide_eq_false_iff_not, ne_eq, not_true_eq_false, not_false_eq_true, Bool.not_eq_true', Bool.not_eq_false', beq_self_eq_true, Bool.not_true, Bool.not_false, List.getElem?_toArray, List.getElem?_cons_zero, List.getElem?_cons_succ, h2, h7, h9, h25, h26, h27]
          refine led_appR (S := testS) (B := A) (ys := [ts[i]]) (news := [.string (ts[i]).1, .string (ts[i]).2.1, .slice a2 (ts[i]).2.2.1.length c2, .slice a3 (ts[i]).2.2.2.1.length c3]) ap23_23 (by decide) l (i := 2) rfl (lit_src (l.at (i := 0) rfl) rfl (by simp [Value.oneCell'])) (by have := Elems.cons (S := testS) (A := A) (x := ts[i]) (xs := []) (testS_mk z1 z2 f2 f3) .nil; simpa using this) (by rw [List.length_singleton]; omega) fun fp' w' V10 _ l => ?_
          simp (disch := omega) only [↓stq, amv_at, vls, inf, frs, mark_eq, ↓reduceIte, Nat.reduceEqDiff, ite_tt, ite_ff, eq_self, and_true, true_and, and_self, implies_true, Bool.true_eq_false, Bool.false_eq_true, decide_true, decide_false, decide_eq_true_eq, decide_eq_false_iff_not, ne_eq, not_true_eq_false, not_false_eq_true, Bool.not_eq_true', Bool.not_eq_false', beq_self_eq_true, Bool.not_true, Bool.not_false, List.getElem?_toArray, List.getElem?_cons_zero, List.getElem?_cons_succ, h2, h7, h9, h25, h26, h27]
          rw [if_pos e4] at htk
          exact ⟨_, by omega, i + 1, fp', w', by omega, rfl, by rw [htk]; exact l.tail.tail, rfl, rfl⟩
        · simp (disch := omega) only [↓stq, amv_at, vls, inf, frs, mark_eq, ↓reduceIte, Nat.reduceEqDiff, ite_tt, ite_ff, eq_self, and_true, true_and, and_self, implies_true, Bool.true_eq_false, Bool.false_eq_true, decide_true, decide_false, decide_eq_true_eq, decide_eq_false_iff_not, ne_eq, not_true_eq_false, not_false_eq_true, Bool.not_eq_true', Bool.not_eq_false', beq_self_eq_true, Bool.not_true, Bool.not_false, List.getElem?_toArray, List.getElem?_cons_zero, List.getElem?_cons_succ, h2, h7, h9, h25, h26, h27]
          rw [if_neg (by simpa using e4), List.append_nil] at htk
          exact ⟨_, by omega, i + 1, fp, _, by omega, rfl, by rw [htk]; exact l.tail, rfl, rfl⟩
      · rw [List.take_of_length_le (by omega)] at l
        have hpl := pickE_len want e ts
        simp (disch := omega) only [↓stq, amv_at, vls, inf, frs, mark_eq, ↓reduceIte, Nat.reduceEqDiff, ite_tt, ite_ff, eq_self, and_true, true_and, and_self, implies_true, Bool.true_eq_false, Bool.false_eq_true, decide_true, decide_false, decide_eq_true_eq, decide_eq_false_iff_not, ne_eq, not_true_eq_false, not_false_eq_true, Bool.not_eq_true', Bool.not_eq_false', beq_self_eq_true, Bool.not_true, Bool.not_false, List.getElem?_toArray, List.getElem?_cons_zero, List.getElem?_cons_succ, h2, h7, h9, h25, h26, h27]
        have hout : Sl testS V w (pickE want e ts) := RSl.toS (show RSl 34 testS A V fp w _ from l.at (i := 0) rfl) l.ext
        refine (impl_copyTests_c V _ (pickE want e ts) hout (by omega) fun t ht => testB_small (hp.2.1 t ((List.mem_filter.1 ht).1))).mono ?_
        rintro r V2 hr
        simp (disch := omega) only [↓stq, amv_at, vls, inf, frs, mark_eq, ↓reduceIte, Nat.reduceEqDiff, ite_tt, ite_ff, eq_self, and_true, true_and, and_self, implies_true, Bool.true_eq_false, Bool.false_eq_true, decide_true, decide_false, decide_eq_true_eq, decide_eq_false_iff_not, ne_eq, not_true_eq_false, not_false_eq_true, Bool.not_eq_true', Bool.not_eq_false', beq_self_eq_true, Bool.not_true, Bool.not_false, List.getElem?_toArray, List.getElem?_cons_zero, List.getElem?_cons_succ, h2, h7, h9, h25, h26, h27]
        exact hr.base l.ext

theorem impl_SelectTests_c (A : View) (v : Value) (s : ByteArray) (ts : List TestD) (h : Sl testS A v ts) (hs : s.size ≤ 140737488355328) (hl : ts.length ≤ 16777215) : ACalls Try.prog 21 #[v, .string s] A fun r V => NewSl 34 testO A r V (selE true s ts) := by
  refine acalls Try.func21 rfl (by kernel_rfl) ?_
  simp (disch := omega) only [↓stq, amv_at, vls, inf, frs, mark_eq, ↓reduceIte, Nat.reduceEqDiff, ite_tt, ite_ff, eq_self, and_true, true_and, and_self, implies_true, Bool.true_eq_false, Bool.false_eq_true, decide_true, decide_false, decide_eq_true_eq, decide_eq_false_iff_not, ne_eq, not_true_eq_false, not_false_eq_true, Bool.not_eq_true', Bool.not_eq_false', beq_self_eq_true, Bool.not_true, Bool.not_false, List.getElem?_toArray, List.getElem?_cons_zero, List.getElem?_cons_succ]
  refine (impl_chosen_c A _ s true ts h hs hl).mono ?_
  rintro r V hr
  simp (disch := omega) only [↓stq, amv_at, vls, inf, frs, mark_eq, ↓reduceIte, Nat.reduceEqDiff, ite_tt, ite_ff, eq_self, and_true, true_and, and_self, implies_true, Bool.true_eq_false, Bool.false_eq_true, decide_true, decide_false, decide_eq_true_eq, decide_eq_false_iff_not, ne_eq, not_true_eq_false, not_false_eq_true, Bool.not_eq_true', Bool.not_eq_false', beq_self_eq_true, Bool.not_true, Bool.not_false, List.getElem?_toArray, List.getElem?_cons_zero, List.getElem?_cons_succ]
  exact hr

theorem impl_RejectTests_c (A : View) (v : Value) (s : ByteArray) (ts : List TestD) (h : Sl testS A v ts) (hs : s.size ≤ 140737488355328) (hl : ts.length ≤ 16777215) : ACalls Try.prog 37 #[v, .string s] A fun r V => NewSl 34 testO A r V (selE false s ts) := by
  refine acalls Try.func37 rfl (by kernel_rfl) ?_
  simp (disch := omega) only [↓stq, amv_at, vls, inf, frs, mark_eq, ↓reduceIte, Nat.reduceEqDiff, ite_tt, ite_ff, eq_self, and_true, true_and, and_self, implies_true, Bool.true_eq_false, Bool.false_eq_true, decide_true, decide_false, decide_eq_true_eq, decide_eq_false_iff_not, ne_eq, not_true_eq_false, not_false_eq_true, Bool.not_eq_true', Bool.not_eq_false', beq_self_eq_true, Bool.not_true, Bool.not_false, List.getElem?_toArray, List.getElem?_cons_zero, List.getElem?_cons_succ]
  refine (impl_chosen_c A _ s false ts h hs hl).mono ?_
  rintro r V hr
  simp (disch := omega) only [↓stq, amv_at, vls, inf, frs, mark_eq, ↓reduceIte, Nat.reduceEqDiff, ite_tt, ite_ff, eq_self, and_true, true_and, and_self, implies_true, Bool.true_eq_false, Bool.false_eq_true, decide_true, decide_false, decide_eq_true_eq, decide_eq_false_iff_not, ne_eq, not_true_eq_false, not_false_eq_true, Bool.not_eq_true', Bool.not_eq_false', beq_self_eq_true, Bool.not_true, Bool.not_false, List.getElem?_toArray, List.getElem?_cons_zero, List.getElem?_cons_succ]
  exact hr

def mtE (s : ByteArray) (x : TestD) : Bool := match exprP s with
  | some e => e.ev x.1 x.2.2.1
  | none => false
theorem impl_Matches_c (A : View) (s : ByteArray) (d : List Value) (x : TestD) (h : testS.rel A x d) (hs : s.size ≤ 140737488355328) : ACalls Try.prog 27 #[.string s, .agg d.toArray] A fun r V => r = .bool (testB x && mtE s x) ∧ Ext A V := by
  obtain ⟨u2, u3, rfl, z1, z2, f2, f3⟩ := testS_open h
  obtain ⟨a2, c2, rfl, _, _⟩ := f2.slice
  obtain ⟨a3, c3, rfl, _, _⟩ := f3.slice
  unfold mtE
  refine acalls Try.func27 rfl (by kernel_rfl) ?_
  simp (disch := omega) only [↓stq, amv_at, vls, inf, frs, mark_eq, ↓reduceIte, Nat.reduceEqDiff, ite_tt, ite_ff, eq_self, and_true, true_and, and_self, implies_true, Bool.true_eq_false, Bool.false_eq_true, decide_true, decide_false, decide_eq_true_eq, decide_eq_false_iff_not, ne_eq, not_true_eq_false, not_false_eq_true, Bool.not_eq_true', Bool.not_eq_false', beq_self_eq_true, Bool.not_true, Bool.not_false, List.getElem?_toArray, List.getElem?_cons_zero, List.getElem?_cons_succ]
  refine led_box (Led.nil A) rfl fun p V _ l => ?_
  simp (disch := omega) only [↓stq, amv_at, vls, inf, frs, mark_eq, ↓reduceIte, Nat.reduceEqDiff, ite_tt, ite_ff, eq_self, and_true, true_and, and_self, implies_true, Bool.true_eq_false, Bool.false_eq_true, decide_true, decide_false, decide_eq_true_eq, decide_eq_false_iff_not, ne_eq, not_true_eq_false, not_false_eq_true, Bool.not_eq_true', Bool.not_eq_false', beq_self_eq_true, Bool.not_true, Bool.not_false, List.getElem?_toArray, List.getElem?_cons_zero, List.getElem?_cons_succ, List.getElem_toArray, List.getElem_cons_zero, List.getElem_cons_succ]
  refine (impl_readExpr_c V s hs).mono ?_
  rintro _ V ⟨d, rfl, hd, hg⟩
  simp (disch := omega) only [↓stq, amv_at, vls, inf, frs, mark_eq, ↓reduceIte, Nat.reduceEqDiff, ite_tt, ite_ff, eq_self, and_true, true_and, and_self, implies_true, Bool.true_eq_false, Bool.false_eq_true, decide_true, decide_false, decide_eq_true_eq, decide_eq_false_iff_not, ne_eq, not_true_eq_false, not_false_eq_true, Bool.not_eq_true', Bool.not_eq_false', beq_self_eq_true, Bool.not_true, Bool.not_false, List.getElem?_toArray, List.getElem?_cons_zero, List.getElem?_cons_succ, List.getElem_toArray, List.getElem_cons_zero, List.getElem_cons_succ]
  cases hE : isE s with
  | false =>
    refine led_alloc zc64 (l.step hg.ext) fun q7 V3 _ l => ?_
    simp (disch := omega) only [↓stq, amv_at, vls, inf, frs, mark_eq, ↓reduceIte, Nat.reduceEqDiff, ite_tt, ite_ff, eq_self, and_true, true_and, and_self, implies_true, Bool.true_eq_false, Bool.false_eq_true, decide_true, decide_false, decide_eq_true_eq, decide_eq_false_iff_not, ne_eq, not_true_eq_false, not_false_eq_true, Bool.not_eq_true', Bool.not_eq_false', beq_self_eq_true, Bool.not_true, Bool.not_false, List.getElem?_toArray, List.getElem?_cons_zero, List.getElem?_cons_succ, List.getElem_toArray, List.getElem_cons_zero, List.getElem_cons_succ]
    refine led_storeAll l 0 rfl sz64 hd.1 rfl hd.2 fun V4 l => ?_
    simp (disch := omega) only [↓stq, amv_at, vls, inf, frs, mark_eq, ↓reduceIte, Nat.reduceEqDiff, ite_tt, ite_ff, eq_self, and_true, true_and, and_self, implies_true, Bool.true_eq_false, Bool.false_eq_true, decide_true, decide_false, decide_eq_true_eq, decide_eq_false_iff_not, ne_eq, not_true_eq_false, not_false_eq_true, Bool.not_eq_true', Bool.not_eq_false', beq_self_eq_true, Bool.not_true, Bool.not_false, List.getElem?_toArray, List.getElem?_cons_zero, List.getElem?_cons_succ, List.getElem_toArray, List.getElem_cons_zero, List.getElem_cons_succ]
    have : exprP s = none := by
      unfold isE at hE
      cases hq : exprP s with
      | none => rfl
      | some e => rw [hq] at hE; cases hE
    rw [this]
    exact ⟨by rw [Bool.and_false], l.ext⟩
  | true =>
    obtain ⟨e, hx⟩ := isE_some hE
    rw [hx] at hg ⊢
    obtain ⟨fe, le⟩ := hg
    replace l := l.append le
    refine led_alloc zc64 l fun q7 V3 _ l => ?_
    simp (disch := omega) only [↓stq, amv_at, vls, inf, frs, mark_eq, ↓reduceIte, Nat.reduceEqDiff, ite_tt, ite_ff, eq_self, and_true, true_and, and_self, implies_true, Bool.true_eq_false, Bool.false_eq_true, decide_true, decide_false, decide_eq_true_eq, decide_eq_false_iff_not, ne_eq, not_true_eq_false, not_false_eq_true, Bool.not_eq_true', Bool.not_eq_false', beq_self_eq_true, Bool.not_true, Bool.not_false, List.getElem?_toArray, List.getElem?_cons_zero, List.getElem?_cons_succ, List.getElem_toArray, List.getElem_cons_zero, List.getElem_cons_succ]
    refine led_storeAll l 0 rfl sz64 hd.1 rfl hd.2 fun V4 l => ?_
    have kp : V4.part ⟨p, 0, none⟩ 4 = some [.string x.1, .string x.2.1, .slice a2 x.2.2.1.length c2, .slice a3 x.2.2.2.1.length c3] := l.part (i := 2) rfl rfl
    simp (disch := omega) only [↓stq, amv_at, vls, inf, frs, mark_eq, ↓reduceIte, Nat.reduceEqDiff, ite_tt, ite_ff, eq_self, and_true, true_and, and_self, implies_true, Bool.true_eq_false, Bool.false_eq_true, decide_true, decide_false, decide_eq_true_eq, decide_eq_false_iff_not, ne_eq, not_true_eq_false, not_false_eq_true, Bool.not_eq_true', Bool.not_eq_false', beq_self_eq_true, Bool.not_true, Bool.not_false, List.getElem?_toArray, List.getElem?_cons_zero, List.getElem?_cons_succ, List.getElem_toArray, List.getElem_cons_zero, List.getElem_cons_succ, kp]
    refine (impl_testOk_c V4 _ x (testS_mk z1 z2 (f2.mono l.ext) (f3.mono l.ext))).mono ?_
    rintro _ V5 ⟨rfl, he5⟩
    replace l := l.step he5
    have k7 : V5.part ⟨q7, 0, none⟩ 2 = some d := l.partn (i := 0) rfl hd.1 hd.2
    have m0 := l.cell (i := 2) rfl (o := 0) rfl rfl
    have m2 := l.cell (i := 2) rfl (o := 2) rfl rfl
    simp (disch := omega) only [↓stq, amv_at, vls, inf, frs, mark_eq, ↓reduceIte, Nat.reduceEqDiff, ite_tt, ite_ff, eq_self, and_true, true_and, and_self, implies_true, Bool.true_eq_false, Bool.false_eq_true, decide_true, decide_false, decide_eq_true_eq, decide_eq_false_iff_not, ne_eq, not_true_eq_false, not_false_eq_true, Bool.not_eq_true', Bool.not_eq_false', beq_self_eq_true, Bool.not_true, Bool.not_false, List.getElem?_toArray, List.getElem?_cons_zero, List.getElem?_cons_succ, List.getElem_toArray, List.getElem_cons_zero, List.getElem_cons_succ]
    cases testB x with
    | false =>
      simp (disch := omega) only [↓stq, amv_at, vls, inf, frs, mark_eq, ↓reduceIte, Nat.reduceEqDiff, ite_tt, ite_ff, eq_self, and_true, true_and, and_self, implies_true, Bool.true_eq_false, Bool.false_eq_true, decide_true, decide_false, decide_eq_true_eq, decide_eq_false_iff_not, ne_eq, not_true_eq_false, not_false_eq_true, Bool.not_eq_true', Bool.not_eq_false', beq_self_eq_true, Bool.not_true, Bool.not_false, List.getElem?_toArray, List.getElem?_cons_zero, List.getElem?_cons_succ, List.getElem_toArray, List.getElem_cons_zero, List.getElem_cons_succ]
      exact ⟨rfl, l.ext⟩
    | true =>
      simp (disch := omega) only [↓stq, amv_at, vls, inf, frs, mark_eq, ↓reduceIte, Nat.reduceEqDiff, ite_tt, ite_ff, eq_self, and_true, true_and, and_self, implies_true, Bool.true_eq_false, Bool.false_eq_true, decide_true, decide_false, decide_eq_true_eq, decide_eq_false_iff_not, ne_eq, not_true_eq_false, not_false_eq_true, Bool.not_eq_true', Bool.not_eq_false', beq_self_eq_true, Bool.not_true, Bool.not_false, List.getElem?_toArray, List.getElem?_cons_zero, List.getElem?_cons_succ, List.getElem_toArray, List.getElem_cons_zero, List.getElem_cons_succ, add_at, k7, m0, m2]
      refine (impl_holds_c x.1 _ x.2.2.1 e V5 d (exI_r (l.at (i := 1) rfl)) (f2.mono l.ext)).mono ?_
      rintro _ V8 ⟨rfl, he8⟩
      simp (disch := omega) only [↓stq, amv_at, vls, inf, frs, mark_eq, ↓reduceIte, Nat.reduceEqDiff, ite_tt, ite_ff, eq_self, and_true, true_and, and_self, implies_true, Bool.true_eq_false, Bool.false_eq_true, decide_true, decide_false, decide_eq_true_eq, decide_eq_false_iff_not, ne_eq, not_true_eq_false, not_false_eq_true, Bool.not_eq_true', Bool.not_eq_false', beq_self_eq_true, Bool.not_true, Bool.not_false, List.getElem?_toArray, List.getElem?_cons_zero, List.getElem?_cons_succ, List.getElem_toArray, List.getElem_cons_zero, List.getElem_cons_succ]
      exact ⟨rfl, l.ext.trans he8⟩

theorem testsB_cnt {ts : List TestD} (h : ∀ t, t ∈ ts → testB t = true) : cntL testT ts ≤ 9 * ts.length := by
  induction ts with
  | nil => simp [cntL]
  | cons t ts ih =>
    have h1 := ih fun y hy => h y (List.mem_cons_of_mem _ hy)
    have h2 := h t (List.mem_cons_self ..)
    unfold testB at h2
    simp only [Bool.and_eq_true] at h2
    have h3 := namesB_len h2.1.1.2
    have h4 := namesB_len h2.2
    have h5 : testT.cnt t = 1 + (1 + (cntL strT t.2.2.1 + (cntL strT t.2.2.2.1 + 0))) := rfl
    rw [cntL_str, cntL_str] at h5
    simp only [cntL, List.length_cons]
    omega
theorem selE_cnt (want : Bool) (s : ByteArray) (ts : List TestD) : cntL testT (selE want s ts) ≤ 1073741824 := by
  cases hx : exprP s with
  | none => rw [selE_no (.inl (by unfold isE; rw [hx]; rfl))]; simp [cntL]
  | some e =>
    cases ht : testsB ts with
    | false => rw [selE_no (.inr ht)]; simp [cntL]
    | true =>
      rw [selE_of hx ht]
      have hp := testsB_parts ht
      have h1 := testsB_cnt (ts := pickE want e ts) fun t h => hp.2.1 t ((List.mem_filter.1 h).1)
      have h2 := pickE_len want e ts
      omega

end Go.Proofs.Ytbddklkfekiaeaa

