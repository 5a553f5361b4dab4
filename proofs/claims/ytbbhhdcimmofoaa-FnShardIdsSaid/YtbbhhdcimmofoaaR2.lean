/- Tests with those of great cost first. -/
import Derived.Test.YtbbhhdcimmofoaaP1
import Derived.Test.YtbbhhdcimmofoaaQ1
import Derived.Test.YtbbhhdcimmofoaaSS
set_option maxHeartbeats 4000000
set_option synthInstance.maxHeartbeats 400000
set_option synthInstance.maxSize 4096
set_option linter.unusedSimpArgs false
set_option linter.unusedVariables false
namespace Go.Proofs.Ytbbhhdcimmofoaa

set_option maxRecDepth 100000

theorem led_setelem {P : Program} {A V : View} {L : List It} {K : Value → View → Prop} {α : Type} {O : OwnS α} [Flat O] {t e : TypeId} {i k j b c o n : Nat} {fp : List Nat} {xs : List α} {val : Value} {x' : α} (h : Led A L V) (hi : L[i]? = some (osl e O fp (.slice (some ⟨b, 0, none⟩) n c) xs)) (hk : k < xs.length) (hs : (P.info? t).map (·.size) = some 1)
    (ho : o = k * O.S.size + j) (hv : val.cells = #[val] ∧ val.oneCell' = true) (hx : ∀ d, O.S.rel V xs[k] d → j < d.length ∧ O.S.rel V x' (d.set j val))
    (hK : ∀ W, Only fp V W → Led A (L.set i (osl e O fp (.slice (some ⟨b, 0, none⟩) n c) (xs.set k x'))) W → K undef W) : astore P t (.pointer (some ⟨b, o, none⟩)) val V K := by
  have hn : n = xs.length := by
    obtain ⟨_, ⟨hq, _⟩ | ⟨_, _, _, _, hq, _⟩⟩ := (show OSl e O V fp _ xs from h.at hi)
    · cases hq
    · injection hq
  subst hn
  exact led_setfield h hi hk hs ho hv hx hK

theorem insSort_c (B A : View) (L : List It) (fp : List Nat) (v : Value) (xs : List ByteArray) (g : Nat) (first cap : Array Value) (f : ByteArray → Int) (hf : ∀ s, 0 ≤ f s ∧ f s ≤ 99) (hg : callable Try.prog g = true) (hsm : xs.length ≤ 16777216)
    (hcmp : ∀ V w, Led B (osl 9 strO fp v w :: L) V → ∀ x y : ByteArray, ACalls Try.prog g (first ++ #[.string x, .string y] ++ cap) V fun r V' => r = .int .i64 (f y - f x) ∧ Ext V V')
    (l : Led B (osl 9 strO fp v xs :: L) A) : ACalls Try.prog 94 #[v, .int .i64 0, .int .i64 xs.length, .func (.func g) first cap] A fun _ V => Led B (osl 9 strO fp v (ssort f xs) :: L) V := by
  obtain ⟨ar, c, rfl, hc, hl⟩ := (show Sl strS A v xs from OSl.toS (show OSl 9 strO A fp v xs from l.at (i := 0) rfl)).slice
  refine acalls Try.func94 rfl (by kernel_rfl) ?_
  simp (disch := omega) only [↓stp, vls, inf, frs, mark_eq, ↓reduceIte, Nat.reduceEqDiff, ite_tt, ite_ff, eq_self, and_true, true_and, and_self, implies_true, Bool.true_eq_false, Bool.false_eq_true, decide_true, decide_false, decide_eq_true_eq, decide_eq_false_iff_not, ne_eq, not_true_eq_false, not_false_eq_true, Bool.not_eq_true', Bool.not_eq_false', beq_self_eq_true, Bool.not_true, Bool.not_false, List.getElem?_toArray, List.getElem?_cons_zero, List.getElem?_cons_succ]
  refine aloop (fun d fr V => ∃ i : Nat, 1 ≤ i ∧ (i ≤ xs.length ∨ i = 1) ∧ d = xs.length - i ∧ Led B (osl 9 strO fp (.slice ar xs.length c) (ssort f (xs.take i) ++ xs.drop i) :: L) V ∧ fr 0 = .slice ar xs.length c ∧ fr 1 = .int .i64 0 ∧ fr 2 = .int .i64 xs.length ∧ fr 3 = .func (.func g) first cap ∧ fr 8 = .int .i64 i) (xs.length - 1) ⟨1, by omega, .inr rfl, rfl, by rw [ssort_one]; exact l, rfl, rfl, rfl, rfl, rfl⟩ ?_
  rintro d fr V ⟨i, hi1, hi, rfl, l, h0, h1, h2, h3, h8⟩
  simp (disch := omega) only [↓stp, vls, inf, frs, mark_eq, ↓reduceIte, Nat.reduceEqDiff, ite_tt, ite_ff, eq_self, and_true, true_and, and_self, implies_true, Bool.true_eq_false, Bool.false_eq_true, decide_true, decide_false, decide_eq_true_eq, decide_eq_false_iff_not, ne_eq, not_true_eq_false, not_false_eq_true, Bool.not_eq_true', Bool.not_eq_false', beq_self_eq_true, Bool.not_true, Bool.not_false, List.getElem?_toArray, List.getElem?_cons_zero, List.getElem?_cons_succ, h0, h1, h2, h3, h8]
  refine ⟨fun e => ?_, fun e => ?_⟩
  · have hlt : i < xs.length := by omega
    have hR : xs.drop i = xs[i] :: (xs.drop i).tail := by rw [List.tail_drop, ← List.drop_eq_getElem_cons]
    have hS : (ssort f (xs.take i)).length = i := by rw [ssort_len, List.length_take]; omega
    have hD := ssort_desc (f := f) (xs.take i)
    have hts := ssort_take (f := f) hlt
    rw [ssW_full hR, hS, List.tail_drop] at l
    generalize ssort f (xs.take i) = S at l hS hD hts
    simp (disch := omega) only [↓stp, vls, inf, frs, mark_eq, ↓reduceIte, Nat.reduceEqDiff, ite_tt, ite_ff, eq_self, and_true, true_and, and_self, implies_true, Bool.true_eq_false, Bool.false_eq_true, decide_true, decide_false, decide_eq_true_eq, decide_eq_false_iff_not, ne_eq, not_true_eq_false, not_false_eq_true, Bool.not_eq_true', Bool.not_eq_false', beq_self_eq_true, Bool.not_true, Bool.not_false, List.getElem?_toArray, List.getElem?_cons_zero, List.getElem?_cons_succ, h0, h1, h2, h3, h8]
    refine aloop (fun d fr V => ∃ j : Nat, j ≤ i ∧ d = j ∧ (∀ y, y ∈ S.drop j → f y < f xs[i]) ∧ Led B (osl 9 strO fp (.slice ar xs.length c) (ssW S xs[i] j ++ xs.drop (i + 1)) :: L) V ∧ fr 0 = .slice ar xs.length c ∧ fr 1 = .int .i64 0 ∧ fr 2 = .int .i64 xs.length ∧ fr 3 = .func (.func g) first cap ∧ fr 8 = .int .i64 i ∧ fr 9 = .int .i64 j) i ⟨i, by omega, rfl, ?_, l, h0, h1, h2, h3, h8, rfl⟩ ?_
    · intro y hy
      rw [← hS, List.drop_length] at hy
      cases hy
    clear l
    rintro d fr V ⟨j, hj, rfl, hgt, l, h0, h1, h2, h3, h8, h9⟩
    have hwl : (ssW S xs[i] d ++ xs.drop (i + 1)).length = xs.length := by rw [ssW_len (by omega), List.length_drop]; omega
    have hat : (ssW S xs[i] d ++ xs.drop (i + 1))[d]? = some xs[i] := ssW_at (by omega)
    have hfin : (∀ y, y ∈ S.take d → f xs[i] ≤ f y) → ssort f (xs.take (i + 1)) = ssW S xs[i] d := fun hq => by
      rw [hts]
      conv => lhs; rw [← List.take_append_drop d S]
      exact ssIns_split hq hgt
    refine adraw_items [.q 0, .q 1, .q 2, .q 3, .q 4, .q 5, .q 6, .q 7, .l 8 false, .q 9, .q 10, .q 11, .q 12, .l 13 false, .c 14 [], .q 15, .q 16] (by kernel_rfl) (by kernel_rfl) ?_
    simp (disch := omega) only [↓stp, ↓pln, plv, nilOk, Nat.reduceBEq, Bool.or_false, Bool.or_true, Bool.false_or, Bool.true_or, vls, inf, frs, mark_eq, ↓reduceIte, Nat.reduceEqDiff, ite_tt, ite_ff, eq_self, and_true, true_and, and_self, implies_true, Bool.true_eq_false, Bool.false_eq_true, decide_true, decide_false, decide_eq_true_eq, decide_eq_false_iff_not, ne_eq, not_true_eq_false, not_false_eq_true, Bool.not_eq_true', Bool.not_eq_false', beq_self_eq_true, Bool.not_true, Bool.not_false, List.getElem?_toArray, List.getElem?_cons_zero, List.getElem?_cons_succ, h0, h1, h2, h3, h8, h9]
    refine ⟨fun e1 => ?_, fun e1 => ?_⟩
    · have hpr := ssW_prev (S := S) (x := xs[i]) (R := xs.drop (i + 1)) (j := d) (by omega) (by omega)
      have hsw := ssW_swap (S := S) (x := xs[i]) (R := xs.drop (i + 1)) (j := d) (by omega) (by omega)
      have hm : (S[d - 1]'(by omega)) ∈ S.take d := by
        rw [List.mem_iff_getElem]
        exact ⟨d - 1, by rw [List.length_take]; omega, by rw [List.getElem_take]⟩
      generalize hw : ssW S xs[i] d ++ xs.drop (i + 1) = w at l hwl hat hpr hsw
      have hO : OSl 9 strO V fp (.slice ar xs.length c) w := l.at (i := 0) rfl
      obtain ⟨ad, rfl, k1, z1⟩ := Sl.str (OSl.toS hO) (i := d) (by omega)
      obtain ⟨ad', hq, k2, z2⟩ := Sl.str (OSl.toS hO) (i := d - 1) (by omega)
      obtain rfl := Option.some.inj hq
      rw [List.getElem?_eq_getElem (by omega)] at hat hpr
      have hat := Option.some.inj hat
      have hpr := Option.some.inj hpr
      rw [hat] at k1 z1
      rw [hpr] at k2 z2
      have hdd : ((d : Int) - 1).toNat = d - 1 := by omega
      simp (disch := omega) only [↓stp, ↓pln, plv, nilOk, Nat.reduceBEq, Bool.or_false, Bool.or_true, Bool.false_or, Bool.true_or, vls, inf, frs, mark_eq, ↓reduceIte, Nat.reduceEqDiff, ite_tt, ite_ff, eq_self, and_true, true_and, and_self, implies_true, Bool.true_eq_false, Bool.false_eq_true, decide_true, decide_false, decide_eq_true_eq, decide_eq_false_iff_not, ne_eq, not_true_eq_false, not_false_eq_true, Bool.not_eq_true', Bool.not_eq_false', beq_self_eq_true, Bool.not_true, Bool.not_false, List.getElem?_toArray, List.getElem?_cons_zero, List.getElem?_cons_succ, h0, h1, h2, h3, h8, h9, e1, k1, k2, hdd]
      rw [acall_at hg]
      refine (hcmp V w l xs[i] (S[d - 1]'(by omega))).mono ?_
      rintro _ V' ⟨rfl, he⟩
      replace k1 := he.cell k1
      replace k2 := he.cell k2
      replace l := l.step he
      simp (disch := omega) only [↓stp, ↓pln, plv, nilOk, Nat.reduceBEq, Bool.or_false, Bool.or_true, Bool.false_or, Bool.true_or, vls, inf, frs, mark_eq, ↓reduceIte, Nat.reduceEqDiff, ite_tt, ite_ff, eq_self, and_true, true_and, and_self, implies_true, Bool.true_eq_false, Bool.false_eq_true, decide_true, decide_false, decide_eq_true_eq, decide_eq_false_iff_not, ne_eq, not_true_eq_false, not_false_eq_true, Bool.not_eq_true', Bool.not_eq_false', beq_self_eq_true, Bool.not_true, Bool.not_false, List.getElem?_toArray, List.getElem?_cons_zero, List.getElem?_cons_succ, h0, h1, h2, h3, h8, h9, e1, k1, k2, hdd]
      refine ⟨fun e2 => ?_, fun e2 => ?_⟩
      · simp (disch := omega) only [↓stp, vls, inf, frs, mark_eq, ↓reduceIte, Nat.reduceEqDiff, ite_tt, ite_ff, eq_self, and_true, true_and, and_self, implies_true, Bool.true_eq_false, Bool.false_eq_true, decide_true, decide_false, decide_eq_true_eq, decide_eq_false_iff_not, ne_eq, not_true_eq_false, not_false_eq_true, Bool.not_eq_true', Bool.not_eq_false', beq_self_eq_true, Bool.not_true, Bool.not_false, List.getElem?_toArray, List.getElem?_cons_zero, List.getElem?_cons_succ, h0, h1, h2, h3, h8, h9]
        refine adraw_items [.q 0, .q 1, .q 2, .q 3, .q 4, .q 5, .q 6, .q 7, .q 8, .l 9 false, .q 10, .q 11, .q 12, .l 13 false, .q 14, .c 15 [], .q 16, .c 17 []] (by kernel_rfl) (by kernel_rfl) ?_
        simp (disch := omega) only [↓stp, ↓pln, plv, nilOk, Nat.reduceBEq, Bool.or_false, Bool.or_true, Bool.false_or, Bool.true_or, vls, inf, frs, mark_eq, ↓reduceIte, Nat.reduceEqDiff, ite_tt, ite_ff, eq_self, and_true, true_and, and_self, implies_true, Bool.true_eq_false, Bool.false_eq_true, decide_true, decide_false, decide_eq_true_eq, decide_eq_false_iff_not, ne_eq, not_true_eq_false, not_false_eq_true, Bool.not_eq_true', Bool.not_eq_false', beq_self_eq_true, Bool.not_true, Bool.not_false, List.getElem?_toArray, List.getElem?_cons_zero, List.getElem?_cons_succ, h0, h1, h2, h3, h8, h9, k1, k2, hdd]
        obtain ⟨b, rfl⟩ : ∃ b, ad = ⟨b, 0, none⟩ := by
          obtain ⟨_, ⟨hq, _⟩ | ⟨b, _, _, _, hq, _⟩⟩ := hO
          · cases hq
          · injection hq with hq; exact ⟨b, Option.some.inj hq⟩
        rw [add_at]
        refine led_setelem (x' := S[d - 1]'(by omega)) l (i := 0) (k := d) rfl (by omega) sz9 (j := 0) (by show 0 + d = d * 1 + 0; omega) ⟨rfl, rfl⟩ (fun q hq => by rw [hq.1]; exact ⟨Nat.one_pos, rfl, z2⟩) fun W _ l => ?_
        simp (disch := omega) only [↓stp, ↓pln, plv, nilOk, Nat.reduceBEq, Bool.or_false, Bool.or_true, Bool.false_or, Bool.true_or, vls, inf, frs, mark_eq, ↓reduceIte, Nat.reduceEqDiff, ite_tt, ite_ff, eq_self, and_true, true_and, and_self, implies_true, Bool.true_eq_false, Bool.false_eq_true, decide_true, decide_false, decide_eq_true_eq, decide_eq_false_iff_not, ne_eq, not_true_eq_false, not_false_eq_true, Bool.not_eq_true', Bool.not_eq_false', beq_self_eq_true, Bool.not_true, Bool.not_false, List.getElem?_toArray, List.getElem?_cons_zero, List.getElem?_cons_succ, h0, h1, h2, h3, h8, h9, k1, k2, hdd]
        rw [add_at]
        refine led_setelem (x' := xs[i]) l (i := 0) (k := d - 1) rfl (by rw [List.length_set]; omega) sz9 (j := 0) (by show 0 + (d - 1) = (d - 1) * 1 + 0; omega) ⟨rfl, rfl⟩ (fun q hq => by rw [hq.1]; exact ⟨Nat.one_pos, rfl, z1⟩) fun W2 _ l => ?_
        simp (disch := omega) only [↓stp, ↓pln, plv, nilOk, Nat.reduceBEq, Bool.or_false, Bool.or_true, Bool.false_or, Bool.true_or, vls, inf, frs, mark_eq, ↓reduceIte, Nat.reduceEqDiff, ite_tt, ite_ff, eq_self, and_true, true_and, and_self, implies_true, Bool.true_eq_false, Bool.false_eq_true, decide_true, decide_false, decide_eq_true_eq, decide_eq_false_iff_not, ne_eq, not_true_eq_false, not_false_eq_true, Bool.not_eq_true', Bool.not_eq_false', beq_self_eq_true, Bool.not_true, Bool.not_false, List.getElem?_toArray, List.getElem?_cons_zero, List.getElem?_cons_succ, h0, h1, h2, h3, h8, h9, k1, k2, hdd]
        replace l : Led B (osl 9 strO fp (.slice (some ⟨b, 0, none⟩) xs.length c) (ssW S xs[i] (d - 1) ++ xs.drop (i + 1)) :: L) W2 := by rw [← hsw]; exact l
        refine ⟨_, ?_, d - 1, by omega, rfl, fun y hy => ?_, l, congrArg (Value.int .i64) (by omega)⟩
        · omega
        · rw [show S.drop (d - 1) = (S[d - 1]'(by omega)) :: S.drop d by rw [List.drop_eq_getElem_cons (by omega)]; congr 2; omega] at hy
          rcases List.mem_cons.1 hy with rfl | hy
          · omega
          · exact hgt y hy
      · simp (disch := omega) only [↓stp, vls, inf, frs, mark_eq, ↓reduceIte, Nat.reduceEqDiff, ite_tt, ite_ff, eq_self, and_true, true_and, and_self, implies_true, Bool.true_eq_false, Bool.false_eq_true, decide_true, decide_false, decide_eq_true_eq, decide_eq_false_iff_not, ne_eq, not_true_eq_false, not_false_eq_true, Bool.not_eq_true', Bool.not_eq_false', beq_self_eq_true, Bool.not_true, Bool.not_false, List.getElem?_toArray, List.getElem?_cons_zero, List.getElem?_cons_succ, h0, h1, h2, h3, h8, h9]
        refine ⟨_, by omega, i + 1, by omega, .inl (by omega), rfl, ?_, rfl⟩
        rw [hfin fun y hy => ?_, hw]
        · exact l
        · have := desc_upto hD (j := d) (by omega) (by omega) hy
          omega
    · simp (disch := omega) only [↓stp, ↓pln, plv, nilOk, Nat.reduceBEq, Bool.or_false, Bool.or_true, Bool.false_or, Bool.true_or, vls, inf, frs, mark_eq, ↓reduceIte, Nat.reduceEqDiff, ite_tt, ite_ff, eq_self, and_true, true_and, and_self, implies_true, Bool.true_eq_false, Bool.false_eq_true, decide_true, decide_false, decide_eq_true_eq, decide_eq_false_iff_not, ne_eq, not_true_eq_false, not_false_eq_true, Bool.not_eq_true', Bool.not_eq_false', beq_self_eq_true, Bool.not_true, Bool.not_false, List.getElem?_toArray, List.getElem?_cons_zero, List.getElem?_cons_succ, h0, h1, h2, h3, h8, h9, e1]
      refine ⟨_, by omega, i + 1, by omega, .inl (by omega), rfl, ?_, rfl⟩
      rw [hfin fun y hy => ?_]
      · exact l
      · obtain rfl : d = 0 := by omega
        cases hy
  · simp (disch := omega) only [↓stp, vls, inf, frs, mark_eq, ↓reduceIte, Nat.reduceEqDiff, ite_tt, ite_ff, eq_self, and_true, true_and, and_self, implies_true, Bool.true_eq_false, Bool.false_eq_true, decide_true, decide_false, decide_eq_true_eq, decide_eq_false_iff_not, ne_eq, not_true_eq_false, not_false_eq_true, Bool.not_eq_true', Bool.not_eq_false', beq_self_eq_true, Bool.not_true, Bool.not_false, List.getElem?_toArray, List.getElem?_cons_zero, List.getElem?_cons_succ, h0, h1, h2, h3, h8]
    have hn : i = xs.length ∨ xs = [] := by
      rcases hi with hi | rfl
      · exact .inl (by omega)
      · rcases xs with _ | ⟨x, _ | ⟨y, ys⟩⟩
        · exact .inr rfl
        · exact .inl rfl
        · simp only [List.length_cons] at e ⊢; omega
    rcases hn with rfl | rfl
    · rw [List.take_length, List.drop_length, List.append_nil] at l
      exact l
    · rw [List.take_nil, List.drop_nil, List.append_nil] at l
      exact l

theorem sortStable_c (B A : View) (L : List It) (fp : List Nat) (v : Value) (xs : List ByteArray) (g : Nat) (first cap : Array Value) (f : ByteArray → Int) (hf : ∀ s, 0 ≤ f s ∧ f s ≤ 99) (hg : callable Try.prog g = true) (hsm : xs.length < 20)
    (hcmp : ∀ V w, Led B (osl 9 strO fp v w :: L) V → ∀ x y : ByteArray, ACalls Try.prog g (first ++ #[.string x, .string y] ++ cap) V fun r V' => r = .int .i64 (f y - f x) ∧ Ext V V')
    (l : Led B (osl 9 strO fp v xs :: L) A) : ACalls Try.prog 60 #[v, .func (.func g) first cap] A fun _ V => Led B (osl 9 strO fp v (ssort f xs) :: L) V := by
  have hs := (show Sl strS A v xs from OSl.toS (show OSl 9 strO A fp v xs from l.at (i := 0) rfl))
  obtain ⟨ar, c, rfl, hc, hl⟩ := hs.slice
  refine acalls Try.func60 rfl (by kernel_rfl) ?_
  simp (disch := omega) only [↓stp, vls, inf, frs, mark_eq, ↓reduceIte, Nat.reduceEqDiff, ite_tt, ite_ff, eq_self, and_true, true_and, and_self, implies_true, Bool.true_eq_false, Bool.false_eq_true, decide_true, decide_false, decide_eq_true_eq, decide_eq_false_iff_not, ne_eq, not_true_eq_false, not_false_eq_true, Bool.not_eq_true', Bool.not_eq_false', beq_self_eq_true, Bool.not_true, Bool.not_false, List.getElem?_toArray, List.getElem?_cons_zero, List.getElem?_cons_succ]
  refine acalls Try.func82 rfl (by kernel_rfl) ?_
  simp (disch := omega) only [↓stp, vls, inf, frs, mark_eq, ↓reduceIte, Nat.reduceEqDiff, ite_tt, ite_ff, eq_self, and_true, true_and, and_self, implies_true, Bool.true_eq_false, Bool.false_eq_true, decide_true, decide_false, decide_eq_true_eq, decide_eq_false_iff_not, ne_eq, not_true_eq_false, not_false_eq_true, Bool.not_eq_true', Bool.not_eq_false', beq_self_eq_true, Bool.not_true, Bool.not_false, List.getElem?_toArray, List.getElem?_cons_zero, List.getElem?_cons_succ]
  refine aloop (fun d fr V => d = 0 ∧ Led B (osl 9 strO fp (.slice ar xs.length c) xs :: L) V ∧ fr 0 = .slice ar xs.length c ∧ fr 1 = .int .i64 xs.length ∧ fr 2 = .func (.func g) first cap ∧ fr 6 = .int .i64 20 ∧ fr 7 = .int .i64 0 ∧ fr 8 = .int .i64 20) 0 ⟨rfl, l, by rfl, by rfl, by rfl, by rfl, by rfl, by rfl⟩ ?_
  rintro d fr V ⟨rfl, l, h0, h1, h2, h6, h7, h8⟩
  simp (disch := omega) only [↓stp, vls, inf, frs, mark_eq, ↓reduceIte, Nat.reduceEqDiff, ite_tt, ite_ff, eq_self, and_true, true_and, and_self, implies_true, Bool.true_eq_false, Bool.false_eq_true, decide_true, decide_false, decide_eq_true_eq, decide_eq_false_iff_not, ne_eq, not_true_eq_false, not_false_eq_true, Bool.not_eq_true', Bool.not_eq_false', beq_self_eq_true, Bool.not_true, Bool.not_false, List.getElem?_toArray, List.getElem?_cons_zero, List.getElem?_cons_succ, h0, h1, h2, h6, h7, h8]
  refine ⟨fun e => by omega, fun e => ?_⟩
  simp (disch := omega) only [↓stp, vls, inf, frs, mark_eq, ↓reduceIte, Nat.reduceEqDiff, ite_tt, ite_ff, eq_self, and_true, true_and, and_self, implies_true, Bool.true_eq_false, Bool.false_eq_true, decide_true, decide_false, decide_eq_true_eq, decide_eq_false_iff_not, ne_eq, not_true_eq_false, not_false_eq_true, Bool.not_eq_true', Bool.not_eq_false', beq_self_eq_true, Bool.not_true, Bool.not_false, List.getElem?_toArray, List.getElem?_cons_zero, List.getElem?_cons_succ, h0, h1, h2, h6, h7, h8]
  refine (insSort_c B V L fp _ xs g first cap f hf hg (by omega) hcmp l).mono ?_
  rintro _ V l
  simp (disch := omega) only [↓stp, vls, inf, frs, mark_eq, ↓reduceIte, Nat.reduceEqDiff, ite_tt, ite_ff, eq_self, and_true, true_and, and_self, implies_true, Bool.true_eq_false, Bool.false_eq_true, decide_true, decide_false, decide_eq_true_eq, decide_eq_false_iff_not, ne_eq, not_true_eq_false, not_false_eq_true, Bool.not_eq_true', Bool.not_eq_false', beq_self_eq_true, Bool.not_true, Bool.not_false, List.getElem?_toArray, List.getElem?_cons_zero, List.getElem?_cons_succ, h0, h1, h2, h6, h7, h8]
  refine aloop (fun d fr V => d = 0 ∧ Led B (osl 9 strO fp (.slice ar xs.length c) (ssort f xs) :: L) V ∧ fr 1 = .int .i64 xs.length ∧ fr 6 = .int .i64 20) 0 ⟨rfl, l, h1, h6⟩ ?_
  rintro d fr V ⟨rfl, l, h1, h6⟩
  simp (disch := omega) only [↓stp, vls, inf, frs, mark_eq, ↓reduceIte, Nat.reduceEqDiff, ite_tt, ite_ff, eq_self, and_true, true_and, and_self, implies_true, Bool.true_eq_false, Bool.false_eq_true, decide_true, decide_false, decide_eq_true_eq, decide_eq_false_iff_not, ne_eq, not_true_eq_false, not_false_eq_true, Bool.not_eq_true', Bool.not_eq_false', beq_self_eq_true, Bool.not_true, Bool.not_false, List.getElem?_toArray, List.getElem?_cons_zero, List.getElem?_cons_succ, h1, h6]
  refine ⟨fun e => by omega, fun e => ?_⟩
  simp (disch := omega) only [↓stp, vls, inf, frs, mark_eq, ↓reduceIte, Nat.reduceEqDiff, ite_tt, ite_ff, eq_self, and_true, true_and, and_self, implies_true, Bool.true_eq_false, Bool.false_eq_true, decide_true, decide_false, decide_eq_true_eq, decide_eq_false_iff_not, ne_eq, not_true_eq_false, not_false_eq_true, Bool.not_eq_true', Bool.not_eq_false', beq_self_eq_true, Bool.not_true, Bool.not_false, List.getElem?_toArray, List.getElem?_cons_zero, List.getElem?_cons_succ, h1, h6]
  exact l

end Go.Proofs.Ytbbhhdcimmofoaa

