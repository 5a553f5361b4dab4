/- Tests, sorted by their ids. -/
import Derived.Test.YtbddklkfekiaeaaSU
import Derived.Test.YtbddklkfekiaeaaV2
set_option maxHeartbeats 4000000
set_option synthInstance.maxHeartbeats 400000
set_option synthInstance.maxSize 4096
set_option linter.unusedSimpArgs false
set_option linter.unusedVariables false
namespace Go.Proofs.Ytbddklkfekiaeaa

set_option maxRecDepth 100000

theorem acall_cmpstring {P : Program} {A : View} {K : Value → View → Prop} {f : FuncId} {fn : Func} (hf : P.funcs[f]? = some fn) (hname : (fn.name == "runtime.NumGoroutine") = false)
    (hb : fn.body.isNone = true) (hn : Extern.findNext fn = none) (he : Extern.find fn = some Extern.BytealgCompare.compare) (a b : ByteArray) :
    acall P (.func (.func f) #[] #[]) #[.string a, .string b] A K = K (.int .i64 (Go.Lib.compareBytes a.data.toList b.data.toList)) A := by
  rw [← Go.Lib.cmp_eq]
  unfold acall
  show sawp P (callFunc f (#[] ++ #[.string a, .string b] ++ #[])) (nextK P K) A = _
  unfold callFunc
  show sawp P (Sem.bind (.program .pure) _) (nextK P K) A = _
  simp only [Sem.bind, sawp, hf, hname, hb, hn, he, Bool.false_eq_true, if_false, if_true]
  rfl
theorem extern_cmpstring {A : View} {K : Value → View → Prop} (a b : ByteArray) : acall Try.prog (.func (.func 120) #[] #[]) #[.string a, .string b] A K = K (.int .i64 (Go.Lib.compareBytes a.data.toList b.data.toList)) A :=
  acall_cmpstring Try.func120 rfl rfl (by kernel_rfl) (by kernel_rfl) a b
theorem lib_cmpstr_c (A : View) (a b : ByteArray) : ACalls Try.prog 106 #[.string a, .string b] A fun r A' => r = .int .i64 (Go.Lib.compareBytes a.data.toList b.data.toList) ∧ A' = A := by
  refine acalls Try.func106 rfl (by kernel_rfl) ?_
  simp (disch := omega) only [↓stp, vls, inf, frs, mark_eq, ↓reduceIte, Nat.reduceEqDiff, ite_tt, ite_ff, eq_self, and_true, true_and, and_self, implies_true, Bool.true_eq_false, Bool.false_eq_true, decide_true, decide_false, decide_eq_true_eq, decide_eq_false_iff_not, ne_eq, not_true_eq_false, not_false_eq_true, Bool.not_eq_true', Bool.not_eq_false', beq_self_eq_true, Bool.not_true, Bool.not_false, List.getElem?_toArray, List.getElem?_cons_zero, List.getElem?_cons_succ]
  simp (disch := omega) only [↓stp, vls, inf, frs, mark_eq, ↓reduceIte, Nat.reduceEqDiff, ite_tt, ite_ff, eq_self, and_true, true_and, and_self, implies_true, Bool.true_eq_false, Bool.false_eq_true, decide_true, decide_false, decide_eq_true_eq, decide_eq_false_iff_not, ne_eq, not_true_eq_false, not_false_eq_true, Bool.not_eq_true', Bool.not_eq_false', beq_self_eq_true, Bool.not_true, Bool.not_false, List.getElem?_toArray, List.getElem?_cons_zero, List.getElem?_cons_succ, extern_cmpstring]

theorem lib_compare_c (A : View) (a b : ByteArray) : ACalls Try.prog 83 #[.string a, .string b] A fun r A' => r = .int .i64 (Go.Lib.compareBytes a.data.toList b.data.toList) ∧ A' = A := by
  refine acalls Try.func83 rfl (by kernel_rfl) ?_
  simp (disch := omega) only [↓stp, vls, inf, frs, mark_eq, ↓reduceIte, Nat.reduceEqDiff, ite_tt, ite_ff, eq_self, and_true, true_and, and_self, implies_true, Bool.true_eq_false, Bool.false_eq_true, decide_true, decide_false, decide_eq_true_eq, decide_eq_false_iff_not, ne_eq, not_true_eq_false, not_false_eq_true, Bool.not_eq_true', Bool.not_eq_false', beq_self_eq_true, Bool.not_true, Bool.not_false, List.getElem?_toArray, List.getElem?_cons_zero, List.getElem?_cons_succ]
  refine (lib_cmpstr_c A a b).mono ?_
  rintro _ A ⟨rfl, rfl⟩
  simp (disch := omega) only [↓stp, vls, inf, frs, mark_eq, ↓reduceIte, Nat.reduceEqDiff, ite_tt, ite_ff, eq_self, and_true, true_and, and_self, implies_true, Bool.true_eq_false, Bool.false_eq_true, decide_true, decide_false, decide_eq_true_eq, decide_eq_false_iff_not, ne_eq, not_true_eq_false, not_false_eq_true, Bool.not_eq_true', Bool.not_eq_false', beq_self_eq_true, Bool.not_true, Bool.not_false, List.getElem?_toArray, List.getElem?_cons_zero, List.getElem?_cons_succ]

theorem cmpTests_c (A : View) (d d' : List Value) (x y : TestD) (h : testS.rel A x d) (h' : testS.rel A y d') : ACalls Try.prog 82 #[.agg d.toArray, .agg d'.toArray] A fun r V => ∃ k : Int, r = .int .i64 k ∧ -1 ≤ k ∧ k ≤ 1 ∧ (k < 0 ↔ sLt (idD x) (idD y) = true) ∧ Ext A V := by
  obtain ⟨u2, u3, rfl, z1, z2, f2, f3⟩ := testS_open h
  obtain ⟨a2, c2, rfl, _, _⟩ := f2.slice
  obtain ⟨a3, c3, rfl, _, _⟩ := f3.slice
  obtain ⟨v2, v3, rfl, y1, y2, g2, g3⟩ := testS_open h'
  obtain ⟨b2, e2, rfl, _, _⟩ := g2.slice
  obtain ⟨b3, e3, rfl, _, _⟩ := g3.slice
  refine acalls Try.func82 rfl (by kernel_rfl) ?_
  simp (disch := omega) only [↓stp, vls, inf, frs, mark_eq, ↓reduceIte, Nat.reduceEqDiff, ite_tt, ite_ff, eq_self, and_true, true_and, and_self, implies_true, Bool.true_eq_false, Bool.false_eq_true, decide_true, decide_false, decide_eq_true_eq, decide_eq_false_iff_not, ne_eq, not_true_eq_false, not_false_eq_true, Bool.not_eq_true', Bool.not_eq_false', beq_self_eq_true, Bool.not_true, Bool.not_false, List.getElem?_toArray, List.getElem?_cons_zero, List.getElem?_cons_succ]
  refine led_box (Led.nil A) rfl fun p V _ l => ?_
  simp (disch := omega) only [↓stp, vls, inf, frs, mark_eq, ↓reduceIte, Nat.reduceEqDiff, ite_tt, ite_ff, eq_self, and_true, true_and, and_self, implies_true, Bool.true_eq_false, Bool.false_eq_true, decide_true, decide_false, decide_eq_true_eq, decide_eq_false_iff_not, ne_eq, not_true_eq_false, not_false_eq_true, Bool.not_eq_true', Bool.not_eq_false', beq_self_eq_true, Bool.not_true, Bool.not_false, List.getElem?_toArray, List.getElem?_cons_zero, List.getElem?_cons_succ]
  refine led_box l rfl fun q V _ l => ?_
  have kp : V.part ⟨p, 0, none⟩ 4 = some [.string x.1, .string x.2.1, .slice a2 x.2.2.1.length c2, .slice a3 x.2.2.2.1.length c3] := l.part (i := 1) rfl rfl
  have kq : V.part ⟨q, 0, none⟩ 4 = some [.string y.1, .string y.2.1, .slice b2 y.2.2.1.length e2, .slice b3 y.2.2.2.1.length e3] := l.part (i := 0) rfl rfl
  simp (disch := omega) only [↓stp, vls, inf, frs, mark_eq, ↓reduceIte, Nat.reduceEqDiff, ite_tt, ite_ff, eq_self, and_true, true_and, and_self, implies_true, Bool.true_eq_false, Bool.false_eq_true, decide_true, decide_false, decide_eq_true_eq, decide_eq_false_iff_not, ne_eq, not_true_eq_false, not_false_eq_true, Bool.not_eq_true', Bool.not_eq_false', beq_self_eq_true, Bool.not_true, Bool.not_false, List.getElem?_toArray, List.getElem?_cons_zero, List.getElem?_cons_succ]
  refine adraw_items [.l 0 false, .l 2 true, .c 1 [2], .c 3 [], .c 4 [], .q 5] (by kernel_rfl) (by kernel_rfl) ?_
  simp (disch := omega) only [↓stp, ↓pln, plv, nilOk, Nat.reduceBEq, Bool.or_false, Bool.or_true, Bool.false_or, Bool.true_or, vls, inf, frs, mark_eq, ↓reduceIte, Nat.reduceEqDiff, ite_tt, ite_ff, eq_self, and_true, true_and, and_self, implies_true, Bool.true_eq_false, Bool.false_eq_true, decide_true, decide_false, decide_eq_true_eq, decide_eq_false_iff_not, ne_eq, not_true_eq_false, not_false_eq_true, Bool.not_eq_true', Bool.not_eq_false', beq_self_eq_true, Bool.not_true, Bool.not_false, List.getElem?_toArray, List.getElem?_cons_zero, List.getElem?_cons_succ, kp, kq]
  refine (impl_idOf_c V _ x (testS_mk z1 z2 (f2.mono l.ext) (f3.mono l.ext))).mono ?_
  rintro _ V2 ⟨rfl, he2⟩
  replace l := l.step he2
  replace kp := he2.part kp
  replace kq := he2.part kq
  simp (disch := omega) only [↓stp, ↓pln, plv, nilOk, Nat.reduceBEq, Bool.or_false, Bool.or_true, Bool.false_or, Bool.true_or, vls, inf, frs, mark_eq, ↓reduceIte, Nat.reduceEqDiff, ite_tt, ite_ff, eq_self, and_true, true_and, and_self, implies_true, Bool.true_eq_false, Bool.false_eq_true, decide_true, decide_false, decide_eq_true_eq, decide_eq_false_iff_not, ne_eq, not_true_eq_false, not_false_eq_true, Bool.not_eq_true', Bool.not_eq_false', beq_self_eq_true, Bool.not_true, Bool.not_false, List.getElem?_toArray, List.getElem?_cons_zero, List.getElem?_cons_succ, kp, kq]
  refine (impl_idOf_c V2 _ y (testS_mk y1 y2 (g2.mono l.ext) (g3.mono l.ext))).mono ?_
  rintro _ V3 ⟨rfl, he3⟩
  replace l := l.step he3
  replace kp := he3.part kp
  replace kq := he3.part kq
  simp (disch := omega) only [↓stp, ↓pln, plv, nilOk, Nat.reduceBEq, Bool.or_false, Bool.or_true, Bool.false_or, Bool.true_or, vls, inf, frs, mark_eq, ↓reduceIte, Nat.reduceEqDiff, ite_tt, ite_ff, eq_self, and_true, true_and, and_self, implies_true, Bool.true_eq_false, Bool.false_eq_true, decide_true, decide_false, decide_eq_true_eq, decide_eq_false_iff_not, ne_eq, not_true_eq_false, not_false_eq_true, Bool.not_eq_true', Bool.not_eq_false', beq_self_eq_true, Bool.not_true, Bool.not_false, List.getElem?_toArray, List.getElem?_cons_zero, List.getElem?_cons_succ, kp, kq]
  refine (lib_compare_c V3 (idD x) (idD y)).mono ?_
  rintro _ V3 ⟨rfl, rfl⟩
  simp (disch := omega) only [↓stp, ↓pln, plv, nilOk, Nat.reduceBEq, Bool.or_false, Bool.or_true, Bool.false_or, Bool.true_or, vls, inf, frs, mark_eq, ↓reduceIte, Nat.reduceEqDiff, ite_tt, ite_ff, eq_self, and_true, true_and, and_self, implies_true, Bool.true_eq_false, Bool.false_eq_true, decide_true, decide_false, decide_eq_true_eq, decide_eq_false_iff_not, ne_eq, not_true_eq_false, not_false_eq_true, Bool.not_eq_true', Bool.not_eq_false', beq_self_eq_true, Bool.not_true, Bool.not_false, List.getElem?_toArray, List.getElem?_cons_zero, List.getElem?_cons_succ, kp, kq]
  exact ⟨_, rfl, (cmpB_small ..).1, (cmpB_small ..).2, by rw [sLt_eq, decide_eq_true_eq]; exact cmpB_neg .., l.ext⟩

theorem insSortT_c (B A : View) (L : List It) (fp : List Nat) (v : Value) (xs : List (List Value)) (g : Nat) (first cap : Array Value) (f : List Value → Int) (hg : callable Try.prog g = true) (hsm : xs.length ≤ 16777216)
    (hcmp : ∀ V w, Led B (osl 34 (rawO 4) fp v w :: L) V → ∀ x y : List Value, x ∈ xs → y ∈ xs → ACalls Try.prog g (first ++ #[.agg x.toArray, .agg y.toArray] ++ cap) V fun r V' => ∃ k : Int, r = .int .i64 k ∧ -1 ≤ k ∧ k ≤ 1 ∧ (k < 0 ↔ f y < f x) ∧ Ext V V')
    (l : Led B (osl 34 (rawO 4) fp v xs :: L) A) : ACalls Try.prog 118 #[v, .int .i64 0, .int .i64 xs.length, .func (.func g) first cap] A fun _ V => Led B (osl 34 (rawO 4) fp v (ssort f xs) :: L) V := by
  obtain ⟨ar, c, rfl, hc, hl⟩ := (show Sl (rawS 4) A v xs from OSl.toS (show OSl 34 (rawO 4) A fp v xs from l.at (i := 0) rfl)).slice
  refine acalls Try.func118 rfl (by kernel_rfl) ?_
  simp (disch := omega) only [↓stp, vls, inf, frs, mark_eq, ↓reduceIte, Nat.reduceEqDiff, ite_tt, ite_ff, eq_self, and_true, true_and, and_self, implies_true, Bool.true_eq_false, Bool.false_eq_true, decide_true, decide_false, decide_eq_true_eq, decide_eq_false_iff_not, ne_eq, not_true_eq_false, not_false_eq_true, Bool.not_eq_true', Bool.not_eq_false', beq_self_eq_true, Bool.not_true, Bool.not_false, List.getElem?_toArray, List.getElem?_cons_zero, List.getElem?_cons_succ]
  refine aloop (fun d fr V => ∃ i : Nat, 1 ≤ i ∧ (i ≤ xs.length ∨ i = 1) ∧ d = xs.length - i ∧ Led B (osl 34 (rawO 4) fp (.slice ar xs.length c) (ssort f (xs.take i) ++ xs.drop i) :: L) V ∧ fr 0 = .slice ar xs.length c ∧ fr 1 = .int .i64 0 ∧ fr 2 = .int .i64 xs.length ∧ fr 3 = .func (.func g) first cap ∧ fr 8 = .int .i64 i) (xs.length - 1) ⟨1, by omega, .inr rfl, rfl, by rw [ssort_one]; exact l, rfl, rfl, rfl, rfl, rfl⟩ ?_
  rintro d fr V ⟨i, hi1, hi, rfl, l, h0, h1, h2, h3, h8⟩
  simp (disch := omega) only [↓stp, vls, inf, frs, mark_eq, ↓reduceIte, Nat.reduceEqDiff, ite_tt, ite_ff, eq_self, and_true, true_and, and_self, implies_true, Bool.true_eq_false, Bool.false_eq_true, decide_true, decide_false, decide_eq_true_eq, decide_eq_false_iff_not, ne_eq, not_true_eq_false, not_false_eq_true, Bool.not_eq_true', Bool.not_eq_false', beq_self_eq_true, Bool.not_true, Bool.not_false, List.getElem?_toArray, List.getElem?_cons_zero, List.getElem?_cons_succ, h0, h1, h2, h3, h8]
  refine ⟨fun e => ?_, fun e => ?_⟩
  · have hlt : i < xs.length := by omega
    have hR : xs.drop i = xs[i] :: (xs.drop i).tail := by rw [List.tail_drop, ← List.drop_eq_getElem_cons]
    have hS : (ssort f (xs.take i)).length = i := by rw [ssort_len, List.length_take]; omega
    have hD := ssort_desc (f := f) (xs.take i)
    have hts := ssort_take (f := f) hlt
    have hSm : ∀ y, y ∈ ssort f (xs.take i) → y ∈ xs := fun y hy => List.mem_of_mem_take ((ssort_mem ..).1 hy)
    rw [ssW_full hR, hS, List.tail_drop] at l
    generalize ssort f (xs.take i) = S at l hS hD hts hSm
    simp (disch := omega) only [↓stp, vls, inf, frs, mark_eq, ↓reduceIte, Nat.reduceEqDiff, ite_tt, ite_ff, eq_self, and_true, true_and, and_self, implies_true, Bool.true_eq_false, Bool.false_eq_true, decide_true, decide_false, decide_eq_true_eq, decide_eq_false_iff_not, ne_eq, not_true_eq_false, not_false_eq_true, Bool.not_eq_true', Bool.not_eq_false', beq_self_eq_true, Bool.not_true, Bool.not_false, List.getElem?_toArray, List.getElem?_cons_zero, List.getElem?_cons_succ, h0, h1, h2, h3, h8]
    refine aloop (fun d fr V => ∃ j : Nat, j ≤ i ∧ d = j ∧ (∀ y, y ∈ S.drop j → f y < f xs[i]) ∧ Led B (osl 34 (rawO 4) fp (.slice ar xs.length c) (ssW S xs[i] j ++ xs.drop (i + 1)) :: L) V ∧ fr 0 = .slice ar xs.length c ∧ fr 1 = .int .i64 0 ∧ fr 2 = .int .i64 xs.length ∧ fr 3 = .func (.func g) first cap ∧ fr 8 = .int .i64 i ∧ fr 9 = .int .i64 j) i ⟨i, by omega, rfl, ?_, l, h0, h1, h2, h3, h8, rfl⟩ ?_
    · intro y hy
      rw [← hS, List.drop_length] at hy
      cases hy
    clear l
    rintro d fr V ⟨j, hj, rfl, hgt, l, h0, h1, h2, h3, h8, h9⟩
    have hwl : (ssW S xs[i] d ++ xs.drop (i + 1)).length = xs.length := by rw [ssW_len (by omega), List.length_drop]; omega
    have hat : (ssW S xs[i] d ++ xs.drop (i + 1))[d]? = some xs[i] := ssW_at (by omega)
    have hfin : (∀ y, y ∈ S.take d → f xs[i] ≤ f y) → ssort f (xs.take (i + 1)) = ssW S xs[i] d := fun hq => by
      rw [hts]
      conv => lhs; rw [← List.take_append_drop d S]
      exact ssIns_split hq hgt
    refine adraw_items [.q 0, .q 1, .q 2, .q 3, .q 4, .q 5, .q 6, .q 7, .l 8 false, .q 9, .q 10, .q 11, .q 12, .l 13 false, .c 14 [], .q 15, .q 16] (by kernel_rfl) (by kernel_rfl) ?_
    simp (disch := omega) only [↓stp, ↓pln, plv, nilOk, Nat.reduceBEq, Bool.or_false, Bool.or_true, Bool.false_or, Bool.true_or, vls, inf, frs, mark_eq, ↓reduceIte, Nat.reduceEqDiff, ite_tt, ite_ff, eq_self, and_true, true_and, and_self, implies_true, Bool.true_eq_false, Bool.false_eq_true, decide_true, decide_false, decide_eq_true_eq, decide_eq_false_iff_not, ne_eq, not_true_eq_false, not_false_eq_true, Bool.not_eq_true', Bool.not_eq_false', beq_self_eq_true, Bool.not_true, Bool.not_false, List.getElem?_toArray, List.getElem?_cons_zero, List.getElem?_cons_succ, h0, h1, h2, h3, h8, h9]
    refine ⟨fun e1 => ?_, fun e1 => ?_⟩
    · have hpr := ssW_prev (S := S) (x := xs[i]) (R := xs.drop (i + 1)) (j := d) (by omega) (by omega)
      have hsw := ssW_swap (S := S) (x := xs[i]) (R := xs.drop (i + 1)) (j := d) (by omega) (by omega)
      have hm : (S[d - 1]'(by omega)) ∈ S.take d := by
        rw [List.mem_iff_getElem]
        exact ⟨d - 1, by rw [List.length_take]; omega, by rw [List.getElem_take]⟩
      generalize hw : ssW S xs[i] d ++ xs.drop (i + 1) = w at l hwl hat hpr hsw
      have hO : OSl 34 (rawO 4) V fp (.slice ar xs.length c) w := l.at (i := 0) rfl
      obtain ⟨ad, rfl, k1, z1⟩ := Sl.raw (OSl.toS hO) (i := d) (by omega)
      obtain ⟨ad', hq, k2, z2⟩ := Sl.raw (OSl.toS hO) (i := d - 1) (by omega)
      obtain rfl := Option.some.inj hq
      rw [List.getElem?_eq_getElem (by omega)] at hat hpr
      have hat := Option.some.inj hat
      have hpr := Option.some.inj hpr
      rw [hat] at k1 z1
      rw [hpr] at k2 z2
      have hdd : ((d : Int) - 1).toNat = d - 1 := by omega
      simp (disch := omega) only [↓stp, ↓pln, plv, nilOk, Nat.reduceBEq, Bool.or_false, Bool.or_true, Bool.false_or, Bool.true_or, vls, inf, frs, mark_eq, ↓reduceIte, Nat.reduceEqDiff, ite_tt, ite_ff, eq_self, and_true, true_and, and_self, implies_true, Bool.true_eq_false, Bool.false_eq_true, decide_true, decide_false, decide_eq_true_eq, decide_eq_false_iff_not, ne_eq, not_true_eq_false, not_false_eq_true, Bool.not_eq_true', Bool.not_eq_false', beq_self_eq_true, Bool.not_true, Bool.not_false, List.getElem?_toArray, List.getElem?_cons_zero, List.getElem?_cons_succ, h0, h1, h2, h3, h8, h9, e1, k1, k2, hdd]
      rw [acall_at hg]
      refine (hcmp V w l xs[i] (S[d - 1]'(by omega)) (List.getElem_mem _) (hSm _ (List.getElem_mem _))).mono ?_
      rintro _ V' ⟨kk, rfl, hk1, hk2, hkk, he⟩
      replace k1 := he.part k1
      replace k2 := he.part k2
      replace l := l.step he
      simp (disch := omega) only [↓stp, ↓pln, plv, nilOk, Nat.reduceBEq, Bool.or_false, Bool.or_true, Bool.false_or, Bool.true_or, vls, inf, frs, mark_eq, ↓reduceIte, Nat.reduceEqDiff, ite_tt, ite_ff, eq_self, and_true, true_and, and_self, implies_true, Bool.true_eq_false, Bool.false_eq_true, decide_true, decide_false, decide_eq_true_eq, decide_eq_false_iff_not, ne_eq, not_true_eq_false, not_false_eq_true, Bool.not_eq_true', Bool.not_eq_false', beq_self_eq_true, Bool.not_true, Bool.not_false, List.getElem?_toArray, List.getElem?_cons_zero, List.getElem?_cons_succ, h0, h1, h2, h3, h8, h9, e1, k1, k2, hdd]
      refine ⟨fun e2 => ?_, fun e2 => ?_⟩
      · simp (disch := omega) only [↓stp, vls, inf, frs, mark_eq, ↓reduceIte, Nat.reduceEqDiff, ite_tt, ite_ff, eq_self, and_true, true_and, and_self, implies_true, Bool.true_eq_false, Bool.false_eq_true, decide_true, decide_false, decide_eq_true_eq, decide_eq_false_iff_not, ne_eq, not_true_eq_false, not_false_eq_true, Bool.not_eq_true', Bool.not_eq_false', beq_self_eq_true, Bool.not_true, Bool.not_false, List.getElem?_toArray, List.getElem?_cons_zero, List.getElem?_cons_succ, h0, h1, h2, h3, h8, h9]
        refine adraw_items [.q 0, .q 1, .q 2, .q 3, .q 4, .q 5, .q 6, .q 7, .q 8, .l 9 false, .q 10, .q 11, .q 12, .l 13 false, .q 14, .c 15 [], .q 16, .c 17 []] (by kernel_rfl) (by kernel_rfl) ?_
        simp (disch := omega) only [↓stp, ↓pln, plv, nilOk, Nat.reduceBEq, Bool.or_false, Bool.or_true, Bool.false_or, Bool.true_or, vls, inf, frs, mark_eq, ↓reduceIte, Nat.reduceEqDiff, ite_tt, ite_ff, eq_self, and_true, true_and, and_self, implies_true, Bool.true_eq_false, Bool.false_eq_true, decide_true, decide_false, decide_eq_true_eq, decide_eq_false_iff_not, ne_eq, not_true_eq_false, not_false_eq_true, Bool.not_eq_true', Bool.not_eq_false', beq_self_eq_true, Bool.not_true, Bool.not_false, List.getElem?_toArray, List.getElem?_cons_zero, List.getElem?_cons_succ, h0, h1, h2, h3, h8, h9, k1, k2, hdd]
        obtain ⟨b, rfl⟩ : ∃ b, ad = ⟨b, 0, none⟩ := by
          obtain ⟨_, ⟨hq, _⟩ | ⟨b, _, _, _, hq, _⟩⟩ := hO
          · cases hq
          · injection hq with hq; exact ⟨b, Option.some.inj hq⟩
        rw [add_at]
        refine led_setraw l (i := 0) (k := d) rfl (by omega) sz34 (by omega) z2 fun W _ l => ?_
        simp (disch := omega) only [↓stp, ↓pln, plv, nilOk, Nat.reduceBEq, Bool.or_false, Bool.or_true, Bool.false_or, Bool.true_or, vls, inf, frs, mark_eq, ↓reduceIte, Nat.reduceEqDiff, ite_tt, ite_ff, eq_self, and_true, true_and, and_self, implies_true, Bool.true_eq_false, Bool.false_eq_true, decide_true, decide_false, decide_eq_true_eq, decide_eq_false_iff_not, ne_eq, not_true_eq_false, not_false_eq_true, Bool.not_eq_true', Bool.not_eq_false', beq_self_eq_true, Bool.not_true, Bool.not_false, List.getElem?_toArray, List.getElem?_cons_zero, List.getElem?_cons_succ, h0, h1, h2, h3, h8, h9, k1, k2, hdd]
        rw [add_at]
        refine led_setraw l (i := 0) (k := d - 1) rfl (by rw [List.length_set]; omega) sz34 (by omega) z1 fun W2 _ l => ?_
        simp (disch := omega) only [↓stp, ↓pln, plv, nilOk, Nat.reduceBEq, Bool.or_false, Bool.or_true, Bool.false_or, Bool.true_or, vls, inf, frs, mark_eq, ↓reduceIte, Nat.reduceEqDiff, ite_tt, ite_ff, eq_self, and_true, true_and, and_self, implies_true, Bool.true_eq_false, Bool.false_eq_true, decide_true, decide_false, decide_eq_true_eq, decide_eq_false_iff_not, ne_eq, not_true_eq_false, not_false_eq_true, Bool.not_eq_true', Bool.not_eq_false', beq_self_eq_true, Bool.not_true, Bool.not_false, List.getElem?_toArray, List.getElem?_cons_zero, List.getElem?_cons_succ, h0, h1, h2, h3, h8, h9, k1, k2, hdd]
        replace l : Led B (osl 34 (rawO 4) fp (.slice (some ⟨b, 0, none⟩) xs.length c) (ssW S xs[i] (d - 1) ++ xs.drop (i + 1)) :: L) W2 := by rw [← hsw]; exact l
        refine ⟨_, ?_, d - 1, by omega, rfl, fun y hy => ?_, l, congrArg (Value.int .i64) (by omega)⟩
        · omega
        · have e2' := hkk.1 e2
          rw [show S.drop (d - 1) = (S[d - 1]'(by omega)) :: S.drop d by rw [List.drop_eq_getElem_cons (by omega)]; congr 2; omega] at hy
          rcases List.mem_cons.1 hy with rfl | hy
          · omega
          · exact hgt y hy
      · simp (disch := omega) only [↓stp, vls, inf, frs, mark_eq, ↓reduceIte, Nat.reduceEqDiff, ite_tt, ite_ff, eq_self, and_true, true_and, and_self, implies_true, Bool.true_eq_false, Bool.false_eq_true, decide_true, decide_false, decide_eq_true_eq, decide_eq_false_iff_not, ne_eq, not_true_eq_false, not_false_eq_true, Bool.not_eq_true', Bool.not_eq_false', beq_self_eq_true, Bool.not_true, Bool.not_false, List.getElem?_toArray, List.getElem?_cons_zero, List.getElem?_cons_succ, h0, h1, h2, h3, h8, h9]
        refine ⟨_, by omega, i + 1, by omega, .inl (by omega), rfl, ?_, rfl⟩
        rw [hfin fun y hy => ?_, hw]
        · exact l
        · have := desc_upto hD (j := d) (by omega) (by omega) hy
          omega
    · simp (disch := omega) only [↓stp, ↓pln, plv, nilOk, Nat.reduceBEq, Bool.or_false, Bool.or_true, Bool.false_or, Bool.true_or, vls, inf, frs, mark_eq, ↓reduceIte, Nat.reduceEqDiff, ite_tt, ite_ff, eq_self, and_true, true_and, and_self, implies_true, Bool.true_eq_false, Bool.false_eq_true, decide_true, decide_false, decide_eq_true_eq, decide_eq_false_iff_not, ne_eq, not_true_eq_false, not_false_eq_true, Bool.not_eq_true', Bool.not_eq_false', beq_self_eq_true, Bool.not_true, Bool.not_false, List.getElem?_toArray, List.getElem?_cons_zero, List.getElem?_cons_succ, h0, h1, h2, h3, h8, h9, e1]
      refine ⟨_, by omega, i + 1, by omega, .inl (by omega), rfl, ?_, rfl⟩
      rw [hfin fun y hy => ?_]
      · exact l
      · obtain rfl : d = 0 := by omega
        cases hy
  · simp (disch := omega) only [↓stp, vls, inf, frs, mark_eq, ↓reduceIte, Nat.reduceEqDiff, ite_tt, ite_ff, eq_self, and_true, true_and, and_self, implies_true, Bool.true_eq_false, Bool.false_eq_true, decide_true, decide_false, decide_eq_true_eq, decide_eq_false_iff_not, ne_eq, not_true_eq_false, not_false_eq_true, Bool.not_eq_true', Bool.not_eq_false', beq_self_eq_true, Bool.not_true, Bool.not_false, List.getElem?_toArray, List.getElem?_cons_zero, List.getElem?_cons_succ, h0, h1, h2, h3, h8]
    have hn : i = xs.length ∨ xs = [] := by
      rcases hi with hi | rfl
      · exact .inl (by omega)
      · rcases xs with _ | ⟨x, _ | ⟨y, ys⟩⟩
        · exact .inr rfl
        · exact .inl rfl
        · simp only [List.length_cons] at e ⊢; omega
    rcases hn with rfl | rfl
    · rw [List.take_length, List.drop_length, List.append_nil] at l
      exact l
    · rw [List.take_nil, List.drop_nil, List.append_nil] at l
      exact l

theorem sortStableT_c (B A : View) (L : List It) (fp : List Nat) (v : Value) (xs : List (List Value)) (g : Nat) (first cap : Array Value) (f : List Value → Int) (hg : callable Try.prog g = true) (hsm : xs.length < 20)
    (hcmp : ∀ V w, Led B (osl 34 (rawO 4) fp v w :: L) V → ∀ x y : List Value, x ∈ xs → y ∈ xs → ACalls Try.prog g (first ++ #[.agg x.toArray, .agg y.toArray] ++ cap) V fun r V' => ∃ k : Int, r = .int .i64 k ∧ -1 ≤ k ∧ k ≤ 1 ∧ (k < 0 ↔ f y < f x) ∧ Ext V V')
    (l : Led B (osl 34 (rawO 4) fp v xs :: L) A) : ACalls Try.prog 81 #[v, .func (.func g) first cap] A fun _ V => Led B (osl 34 (rawO 4) fp v (ssort f xs) :: L) V := by
  have hs := (show Sl (rawS 4) A v xs from OSl.toS (show OSl 34 (rawO 4) A fp v xs from l.at (i := 0) rfl))
  obtain ⟨ar, c, rfl, hc, hl⟩ := hs.slice
  refine acalls Try.func81 rfl (by kernel_rfl) ?_
  simp (disch := omega) only [↓stp, vls, inf, frs, mark_eq, ↓reduceIte, Nat.reduceEqDiff, ite_tt, ite_ff, eq_self, and_true, true_and, and_self, implies_true, Bool.true_eq_false, Bool.false_eq_true, decide_true, decide_false, decide_eq_true_eq, decide_eq_false_iff_not, ne_eq, not_true_eq_false, not_false_eq_true, Bool.not_eq_true', Bool.not_eq_false', beq_self_eq_true, Bool.not_true, Bool.not_false, List.getElem?_toArray, List.getElem?_cons_zero, List.getElem?_cons_succ]
  refine acalls Try.func105 rfl (by kernel_rfl) ?_
  simp (disch := omega) only [↓stp, vls, inf, frs, mark_eq, ↓reduceIte, Nat.reduceEqDiff, ite_tt, ite_ff, eq_self, and_true, true_and, and_self, implies_true, Bool.true_eq_false, Bool.false_eq_true, decide_true, decide_false, decide_eq_true_eq, decide_eq_false_iff_not, ne_eq, not_true_eq_false, not_false_eq_true, Bool.not_eq_true', Bool.not_eq_false', beq_self_eq_true, Bool.not_true, Bool.not_false, List.getElem?_toArray, List.getElem?_cons_zero, List.getElem?_cons_succ]
  refine aloop (fun d fr V => d = 0 ∧ Led B (osl 34 (rawO 4) fp (.slice ar xs.length c) xs :: L) V ∧ fr 0 = .slice ar xs.length c ∧ fr 1 = .int .i64 xs.length ∧ fr 2 = .func (.func g) first cap ∧ fr 6 = .int .i64 20 ∧ fr 7 = .int .i64 0 ∧ fr 8 = .int .i64 20) 0 ⟨rfl, l, by rfl, by rfl, by rfl, by rfl, by rfl, by rfl⟩ ?_
  rintro d fr V ⟨rfl, l, h0, h1, h2, h6, h7, h8⟩
  simp (disch := omega) only [↓stp, vls, inf, frs, mark_eq, ↓reduceIte, Nat.reduceEqDiff, ite_tt, ite_ff, eq_self, and_true, true_and, and_self, implies_true, Bool.true_eq_false, Bool.false_eq_true, decide_true, decide_false, decide_eq_true_eq, decide_eq_false_iff_not, ne_eq, not_true_eq_false, not_false_eq_true, Bool.not_eq_true', Bool.not_eq_false', beq_self_eq_true, Bool.not_true, Bool.not_false, List.getElem?_toArray, List.getElem?_cons_zero, List.getElem?_cons_succ, h0, h1, h2, h6, h7, h8]
  refine ⟨fun e => by omega, fun e => ?_⟩
  simp (disch := omega) only [↓stp, vls, inf, frs, mark_eq, ↓reduceIte, Nat.reduceEqDiff, ite_tt, ite_ff, eq_self, and_true, true_and, and_self, implies_true, Bool.true_eq_false, Bool.false_eq_true, decide_true, decide_false, decide_eq_true_eq, decide_eq_false_iff_not, ne_eq, not_true_eq_false, not_false_eq_true, Bool.not_eq_true', Bool.not_eq_false', beq_self_eq_true, Bool.not_true, Bool.not_false, List.getElem?_toArray, List.getElem?_cons_zero, List.getElem?_cons_succ, h0, h1, h2, h6, h7, h8]
  refine (insSortT_c B V L fp _ xs g first cap f hg (by omega) hcmp l).mono ?_
  rintro _ V l
  simp (disch := omega) only [↓stp, vls, inf, frs, mark_eq, ↓reduceIte, Nat.reduceEqDiff, ite_tt, ite_ff, eq_self, and_true, true_and, and_self, implies_true, Bool.true_eq_false, Bool.false_eq_true, decide_true, decide_false, decide_eq_true_eq, decide_eq_false_iff_not, ne_eq, not_true_eq_false, not_false_eq_true, Bool.not_eq_true', Bool.not_eq_false', beq_self_eq_true, Bool.not_true, Bool.not_false, List.getElem?_toArray, List.getElem?_cons_zero, List.getElem?_cons_succ, h0, h1, h2, h6, h7, h8]
  refine aloop (fun d fr V => d = 0 ∧ Led B (osl 34 (rawO 4) fp (.slice ar xs.length c) (ssort f xs) :: L) V ∧ fr 1 = .int .i64 xs.length ∧ fr 6 = .int .i64 20) 0 ⟨rfl, l, h1, h6⟩ ?_
  rintro d fr V ⟨rfl, l, h1, h6⟩
  simp (disch := omega) only [↓stp, vls, inf, frs, mark_eq, ↓reduceIte, Nat.reduceEqDiff, ite_tt, ite_ff, eq_self, and_true, true_and, and_self, implies_true, Bool.true_eq_false, Bool.false_eq_true, decide_true, decide_false, decide_eq_true_eq, decide_eq_false_iff_not, ne_eq, not_true_eq_false, not_false_eq_true, Bool.not_eq_true', Bool.not_eq_false', beq_self_eq_true, Bool.not_true, Bool.not_false, List.getElem?_toArray, List.getElem?_cons_zero, List.getElem?_cons_succ, h1, h6]
  refine ⟨fun e => by omega, fun e => ?_⟩
  simp (disch := omega) only [↓stp, vls, inf, frs, mark_eq, ↓reduceIte, Nat.reduceEqDiff, ite_tt, ite_ff, eq_self, and_true, true_and, and_self, implies_true, Bool.true_eq_false, Bool.false_eq_true, decide_true, decide_false, decide_eq_true_eq, decide_eq_false_iff_not, ne_eq, not_true_eq_false, not_false_eq_true, Bool.not_eq_true', Bool.not_eq_false', beq_self_eq_true, Bool.not_true, Bool.not_false, List.getElem?_toArray, List.getElem?_cons_zero, List.getElem?_cons_succ, h1, h6]
  exact l

end Go.Proofs.Ytbddklkfekiaeaa

