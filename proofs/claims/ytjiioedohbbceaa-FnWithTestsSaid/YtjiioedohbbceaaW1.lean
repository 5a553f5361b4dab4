/- Suites copied. -/
import Derived.Test.YtjiioedohbbceaaV9
import Derived.Test.YtjiioedohbbceaaQ1
set_option maxHeartbeats 4000000
set_option synthInstance.maxHeartbeats 400000
set_option synthInstance.maxSize 4096
set_option linter.unusedSimpArgs false
set_option linter.unusedVariables false
namespace Go.Proofs.Ytjiioedohbbceaa

set_option maxRecDepth 100000

theorem Led.regroup {A V : View} {L M : List It} (h : Led A L V) (hp : (fps M).Perm (fps L)) (hφ : ∀ it, it ∈ M → it.φ V) : Led A M V :=
  ⟨h.ext, hφ, fun b hb => h.new b (hp.mem_iff.1 hb), hp.nodup_iff.2 h.nd⟩
/-- Two things as one. -/
theorem Led.join2 {A V : View} {it1 it2 jt : It} {L : List It} (h : Led A (it1 :: it2 :: L) V) (hfp : jt.fp = it2.fp ++ it1.fp) (hφ : jt.φ V) : Led A (jt :: L) V := by
  refine h.regroup ?_ fun it hit => ?_
  · simp only [fps, List.flatMap_cons, hfp]
    rw [← List.append_assoc]
    exact List.Perm.append_right _ List.perm_append_comm
  · rcases List.mem_cons.1 hit with rfl | hit
    · exact hφ
    · exact h.all it (List.mem_cons_of_mem _ (List.mem_cons_of_mem _ hit))
/-- One thing as two. -/
theorem Led.split2 {A V : View} {it1 it2 jt : It} {L : List It} (h : Led A (jt :: L) V) (hfp : jt.fp = it1.fp ++ it2.fp) (h1 : it1.φ V) (h2 : it2.φ V) : Led A (it1 :: it2 :: L) V := by
  refine h.regroup ?_ fun it hit => ?_
  · simp only [fps, List.flatMap_cons, hfp, List.append_assoc]
    exact List.Perm.refl _
  · rcases List.mem_cons.1 hit with rfl | hit
    · exact h1
    · rcases List.mem_cons.1 hit with rfl | hit
      · exact h2
      · exact h.all it (List.mem_cons_of_mem _ hit)

/-- A struct of one's own that came of a call. -/
def NewOc {α : Type} (O : OwnS α) (A : View) (r : Value) (A' : View) (x : α) : Prop := ∃ fp cells, r = .agg cells.toArray ∧ Led A [oc O fp x cells] A'
theorem NewOc.base {α : Type} {O : OwnS α} {A B A' : View} {r : Value} {x : α} (h : NewOc O B r A' x) (he : Ext A B) : NewOc O A r A' x := let ⟨fp, c, e, h⟩ := h; ⟨fp, c, e, h.base he⟩

def smallT (t : TestD) : Prop := t.2.2.1.length ≤ 1024 ∧ t.2.2.2.1.length ≤ 1024
def smallF (f : FixtureD) : Prop := f.2.2.1.length ≤ 1024
structure Small (x : SuiteD) : Prop where
  l0 : x.1.length ≤ 1024
  l1 : x.2.1.length ≤ 1024
  s0 : ∀ f, f ∈ x.1 → smallF f
  s1 : ∀ t, t ∈ x.2.1 → smallT t
theorem testB_small {t : TestD} (h : testB t = true) : smallT t := by
  unfold testB at h
  simp only [Bool.and_eq_true] at h
  have h1 := namesB_len h.1.1.2
  have h2 := namesB_len h.2
  exact ⟨by omega, by omega⟩
theorem Formed.small {x : SuiteD} (h : Formed x) : Small x := ⟨by have := h.fl; omega, by have := h.tl; omega, fun f hf => by have := (h.fs f hf).1; show _ ≤ _; omega, fun t ht => testB_small (h.ts t ht).1⟩

theorem impl_copyTests_c (A : View) (v : Value) (xs : List TestD) (h : Sl testS A v xs) (hsm : xs.length ≤ 1024) (hs : ∀ t, t ∈ xs → smallT t) : ACalls Try.prog 77 #[v] A fun r A' => NewSl 43 testO A r A' xs := by
  obtain ⟨a, c, rfl, hc, hl⟩ := h.slice
  refine acalls Try.func77 rfl (by kernel_rfl) ?_
  simp (disch := omega) only [↓stp, vls, inf, frs, mark_eq, ↓reduceIte, Nat.reduceEqDiff, ite_tt, ite_ff, eq_self, and_true, true_and, and_self, implies_true, Bool.true_eq_false, Bool.false_eq_true, decide_true, decide_false, decide_eq_true_eq, decide_eq_false_iff_not, ne_eq, not_true_eq_false, not_false_eq_true, Bool.not_eq_true', Bool.not_eq_false', beq_self_eq_true, Bool.not_true, Bool.not_false, List.getElem?_toArray, List.getElem?_cons_zero, List.getElem?_cons_succ]
  refine led_lit0 (O := testO) li24 (Led.nil A) fun b V he l => ?_
  simp (disch := omega) only [↓stp, vls, inf, frs, mark_eq, ↓reduceIte, Nat.reduceEqDiff, ite_tt, ite_ff, eq_self, and_true, true_and, and_self, implies_true, Bool.true_eq_false, Bool.false_eq_true, decide_true, decide_false, decide_eq_true_eq, decide_eq_false_iff_not, ne_eq, not_true_eq_false, not_false_eq_true, Bool.not_eq_true', Bool.not_eq_false', beq_self_eq_true, Bool.not_true, Bool.not_false, List.getElem?_toArray, List.getElem?_cons_zero, List.getElem?_cons_succ]
  refine aloop (fun d fr V => ∃ (i : Nat) (fp : List Nat) (w : Value), i ≤ xs.length ∧ d = xs.length - i ∧ Led A [osl 43 testO fp w (xs.take i)] V ∧ fr 3 = w ∧ fr 7 = .slice a xs.length c ∧ fr 8 = .int .i64 xs.length ∧ fr 9 = .int .i64 i) xs.length ⟨0, _, _, by omega, by omega, l, by rfl, by rfl, by rfl, by rfl⟩ ?_
  clear l he
  rintro d fr V ⟨i, fp, w, hi, rfl, l, h3, h7, h8, h9⟩
  simp (disch := omega) only [↓stp, vls, inf, frs, mark_eq, ↓reduceIte, Nat.reduceEqDiff, ite_tt, ite_ff, eq_self, and_true, true_and, and_self, implies_true, Bool.true_eq_false, Bool.false_eq_true, decide_true, decide_false, decide_eq_true_eq, decide_eq_false_iff_not, ne_eq, not_true_eq_false, not_false_eq_true, Bool.not_eq_true', Bool.not_eq_false', beq_self_eq_true, Bool.not_true, Bool.not_false, List.getElem?_toArray, List.getElem?_cons_zero, List.getElem?_cons_succ, h3, h7, h8, h9]
  refine ⟨fun e => ?_, fun e => ?_⟩
  · have hlt : i < xs.length := by omega
    obtain ⟨ad, u2, u3, rfl, hclA, z1, z2, f2, f3⟩ := h.test hlt
    obtain ⟨a2, c2, rfl, _, _⟩ := f2.slice
    obtain ⟨a3, c3, rfl, _, _⟩ := f3.slice
    have hss := hs _ (List.getElem_mem hlt)
    have hcl := l.ext.part hclA
    simp (disch := omega) only [↓stp, vls, inf, frs, mark_eq, ↓reduceIte, Nat.reduceEqDiff, ite_tt, ite_ff, eq_self, and_true, true_and, and_self, implies_true, Bool.true_eq_false, Bool.false_eq_true, decide_true, decide_false, decide_eq_true_eq, decide_eq_false_iff_not, ne_eq, not_true_eq_false, not_false_eq_true, Bool.not_eq_true', Bool.not_eq_false', beq_self_eq_true, Bool.not_true, Bool.not_false, List.getElem?_toArray, List.getElem?_cons_zero, List.getElem?_cons_succ, h3, h7, h8, h9, hcl]
    refine led_alloc zc43 l fun q5 V5 he5 l => ?_
    simp (disch := omega) only [↓stp, vls, inf, frs, mark_eq, ↓reduceIte, Nat.reduceEqDiff, ite_tt, ite_ff, eq_self, and_true, true_and, and_self, implies_true, Bool.true_eq_false, Bool.false_eq_true, decide_true, decide_false, decide_eq_true_eq, decide_eq_false_iff_not, ne_eq, not_true_eq_false, not_false_eq_true, Bool.not_eq_true', Bool.not_eq_false', beq_self_eq_true, Bool.not_true, Bool.not_false, List.getElem?_toArray, List.getElem?_cons_zero, List.getElem?_cons_succ, h3, h7, h8, h9]
    refine led_storeAll l 0 rfl sz43 rfl rfl (by simp [Value.oneCell']) fun V6 l => ?_
    have m2 := l.cell (i := 0) rfl (o := 2) rfl rfl
    have m3 := l.cell (i := 0) rfl (o := 3) rfl rfl
    simp (disch := omega) only [↓stp, vls, inf, frs, mark_eq, ↓reduceIte, Nat.reduceEqDiff, ite_tt, ite_ff, eq_self, and_true, true_and, and_self, implies_true, Bool.true_eq_false, Bool.false_eq_true, decide_true, decide_false, decide_eq_true_eq, decide_eq_false_iff_not, ne_eq, not_true_eq_false, not_false_eq_true, Bool.not_eq_true', Bool.not_eq_false', beq_self_eq_true, Bool.not_true, Bool.not_false, List.getElem?_toArray, List.getElem?_cons_zero, List.getElem?_cons_succ, h3, h7, h8, h9]
    refine adraw_items [.q 0, .l 1 false, .q 3, .l 4 true, .c 2 [4], .q 6, .c 5 [], .c 7 [], .q 8, .c 9 []] (by kernel_rfl) (by kernel_rfl) ?_
    simp (disch := omega) only [↓stp, ↓pln, plv, nilOk, Nat.reduceBEq, Bool.or_false, Bool.or_true, Bool.false_or, Bool.true_or, vls, inf, frs, mark_eq, ↓reduceIte, Nat.reduceEqDiff, ite_tt, ite_ff, eq_self, and_true, true_and, and_self, implies_true, Bool.true_eq_false, Bool.false_eq_true, decide_true, decide_false, decide_eq_true_eq, decide_eq_false_iff_not, ne_eq, not_true_eq_false, not_false_eq_true, Bool.not_eq_true', Bool.not_eq_false', beq_self_eq_true, Bool.not_true, Bool.not_false, List.getElem?_toArray, List.getElem?_cons_zero, List.getElem?_cons_succ, h3, h7, h8, h9, add_at, m2, m3]
    refine (cloneString_c V6 _ _ (f2.mono l.ext) (by have := hss.1; omega)).mono ?_
    rintro r1 V7 ⟨fa, l1⟩
    obtain ⟨ar, cr, rfl, _, _⟩ := (OSl.toS (show OSl 9 strO V7 fa r1 _ from l1.at (i := 0) rfl)).slice
    replace l := l.append l1
    have m2 := l.cell (i := 1) rfl (o := 2) rfl rfl
    have m3 := l.cell (i := 1) rfl (o := 3) rfl rfl
    simp (disch := omega) only [↓stp, ↓pln, plv, nilOk, Nat.reduceBEq, Bool.or_false, Bool.or_true, Bool.false_or, Bool.true_or, vls, inf, frs, mark_eq, ↓reduceIte, Nat.reduceEqDiff, ite_tt, ite_ff, eq_self, and_true, true_and, and_self, implies_true, Bool.true_eq_false, Bool.false_eq_true, decide_true, decide_false, decide_eq_true_eq, decide_eq_false_iff_not, ne_eq, not_true_eq_false, not_false_eq_true, Bool.not_eq_true', Bool.not_eq_false', beq_self_eq_true, Bool.not_true, Bool.not_false, List.getElem?_toArray, List.getElem?_cons_zero, List.getElem?_cons_succ, h3, h7, h8, h9, add_at, m2, m3]
    refine (cloneString_c V7 _ _ (f3.mono l.ext) (by have := hss.2; omega)).mono ?_
    rintro r2 V8 ⟨fb, l1⟩
    obtain ⟨as2, cs2, rfl, _, _⟩ := (OSl.toS (show OSl 9 strO V8 fb r2 _ from l1.at (i := 0) rfl)).slice
    replace l := l.append l1
    have m2 := l.cell (i := 2) rfl (o := 2) rfl rfl
    have m3 := l.cell (i := 2) rfl (o := 3) rfl rfl
    simp (disch := omega) only [↓stp, ↓pln, plv, nilOk, Nat.reduceBEq, Bool.or_false, Bool.or_true, Bool.false_or, Bool.true_or, vls, inf, frs, mark_eq, ↓reduceIte, Nat.reduceEqDiff, ite_tt, ite_ff, eq_self, and_true, true_and, and_self, implies_true, Bool.true_eq_false, Bool.false_eq_true, decide_true, decide_false, decide_eq_true_eq, decide_eq_false_iff_not, ne_eq, not_true_eq_false, not_false_eq_true, Bool.not_eq_true', Bool.not_eq_false', beq_self_eq_true, Bool.not_true, Bool.not_false, List.getElem?_toArray, List.getElem?_cons_zero, List.getElem?_cons_succ, h3, h7, h8, h9, add_at, m2, m3]
    refine led_store l 2 rfl sz31 (by rfl) (by rfl) (by rfl) fun V9 l => ?_
    have m2 := l.cell (i := 2) rfl (o := 2) rfl rfl
    have m3 := l.cell (i := 2) rfl (o := 3) rfl rfl
    simp (disch := omega) only [↓stp, ↓pln, plv, nilOk, Nat.reduceBEq, Bool.or_false, Bool.or_true, Bool.false_or, Bool.true_or, vls, inf, frs, mark_eq, ↓reduceIte, Nat.reduceEqDiff, ite_tt, ite_ff, eq_self, and_true, true_and, and_self, implies_true, Bool.true_eq_false, Bool.false_eq_true, decide_true, decide_false, decide_eq_true_eq, decide_eq_false_iff_not, ne_eq, not_true_eq_false, not_false_eq_true, Bool.not_eq_true', Bool.not_eq_false', beq_self_eq_true, Bool.not_true, Bool.not_false, List.getElem?_toArray, List.getElem?_cons_zero, List.getElem?_cons_succ, h3, h7, h8, h9, add_at, m2, m3, false_implies]
    refine led_store l 2 rfl sz31 (by rfl) (by rfl) (by rfl) fun V10 l => ?_
    have m2 := l.cell (i := 2) rfl (o := 2) rfl rfl
    have m3 := l.cell (i := 2) rfl (o := 3) rfl rfl
    simp (disch := omega) only [↓stp, ↓pln, plv, nilOk, Nat.reduceBEq, Bool.or_false, Bool.or_true, Bool.false_or, Bool.true_or, vls, inf, frs, mark_eq, ↓reduceIte, Nat.reduceEqDiff, ite_tt, ite_ff, eq_self, and_true, true_and, and_self, implies_true, Bool.true_eq_false, Bool.false_eq_true, decide_true, decide_false, decide_eq_true_eq, decide_eq_false_iff_not, ne_eq, not_true_eq_false, not_false_eq_true, Bool.not_eq_true', Bool.not_eq_false', beq_self_eq_true, Bool.not_true, Bool.not_false, List.getElem?_toArray, List.getElem?_cons_zero, List.getElem?_cons_succ, h3, h7, h8, h9, add_at, m2, m3, false_implies]
    have kt : V10.part ⟨q5, 0, none⟩ 4 = some [.string (xs[i]).1, .string (xs[i]).2.1, .slice ar (xs[i]).2.2.1.length cr, .slice as2 (xs[i]).2.2.2.1.length cs2] := l.part (i := 2) rfl rfl
    simp (disch := omega) only [↓stp, vls, inf, frs, mark_eq, ↓reduceIte, Nat.reduceEqDiff, ite_tt, ite_ff, eq_self, and_true, true_and, and_self, implies_true, Bool.true_eq_false, Bool.false_eq_true, decide_true, decide_false, decide_eq_true_eq, decide_eq_false_iff_not, ne_eq, not_true_eq_false, not_false_eq_true, Bool.not_eq_true', Bool.not_eq_false', beq_self_eq_true, Bool.not_true, Bool.not_false, List.getElem?_toArray, List.getElem?_cons_zero, List.getElem?_cons_succ, h3, h7, h8, h9, kt]
    have l2 := l.join2 (jt := oc testO (fa ++ fb) xs[i] _) rfl (show testO.rel V10 (fa ++ fb) xs[i] _ from testO_mk z1 z2 (l.at (i := 1) rfl) (l.at (i := 0) rfl))
    refine led_lit li24 (by omega) rfl (fun p hp => by rcases List.mem_singleton.1 hp with rfl; exact ⟨rfl, rfl⟩) l2 fun bl V11 _ l => ?_
    simp (disch := omega) only [↓stp, vls, inf, frs, mark_eq, ↓reduceIte, Nat.reduceEqDiff, ite_tt, ite_ff, eq_self, and_true, true_and, and_self, implies_true, Bool.true_eq_false, Bool.false_eq_true, decide_true, decide_false, decide_eq_true_eq, decide_eq_false_iff_not, ne_eq, not_true_eq_false, not_false_eq_true, Bool.not_eq_true', Bool.not_eq_false', beq_self_eq_true, Bool.not_true, Bool.not_false, List.getElem?_toArray, List.getElem?_cons_zero, List.getElem?_cons_succ, h3, h7, h8, h9]
    refine led_appO (O := testO) ap24_24 (by decide) l (i := 1) rfl (by rw [List.length_take]; omega) fun fp' w' V12 _ l => ?_
    simp (disch := omega) only [↓stp, vls, inf, frs, mark_eq, ↓reduceIte, Nat.reduceEqDiff, ite_tt, ite_ff, eq_self, and_true, true_and, and_self, implies_true, Bool.true_eq_false, Bool.false_eq_true, decide_true, decide_false, decide_eq_true_eq, decide_eq_false_iff_not, ne_eq, not_true_eq_false, not_false_eq_true, Bool.not_eq_true', Bool.not_eq_false', beq_self_eq_true, Bool.not_true, Bool.not_false, List.getElem?_toArray, List.getElem?_cons_zero, List.getElem?_cons_succ, h3, h7, h8, h9]
    exact ⟨_, by omega, i + 1, _, _, by omega, rfl, by rw [List.take_succ_eq_append_getElem hlt]; exact l.tail, rfl, rfl⟩
  · simp (disch := omega) only [↓stp, vls, inf, frs, mark_eq, ↓reduceIte, Nat.reduceEqDiff, ite_tt, ite_ff, eq_self, and_true, true_and, and_self, implies_true, Bool.true_eq_false, Bool.false_eq_true, decide_true, decide_false, decide_eq_true_eq, decide_eq_false_iff_not, ne_eq, not_true_eq_false, not_false_eq_true, Bool.not_eq_true', Bool.not_eq_false', beq_self_eq_true, Bool.not_true, Bool.not_false, List.getElem?_toArray, List.getElem?_cons_zero, List.getElem?_cons_succ, h3, h7, h8, h9]
    rw [List.take_of_length_le (by omega)] at l
    exact NewSl.of l (i := 0) rfl

theorem impl_copySuite_c (A : View) (d : List Value) (x : SuiteD) (h : suiteS.rel A x d) (hs : Small x) : ACalls Try.prog 76 #[.agg d.toArray] A fun r A' => NewOc suiteO A r A' x := by
  obtain ⟨u0, u1, rfl, g0, g1⟩ := suiteS_open h
  obtain ⟨a0, c0, rfl, _, _⟩ := g0.slice
  obtain ⟨a1, c1, rfl, _, _⟩ := g1.slice
  have hl0 := hs.l0
  refine acalls Try.func76 rfl (by kernel_rfl) ?_
  simp (disch := omega) only [↓stp, vls, inf, frs, mark_eq, ↓reduceIte, Nat.reduceEqDiff, ite_tt, ite_ff, eq_self, and_true, true_and, and_self, implies_true, Bool.true_eq_false, Bool.false_eq_true, decide_true, decide_false, decide_eq_true_eq, decide_eq_false_iff_not, ne_eq, not_true_eq_false, not_false_eq_true, Bool.not_eq_true', Bool.not_eq_false', beq_self_eq_true, Bool.not_true, Bool.not_false, List.getElem?_toArray, List.getElem?_cons_zero, List.getElem?_cons_succ]
  refine led_box (Led.nil A) rfl fun q1 V he l => ?_
  have k1 := l.cell (i := 0) rfl (o := 1) rfl rfl
  simp (disch := omega) only [↓stp, vls, inf, frs, mark_eq, ↓reduceIte, Nat.reduceEqDiff, ite_tt, ite_ff, eq_self, and_true, true_and, and_self, implies_true, Bool.true_eq_false, Bool.false_eq_true, decide_true, decide_false, decide_eq_true_eq, decide_eq_false_iff_not, ne_eq, not_true_eq_false, not_false_eq_true, Bool.not_eq_true', Bool.not_eq_false', beq_self_eq_true, Bool.not_true, Bool.not_false, List.getElem?_toArray, List.getElem?_cons_zero, List.getElem?_cons_succ]
  refine led_alloc zc26 l fun q2 V he l => ?_
  have k1 := l.cell (i := 1) rfl (o := 1) rfl rfl
  simp (disch := omega) only [↓stp, vls, inf, frs, mark_eq, ↓reduceIte, Nat.reduceEqDiff, ite_tt, ite_ff, eq_self, and_true, true_and, and_self, implies_true, Bool.true_eq_false, Bool.false_eq_true, decide_true, decide_false, decide_eq_true_eq, decide_eq_false_iff_not, ne_eq, not_true_eq_false, not_false_eq_true, Bool.not_eq_true', Bool.not_eq_false', beq_self_eq_true, Bool.not_true, Bool.not_false, List.getElem?_toArray, List.getElem?_cons_zero, List.getElem?_cons_succ, add_at, k1]
  refine (impl_copyTests_c V _ _ (g1.mono l.ext) hs.l1 hs.s1).mono ?_
  rintro r V2 ⟨ft, l1⟩
  obtain ⟨at1, ct, rfl, _, _⟩ := (show Sl testS V2 r x.2.1 from OSl.toS (show OSl 43 testO V2 ft r x.2.1 from l1.at (i := 0) rfl)).slice
  replace l := l.append l1
  simp (disch := omega) only [↓stp, vls, inf, frs, mark_eq, ↓reduceIte, Nat.reduceEqDiff, ite_tt, ite_ff, eq_self, and_true, true_and, and_self, implies_true, Bool.true_eq_false, Bool.false_eq_true, decide_true, decide_false, decide_eq_true_eq, decide_eq_false_iff_not, ne_eq, not_true_eq_false, not_false_eq_true, Bool.not_eq_true', Bool.not_eq_false', beq_self_eq_true, Bool.not_true, Bool.not_false, List.getElem?_toArray, List.getElem?_cons_zero, List.getElem?_cons_succ]
  refine led_alloc zc26 l fun q3 V he l => ?_
  simp (disch := omega) only [↓stp, vls, inf, frs, mark_eq, ↓reduceIte, Nat.reduceEqDiff, ite_tt, ite_ff, eq_self, and_true, true_and, and_self, implies_true, Bool.true_eq_false, Bool.false_eq_true, decide_true, decide_false, decide_eq_true_eq, decide_eq_false_iff_not, ne_eq, not_true_eq_false, not_false_eq_true, Bool.not_eq_true', Bool.not_eq_false', beq_self_eq_true, Bool.not_true, Bool.not_false, List.getElem?_toArray, List.getElem?_cons_zero, List.getElem?_cons_succ]
  refine led_storeAll l 0 rfl sz26 rfl rfl (by simp [Value.oneCell']) fun V6 l => ?_
  have k0 := l.cell (i := 3) rfl (o := 0) rfl rfl
  simp (disch := omega) only [↓stp, vls, inf, frs, mark_eq, ↓reduceIte, Nat.reduceEqDiff, ite_tt, ite_ff, eq_self, and_true, true_and, and_self, implies_true, Bool.true_eq_false, Bool.false_eq_true, decide_true, decide_false, decide_eq_true_eq, decide_eq_false_iff_not, ne_eq, not_true_eq_false, not_false_eq_true, Bool.not_eq_true', Bool.not_eq_false', beq_self_eq_true, Bool.not_true, Bool.not_false, List.getElem?_toArray, List.getElem?_cons_zero, List.getElem?_cons_succ, add_at, k0]
  replace l := Led.nilO 33 fixtureO l
  refine aloop (fun d fr V => ∃ (i : Nat) (fp : List Nat) (w : Value), i ≤ x.1.length ∧ d = x.1.length - i ∧ Led A [osl 33 fixtureO fp w (x.1.take i), bx q3 ⟨26, [w, .slice at1 x.2.1.length ct], 2, true⟩, osl 43 testO ft (.slice at1 x.2.1.length ct) x.2.1, bx q2 ⟨26, [.slice none 0 0, .slice none 0 0], 2, true⟩] V ∧ fr 2 = .pointer (some ⟨q2, 0, none⟩) ∧ fr 3 = .pointer (some ⟨q3, 0, none⟩) ∧ fr 11 = .slice a0 x.1.length c0 ∧ fr 12 = .int .i64 x.1.length ∧ fr 13 = .int .i64 i) x.1.length ⟨0, _, _, by omega, by omega, l.sub (List.Sublist.cons_cons _ (List.Sublist.cons_cons _ (List.Sublist.cons_cons _ (List.Sublist.cons_cons _ (List.nil_sublist _))))), by rfl, by rfl, by rfl, by rfl, by rfl⟩ ?_
  clear l l1 he k0 k1
  rintro d fr V ⟨i, fp, w, hi, rfl, lw, h2, h3, h11, h12, h13⟩
  simp (disch := omega) only [↓stp, vls, inf, frs, mark_eq, ↓reduceIte, Nat.reduceEqDiff, ite_tt, ite_ff, eq_self, and_true, true_and, and_self, implies_true, Bool.true_eq_false, Bool.false_eq_true, decide_true, decide_false, decide_eq_true_eq, decide_eq_false_iff_not, ne_eq, not_true_eq_false, not_false_eq_true, Bool.not_eq_true', Bool.not_eq_false', beq_self_eq_true, Bool.not_true, Bool.not_false, List.getElem?_toArray, List.getElem?_cons_zero, List.getElem?_cons_succ, h2, h3, h11, h12, h13]
  obtain ⟨aw, cw, rfl, _, _⟩ := (show Sl fixtureS V w (x.1.take i) from OSl.toS (show OSl 33 fixtureO V fp w _ from lw.at (i := 0) rfl)).slice
  refine ⟨fun e => ?_, fun e => ?_⟩
  · have hlt : i < x.1.length := by omega
    obtain ⟨ad, u2, rfl, hclA, z1, z2, f2⟩ := g0.fixture hlt
    obtain ⟨a2, c2, rfl, _, _⟩ := f2.slice
    have hss := hs.s0 _ (List.getElem_mem hlt)
    have l := lw
    have hcl := l.ext.part hclA
    simp (disch := omega) only [↓stp, vls, inf, frs, mark_eq, ↓reduceIte, Nat.reduceEqDiff, ite_tt, ite_ff, eq_self, and_true, true_and, and_self, implies_true, Bool.true_eq_false, Bool.false_eq_true, decide_true, decide_false, decide_eq_true_eq, decide_eq_false_iff_not, ne_eq, not_true_eq_false, not_false_eq_true, Bool.not_eq_true', Bool.not_eq_false', beq_self_eq_true, Bool.not_true, Bool.not_false, List.getElem?_toArray, List.getElem?_cons_zero, List.getElem?_cons_succ, h2, h3, h11, h12, h13, hcl]
    refine led_alloc zc33 l fun q5 V5 he5 l => ?_
    simp (disch := omega) only [↓stp, vls, inf, frs, mark_eq, ↓reduceIte, Nat.reduceEqDiff, ite_tt, ite_ff, eq_self, and_true, true_and, and_self, implies_true, Bool.true_eq_false, Bool.false_eq_true, decide_true, decide_false, decide_eq_true_eq, decide_eq_false_iff_not, ne_eq, not_true_eq_false, not_false_eq_true, Bool.not_eq_true', Bool.not_eq_false', beq_self_eq_true, Bool.not_true, Bool.not_false, List.getElem?_toArray, List.getElem?_cons_zero, List.getElem?_cons_succ, h2, h3, h11, h12, h13]
    refine led_storeAll l 0 rfl sz33 rfl rfl (by simp [Value.oneCell']) fun V6 l => ?_
    have m2 := l.cell (i := 0) rfl (o := 2) rfl rfl
    simp (disch := omega) only [↓stp, vls, inf, frs, mark_eq, ↓reduceIte, Nat.reduceEqDiff, ite_tt, ite_ff, eq_self, and_true, true_and, and_self, implies_true, Bool.true_eq_false, Bool.false_eq_true, decide_true, decide_false, decide_eq_true_eq, decide_eq_false_iff_not, ne_eq, not_true_eq_false, not_false_eq_true, Bool.not_eq_true', Bool.not_eq_false', beq_self_eq_true, Bool.not_true, Bool.not_false, List.getElem?_toArray, List.getElem?_cons_zero, List.getElem?_cons_succ, h2, h3, h11, h12, h13, add_at, m2]
    refine (cloneString_c V6 _ _ (f2.mono l.ext) (by have : (x.1[i]).2.2.1.length ≤ 1024 := hss; omega)).mono ?_
    rintro r1 V7 ⟨fa, l1⟩
    obtain ⟨ar, cr, rfl, _, _⟩ := (OSl.toS (show OSl 9 strO V7 fa r1 _ from l1.at (i := 0) rfl)).slice
    replace l := l.append l1
    simp (disch := omega) only [↓stp, vls, inf, frs, mark_eq, ↓reduceIte, Nat.reduceEqDiff, ite_tt, ite_ff, eq_self, and_true, true_and, and_self, implies_true, Bool.true_eq_false, Bool.false_eq_true, decide_true, decide_false, decide_eq_true_eq, decide_eq_false_iff_not, ne_eq, not_true_eq_false, not_false_eq_true, Bool.not_eq_true', Bool.not_eq_false', beq_self_eq_true, Bool.not_true, Bool.not_false, List.getElem?_toArray, List.getElem?_cons_zero, List.getElem?_cons_succ, h2, h3, h11, h12, h13, add_at]
    refine led_store l 1 rfl sz31 (by rfl) (by rfl) (by rfl) fun V9 l => ?_
    have w0 := l.cell (i := 3) rfl (o := 0) rfl rfl
    have kt : V9.part ⟨q5, 0, none⟩ 4 = some [.string (x.1[i]).1, .int .i64 (x.1[i]).2.1, .slice ar (x.1[i]).2.2.1.length cr, .bool (x.1[i]).2.2.2.1] := l.part (i := 1) rfl rfl
    simp (disch := omega) only [↓stp, vls, inf, frs, mark_eq, ↓reduceIte, Nat.reduceEqDiff, ite_tt, ite_ff, eq_self, and_true, true_and, and_self, implies_true, Bool.true_eq_false, Bool.false_eq_true, decide_true, decide_false, decide_eq_true_eq, decide_eq_false_iff_not, ne_eq, not_true_eq_false, not_false_eq_true, Bool.not_eq_true', Bool.not_eq_false', beq_self_eq_true, Bool.not_true, Bool.not_false, List.getElem?_toArray, List.getElem?_cons_zero, List.getElem?_cons_succ, h2, h3, h11, h12, h13, add_at, w0, kt]
    have l2 := l.upd (i := 0) (jt := oc fixtureO fa x.1[i] [.string (x.1[i]).1, .int .i64 (x.1[i]).2.1, .slice ar (x.1[i]).2.2.1.length cr, .bool (x.1[i]).2.2.2.1]) rfl rfl (Only.refl _ _) (show fixtureO.rel V9 fa x.1[i] _ from fixtureO_mk z1 z2 (l.at (i := 0) rfl))
    refine led_lit li23 (by omega) rfl (fun p hp => by rcases List.mem_singleton.1 hp with rfl; exact ⟨rfl, rfl⟩) l2 fun bl V11 _ l => ?_
    simp (disch := omega) only [↓stp, vls, inf, frs, mark_eq, ↓reduceIte, Nat.reduceEqDiff, ite_tt, ite_ff, eq_self, and_true, true_and, and_self, implies_true, Bool.true_eq_false, Bool.false_eq_true, decide_true, decide_false, decide_eq_true_eq, decide_eq_false_iff_not, ne_eq, not_true_eq_false, not_false_eq_true, Bool.not_eq_true', Bool.not_eq_false', beq_self_eq_true, Bool.not_true, Bool.not_false, List.getElem?_toArray, List.getElem?_cons_zero, List.getElem?_cons_succ, h2, h3, h11, h12, h13]
    refine led_appO (O := fixtureO) ap23_23 (by decide) l (i := 1) rfl (by rw [List.length_take]; omega) fun fp' w' V12 _ l => ?_
    rw [← List.take_succ_eq_append_getElem hlt] at l
    obtain ⟨aw', cw', rfl, _, _⟩ := (show Sl fixtureS V12 w' (x.1.take (i + 1)) from OSl.toS (show OSl 33 fixtureO V12 fp' w' _ from l.at (i := 1) rfl)).slice
    simp (disch := omega) only [↓stp, vls, inf, frs, mark_eq, ↓reduceIte, Nat.reduceEqDiff, ite_tt, ite_ff, eq_self, and_true, true_and, and_self, implies_true, Bool.true_eq_false, Bool.false_eq_true, decide_true, decide_false, decide_eq_true_eq, decide_eq_false_iff_not, ne_eq, not_true_eq_false, not_false_eq_true, Bool.not_eq_true', Bool.not_eq_false', beq_self_eq_true, Bool.not_true, Bool.not_false, List.getElem?_toArray, List.getElem?_cons_zero, List.getElem?_cons_succ, h2, h3, h11, h12, h13, add_at]
    refine led_store l 2 rfl sz23 (by rfl) (by rfl) (by rfl) fun V13 l => ?_
    simp (disch := omega) only [↓stp, vls, inf, frs, mark_eq, ↓reduceIte, Nat.reduceEqDiff, ite_tt, ite_ff, eq_self, and_true, true_and, and_self, implies_true, Bool.true_eq_false, Bool.false_eq_true, decide_true, decide_false, decide_eq_true_eq, decide_eq_false_iff_not, ne_eq, not_true_eq_false, not_false_eq_true, Bool.not_eq_true', Bool.not_eq_false', beq_self_eq_true, Bool.not_true, Bool.not_false, List.getElem?_toArray, List.getElem?_cons_zero, List.getElem?_cons_succ, h2, h3, h11, h12, h13]
    exact ⟨_, by omega, i + 1, _, _, by omega, rfl, l.tail, rfl⟩
  · have l := lw
    rw [List.take_of_length_le (by omega)] at l
    have kp : V.part ⟨q3, 0, none⟩ 2 = some _ := l.part (i := 1) rfl rfl
    simp (disch := omega) only [↓stp, vls, inf, frs, mark_eq, ↓reduceIte, Nat.reduceEqDiff, ite_tt, ite_ff, eq_self, and_true, true_and, and_self, implies_true, Bool.true_eq_false, Bool.false_eq_true, decide_true, decide_false, decide_eq_true_eq, decide_eq_false_iff_not, ne_eq, not_true_eq_false, not_false_eq_true, Bool.not_eq_true', Bool.not_eq_false', beq_self_eq_true, Bool.not_true, Bool.not_false, List.getElem?_toArray, List.getElem?_cons_zero, List.getElem?_cons_succ, h2, h3, h11, h12, h13, kp]
    refine led_storeAll l 3 rfl sz26 rfl rfl (by simp [Value.oneCell']) fun V6 l => ?_
    have kp : V6.part ⟨q2, 0, none⟩ 2 = some _ := l.part (i := 3) rfl rfl
    simp (disch := omega) only [↓stp, vls, inf, frs, mark_eq, ↓reduceIte, Nat.reduceEqDiff, ite_tt, ite_ff, eq_self, and_true, true_and, and_self, implies_true, Bool.true_eq_false, Bool.false_eq_true, decide_true, decide_false, decide_eq_true_eq, decide_eq_false_iff_not, ne_eq, not_true_eq_false, not_false_eq_true, Bool.not_eq_true', Bool.not_eq_false', beq_self_eq_true, Bool.not_true, Bool.not_false, List.getElem?_toArray, List.getElem?_cons_zero, List.getElem?_cons_succ, h2, h3, h11, h12, h13, kp]
    have l2 : Led A [osl 43 testO ft (.slice at1 x.2.1.length ct) x.2.1, osl 33 fixtureO fp _ x.1] V6 := (l.sub (.cons_cons _ (.cons _ (.cons_cons _ (.cons _ .slnil))))).perm (List.Perm.swap ..)
    exact ⟨_, _, rfl, l2.join2 (jt := oc suiteO (fp ++ ft) x _) rfl (show suiteO.rel V6 (fp ++ ft) x _ from suiteO_mk (l.at (i := 0) rfl) (l.at (i := 2) rfl))⟩

theorem spec_copyTest_c (A : View) (d : List Value) (x : TestD) (h : testS.rel A x d) (hs : smallT x) : ACalls Try.prog 146 #[.agg d.toArray] A fun r A' => NewOc testO A r A' x := by
  obtain ⟨u2, u3, rfl, z1, z2, f2, f3⟩ := testS_open h
  obtain ⟨a2, c2, rfl, _, _⟩ := f2.slice
  obtain ⟨a3, c3, rfl, _, _⟩ := f3.slice
  refine acalls Try.func146 rfl (by kernel_rfl) ?_
  simp (disch := omega) only [↓stp, vls, inf, frs, mark_eq, ↓reduceIte, Nat.reduceEqDiff, ite_tt, ite_ff, eq_self, and_true, true_and, and_self, implies_true, Bool.true_eq_false, Bool.false_eq_true, decide_true, decide_false, decide_eq_true_eq, decide_eq_false_iff_not, ne_eq, not_true_eq_false, not_false_eq_true, Bool.not_eq_true', Bool.not_eq_false', beq_self_eq_true, Bool.not_true, Bool.not_false, List.getElem?_toArray, List.getElem?_cons_zero, List.getElem?_cons_succ]
  refine led_box (Led.nil A) rfl fun q1 V he l => ?_
  simp (disch := omega) only [↓stp, vls, inf, frs, mark_eq, ↓reduceIte, Nat.reduceEqDiff, ite_tt, ite_ff, eq_self, and_true, true_and, and_self, implies_true, Bool.true_eq_false, Bool.false_eq_true, decide_true, decide_false, decide_eq_true_eq, decide_eq_false_iff_not, ne_eq, not_true_eq_false, not_false_eq_true, Bool.not_eq_true', Bool.not_eq_false', beq_self_eq_true, Bool.not_true, Bool.not_false, List.getElem?_toArray, List.getElem?_cons_zero, List.getElem?_cons_succ]
  refine led_alloc zc43 l fun q2 V he l => ?_
  have m0 := l.cell (i := 1) rfl (o := 0) rfl rfl
  have m1 := l.cell (i := 1) rfl (o := 1) rfl rfl
  have m2 := l.cell (i := 1) rfl (o := 2) rfl rfl
  have m3 := l.cell (i := 1) rfl (o := 3) rfl rfl
  simp (disch := omega) only [↓stp, vls, inf, frs, mark_eq, ↓reduceIte, Nat.reduceEqDiff, ite_tt, ite_ff, eq_self, and_true, true_and, and_self, implies_true, Bool.true_eq_false, Bool.false_eq_true, decide_true, decide_false, decide_eq_true_eq, decide_eq_false_iff_not, ne_eq, not_true_eq_false, not_false_eq_true, Bool.not_eq_true', Bool.not_eq_false', beq_self_eq_true, Bool.not_true, Bool.not_false, List.getElem?_toArray, List.getElem?_cons_zero, List.getElem?_cons_succ]
  refine adraw_items [.q 0, .l 1 true, .q 2, .l 3 true, .q 5, .l 6 false, .q 9, .l 10 true, .c 4 [], .c 7 [1, 3, 10], .c 8 [], .c 11 [1, 3], .q 12, .c 13 []] (by kernel_rfl) (by kernel_rfl) ?_
  simp (disch := omega) only [↓stp, ↓pln, plv, nilOk, Nat.reduceBEq, Bool.or_false, Bool.or_true, Bool.false_or, Bool.true_or, vls, inf, frs, mark_eq, ↓reduceIte, Nat.reduceEqDiff, ite_tt, ite_ff, eq_self, and_true, true_and, and_self, implies_true, Bool.true_eq_false, Bool.false_eq_true, decide_true, decide_false, decide_eq_true_eq, decide_eq_false_iff_not, ne_eq, not_true_eq_false, not_false_eq_true, Bool.not_eq_true', Bool.not_eq_false', beq_self_eq_true, Bool.not_true, Bool.not_false, List.getElem?_toArray, List.getElem?_cons_zero, List.getElem?_cons_succ, add_at, m0, m1, m2, m3]
  refine led_lit0 (O := strO) li31 l fun b1 V he l => ?_
  have m0 := l.cell (i := 2) rfl (o := 0) rfl rfl
  have m1 := l.cell (i := 2) rfl (o := 1) rfl rfl
  have m2 := l.cell (i := 2) rfl (o := 2) rfl rfl
  have m3 := l.cell (i := 2) rfl (o := 3) rfl rfl
  simp (disch := omega) only [↓stp, ↓pln, plv, nilOk, Nat.reduceBEq, Bool.or_false, Bool.or_true, Bool.false_or, Bool.true_or, vls, inf, frs, mark_eq, ↓reduceIte, Nat.reduceEqDiff, ite_tt, ite_ff, eq_self, and_true, true_and, and_self, implies_true, Bool.true_eq_false, Bool.false_eq_true, decide_true, decide_false, decide_eq_true_eq, decide_eq_false_iff_not, ne_eq, not_true_eq_false, not_false_eq_true, Bool.not_eq_true', Bool.not_eq_false', beq_self_eq_true, Bool.not_true, Bool.not_false, List.getElem?_toArray, List.getElem?_cons_zero, List.getElem?_cons_succ, add_at, m0, m1, m2, m3, false_implies]
  refine led_app (O := strO) ap31_31 (by decide) l (i := 0) rfl (Sl.srcOf (f2.mono l.ext)) (by have := hs.1; rw [List.length_nil]; omega) fun fa wa V _ l => ?_
  rw [List.nil_append] at l
  obtain ⟨aa, ca, rfl, _, _⟩ := (show Sl strS V wa _ from OSl.toS (show OSl 9 strO V fa wa _ from l.at (i := 0) rfl)).slice
  have m0 := l.cell (i := 2) rfl (o := 0) rfl rfl
  have m1 := l.cell (i := 2) rfl (o := 1) rfl rfl
  have m2 := l.cell (i := 2) rfl (o := 2) rfl rfl
  have m3 := l.cell (i := 2) rfl (o := 3) rfl rfl
  simp (disch := omega) only [↓stp, ↓pln, plv, nilOk, Nat.reduceBEq, Bool.or_false, Bool.or_true, Bool.false_or, Bool.true_or, vls, inf, frs, mark_eq, ↓reduceIte, Nat.reduceEqDiff, ite_tt, ite_ff, eq_self, and_true, true_and, and_self, implies_true, Bool.true_eq_false, Bool.false_eq_true, decide_true, decide_false, decide_eq_true_eq, decide_eq_false_iff_not, ne_eq, not_true_eq_false, not_false_eq_true, Bool.not_eq_true', Bool.not_eq_false', beq_self_eq_true, Bool.not_true, Bool.not_false, List.getElem?_toArray, List.getElem?_cons_zero, List.getElem?_cons_succ, add_at, m0, m1, m2, m3, false_implies]
  refine led_lit0 (O := strO) li31 l fun b2 V he l => ?_
  have m0 := l.cell (i := 3) rfl (o := 0) rfl rfl
  have m1 := l.cell (i := 3) rfl (o := 1) rfl rfl
  have m2 := l.cell (i := 3) rfl (o := 2) rfl rfl
  have m3 := l.cell (i := 3) rfl (o := 3) rfl rfl
  simp (disch := omega) only [↓stp, ↓pln, plv, nilOk, Nat.reduceBEq, Bool.or_false, Bool.or_true, Bool.false_or, Bool.true_or, vls, inf, frs, mark_eq, ↓reduceIte, Nat.reduceEqDiff, ite_tt, ite_ff, eq_self, and_true, true_and, and_self, implies_true, Bool.true_eq_false, Bool.false_eq_true, decide_true, decide_false, decide_eq_true_eq, decide_eq_false_iff_not, ne_eq, not_true_eq_false, not_false_eq_true, Bool.not_eq_true', Bool.not_eq_false', beq_self_eq_true, Bool.not_true, Bool.not_false, List.getElem?_toArray, List.getElem?_cons_zero, List.getElem?_cons_succ, add_at, m0, m1, m2, m3, false_implies]
  refine led_app (O := strO) ap31_31 (by decide) l (i := 0) rfl (Sl.srcOf (f3.mono l.ext)) (by have := hs.2; rw [List.length_nil]; omega) fun fb wb V _ l => ?_
  rw [List.nil_append] at l
  obtain ⟨ab, cb, rfl, _, _⟩ := (show Sl strS V wb _ from OSl.toS (show OSl 9 strO V fb wb _ from l.at (i := 0) rfl)).slice
  have m0 := l.cell (i := 3) rfl (o := 0) rfl rfl
  have m1 := l.cell (i := 3) rfl (o := 1) rfl rfl
  have m2 := l.cell (i := 3) rfl (o := 2) rfl rfl
  have m3 := l.cell (i := 3) rfl (o := 3) rfl rfl
  simp (disch := omega) only [↓stp, ↓pln, plv, nilOk, Nat.reduceBEq, Bool.or_false, Bool.or_true, Bool.false_or, Bool.true_or, vls, inf, frs, mark_eq, ↓reduceIte, Nat.reduceEqDiff, ite_tt, ite_ff, eq_self, and_true, true_and, and_self, implies_true, Bool.true_eq_false, Bool.false_eq_true, decide_true, decide_false, decide_eq_true_eq, decide_eq_false_iff_not, ne_eq, not_true_eq_false, not_false_eq_true, Bool.not_eq_true', Bool.not_eq_false', beq_self_eq_true, Bool.not_true, Bool.not_false, List.getElem?_toArray, List.getElem?_cons_zero, List.getElem?_cons_succ, add_at, m0, m1, m2, m3, false_implies]
  refine led_storeAll l 2 rfl sz43 rfl rfl (by simp [Value.oneCell']) fun V l => ?_
  have m0 := l.cell (i := 3) rfl (o := 0) rfl rfl
  have m1 := l.cell (i := 3) rfl (o := 1) rfl rfl
  have m2 := l.cell (i := 3) rfl (o := 2) rfl rfl
  have m3 := l.cell (i := 3) rfl (o := 3) rfl rfl
  simp (disch := omega) only [↓stp, ↓pln, plv, nilOk, Nat.reduceBEq, Bool.or_false, Bool.or_true, Bool.false_or, Bool.true_or, vls, inf, frs, mark_eq, ↓reduceIte, Nat.reduceEqDiff, ite_tt, ite_ff, eq_self, and_true, true_and, and_self, implies_true, Bool.true_eq_false, Bool.false_eq_true, decide_true, decide_false, decide_eq_true_eq, decide_eq_false_iff_not, ne_eq, not_true_eq_false, not_false_eq_true, Bool.not_eq_true', Bool.not_eq_false', beq_self_eq_true, Bool.not_true, Bool.not_false, List.getElem?_toArray, List.getElem?_cons_zero, List.getElem?_cons_succ, add_at, m0, m1, m2, m3, false_implies]
  have kt : V.part ⟨q2, 0, none⟩ 4 = some _ := l.part (i := 2) rfl rfl
  simp (disch := omega) only [↓stp, vls, inf, frs, mark_eq, ↓reduceIte, Nat.reduceEqDiff, ite_tt, ite_ff, eq_self, and_true, true_and, and_self, implies_true, Bool.true_eq_false, Bool.false_eq_true, decide_true, decide_false, decide_eq_true_eq, decide_eq_false_iff_not, ne_eq, not_true_eq_false, not_false_eq_true, Bool.not_eq_true', Bool.not_eq_false', beq_self_eq_true, Bool.not_true, Bool.not_false, List.getElem?_toArray, List.getElem?_cons_zero, List.getElem?_cons_succ, kt]
  have l2 := (l.sub (.cons_cons _ (.cons_cons _ (List.nil_sublist _)))).join2 (jt := oc testO (fa ++ fb) x _) rfl (show testO.rel V (fa ++ fb) x _ from testO_mk z1 z2 (l.at (i := 1) rfl) (l.at (i := 0) rfl))
  exact ⟨_, _, rfl, l2⟩

theorem spec_copySuite_c (A : View) (d : List Value) (x : SuiteD) (h : suiteS.rel A x d) (hs : Small x) : ACalls Try.prog 124 #[.agg d.toArray] A fun r A' => NewOc suiteO A r A' x := by
  obtain ⟨u0, u1, rfl, g0, g1⟩ := suiteS_open h
  obtain ⟨a0, c0, rfl, _, _⟩ := g0.slice
  obtain ⟨a1, c1, rfl, _, _⟩ := g1.slice
  have hl0 := hs.l0
  have hl1 := hs.l1
  refine acalls Try.func124 rfl (by kernel_rfl) ?_
  simp (disch := omega) only [↓stp, vls, inf, frs, mark_eq, ↓reduceIte, Nat.reduceEqDiff, ite_tt, ite_ff, eq_self, and_true, true_and, and_self, implies_true, Bool.true_eq_false, Bool.false_eq_true, decide_true, decide_false, decide_eq_true_eq, decide_eq_false_iff_not, ne_eq, not_true_eq_false, not_false_eq_true, Bool.not_eq_true', Bool.not_eq_false', beq_self_eq_true, Bool.not_true, Bool.not_false, List.getElem?_toArray, List.getElem?_cons_zero, List.getElem?_cons_succ]
  refine led_box (Led.nil A) rfl fun q1 V he l => ?_
  simp (disch := omega) only [↓stp, vls, inf, frs, mark_eq, ↓reduceIte, Nat.reduceEqDiff, ite_tt, ite_ff, eq_self, and_true, true_and, and_self, implies_true, Bool.true_eq_false, Bool.false_eq_true, decide_true, decide_false, decide_eq_true_eq, decide_eq_false_iff_not, ne_eq, not_true_eq_false, not_false_eq_true, Bool.not_eq_true', Bool.not_eq_false', beq_self_eq_true, Bool.not_true, Bool.not_false, List.getElem?_toArray, List.getElem?_cons_zero, List.getElem?_cons_succ]
  refine led_alloc zc26 l fun q2 V he l => ?_
  simp (disch := omega) only [↓stp, vls, inf, frs, mark_eq, ↓reduceIte, Nat.reduceEqDiff, ite_tt, ite_ff, eq_self, and_true, true_and, and_self, implies_true, Bool.true_eq_false, Bool.false_eq_true, decide_true, decide_false, decide_eq_true_eq, decide_eq_false_iff_not, ne_eq, not_true_eq_false, not_false_eq_true, Bool.not_eq_true', Bool.not_eq_false', beq_self_eq_true, Bool.not_true, Bool.not_false, List.getElem?_toArray, List.getElem?_cons_zero, List.getElem?_cons_succ]
  refine led_lit0 (O := fixtureO) li23 l fun b1 V _ l => ?_
  simp (disch := omega) only [↓stp, vls, inf, frs, mark_eq, ↓reduceIte, Nat.reduceEqDiff, ite_tt, ite_ff, eq_self, and_true, true_and, and_self, implies_true, Bool.true_eq_false, Bool.false_eq_true, decide_true, decide_false, decide_eq_true_eq, decide_eq_false_iff_not, ne_eq, not_true_eq_false, not_false_eq_true, Bool.not_eq_true', Bool.not_eq_false', beq_self_eq_true, Bool.not_true, Bool.not_false, List.getElem?_toArray, List.getElem?_cons_zero, List.getElem?_cons_succ]
  refine led_lit0 (O := testO) li24 l fun b2 V _ l => ?_
  simp (disch := omega) only [↓stp, vls, inf, frs, mark_eq, ↓reduceIte, Nat.reduceEqDiff, ite_tt, ite_ff, eq_self, and_true, true_and, and_self, implies_true, Bool.true_eq_false, Bool.false_eq_true, decide_true, decide_false, decide_eq_true_eq, decide_eq_false_iff_not, ne_eq, not_true_eq_false, not_false_eq_true, Bool.not_eq_true', Bool.not_eq_false', beq_self_eq_true, Bool.not_true, Bool.not_false, List.getElem?_toArray, List.getElem?_cons_zero, List.getElem?_cons_succ]
  refine led_alloc zc26 l fun q3 V he l => ?_
  simp (disch := omega) only [↓stp, vls, inf, frs, mark_eq, ↓reduceIte, Nat.reduceEqDiff, ite_tt, ite_ff, eq_self, and_true, true_and, and_self, implies_true, Bool.true_eq_false, Bool.false_eq_true, decide_true, decide_false, decide_eq_true_eq, decide_eq_false_iff_not, ne_eq, not_true_eq_false, not_false_eq_true, Bool.not_eq_true', Bool.not_eq_false', beq_self_eq_true, Bool.not_true, Bool.not_false, List.getElem?_toArray, List.getElem?_cons_zero, List.getElem?_cons_succ]
  refine led_storeAll l 0 rfl sz26 rfl rfl (by simp [Value.oneCell']) fun V6 l => ?_
  simp (disch := omega) only [↓stp, vls, inf, frs, mark_eq, ↓reduceIte, Nat.reduceEqDiff, ite_tt, ite_ff, eq_self, and_true, true_and, and_self, implies_true, Bool.true_eq_false, Bool.false_eq_true, decide_true, decide_false, decide_eq_true_eq, decide_eq_false_iff_not, ne_eq, not_true_eq_false, not_false_eq_true, Bool.not_eq_true', Bool.not_eq_false', beq_self_eq_true, Bool.not_true, Bool.not_false, List.getElem?_toArray, List.getElem?_cons_zero, List.getElem?_cons_succ]
  have l0 : Led A [osl 33 fixtureO [b1] (.slice (some ⟨b1, 0, none⟩) 0 0) [], osl 43 testO [b2] (.slice (some ⟨b2, 0, none⟩) 0 0) [], bx q3 ⟨26, [.slice (some ⟨b1, 0, none⟩) 0 0, .slice (some ⟨b2, 0, none⟩) 0 0], 2, true⟩, bx q2 ⟨26, [.slice none 0 0, .slice none 0 0], 2, true⟩, bx q1 ⟨26, [.slice a0 x.1.length c0, .slice a1 x.2.1.length c1], 2, true⟩] V6 := l.perm (((List.Perm.swap ..).cons _).trans ((List.Perm.swap ..).trans ((List.Perm.swap ..).cons _))).symm
  clear l
  refine aloop (fun d fr V => ∃ (i : Nat) (fp : List Nat) (w : Value), i ≤ x.1.length ∧ d = x.1.length - i ∧ Led A [osl 33 fixtureO fp w (x.1.take i), osl 43 testO [b2] (.slice (some ⟨b2, 0, none⟩) 0 0) [], bx q3 ⟨26, [w, .slice (some ⟨b2, 0, none⟩) 0 0], 2, true⟩, bx q2 ⟨26, [.slice none 0 0, .slice none 0 0], 2, true⟩, bx q1 ⟨26, [.slice a0 x.1.length c0, .slice a1 x.2.1.length c1], 2, true⟩] V ∧ fr 1 = .pointer (some ⟨q1, 0, none⟩) ∧ fr 2 = .pointer (some ⟨q2, 0, none⟩) ∧ fr 3 = .pointer (some ⟨q3, 0, none⟩) ∧ fr 4 = .int .i64 i) x.1.length ⟨0, _, _, by omega, by omega, l0, by rfl, by rfl, by rfl, by rfl⟩ ?_
  clear l0 he
  rintro d fr V ⟨i, fp, w, hi, rfl, lw, h1, h2, h3, h4⟩
  have k0 := lw.cell (i := 4) rfl (o := 0) rfl rfl
  simp (disch := omega) only [↓stp, vls, inf, frs, mark_eq, ↓reduceIte, Nat.reduceEqDiff, ite_tt, ite_ff, eq_self, and_true, true_and, and_self, implies_true, Bool.true_eq_false, Bool.false_eq_true, decide_true, decide_false, decide_eq_true_eq, decide_eq_false_iff_not, ne_eq, not_true_eq_false, not_false_eq_true, Bool.not_eq_true', Bool.not_eq_false', beq_self_eq_true, Bool.not_true, Bool.not_false, List.getElem?_toArray, List.getElem?_cons_zero, List.getElem?_cons_succ, h1, h2, h3, h4, add_at, k0]
  obtain ⟨aw, cw, rfl, _, _⟩ := (show Sl fixtureS V w (x.1.take i) from OSl.toS (show OSl 33 fixtureO V fp w _ from lw.at (i := 0) rfl)).slice
  refine ⟨fun e => ?_, fun e => ?_⟩
  · have hlt : i < x.1.length := by omega
    obtain ⟨ad, u2, rfl, hclA, z1, z2, f2⟩ := g0.fixture hlt
    obtain ⟨a2, c2, rfl, _, _⟩ := f2.slice
    have hss := hs.s0 _ (List.getElem_mem hlt)
    have l := lw
    have hcl := l.ext.part hclA
    simp (disch := omega) only [↓stp, vls, inf, frs, mark_eq, ↓reduceIte, Nat.reduceEqDiff, ite_tt, ite_ff, eq_self, and_true, true_and, and_self, implies_true, Bool.true_eq_false, Bool.false_eq_true, decide_true, decide_false, decide_eq_true_eq, decide_eq_false_iff_not, ne_eq, not_true_eq_false, not_false_eq_true, Bool.not_eq_true', Bool.not_eq_false', beq_self_eq_true, Bool.not_true, Bool.not_false, List.getElem?_toArray, List.getElem?_cons_zero, List.getElem?_cons_succ, h1, h2, h3, h4, add_at, k0, hcl]
    refine led_alloc zc33 l fun q5 V5 he5 l => ?_
    simp (disch := omega) only [↓stp, vls, inf, frs, mark_eq, ↓reduceIte, Nat.reduceEqDiff, ite_tt, ite_ff, eq_self, and_true, true_and, and_self, implies_true, Bool.true_eq_false, Bool.false_eq_true, decide_true, decide_false, decide_eq_true_eq, decide_eq_false_iff_not, ne_eq, not_true_eq_false, not_false_eq_true, Bool.not_eq_true', Bool.not_eq_false', beq_self_eq_true, Bool.not_true, Bool.not_false, List.getElem?_toArray, List.getElem?_cons_zero, List.getElem?_cons_succ, h1, h2, h3, h4]
    refine led_storeAll l 0 rfl sz33 rfl rfl (by simp [Value.oneCell']) fun V6 l => ?_
    simp (disch := omega) only [↓stp, vls, inf, frs, mark_eq, ↓reduceIte, Nat.reduceEqDiff, ite_tt, ite_ff, eq_self, and_true, true_and, and_self, implies_true, Bool.true_eq_false, Bool.false_eq_true, decide_true, decide_false, decide_eq_true_eq, decide_eq_false_iff_not, ne_eq, not_true_eq_false, not_false_eq_true, Bool.not_eq_true', Bool.not_eq_false', beq_self_eq_true, Bool.not_true, Bool.not_false, List.getElem?_toArray, List.getElem?_cons_zero, List.getElem?_cons_succ, h1, h2, h3, h4]
    refine led_lit0 (O := strO) li31 l fun b3 V he l => ?_
    have m2 := l.cell (i := 1) rfl (o := 2) rfl rfl
    simp (disch := omega) only [↓stp, vls, inf, frs, mark_eq, ↓reduceIte, Nat.reduceEqDiff, ite_tt, ite_ff, eq_self, and_true, true_and, and_self, implies_true, Bool.true_eq_false, Bool.false_eq_true, decide_true, decide_false, decide_eq_true_eq, decide_eq_false_iff_not, ne_eq, not_true_eq_false, not_false_eq_true, Bool.not_eq_true', Bool.not_eq_false', beq_self_eq_true, Bool.not_true, Bool.not_false, List.getElem?_toArray, List.getElem?_cons_zero, List.getElem?_cons_succ, h1, h2, h3, h4, add_at, m2]
    refine led_app (O := strO) ap31_31 (by decide) l (i := 0) rfl (Sl.srcOf (f2.mono l.ext)) (by have : (x.1[i]).2.2.1.length ≤ 1024 := hss; rw [List.length_nil]; omega) fun fa wa V7 _ l => ?_
    rw [List.nil_append] at l
    obtain ⟨ar, cr, rfl, _, _⟩ := (OSl.toS (show OSl 9 strO V7 fa wa _ from l.at (i := 0) rfl)).slice
    simp (disch := omega) only [↓stp, vls, inf, frs, mark_eq, ↓reduceIte, Nat.reduceEqDiff, ite_tt, ite_ff, eq_self, and_true, true_and, and_self, implies_true, Bool.true_eq_false, Bool.false_eq_true, decide_true, decide_false, decide_eq_true_eq, decide_eq_false_iff_not, ne_eq, not_true_eq_false, not_false_eq_true, Bool.not_eq_true', Bool.not_eq_false', beq_self_eq_true, Bool.not_true, Bool.not_false, List.getElem?_toArray, List.getElem?_cons_zero, List.getElem?_cons_succ, h1, h2, h3, h4, add_at]
    refine led_store l 1 rfl sz31 (by rfl) (by rfl) (by rfl) fun V9 l => ?_
    have w0 := l.cell (i := 4) rfl (o := 0) rfl rfl
    have kt : V9.part ⟨q5, 0, none⟩ 4 = some [.string (x.1[i]).1, .int .i64 (x.1[i]).2.1, .slice ar (x.1[i]).2.2.1.length cr, .bool (x.1[i]).2.2.2.1] := l.part (i := 1) rfl rfl
    simp (disch := omega) only [↓stp, vls, inf, frs, mark_eq, ↓reduceIte, Nat.reduceEqDiff, ite_tt, ite_ff, eq_self, and_true, true_and, and_self, implies_true, Bool.true_eq_false, Bool.false_eq_true, decide_true, decide_false, decide_eq_true_eq, decide_eq_false_iff_not, ne_eq, not_true_eq_false, not_false_eq_true, Bool.not_eq_true', Bool.not_eq_false', beq_self_eq_true, Bool.not_true, Bool.not_false, List.getElem?_toArray, List.getElem?_cons_zero, List.getElem?_cons_succ, h1, h2, h3, h4, add_at, w0, kt]
    have l2 := l.upd (i := 0) (jt := oc fixtureO fa x.1[i] [.string (x.1[i]).1, .int .i64 (x.1[i]).2.1, .slice ar (x.1[i]).2.2.1.length cr, .bool (x.1[i]).2.2.2.1]) rfl rfl (Only.refl _ _) (show fixtureO.rel V9 fa x.1[i] _ from fixtureO_mk z1 z2 (l.at (i := 0) rfl))
    refine led_lit li23 (by omega) rfl (fun p hp => by rcases List.mem_singleton.1 hp with rfl; exact ⟨rfl, rfl⟩) l2 fun bl V11 _ l => ?_
    simp (disch := omega) only [↓stp, vls, inf, frs, mark_eq, ↓reduceIte, Nat.reduceEqDiff, ite_tt, ite_ff, eq_self, and_true, true_and, and_self, implies_true, Bool.true_eq_false, Bool.false_eq_true, decide_true, decide_false, decide_eq_true_eq, decide_eq_false_iff_not, ne_eq, not_true_eq_false, not_false_eq_true, Bool.not_eq_true', Bool.not_eq_false', beq_self_eq_true, Bool.not_true, Bool.not_false, List.getElem?_toArray, List.getElem?_cons_zero, List.getElem?_cons_succ, h1, h2, h3, h4]
    refine led_appO (O := fixtureO) ap23_23 (by decide) l (i := 1) rfl (by rw [List.length_take]; omega) fun fp' w' V12 _ l => ?_
    rw [← List.take_succ_eq_append_getElem hlt] at l
    obtain ⟨aw', cw', rfl, _, _⟩ := (show Sl fixtureS V12 w' (x.1.take (i + 1)) from OSl.toS (show OSl 33 fixtureO V12 fp' w' _ from l.at (i := 1) rfl)).slice
    simp (disch := omega) only [↓stp, vls, inf, frs, mark_eq, ↓reduceIte, Nat.reduceEqDiff, ite_tt, ite_ff, eq_self, and_true, true_and, and_self, implies_true, Bool.true_eq_false, Bool.false_eq_true, decide_true, decide_false, decide_eq_true_eq, decide_eq_false_iff_not, ne_eq, not_true_eq_false, not_false_eq_true, Bool.not_eq_true', Bool.not_eq_false', beq_self_eq_true, Bool.not_true, Bool.not_false, List.getElem?_toArray, List.getElem?_cons_zero, List.getElem?_cons_succ, h1, h2, h3, h4, add_at]
    refine led_store l 3 rfl sz23 (by rfl) (by rfl) (by rfl) fun V13 l => ?_
    simp (disch := omega) only [↓stp, vls, inf, frs, mark_eq, ↓reduceIte, Nat.reduceEqDiff, ite_tt, ite_ff, eq_self, and_true, true_and, and_self, implies_true, Bool.true_eq_false, Bool.false_eq_true, decide_true, decide_false, decide_eq_true_eq, decide_eq_false_iff_not, ne_eq, not_true_eq_false, not_false_eq_true, Bool.not_eq_true', Bool.not_eq_false', beq_self_eq_true, Bool.not_true, Bool.not_false, List.getElem?_toArray, List.getElem?_cons_zero, List.getElem?_cons_succ, h1, h2, h3, h4]
    exact ⟨_, by omega, i + 1, _, _, by omega, rfl, l.tail, rfl⟩
  · have l := lw
    rw [List.take_of_length_le (by omega)] at l
    simp (disch := omega) only [↓stp, vls, inf, frs, mark_eq, ↓reduceIte, Nat.reduceEqDiff, ite_tt, ite_ff, eq_self, and_true, true_and, and_self, implies_true, Bool.true_eq_false, Bool.false_eq_true, decide_true, decide_false, decide_eq_true_eq, decide_eq_false_iff_not, ne_eq, not_true_eq_false, not_false_eq_true, Bool.not_eq_true', Bool.not_eq_false', beq_self_eq_true, Bool.not_true, Bool.not_false, List.getElem?_toArray, List.getElem?_cons_zero, List.getElem?_cons_succ, h1, h2, h3, h4]
    refine aloop (fun d fr V => ∃ (i : Nat) (fq : List Nat) (w1 : Value), i ≤ x.2.1.length ∧ d = x.2.1.length - i ∧ Led A [osl 43 testO fq w1 (x.2.1.take i), osl 33 fixtureO fp (.slice aw x.1.length cw) x.1, bx q3 ⟨26, [.slice aw x.1.length cw, w1], 2, true⟩, bx q2 ⟨26, [.slice none 0 0, .slice none 0 0], 2, true⟩, bx q1 ⟨26, [.slice a0 x.1.length c0, .slice a1 x.2.1.length c1], 2, true⟩] V ∧ fr 1 = .pointer (some ⟨q1, 0, none⟩) ∧ fr 2 = .pointer (some ⟨q2, 0, none⟩) ∧ fr 3 = .pointer (some ⟨q3, 0, none⟩) ∧ fr 6 = .int .i64 i) x.2.1.length ⟨0, _, _, by omega, by omega, l.perm (List.Perm.swap ..), h1, h2, h3, by rfl⟩ ?_
    clear l lw h1 h2 h3 h4 k0
    rintro d fr V ⟨j, fq, w1, hj, rfl, lw, h1, h2, h3, h6⟩
    obtain ⟨at1, ct1, rfl, _, _⟩ := (show Sl testS V w1 (x.2.1.take j) from OSl.toS (show OSl 43 testO V fq w1 _ from lw.at (i := 0) rfl)).slice
    have k1 := lw.cell (i := 4) rfl (o := 1) rfl rfl
    simp (disch := omega) only [↓stp, vls, inf, frs, mark_eq, ↓reduceIte, Nat.reduceEqDiff, ite_tt, ite_ff, eq_self, and_true, true_and, and_self, implies_true, Bool.true_eq_false, Bool.false_eq_true, decide_true, decide_false, decide_eq_true_eq, decide_eq_false_iff_not, ne_eq, not_true_eq_false, not_false_eq_true, Bool.not_eq_true', Bool.not_eq_false', beq_self_eq_true, Bool.not_true, Bool.not_false, List.getElem?_toArray, List.getElem?_cons_zero, List.getElem?_cons_succ, h1, h2, h3, h6, add_at, k1]
    refine ⟨fun e1 => ?_, fun e1 => ?_⟩
    · have hlt : j < x.2.1.length := by omega
      obtain ⟨ad, u2, u3, rfl, hclA, z1, z2, f2, f3⟩ := g1.test hlt
      have l := lw
      have hcl := l.ext.part hclA
      have w1c := l.cell (i := 2) rfl (o := 1) rfl rfl
      simp (disch := omega) only [↓stp, vls, inf, frs, mark_eq, ↓reduceIte, Nat.reduceEqDiff, ite_tt, ite_ff, eq_self, and_true, true_and, and_self, implies_true, Bool.true_eq_false, Bool.false_eq_true, decide_true, decide_false, decide_eq_true_eq, decide_eq_false_iff_not, ne_eq, not_true_eq_false, not_false_eq_true, Bool.not_eq_true', Bool.not_eq_false', beq_self_eq_true, Bool.not_true, Bool.not_false, List.getElem?_toArray, List.getElem?_cons_zero, List.getElem?_cons_succ, h1, h2, h3, h6]
      refine adraw_items [.q 0, .l 1 true, .q 2, .l 3 false, .q 4, .q 5, .l 6 false, .c 7 [1], .c 8 [], .c 9 [], .q 10, .c 11 []] (by kernel_rfl) (by kernel_rfl) ?_
      simp (disch := omega) only [↓stp, ↓pln, plv, nilOk, Nat.reduceBEq, Bool.or_false, Bool.or_true, Bool.false_or, Bool.true_or, vls, inf, frs, mark_eq, ↓reduceIte, Nat.reduceEqDiff, ite_tt, ite_ff, eq_self, and_true, true_and, and_self, implies_true, Bool.true_eq_false, Bool.false_eq_true, decide_true, decide_false, decide_eq_true_eq, decide_eq_false_iff_not, ne_eq, not_true_eq_false, not_false_eq_true, Bool.not_eq_true', Bool.not_eq_false', beq_self_eq_true, Bool.not_true, Bool.not_false, List.getElem?_toArray, List.getElem?_cons_zero, List.getElem?_cons_succ, h1, h2, h3, h6, add_at, k1, w1c, hcl]
      refine (spec_copyTest_c V _ x.2.1[j] (testS_mk z1 z2 (f2.mono l.ext) (f3.mono l.ext)) (hs.s1 _ (List.getElem_mem hlt))).mono ?_
      rintro _ V2 ⟨fd, cells, rfl, l1⟩
      obtain ⟨ff2, uu2, ff3, uu3, rfl, rfl, _, _, o2, o3⟩ := testO_open (show testO.rel V2 fd x.2.1[j] cells from l1.at (i := 0) rfl)
      obtain ⟨a2, c2, rfl, _, _⟩ := o2.toS.slice
      obtain ⟨a3, c3, rfl, _, _⟩ := o3.toS.slice
      replace l := l.append l1
      have k1 := l.cell (i := 5) rfl (o := 1) rfl rfl
      have hcl := l.ext.part hclA
      have w1c := l.cell (i := 3) rfl (o := 1) rfl rfl
      simp (disch := omega) only [↓stp, ↓pln, plv, nilOk, Nat.reduceBEq, Bool.or_false, Bool.or_true, Bool.false_or, Bool.true_or, vls, inf, frs, mark_eq, ↓reduceIte, Nat.reduceEqDiff, ite_tt, ite_ff, eq_self, and_true, true_and, and_self, implies_true, Bool.true_eq_false, Bool.false_eq_true, decide_true, decide_false, decide_eq_true_eq, decide_eq_false_iff_not, ne_eq, not_true_eq_false, not_false_eq_true, Bool.not_eq_true', Bool.not_eq_false', beq_self_eq_true, Bool.not_true, Bool.not_false, List.getElem?_toArray, List.getElem?_cons_zero, List.getElem?_cons_succ, h1, h2, h3, h6, add_at, k1, w1c, hcl]
      refine led_lit li24 (by omega) rfl (fun p hp => by rcases List.mem_singleton.1 hp with rfl; exact ⟨rfl, rfl⟩) l fun bl V11 _ l => ?_
      have k1 := l.cell (i := 6) rfl (o := 1) rfl rfl
      have hcl := l.ext.part hclA
      have w1c := l.cell (i := 4) rfl (o := 1) rfl rfl
      simp (disch := omega) only [↓stp, ↓pln, plv, nilOk, Nat.reduceBEq, Bool.or_false, Bool.or_true, Bool.false_or, Bool.true_or, vls, inf, frs, mark_eq, ↓reduceIte, Nat.reduceEqDiff, ite_tt, ite_ff, eq_self, and_true, true_and, and_self, implies_true, Bool.true_eq_false, Bool.false_eq_true, decide_true, decide_false, decide_eq_true_eq, decide_eq_false_iff_not, ne_eq, not_true_eq_false, not_false_eq_true, Bool.not_eq_true', Bool.not_eq_false', beq_self_eq_true, Bool.not_true, Bool.not_false, List.getElem?_toArray, List.getElem?_cons_zero, List.getElem?_cons_succ, h1, h2, h3, h6, add_at, k1, w1c, hcl, false_implies]
      refine led_appO (O := testO) ap24_24 (by decide) l (i := 0) rfl (by rw [List.length_take]; omega) fun fp' w' V12 _ l => ?_
      rw [← List.take_succ_eq_append_getElem hlt] at l
      obtain ⟨aw', cw', rfl, _, _⟩ := (show Sl testS V12 w' (x.2.1.take (j + 1)) from OSl.toS (show OSl 43 testO V12 fp' w' _ from l.at (i := 0) rfl)).slice
      have k1 := l.cell (i := 4) rfl (o := 1) rfl rfl
      have hcl := l.ext.part hclA
      have w1c := l.cell (i := 2) rfl (o := 1) rfl rfl
      simp (disch := omega) only [↓stp, ↓pln, plv, nilOk, Nat.reduceBEq, Bool.or_false, Bool.or_true, Bool.false_or, Bool.true_or, vls, inf, frs, mark_eq, ↓reduceIte, Nat.reduceEqDiff, ite_tt, ite_ff, eq_self, and_true, true_and, and_self, implies_true, Bool.true_eq_false, Bool.false_eq_true, decide_true, decide_false, decide_eq_true_eq, decide_eq_false_iff_not, ne_eq, not_true_eq_false, not_false_eq_true, Bool.not_eq_true', Bool.not_eq_false', beq_self_eq_true, Bool.not_true, Bool.not_false, List.getElem?_toArray, List.getElem?_cons_zero, List.getElem?_cons_succ, h1, h2, h3, h6, add_at, k1, w1c, hcl, false_implies]
      refine led_store l 2 rfl sz24 (by rfl) (by rfl) (by rfl) fun V13 l => ?_
      have k1 := l.cell (i := 4) rfl (o := 1) rfl rfl
      have hcl := l.ext.part hclA
      have w1c := l.cell (i := 2) rfl (o := 1) rfl rfl
      simp (disch := omega) only [↓stp, ↓pln, plv, nilOk, Nat.reduceBEq, Bool.or_false, Bool.or_true, Bool.false_or, Bool.true_or, vls, inf, frs, mark_eq, ↓reduceIte, Nat.reduceEqDiff, ite_tt, ite_ff, eq_self, and_true, true_and, and_self, implies_true, Bool.true_eq_false, Bool.false_eq_true, decide_true, decide_false, decide_eq_true_eq, decide_eq_false_iff_not, ne_eq, not_true_eq_false, not_false_eq_true, Bool.not_eq_true', Bool.not_eq_false', beq_self_eq_true, Bool.not_true, Bool.not_false, List.getElem?_toArray, List.getElem?_cons_zero, List.getElem?_cons_succ, h1, h2, h3, h6, add_at, k1, w1c, hcl, false_implies]
      exact ⟨_, by omega, j + 1, _, _, by omega, rfl, l, rfl⟩
    · have l := lw
      rw [List.take_of_length_le (by omega)] at l
      have kp : V.part ⟨q3, 0, none⟩ 2 = some _ := l.part (i := 2) rfl rfl
      simp (disch := omega) only [↓stp, vls, inf, frs, mark_eq, ↓reduceIte, Nat.reduceEqDiff, ite_tt, ite_ff, eq_self, and_true, true_and, and_self, implies_true, Bool.true_eq_false, Bool.false_eq_true, decide_true, decide_false, decide_eq_true_eq, decide_eq_false_iff_not, ne_eq, not_true_eq_false, not_false_eq_true, Bool.not_eq_true', Bool.not_eq_false', beq_self_eq_true, Bool.not_true, Bool.not_false, List.getElem?_toArray, List.getElem?_cons_zero, List.getElem?_cons_succ, h1, h2, h3, h6, kp]
      refine led_storeAll l 3 rfl sz26 rfl rfl (by simp [Value.oneCell']) fun V6 l => ?_
      have kp : V6.part ⟨q2, 0, none⟩ 2 = some _ := l.part (i := 3) rfl rfl
      simp (disch := omega) only [↓stp, vls, inf, frs, mark_eq, ↓reduceIte, Nat.reduceEqDiff, ite_tt, ite_ff, eq_self, and_true, true_and, and_self, implies_true, Bool.true_eq_false, Bool.false_eq_true, decide_true, decide_false, decide_eq_true_eq, decide_eq_false_iff_not, ne_eq, not_true_eq_false, not_false_eq_true, Bool.not_eq_true', Bool.not_eq_false', beq_self_eq_true, Bool.not_true, Bool.not_false, List.getElem?_toArray, List.getElem?_cons_zero, List.getElem?_cons_succ, h1, h2, h3, h6, kp]
      exact ⟨_, _, rfl, (l.sub (.cons_cons _ (.cons_cons _ (List.nil_sublist _)))).join2 (jt := oc suiteO (fp ++ fq) x _) rfl (show suiteO.rel V6 (fp ++ fq) x _ from suiteO_mk (l.at (i := 1) rfl) (l.at (i := 0) rfl))⟩

end Go.Proofs.Ytjiioedohbbceaa

