/- Part 6 of the proof: its texts, one behind the other. -/
import Derived.Test.YtggklaimbklefaaJPlanText5
import Derived.Test.YtggklaimbklefaaJPlanText3

/- Plans: the reference's plan. -/
set_option maxHeartbeats 4000000
set_option synthInstance.maxHeartbeats 400000
set_option synthInstance.maxSize 4096
set_option linter.unusedSimpArgs false
set_option linter.unusedVariables false
namespace Go.Proofs.Ytggklaimbklefaa

set_option maxRecDepth 100000

/-- A choice after which all goes on alike. -/
theorem abr_cut {P : Program} {c d : Prop} {c1 c2 : Code} {k : Fr → View → Prop} {K : Post} {fr1 fr2 : Fr} {A : View} (Q : Fr → View → Prop) (h1 : c → awp P c1 (fun e fr A => e = .normal ∧ Q fr A) fr1 A) (h2 : d → awp P c2 (fun e fr A => e = .normal ∧ Q fr A) fr2 A) (h3 : ∀ fr A, Q fr A → k fr A) : abr c (awp P c1 (seqK k K) fr1 A) ∧ abr d (awp P c2 (seqK k K) fr2 A) := by
  have key : ∀ e fr A, (e = .normal ∧ Q fr A) → seqK k K e fr A := by
    rintro e fr A ⟨rfl, h⟩
    exact h3 fr A h
  exact ⟨fun e => awp_mono c1 key fr1 A (h1 e), fun e => awp_mono c2 key fr2 A (h2 e)⟩
theorem draw_cut {P : Program} {id : Nat} {ops : Array Oper} {y : Code} {R : Fr → View → Prop} {K1 K2 : Post} {fr : Fr} {A : View} (Q : Fr → View → Prop) (h1 : ADraw P id ops (fun fr A => awp P y (fun e fr A => e = .normal ∧ Q fr A) fr A) fr A) (h2 : ∀ fr A, Q fr A → R fr A) : ADraw P id ops (seqK (awp P y (seqK R K1)) K2 .normal) fr A :=
  awp_mono (.region id ops true) (K := fun e fr A => match e with
    | .normal => awp P y (fun e fr A => e = .normal ∧ Q fr A) fr A
    | _ => False) (fun e fr A h => by
    cases e <;> first
      | exact awp_mono y (fun e fr A h => by
          obtain ⟨rfl, h⟩ := h
          exact h2 fr A h) fr A h
      | exact h.elim) fr A h1

def genE (e : EventD) : Prop := -1 ≤ e.1 ∧ e.1 ≤ 3 ∧ e.2.1.size ≤ 300
theorem genE_app {xs ys : List EventD} (h : ∀ e, e ∈ xs → genE e) (h' : ∀ e, e ∈ ys → genE e) : ∀ e, e ∈ xs ++ ys → genE e := fun e he => (List.mem_append.1 he).elim (h e) (h' e)
theorem has_size {x : SuiteD} (hg : GenS x) {a : ByteArray} (ha : hasF x.1 a) : a.size ≤ 100 := by
  obtain ⟨f, hf, rfl⟩ := List.mem_map.1 ha
  exact (hg.s0 f hf).1
theorem genE_down {x : SuiteD} (hg : GenS x) {ls : List ByteArray} (h : ∀ a, a ∈ ls → hasF x.1 a) : ∀ e, e ∈ downR ls → genE e := fun e he => by
  unfold downR at he
  obtain ⟨a, ha, rfl⟩ := List.mem_map.1 he
  have := has_size hg (h a (List.mem_reverse.1 ha))
  exact ⟨by show (-1 : Int) ≤ 1; omega, by show (1 : Int) ≤ 3; omega, by show a.size ≤ 300; omega⟩
theorem downR_len (ls : List ByteArray) : (downR ls).length = ls.length := by
  unfold downR
  rw [List.length_map, List.length_reverse]
theorem Names.filter {fs : List FixtureD} {ls : List ByteArray} (h : Names fs ls) (p : ByteArray → Bool) : Names fs (ls.filter p) := ⟨List.filter_sublist.nodup h.1, fun a ha => h.2 a (List.mem_filter.1 ha).1⟩

theorem spec_planOf_c (A : View) (d : List Value) (x : SuiteD) (hx : suiteS.rel A x d) (hg : GenS x) : ACalls Try.prog 20 #[.agg d.toArray] A fun r V => ∃ es, es.length ≤ 410 ∧ (∀ e, e ∈ es → genE e) ∧ NewSl 56 eventO A r V es := by
  obtain ⟨u0, u1, rfl, g0, g1⟩ := suiteS_open hx
  obtain ⟨a0, c0, rfl, _, _⟩ := g0.slice
  obtain ⟨a1, c1, rfl, _, _⟩ := g1.slice
  have hl0 := hg.l0
  have hl1 := hg.l1
  have hNl : ∀ {ls : List ByteArray}, Names x.1 ls → ls.length ≤ 6 := fun h => Nat.le_trans h.len hl0
  refine acalls Try.func20 rfl (by kernel_rfl) ?_
  simp (disch := omega) only [↓stq, amv_at, vls, inf, frs, mark_eq, ↓reduceIte, Nat.reduceEqDiff, ite_tt, ite_ff, eq_self, and_true, true_and, and_self, implies_true, Bool.true_eq_false, Bool.false_eq_true, decide_true, decide_false, decide_eq_true_eq, decide_eq_false_iff_not, ne_eq, not_true_eq_false, not_false_eq_true, Bool.not_eq_true', Bool.not_eq_false', beq_self_eq_true, Bool.not_true, Bool.not_false, List.getElem?_toArray, List.getElem?_cons_zero, List.getElem?_cons_succ]
  refine led_box (Led.nil A) rfl fun q1 V _ l => ?_
  simp (disch := omega) only [↓stq, amv_at, vls, inf, frs, mark_eq, ↓reduceIte, Nat.reduceEqDiff, ite_tt, ite_ff, eq_self, and_true, true_and, and_self, implies_true, Bool.true_eq_false, Bool.false_eq_true, decide_true, decide_false, decide_eq_true_eq, decide_eq_false_iff_not, ne_eq, not_true_eq_false, not_false_eq_true, Bool.not_eq_true', Bool.not_eq_false', beq_self_eq_true, Bool.not_true, Bool.not_false, List.getElem?_toArray, List.getElem?_cons_zero, List.getElem?_cons_succ]
  refine led_lit0 (O := eventO) li24 l fun be V _ l => ?_
  simp (disch := omega) only [↓stq, amv_at, vls, inf, frs, mark_eq, ↓reduceIte, Nat.reduceEqDiff, ite_tt, ite_ff, eq_self, and_true, true_and, and_self, implies_true, Bool.true_eq_false, Bool.false_eq_true, decide_true, decide_false, decide_eq_true_eq, decide_eq_false_iff_not, ne_eq, not_true_eq_false, not_false_eq_true, Bool.not_eq_true', Bool.not_eq_false', beq_self_eq_true, Bool.not_true, Bool.not_false, List.getElem?_toArray, List.getElem?_cons_zero, List.getElem?_cons_succ]
  refine led_lit0 (O := strO) li54 l fun bl V _ l => ?_
  simp (disch := omega) only [↓stq, amv_at, vls, inf, frs, mark_eq, ↓reduceIte, Nat.reduceEqDiff, ite_tt, ite_ff, eq_self, and_true, true_and, and_self, implies_true, Bool.true_eq_false, Bool.false_eq_true, decide_true, decide_false, decide_eq_true_eq, decide_eq_false_iff_not, ne_eq, not_true_eq_false, not_false_eq_true, Bool.not_eq_true', Bool.not_eq_false', beq_self_eq_true, Bool.not_true, Bool.not_false, List.getElem?_toArray, List.getElem?_cons_zero, List.getElem?_cons_succ]
  refine aloop (fun d fr V => ∃ (i : Nat) (fe : List Nat) (we : Value) (es : List EventD) (fl : List Nat) (wl : Value) (ls : List ByteArray), i ≤ x.2.1.length ∧ d = x.2.1.length - i ∧ Led A [osl 56 eventO fe we es, osl 9 strO fl wl ls, bx q1 ⟨41, [.slice a0 x.1.length c0, .slice a1 x.2.1.length c1], 2, true⟩] V ∧ es.length ≤ 40 * i ∧ (∀ e, e ∈ es → genE e) ∧ Names x.1 ls ∧ fr 1 = .pointer (some ⟨q1, 0, none⟩) ∧ fr 3 = we ∧ fr 4 = wl ∧ fr 5 = .int .i64 i) x.2.1.length ⟨0, _, _, _, _, _, _, by omega, by omega, l.perm (List.Perm.swap ..), by simp, by simp, names_nil _, by rfl, by rfl, by rfl, by rfl⟩ ?_
  clear l
  rintro d fr V ⟨i, fe, we, es, fl, wl, ls, hi, rfl, l, hel, hge, hN, h1, h3, h4, h5⟩
  have k1 := l.cell (i := 2) rfl (o := 1) rfl rfl
  simp (disch := omega) only [↓stq, amv_at, vls, inf, frs, mark_eq, ↓reduceIte, Nat.reduceEqDiff, ite_tt, ite_ff, eq_self, and_true, true_and, and_self, implies_true, Bool.true_eq_false, Bool.false_eq_true, decide_true, decide_false, decide_eq_true_eq, decide_eq_false_iff_not, ne_eq, not_true_eq_false, not_false_eq_true, Bool.not_eq_true', Bool.not_eq_false', beq_self_eq_true, Bool.not_true, Bool.not_false, List.getElem?_toArray, List.getElem?_cons_zero, List.getElem?_cons_succ, h1, h3, h4, h5, add_at, k1]
  refine ⟨fun e1 => ?_, fun e1 => ?_⟩
  · have hlt : i < x.2.1.length := by omega
    obtain ⟨ad, u2, u3, rfl, hclA, z1, z2, f2, f3⟩ := g1.test hlt
    obtain ⟨a2, c2, rfl, _, _⟩ := f2.slice
    obtain ⟨a3, c3, rfl, _, _⟩ := f3.slice
    have hgt := hg.s1 _ (List.getElem_mem hlt)
    have hcl := l.ext.part hclA
    simp (disch := omega) only [↓stq, amv_at, vls, inf, frs, mark_eq, ↓reduceIte, Nat.reduceEqDiff, ite_tt, ite_ff, eq_self, and_true, true_and, and_self, implies_true, Bool.true_eq_false, Bool.false_eq_true, decide_true, decide_false, decide_eq_true_eq, decide_eq_false_iff_not, ne_eq, not_true_eq_false, not_false_eq_true, Bool.not_eq_true', Bool.not_eq_false', beq_self_eq_true, Bool.not_true, Bool.not_false, List.getElem?_toArray, List.getElem?_cons_zero, List.getElem?_cons_succ, h1, h3, h4, h5, add_at, k1, hcl]
    refine led_alloc zc78 l fun q6 V _ l => ?_
    simp (disch := omega) only [↓stq, amv_at, vls, inf, frs, mark_eq, ↓reduceIte, Nat.reduceEqDiff, ite_tt, ite_ff, eq_self, and_true, true_and, and_self, implies_true, Bool.true_eq_false, Bool.false_eq_true, decide_true, decide_false, decide_eq_true_eq, decide_eq_false_iff_not, ne_eq, not_true_eq_false, not_false_eq_true, Bool.not_eq_true', Bool.not_eq_false', beq_self_eq_true, Bool.not_true, Bool.not_false, List.getElem?_toArray, List.getElem?_cons_zero, List.getElem?_cons_succ, h1, h3, h4, h5]
    refine led_storeAll l 0 rfl sz78 rfl rfl (by simp [Value.oneCell']) fun V l => ?_
    simp (disch := omega) only [↓stq, amv_at, vls, inf, frs, mark_eq, ↓reduceIte, Nat.reduceEqDiff, ite_tt, ite_ff, eq_self, and_true, true_and, and_self, implies_true, Bool.true_eq_false, Bool.false_eq_true, decide_true, decide_false, decide_eq_true_eq, decide_eq_false_iff_not, ne_eq, not_true_eq_false, not_false_eq_true, Bool.not_eq_true', Bool.not_eq_false', beq_self_eq_true, Bool.not_true, Bool.not_false, List.getElem?_toArray, List.getElem?_cons_zero, List.getElem?_cons_succ, h1, h3, h4, h5]
    refine draw_cut (fun fr V => ∃ (fe : List Nat) (we : Value) (es : List EventD) (fl : List Nat) (wl : Value) (ls : List ByteArray), Led A [bx q6 ⟨78, [.string (x.2.1[i]).1, .string (x.2.1[i]).2.1, .slice a2 (x.2.1[i]).2.2.1.length c2, .slice a3 (x.2.1[i]).2.2.2.1.length c3], 4, true⟩, osl 56 eventO fe we es, osl 9 strO fl wl ls, bx q1 ⟨41, [.slice a0 x.1.length c0, .slice (some ad) x.2.1.length c1], 2, true⟩] V ∧ es.length ≤ 40 * i + 6 ∧ (∀ e, e ∈ es → genE e) ∧ Names x.1 ls ∧ fr 1 = .pointer (some ⟨q1, 0, none⟩) ∧ fr 3 = we ∧ fr 4 = wl ∧ fr 5 = .int .i64 i ∧ fr 6 = .pointer (some ⟨q6, 0, none⟩)) ?_ ?_
    · refine adraw_items [.q 0, .q 1, .q 2, .q 3, .l 4 false, .q 5, .q 6, .q 7, .q 8, .l 9 false, .q 10, .l 11 false, .q 12, .q 13] (by kernel_rfl) (by kernel_rfl) ?_
      have k1 := l.cell (i := 3) rfl (o := 1) rfl rfl
      have m0 := l.cell (i := 0) rfl (o := 0) rfl rfl
      simp (disch := omega) only [↓stq, amv_at, ↓pln, plv, nilOk, Nat.reduceBEq, Bool.or_false, Bool.or_true, Bool.false_or, Bool.true_or, vls, inf, frs, mark_eq, ↓reduceIte, Nat.reduceEqDiff, ite_tt, ite_ff, eq_self, and_true, true_and, and_self, implies_true, Bool.true_eq_false, Bool.false_eq_true, decide_true, decide_false, decide_eq_true_eq, decide_eq_false_iff_not, ne_eq, not_true_eq_false, not_false_eq_true, Bool.not_eq_true', Bool.not_eq_false', beq_self_eq_true, Bool.not_true, Bool.not_false, List.getElem?_toArray, List.getElem?_cons_zero, List.getElem?_cons_succ, h1, h3, h4, h5, add_at, k1, m0]
      have same : Led A [bx q6 ⟨78, [.string (x.2.1[i]).1, .string (x.2.1[i]).2.1, .slice a2 (x.2.1[i]).2.2.1.length c2, .slice a3 (x.2.1[i]).2.2.2.1.length c3], 4, true⟩, osl 56 eventO fe we es, osl 9 strO fl wl ls, bx q1 ⟨41, [.slice a0 x.1.length c0, .slice (some ad) x.2.1.length c1], 2, true⟩] V := l
      refine ⟨fun e2 => ?_, fun e2 => ?_⟩
      · obtain ⟨_, _, _, hq, hclP, _, _, _, _⟩ := g1.test (i := i - 1) (by omega)
        obtain rfl := Option.some.inj hq
        have p0 := View.part_cell (l.ext.part hclP) (j := 0) rfl
        have hdd : ((i : Int) - 1).toNat = i - 1 := by omega
        simp (disch := omega) only [↓stq, amv_at, ↓pln, plv, nilOk, Nat.reduceBEq, Bool.or_false, Bool.or_true, Bool.false_or, Bool.true_or, vls, inf, frs, mark_eq, ↓reduceIte, Nat.reduceEqDiff, ite_tt, ite_ff, eq_self, and_true, true_and, and_self, implies_true, Bool.true_eq_false, Bool.false_eq_true, decide_true, decide_false, decide_eq_true_eq, decide_eq_false_iff_not, ne_eq, not_true_eq_false, not_false_eq_true, Bool.not_eq_true', Bool.not_eq_false', beq_self_eq_true, Bool.not_true, Bool.not_false, List.getElem?_toArray, List.getElem?_cons_zero, List.getElem?_cons_succ, h1, h3, h4, h5, e2, add_at, k1, m0, hdd, p0]
        refine ⟨fun e3 => ?_, fun e3 => ?_⟩
        · have kp : V.part ⟨q1, 0, none⟩ 2 = some [.slice a0 x.1.length c0, .slice (some ad) x.2.1.length c1] := l.part (i := 3) rfl rfl
          obtain ⟨al, cl, rfl, _, _⟩ := (OSl.toS (show OSl 9 strO V fl wl ls from l.at (i := 2) rfl)).slice
          have hNl6 := hNl hN
          simp (disch := omega) only [↓stq, amv_at, vls, inf, frs, mark_eq, ↓reduceIte, Nat.reduceEqDiff, ite_tt, ite_ff, eq_self, and_true, true_and, and_self, implies_true, Bool.true_eq_false, Bool.false_eq_true, decide_true, decide_false, decide_eq_true_eq, decide_eq_false_iff_not, ne_eq, not_true_eq_false, not_false_eq_true, Bool.not_eq_true', Bool.not_eq_false', beq_self_eq_true, Bool.not_true, Bool.not_false, List.getElem?_toArray, List.getElem?_cons_zero, List.getElem?_cons_succ, h1, h3, h4, h5, kp]
          refine (spec_liveScope_c V _ x _ ls 1 (suiteS_mk (g0.mono l.ext) (g1.mono l.ext)) (OSl.toS (l.at (i := 2) rfl)) hN.2 (by omega)).mono ?_
          rintro r7 V2 ⟨f7, l7⟩
          have hB := bucket_len x.1 ls 1
          have hBh : ∀ a, a ∈ bucket x.1 ls 1 → hasF x.1 a := fun a ha => hN.2 a (bucket_mem.1 ha).1
          generalize bucket x.1 ls 1 = bk at l7 hB hBh
          obtain ⟨a7, c7, rfl, _, _⟩ := (OSl.toS (show OSl 9 strO V2 f7 r7 bk from l7.at (i := 0) rfl)).slice
          replace l := l.append l7
          simp (disch := omega) only [↓stq, amv_at, vls, inf, frs, mark_eq, ↓reduceIte, Nat.reduceEqDiff, ite_tt, ite_ff, eq_self, and_true, true_and, and_self, implies_true, Bool.true_eq_false, Bool.false_eq_true, decide_true, decide_false, decide_eq_true_eq, decide_eq_false_iff_not, ne_eq, not_true_eq_false, not_false_eq_true, Bool.not_eq_true', Bool.not_eq_false', beq_self_eq_true, Bool.not_true, Bool.not_false, List.getElem?_toArray, List.getElem?_cons_zero, List.getElem?_cons_succ, h1, h3, h4, h5]
          refine (spec_downs_c V2 _ bk (OSl.toS (l.at (i := 0) rfl)) (by omega)).mono ?_
          rintro rd V3 ⟨fd, ld⟩
          replace l := l.append ld
          have hdl := downR_len bk
          have hdg := genE_down hg hBh
          generalize downR bk = dn at l hdl hdg
          obtain ⟨adn, cdn, rfl, _, _⟩ := (OSl.toS (show OSl 56 eventO V3 fd rd dn from l.at (i := 0) rfl)).slice
          simp (disch := omega) only [↓stq, amv_at, vls, inf, frs, mark_eq, ↓reduceIte, Nat.reduceEqDiff, ite_tt, ite_ff, eq_self, and_true, true_and, and_self, implies_true, Bool.true_eq_false, Bool.false_eq_true, decide_true, decide_false, decide_eq_true_eq, decide_eq_false_iff_not, ne_eq, not_true_eq_false, not_false_eq_true, Bool.not_eq_true', Bool.not_eq_false', beq_self_eq_true, Bool.not_true, Bool.not_false, List.getElem?_toArray, List.getElem?_cons_zero, List.getElem?_cons_succ, h1, h3, h4, h5]
          refine led_app (O := eventO) ap24_24 (by decide) l (i := 3) rfl (Sl.srcOf (OSl.toS (l.at (i := 0) rfl))) (by omega) fun fe2 we2 V4 _ l => ?_
          simp (disch := omega) only [↓stq, amv_at, vls, inf, frs, mark_eq, ↓reduceIte, Nat.reduceEqDiff, ite_tt, ite_ff, eq_self, and_true, true_and, and_self, implies_true, Bool.true_eq_false, Bool.false_eq_true, decide_true, decide_false, decide_eq_true_eq, decide_eq_false_iff_not, ne_eq, not_true_eq_false, not_false_eq_true, Bool.not_eq_true', Bool.not_eq_false', beq_self_eq_true, Bool.not_true, Bool.not_false, List.getElem?_toArray, List.getElem?_cons_zero, List.getElem?_cons_succ, h1, h3, h4, h5]
          refine (spec_without_c V4 _ _ ls bk (OSl.toS (l.at (i := 4) rfl)) (OSl.toS (l.at (i := 1) rfl)) (by omega)).mono ?_
          rintro rl V5 ⟨fl2, l5⟩
          replace l := l.append l5
          simp (disch := omega) only [↓stq, amv_at, vls, inf, frs, mark_eq, ↓reduceIte, Nat.reduceEqDiff, ite_tt, ite_ff, eq_self, and_true, true_and, and_self, implies_true, Bool.true_eq_false, Bool.false_eq_true, decide_true, decide_false, decide_eq_true_eq, decide_eq_false_iff_not, ne_eq, not_true_eq_false, not_false_eq_true, Bool.not_eq_true', Bool.not_eq_false', beq_self_eq_true, Bool.not_true, Bool.not_false, List.getElem?_toArray, List.getElem?_cons_zero, List.getElem?_cons_succ, h1, h3, h4, h5]
          exact ⟨fe2, we2, es ++ dn, fl2, rl, _, (l.sub (M := [osl 9 strO fl2 rl (ls.filter fun a => decide (a ∉ bk)), bx q6 ⟨78, [.string (x.2.1[i]).1, .string (x.2.1[i]).2.1, .slice a2 (x.2.1[i]).2.2.1.length c2, .slice a3 (x.2.1[i]).2.2.2.1.length c3], 4, true⟩, osl 56 eventO fe2 we2 (es ++ dn), bx q1 ⟨41, [.slice a0 x.1.length c0, .slice (some ad) x.2.1.length c1], 2, true⟩]) (.cons_cons _ (.cons _ (.cons _ (.cons_cons _ (.cons_cons _ (.cons _ (.cons_cons _ (List.Sublist.refl []))))))))).perm (((List.Perm.swap ..).cons _).trans (List.Perm.swap ..)).symm.symm, by rw [List.length_append]; omega, genE_app hge hdg, hN.filter _, rfl, rfl⟩
        · simp (disch := omega) only [↓stq, amv_at, vls, inf, frs, mark_eq, ↓reduceIte, Nat.reduceEqDiff, ite_tt, ite_ff, eq_self, and_true, true_and, and_self, implies_true, Bool.true_eq_false, Bool.false_eq_true, decide_true, decide_false, decide_eq_true_eq, decide_eq_false_iff_not, ne_eq, not_true_eq_false, not_false_eq_true, Bool.not_eq_true', Bool.not_eq_false', beq_self_eq_true, Bool.not_true, Bool.not_false, List.getElem?_toArray, List.getElem?_cons_zero, List.getElem?_cons_succ, h1, h3, h4, h5]
          exact ⟨fe, we, es, fl, wl, ls, same, by omega, hge, hN, rfl, rfl⟩
      · simp (disch := omega) only [↓stq, amv_at, ↓pln, plv, nilOk, Nat.reduceBEq, Bool.or_false, Bool.or_true, Bool.false_or, Bool.true_or, vls, inf, frs, mark_eq, ↓reduceIte, Nat.reduceEqDiff, ite_tt, ite_ff, eq_self, and_true, true_and, and_self, implies_true, Bool.true_eq_false, Bool.false_eq_true, decide_true, decide_false, decide_eq_true_eq, decide_eq_false_iff_not, ne_eq, not_true_eq_false, not_false_eq_true, Bool.not_eq_true', Bool.not_eq_false', beq_self_eq_true, Bool.not_true, Bool.not_false, List.getElem?_toArray, List.getElem?_cons_zero, List.getElem?_cons_succ, h1, h3, h4, h5, e2]
        exact ⟨fe, we, es, fl, wl, ls, same, by omega, hge, hN, rfl, rfl⟩
    · clear l k1 hel hge hN h1 h3 h4 h5
      rintro fr V ⟨fe, we, es, fl, wl, ls, l, hel, hge, hN, h1, h3, h4, h5, h6⟩
      have kp : V.part ⟨q1, 0, none⟩ 2 = some [.slice a0 x.1.length c0, .slice (some ad) x.2.1.length c1] := l.part (i := 3) rfl rfl
      have kt : V.part ⟨q6, 0, none⟩ 4 = some [.string (x.2.1[i]).1, .string (x.2.1[i]).2.1, .slice a2 (x.2.1[i]).2.2.1.length c2, .slice a3 (x.2.1[i]).2.2.2.1.length c3] := l.part (i := 0) rfl rfl
      simp (disch := omega) only [↓stq, amv_at, vls, inf, frs, mark_eq, ↓reduceIte, Nat.reduceEqDiff, ite_tt, ite_ff, eq_self, and_true, true_and, and_self, implies_true, Bool.true_eq_false, Bool.false_eq_true, decide_true, decide_false, decide_eq_true_eq, decide_eq_false_iff_not, ne_eq, not_true_eq_false, not_false_eq_true, Bool.not_eq_true', Bool.not_eq_false', beq_self_eq_true, Bool.not_true, Bool.not_false, List.getElem?_toArray, List.getElem?_cons_zero, List.getElem?_cons_succ, h1, h3, h4, h5, h6, kp, kt]
      refine (spec_closure_c V _ _ x x.2.1[i] (suiteS_mk (g0.mono l.ext) (g1.mono l.ext)) (testS_mk z1 z2 (f2.mono l.ext) (f3.mono l.ext)) (by omega)).mono ?_
      rintro r8 V2 ⟨f8, l8⟩
      have hcl := cloR_len hl0 (preR x x.2.1[i])
      have hch := cloR_has (fs := x.1) (ns := preR x x.2.1[i])
      generalize cloR x.1 (preR x x.2.1[i]) = cs at l8 hcl hch
      obtain ⟨a8, c8, rfl, _, _⟩ := (OSl.toS (show OSl 9 strO V2 f8 r8 cs from l8.at (i := 0) rfl)).slice
      replace l := l.append l8
      simp (disch := omega) only [↓stq, amv_at, vls, inf, frs, mark_eq, ↓reduceIte, Nat.reduceEqDiff, ite_tt, ite_ff, eq_self, and_true, true_and, and_self, implies_true, Bool.true_eq_false, Bool.false_eq_true, decide_true, decide_false, decide_eq_true_eq, decide_eq_false_iff_not, ne_eq, not_true_eq_false, not_false_eq_true, Bool.not_eq_true', Bool.not_eq_false', beq_self_eq_true, Bool.not_true, Bool.not_false, List.getElem?_toArray, List.getElem?_cons_zero, List.getElem?_cons_succ, h1, h3, h4, h5, h6]
      refine aloop (fun d fr V => ∃ (j : Nat) (fe : List Nat) (we : Value) (es : List EventD) (fl : List Nat) (wl : Value) (ls : List ByteArray), j ≤ cs.length ∧ d = cs.length - j ∧ Led A [osl 9 strO f8 (.slice a8 cs.length c8) cs, bx q6 ⟨78, [.string (x.2.1[i]).1, .string (x.2.1[i]).2.1, .slice a2 (x.2.1[i]).2.2.1.length c2, .slice a3 (x.2.1[i]).2.2.2.1.length c3], 4, true⟩, osl 56 eventO fe we es, osl 9 strO fl wl ls, bx q1 ⟨41, [.slice a0 x.1.length c0, .slice (some ad) x.2.1.length c1], 2, true⟩] V ∧ es.length ≤ 40 * i + 6 + j ∧ (∀ e, e ∈ es → genE e) ∧ Names x.1 ls ∧ fr 1 = .pointer (some ⟨q1, 0, none⟩) ∧ fr 3 = we ∧ fr 4 = wl ∧ fr 5 = .int .i64 i ∧ fr 6 = .pointer (some ⟨q6, 0, none⟩) ∧ fr 8 = .slice a8 cs.length c8 ∧ fr 9 = .int .i64 j) cs.length ⟨0, fe, we, es, fl, wl, ls, by omega, by omega, l, by omega, hge, hN, h1, h3, h4, h5, h6, by rfl, by rfl⟩ ?_
      clear l kp kt hel hge hN h1 h3 h4 h5 h6
      rintro d fr V ⟨j, fe, we, es, fl, wl, ls, hj, rfl, l, hel, hge, hN, h1, h3, h4, h5, h6, h8, h9⟩
      simp (disch := omega) only [↓stq, amv_at, vls, inf, frs, mark_eq, ↓reduceIte, Nat.reduceEqDiff, ite_tt, ite_ff, eq_self, and_true, true_and, and_self, implies_true, Bool.true_eq_false, Bool.false_eq_true, decide_true, decide_false, decide_eq_true_eq, decide_eq_false_iff_not, ne_eq, not_true_eq_false, not_false_eq_true, Bool.not_eq_true', Bool.not_eq_false', beq_self_eq_true, Bool.not_true, Bool.not_false, List.getElem?_toArray, List.getElem?_cons_zero, List.getElem?_cons_succ, h1, h3, h4, h5, h6, h8, h9]
      refine ⟨fun e2 => ?_, fun e2 => ?_⟩
      · have hltj : j < cs.length := by omega
        have hNl6 := hNl hN
        have hFj := hch _ (List.getElem_mem hltj)
        have hzj := has_size hg hFj
        obtain ⟨adr, hq, kr, zr⟩ := (OSl.toS (show OSl 9 strO V f8 _ cs from l.at (i := 0) rfl)).str hltj
        subst hq
        simp (disch := omega) only [↓stq, amv_at, vls, inf, frs, mark_eq, ↓reduceIte, Nat.reduceEqDiff, ite_tt, ite_ff, eq_self, and_true, true_and, and_self, implies_true, Bool.true_eq_false, Bool.false_eq_true, decide_true, decide_false, decide_eq_true_eq, decide_eq_false_iff_not, ne_eq, not_true_eq_false, not_false_eq_true, Bool.not_eq_true', Bool.not_eq_false', beq_self_eq_true, Bool.not_true, Bool.not_false, List.getElem?_toArray, List.getElem?_cons_zero, List.getElem?_cons_succ, h1, h3, h4, h5, h6, h8, h9, kr]
        refine (spec_hasText_c V _ ls cs[j] (OSl.toS (l.at (i := 3) rfl))).mono ?_
        rintro _ V ⟨rfl, rfl⟩
        simp (disch := omega) only [↓stq, amv_at, vls, inf, frs, mark_eq, ↓reduceIte, Nat.reduceEqDiff, ite_tt, ite_ff, eq_self, and_true, true_and, and_self, implies_true, Bool.true_eq_false, Bool.false_eq_true, decide_true, decide_false, decide_eq_true_eq, decide_eq_false_iff_not, ne_eq, not_true_eq_false, not_false_eq_true, Bool.not_eq_true', Bool.not_eq_false', beq_self_eq_true, Bool.not_true, Bool.not_false, List.getElem?_toArray, List.getElem?_cons_zero, List.getElem?_cons_succ, h1, h3, h4, h5, h6, h8, h9]
        refine ⟨fun e3 => ?_, fun e3 => ?_⟩ <;> simp (disch := omega) only [↓stq, amv_at, vls, inf, frs, mark_eq, ↓reduceIte, Nat.reduceEqDiff, ite_tt, ite_ff, eq_self, and_true, true_and, and_self, implies_true, Bool.true_eq_false, Bool.false_eq_true, decide_true, decide_false, decide_eq_true_eq, decide_eq_false_iff_not, ne_eq, not_true_eq_false, not_false_eq_true, Bool.not_eq_true', Bool.not_eq_false', beq_self_eq_true, Bool.not_true, Bool.not_false, List.getElem?_toArray, List.getElem?_cons_zero, List.getElem?_cons_succ, h1, h3, h4, h5, h6, h8, h9, kr]
        · refine led_lit li54 (by omega) rfl (by simp [Value.cells, Value.oneCell']) l fun bl2 V _ l => ?_
          simp (disch := omega) only [↓stq, amv_at, vls, inf, frs, mark_eq, ↓reduceIte, Nat.reduceEqDiff, ite_tt, ite_ff, eq_self, and_true, true_and, and_self, implies_true, Bool.true_eq_false, Bool.false_eq_true, decide_true, decide_false, decide_eq_true_eq, decide_eq_false_iff_not, ne_eq, not_true_eq_false, not_false_eq_true, Bool.not_eq_true', Bool.not_eq_false', beq_self_eq_true, Bool.not_true, Bool.not_false, List.getElem?_toArray, List.getElem?_cons_zero, List.getElem?_cons_succ, h1, h3, h4, h5, h6, h8, h9]
          refine led_app (O := strO) ap54_54 (by decide) l (i := 4) rfl (l.src1 (S := strS) (j := 0) rfl ⟨rfl, zr⟩) (by rw [List.length_singleton]; omega) fun fl2 wl2 V _ l => ?_
          replace l := l.tail
          obtain ⟨_, hq, kr, _⟩ := (OSl.toS (show OSl 9 strO V f8 _ cs from l.at (i := 0) rfl)).str hltj
          obtain rfl := Option.some.inj hq
          simp (disch := omega) only [↓stq, amv_at, vls, inf, frs, mark_eq, ↓reduceIte, Nat.reduceEqDiff, ite_tt, ite_ff, eq_self, and_true, true_and, and_self, implies_true, Bool.true_eq_false, Bool.false_eq_true, decide_true, decide_false, decide_eq_true_eq, decide_eq_false_iff_not, ne_eq, not_true_eq_false, not_false_eq_true, Bool.not_eq_true', Bool.not_eq_false', beq_self_eq_true, Bool.not_true, Bool.not_false, List.getElem?_toArray, List.getElem?_cons_zero, List.getElem?_cons_succ, h1, h3, h4, h5, h6, h8, h9, kr]
          refine led_lit li24 (by omega) rfl (fun p hp => by rcases List.mem_singleton.1 hp with rfl; exact ⟨rfl, rfl⟩) l fun bl3 V _ l => ?_
          simp (disch := omega) only [↓stq, amv_at, vls, inf, frs, mark_eq, ↓reduceIte, Nat.reduceEqDiff, ite_tt, ite_ff, eq_self, and_true, true_and, and_self, implies_true, Bool.true_eq_false, Bool.false_eq_true, decide_true, decide_false, decide_eq_true_eq, decide_eq_false_iff_not, ne_eq, not_true_eq_false, not_false_eq_true, Bool.not_eq_true', Bool.not_eq_false', beq_self_eq_true, Bool.not_true, Bool.not_false, List.getElem?_toArray, List.getElem?_cons_zero, List.getElem?_cons_succ, h1, h3, h4, h5, h6, h8, h9]
          refine led_app (O := eventO) ap24_24 (by decide) l (i := 3) rfl (l.src1 (S := eventS) (j := 0) rfl (eventS_mk (x := (0, cs[j], ())) (by show (_ : Int) ≤ 0 ∧ (0 : Int) < _; omega) zr)) (by rw [List.length_singleton]; omega) fun fe2 we2 V _ l => ?_
          replace l := l.tail
          simp (disch := omega) only [↓stq, amv_at, vls, inf, frs, mark_eq, ↓reduceIte, Nat.reduceEqDiff, ite_tt, ite_ff, eq_self, and_true, true_and, and_self, implies_true, Bool.true_eq_false, Bool.false_eq_true, decide_true, decide_false, decide_eq_true_eq, decide_eq_false_iff_not, ne_eq, not_true_eq_false, not_false_eq_true, Bool.not_eq_true', Bool.not_eq_false', beq_self_eq_true, Bool.not_true, Bool.not_false, List.getElem?_toArray, List.getElem?_cons_zero, List.getElem?_cons_succ, h1, h3, h4, h5, h6, h8, h9]
          exact ⟨_, by omega, j + 1, fe2, we2, es ++ [(0, cs[j], ())], fl2, wl2, ls ++ [cs[j]], by omega, rfl, l, by rw [List.length_append, List.length_singleton]; omega, genE_app hge (fun e he => by rw [List.mem_singleton.1 he]; exact ⟨by show (-1 : Int) ≤ 0; omega, by show (0 : Int) ≤ 3; omega, by show (cs[j]).size ≤ 300; omega⟩), hN.snoc hFj e3, rfl, rfl, rfl⟩
        · exact ⟨_, by omega, j + 1, fe, we, es, fl, wl, ls, by omega, rfl, l, by omega, hge, hN, rfl, rfl, rfl⟩
      · replace l := l.tail
        have hNl6 := hNl hN
        have kt : V.part ⟨q6, 0, none⟩ 4 = some [.string (x.2.1[i]).1, .string (x.2.1[i]).2.1, .slice a2 (x.2.1[i]).2.2.1.length c2, .slice a3 (x.2.1[i]).2.2.2.1.length c3] := l.part (i := 0) rfl rfl
        simp (disch := omega) only [↓stq, amv_at, vls, inf, frs, mark_eq, ↓reduceIte, Nat.reduceEqDiff, ite_tt, ite_ff, eq_self, and_true, true_and, and_self, implies_true, Bool.true_eq_false, Bool.false_eq_true, decide_true, decide_false, decide_eq_true_eq, decide_eq_false_iff_not, ne_eq, not_true_eq_false, not_false_eq_true, Bool.not_eq_true', Bool.not_eq_false', beq_self_eq_true, Bool.not_true, Bool.not_false, List.getElem?_toArray, List.getElem?_cons_zero, List.getElem?_cons_succ, h1, h3, h4, h5, h6, h8, h9, kt]
        refine (spec_idOf_c V _ x.2.1[i] (testS_mk z1 z2 (f2.mono l.ext) (f3.mono l.ext))).mono ?_
        rintro _ V2 ⟨rfl, he2⟩
        replace l := l.step he2
        have hiz : (idD x.2.1[i]).size ≤ 300 := by
          have h1 := hgt.1
          have h2 := hgt.2.1
          rw [idD_size]; omega
        generalize idD x.2.1[i] = idi at hiz
        simp (disch := omega) only [↓stq, amv_at, vls, inf, frs, mark_eq, ↓reduceIte, Nat.reduceEqDiff, ite_tt, ite_ff, eq_self, and_true, true_and, and_self, implies_true, Bool.true_eq_false, Bool.false_eq_true, decide_true, decide_false, decide_eq_true_eq, decide_eq_false_iff_not, ne_eq, not_true_eq_false, not_false_eq_true, Bool.not_eq_true', Bool.not_eq_false', beq_self_eq_true, Bool.not_true, Bool.not_false, List.getElem?_toArray, List.getElem?_cons_zero, List.getElem?_cons_succ, h1, h3, h4, h5, h6, h8, h9]
        refine led_lit li24 (by omega) rfl (fun p hp => by rcases List.mem_singleton.1 hp with rfl; exact ⟨rfl, rfl⟩) l fun bl3 V _ l => ?_
        simp (disch := omega) only [↓stq, amv_at, vls, inf, frs, mark_eq, ↓reduceIte, Nat.reduceEqDiff, ite_tt, ite_ff, eq_self, and_true, true_and, and_self, implies_true, Bool.true_eq_false, Bool.false_eq_true, decide_true, decide_false, decide_eq_true_eq, decide_eq_false_iff_not, ne_eq, not_true_eq_false, not_false_eq_true, Bool.not_eq_true', Bool.not_eq_false', beq_self_eq_true, Bool.not_true, Bool.not_false, List.getElem?_toArray, List.getElem?_cons_zero, List.getElem?_cons_succ, h1, h3, h4, h5, h6, h8, h9]
        refine led_app (O := eventO) ap24_24 (by decide) l (i := 2) rfl (l.src1 (S := eventS) (j := 0) rfl (eventS_mk (x := (2, idi, ())) (by show (_ : Int) ≤ 2 ∧ (2 : Int) < _; omega) (by show idi.size ≤ _; omega))) (by rw [List.length_singleton]; omega) fun fe1 we1 V _ l => ?_
        replace l := l.tail
        have hge1 := genE_app hge (ys := [(2, idi, ())]) (fun e he => by rw [List.mem_singleton.1 he]; exact ⟨by show (-1 : Int) ≤ 2; omega, by show (2 : Int) ≤ 3; omega, hiz⟩)
        have hel1 : (es ++ [((2 : Int), idi, ())]).length ≤ 40 * i + 25 := by rw [List.length_append, List.length_singleton]; omega
        generalize es ++ [((2 : Int), idi, ())] = es1 at l hge1 hel1
        have kp : V.part ⟨q1, 0, none⟩ 2 = some [.slice a0 x.1.length c0, .slice (some ad) x.2.1.length c1] := l.part (i := 3) rfl rfl
        obtain ⟨al, cl, rfl, _, _⟩ := (OSl.toS (show OSl 9 strO V fl wl ls from l.at (i := 2) rfl)).slice
        simp (disch := omega) only [↓stq, amv_at, vls, inf, frs, mark_eq, ↓reduceIte, Nat.reduceEqDiff, ite_tt, ite_ff, eq_self, and_true, true_and, and_self, implies_true, Bool.true_eq_false, Bool.false_eq_true, decide_true, decide_false, decide_eq_true_eq, decide_eq_false_iff_not, ne_eq, not_true_eq_false, not_false_eq_true, Bool.not_eq_true', Bool.not_eq_false', beq_self_eq_true, Bool.not_true, Bool.not_false, List.getElem?_toArray, List.getElem?_cons_zero, List.getElem?_cons_succ, h1, h3, h4, h5, h6, h8, h9, kp]
        refine (spec_liveScope_c V _ x _ ls 0 (suiteS_mk (g0.mono l.ext) (g1.mono l.ext)) (OSl.toS (l.at (i := 2) rfl)) hN.2 (by omega)).mono ?_
        rintro r7 V2 ⟨f7, l7⟩
        have hB := bucket_len x.1 ls 0
        have hBh : ∀ a, a ∈ bucket x.1 ls 0 → hasF x.1 a := fun a ha => hN.2 a (bucket_mem.1 ha).1
        generalize bucket x.1 ls 0 = bk at l7 hB hBh
        obtain ⟨a7, c7, rfl, _, _⟩ := (OSl.toS (show OSl 9 strO V2 f7 r7 bk from l7.at (i := 0) rfl)).slice
        replace l := l.append l7
        simp (disch := omega) only [↓stq, amv_at, vls, inf, frs, mark_eq, ↓reduceIte, Nat.reduceEqDiff, ite_tt, ite_ff, eq_self, and_true, true_and, and_self, implies_true, Bool.true_eq_false, Bool.false_eq_true, decide_true, decide_false, decide_eq_true_eq, decide_eq_false_iff_not, ne_eq, not_true_eq_false, not_false_eq_true, Bool.not_eq_true', Bool.not_eq_false', beq_self_eq_true, Bool.not_true, Bool.not_false, List.getElem?_toArray, List.getElem?_cons_zero, List.getElem?_cons_succ, h1, h3, h4, h5, h6, h8, h9]
        refine (spec_downs_c V2 _ bk (OSl.toS (l.at (i := 0) rfl)) (by omega)).mono ?_
        rintro rd V3 ⟨fd, ld⟩
        replace l := l.append ld
        have hdl := downR_len bk
        have hdg := genE_down hg hBh
        generalize downR bk = dn at l hdl hdg
        obtain ⟨adn, cdn, rfl, _, _⟩ := (OSl.toS (show OSl 56 eventO V3 fd rd dn from l.at (i := 0) rfl)).slice
        simp (disch := omega) only [↓stq, amv_at, vls, inf, frs, mark_eq, ↓reduceIte, Nat.reduceEqDiff, ite_tt, ite_ff, eq_self, and_true, true_and, and_self, implies_true, Bool.true_eq_false, Bool.false_eq_true, decide_true, decide_false, decide_eq_true_eq, decide_eq_false_iff_not, ne_eq, not_true_eq_false, not_false_eq_true, Bool.not_eq_true', Bool.not_eq_false', beq_self_eq_true, Bool.not_true, Bool.not_false, List.getElem?_toArray, List.getElem?_cons_zero, List.getElem?_cons_succ, h1, h3, h4, h5, h6, h8, h9]
        refine led_app (O := eventO) ap24_24 (by decide) l (i := 3) rfl (Sl.srcOf (OSl.toS (l.at (i := 0) rfl))) (by omega) fun fe2 we2 V4 _ l => ?_
        simp (disch := omega) only [↓stq, amv_at, vls, inf, frs, mark_eq, ↓reduceIte, Nat.reduceEqDiff, ite_tt, ite_ff, eq_self, and_true, true_and, and_self, implies_true, Bool.true_eq_false, Bool.false_eq_true, decide_true, decide_false, decide_eq_true_eq, decide_eq_false_iff_not, ne_eq, not_true_eq_false, not_false_eq_true, Bool.not_eq_true', Bool.not_eq_false', beq_self_eq_true, Bool.not_true, Bool.not_false, List.getElem?_toArray, List.getElem?_cons_zero, List.getElem?_cons_succ, h1, h3, h4, h5, h6, h8, h9]
        refine (spec_without_c V4 _ _ ls bk (OSl.toS (l.at (i := 4) rfl)) (OSl.toS (l.at (i := 1) rfl)) (by omega)).mono ?_
        rintro rl V5 ⟨fl2, l5⟩
        replace l := l.append l5
        simp (disch := omega) only [↓stq, amv_at, vls, inf, frs, mark_eq, ↓reduceIte, Nat.reduceEqDiff, ite_tt, ite_ff, eq_self, and_true, true_and, and_self, implies_true, Bool.true_eq_false, Bool.false_eq_true, decide_true, decide_false, decide_eq_true_eq, decide_eq_false_iff_not, ne_eq, not_true_eq_false, not_false_eq_true, Bool.not_eq_true', Bool.not_eq_false', beq_self_eq_true, Bool.not_true, Bool.not_false, List.getElem?_toArray, List.getElem?_cons_zero, List.getElem?_cons_succ, h1, h3, h4, h5, h6, h8, h9]
        exact ⟨_, by omega, i + 1, fe2, we2, es1 ++ dn, fl2, rl, _, by omega, rfl, (l.sub (M := [osl 9 strO fl2 rl (ls.filter fun a => decide (a ∉ bk)), osl 56 eventO fe2 we2 (es1 ++ dn), bx q1 ⟨41, [.slice a0 x.1.length c0, .slice (some ad) x.2.1.length c1], 2, true⟩]) (.cons_cons _ (.cons _ (.cons _ (.cons _ (.cons_cons _ (.cons _ (.cons_cons _ (List.Sublist.refl []))))))))).perm (List.Perm.swap ..), by rw [List.length_append]; omega, genE_app hge1 hdg, hN.filter _, rfl, rfl, rfl⟩
  · have hNl6 := hNl hN
    simp (disch := omega) only [↓stq, amv_at, vls, inf, frs, mark_eq, ↓reduceIte, Nat.reduceEqDiff, ite_tt, ite_ff, eq_self, and_true, true_and, and_self, implies_true, Bool.true_eq_false, Bool.false_eq_true, decide_true, decide_false, decide_eq_true_eq, decide_eq_false_iff_not, ne_eq, not_true_eq_false, not_false_eq_true, Bool.not_eq_true', Bool.not_eq_false', beq_self_eq_true, Bool.not_true, Bool.not_false, List.getElem?_toArray, List.getElem?_cons_zero, List.getElem?_cons_succ, h1, h3, h4, h5]
    refine (spec_downs_c V _ ls (OSl.toS (l.at (i := 1) rfl)) (by omega)).mono ?_
    rintro rd V3 ⟨fd, ld⟩
    replace l := l.append ld
    have hdl := downR_len ls
    have hdg := genE_down hg hN.2
    generalize downR ls = dn at l hdl hdg
    obtain ⟨adn, cdn, rfl, _, _⟩ := (OSl.toS (show OSl 56 eventO V3 fd rd dn from l.at (i := 0) rfl)).slice
    simp (disch := omega) only [↓stq, amv_at, vls, inf, frs, mark_eq, ↓reduceIte, Nat.reduceEqDiff, ite_tt, ite_ff, eq_self, and_true, true_and, and_self, implies_true, Bool.true_eq_false, Bool.false_eq_true, decide_true, decide_false, decide_eq_true_eq, decide_eq_false_iff_not, ne_eq, not_true_eq_false, not_false_eq_true, Bool.not_eq_true', Bool.not_eq_false', beq_self_eq_true, Bool.not_true, Bool.not_false, List.getElem?_toArray, List.getElem?_cons_zero, List.getElem?_cons_succ, h1, h3, h4, h5]
    refine led_app (O := eventO) ap24_24 (by decide) l (i := 1) rfl (Sl.srcOf (OSl.toS (l.at (i := 0) rfl))) (by omega) fun fe2 we2 V4 _ l => ?_
    simp (disch := omega) only [↓stq, amv_at, vls, inf, frs, mark_eq, ↓reduceIte, Nat.reduceEqDiff, ite_tt, ite_ff, eq_self, and_true, true_and, and_self, implies_true, Bool.true_eq_false, Bool.false_eq_true, decide_true, decide_false, decide_eq_true_eq, decide_eq_false_iff_not, ne_eq, not_true_eq_false, not_false_eq_true, Bool.not_eq_true', Bool.not_eq_false', beq_self_eq_true, Bool.not_true, Bool.not_false, List.getElem?_toArray, List.getElem?_cons_zero, List.getElem?_cons_succ, h1, h3, h4, h5]
    exact ⟨es ++ dn, by rw [List.length_append]; omega, genE_app hge hdg, NewSl.of l (i := 1) rfl⟩

end Go.Proofs.Ytggklaimbklefaa

/- Plans: generators of events. -/
set_option maxHeartbeats 4000000
set_option synthInstance.maxHeartbeats 400000
set_option synthInstance.maxSize 4096
set_option linter.unusedSimpArgs false
set_option linter.unusedVariables false
namespace Go.Proofs.Ytggklaimbklefaa

set_option maxRecDepth 100000

theorem led_setS {P : Program} {A V : View} {L : List It} {K : Value → View → Prop} {α : Type} {O : OwnS α} [Flat O] {t e : TypeId} {m i k b c o : Nat} {fp : List Nat} {xs : List α} {z : List Value} {x' : α} (h : Led A L V) (hi : L[i]? = some (osl e O fp (.slice (some ⟨b, 0, none⟩) m c) xs)) (hk : k < xs.length) (hs : (P.info? t).map (·.size) = some O.S.size)
    (ho : o = k * O.S.size) (hz : O.S.rel V x' z)
    (hK : ∀ W, Only fp V W → Led A (L.set i (osl e O fp (.slice (some ⟨b, 0, none⟩) m c) (xs.set k x'))) W → K undef W) : astore P t (.pointer (some ⟨b, o, none⟩)) (.agg z.toArray) V K := by
  have hO : OSl e O V fp (.slice (some ⟨b, 0, none⟩) m c) xs := h.at hi
  have hzl : z.length = O.S.size := O.S.len hz
  obtain ⟨hl, ⟨hq, _⟩ | ⟨b', c', cells, f, hq, hc, rfl, hbk, he⟩⟩ := hO
  · cases hq
  · injection hq with hq1 hq2 hq3
    injection hq1 with hq1
    injection hq1 with hq1
    subst hq1; subst hq2; subst hq3
    obtain rfl := he.flatN
    obtain ⟨f1, f2, f3, c1, c2, c3, hf, rfl, hc1, h1, h2, h3⟩ := he.at hk
    have hc2 : c2.length = O.S.size := O.S.len (O.toS h2)
    have hcv : (Value.agg z.toArray).cells.toList = z := rfl
    subst ho
    rw [astore_at, storev_set hs (k := ⟨e, c1 ++ (c2 ++ c3), c * O.S.size, true⟩) hbk rfl rfl (by show z.toArray.size = _; simpa using hzl) (by simp; omega) (by rw [hcv]; exact List.all_eq_true.2 (O.S.one hz))]
    have e1 : (c1 ++ (c2 ++ c3)).take (k * O.S.size) ++ (Value.agg z.toArray).cells.toList ++ (c1 ++ (c2 ++ c3)).drop (k * O.S.size + O.S.size) = c1 ++ (z ++ c3) := by
      rw [hcv, List.take_left' hc1, ← List.drop_drop, List.drop_left' hc1, List.drop_left' hc2, List.append_assoc]
    show K undef _
    simp only [e1]
    have hset := List.set_eq_take_append_cons_drop (l := xs) (i := k) (a := x')
    rw [if_pos hk] at hset
    refine hK _ (Only.set _ (List.mem_cons_self ..)) (h.upd hi rfl (Only.set _ (List.mem_cons_self ..)) (show OSl e O _ [b] _ _ from ⟨by simpa using hl, .inr ⟨b, c, _, [], by simp, by simpa using hc, rfl, View.set_same .., ?_⟩⟩))
    rw [hset]
    have g1 : OElems O (V.set b ⟨e, c1 ++ (z ++ c3), c * O.S.size, true⟩) [] (xs.take k) c1 := OElems.flatE h1.toS
    have g2 : OElems O (V.set b ⟨e, c1 ++ (z ++ c3), c * O.S.size, true⟩) [] (x' :: xs.drop (k + 1)) (z ++ c3) := OElems.cons (f := []) (fp := []) (Flat.up hz) (OElems.flatE h3.toS)
    exact OElems.append (fp := []) (fq := []) g1 g2

theorem led_setelem {P : Program} {A V : View} {L : List It} {K : Value → View → Prop} {α : Type} {O : OwnS α} [Flat O] {t e : TypeId} {i k j b c o n : Nat} {fp : List Nat} {xs : List α} {val : Value} {x' : α} (h : Led A L V) (hi : L[i]? = some (osl e O fp (.slice (some ⟨b, 0, none⟩) n c) xs)) (hk : k < xs.length) (hs : (P.info? t).map (·.size) = some 1)
    (ho : o = k * O.S.size + j) (hv : val.cells = #[val] ∧ val.oneCell' = true) (hx : ∀ d, O.S.rel V xs[k] d → j < d.length ∧ O.S.rel V x' (d.set j val))
    (hK : ∀ W, Only fp V W → Led A (L.set i (osl e O fp (.slice (some ⟨b, 0, none⟩) n c) (xs.set k x'))) W → K undef W) : astore P t (.pointer (some ⟨b, o, none⟩)) val V K := by
  have hn : n = xs.length := by
    obtain ⟨_, ⟨hq, _⟩ | ⟨_, _, _, _, hq, _⟩⟩ := (show OSl e O V fp _ xs from h.at hi)
    · cases hq
    · injection hq
  subst hn
  exact led_setfield h hi hk hs ho hv hx hK

theorem genE_set {xs : List EventD} (h : ∀ e, e ∈ xs → genE e) {y : EventD} (hy : genE y) (k : Nat) : ∀ e, e ∈ xs.set k y → genE e := fun e he => by
  rcases List.mem_or_eq_of_mem_set he with he | rfl
  · exact h e he
  · exact hy
theorem genE_rng {e : EventD} (h : genE e) : -9223372036854775808 ≤ e.1 ∧ e.1 < 9223372036854775808 := by
  have h1 := h.1
  have h2 := h.2.1
  omega

theorem someEvents_c (B A : View) (L : List It) (q : Nat) (sl : Value) (N : Nat) (hb : Bts B sl) (hN : N ≤ 500000000) (l : Led B (rdr q sl N :: L) A) : ACalls Try.prog 62 #[.pointer (some ⟨q, 0, none⟩)] A fun r V => ∃ (d : List Value) (fe : List Nat) (we : Value) (es : List EventD), r = .tuple #[.agg d.toArray, we] ∧ (d.length = 2 ∧ ∀ v ∈ d, v.oneCell' = true) ∧ es.length ≤ 410 ∧ (∀ e, e ∈ es → genE e) ∧ Led B (osl 56 eventO fe we es :: rdr q sl (N + 310) :: L) V := by
  refine acalls Try.func62 rfl (by kernel_rfl) ?_
  simp (disch := omega) only [↓stq, amv_at, vls, inf, frs, mark_eq, ↓reduceIte, Nat.reduceEqDiff, ite_tt, ite_ff, eq_self, and_true, true_and, and_self, implies_true, Bool.true_eq_false, Bool.false_eq_true, decide_true, decide_false, decide_eq_true_eq, decide_eq_false_iff_not, ne_eq, not_true_eq_false, not_false_eq_true, Bool.not_eq_true', Bool.not_eq_false', beq_self_eq_true, Bool.not_true, Bool.not_false, List.getElem?_toArray, List.getElem?_cons_zero, List.getElem?_cons_succ]
  refine led_alloc zc41 l fun q2 V _ l => ?_
  simp (disch := omega) only [↓stq, amv_at, vls, inf, frs, mark_eq, ↓reduceIte, Nat.reduceEqDiff, ite_tt, ite_ff, eq_self, and_true, true_and, and_self, implies_true, Bool.true_eq_false, Bool.false_eq_true, decide_true, decide_false, decide_eq_true_eq, decide_eq_false_iff_not, ne_eq, not_true_eq_false, not_false_eq_true, Bool.not_eq_true', Bool.not_eq_false', beq_self_eq_true, Bool.not_true, Bool.not_false, List.getElem?_toArray, List.getElem?_cons_zero, List.getElem?_cons_succ]
  refine (someSuite_c B V _ q sl N hb (by omega) (l.perm (List.Perm.swap ..))).mono ?_
  rintro r V ⟨fp, x, d, rfl, hg, l⟩
  have hS : suiteS.rel V x d := suiteO_S (show suiteO.rel V fp x d from l.at (i := 0) rfl)
  have hd : d.length = 2 ∧ ∀ v ∈ d, v.oneCell' = true := ⟨suiteS.len hS, suiteS.one hS⟩
  simp (disch := omega) only [↓stq, amv_at, vls, inf, frs, mark_eq, ↓reduceIte, Nat.reduceEqDiff, ite_tt, ite_ff, eq_self, and_true, true_and, and_self, implies_true, Bool.true_eq_false, Bool.false_eq_true, decide_true, decide_false, decide_eq_true_eq, decide_eq_false_iff_not, ne_eq, not_true_eq_false, not_false_eq_true, Bool.not_eq_true', Bool.not_eq_false', beq_self_eq_true, Bool.not_true, Bool.not_false, List.getElem?_toArray, List.getElem?_cons_zero, List.getElem?_cons_succ]
  refine led_alloc zc41 l fun q4 V _ l => ?_
  simp (disch := omega) only [↓stq, amv_at, vls, inf, frs, mark_eq, ↓reduceIte, Nat.reduceEqDiff, ite_tt, ite_ff, eq_self, and_true, true_and, and_self, implies_true, Bool.true_eq_false, Bool.false_eq_true, decide_true, decide_false, decide_eq_true_eq, decide_eq_false_iff_not, ne_eq, not_true_eq_false, not_false_eq_true, Bool.not_eq_true', Bool.not_eq_false', beq_self_eq_true, Bool.not_true, Bool.not_false, List.getElem?_toArray, List.getElem?_cons_zero, List.getElem?_cons_succ]
  refine led_storeAll l 0 rfl sz41 hd.1 rfl hd.2 fun V l => ?_
  have kp : V.part ⟨q4, 0, none⟩ 2 = some d := l.partn (i := 0) rfl hd.1 hd.2
  have hS : suiteS.rel V x d := suiteO_S (show suiteO.rel V fp x d from l.at (i := 1) rfl)
  simp (disch := omega) only [↓stq, amv_at, vls, inf, frs, mark_eq, ↓reduceIte, Nat.reduceEqDiff, ite_tt, ite_ff, eq_self, and_true, true_and, and_self, implies_true, Bool.true_eq_false, Bool.false_eq_true, decide_true, decide_false, decide_eq_true_eq, decide_eq_false_iff_not, ne_eq, not_true_eq_false, not_false_eq_true, Bool.not_eq_true', Bool.not_eq_false', beq_self_eq_true, Bool.not_true, Bool.not_false, List.getElem?_toArray, List.getElem?_cons_zero, List.getElem?_cons_succ, kp]
  refine (spec_validB_c V _ x hS trivial).mono ?_
  rintro _ V2 ⟨rfl, he2⟩
  replace l := l.step he2
  replace kp := he2.part kp
  simp (disch := omega) only [↓stq, amv_at, vls, inf, frs, mark_eq, ↓reduceIte, Nat.reduceEqDiff, ite_tt, ite_ff, eq_self, and_true, true_and, and_self, implies_true, Bool.true_eq_false, Bool.false_eq_true, decide_true, decide_false, decide_eq_true_eq, decide_eq_false_iff_not, ne_eq, not_true_eq_false, not_false_eq_true, Bool.not_eq_true', Bool.not_eq_false', beq_self_eq_true, Bool.not_true, Bool.not_false, List.getElem?_toArray, List.getElem?_cons_zero, List.getElem?_cons_succ]
  refine ⟨fun e1 => ?_, fun e1 => ?_⟩ <;> simp (disch := omega) only [↓stq, amv_at, vls, inf, frs, mark_eq, ↓reduceIte, Nat.reduceEqDiff, ite_tt, ite_ff, eq_self, and_true, true_and, and_self, implies_true, Bool.true_eq_false, Bool.false_eq_true, decide_true, decide_false, decide_eq_true_eq, decide_eq_false_iff_not, ne_eq, not_true_eq_false, not_false_eq_true, Bool.not_eq_true', Bool.not_eq_false', beq_self_eq_true, Bool.not_true, Bool.not_false, List.getElem?_toArray, List.getElem?_cons_zero, List.getElem?_cons_succ, kp]
  · refine led_lit0 (O := eventO) li24 l fun be V _ l => ?_
    simp (disch := omega) only [↓stq, amv_at, vls, inf, frs, mark_eq, ↓reduceIte, Nat.reduceEqDiff, ite_tt, ite_ff, eq_self, and_true, true_and, and_self, implies_true, Bool.true_eq_false, Bool.false_eq_true, decide_true, decide_false, decide_eq_true_eq, decide_eq_false_iff_not, ne_eq, not_true_eq_false, not_false_eq_true, Bool.not_eq_true', Bool.not_eq_false', beq_self_eq_true, Bool.not_true, Bool.not_false, List.getElem?_toArray, List.getElem?_cons_zero, List.getElem?_cons_succ]
    refine led_storeAll l 4 rfl sz41 hd.1 rfl hd.2 fun V l => ?_
    have k2 : V.part ⟨q2, 0, none⟩ 2 = some d := l.partn (i := 4) rfl hd.1 hd.2
    simp (disch := omega) only [↓stq, amv_at, vls, inf, frs, mark_eq, ↓reduceIte, Nat.reduceEqDiff, ite_tt, ite_ff, eq_self, and_true, true_and, and_self, implies_true, Bool.true_eq_false, Bool.false_eq_true, decide_true, decide_false, decide_eq_true_eq, decide_eq_false_iff_not, ne_eq, not_true_eq_false, not_false_eq_true, Bool.not_eq_true', Bool.not_eq_false', beq_self_eq_true, Bool.not_true, Bool.not_false, List.getElem?_toArray, List.getElem?_cons_zero, List.getElem?_cons_succ, k2]
    have l2 : Led B (rdr q sl (N + 300) :: osl 56 eventO [be] (.slice (some ⟨be, 0, none⟩) 0 0) [] :: L) V := (l.sub (M := osl 56 eventO [be] (.slice (some ⟨be, 0, none⟩) 0 0) [] :: rdr q sl (N + 300) :: L) (.cons_cons _ (.cons _ (.cons _ (.cons_cons _ (.cons _ (List.Sublist.refl L))))))).perm (List.Perm.swap ..)
    exact ⟨d, [be], _, [], rfl, hd, by simp, by simp, (rdr_more l2 (M := N + 310) (by omega)).perm (List.Perm.swap ..)⟩
  · refine (spec_planOf_c V2 _ x (suiteO_S (show suiteO.rel V2 fp x d from l.at (i := 1) rfl)) hg).mono ?_
    rintro we V3 ⟨es, hel, hge, fe, l3⟩
    replace l := l.append l3
    replace l : Led B (rdr q sl (N + 300) :: osl 56 eventO fe we es :: bx q4 ⟨41, d, 2, true⟩ :: bx q2 ⟨41, [.slice none 0 0, .slice none 0 0], 2, true⟩ :: L) V3 := (l.sub (M := osl 56 eventO fe we es :: bx q4 ⟨41, d, 2, true⟩ :: rdr q sl (N + 300) :: bx q2 ⟨41, [.slice none 0 0, .slice none 0 0], 2, true⟩ :: L) (.cons_cons _ (.cons_cons _ (.cons _ (.cons_cons _ (.cons_cons _ (List.Sublist.refl L))))))).perm (List.perm_middle (l₁ := [_, _])).symm
    obtain ⟨ae, ce, rfl, _, _⟩ := (OSl.toS (show OSl 56 eventO V3 fe we es from l.at (i := 1) rfl)).slice
    have done : ∀ (V : View) (M : Nat) (fe : List Nat) (we : Value) (es : List EventD), M ≤ N + 310 → Led B (rdr q sl M :: osl 56 eventO fe we es :: bx q4 ⟨41, d, 2, true⟩ :: bx q2 ⟨41, d, 2, true⟩ :: L) V → Led B (osl 56 eventO fe we es :: rdr q sl (N + 310) :: L) V := fun V M fe we es hM l => by
      have l2 : Led B (rdr q sl M :: osl 56 eventO fe we es :: L) V := l.sub (.cons_cons _ (.cons_cons _ (.cons _ (.cons _ (List.Sublist.refl L)))))
      exact (rdr_more l2 hM).perm (List.Perm.swap ..)
    simp (disch := omega) only [↓stq, amv_at, vls, inf, frs, mark_eq, ↓reduceIte, Nat.reduceEqDiff, ite_tt, ite_ff, eq_self, and_true, true_and, and_self, implies_true, Bool.true_eq_false, Bool.false_eq_true, decide_true, decide_false, decide_eq_true_eq, decide_eq_false_iff_not, ne_eq, not_true_eq_false, not_false_eq_true, Bool.not_eq_true', Bool.not_eq_false', beq_self_eq_true, Bool.not_true, Bool.not_false, List.getElem?_toArray, List.getElem?_cons_zero, List.getElem?_cons_succ]
    refine ⟨fun e2 => ?_, fun e2 => ?_⟩ <;> simp (disch := omega) only [↓stq, amv_at, vls, inf, frs, mark_eq, ↓reduceIte, Nat.reduceEqDiff, ite_tt, ite_ff, eq_self, and_true, true_and, and_self, implies_true, Bool.true_eq_false, Bool.false_eq_true, decide_true, decide_false, decide_eq_true_eq, decide_eq_false_iff_not, ne_eq, not_true_eq_false, not_false_eq_true, Bool.not_eq_true', Bool.not_eq_false', beq_self_eq_true, Bool.not_true, Bool.not_false, List.getElem?_toArray, List.getElem?_cons_zero, List.getElem?_cons_succ, e2]
    · refine (pick_c B V3 _ q sl _ 3 hb (by omega) ⟨by omega, by omega⟩ l).mono ?_
      rintro _ V ⟨u0, rfl, hu0, hu1, l⟩
      simp (disch := omega) only [↓stq, amv_at, vls, inf, frs, mark_eq, ↓reduceIte, Nat.reduceEqDiff, ite_tt, ite_ff, eq_self, and_true, true_and, and_self, implies_true, Bool.true_eq_false, Bool.false_eq_true, decide_true, decide_false, decide_eq_true_eq, decide_eq_false_iff_not, ne_eq, not_true_eq_false, not_false_eq_true, Bool.not_eq_true', Bool.not_eq_false', beq_self_eq_true, Bool.not_true, Bool.not_false, List.getElem?_toArray, List.getElem?_cons_zero, List.getElem?_cons_succ, e2]
      refine ⟨fun e3 => ?_, fun e3 => ?_⟩ <;> simp (disch := omega) only [↓stq, amv_at, vls, inf, frs, mark_eq, ↓reduceIte, Nat.reduceEqDiff, ite_tt, ite_ff, eq_self, and_true, true_and, and_self, implies_true, Bool.true_eq_false, Bool.false_eq_true, decide_true, decide_false, decide_eq_true_eq, decide_eq_false_iff_not, ne_eq, not_true_eq_false, not_false_eq_true, Bool.not_eq_true', Bool.not_eq_false', beq_self_eq_true, Bool.not_true, Bool.not_false, List.getElem?_toArray, List.getElem?_cons_zero, List.getElem?_cons_succ]
      · refine (pick_c B V _ q sl _ es.length hb (by omega) ⟨by omega, by omega⟩ l).mono ?_
        rintro _ V ⟨k, rfl, hk0, hk1, l⟩
        obtain ⟨k, rfl⟩ := Int.eq_ofNat_of_zero_le hk0
        have hkl : k < es.length := by omega
        simp (disch := omega) only [↓stq, amv_at, vls, inf, frs, mark_eq, ↓reduceIte, Nat.reduceEqDiff, ite_tt, ite_ff, eq_self, and_true, true_and, and_self, implies_true, Bool.true_eq_false, Bool.false_eq_true, decide_true, decide_false, decide_eq_true_eq, decide_eq_false_iff_not, ne_eq, not_true_eq_false, not_false_eq_true, Bool.not_eq_true', Bool.not_eq_false', beq_self_eq_true, Bool.not_true, Bool.not_false, List.getElem?_toArray, List.getElem?_cons_zero, List.getElem?_cons_succ]
        refine (pick_c B V _ q sl _ 4 hb (by omega) ⟨by omega, by omega⟩ l).mono ?_
        rintro _ V ⟨u, rfl, hv0, hv1, l⟩
        obtain ⟨b, rfl⟩ : ∃ b, ae = some ⟨b, 0, none⟩ := by
          obtain ⟨_, ⟨hq, hx, _⟩ | ⟨b, _, _, _, hq, _⟩⟩ := (show OSl 56 eventO V fe _ es from l.at (i := 1) rfl)
          · rw [hx] at hkl; cases hkl
          · injection hq with hq; exact ⟨b, hq⟩
        simp (disch := omega) only [↓stq, amv_at, vls, inf, frs, mark_eq, ↓reduceIte, Nat.reduceEqDiff, ite_tt, ite_ff, eq_self, and_true, true_and, and_self, implies_true, Bool.true_eq_false, Bool.false_eq_true, decide_true, decide_false, decide_eq_true_eq, decide_eq_false_iff_not, ne_eq, not_true_eq_false, not_false_eq_true, Bool.not_eq_true', Bool.not_eq_false', beq_self_eq_true, Bool.not_true, Bool.not_false, List.getElem?_toArray, List.getElem?_cons_zero, List.getElem?_cons_succ]
        refine ⟨fun e4 => ?_, fun e4 => ?_⟩ <;> simp (disch := omega) only [↓stq, amv_at, vls, inf, frs, mark_eq, ↓reduceIte, Nat.reduceEqDiff, ite_tt, ite_ff, eq_self, and_true, true_and, and_self, implies_true, Bool.true_eq_false, Bool.false_eq_true, decide_true, decide_false, decide_eq_true_eq, decide_eq_false_iff_not, ne_eq, not_true_eq_false, not_false_eq_true, Bool.not_eq_true', Bool.not_eq_false', beq_self_eq_true, Bool.not_true, Bool.not_false, List.getElem?_toArray, List.getElem?_cons_zero, List.getElem?_cons_succ]
        · refine adraw_items [.q 1, .q 2, .q 3, .q 5, .q 6, .q 7, .q 8, .c 0 [], .c 4 [], .c 9 [], .q 10] (by kernel_rfl) (by kernel_rfl) ?_
          simp (disch := omega) only [↓stq, amv_at, ↓pln, plv, nilOk, Nat.reduceBEq, Bool.or_false, Bool.or_true, Bool.false_or, Bool.true_or, vls, inf, frs, mark_eq, ↓reduceIte, Nat.reduceEqDiff, ite_tt, ite_ff, eq_self, and_true, true_and, and_self, implies_true, Bool.true_eq_false, Bool.false_eq_true, decide_true, decide_false, decide_eq_true_eq, decide_eq_false_iff_not, ne_eq, not_true_eq_false, not_false_eq_true, Bool.not_eq_true', Bool.not_eq_false', beq_self_eq_true, Bool.not_true, Bool.not_false, List.getElem?_toArray, List.getElem?_cons_zero, List.getElem?_cons_succ]
          refine led_lit0 (O := eventO) li24 l fun b1 V _ l => ?_
          simp (disch := omega) only [↓stq, amv_at, ↓pln, plv, nilOk, Nat.reduceBEq, Bool.or_false, Bool.or_true, Bool.false_or, Bool.true_or, vls, inf, frs, mark_eq, ↓reduceIte, Nat.reduceEqDiff, ite_tt, ite_ff, eq_self, and_true, true_and, and_self, implies_true, Bool.true_eq_false, Bool.false_eq_true, decide_true, decide_false, decide_eq_true_eq, decide_eq_false_iff_not, ne_eq, not_true_eq_false, not_false_eq_true, Bool.not_eq_true', Bool.not_eq_false', beq_self_eq_true, Bool.not_true, Bool.not_false, List.getElem?_toArray, List.getElem?_cons_zero, List.getElem?_cons_succ, false_implies]
          have hO : Sl eventS V (.slice (some ⟨b, 0, none⟩) es.length ce) es := OSl.toS (l.at (i := 2) rfl)
          refine led_app (O := eventO) ap24_24 (by decide) l (i := 0) rfl (Sl.srcOf (hO.take (k := k) (by omega) 2)) (by rw [List.length_nil, List.length_take]; omega) fun f1 w1 V _ l => ?_
          rw [List.nil_append] at l
          simp (disch := omega) only [↓stq, amv_at, ↓pln, plv, nilOk, Nat.reduceBEq, Bool.or_false, Bool.or_true, Bool.false_or, Bool.true_or, vls, inf, frs, mark_eq, ↓reduceIte, Nat.reduceEqDiff, ite_tt, ite_ff, eq_self, and_true, true_and, and_self, implies_true, Bool.true_eq_false, Bool.false_eq_true, decide_true, decide_false, decide_eq_true_eq, decide_eq_false_iff_not, ne_eq, not_true_eq_false, not_false_eq_true, Bool.not_eq_true', Bool.not_eq_false', beq_self_eq_true, Bool.not_true, Bool.not_false, List.getElem?_toArray, List.getElem?_cons_zero, List.getElem?_cons_succ, false_implies]
          have hO : Sl eventS V (.slice (some ⟨b, 0, none⟩) es.length ce) es := OSl.toS (l.at (i := 2) rfl)
          have hdd : ((k : Int) + 1).toNat = k + 1 := by omega
          refine led_app (O := eventO) ap24_24 (by decide) l (i := 0) rfl (Sl.srcOf (hO.drop (k := k + 1) (by omega))) (by rw [List.length_take, List.length_drop]; omega) fun f2 w2 V _ l => ?_
          simp (disch := omega) only [↓stq, amv_at, ↓pln, plv, nilOk, Nat.reduceBEq, Bool.or_false, Bool.or_true, Bool.false_or, Bool.true_or, vls, inf, frs, mark_eq, ↓reduceIte, Nat.reduceEqDiff, ite_tt, ite_ff, eq_self, and_true, true_and, and_self, implies_true, Bool.true_eq_false, Bool.false_eq_true, decide_true, decide_false, decide_eq_true_eq, decide_eq_false_iff_not, ne_eq, not_true_eq_false, not_false_eq_true, Bool.not_eq_true', Bool.not_eq_false', beq_self_eq_true, Bool.not_true, Bool.not_false, List.getElem?_toArray, List.getElem?_cons_zero, List.getElem?_cons_succ, false_implies]
          replace l : Led B (rdr q sl (N + 300 + 1 + 1 + 1) :: osl 56 eventO f2 w2 (es.take k ++ es.drop (k + 1)) :: bx q4 ⟨41, d, 2, true⟩ :: bx q2 ⟨41, [.slice none 0 0, .slice none 0 0], 2, true⟩ :: L) V := (l.sub (M := osl 56 eventO f2 w2 (es.take k ++ es.drop (k + 1)) :: rdr q sl (N + 300 + 1 + 1 + 1) :: bx q4 ⟨41, d, 2, true⟩ :: bx q2 ⟨41, [.slice none 0 0, .slice none 0 0], 2, true⟩ :: L) (.cons_cons _ (.cons_cons _ (.cons _ (List.Sublist.refl _))))).perm (List.Perm.swap ..)
          have hge2 : ∀ e, e ∈ es.take k ++ es.drop (k + 1) → genE e := genE_app (fun e he => hge e (List.mem_of_mem_take he)) fun e he => hge e (List.mem_of_mem_drop he)
          have kp : V.part ⟨q4, 0, none⟩ 2 = some d := l.partn (i := 2) rfl hd.1 hd.2
          simp (disch := omega) only [↓stq, amv_at, vls, inf, frs, mark_eq, ↓reduceIte, Nat.reduceEqDiff, ite_tt, ite_ff, eq_self, and_true, true_and, and_self, implies_true, Bool.true_eq_false, Bool.false_eq_true, decide_true, decide_false, decide_eq_true_eq, decide_eq_false_iff_not, ne_eq, not_true_eq_false, not_false_eq_true, Bool.not_eq_true', Bool.not_eq_false', beq_self_eq_true, Bool.not_true, Bool.not_false, List.getElem?_toArray, List.getElem?_cons_zero, List.getElem?_cons_succ, kp]
          refine led_storeAll l 3 rfl sz41 hd.1 rfl hd.2 fun V l => ?_
          have k2 : V.part ⟨q2, 0, none⟩ 2 = some d := l.partn (i := 3) rfl hd.1 hd.2
          simp (disch := omega) only [↓stq, amv_at, vls, inf, frs, mark_eq, ↓reduceIte, Nat.reduceEqDiff, ite_tt, ite_ff, eq_self, and_true, true_and, and_self, implies_true, Bool.true_eq_false, Bool.false_eq_true, decide_true, decide_false, decide_eq_true_eq, decide_eq_false_iff_not, ne_eq, not_true_eq_false, not_false_eq_true, Bool.not_eq_true', Bool.not_eq_false', beq_self_eq_true, Bool.not_true, Bool.not_false, List.getElem?_toArray, List.getElem?_cons_zero, List.getElem?_cons_succ, k2]
          exact ⟨d, f2, _, _, rfl, hd, by rw [List.length_append, List.length_take, List.length_drop]; omega, hge2, done V _ _ _ _ (by omega) l⟩
        · refine ⟨fun e5 => ?_, fun e5 => ?_⟩ <;> simp (disch := omega) only [↓stq, amv_at, vls, inf, frs, mark_eq, ↓reduceIte, Nat.reduceEqDiff, ite_tt, ite_ff, eq_self, and_true, true_and, and_self, implies_true, Bool.true_eq_false, Bool.false_eq_true, decide_true, decide_false, decide_eq_true_eq, decide_eq_false_iff_not, ne_eq, not_true_eq_false, not_false_eq_true, Bool.not_eq_true', Bool.not_eq_false', beq_self_eq_true, Bool.not_true, Bool.not_false, List.getElem?_toArray, List.getElem?_cons_zero, List.getElem?_cons_succ]
          · have hO : Sl eventS V (.slice (some ⟨b, 0, none⟩) es.length ce) es := OSl.toS (l.at (i := 1) rfl)
            obtain ⟨_, hq, k0, r0, z0⟩ := hO.event (i := 0) (by omega)
            obtain rfl := Option.some.inj hq
            obtain ⟨_, hq, kk, rk, zk⟩ := hO.event hkl
            obtain rfl := Option.some.inj hq
            simp (disch := omega) only [↓stq, amv_at, vls, inf, frs, mark_eq, ↓reduceIte, Nat.reduceEqDiff, ite_tt, ite_ff, eq_self, and_true, true_and, and_self, implies_true, Bool.true_eq_false, Bool.false_eq_true, decide_true, decide_false, decide_eq_true_eq, decide_eq_false_iff_not, ne_eq, not_true_eq_false, not_false_eq_true, Bool.not_eq_true', Bool.not_eq_false', beq_self_eq_true, Bool.not_true, Bool.not_false, List.getElem?_toArray, List.getElem?_cons_zero, List.getElem?_cons_succ, k0, Int.toNat_zero]
            refine led_alloc zc56 l fun q7 V _ l => ?_
            simp (disch := omega) only [↓stq, amv_at, vls, inf, frs, mark_eq, ↓reduceIte, Nat.reduceEqDiff, ite_tt, ite_ff, eq_self, and_true, true_and, and_self, implies_true, Bool.true_eq_false, Bool.false_eq_true, decide_true, decide_false, decide_eq_true_eq, decide_eq_false_iff_not, ne_eq, not_true_eq_false, not_false_eq_true, Bool.not_eq_true', Bool.not_eq_false', beq_self_eq_true, Bool.not_true, Bool.not_false, List.getElem?_toArray, List.getElem?_cons_zero, List.getElem?_cons_succ]
            refine led_storeAll l 0 rfl sz56 rfl rfl (by simp [Value.oneCell']) fun V l => ?_
            have hO : Sl eventS V (.slice (some ⟨b, 0, none⟩) es.length ce) es := OSl.toS (l.at (i := 2) rfl)
            obtain ⟨_, hq, kk, _, _⟩ := hO.event hkl
            obtain rfl := Option.some.inj hq
            simp (disch := omega) only [↓stq, amv_at, vls, inf, frs, mark_eq, ↓reduceIte, Nat.reduceEqDiff, ite_tt, ite_ff, eq_self, and_true, true_and, and_self, implies_true, Bool.true_eq_false, Bool.false_eq_true, decide_true, decide_false, decide_eq_true_eq, decide_eq_false_iff_not, ne_eq, not_true_eq_false, not_false_eq_true, Bool.not_eq_true', Bool.not_eq_false', beq_self_eq_true, Bool.not_true, Bool.not_false, List.getElem?_toArray, List.getElem?_cons_zero, List.getElem?_cons_succ, kk]
            rw [add_at]
            refine led_setS (z := [.int .i64 (es[k]).1, .string (es[k]).2.1]) (x' := es[k]) l (i := 2) (k := 0) rfl (by omega) sz56 rfl (eventS_mk rk zk) fun V _ l => ?_
            have m7 : V.part ⟨q7, 0, none⟩ 2 = some [.int .i64 (es[0]).1, .string (es[0]).2.1] := l.part (i := 0) rfl rfl
            simp (disch := omega) only [↓stq, amv_at, vls, inf, frs, mark_eq, ↓reduceIte, Nat.reduceEqDiff, ite_tt, ite_ff, eq_self, and_true, true_and, and_self, implies_true, Bool.true_eq_false, Bool.false_eq_true, decide_true, decide_false, decide_eq_true_eq, decide_eq_false_iff_not, ne_eq, not_true_eq_false, not_false_eq_true, Bool.not_eq_true', Bool.not_eq_false', beq_self_eq_true, Bool.not_true, Bool.not_false, List.getElem?_toArray, List.getElem?_cons_zero, List.getElem?_cons_succ, m7]
            rw [add_at]
            refine led_setS (z := [.int .i64 (es[0]).1, .string (es[0]).2.1]) (x' := es[0]) l (i := 2) (k := k) rfl (by rw [List.length_set]; omega) sz56 (by show 0 + k * 2 = k * 2; omega) (eventS_mk r0 z0) fun V _ l => ?_
            replace l := l.tail
            have hge2 : ∀ e, e ∈ (es.set 0 es[k]).set k es[0] → genE e := genE_set (genE_set hge (hge _ (List.getElem_mem _)) 0) (hge _ (List.getElem_mem _)) k
            have kp : V.part ⟨q4, 0, none⟩ 2 = some d := l.partn (i := 2) rfl hd.1 hd.2
            simp (disch := omega) only [↓stq, amv_at, vls, inf, frs, mark_eq, ↓reduceIte, Nat.reduceEqDiff, ite_tt, ite_ff, eq_self, and_true, true_and, and_self, implies_true, Bool.true_eq_false, Bool.false_eq_true, decide_true, decide_false, decide_eq_true_eq, decide_eq_false_iff_not, ne_eq, not_true_eq_false, not_false_eq_true, Bool.not_eq_true', Bool.not_eq_false', beq_self_eq_true, Bool.not_true, Bool.not_false, List.getElem?_toArray, List.getElem?_cons_zero, List.getElem?_cons_succ, kp]
            refine led_storeAll l 3 rfl sz41 hd.1 rfl hd.2 fun V l => ?_
            have k2 : V.part ⟨q2, 0, none⟩ 2 = some d := l.partn (i := 3) rfl hd.1 hd.2
            simp (disch := omega) only [↓stq, amv_at, vls, inf, frs, mark_eq, ↓reduceIte, Nat.reduceEqDiff, ite_tt, ite_ff, eq_self, and_true, true_and, and_self, implies_true, Bool.true_eq_false, Bool.false_eq_true, decide_true, decide_false, decide_eq_true_eq, decide_eq_false_iff_not, ne_eq, not_true_eq_false, not_false_eq_true, Bool.not_eq_true', Bool.not_eq_false', beq_self_eq_true, Bool.not_true, Bool.not_false, List.getElem?_toArray, List.getElem?_cons_zero, List.getElem?_cons_succ, k2]
            exact ⟨d, fe, _, _, rfl, hd, by rw [List.length_set, List.length_set]; omega, hge2, done V _ _ _ _ (by omega) l⟩
          · refine ⟨fun e6 => ?_, fun e6 => ?_⟩ <;> simp (disch := omega) only [↓stq, amv_at, vls, inf, frs, mark_eq, ↓reduceIte, Nat.reduceEqDiff, ite_tt, ite_ff, eq_self, and_true, true_and, and_self, implies_true, Bool.true_eq_false, Bool.false_eq_true, decide_true, decide_false, decide_eq_true_eq, decide_eq_false_iff_not, ne_eq, not_true_eq_false, not_false_eq_true, Bool.not_eq_true', Bool.not_eq_false', beq_self_eq_true, Bool.not_true, Bool.not_false, List.getElem?_toArray, List.getElem?_cons_zero, List.getElem?_cons_succ]
            · refine led_lit li54 (by omega) rfl (by simp [Value.cells, Value.oneCell']) l fun bl V _ l => ?_
              simp (disch := omega) only [↓stq, amv_at, vls, inf, frs, mark_eq, ↓reduceIte, Nat.reduceEqDiff, ite_tt, ite_ff, eq_self, and_true, true_and, and_self, implies_true, Bool.true_eq_false, Bool.false_eq_true, decide_true, decide_false, decide_eq_true_eq, decide_eq_false_iff_not, ne_eq, not_true_eq_false, not_false_eq_true, Bool.not_eq_true', Bool.not_eq_false', beq_self_eq_true, Bool.not_true, Bool.not_false, List.getElem?_toArray, List.getElem?_cons_zero, List.getElem?_cons_succ]
              refine (ofLit_c (n := 4) (c := 4) (xs := [_, _, _, _]) B V _ q sl _ hb (by omega) rfl rfl (by omega) (by decide) (by omega) (by omega) l).mono ?_
              rintro _ V ⟨s, rfl, hs, l⟩
              have hsz : s.size ≤ 100 := by revert s; decide
              have hgk := hge _ (List.getElem_mem hkl)
              simp (disch := omega) only [↓stq, amv_at, vls, inf, frs, mark_eq, ↓reduceIte, Nat.reduceEqDiff, ite_tt, ite_ff, eq_self, and_true, true_and, and_self, implies_true, Bool.true_eq_false, Bool.false_eq_true, decide_true, decide_false, decide_eq_true_eq, decide_eq_false_iff_not, ne_eq, not_true_eq_false, not_false_eq_true, Bool.not_eq_true', Bool.not_eq_false', beq_self_eq_true, Bool.not_true, Bool.not_false, List.getElem?_toArray, List.getElem?_cons_zero, List.getElem?_cons_succ]
              rw [add_at, add_at]
              refine led_setelem (x' := ((es[k]).1, s, ())) l (i := 1) (k := k) rfl hkl sz9 (j := 1) (by show 0 + k * 2 + 1 = k * 2 + 1; omega) ⟨rfl, rfl⟩ (fun q hq => by
                obtain ⟨rfl, h1, h2⟩ := eventS_open hq
                exact ⟨by show (1 : Nat) < 2; omega, eventS_mk (x := ((es[k]).1, s, ())) h1 (by show s.size ≤ _; omega)⟩) fun V _ l => ?_
              have hge2 : ∀ e, e ∈ es.set k ((es[k]).1, s, ()) → genE e := genE_set (y := ((es[k]).1, s, ())) hge ⟨hgk.1, hgk.2.1, by show s.size ≤ 300; omega⟩ k
              have kp : V.part ⟨q4, 0, none⟩ 2 = some d := l.partn (i := 2) rfl hd.1 hd.2
              simp (disch := omega) only [↓stq, amv_at, vls, inf, frs, mark_eq, ↓reduceIte, Nat.reduceEqDiff, ite_tt, ite_ff, eq_self, and_true, true_and, and_self, implies_true, Bool.true_eq_false, Bool.false_eq_true, decide_true, decide_false, decide_eq_true_eq, decide_eq_false_iff_not, ne_eq, not_true_eq_false, not_false_eq_true, Bool.not_eq_true', Bool.not_eq_false', beq_self_eq_true, Bool.not_true, Bool.not_false, List.getElem?_toArray, List.getElem?_cons_zero, List.getElem?_cons_succ, kp]
              refine led_storeAll l 3 rfl sz41 hd.1 rfl hd.2 fun V l => ?_
              have k2 : V.part ⟨q2, 0, none⟩ 2 = some d := l.partn (i := 3) rfl hd.1 hd.2
              simp (disch := omega) only [↓stq, amv_at, vls, inf, frs, mark_eq, ↓reduceIte, Nat.reduceEqDiff, ite_tt, ite_ff, eq_self, and_true, true_and, and_self, implies_true, Bool.true_eq_false, Bool.false_eq_true, decide_true, decide_false, decide_eq_true_eq, decide_eq_false_iff_not, ne_eq, not_true_eq_false, not_false_eq_true, Bool.not_eq_true', Bool.not_eq_false', beq_self_eq_true, Bool.not_true, Bool.not_false, List.getElem?_toArray, List.getElem?_cons_zero, List.getElem?_cons_succ, k2]
              exact ⟨d, fe, _, _, rfl, hd, by rw [List.length_set]; omega, hge2, done V _ _ _ _ (by omega) l⟩
            · refine led_lit li90 (by omega) rfl (by simp [Value.cells, Value.oneCell']) l fun bl V _ l => ?_
              simp (disch := omega) only [↓stq, amv_at, vls, inf, frs, mark_eq, ↓reduceIte, Nat.reduceEqDiff, ite_tt, ite_ff, eq_self, and_true, true_and, and_self, implies_true, Bool.true_eq_false, Bool.false_eq_true, decide_true, decide_false, decide_eq_true_eq, decide_eq_false_iff_not, ne_eq, not_true_eq_false, not_false_eq_true, Bool.not_eq_true', Bool.not_eq_false', beq_self_eq_true, Bool.not_true, Bool.not_false, List.getElem?_toArray, List.getElem?_cons_zero, List.getElem?_cons_succ]
              refine (oneLit_c (n := 5) (c := 5) (xs := [_, _, _, _, _]) B V _ q sl _ hb (by omega) rfl rfl (by omega) (by decide) (by omega) (by omega) l).mono ?_
              rintro _ V ⟨s, rfl, hs, l⟩
              have hsz : -1 ≤ s ∧ s ≤ 3 := by revert s; decide
              have hgk := hge _ (List.getElem_mem hkl)
              simp (disch := omega) only [↓stq, amv_at, vls, inf, frs, mark_eq, ↓reduceIte, Nat.reduceEqDiff, ite_tt, ite_ff, eq_self, and_true, true_and, and_self, implies_true, Bool.true_eq_false, Bool.false_eq_true, decide_true, decide_false, decide_eq_true_eq, decide_eq_false_iff_not, ne_eq, not_true_eq_false, not_false_eq_true, Bool.not_eq_true', Bool.not_eq_false', beq_self_eq_true, Bool.not_true, Bool.not_false, List.getElem?_toArray, List.getElem?_cons_zero, List.getElem?_cons_succ]
              rw [add_at, add_at]
              refine led_setelem (x' := (s, (es[k]).2.1, ())) l (i := 1) (k := k) rfl hkl sz3 (j := 0) (by show 0 + k * 2 + 0 = k * 2 + 0; omega) ⟨rfl, rfl⟩ (fun q hq => by
                obtain ⟨rfl, h1, h2⟩ := eventS_open hq
                exact ⟨by show (0 : Nat) < 2; omega, eventS_mk (x := (s, (es[k]).2.1, ())) (by show (_ : Int) ≤ s ∧ s < _; omega) h2⟩) fun V _ l => ?_
              have hge2 : ∀ e, e ∈ es.set k (s, (es[k]).2.1, ()) → genE e := genE_set (y := (s, (es[k]).2.1, ())) hge ⟨hsz.1, hsz.2, hgk.2.2⟩ k
              have kp : V.part ⟨q4, 0, none⟩ 2 = some d := l.partn (i := 2) rfl hd.1 hd.2
              simp (disch := omega) only [↓stq, amv_at, vls, inf, frs, mark_eq, ↓reduceIte, Nat.reduceEqDiff, ite_tt, ite_ff, eq_self, and_true, true_and, and_self, implies_true, Bool.true_eq_false, Bool.false_eq_true, decide_true, decide_false, decide_eq_true_eq, decide_eq_false_iff_not, ne_eq, not_true_eq_false, not_false_eq_true, Bool.not_eq_true', Bool.not_eq_false', beq_self_eq_true, Bool.not_true, Bool.not_false, List.getElem?_toArray, List.getElem?_cons_zero, List.getElem?_cons_succ, kp]
              refine led_storeAll l 3 rfl sz41 hd.1 rfl hd.2 fun V l => ?_
              have k2 : V.part ⟨q2, 0, none⟩ 2 = some d := l.partn (i := 3) rfl hd.1 hd.2
              simp (disch := omega) only [↓stq, amv_at, vls, inf, frs, mark_eq, ↓reduceIte, Nat.reduceEqDiff, ite_tt, ite_ff, eq_self, and_true, true_and, and_self, implies_true, Bool.true_eq_false, Bool.false_eq_true, decide_true, decide_false, decide_eq_true_eq, decide_eq_false_iff_not, ne_eq, not_true_eq_false, not_false_eq_true, Bool.not_eq_true', Bool.not_eq_false', beq_self_eq_true, Bool.not_true, Bool.not_false, List.getElem?_toArray, List.getElem?_cons_zero, List.getElem?_cons_succ, k2]
              exact ⟨d, fe, _, _, rfl, hd, by rw [List.length_set]; omega, hge2, done V _ _ _ _ (by omega) l⟩
      · have kp : V.part ⟨q4, 0, none⟩ 2 = some d := l.partn (i := 2) rfl hd.1 hd.2
        simp (disch := omega) only [↓stq, amv_at, vls, inf, frs, mark_eq, ↓reduceIte, Nat.reduceEqDiff, ite_tt, ite_ff, eq_self, and_true, true_and, and_self, implies_true, Bool.true_eq_false, Bool.false_eq_true, decide_true, decide_false, decide_eq_true_eq, decide_eq_false_iff_not, ne_eq, not_true_eq_false, not_false_eq_true, Bool.not_eq_true', Bool.not_eq_false', beq_self_eq_true, Bool.not_true, Bool.not_false, List.getElem?_toArray, List.getElem?_cons_zero, List.getElem?_cons_succ, kp]
        refine led_storeAll l 3 rfl sz41 hd.1 rfl hd.2 fun V l => ?_
        have k2 : V.part ⟨q2, 0, none⟩ 2 = some d := l.partn (i := 3) rfl hd.1 hd.2
        simp (disch := omega) only [↓stq, amv_at, vls, inf, frs, mark_eq, ↓reduceIte, Nat.reduceEqDiff, ite_tt, ite_ff, eq_self, and_true, true_and, and_self, implies_true, Bool.true_eq_false, Bool.false_eq_true, decide_true, decide_false, decide_eq_true_eq, decide_eq_false_iff_not, ne_eq, not_true_eq_false, not_false_eq_true, Bool.not_eq_true', Bool.not_eq_false', beq_self_eq_true, Bool.not_true, Bool.not_false, List.getElem?_toArray, List.getElem?_cons_zero, List.getElem?_cons_succ, k2]
        exact ⟨d, fe, _, es, rfl, hd, hel, hge, done V _ _ _ _ (by omega) l⟩
    · have kp : V3.part ⟨q4, 0, none⟩ 2 = some d := l.partn (i := 2) rfl hd.1 hd.2
      simp (disch := omega) only [↓stq, amv_at, vls, inf, frs, mark_eq, ↓reduceIte, Nat.reduceEqDiff, ite_tt, ite_ff, eq_self, and_true, true_and, and_self, implies_true, Bool.true_eq_false, Bool.false_eq_true, decide_true, decide_false, decide_eq_true_eq, decide_eq_false_iff_not, ne_eq, not_true_eq_false, not_false_eq_true, Bool.not_eq_true', Bool.not_eq_false', beq_self_eq_true, Bool.not_true, Bool.not_false, List.getElem?_toArray, List.getElem?_cons_zero, List.getElem?_cons_succ, kp]
      refine led_storeAll l 3 rfl sz41 hd.1 rfl hd.2 fun V l => ?_
      have k2 : V.part ⟨q2, 0, none⟩ 2 = some d := l.partn (i := 3) rfl hd.1 hd.2
      simp (disch := omega) only [↓stq, amv_at, vls, inf, frs, mark_eq, ↓reduceIte, Nat.reduceEqDiff, ite_tt, ite_ff, eq_self, and_true, true_and, and_self, implies_true, Bool.true_eq_false, Bool.false_eq_true, decide_true, decide_false, decide_eq_true_eq, decide_eq_false_iff_not, ne_eq, not_true_eq_false, not_false_eq_true, Bool.not_eq_true', Bool.not_eq_false', beq_self_eq_true, Bool.not_true, Bool.not_false, List.getElem?_toArray, List.getElem?_cons_zero, List.getElem?_cons_succ, k2]
      exact ⟨d, fe, _, es, rfl, hd, hel, hge, done V _ _ _ _ (by omega) l⟩

end Go.Proofs.Ytggklaimbklefaa

/- Generators of texts of plans. -/
set_option maxHeartbeats 4000000
set_option synthInstance.maxHeartbeats 400000
set_option synthInstance.maxSize 4096
set_option linter.unusedSimpArgs false
set_option linter.unusedVariables false
namespace Go.Proofs.Ytggklaimbklefaa

set_option maxRecDepth 100000

theorem genE_text : ∀ {es : List EventD}, (∀ e, e ∈ es → genE e) → (textE es).length ≤ 306 * es.length
  | [], _ => by simp [textE]
  | e :: es, h => by
    have h1 := genE_text fun x hx => h x (List.mem_cons_of_mem _ hx)
    have h2 := lineE_len e
    have h3 := (h e (List.mem_cons_self ..)).2.2
    have hc : textE (e :: es) = lineE e ++ textE es := rfl
    rw [hc, List.length_append, List.length_cons]
    omega

theorem ext_size (s : ByteArray) (i j : Nat) (hj : j ≤ s.size) (hi : i ≤ j) : (s.extract i j).size = j - i := by
  rw [ByteArray.size_extract]
  omega

theorem mutate_c (B A : View) (L : List It) (q : Nat) (sl : Value) (N : Nat) (s : ByteArray) (hs : s.size ≤ 1048576) (hb : Bts B sl) (hN : N ≤ 900000000) (l : Led B (rdr q sl N :: L) A) : ACalls Try.prog 23 #[.pointer (some ⟨q, 0, none⟩), .string s] A fun r V => ∃ s' : ByteArray, r = .string s' ∧ s'.size ≤ s.size + 1 ∧ Led B (rdr q sl (N + 3) :: L) V := by
  refine acalls Try.func23 rfl (by kernel_rfl) ?_
  simp (disch := omega) only [↓stq, amv_at, vls, inf, frs, mark_eq, ↓reduceIte, Nat.reduceEqDiff, ite_tt, ite_ff, eq_self, and_true, true_and, and_self, implies_true, Bool.true_eq_false, Bool.false_eq_true, decide_true, decide_false, decide_eq_true_eq, decide_eq_false_iff_not, ne_eq, not_true_eq_false, not_false_eq_true, Bool.not_eq_true', Bool.not_eq_false', beq_self_eq_true, Bool.not_true, Bool.not_false, List.getElem?_toArray, List.getElem?_cons_zero, List.getElem?_cons_succ]
  refine (pick_c B A L q sl N _ hb (by omega) ⟨by omega, by omega⟩ l).mono ?_
  rintro _ V ⟨k, rfl, hk0, hk1, l⟩
  obtain ⟨k, rfl⟩ := Int.eq_ofNat_of_zero_le hk0
  have hkl : k ≤ s.size := by omega
  simp (disch := omega) only [↓stq, amv_at, vls, inf, frs, mark_eq, ↓reduceIte, Nat.reduceEqDiff, ite_tt, ite_ff, eq_self, and_true, true_and, and_self, implies_true, Bool.true_eq_false, Bool.false_eq_true, decide_true, decide_false, decide_eq_true_eq, decide_eq_false_iff_not, ne_eq, not_true_eq_false, not_false_eq_true, Bool.not_eq_true', Bool.not_eq_false', beq_self_eq_true, Bool.not_true, Bool.not_false, List.getElem?_toArray, List.getElem?_cons_zero, List.getElem?_cons_succ]
  refine (pick_c B V L q sl (N + 1) 5 hb (by omega) ⟨by omega, by omega⟩ l).mono ?_
  rintro _ V ⟨u, rfl, hu0, hu1, l⟩
  have one : ∀ x : ByteArray, x.size = 1 → ∀ V, Led B (rdr q sl (N + 1 + 1 + 1) :: L) V → k < s.size → (s.extract 0 k ++ x ++ s.extract (k + 1) s.size).size ≤ s.size + 1 := fun x hx V _ hk => by
    rw [ByteArray.size_append, ByteArray.size_append, ext_size s 0 k (by omega) (by omega), ext_size s (k + 1) s.size (by omega) (by omega), hx]
    omega
  have fin : ∀ V, Led B (rdr q sl (N + 1 + 1) :: L) V → ∃ s' : ByteArray, Value.string s = .string s' ∧ s'.size ≤ s.size + 1 ∧ Led B (rdr q sl (N + 3) :: L) V := fun V l => ⟨s, rfl, by omega, rdr_more l (by omega)⟩
  by_cases u0 : u = 0
  · simp (disch := omega) only [↓stq, amv_at, vls, inf, frs, mark_eq, ↓reduceIte, Nat.reduceEqDiff, ite_tt, ite_ff, eq_self, and_true, true_and, and_self, implies_true, Bool.true_eq_false, Bool.false_eq_true, decide_true, decide_false, decide_eq_true_eq, decide_eq_false_iff_not, ne_eq, not_true_eq_false, not_false_eq_true, Bool.not_eq_true', Bool.not_eq_false', beq_self_eq_true, Bool.not_true, Bool.not_false, List.getElem?_toArray, List.getElem?_cons_zero, List.getElem?_cons_succ, eq_true u0]
    refine ⟨fun e1 => ?_, fun e1 => ?_⟩
    · simp (disch := omega) only [↓stq, amv_at, vls, inf, frs, mark_eq, ↓reduceIte, Nat.reduceEqDiff, ite_tt, ite_ff, eq_self, and_true, true_and, and_self, implies_true, Bool.true_eq_false, Bool.false_eq_true, decide_true, decide_false, decide_eq_true_eq, decide_eq_false_iff_not, ne_eq, not_true_eq_false, not_false_eq_true, Bool.not_eq_true', Bool.not_eq_false', beq_self_eq_true, Bool.not_true, Bool.not_false, List.getElem?_toArray, List.getElem?_cons_zero, List.getElem?_cons_succ]
      refine adraw_items [.q 0, .q 1, .q 2, .q 3, .q 7, .q 8, .q 9, .q 10, .c 4 [], .c 5 [], .q 6, .q 11, .q 12] (by kernel_rfl) (by kernel_rfl) ?_
      simp (disch := omega) only [↓stq, amv_at, ↓pln, plv, nilOk, Nat.reduceBEq, Bool.or_false, Bool.or_true, Bool.false_or, Bool.true_or, vls, inf, frs, mark_eq, ↓reduceIte, Nat.reduceEqDiff, ite_tt, ite_ff, eq_self, and_true, true_and, and_self, implies_true, Bool.true_eq_false, Bool.false_eq_true, decide_true, decide_false, decide_eq_true_eq, decide_eq_false_iff_not, ne_eq, not_true_eq_false, not_false_eq_true, Bool.not_eq_true', Bool.not_eq_false', beq_self_eq_true, Bool.not_true, Bool.not_false, List.getElem?_toArray, List.getElem?_cons_zero, List.getElem?_cons_succ, false_implies]
      refine led_lit li54 (by omega) rfl (by simp [Value.cells, Value.oneCell']) l fun bl V _ l => ?_
      simp (disch := omega) only [↓stq, amv_at, ↓pln, plv, nilOk, Nat.reduceBEq, Bool.or_false, Bool.or_true, Bool.false_or, Bool.true_or, vls, inf, frs, mark_eq, ↓reduceIte, Nat.reduceEqDiff, ite_tt, ite_ff, eq_self, and_true, true_and, and_self, implies_true, Bool.true_eq_false, Bool.false_eq_true, decide_true, decide_false, decide_eq_true_eq, decide_eq_false_iff_not, ne_eq, not_true_eq_false, not_false_eq_true, Bool.not_eq_true', Bool.not_eq_false', beq_self_eq_true, Bool.not_true, Bool.not_false, List.getElem?_toArray, List.getElem?_cons_zero, List.getElem?_cons_succ, false_implies]
      refine (ofLit_c (n := 9) (c := 9) (xs := [_, _, _, _, _, _, _, _, _]) B V L q sl _ hb (by omega) rfl rfl (by omega) (by decide) (by omega) (by omega) l).mono ?_
      rintro _ V ⟨x, rfl, hx, l⟩
      have hx1 : x.size = 1 := by revert hx; revert x; decide
      have s2 := ByteArray.size_append (a := s.extract 0 k) (b := x)
      have eK : ((k : Int) + 1).toNat = k + 1 := by omega
      have s3 := ext_size s 0 k (by omega) (by omega)
      have s4 := ext_size s (k + 1) s.size (by omega) (by omega)
      simp (disch := omega) only [↓stq, amv_at, ↓pln, plv, nilOk, Nat.reduceBEq, Bool.or_false, Bool.or_true, Bool.false_or, Bool.true_or, vls, inf, frs, mark_eq, ↓reduceIte, Nat.reduceEqDiff, ite_tt, ite_ff, eq_self, and_true, true_and, and_self, implies_true, Bool.true_eq_false, Bool.false_eq_true, decide_true, decide_false, decide_eq_true_eq, decide_eq_false_iff_not, ne_eq, not_true_eq_false, not_false_eq_true, Bool.not_eq_true', Bool.not_eq_false', beq_self_eq_true, Bool.not_true, Bool.not_false, List.getElem?_toArray, List.getElem?_cons_zero, List.getElem?_cons_succ, false_implies, eK]
      exact ⟨_, rfl, one x hx1 V l (by omega), l⟩
    · simp (disch := omega) only [↓stq, amv_at, vls, inf, frs, mark_eq, ↓reduceIte, Nat.reduceEqDiff, ite_tt, ite_ff, eq_self, and_true, true_and, and_self, implies_true, Bool.true_eq_false, Bool.false_eq_true, decide_true, decide_false, decide_eq_true_eq, decide_eq_false_iff_not, ne_eq, not_true_eq_false, not_false_eq_true, Bool.not_eq_true', Bool.not_eq_false', beq_self_eq_true, Bool.not_true, Bool.not_false, List.getElem?_toArray, List.getElem?_cons_zero, List.getElem?_cons_succ]
      exact fin V l
  by_cases u1 : u = 1
  · simp (disch := omega) only [↓stq, amv_at, vls, inf, frs, mark_eq, ↓reduceIte, Nat.reduceEqDiff, ite_tt, ite_ff, eq_self, and_true, true_and, and_self, implies_true, Bool.true_eq_false, Bool.false_eq_true, decide_true, decide_false, decide_eq_true_eq, decide_eq_false_iff_not, ne_eq, not_true_eq_false, not_false_eq_true, Bool.not_eq_true', Bool.not_eq_false', beq_self_eq_true, Bool.not_true, Bool.not_false, List.getElem?_toArray, List.getElem?_cons_zero, List.getElem?_cons_succ, eq_false u0, eq_true u1]
    refine ⟨fun e1 => ?_, fun e1 => ?_⟩
    · simp (disch := omega) only [↓stq, amv_at, vls, inf, frs, mark_eq, ↓reduceIte, Nat.reduceEqDiff, ite_tt, ite_ff, eq_self, and_true, true_and, and_self, implies_true, Bool.true_eq_false, Bool.false_eq_true, decide_true, decide_false, decide_eq_true_eq, decide_eq_false_iff_not, ne_eq, not_true_eq_false, not_false_eq_true, Bool.not_eq_true', Bool.not_eq_false', beq_self_eq_true, Bool.not_true, Bool.not_false, List.getElem?_toArray, List.getElem?_cons_zero, List.getElem?_cons_succ]
      refine adraw_items [.q 0, .q 1, .q 2, .q 3, .q 7, .q 8, .q 9, .q 10, .c 4 [], .c 5 [], .q 6, .q 11, .q 12] (by kernel_rfl) (by kernel_rfl) ?_
      simp (disch := omega) only [↓stq, amv_at, ↓pln, plv, nilOk, Nat.reduceBEq, Bool.or_false, Bool.or_true, Bool.false_or, Bool.true_or, vls, inf, frs, mark_eq, ↓reduceIte, Nat.reduceEqDiff, ite_tt, ite_ff, eq_self, and_true, true_and, and_self, implies_true, Bool.true_eq_false, Bool.false_eq_true, decide_true, decide_false, decide_eq_true_eq, decide_eq_false_iff_not, ne_eq, not_true_eq_false, not_false_eq_true, Bool.not_eq_true', Bool.not_eq_false', beq_self_eq_true, Bool.not_true, Bool.not_false, List.getElem?_toArray, List.getElem?_cons_zero, List.getElem?_cons_succ, false_implies]
      refine led_lit li54 (by omega) rfl (by simp [Value.cells, Value.oneCell']) l fun bl V _ l => ?_
      simp (disch := omega) only [↓stq, amv_at, ↓pln, plv, nilOk, Nat.reduceBEq, Bool.or_false, Bool.or_true, Bool.false_or, Bool.true_or, vls, inf, frs, mark_eq, ↓reduceIte, Nat.reduceEqDiff, ite_tt, ite_ff, eq_self, and_true, true_and, and_self, implies_true, Bool.true_eq_false, Bool.false_eq_true, decide_true, decide_false, decide_eq_true_eq, decide_eq_false_iff_not, ne_eq, not_true_eq_false, not_false_eq_true, Bool.not_eq_true', Bool.not_eq_false', beq_self_eq_true, Bool.not_true, Bool.not_false, List.getElem?_toArray, List.getElem?_cons_zero, List.getElem?_cons_succ, false_implies]
      refine (ofLit_c (n := 9) (c := 9) (xs := [_, _, _, _, _, _, _, _, _]) B V L q sl _ hb (by omega) rfl rfl (by omega) (by decide) (by omega) (by omega) l).mono ?_
      rintro _ V ⟨x, rfl, hx, l⟩
      have hx1 : x.size = 1 := by revert hx; revert x; decide
      have s2 := ByteArray.size_append (a := s.extract 0 k) (b := x)
      have eK : ((k : Int) + 1).toNat = k + 1 := by omega
      have s3 := ext_size s 0 k (by omega) (by omega)
      have s4 := ext_size s (k + 1) s.size (by omega) (by omega)
      simp (disch := omega) only [↓stq, amv_at, ↓pln, plv, nilOk, Nat.reduceBEq, Bool.or_false, Bool.or_true, Bool.false_or, Bool.true_or, vls, inf, frs, mark_eq, ↓reduceIte, Nat.reduceEqDiff, ite_tt, ite_ff, eq_self, and_true, true_and, and_self, implies_true, Bool.true_eq_false, Bool.false_eq_true, decide_true, decide_false, decide_eq_true_eq, decide_eq_false_iff_not, ne_eq, not_true_eq_false, not_false_eq_true, Bool.not_eq_true', Bool.not_eq_false', beq_self_eq_true, Bool.not_true, Bool.not_false, List.getElem?_toArray, List.getElem?_cons_zero, List.getElem?_cons_succ, false_implies, eK]
      exact ⟨_, rfl, one x hx1 V l (by omega), l⟩
    · simp (disch := omega) only [↓stq, amv_at, vls, inf, frs, mark_eq, ↓reduceIte, Nat.reduceEqDiff, ite_tt, ite_ff, eq_self, and_true, true_and, and_self, implies_true, Bool.true_eq_false, Bool.false_eq_true, decide_true, decide_false, decide_eq_true_eq, decide_eq_false_iff_not, ne_eq, not_true_eq_false, not_false_eq_true, Bool.not_eq_true', Bool.not_eq_false', beq_self_eq_true, Bool.not_true, Bool.not_false, List.getElem?_toArray, List.getElem?_cons_zero, List.getElem?_cons_succ]
      exact fin V l
  by_cases u2 : u = 2
  · simp (disch := omega) only [↓stq, amv_at, vls, inf, frs, mark_eq, ↓reduceIte, Nat.reduceEqDiff, ite_tt, ite_ff, eq_self, and_true, true_and, and_self, implies_true, Bool.true_eq_false, Bool.false_eq_true, decide_true, decide_false, decide_eq_true_eq, decide_eq_false_iff_not, ne_eq, not_true_eq_false, not_false_eq_true, Bool.not_eq_true', Bool.not_eq_false', beq_self_eq_true, Bool.not_true, Bool.not_false, List.getElem?_toArray, List.getElem?_cons_zero, List.getElem?_cons_succ, eq_false u0, eq_false u1, eq_true u2]
    exact ⟨_, rfl, by rw [ext_size s 0 k (by omega) (by omega)]; omega, rdr_more l (by omega)⟩
  by_cases u3 : u = 3
  · simp (disch := omega) only [↓stq, amv_at, vls, inf, frs, mark_eq, ↓reduceIte, Nat.reduceEqDiff, ite_tt, ite_ff, eq_self, and_true, true_and, and_self, implies_true, Bool.true_eq_false, Bool.false_eq_true, decide_true, decide_false, decide_eq_true_eq, decide_eq_false_iff_not, ne_eq, not_true_eq_false, not_false_eq_true, Bool.not_eq_true', Bool.not_eq_false', beq_self_eq_true, Bool.not_true, Bool.not_false, List.getElem?_toArray, List.getElem?_cons_zero, List.getElem?_cons_succ, eq_false u0, eq_false u1, eq_false u2, eq_true u3]
    refine led_lit li54 (by omega) rfl (by simp [Value.cells, Value.oneCell']) l fun bl V _ l => ?_
    simp (disch := omega) only [↓stq, amv_at, vls, inf, frs, mark_eq, ↓reduceIte, Nat.reduceEqDiff, ite_tt, ite_ff, eq_self, and_true, true_and, and_self, implies_true, Bool.true_eq_false, Bool.false_eq_true, decide_true, decide_false, decide_eq_true_eq, decide_eq_false_iff_not, ne_eq, not_true_eq_false, not_false_eq_true, Bool.not_eq_true', Bool.not_eq_false', beq_self_eq_true, Bool.not_true, Bool.not_false, List.getElem?_toArray, List.getElem?_cons_zero, List.getElem?_cons_succ]
    refine (ofLit_c (n := 4) (c := 4) (xs := [_, _, _, _]) B V L q sl _ hb (by omega) rfl rfl (by omega) (by decide) (by omega) (by omega) l).mono ?_
    rintro _ V ⟨x, rfl, hx, l⟩
    have hx1 : x.size = 1 := by revert hx; revert x; decide
    simp (disch := omega) only [↓stq, amv_at, vls, inf, frs, mark_eq, ↓reduceIte, Nat.reduceEqDiff, ite_tt, ite_ff, eq_self, and_true, true_and, and_self, implies_true, Bool.true_eq_false, Bool.false_eq_true, decide_true, decide_false, decide_eq_true_eq, decide_eq_false_iff_not, ne_eq, not_true_eq_false, not_false_eq_true, Bool.not_eq_true', Bool.not_eq_false', beq_self_eq_true, Bool.not_true, Bool.not_false, List.getElem?_toArray, List.getElem?_cons_zero, List.getElem?_cons_succ]
    exact ⟨_, rfl, by rw [ByteArray.size_append]; omega, l⟩
  simp (disch := omega) only [↓stq, amv_at, vls, inf, frs, mark_eq, ↓reduceIte, Nat.reduceEqDiff, ite_tt, ite_ff, eq_self, and_true, true_and, and_self, implies_true, Bool.true_eq_false, Bool.false_eq_true, decide_true, decide_false, decide_eq_true_eq, decide_eq_false_iff_not, ne_eq, not_true_eq_false, not_false_eq_true, Bool.not_eq_true', Bool.not_eq_false', beq_self_eq_true, Bool.not_true, Bool.not_false, List.getElem?_toArray, List.getElem?_cons_zero, List.getElem?_cons_succ, eq_false u0, eq_false u1, eq_false u2, eq_false u3]
  exact fin V l

theorem DrawParsePlan_c (A : View) (v : Value) (bs : List UInt8) (h : Sl byteS A v bs) : ACalls Try.prog 6 #[v] A fun r V => ∃ s : ByteArray, r = .string s ∧ s.size ≤ 140000 ∧ Ext A V := by
  refine acalls Try.func6 rfl (by kernel_rfl) ?_
  simp (disch := omega) only [↓stq, amv_at, vls, inf, frs, mark_eq, ↓reduceIte, Nat.reduceEqDiff, ite_tt, ite_ff, eq_self, and_true, true_and, and_self, implies_true, Bool.true_eq_false, Bool.false_eq_true, decide_true, decide_false, decide_eq_true_eq, decide_eq_false_iff_not, ne_eq, not_true_eq_false, not_false_eq_true, Bool.not_eq_true', Bool.not_eq_false', beq_self_eq_true, Bool.not_true, Bool.not_false, List.getElem?_toArray, List.getElem?_cons_zero, List.getElem?_cons_succ]
  refine (newReader_c A A _ bs h).mono ?_
  rintro _ V ⟨q, sl, rfl, hb, l⟩
  simp (disch := omega) only [↓stq, amv_at, vls, inf, frs, mark_eq, ↓reduceIte, Nat.reduceEqDiff, ite_tt, ite_ff, eq_self, and_true, true_and, and_self, implies_true, Bool.true_eq_false, Bool.false_eq_true, decide_true, decide_false, decide_eq_true_eq, decide_eq_false_iff_not, ne_eq, not_true_eq_false, not_false_eq_true, Bool.not_eq_true', Bool.not_eq_false', beq_self_eq_true, Bool.not_true, Bool.not_false, List.getElem?_toArray, List.getElem?_cons_zero, List.getElem?_cons_succ]
  refine (goodSuite_c A V _ q sl 0 hb (by omega) l).mono ?_
  rintro _ V ⟨fp, x, cells, rfl, hg, l⟩
  simp (disch := omega) only [↓stq, amv_at, vls, inf, frs, mark_eq, ↓reduceIte, Nat.reduceEqDiff, ite_tt, ite_ff, eq_self, and_true, true_and, and_self, implies_true, Bool.true_eq_false, Bool.false_eq_true, decide_true, decide_false, decide_eq_true_eq, decide_eq_false_iff_not, ne_eq, not_true_eq_false, not_false_eq_true, Bool.not_eq_true', Bool.not_eq_false', beq_self_eq_true, Bool.not_true, Bool.not_false, List.getElem?_toArray, List.getElem?_cons_zero, List.getElem?_cons_succ]
  refine (spec_planOf_c V _ x (suiteO_S (show suiteO.rel V fp x cells from l.at (i := 0) rfl)) hg).mono ?_
  rintro we V3 ⟨es, hel, hge, fe, l3⟩
  replace l := l.append l3
  have hT := genE_text hge
  simp (disch := omega) only [↓stq, amv_at, vls, inf, frs, mark_eq, ↓reduceIte, Nat.reduceEqDiff, ite_tt, ite_ff, eq_self, and_true, true_and, and_self, implies_true, Bool.true_eq_false, Bool.false_eq_true, decide_true, decide_false, decide_eq_true_eq, decide_eq_false_iff_not, ne_eq, not_true_eq_false, not_false_eq_true, Bool.not_eq_true', Bool.not_eq_false', beq_self_eq_true, Bool.not_true, Bool.not_false, List.getElem?_toArray, List.getElem?_cons_zero, List.getElem?_cons_succ]
  refine (spec_PlanText_c V3 _ es (OSl.toS (show OSl 56 eventO V3 fe we es from l.at (i := 0) rfl)) (by omega)).mono ?_
  rintro _ V ⟨rfl, he⟩
  replace l := l.step he
  have hpl : (planB es).size ≤ 130000 := by
    unfold planB
    split
    · show (textE es).toArray.size ≤ _
      rw [List.size_toArray]
      omega
    · show (#[] : Array UInt8).size ≤ _
      simp
  replace l : Led A (rdr q sl (0 + 200) :: [osl 56 eventO fe we es, oc suiteO fp x cells]) V := l.perm ((List.Perm.swap ..).trans ((List.Perm.swap ..).cons _))
  simp (disch := omega) only [↓stq, amv_at, vls, inf, frs, mark_eq, ↓reduceIte, Nat.reduceEqDiff, ite_tt, ite_ff, eq_self, and_true, true_and, and_self, implies_true, Bool.true_eq_false, Bool.false_eq_true, decide_true, decide_false, decide_eq_true_eq, decide_eq_false_iff_not, ne_eq, not_true_eq_false, not_false_eq_true, Bool.not_eq_true', Bool.not_eq_false', beq_self_eq_true, Bool.not_true, Bool.not_false, List.getElem?_toArray, List.getElem?_cons_zero, List.getElem?_cons_succ]
  refine (pick_c A V _ q sl _ 3 hb (by omega) ⟨by omega, by omega⟩ l).mono ?_
  rintro _ V ⟨u0, rfl, hu0, hu1, l⟩
  simp (disch := omega) only [↓stq, amv_at, vls, inf, frs, mark_eq, ↓reduceIte, Nat.reduceEqDiff, ite_tt, ite_ff, eq_self, and_true, true_and, and_self, implies_true, Bool.true_eq_false, Bool.false_eq_true, decide_true, decide_false, decide_eq_true_eq, decide_eq_false_iff_not, ne_eq, not_true_eq_false, not_false_eq_true, Bool.not_eq_true', Bool.not_eq_false', beq_self_eq_true, Bool.not_true, Bool.not_false, List.getElem?_toArray, List.getElem?_cons_zero, List.getElem?_cons_succ]
  refine ⟨fun e3 => ?_, fun e3 => ?_⟩ <;> simp (disch := omega) only [↓stq, amv_at, vls, inf, frs, mark_eq, ↓reduceIte, Nat.reduceEqDiff, ite_tt, ite_ff, eq_self, and_true, true_and, and_self, implies_true, Bool.true_eq_false, Bool.false_eq_true, decide_true, decide_false, decide_eq_true_eq, decide_eq_false_iff_not, ne_eq, not_true_eq_false, not_false_eq_true, Bool.not_eq_true', Bool.not_eq_false', beq_self_eq_true, Bool.not_true, Bool.not_false, List.getElem?_toArray, List.getElem?_cons_zero, List.getElem?_cons_succ]
  · refine (mutate_c A V _ q sl _ (planB es) (by omega) hb (by omega) l).mono ?_
    rintro _ V ⟨s', rfl, hs', l⟩
    simp (disch := omega) only [↓stq, amv_at, vls, inf, frs, mark_eq, ↓reduceIte, Nat.reduceEqDiff, ite_tt, ite_ff, eq_self, and_true, true_and, and_self, implies_true, Bool.true_eq_false, Bool.false_eq_true, decide_true, decide_false, decide_eq_true_eq, decide_eq_false_iff_not, ne_eq, not_true_eq_false, not_false_eq_true, Bool.not_eq_true', Bool.not_eq_false', beq_self_eq_true, Bool.not_true, Bool.not_false, List.getElem?_toArray, List.getElem?_cons_zero, List.getElem?_cons_succ]
    exact ⟨s', rfl, by omega, l.ext⟩
  · exact ⟨_, rfl, by omega, l.ext⟩

end Go.Proofs.Ytggklaimbklefaa

/- The law FnPlanText. -/
set_option maxHeartbeats 4000000
set_option synthInstance.maxHeartbeats 400000
set_option synthInstance.maxSize 4096
set_option linter.unusedSimpArgs false
set_option linter.unusedVariables false
namespace Go.Proofs.Ytggklaimbklefaa

set_option maxRecDepth 100000

theorem DrawTotalSetups_c (A : View) (v : Value) (bs : List UInt8) (h : Sl byteS A v bs) : ACalls Try.prog 34 #[v] A fun r V => ∃ es : List EventD, es.length ≤ 410 ∧ (∀ e, e ∈ es → genE e) ∧ Sl eventS V r es ∧ Ext A V := by
  obtain ⟨a, c, rfl, _, _⟩ := h.slice
  refine acalls Try.func34 rfl (by kernel_rfl) ?_
  simp (disch := omega) only [↓stq, amv_at, vls, inf, frs, mark_eq, ↓reduceIte, Nat.reduceEqDiff, ite_tt, ite_ff, eq_self, and_true, true_and, and_self, implies_true, Bool.true_eq_false, Bool.false_eq_true, decide_true, decide_false, decide_eq_true_eq, decide_eq_false_iff_not, ne_eq, not_true_eq_false, not_false_eq_true, Bool.not_eq_true', Bool.not_eq_false', beq_self_eq_true, Bool.not_true, Bool.not_false, List.getElem?_toArray, List.getElem?_cons_zero, List.getElem?_cons_succ]
  refine (newReader_c A A _ bs h).mono ?_
  rintro _ V ⟨q, sl, rfl, hb, l⟩
  simp (disch := omega) only [↓stq, amv_at, vls, inf, frs, mark_eq, ↓reduceIte, Nat.reduceEqDiff, ite_tt, ite_ff, eq_self, and_true, true_and, and_self, implies_true, Bool.true_eq_false, Bool.false_eq_true, decide_true, decide_false, decide_eq_true_eq, decide_eq_false_iff_not, ne_eq, not_true_eq_false, not_false_eq_true, Bool.not_eq_true', Bool.not_eq_false', beq_self_eq_true, Bool.not_true, Bool.not_false, List.getElem?_toArray, List.getElem?_cons_zero, List.getElem?_cons_succ]
  refine (someEvents_c A V _ q sl 0 hb (by omega) l).mono ?_
  rintro _ V ⟨d, fe, we, es, rfl, hd, hel, hge, l⟩
  simp (disch := omega) only [↓stq, amv_at, vls, inf, frs, mark_eq, ↓reduceIte, Nat.reduceEqDiff, ite_tt, ite_ff, eq_self, and_true, true_and, and_self, implies_true, Bool.true_eq_false, Bool.false_eq_true, decide_true, decide_false, decide_eq_true_eq, decide_eq_false_iff_not, ne_eq, not_true_eq_false, not_false_eq_true, Bool.not_eq_true', Bool.not_eq_false', beq_self_eq_true, Bool.not_true, Bool.not_false, List.getElem?_toArray, List.getElem?_cons_zero, List.getElem?_cons_succ]
  refine led_alloc zc41 l fun q2 V _ l => ?_
  simp (disch := omega) only [↓stq, amv_at, vls, inf, frs, mark_eq, ↓reduceIte, Nat.reduceEqDiff, ite_tt, ite_ff, eq_self, and_true, true_and, and_self, implies_true, Bool.true_eq_false, Bool.false_eq_true, decide_true, decide_false, decide_eq_true_eq, decide_eq_false_iff_not, ne_eq, not_true_eq_false, not_false_eq_true, Bool.not_eq_true', Bool.not_eq_false', beq_self_eq_true, Bool.not_true, Bool.not_false, List.getElem?_toArray, List.getElem?_cons_zero, List.getElem?_cons_succ]
  refine led_storeAll l 0 rfl sz41 hd.1 rfl hd.2 fun V l => ?_
  simp (disch := omega) only [↓stq, amv_at, vls, inf, frs, mark_eq, ↓reduceIte, Nat.reduceEqDiff, ite_tt, ite_ff, eq_self, and_true, true_and, and_self, implies_true, Bool.true_eq_false, Bool.false_eq_true, decide_true, decide_false, decide_eq_true_eq, decide_eq_false_iff_not, ne_eq, not_true_eq_false, not_false_eq_true, Bool.not_eq_true', Bool.not_eq_false', beq_self_eq_true, Bool.not_true, Bool.not_false, List.getElem?_toArray, List.getElem?_cons_zero, List.getElem?_cons_succ]
  exact ⟨es, hel, hge, OSl.toS (show OSl 56 eventO V fe we es from l.at (i := 1) rfl), l.ext⟩

theorem DrawPlanText_c (A : View) (v : Value) (bs : List UInt8) (h : Sl byteS A v bs) : ACalls Try.prog 11 #[v] A fun r V => ∃ es : List EventD, es.length ≤ 410 ∧ (∀ e, e ∈ es → genE e) ∧ Sl eventS V r es ∧ Ext A V := by
  refine acalls Try.func11 rfl (by kernel_rfl) ?_
  simp (disch := omega) only [↓stq, amv_at, vls, inf, frs, mark_eq, ↓reduceIte, Nat.reduceEqDiff, ite_tt, ite_ff, eq_self, and_true, true_and, and_self, implies_true, Bool.true_eq_false, Bool.false_eq_true, decide_true, decide_false, decide_eq_true_eq, decide_eq_false_iff_not, ne_eq, not_true_eq_false, not_false_eq_true, Bool.not_eq_true', Bool.not_eq_false', beq_self_eq_true, Bool.not_true, Bool.not_false, List.getElem?_toArray, List.getElem?_cons_zero, List.getElem?_cons_succ]
  refine (DrawTotalSetups_c A v bs h).mono ?_
  rintro r V hR
  simp (disch := omega) only [↓stq, amv_at, vls, inf, frs, mark_eq, ↓reduceIte, Nat.reduceEqDiff, ite_tt, ite_ff, eq_self, and_true, true_and, and_self, implies_true, Bool.true_eq_false, Bool.false_eq_true, decide_true, decide_false, decide_eq_true_eq, decide_eq_false_iff_not, ne_eq, not_true_eq_false, not_false_eq_true, Bool.not_eq_true', Bool.not_eq_false', beq_self_eq_true, Bool.not_true, Bool.not_false, List.getElem?_toArray, List.getElem?_cons_zero, List.getElem?_cons_succ]
  exact hR

theorem law_FnPlanText (A : View) (v0 : Value) (x0 : List UInt8) (h0 : Sl byteS A v0 x0) : ACalls Try.prog 4 #[v0] A fun r _ => r = .bool true := by
  obtain ⟨a, c, rfl, _, _⟩ := h0.slice
  refine acalls Try.func4 rfl (by kernel_rfl) ?_
  simp (disch := omega) only [↓stq, amv_at, vls, inf, frs, mark_eq, ↓reduceIte, Nat.reduceEqDiff, ite_tt, ite_ff, eq_self, and_true, true_and, and_self, implies_true, Bool.true_eq_false, Bool.false_eq_true, decide_true, decide_false, decide_eq_true_eq, decide_eq_false_iff_not, ne_eq, not_true_eq_false, not_false_eq_true, Bool.not_eq_true', Bool.not_eq_false', beq_self_eq_true, Bool.not_true, Bool.not_false, List.getElem?_toArray, List.getElem?_cons_zero, List.getElem?_cons_succ]
  refine ⟨fun e => ?_, fun e => ?_⟩ <;> simp (disch := omega) only [↓stq, amv_at, vls, inf, frs, mark_eq, ↓reduceIte, Nat.reduceEqDiff, ite_tt, ite_ff, eq_self, and_true, true_and, and_self, implies_true, Bool.true_eq_false, Bool.false_eq_true, decide_true, decide_false, decide_eq_true_eq, decide_eq_false_iff_not, ne_eq, not_true_eq_false, not_false_eq_true, Bool.not_eq_true', Bool.not_eq_false', beq_self_eq_true, Bool.not_true, Bool.not_false, List.getElem?_toArray, List.getElem?_cons_zero, List.getElem?_cons_succ]
  refine (DrawPlanText_c A _ x0 h0).mono ?_
  rintro vt V ⟨es, hel, hge, hE, _⟩
  obtain ⟨ae, ce, rfl, _, _⟩ := hE.slice
  have hT := genE_text hge
  simp (disch := omega) only [↓stq, amv_at, vls, inf, frs, mark_eq, ↓reduceIte, Nat.reduceEqDiff, ite_tt, ite_ff, eq_self, and_true, true_and, and_self, implies_true, Bool.true_eq_false, Bool.false_eq_true, decide_true, decide_false, decide_eq_true_eq, decide_eq_false_iff_not, ne_eq, not_true_eq_false, not_false_eq_true, Bool.not_eq_true', Bool.not_eq_false', beq_self_eq_true, Bool.not_true, Bool.not_false, List.getElem?_toArray, List.getElem?_cons_zero, List.getElem?_cons_succ]
  refine (impl_PlanText_c V _ es hE (by omega)).mono ?_
  rintro _ V1 ⟨rfl, he1⟩
  have hE1 := hE.mono he1
  simp (disch := omega) only [↓stq, amv_at, vls, inf, frs, mark_eq, ↓reduceIte, Nat.reduceEqDiff, ite_tt, ite_ff, eq_self, and_true, true_and, and_self, implies_true, Bool.true_eq_false, Bool.false_eq_true, decide_true, decide_false, decide_eq_true_eq, decide_eq_false_iff_not, ne_eq, not_true_eq_false, not_false_eq_true, Bool.not_eq_true', Bool.not_eq_false', beq_self_eq_true, Bool.not_true, Bool.not_false, List.getElem?_toArray, List.getElem?_cons_zero, List.getElem?_cons_succ]
  refine (spec_PlanText_c V1 _ es hE1 (by omega)).mono ?_
  rintro _ V2 ⟨rfl, he2⟩
  have hE2 := hE1.mono he2
  have n1 : (planB es = planB es) = True := eq_true rfl
  by_cases hB : planB es = ⟨#[]⟩
  · simp (disch := omega) only [↓stq, amv_at, vls, inf, frs, mark_eq, ↓reduceIte, Nat.reduceEqDiff, ite_tt, ite_ff, eq_self, and_true, true_and, and_self, implies_true, Bool.true_eq_false, Bool.false_eq_true, decide_true, decide_false, decide_eq_true_eq, decide_eq_false_iff_not, ne_eq, not_true_eq_false, not_false_eq_true, Bool.not_eq_true', Bool.not_eq_false', beq_self_eq_true, Bool.not_true, Bool.not_false, List.getElem?_toArray, List.getElem?_cons_zero, List.getElem?_cons_succ, hB]
    refine (spec_PlanText_c V2 _ es hE2 (by omega)).mono ?_
    rintro _ V3 ⟨rfl, he3⟩
    simp (disch := omega) only [↓stq, amv_at, vls, inf, frs, mark_eq, ↓reduceIte, Nat.reduceEqDiff, ite_tt, ite_ff, eq_self, and_true, true_and, and_self, implies_true, Bool.true_eq_false, Bool.false_eq_true, decide_true, decide_false, decide_eq_true_eq, decide_eq_false_iff_not, ne_eq, not_true_eq_false, not_false_eq_true, Bool.not_eq_true', Bool.not_eq_false', beq_self_eq_true, Bool.not_true, Bool.not_false, List.getElem?_toArray, List.getElem?_cons_zero, List.getElem?_cons_succ, hB]
  · have hall : es.all evOk = true := by
      by_cases h : es.all evOk = true
      · exact h
      · exfalso
        exact hB (by unfold planB; rw [if_neg h])
    have hp := planB_yes hall
    simp (disch := omega) only [↓stq, amv_at, vls, inf, frs, mark_eq, ↓reduceIte, Nat.reduceEqDiff, ite_tt, ite_ff, eq_self, and_true, true_and, and_self, implies_true, Bool.true_eq_false, Bool.false_eq_true, decide_true, decide_false, decide_eq_true_eq, decide_eq_false_iff_not, ne_eq, not_true_eq_false, not_false_eq_true, Bool.not_eq_true', Bool.not_eq_false', beq_self_eq_true, Bool.not_true, Bool.not_false, List.getElem?_toArray, List.getElem?_cons_zero, List.getElem?_cons_succ, hB]
    have hq : planB es = Bt (textE es) := hp
    rw [hq]
    have hpr : parsedR (textE es) = (es, true) := by
      unfold parsedR
      rw [evsL_text hall, if_pos hq]
    refine (impl_ParsePlan_c V2 (textE es) (by omega)).mono ?_
    rw [hpr]
    rintro _ V3 ⟨fp, w, rfl, l⟩
    have hW : Sl eventS V3 w es := OSl.toS (show OSl 56 eventO V3 fp w es from l.at (i := 0) rfl)
    simp (disch := omega) only [↓stq, amv_at, vls, inf, frs, mark_eq, ↓reduceIte, Nat.reduceEqDiff, ite_tt, ite_ff, eq_self, and_true, true_and, and_self, implies_true, Bool.true_eq_false, Bool.false_eq_true, decide_true, decide_false, decide_eq_true_eq, decide_eq_false_iff_not, ne_eq, not_true_eq_false, not_false_eq_true, Bool.not_eq_true', Bool.not_eq_false', beq_self_eq_true, Bool.not_true, Bool.not_false, List.getElem?_toArray, List.getElem?_cons_zero, List.getElem?_cons_succ]
    refine (equalEvents_c V3 w _ es es hW (hE2.mono l.ext)).mono ?_
    rintro _ V4 ⟨rfl, he4⟩
    have n2 : (es = es) = True := eq_true rfl
    simp (disch := omega) only [↓stq, amv_at, vls, inf, frs, mark_eq, ↓reduceIte, Nat.reduceEqDiff, ite_tt, ite_ff, eq_self, and_true, true_and, and_self, implies_true, Bool.true_eq_false, Bool.false_eq_true, decide_true, decide_false, decide_eq_true_eq, decide_eq_false_iff_not, ne_eq, not_true_eq_false, not_false_eq_true, Bool.not_eq_true', Bool.not_eq_false', beq_self_eq_true, Bool.not_true, Bool.not_false, List.getElem?_toArray, List.getElem?_cons_zero, List.getElem?_cons_succ]
    refine (newlines_c V4 (Bt (textE es)) (by rw [Bt_size]; omega)).mono ?_
    rintro _ V5 ⟨rfl, rfl⟩
    rw [Bt_list, nlN_text hall]
    simp (disch := omega) only [↓stq, amv_at, vls, inf, frs, mark_eq, ↓reduceIte, Nat.reduceEqDiff, ite_tt, ite_ff, eq_self, and_true, true_and, and_self, implies_true, Bool.true_eq_false, Bool.false_eq_true, decide_true, decide_false, decide_eq_true_eq, decide_eq_false_iff_not, ne_eq, not_true_eq_false, not_false_eq_true, Bool.not_eq_true', Bool.not_eq_false', beq_self_eq_true, Bool.not_true, Bool.not_false, List.getElem?_toArray, List.getElem?_cons_zero, List.getElem?_cons_succ]

end Go.Proofs.Ytggklaimbklefaa
