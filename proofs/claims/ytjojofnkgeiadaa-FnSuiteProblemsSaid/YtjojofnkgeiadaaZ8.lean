/- Generators: suites with problems. -/
import Derived.Test.YtjojofnkgeiadaaZ7
set_option maxHeartbeats 4000000
set_option synthInstance.maxHeartbeats 400000
set_option synthInstance.maxSize 4096
set_option linter.unusedSimpArgs false
set_option linter.unusedVariables false
namespace Go.Proofs.Ytjojofnkgeiadaa

set_option maxRecDepth 100000

theorem DrawSuiteProblems_c (A : View) (v : Value) (bs : List UInt8) (h : Sl byteS A v bs) : ACalls Try.prog 11 #[v] A fun r V => ∃ (fp : List Nat) (x : SuiteD) (d : List Value), r = .agg d.toArray ∧ GenS x ∧ Led A [oc suiteO fp x d] V := by
  obtain ⟨a, c, rfl, _, _⟩ := h.slice
  refine acalls Try.func11 rfl (by kernel_rfl) ?_
  simp (disch := omega) only [↓stq, amv_at, vls, inf, frs, mark_eq, ↓reduceIte, Nat.reduceEqDiff, ite_tt, ite_ff, eq_self, and_true, true_and, and_self, implies_true, Bool.true_eq_false, Bool.false_eq_true, decide_true, decide_false, decide_eq_true_eq, decide_eq_false_iff_not, ne_eq, not_true_eq_false, not_false_eq_true, Bool.not_eq_true', Bool.not_eq_false', beq_self_eq_true, Bool.not_true, Bool.not_false, List.getElem?_toArray, List.getElem?_cons_zero, List.getElem?_cons_succ]
  refine led_alloc zc26 (Led.nil A) fun q2 V he l => ?_
  simp (disch := omega) only [↓stq, amv_at, vls, inf, frs, mark_eq, ↓reduceIte, Nat.reduceEqDiff, ite_tt, ite_ff, eq_self, and_true, true_and, and_self, implies_true, Bool.true_eq_false, Bool.false_eq_true, decide_true, decide_false, decide_eq_true_eq, decide_eq_false_iff_not, ne_eq, not_true_eq_false, not_false_eq_true, Bool.not_eq_true', Bool.not_eq_false', beq_self_eq_true, Bool.not_true, Bool.not_false, List.getElem?_toArray, List.getElem?_cons_zero, List.getElem?_cons_succ]
  refine (newReader_c A V _ bs h).mono ?_
  rintro _ V2 ⟨q, sl, rfl, hb, l2⟩
  replace l := l.append l2
  simp (disch := omega) only [↓stq, amv_at, vls, inf, frs, mark_eq, ↓reduceIte, Nat.reduceEqDiff, ite_tt, ite_ff, eq_self, and_true, true_and, and_self, implies_true, Bool.true_eq_false, Bool.false_eq_true, decide_true, decide_false, decide_eq_true_eq, decide_eq_false_iff_not, ne_eq, not_true_eq_false, not_false_eq_true, Bool.not_eq_true', Bool.not_eq_false', beq_self_eq_true, Bool.not_true, Bool.not_false, List.getElem?_toArray, List.getElem?_cons_zero, List.getElem?_cons_succ]
  refine (someSuite_c A V2 [bx q2 _] q sl 0 hb (by omega) l).mono ?_
  rintro _ V ⟨fp, x, d, rfl, hg, l⟩
  obtain ⟨ff0, uu0, ff1, uu1, rfl, rfl, o0, o1⟩ := suiteO_open (show suiteO.rel V fp x d from l.at (i := 0) rfl)
  obtain ⟨a0, c0, rfl, _, _⟩ := o0.toS.slice
  obtain ⟨a1, c1, rfl, _, _⟩ := o1.toS.slice
  have hl0 := hg.l0
  have hl1 := hg.l1
  replace l := l.split2 (it1 := osl 33 fixtureO ff0 _ x.1) (it2 := osl 38 testO ff1 _ x.2.1) rfl o0 o1
  simp (disch := omega) only [↓stq, amv_at, vls, inf, frs, mark_eq, ↓reduceIte, Nat.reduceEqDiff, ite_tt, ite_ff, eq_self, and_true, true_and, and_self, implies_true, Bool.true_eq_false, Bool.false_eq_true, decide_true, decide_false, decide_eq_true_eq, decide_eq_false_iff_not, ne_eq, not_true_eq_false, not_false_eq_true, Bool.not_eq_true', Bool.not_eq_false', beq_self_eq_true, Bool.not_true, Bool.not_false, List.getElem?_toArray, List.getElem?_cons_zero, List.getElem?_cons_succ]
  refine led_alloc zc26 l fun q4 V _ l => ?_
  simp (disch := omega) only [↓stq, amv_at, vls, inf, frs, mark_eq, ↓reduceIte, Nat.reduceEqDiff, ite_tt, ite_ff, eq_self, and_true, true_and, and_self, implies_true, Bool.true_eq_false, Bool.false_eq_true, decide_true, decide_false, decide_eq_true_eq, decide_eq_false_iff_not, ne_eq, not_true_eq_false, not_false_eq_true, Bool.not_eq_true', Bool.not_eq_false', beq_self_eq_true, Bool.not_true, Bool.not_false, List.getElem?_toArray, List.getElem?_cons_zero, List.getElem?_cons_succ]
  refine led_storeAll l 0 rfl sz26 rfl rfl (by simp [Value.oneCell']) fun V l => ?_
  replace l : Led A (rdr q sl 300 :: bx q4 ⟨26, [.slice a0 x.1.length c0, .slice a1 x.2.1.length c1], 2, true⟩ :: osl 33 fixtureO ff0 (.slice a0 x.1.length c0) x.1 :: osl 38 testO ff1 (.slice a1 x.2.1.length c1) x.2.1 :: bx q2 ⟨26, [.slice none 0 0, .slice none 0 0], 2, true⟩ :: []) V := l.front 3 (by simp)
  have w0 := l.cell (i := 1) rfl (o := 0) rfl rfl
  simp (disch := omega) only [↓stq, amv_at, vls, inf, frs, mark_eq, ↓reduceIte, Nat.reduceEqDiff, ite_tt, ite_ff, eq_self, and_true, true_and, and_self, implies_true, Bool.true_eq_false, Bool.false_eq_true, decide_true, decide_false, decide_eq_true_eq, decide_eq_false_iff_not, ne_eq, not_true_eq_false, not_false_eq_true, Bool.not_eq_true', Bool.not_eq_false', beq_self_eq_true, Bool.not_true, Bool.not_false, List.getElem?_toArray, List.getElem?_cons_zero, List.getElem?_cons_succ, add_at, w0]
  have fin : ∀ (V : View) (X : List FixtureD) (T : List TestD) (g0 g1 : List Nat) (u0 u1 : Value), X.length ≤ 6 ∧ (∀ f, f ∈ X → genF f) → T.length ≤ 10 → (∀ t, t ∈ T → genT t) → Led A (osl 33 fixtureO g0 u0 X :: osl 38 testO g1 u1 T :: []) V → ∃ (fp : List Nat) (x : SuiteD) (d : List Value), Value.agg #[u0, u1] = .agg d.toArray ∧ GenS x ∧ Led A [oc suiteO fp x d] V := fun V X T g0 g1 u0 u1 hX hT hT2 l => by
    have lq := (l.perm (List.Perm.swap ..)).join2 (jt := oc suiteO (g0 ++ g1) (X, T, ()) [u0, u1]) rfl (show suiteO.rel V (g0 ++ g1) (X, T, ()) [u0, u1] from suiteO_mk (x := (X, T, ())) (l.at (i := 0) rfl) (l.at (i := 1) rfl))
    exact ⟨_, (X, T, ()), [u0, u1], rfl, ⟨hX.1, hT, hX.2, hT2⟩, lq⟩
  refine ⟨fun e1 => ?_, fun e1 => ?_⟩ <;> simp (disch := omega) only [↓stq, amv_at, vls, inf, frs, mark_eq, ↓reduceIte, Nat.reduceEqDiff, ite_tt, ite_ff, eq_self, and_true, true_and, and_self, implies_true, Bool.true_eq_false, Bool.false_eq_true, decide_true, decide_false, decide_eq_true_eq, decide_eq_false_iff_not, ne_eq, not_true_eq_false, not_false_eq_true, Bool.not_eq_true', Bool.not_eq_false', beq_self_eq_true, Bool.not_true, Bool.not_false, List.getElem?_toArray, List.getElem?_cons_zero, List.getElem?_cons_succ, e1]
  · refine (pick_c A V _ q sl _ 2 hb (by omega) ⟨by omega, by omega⟩ l).mono ?_
    rintro _ V ⟨u, rfl, _, _, l⟩
    have w0 := l.cell (i := 1) rfl (o := 0) rfl rfl
    simp (disch := omega) only [↓stq, amv_at, vls, inf, frs, mark_eq, ↓reduceIte, Nat.reduceEqDiff, ite_tt, ite_ff, eq_self, and_true, true_and, and_self, implies_true, Bool.true_eq_false, Bool.false_eq_true, decide_true, decide_false, decide_eq_true_eq, decide_eq_false_iff_not, ne_eq, not_true_eq_false, not_false_eq_true, Bool.not_eq_true', Bool.not_eq_false', beq_self_eq_true, Bool.not_true, Bool.not_false, List.getElem?_toArray, List.getElem?_cons_zero, List.getElem?_cons_succ, e1]
    refine ⟨fun e4 => ?_, fun e4 => ?_⟩
    · simp (disch := omega) only [↓stq, amv_at, vls, inf, frs, mark_eq, ↓reduceIte, Nat.reduceEqDiff, ite_tt, ite_ff, eq_self, and_true, true_and, and_self, implies_true, Bool.true_eq_false, Bool.false_eq_true, decide_true, decide_false, decide_eq_true_eq, decide_eq_false_iff_not, ne_eq, not_true_eq_false, not_false_eq_true, Bool.not_eq_true', Bool.not_eq_false', beq_self_eq_true, Bool.not_true, Bool.not_false, List.getElem?_toArray, List.getElem?_cons_zero, List.getElem?_cons_succ, add_at, w0]
      refine (pick_c A V _ q sl _ x.1.length hb (by omega) ⟨by omega, by omega⟩ l).mono ?_
      rintro _ V ⟨k, rfl, hk0, hk1, l⟩
      obtain ⟨k, rfl⟩ := Int.eq_ofNat_of_zero_le hk0
      have hkl : k < x.1.length := by omega
      obtain ⟨b, cb, d1, d2, d3, f1, f2, f3, hv, hcb, hd1, lo⟩ := (l.perm ((List.Perm.swap ..).trans ((List.Perm.swap ..).cons _))).openAt hkl
      injection hv with hv1 hv2 hv3
      subst hv1; subst hv3
      obtain ⟨gf, gu, rfl, rfl, z1, z2, og⟩ := fixtureO_open (show fixtureO.rel V f2 x.1[k] d2 from lo.at (i := 1) rfl)
      replace lo := lo.upd (i := 1) (jt := osl 9 strO gf gu (x.1[k]).2.2.1) rfl rfl (Only.refl _ _) og
      replace hd1 : d1.length = k * 4 := hd1
      have hgk := hg.s0 _ (List.getElem_mem hkl)
      replace l : Led A (rdr q sl (300 + 1 + 1) :: bx b ⟨33, d1 ++ ([.string (x.1[k]).1, .int .i64 (x.1[k]).2.1, gu, .bool (x.1[k]).2.2.2.1] ++ d3), c0 * 4, true⟩ :: osl 9 strO gf gu (x.1[k]).2.2.1 :: oel fixtureO f1 (x.1.take k) d1 :: oel fixtureO f3 (x.1.drop (k + 1)) d3 :: bx q4 ⟨26, [.slice (some ⟨b, 0, none⟩) x.1.length c0, .slice a1 x.2.1.length c1], 2, true⟩ :: osl 38 testO ff1 (.slice a1 x.2.1.length c1) x.2.1 :: bx q2 ⟨26, [.slice none 0 0, .slice none 0 0], 2, true⟩ :: []) V := rdr_more (lo.front 4 (by simp)) (by omega)
      clear lo
      have w0 := l.cell (i := 5) rfl (o := 0) rfl rfl
      have m0 : V.cell ⟨b, 0 + k * 4 + 0, none⟩ = some (.string (x.1[k]).1) := led_midcell l (i := 1) rfl (j := 0) (by omega) rfl rfl
      simp (disch := omega) only [↓stq, amv_at, vls, inf, frs, mark_eq, ↓reduceIte, Nat.reduceEqDiff, ite_tt, ite_ff, eq_self, and_true, true_and, and_self, implies_true, Bool.true_eq_false, Bool.false_eq_true, decide_true, decide_false, decide_eq_true_eq, decide_eq_false_iff_not, ne_eq, not_true_eq_false, not_false_eq_true, Bool.not_eq_true', Bool.not_eq_false', beq_self_eq_true, Bool.not_true, Bool.not_false, List.getElem?_toArray, List.getElem?_cons_zero, List.getElem?_cons_succ]
      refine adraw_items [.q 0, .l 1 true, .q 2, .q 3, .q 4, .l 5 false, .q 6, .q 7, .q 8, .l 9 false, .c 10 [], .c 11 [1], .c 12 [], .q 13, .q 14, .c 15 []] (by kernel_rfl) (by kernel_rfl) ?_
      simp (disch := omega) only [↓stq, amv_at, ↓pln, plv, nilOk, Nat.reduceBEq, Bool.or_false, Bool.or_true, Bool.false_or, Bool.true_or, vls, inf, frs, mark_eq, ↓reduceIte, Nat.reduceEqDiff, ite_tt, ite_ff, eq_self, and_true, true_and, and_self, implies_true, Bool.true_eq_false, Bool.false_eq_true, decide_true, decide_false, decide_eq_true_eq, decide_eq_false_iff_not, ne_eq, not_true_eq_false, not_false_eq_true, Bool.not_eq_true', Bool.not_eq_false', beq_self_eq_true, Bool.not_true, Bool.not_false, List.getElem?_toArray, List.getElem?_cons_zero, List.getElem?_cons_succ, add_at, w0, m0]
      refine led_lit li31 (by omega) rfl (by simp [Value.cells, Value.oneCell']) l fun bl V _ l => ?_
      have w0 := l.cell (i := 6) rfl (o := 0) rfl rfl
      have m0 : V.cell ⟨b, 0 + k * 4 + 0, none⟩ = some (.string (x.1[k]).1) := led_midcell l (i := 2) rfl (j := 0) (by omega) rfl rfl
      simp (disch := omega) only [↓stq, amv_at, ↓pln, plv, nilOk, Nat.reduceBEq, Bool.or_false, Bool.or_true, Bool.false_or, Bool.true_or, vls, inf, frs, mark_eq, ↓reduceIte, Nat.reduceEqDiff, ite_tt, ite_ff, eq_self, and_true, true_and, and_self, implies_true, Bool.true_eq_false, Bool.false_eq_true, decide_true, decide_false, decide_eq_true_eq, decide_eq_false_iff_not, ne_eq, not_true_eq_false, not_false_eq_true, Bool.not_eq_true', Bool.not_eq_false', beq_self_eq_true, Bool.not_true, Bool.not_false, List.getElem?_toArray, List.getElem?_cons_zero, List.getElem?_cons_succ, add_at, w0, m0, false_implies]
      refine (ofLit_c (n := 5) (c := 5) (xs := [_, _, _, _, _]) A V _ q sl _ hb (by omega) rfl rfl (by omega) (fun y hy => ?_) (by omega) (by omega) l).mono ?_
      · simp only [List.mem_cons, List.not_mem_nil, or_false] at hy
        rcases hy with rfl | rfl | rfl | rfl | rfl
        · decide
        · decide
        · decide
        · decide
        · exact hgk.1
      rintro _ V ⟨s, rfl, hs, l⟩
      have hsz : s.size ≤ 100 := by
        simp only [List.mem_cons, List.not_mem_nil, or_false] at hs
        rcases hs with rfl | rfl | rfl | rfl | rfl
        · decide
        · decide
        · decide
        · decide
        · exact hgk.1
      have w0 := l.cell (i := 5) rfl (o := 0) rfl rfl
      simp (disch := omega) only [↓stq, amv_at, ↓pln, plv, nilOk, Nat.reduceBEq, Bool.or_false, Bool.or_true, Bool.false_or, Bool.true_or, vls, inf, frs, mark_eq, ↓reduceIte, Nat.reduceEqDiff, ite_tt, ite_ff, eq_self, and_true, true_and, and_self, implies_true, Bool.true_eq_false, Bool.false_eq_true, decide_true, decide_false, decide_eq_true_eq, decide_eq_false_iff_not, ne_eq, not_true_eq_false, not_false_eq_true, Bool.not_eq_true', Bool.not_eq_false', beq_self_eq_true, Bool.not_true, Bool.not_false, List.getElem?_toArray, List.getElem?_cons_zero, List.getElem?_cons_succ, add_at, w0, false_implies]
      refine led_lit li31 (by omega) rfl (by simp [Value.cells, Value.oneCell']) l fun bl V _ l => ?_
      have w0 := l.cell (i := 6) rfl (o := 0) rfl rfl
      simp (disch := omega) only [↓stq, amv_at, ↓pln, plv, nilOk, Nat.reduceBEq, Bool.or_false, Bool.or_true, Bool.false_or, Bool.true_or, vls, inf, frs, mark_eq, ↓reduceIte, Nat.reduceEqDiff, ite_tt, ite_ff, eq_self, and_true, true_and, and_self, implies_true, Bool.true_eq_false, Bool.false_eq_true, decide_true, decide_false, decide_eq_true_eq, decide_eq_false_iff_not, ne_eq, not_true_eq_false, not_false_eq_true, Bool.not_eq_true', Bool.not_eq_false', beq_self_eq_true, Bool.not_true, Bool.not_false, List.getElem?_toArray, List.getElem?_cons_zero, List.getElem?_cons_succ, add_at, w0, false_implies]
      refine led_mid l 2 rfl sz31 (j := 2) (d' := [.string (x.1[k]).1, .int .i64 (x.1[k]).2.1, .slice (some ⟨bl, 0, none⟩) 1 1, .bool (x.1[k]).2.2.2.1]) (by omega) ⟨rfl, rfl⟩ ⟨by simp, rfl⟩ fun W _ l => ?_
      have w0 := l.cell (i := 6) rfl (o := 0) rfl rfl
      simp (disch := omega) only [↓stq, amv_at, ↓pln, plv, nilOk, Nat.reduceBEq, Bool.or_false, Bool.or_true, Bool.false_or, Bool.true_or, vls, inf, frs, mark_eq, ↓reduceIte, Nat.reduceEqDiff, ite_tt, ite_ff, eq_self, and_true, true_and, and_self, implies_true, Bool.true_eq_false, Bool.false_eq_true, decide_true, decide_false, decide_eq_true_eq, decide_eq_false_iff_not, ne_eq, not_true_eq_false, not_false_eq_true, Bool.not_eq_true', Bool.not_eq_false', beq_self_eq_true, Bool.not_true, Bool.not_false, List.getElem?_toArray, List.getElem?_cons_zero, List.getElem?_cons_succ, add_at, w0, false_implies]
      replace l := (l.upd (i := 0) (jt := oc fixtureO [bl] ((x.1[k]).1, (x.1[k]).2.1, [s], (x.1[k]).2.2.2.1, ()) [.string (x.1[k]).1, .int .i64 (x.1[k]).2.1, .slice (some ⟨bl, 0, none⟩) 1 1, .bool (x.1[k]).2.2.2.1]) rfl rfl (Only.refl _ _) (show fixtureO.rel W [bl] ((x.1[k]).1, (x.1[k]).2.1, [s], (x.1[k]).2.2.2.1, ()) _ from fixtureO_mk (x := ((x.1[k]).1, (x.1[k]).2.1, [s], (x.1[k]).2.2.2.1, ())) z1 z2 (lit_osl (ns := [s]) (c := 1) (l.at (i := 0) rfl) rfl rfl (by simp) (by simp) (fun y hy => by rw [List.mem_singleton.1 hy]; exact hsz)))).sub (.cons_cons _ (.cons_cons _ (.cons_cons _ (.cons _ (List.Sublist.refl _)))))
      replace l := l.perm (((List.Perm.swap ..).cons _).trans (List.Perm.swap ..))
      have l9 : Led A (bx b ⟨33, d1 ++ ([.string (x.1[k]).1, .int .i64 (x.1[k]).2.1, .slice (some ⟨bl, 0, none⟩) 1 1, .bool (x.1[k]).2.2.2.1] ++ d3), c0 * 4, true⟩ :: oc fixtureO [bl] ((x.1[k]).1, (x.1[k]).2.1, [s], (x.1[k]).2.2.2.1, ()) [.string (x.1[k]).1, .int .i64 (x.1[k]).2.1, .slice (some ⟨bl, 0, none⟩) 1 1, .bool (x.1[k]).2.2.2.1] :: oel fixtureO f1 (x.1.take k) d1 :: oel fixtureO f3 (x.1.drop (k + 1)) d3 :: rdr q sl (300 + 1 + 1 + 1) :: bx q4 ⟨26, [.slice (some ⟨b, 0, none⟩) x.1.length c0, .slice a1 x.2.1.length c1], 2, true⟩ :: osl 38 testO ff1 (.slice a1 x.2.1.length c1) x.2.1 :: bx q2 ⟨26, [.slice none 0 0, .slice none 0 0], 2, true⟩ :: []) W := l.perm (List.perm_middle (l₁ := [_, _, _, _]))
      have l := (Led.closeAt (O := fixtureO) l9 hkl hcb (by omega))
      clear l9
      obtain ⟨X, hXe⟩ : ∃ X, x.1.set k ((x.1[k]).1, (x.1[k]).2.1, [s], (x.1[k]).2.2.2.1, ()) = X := ⟨_, rfl⟩
      have hXl : X.length = x.1.length := by rw [← hXe, List.length_set]
      have hXg : ∀ f, f ∈ X → genF f := fun f hf => by
        rw [← hXe] at hf
        rcases List.mem_or_eq_of_mem_set hf with hf | rfl
        · exact hg.s0 f hf
        · exact ⟨hgk.1, by show [s].length ≤ 3; simp⟩
      rw [hXe, ← hXl] at l
      clear hXe hgk hcb z1 z2 hsz hs
      generalize b :: (f1 ++ ([bl] ++ f3)) = gx at l
      have w0 := l.cell (i := 2) rfl (o := 0) rfl rfl
      simp (disch := omega) only [↓stq, amv_at, vls, inf, frs, mark_eq, ↓reduceIte, Nat.reduceEqDiff, ite_tt, ite_ff, eq_self, and_true, true_and, and_self, implies_true, Bool.true_eq_false, Bool.false_eq_true, decide_true, decide_false, decide_eq_true_eq, decide_eq_false_iff_not, ne_eq, not_true_eq_false, not_false_eq_true, Bool.not_eq_true', Bool.not_eq_false', beq_self_eq_true, Bool.not_true, Bool.not_false, List.getElem?_toArray, List.getElem?_cons_zero, List.getElem?_cons_succ]
      refine adraw_items [.q 0, .l 1 true, .q 2, .q 3, .l 4 false, .q 5, .q 7, .c 6 [1], .c 8 [1], .q 9, .q 10, .c 11 []] (by kernel_rfl) (by kernel_rfl) ?_
      simp (disch := omega) only [↓stq, amv_at, ↓pln, plv, nilOk, Nat.reduceBEq, Bool.or_false, Bool.or_true, Bool.false_or, Bool.true_or, vls, inf, frs, mark_eq, ↓reduceIte, Nat.reduceEqDiff, ite_tt, ite_ff, eq_self, and_true, true_and, and_self, implies_true, Bool.true_eq_false, Bool.false_eq_true, decide_true, decide_false, decide_eq_true_eq, decide_eq_false_iff_not, ne_eq, not_true_eq_false, not_false_eq_true, Bool.not_eq_true', Bool.not_eq_false', beq_self_eq_true, Bool.not_true, Bool.not_false, List.getElem?_toArray, List.getElem?_cons_zero, List.getElem?_cons_succ, add_at, w0]
      refine (pick_c A W _ q sl _ X.length hb (by omega) ⟨by omega, by omega⟩ (l.perm (List.Perm.swap ..))).mono ?_
      rintro _ V ⟨j, rfl, hj0, hj1, l⟩
      obtain ⟨j, rfl⟩ := Int.eq_ofNat_of_zero_le hj0
      have hjl : j < X.length := by omega
      have w0 := l.cell (i := 2) rfl (o := 0) rfl rfl
      simp (disch := omega) only [↓stq, amv_at, ↓pln, plv, nilOk, Nat.reduceBEq, Bool.or_false, Bool.or_true, Bool.false_or, Bool.true_or, vls, inf, frs, mark_eq, ↓reduceIte, Nat.reduceEqDiff, ite_tt, ite_ff, eq_self, and_true, true_and, and_self, implies_true, Bool.true_eq_false, Bool.false_eq_true, decide_true, decide_false, decide_eq_true_eq, decide_eq_false_iff_not, ne_eq, not_true_eq_false, not_false_eq_true, Bool.not_eq_true', Bool.not_eq_false', beq_self_eq_true, Bool.not_true, Bool.not_false, List.getElem?_toArray, List.getElem?_cons_zero, List.getElem?_cons_succ, add_at, w0, false_implies]
      refine (pick_c A V _ q sl _ 3 hb (by omega) ⟨by omega, by omega⟩ l).mono ?_
      rintro _ V ⟨sc, rfl, hsc0, hsc1, l⟩
      have w0 := l.cell (i := 2) rfl (o := 0) rfl rfl
      simp (disch := omega) only [↓stq, amv_at, ↓pln, plv, nilOk, Nat.reduceBEq, Bool.or_false, Bool.or_true, Bool.false_or, Bool.true_or, vls, inf, frs, mark_eq, ↓reduceIte, Nat.reduceEqDiff, ite_tt, ite_ff, eq_self, and_true, true_and, and_self, implies_true, Bool.true_eq_false, Bool.false_eq_true, decide_true, decide_false, decide_eq_true_eq, decide_eq_false_iff_not, ne_eq, not_true_eq_false, not_false_eq_true, Bool.not_eq_true', Bool.not_eq_false', beq_self_eq_true, Bool.not_true, Bool.not_false, List.getElem?_toArray, List.getElem?_cons_zero, List.getElem?_cons_succ, add_at, w0, false_implies]
      obtain ⟨b2, cb2, d1, d2, d3, f1, f2, f3, hv, hcb, hd1, lo⟩ := (l.perm (List.Perm.swap ..)).openAt hjl
      injection hv with hv1 hv2 hv3
      injection hv1 with hv1
      injection hv1 with hv1 _ _
      subst hv1; subst hv3
      obtain ⟨gf, gu, rfl, rfl, z1, z2, og⟩ := fixtureO_open (show fixtureO.rel V f2 X[j] d2 from lo.at (i := 1) rfl)
      replace lo := lo.upd (i := 1) (jt := osl 9 strO gf gu (X[j]).2.2.1) rfl rfl (Only.refl _ _) og
      replace hd1 : d1.length = j * 4 := hd1
      refine led_mid lo 0 rfl sz3 (j := 1) (d' := [.string (X[j]).1, .int .i64 sc, gu, .bool (X[j]).2.2.2.1]) (by omega) ⟨rfl, rfl⟩ ⟨by simp, rfl⟩ fun V _ l => ?_
      have w0 := l.cell (i := 5) rfl (o := 0) rfl rfl
      simp (disch := omega) only [↓stq, amv_at, ↓pln, plv, nilOk, Nat.reduceBEq, Bool.or_false, Bool.or_true, Bool.false_or, Bool.true_or, vls, inf, frs, mark_eq, ↓reduceIte, Nat.reduceEqDiff, ite_tt, ite_ff, eq_self, and_true, true_and, and_self, implies_true, Bool.true_eq_false, Bool.false_eq_true, decide_true, decide_false, decide_eq_true_eq, decide_eq_false_iff_not, ne_eq, not_true_eq_false, not_false_eq_true, Bool.not_eq_true', Bool.not_eq_false', beq_self_eq_true, Bool.not_true, Bool.not_false, List.getElem?_toArray, List.getElem?_cons_zero, List.getElem?_cons_succ, add_at, w0, false_implies]
      have l9 : Led A (bx b ⟨33, d1 ++ ([.string (X[j]).1, .int .i64 sc, gu, .bool (X[j]).2.2.2.1] ++ d3), c0 * 4, true⟩ :: oc fixtureO gf ((X[j]).1, sc, (X[j]).2.2.1, (X[j]).2.2.2.1, ()) [.string (X[j]).1, .int .i64 sc, gu, .bool (X[j]).2.2.2.1] :: oel fixtureO f1 (X.take j) d1 :: oel fixtureO f3 (X.drop (j + 1)) d3 :: rdr q sl (300 + 1 + 1 + 1 + 1 + 1) :: bx q4 ⟨26, [.slice (some ⟨b, 0, none⟩) X.length c0, .slice a1 x.2.1.length c1], 2, true⟩ :: osl 38 testO ff1 (.slice a1 x.2.1.length c1) x.2.1 :: bx q2 ⟨26, [.slice none 0 0, .slice none 0 0], 2, true⟩ :: []) V := l.upd (i := 1) (jt := oc fixtureO gf ((X[j]).1, sc, (X[j]).2.2.1, (X[j]).2.2.2.1, ()) [.string (X[j]).1, .int .i64 sc, gu, .bool (X[j]).2.2.2.1]) rfl rfl (Only.refl _ _) (show fixtureO.rel V gf ((X[j]).1, sc, (X[j]).2.2.1, (X[j]).2.2.2.1, ()) _ from fixtureO_mk (x := ((X[j]).1, sc, (X[j]).2.2.1, (X[j]).2.2.2.1, ())) z1 (by show _ ≤ sc ∧ sc < _; omega) (l.at (i := 1) rfl))
      have l := ((Led.closeAt (O := fixtureO) l9 hjl hcb (by omega)).perm (List.Perm.swap ..)).perm ((List.Perm.swap ..).cons _)
      clear l9 lo
      have hgj := hXg _ (List.getElem_mem hjl)
      obtain ⟨X2, hXe⟩ : ∃ X2, X.set j ((X[j]).1, sc, (X[j]).2.2.1, (X[j]).2.2.2.1, ()) = X2 := ⟨_, rfl⟩
      have hX2l : X2.length = X.length := by rw [← hXe, List.length_set]
      have hXg2 : ∀ f, f ∈ X2 → genF f := fun f hf => by
        rw [← hXe] at hf
        rcases List.mem_or_eq_of_mem_set hf with hf | rfl
        · exact hXg f hf
        · exact hgj
      rw [hXe, ← hX2l] at l
      have hX26 : X2.length ≤ 6 := by omega
      clear hXe hgj hcb z1 z2 hXg hd1 og hv2
      generalize b :: (f1 ++ (gf ++ f3)) = gx2 at l
      have w1 := l.cell (i := 1) rfl (o := 1) rfl rfl
      simp (disch := omega) only [↓stq, amv_at, vls, inf, frs, mark_eq, ↓reduceIte, Nat.reduceEqDiff, ite_tt, ite_ff, eq_self, and_true, true_and, and_self, implies_true, Bool.true_eq_false, Bool.false_eq_true, decide_true, decide_false, decide_eq_true_eq, decide_eq_false_iff_not, ne_eq, not_true_eq_false, not_false_eq_true, Bool.not_eq_true', Bool.not_eq_false', beq_self_eq_true, Bool.not_true, Bool.not_false, List.getElem?_toArray, List.getElem?_cons_zero, List.getElem?_cons_succ, add_at, w1]
      refine ⟨fun e2 => ?_, fun e2 => ?_⟩ <;> simp (disch := omega) only [↓stq, amv_at, vls, inf, frs, mark_eq, ↓reduceIte, Nat.reduceEqDiff, ite_tt, ite_ff, eq_self, and_true, true_and, and_self, implies_true, Bool.true_eq_false, Bool.false_eq_true, decide_true, decide_false, decide_eq_true_eq, decide_eq_false_iff_not, ne_eq, not_true_eq_false, not_false_eq_true, Bool.not_eq_true', Bool.not_eq_false', beq_self_eq_true, Bool.not_true, Bool.not_false, List.getElem?_toArray, List.getElem?_cons_zero, List.getElem?_cons_succ, e2]
      · refine (pick_c A V _ q sl _ 4 hb (by omega) ⟨by omega, by omega⟩ l).mono ?_
        rintro _ V ⟨u4, rfl, hu40, hu41, l⟩
        simp (disch := omega) only [↓stq, amv_at, vls, inf, frs, mark_eq, ↓reduceIte, Nat.reduceEqDiff, ite_tt, ite_ff, eq_self, and_true, true_and, and_self, implies_true, Bool.true_eq_false, Bool.false_eq_true, decide_true, decide_false, decide_eq_true_eq, decide_eq_false_iff_not, ne_eq, not_true_eq_false, not_false_eq_true, Bool.not_eq_true', Bool.not_eq_false', beq_self_eq_true, Bool.not_true, Bool.not_false, List.getElem?_toArray, List.getElem?_cons_zero, List.getElem?_cons_succ, e2]
        refine ⟨fun e3 => ?_, fun e3 => ?_⟩ <;> simp (disch := omega) only [↓stq, amv_at, vls, inf, frs, mark_eq, ↓reduceIte, Nat.reduceEqDiff, ite_tt, ite_ff, eq_self, and_true, true_and, and_self, implies_true, Bool.true_eq_false, Bool.false_eq_true, decide_true, decide_false, decide_eq_true_eq, decide_eq_false_iff_not, ne_eq, not_true_eq_false, not_false_eq_true, Bool.not_eq_true', Bool.not_eq_false', beq_self_eq_true, Bool.not_true, Bool.not_false, List.getElem?_toArray, List.getElem?_cons_zero, List.getElem?_cons_succ]
        · have hkt : 0 < x.2.1.length := by omega
          obtain ⟨b9, cb9, y1, y2, y3, g1, g2, g3, hv9, hcb9, hy1, lo⟩ := (show Led A (osl 38 testO ff1 (.slice a1 x.2.1.length c1) x.2.1 :: rdr q sl _ :: bx q4 ⟨26, [.slice (some ⟨b, 0, none⟩) X2.length c0, .slice a1 x.2.1.length c1], 2, true⟩ :: osl 33 fixtureO gx2 (.slice (some ⟨b, 0, none⟩) X2.length c0) X2 :: bx q2 ⟨26, [.slice none 0 0, .slice none 0 0], 2, true⟩ :: []) V from l.front 3 (by simp)).openAt hkt
          injection hv9 with hv91 hv92 hv93
          subst hv91; subst hv93
          obtain ⟨gf9, gu9, gf93, gu93, rfl, rfl, z91, z92, og9, og93⟩ := testO_open (show testO.rel V g2 x.2.1[0] y2 from lo.at (i := 1) rfl)
          replace lo := ((lo.perm (List.Perm.swap ..)).split2 (it1 := osl 9 strO gf9 gu9 (x.2.1[0]).2.2.1) (it2 := osl 9 strO gf93 gu93 (x.2.1[0]).2.2.2.1) rfl og9 og93).sub (.cons_cons _ (.cons _ (List.Sublist.refl _)))
          replace hy1 : y1.length = 0 * 4 := hy1
          have w1 := lo.cell (i := 5) rfl (o := 1) rfl rfl
          simp (disch := omega) only [↓stq, amv_at, vls, inf, frs, mark_eq, ↓reduceIte, Nat.reduceEqDiff, ite_tt, ite_ff, eq_self, and_true, true_and, and_self, implies_true, Bool.true_eq_false, Bool.false_eq_true, decide_true, decide_false, decide_eq_true_eq, decide_eq_false_iff_not, ne_eq, not_true_eq_false, not_false_eq_true, Bool.not_eq_true', Bool.not_eq_false', beq_self_eq_true, Bool.not_true, Bool.not_false, List.getElem?_toArray, List.getElem?_cons_zero, List.getElem?_cons_succ, add_at, w1]
          refine led_lit li31 (by omega) rfl (by simp [Value.cells, Value.oneCell']) lo fun bl9 V _ l => ?_
          simp (disch := omega) only [↓stq, amv_at, vls, inf, frs, mark_eq, ↓reduceIte, Nat.reduceEqDiff, ite_tt, ite_ff, eq_self, and_true, true_and, and_self, implies_true, Bool.true_eq_false, Bool.false_eq_true, decide_true, decide_false, decide_eq_true_eq, decide_eq_false_iff_not, ne_eq, not_true_eq_false, not_false_eq_true, Bool.not_eq_true', Bool.not_eq_false', beq_self_eq_true, Bool.not_true, Bool.not_false, List.getElem?_toArray, List.getElem?_cons_zero, List.getElem?_cons_succ, add_at, Int.toNat_zero, Nat.zero_mul]
          refine led_mid l 2 rfl sz31 (j := 3) (d' := [.string (x.2.1[0]).1, .string (x.2.1[0]).2.1, gu9, .slice (some ⟨bl9, 0, none⟩) 2 2]) (by omega) ⟨rfl, rfl⟩ ⟨by simp, rfl⟩ fun W _ l => ?_
          have hgt := hg.s1 _ (List.getElem_mem hkt)
          have lA : Led A (osl 9 strO [bl9] (.slice (some ⟨bl9, 0, none⟩) 2 2) [⟨#[110, 111]⟩, ⟨#[100, 98]⟩] :: osl 9 strO gf9 gu9 (x.2.1[0]).2.2.1 :: bx b9 ⟨38, y1 ++ ([.string (x.2.1[0]).1, .string (x.2.1[0]).2.1, gu9, .slice (some ⟨bl9, 0, none⟩) 2 2] ++ y3), c1 * 4, true⟩ :: oel testO g1 (x.2.1.take 0) y1 :: oel testO g3 (x.2.1.drop (0 + 1)) y3 :: rdr q sl _ :: bx q4 ⟨26, [.slice (some ⟨b, 0, none⟩) X2.length c0, .slice (some ⟨b9, 0, none⟩) x.2.1.length c1], 2, true⟩ :: osl 33 fixtureO gx2 (.slice (some ⟨b, 0, none⟩) X2.length c0) X2 :: bx q2 ⟨26, [.slice none 0 0, .slice none 0 0], 2, true⟩ :: []) W := (l.upd (i := 0) (jt := osl 9 strO [bl9] (.slice (some ⟨bl9, 0, none⟩) 2 2) [⟨#[110, 111]⟩, ⟨#[100, 98]⟩]) rfl rfl (Only.refl _ _) (lit_osl (ns := [⟨#[110, 111]⟩, ⟨#[100, 98]⟩]) (c := 2) (l.at (i := 0) rfl) rfl rfl (by simp) (by simp) (by decide)))
          have lB := (lA.join2 (jt := oc testO (gf9 ++ [bl9]) ((x.2.1[0]).1, (x.2.1[0]).2.1, (x.2.1[0]).2.2.1, [⟨#[110, 111]⟩, ⟨#[100, 98]⟩], ()) _) rfl (show testO.rel W (gf9 ++ [bl9]) ((x.2.1[0]).1, (x.2.1[0]).2.1, (x.2.1[0]).2.2.1, [⟨#[110, 111]⟩, ⟨#[100, 98]⟩], ()) _ from testO_mk (x := ((x.2.1[0]).1, (x.2.1[0]).2.1, (x.2.1[0]).2.2.1, [⟨#[110, 111]⟩, ⟨#[100, 98]⟩], ())) z91 z92 (lA.at (i := 1) rfl) (lA.at (i := 0) rfl))).perm (List.Perm.swap ..)
          have lC := Led.closeAt (O := testO) lB hkt hcb9 (by omega)
          have kp : W.part ⟨q4, 0, none⟩ 2 = some [.slice (some ⟨b, 0, none⟩) X2.length c0, .slice (some ⟨b9, 0, none⟩) x.2.1.length c1] := lC.part (i := 2) rfl rfl
          simp (disch := omega) only [↓stq, amv_at, vls, inf, frs, mark_eq, ↓reduceIte, Nat.reduceEqDiff, ite_tt, ite_ff, eq_self, and_true, true_and, and_self, implies_true, Bool.true_eq_false, Bool.false_eq_true, decide_true, decide_false, decide_eq_true_eq, decide_eq_false_iff_not, ne_eq, not_true_eq_false, not_false_eq_true, Bool.not_eq_true', Bool.not_eq_false', beq_self_eq_true, Bool.not_true, Bool.not_false, List.getElem?_toArray, List.getElem?_cons_zero, List.getElem?_cons_succ, kp]
          refine led_storeAll (d := [.slice (some ⟨b, 0, none⟩) X2.length c0, .slice (some ⟨b9, 0, none⟩) x.2.1.length c1]) lC 4 rfl sz26 rfl rfl (by simp [Value.oneCell']) fun V l => ?_
          have kp : V.part ⟨q2, 0, none⟩ 2 = some [.slice (some ⟨b, 0, none⟩) X2.length c0, .slice (some ⟨b9, 0, none⟩) x.2.1.length c1] := l.part (i := 4) rfl rfl
          simp (disch := omega) only [↓stq, amv_at, vls, inf, frs, mark_eq, ↓reduceIte, Nat.reduceEqDiff, ite_tt, ite_ff, eq_self, and_true, true_and, and_self, implies_true, Bool.true_eq_false, Bool.false_eq_true, decide_true, decide_false, decide_eq_true_eq, decide_eq_false_iff_not, ne_eq, not_true_eq_false, not_false_eq_true, Bool.not_eq_true', Bool.not_eq_false', beq_self_eq_true, Bool.not_true, Bool.not_false, List.getElem?_toArray, List.getElem?_cons_zero, List.getElem?_cons_succ, kp]
          refine fin V X2 (x.2.1.set 0 ((x.2.1[0]).1, (x.2.1[0]).2.1, (x.2.1[0]).2.2.1, [⟨#[110, 111]⟩, ⟨#[100, 98]⟩], ())) _ _ _ _ ⟨hX26, hXg2⟩ (by rw [List.length_set]; omega) (fun t ht => ?_) (Led.sub (l.front 3 (by simp)) (.cons_cons _ (.cons_cons _ (List.nil_sublist _))))
          rcases List.mem_or_eq_of_mem_set ht with ht | rfl
          · exact hg.s1 t ht
          · exact ⟨hgt.1, hgt.2.1, hgt.2.2.1, by show 2 ≤ 3; omega⟩
        · have kp : V.part ⟨q4, 0, none⟩ 2 = some [.slice (some ⟨b, 0, none⟩) X2.length c0, .slice a1 x.2.1.length c1] := l.part (i := 1) rfl rfl
          simp (disch := omega) only [↓stq, amv_at, vls, inf, frs, mark_eq, ↓reduceIte, Nat.reduceEqDiff, ite_tt, ite_ff, eq_self, and_true, true_and, and_self, implies_true, Bool.true_eq_false, Bool.false_eq_true, decide_true, decide_false, decide_eq_true_eq, decide_eq_false_iff_not, ne_eq, not_true_eq_false, not_false_eq_true, Bool.not_eq_true', Bool.not_eq_false', beq_self_eq_true, Bool.not_true, Bool.not_false, List.getElem?_toArray, List.getElem?_cons_zero, List.getElem?_cons_succ, kp]
          refine led_storeAll (d := [.slice (some ⟨b, 0, none⟩) X2.length c0, .slice a1 x.2.1.length c1]) l 4 rfl sz26 rfl rfl (by simp [Value.oneCell']) fun V l => ?_
          have kp : V.part ⟨q2, 0, none⟩ 2 = some [.slice (some ⟨b, 0, none⟩) X2.length c0, .slice a1 x.2.1.length c1] := l.part (i := 4) rfl rfl
          simp (disch := omega) only [↓stq, amv_at, vls, inf, frs, mark_eq, ↓reduceIte, Nat.reduceEqDiff, ite_tt, ite_ff, eq_self, and_true, true_and, and_self, implies_true, Bool.true_eq_false, Bool.false_eq_true, decide_true, decide_false, decide_eq_true_eq, decide_eq_false_iff_not, ne_eq, not_true_eq_false, not_false_eq_true, Bool.not_eq_true', Bool.not_eq_false', beq_self_eq_true, Bool.not_true, Bool.not_false, List.getElem?_toArray, List.getElem?_cons_zero, List.getElem?_cons_succ, kp]
          exact fin V X2 x.2.1 _ _ _ _ ⟨hX26, hXg2⟩ hl1 hg.s1 (l.sub (.cons _ (.cons _ (.cons_cons _ (.cons_cons _ (List.nil_sublist _))))))
      · have kp : V.part ⟨q4, 0, none⟩ 2 = some [.slice (some ⟨b, 0, none⟩) X2.length c0, .slice a1 x.2.1.length c1] := l.part (i := 1) rfl rfl
        simp (disch := omega) only [↓stq, amv_at, vls, inf, frs, mark_eq, ↓reduceIte, Nat.reduceEqDiff, ite_tt, ite_ff, eq_self, and_true, true_and, and_self, implies_true, Bool.true_eq_false, Bool.false_eq_true, decide_true, decide_false, decide_eq_true_eq, decide_eq_false_iff_not, ne_eq, not_true_eq_false, not_false_eq_true, Bool.not_eq_true', Bool.not_eq_false', beq_self_eq_true, Bool.not_true, Bool.not_false, List.getElem?_toArray, List.getElem?_cons_zero, List.getElem?_cons_succ, kp]
        refine led_storeAll (d := [.slice (some ⟨b, 0, none⟩) X2.length c0, .slice a1 x.2.1.length c1]) l 4 rfl sz26 rfl rfl (by simp [Value.oneCell']) fun V l => ?_
        have kp : V.part ⟨q2, 0, none⟩ 2 = some [.slice (some ⟨b, 0, none⟩) X2.length c0, .slice a1 x.2.1.length c1] := l.part (i := 4) rfl rfl
        simp (disch := omega) only [↓stq, amv_at, vls, inf, frs, mark_eq, ↓reduceIte, Nat.reduceEqDiff, ite_tt, ite_ff, eq_self, and_true, true_and, and_self, implies_true, Bool.true_eq_false, Bool.false_eq_true, decide_true, decide_false, decide_eq_true_eq, decide_eq_false_iff_not, ne_eq, not_true_eq_false, not_false_eq_true, Bool.not_eq_true', Bool.not_eq_false', beq_self_eq_true, Bool.not_true, Bool.not_false, List.getElem?_toArray, List.getElem?_cons_zero, List.getElem?_cons_succ, kp]
        exact fin V X2 x.2.1 _ _ _ _ ⟨hX26, hXg2⟩ hl1 hg.s1 (l.sub (.cons _ (.cons _ (.cons_cons _ (.cons_cons _ (List.nil_sublist _))))))
    · simp (disch := omega) only [↓stq, amv_at, vls, inf, frs, mark_eq, ↓reduceIte, Nat.reduceEqDiff, ite_tt, ite_ff, eq_self, and_true, true_and, and_self, implies_true, Bool.true_eq_false, Bool.false_eq_true, decide_true, decide_false, decide_eq_true_eq, decide_eq_false_iff_not, ne_eq, not_true_eq_false, not_false_eq_true, Bool.not_eq_true', Bool.not_eq_false', beq_self_eq_true, Bool.not_true, Bool.not_false, List.getElem?_toArray, List.getElem?_cons_zero, List.getElem?_cons_succ, e1]
      have w1 := l.cell (i := 1) rfl (o := 1) rfl rfl
      simp (disch := omega) only [↓stq, amv_at, vls, inf, frs, mark_eq, ↓reduceIte, Nat.reduceEqDiff, ite_tt, ite_ff, eq_self, and_true, true_and, and_self, implies_true, Bool.true_eq_false, Bool.false_eq_true, decide_true, decide_false, decide_eq_true_eq, decide_eq_false_iff_not, ne_eq, not_true_eq_false, not_false_eq_true, Bool.not_eq_true', Bool.not_eq_false', beq_self_eq_true, Bool.not_true, Bool.not_false, List.getElem?_toArray, List.getElem?_cons_zero, List.getElem?_cons_succ, add_at, w1]
      refine ⟨fun e2 => ?_, fun e2 => ?_⟩ <;> simp (disch := omega) only [↓stq, amv_at, vls, inf, frs, mark_eq, ↓reduceIte, Nat.reduceEqDiff, ite_tt, ite_ff, eq_self, and_true, true_and, and_self, implies_true, Bool.true_eq_false, Bool.false_eq_true, decide_true, decide_false, decide_eq_true_eq, decide_eq_false_iff_not, ne_eq, not_true_eq_false, not_false_eq_true, Bool.not_eq_true', Bool.not_eq_false', beq_self_eq_true, Bool.not_true, Bool.not_false, List.getElem?_toArray, List.getElem?_cons_zero, List.getElem?_cons_succ, e2]
      · refine (pick_c A V _ q sl _ 4 hb (by omega) ⟨by omega, by omega⟩ l).mono ?_
        rintro _ V ⟨u4, rfl, hu40, hu41, l⟩
        simp (disch := omega) only [↓stq, amv_at, vls, inf, frs, mark_eq, ↓reduceIte, Nat.reduceEqDiff, ite_tt, ite_ff, eq_self, and_true, true_and, and_self, implies_true, Bool.true_eq_false, Bool.false_eq_true, decide_true, decide_false, decide_eq_true_eq, decide_eq_false_iff_not, ne_eq, not_true_eq_false, not_false_eq_true, Bool.not_eq_true', Bool.not_eq_false', beq_self_eq_true, Bool.not_true, Bool.not_false, List.getElem?_toArray, List.getElem?_cons_zero, List.getElem?_cons_succ, e2]
        refine ⟨fun e3 => ?_, fun e3 => ?_⟩ <;> simp (disch := omega) only [↓stq, amv_at, vls, inf, frs, mark_eq, ↓reduceIte, Nat.reduceEqDiff, ite_tt, ite_ff, eq_self, and_true, true_and, and_self, implies_true, Bool.true_eq_false, Bool.false_eq_true, decide_true, decide_false, decide_eq_true_eq, decide_eq_false_iff_not, ne_eq, not_true_eq_false, not_false_eq_true, Bool.not_eq_true', Bool.not_eq_false', beq_self_eq_true, Bool.not_true, Bool.not_false, List.getElem?_toArray, List.getElem?_cons_zero, List.getElem?_cons_succ]
        · have hkt : 0 < x.2.1.length := by omega
          obtain ⟨b9, cb9, y1, y2, y3, g1, g2, g3, hv9, hcb9, hy1, lo⟩ := (show Led A (osl 38 testO ff1 (.slice a1 x.2.1.length c1) x.2.1 :: rdr q sl _ :: bx q4 ⟨26, [.slice a0 x.1.length c0, .slice a1 x.2.1.length c1], 2, true⟩ :: osl 33 fixtureO ff0 (.slice a0 x.1.length c0) x.1 :: bx q2 ⟨26, [.slice none 0 0, .slice none 0 0], 2, true⟩ :: []) V from l.front 3 (by simp)).openAt hkt
          injection hv9 with hv91 hv92 hv93
          subst hv91; subst hv93
          obtain ⟨gf9, gu9, gf93, gu93, rfl, rfl, z91, z92, og9, og93⟩ := testO_open (show testO.rel V g2 x.2.1[0] y2 from lo.at (i := 1) rfl)
          replace lo := ((lo.perm (List.Perm.swap ..)).split2 (it1 := osl 9 strO gf9 gu9 (x.2.1[0]).2.2.1) (it2 := osl 9 strO gf93 gu93 (x.2.1[0]).2.2.2.1) rfl og9 og93).sub (.cons_cons _ (.cons _ (List.Sublist.refl _)))
          replace hy1 : y1.length = 0 * 4 := hy1
          have w1 := lo.cell (i := 5) rfl (o := 1) rfl rfl
          simp (disch := omega) only [↓stq, amv_at, vls, inf, frs, mark_eq, ↓reduceIte, Nat.reduceEqDiff, ite_tt, ite_ff, eq_self, and_true, true_and, and_self, implies_true, Bool.true_eq_false, Bool.false_eq_true, decide_true, decide_false, decide_eq_true_eq, decide_eq_false_iff_not, ne_eq, not_true_eq_false, not_false_eq_true, Bool.not_eq_true', Bool.not_eq_false', beq_self_eq_true, Bool.not_true, Bool.not_false, List.getElem?_toArray, List.getElem?_cons_zero, List.getElem?_cons_succ, add_at, w1]
          refine led_lit li31 (by omega) rfl (by simp [Value.cells, Value.oneCell']) lo fun bl9 V _ l => ?_
          simp (disch := omega) only [↓stq, amv_at, vls, inf, frs, mark_eq, ↓reduceIte, Nat.reduceEqDiff, ite_tt, ite_ff, eq_self, and_true, true_and, and_self, implies_true, Bool.true_eq_false, Bool.false_eq_true, decide_true, decide_false, decide_eq_true_eq, decide_eq_false_iff_not, ne_eq, not_true_eq_false, not_false_eq_true, Bool.not_eq_true', Bool.not_eq_false', beq_self_eq_true, Bool.not_true, Bool.not_false, List.getElem?_toArray, List.getElem?_cons_zero, List.getElem?_cons_succ, add_at, Int.toNat_zero, Nat.zero_mul]
          refine led_mid l 2 rfl sz31 (j := 3) (d' := [.string (x.2.1[0]).1, .string (x.2.1[0]).2.1, gu9, .slice (some ⟨bl9, 0, none⟩) 2 2]) (by omega) ⟨rfl, rfl⟩ ⟨by simp, rfl⟩ fun W _ l => ?_
          have hgt := hg.s1 _ (List.getElem_mem hkt)
          have lA : Led A (osl 9 strO [bl9] (.slice (some ⟨bl9, 0, none⟩) 2 2) [⟨#[110, 111]⟩, ⟨#[100, 98]⟩] :: osl 9 strO gf9 gu9 (x.2.1[0]).2.2.1 :: bx b9 ⟨38, y1 ++ ([.string (x.2.1[0]).1, .string (x.2.1[0]).2.1, gu9, .slice (some ⟨bl9, 0, none⟩) 2 2] ++ y3), c1 * 4, true⟩ :: oel testO g1 (x.2.1.take 0) y1 :: oel testO g3 (x.2.1.drop (0 + 1)) y3 :: rdr q sl _ :: bx q4 ⟨26, [.slice a0 x.1.length c0, .slice (some ⟨b9, 0, none⟩) x.2.1.length c1], 2, true⟩ :: osl 33 fixtureO ff0 (.slice a0 x.1.length c0) x.1 :: bx q2 ⟨26, [.slice none 0 0, .slice none 0 0], 2, true⟩ :: []) W := (l.upd (i := 0) (jt := osl 9 strO [bl9] (.slice (some ⟨bl9, 0, none⟩) 2 2) [⟨#[110, 111]⟩, ⟨#[100, 98]⟩]) rfl rfl (Only.refl _ _) (lit_osl (ns := [⟨#[110, 111]⟩, ⟨#[100, 98]⟩]) (c := 2) (l.at (i := 0) rfl) rfl rfl (by simp) (by simp) (by decide)))
          have lB := (lA.join2 (jt := oc testO (gf9 ++ [bl9]) ((x.2.1[0]).1, (x.2.1[0]).2.1, (x.2.1[0]).2.2.1, [⟨#[110, 111]⟩, ⟨#[100, 98]⟩], ()) _) rfl (show testO.rel W (gf9 ++ [bl9]) ((x.2.1[0]).1, (x.2.1[0]).2.1, (x.2.1[0]).2.2.1, [⟨#[110, 111]⟩, ⟨#[100, 98]⟩], ()) _ from testO_mk (x := ((x.2.1[0]).1, (x.2.1[0]).2.1, (x.2.1[0]).2.2.1, [⟨#[110, 111]⟩, ⟨#[100, 98]⟩], ())) z91 z92 (lA.at (i := 1) rfl) (lA.at (i := 0) rfl))).perm (List.Perm.swap ..)
          have lC := Led.closeAt (O := testO) lB hkt hcb9 (by omega)
          have kp : W.part ⟨q4, 0, none⟩ 2 = some [.slice a0 x.1.length c0, .slice (some ⟨b9, 0, none⟩) x.2.1.length c1] := lC.part (i := 2) rfl rfl
          simp (disch := omega) only [↓stq, amv_at, vls, inf, frs, mark_eq, ↓reduceIte, Nat.reduceEqDiff, ite_tt, ite_ff, eq_self, and_true, true_and, and_self, implies_true, Bool.true_eq_false, Bool.false_eq_true, decide_true, decide_false, decide_eq_true_eq, decide_eq_false_iff_not, ne_eq, not_true_eq_false, not_false_eq_true, Bool.not_eq_true', Bool.not_eq_false', beq_self_eq_true, Bool.not_true, Bool.not_false, List.getElem?_toArray, List.getElem?_cons_zero, List.getElem?_cons_succ, kp]
          refine led_storeAll (d := [.slice a0 x.1.length c0, .slice (some ⟨b9, 0, none⟩) x.2.1.length c1]) lC 4 rfl sz26 rfl rfl (by simp [Value.oneCell']) fun V l => ?_
          have kp : V.part ⟨q2, 0, none⟩ 2 = some [.slice a0 x.1.length c0, .slice (some ⟨b9, 0, none⟩) x.2.1.length c1] := l.part (i := 4) rfl rfl
          simp (disch := omega) only [↓stq, amv_at, vls, inf, frs, mark_eq, ↓reduceIte, Nat.reduceEqDiff, ite_tt, ite_ff, eq_self, and_true, true_and, and_self, implies_true, Bool.true_eq_false, Bool.false_eq_true, decide_true, decide_false, decide_eq_true_eq, decide_eq_false_iff_not, ne_eq, not_true_eq_false, not_false_eq_true, Bool.not_eq_true', Bool.not_eq_false', beq_self_eq_true, Bool.not_true, Bool.not_false, List.getElem?_toArray, List.getElem?_cons_zero, List.getElem?_cons_succ, kp]
          refine fin V x.1 (x.2.1.set 0 ((x.2.1[0]).1, (x.2.1[0]).2.1, (x.2.1[0]).2.2.1, [⟨#[110, 111]⟩, ⟨#[100, 98]⟩], ())) _ _ _ _ ⟨hl0, hg.s0⟩ (by rw [List.length_set]; omega) (fun t ht => ?_) (Led.sub (l.front 3 (by simp)) (.cons_cons _ (.cons_cons _ (List.nil_sublist _))))
          rcases List.mem_or_eq_of_mem_set ht with ht | rfl
          · exact hg.s1 t ht
          · exact ⟨hgt.1, hgt.2.1, hgt.2.2.1, by show 2 ≤ 3; omega⟩
        · have kp : V.part ⟨q4, 0, none⟩ 2 = some [.slice a0 x.1.length c0, .slice a1 x.2.1.length c1] := l.part (i := 1) rfl rfl
          simp (disch := omega) only [↓stq, amv_at, vls, inf, frs, mark_eq, ↓reduceIte, Nat.reduceEqDiff, ite_tt, ite_ff, eq_self, and_true, true_and, and_self, implies_true, Bool.true_eq_false, Bool.false_eq_true, decide_true, decide_false, decide_eq_true_eq, decide_eq_false_iff_not, ne_eq, not_true_eq_false, not_false_eq_true, Bool.not_eq_true', Bool.not_eq_false', beq_self_eq_true, Bool.not_true, Bool.not_false, List.getElem?_toArray, List.getElem?_cons_zero, List.getElem?_cons_succ, kp]
          refine led_storeAll (d := [.slice a0 x.1.length c0, .slice a1 x.2.1.length c1]) l 4 rfl sz26 rfl rfl (by simp [Value.oneCell']) fun V l => ?_
          have kp : V.part ⟨q2, 0, none⟩ 2 = some [.slice a0 x.1.length c0, .slice a1 x.2.1.length c1] := l.part (i := 4) rfl rfl
          simp (disch := omega) only [↓stq, amv_at, vls, inf, frs, mark_eq, ↓reduceIte, Nat.reduceEqDiff, ite_tt, ite_ff, eq_self, and_true, true_and, and_self, implies_true, Bool.true_eq_false, Bool.false_eq_true, decide_true, decide_false, decide_eq_true_eq, decide_eq_false_iff_not, ne_eq, not_true_eq_false, not_false_eq_true, Bool.not_eq_true', Bool.not_eq_false', beq_self_eq_true, Bool.not_true, Bool.not_false, List.getElem?_toArray, List.getElem?_cons_zero, List.getElem?_cons_succ, kp]
          exact fin V x.1 x.2.1 _ _ _ _ ⟨hl0, hg.s0⟩ hl1 hg.s1 (l.sub (.cons _ (.cons _ (.cons_cons _ (.cons_cons _ (List.nil_sublist _))))))
      · have kp : V.part ⟨q4, 0, none⟩ 2 = some [.slice a0 x.1.length c0, .slice a1 x.2.1.length c1] := l.part (i := 1) rfl rfl
        simp (disch := omega) only [↓stq, amv_at, vls, inf, frs, mark_eq, ↓reduceIte, Nat.reduceEqDiff, ite_tt, ite_ff, eq_self, and_true, true_and, and_self, implies_true, Bool.true_eq_false, Bool.false_eq_true, decide_true, decide_false, decide_eq_true_eq, decide_eq_false_iff_not, ne_eq, not_true_eq_false, not_false_eq_true, Bool.not_eq_true', Bool.not_eq_false', beq_self_eq_true, Bool.not_true, Bool.not_false, List.getElem?_toArray, List.getElem?_cons_zero, List.getElem?_cons_succ, kp]
        refine led_storeAll (d := [.slice a0 x.1.length c0, .slice a1 x.2.1.length c1]) l 4 rfl sz26 rfl rfl (by simp [Value.oneCell']) fun V l => ?_
        have kp : V.part ⟨q2, 0, none⟩ 2 = some [.slice a0 x.1.length c0, .slice a1 x.2.1.length c1] := l.part (i := 4) rfl rfl
        simp (disch := omega) only [↓stq, amv_at, vls, inf, frs, mark_eq, ↓reduceIte, Nat.reduceEqDiff, ite_tt, ite_ff, eq_self, and_true, true_and, and_self, implies_true, Bool.true_eq_false, Bool.false_eq_true, decide_true, decide_false, decide_eq_true_eq, decide_eq_false_iff_not, ne_eq, not_true_eq_false, not_false_eq_true, Bool.not_eq_true', Bool.not_eq_false', beq_self_eq_true, Bool.not_true, Bool.not_false, List.getElem?_toArray, List.getElem?_cons_zero, List.getElem?_cons_succ, kp]
        exact fin V x.1 x.2.1 _ _ _ _ ⟨hl0, hg.s0⟩ hl1 hg.s1 (l.sub (.cons _ (.cons _ (.cons_cons _ (.cons_cons _ (List.nil_sublist _))))))
  · have w1 := l.cell (i := 1) rfl (o := 1) rfl rfl
    simp (disch := omega) only [↓stq, amv_at, vls, inf, frs, mark_eq, ↓reduceIte, Nat.reduceEqDiff, ite_tt, ite_ff, eq_self, and_true, true_and, and_self, implies_true, Bool.true_eq_false, Bool.false_eq_true, decide_true, decide_false, decide_eq_true_eq, decide_eq_false_iff_not, ne_eq, not_true_eq_false, not_false_eq_true, Bool.not_eq_true', Bool.not_eq_false', beq_self_eq_true, Bool.not_true, Bool.not_false, List.getElem?_toArray, List.getElem?_cons_zero, List.getElem?_cons_succ, add_at, w1]
    refine ⟨fun e2 => ?_, fun e2 => ?_⟩ <;> simp (disch := omega) only [↓stq, amv_at, vls, inf, frs, mark_eq, ↓reduceIte, Nat.reduceEqDiff, ite_tt, ite_ff, eq_self, and_true, true_and, and_self, implies_true, Bool.true_eq_false, Bool.false_eq_true, decide_true, decide_false, decide_eq_true_eq, decide_eq_false_iff_not, ne_eq, not_true_eq_false, not_false_eq_true, Bool.not_eq_true', Bool.not_eq_false', beq_self_eq_true, Bool.not_true, Bool.not_false, List.getElem?_toArray, List.getElem?_cons_zero, List.getElem?_cons_succ, e2]
    · refine (pick_c A V _ q sl _ 4 hb (by omega) ⟨by omega, by omega⟩ l).mono ?_
      rintro _ V ⟨u4, rfl, hu40, hu41, l⟩
      simp (disch := omega) only [↓stq, amv_at, vls, inf, frs, mark_eq, ↓reduceIte, Nat.reduceEqDiff, ite_tt, ite_ff, eq_self, and_true, true_and, and_self, implies_true, Bool.true_eq_false, Bool.false_eq_true, decide_true, decide_false, decide_eq_true_eq, decide_eq_false_iff_not, ne_eq, not_true_eq_false, not_false_eq_true, Bool.not_eq_true', Bool.not_eq_false', beq_self_eq_true, Bool.not_true, Bool.not_false, List.getElem?_toArray, List.getElem?_cons_zero, List.getElem?_cons_succ, e2]
      refine ⟨fun e3 => ?_, fun e3 => ?_⟩ <;> simp (disch := omega) only [↓stq, amv_at, vls, inf, frs, mark_eq, ↓reduceIte, Nat.reduceEqDiff, ite_tt, ite_ff, eq_self, and_true, true_and, and_self, implies_true, Bool.true_eq_false, Bool.false_eq_true, decide_true, decide_false, decide_eq_true_eq, decide_eq_false_iff_not, ne_eq, not_true_eq_false, not_false_eq_true, Bool.not_eq_true', Bool.not_eq_false', beq_self_eq_true, Bool.not_true, Bool.not_false, List.getElem?_toArray, List.getElem?_cons_zero, List.getElem?_cons_succ]
      · have hkt : 0 < x.2.1.length := by omega
        obtain ⟨b9, cb9, y1, y2, y3, g1, g2, g3, hv9, hcb9, hy1, lo⟩ := (show Led A (osl 38 testO ff1 (.slice a1 x.2.1.length c1) x.2.1 :: rdr q sl _ :: bx q4 ⟨26, [.slice a0 x.1.length c0, .slice a1 x.2.1.length c1], 2, true⟩ :: osl 33 fixtureO ff0 (.slice a0 x.1.length c0) x.1 :: bx q2 ⟨26, [.slice none 0 0, .slice none 0 0], 2, true⟩ :: []) V from l.front 3 (by simp)).openAt hkt
        injection hv9 with hv91 hv92 hv93
        subst hv91; subst hv93
        obtain ⟨gf9, gu9, gf93, gu93, rfl, rfl, z91, z92, og9, og93⟩ := testO_open (show testO.rel V g2 x.2.1[0] y2 from lo.at (i := 1) rfl)
        replace lo := ((lo.perm (List.Perm.swap ..)).split2 (it1 := osl 9 strO gf9 gu9 (x.2.1[0]).2.2.1) (it2 := osl 9 strO gf93 gu93 (x.2.1[0]).2.2.2.1) rfl og9 og93).sub (.cons_cons _ (.cons _ (List.Sublist.refl _)))
        replace hy1 : y1.length = 0 * 4 := hy1
        have w1 := lo.cell (i := 5) rfl (o := 1) rfl rfl
        simp (disch := omega) only [↓stq, amv_at, vls, inf, frs, mark_eq, ↓reduceIte, Nat.reduceEqDiff, ite_tt, ite_ff, eq_self, and_true, true_and, and_self, implies_true, Bool.true_eq_false, Bool.false_eq_true, decide_true, decide_false, decide_eq_true_eq, decide_eq_false_iff_not, ne_eq, not_true_eq_false, not_false_eq_true, Bool.not_eq_true', Bool.not_eq_false', beq_self_eq_true, Bool.not_true, Bool.not_false, List.getElem?_toArray, List.getElem?_cons_zero, List.getElem?_cons_succ, add_at, w1]
        refine led_lit li31 (by omega) rfl (by simp [Value.cells, Value.oneCell']) lo fun bl9 V _ l => ?_
        simp (disch := omega) only [↓stq, amv_at, vls, inf, frs, mark_eq, ↓reduceIte, Nat.reduceEqDiff, ite_tt, ite_ff, eq_self, and_true, true_and, and_self, implies_true, Bool.true_eq_false, Bool.false_eq_true, decide_true, decide_false, decide_eq_true_eq, decide_eq_false_iff_not, ne_eq, not_true_eq_false, not_false_eq_true, Bool.not_eq_true', Bool.not_eq_false', beq_self_eq_true, Bool.not_true, Bool.not_false, List.getElem?_toArray, List.getElem?_cons_zero, List.getElem?_cons_succ, add_at, Int.toNat_zero, Nat.zero_mul]
        refine led_mid l 2 rfl sz31 (j := 3) (d' := [.string (x.2.1[0]).1, .string (x.2.1[0]).2.1, gu9, .slice (some ⟨bl9, 0, none⟩) 2 2]) (by omega) ⟨rfl, rfl⟩ ⟨by simp, rfl⟩ fun W _ l => ?_
        have hgt := hg.s1 _ (List.getElem_mem hkt)
        have lA : Led A (osl 9 strO [bl9] (.slice (some ⟨bl9, 0, none⟩) 2 2) [⟨#[110, 111]⟩, ⟨#[100, 98]⟩] :: osl 9 strO gf9 gu9 (x.2.1[0]).2.2.1 :: bx b9 ⟨38, y1 ++ ([.string (x.2.1[0]).1, .string (x.2.1[0]).2.1, gu9, .slice (some ⟨bl9, 0, none⟩) 2 2] ++ y3), c1 * 4, true⟩ :: oel testO g1 (x.2.1.take 0) y1 :: oel testO g3 (x.2.1.drop (0 + 1)) y3 :: rdr q sl _ :: bx q4 ⟨26, [.slice a0 x.1.length c0, .slice (some ⟨b9, 0, none⟩) x.2.1.length c1], 2, true⟩ :: osl 33 fixtureO ff0 (.slice a0 x.1.length c0) x.1 :: bx q2 ⟨26, [.slice none 0 0, .slice none 0 0], 2, true⟩ :: []) W := (l.upd (i := 0) (jt := osl 9 strO [bl9] (.slice (some ⟨bl9, 0, none⟩) 2 2) [⟨#[110, 111]⟩, ⟨#[100, 98]⟩]) rfl rfl (Only.refl _ _) (lit_osl (ns := [⟨#[110, 111]⟩, ⟨#[100, 98]⟩]) (c := 2) (l.at (i := 0) rfl) rfl rfl (by simp) (by simp) (by decide)))
        have lB := (lA.join2 (jt := oc testO (gf9 ++ [bl9]) ((x.2.1[0]).1, (x.2.1[0]).2.1, (x.2.1[0]).2.2.1, [⟨#[110, 111]⟩, ⟨#[100, 98]⟩], ()) _) rfl (show testO.rel W (gf9 ++ [bl9]) ((x.2.1[0]).1, (x.2.1[0]).2.1, (x.2.1[0]).2.2.1, [⟨#[110, 111]⟩, ⟨#[100, 98]⟩], ()) _ from testO_mk (x := ((x.2.1[0]).1, (x.2.1[0]).2.1, (x.2.1[0]).2.2.1, [⟨#[110, 111]⟩, ⟨#[100, 98]⟩], ())) z91 z92 (lA.at (i := 1) rfl) (lA.at (i := 0) rfl))).perm (List.Perm.swap ..)
        have lC := Led.closeAt (O := testO) lB hkt hcb9 (by omega)
        have kp : W.part ⟨q4, 0, none⟩ 2 = some [.slice a0 x.1.length c0, .slice (some ⟨b9, 0, none⟩) x.2.1.length c1] := lC.part (i := 2) rfl rfl
        simp (disch := omega) only [↓stq, amv_at, vls, inf, frs, mark_eq, ↓reduceIte, Nat.reduceEqDiff, ite_tt, ite_ff, eq_self, and_true, true_and, and_self, implies_true, Bool.true_eq_false, Bool.false_eq_true, decide_true, decide_false, decide_eq_true_eq, decide_eq_false_iff_not, ne_eq, not_true_eq_false, not_false_eq_true, Bool.not_eq_true', Bool.not_eq_false', beq_self_eq_true, Bool.not_true, Bool.not_false, List.getElem?_toArray, List.getElem?_cons_zero, List.getElem?_cons_succ, kp]
        refine led_storeAll (d := [.slice a0 x.1.length c0, .slice (some ⟨b9, 0, none⟩) x.2.1.length c1]) lC 4 rfl sz26 rfl rfl (by simp [Value.oneCell']) fun V l => ?_
        have kp : V.part ⟨q2, 0, none⟩ 2 = some [.slice a0 x.1.length c0, .slice (some ⟨b9, 0, none⟩) x.2.1.length c1] := l.part (i := 4) rfl rfl
        simp (disch := omega) only [↓stq, amv_at, vls, inf, frs, mark_eq, ↓reduceIte, Nat.reduceEqDiff, ite_tt, ite_ff, eq_self, and_true, true_and, and_self, implies_true, Bool.true_eq_false, Bool.false_eq_true, decide_true, decide_false, decide_eq_true_eq, decide_eq_false_iff_not, ne_eq, not_true_eq_false, not_false_eq_true, Bool.not_eq_true', Bool.not_eq_false', beq_self_eq_true, Bool.not_true, Bool.not_false, List.getElem?_toArray, List.getElem?_cons_zero, List.getElem?_cons_succ, kp]
        refine fin V x.1 (x.2.1.set 0 ((x.2.1[0]).1, (x.2.1[0]).2.1, (x.2.1[0]).2.2.1, [⟨#[110, 111]⟩, ⟨#[100, 98]⟩], ())) _ _ _ _ ⟨hl0, hg.s0⟩ (by rw [List.length_set]; omega) (fun t ht => ?_) (Led.sub (l.front 3 (by simp)) (.cons_cons _ (.cons_cons _ (List.nil_sublist _))))
        rcases List.mem_or_eq_of_mem_set ht with ht | rfl
        · exact hg.s1 t ht
        · exact ⟨hgt.1, hgt.2.1, hgt.2.2.1, by show 2 ≤ 3; omega⟩
      · have kp : V.part ⟨q4, 0, none⟩ 2 = some [.slice a0 x.1.length c0, .slice a1 x.2.1.length c1] := l.part (i := 1) rfl rfl
        simp (disch := omega) only [↓stq, amv_at, vls, inf, frs, mark_eq, ↓reduceIte, Nat.reduceEqDiff, ite_tt, ite_ff, eq_self, and_true, true_and, and_self, implies_true, Bool.true_eq_false, Bool.false_eq_true, decide_true, decide_false, decide_eq_true_eq, decide_eq_false_iff_not, ne_eq, not_true_eq_false, not_false_eq_true, Bool.not_eq_true', Bool.not_eq_false', beq_self_eq_true, Bool.not_true, Bool.not_false, List.getElem?_toArray, List.getElem?_cons_zero, List.getElem?_cons_succ, kp]
        refine led_storeAll (d := [.slice a0 x.1.length c0, .slice a1 x.2.1.length c1]) l 4 rfl sz26 rfl rfl (by simp [Value.oneCell']) fun V l => ?_
        have kp : V.part ⟨q2, 0, none⟩ 2 = some [.slice a0 x.1.length c0, .slice a1 x.2.1.length c1] := l.part (i := 4) rfl rfl
        simp (disch := omega) only [↓stq, amv_at, vls, inf, frs, mark_eq, ↓reduceIte, Nat.reduceEqDiff, ite_tt, ite_ff, eq_self, and_true, true_and, and_self, implies_true, Bool.true_eq_false, Bool.false_eq_true, decide_true, decide_false, decide_eq_true_eq, decide_eq_false_iff_not, ne_eq, not_true_eq_false, not_false_eq_true, Bool.not_eq_true', Bool.not_eq_false', beq_self_eq_true, Bool.not_true, Bool.not_false, List.getElem?_toArray, List.getElem?_cons_zero, List.getElem?_cons_succ, kp]
        exact fin V x.1 x.2.1 _ _ _ _ ⟨hl0, hg.s0⟩ hl1 hg.s1 (l.sub (.cons _ (.cons _ (.cons_cons _ (.cons_cons _ (List.nil_sublist _))))))
    · have kp : V.part ⟨q4, 0, none⟩ 2 = some [.slice a0 x.1.length c0, .slice a1 x.2.1.length c1] := l.part (i := 1) rfl rfl
      simp (disch := omega) only [↓stq, amv_at, vls, inf, frs, mark_eq, ↓reduceIte, Nat.reduceEqDiff, ite_tt, ite_ff, eq_self, and_true, true_and, and_self, implies_true, Bool.true_eq_false, Bool.false_eq_true, decide_true, decide_false, decide_eq_true_eq, decide_eq_false_iff_not, ne_eq, not_true_eq_false, not_false_eq_true, Bool.not_eq_true', Bool.not_eq_false', beq_self_eq_true, Bool.not_true, Bool.not_false, List.getElem?_toArray, List.getElem?_cons_zero, List.getElem?_cons_succ, kp]
      refine led_storeAll (d := [.slice a0 x.1.length c0, .slice a1 x.2.1.length c1]) l 4 rfl sz26 rfl rfl (by simp [Value.oneCell']) fun V l => ?_
      have kp : V.part ⟨q2, 0, none⟩ 2 = some [.slice a0 x.1.length c0, .slice a1 x.2.1.length c1] := l.part (i := 4) rfl rfl
      simp (disch := omega) only [↓stq, amv_at, vls, inf, frs, mark_eq, ↓reduceIte, Nat.reduceEqDiff, ite_tt, ite_ff, eq_self, and_true, true_and, and_self, implies_true, Bool.true_eq_false, Bool.false_eq_true, decide_true, decide_false, decide_eq_true_eq, decide_eq_false_iff_not, ne_eq, not_true_eq_false, not_false_eq_true, Bool.not_eq_true', Bool.not_eq_false', beq_self_eq_true, Bool.not_true, Bool.not_false, List.getElem?_toArray, List.getElem?_cons_zero, List.getElem?_cons_succ, kp]
      exact fin V x.1 x.2.1 _ _ _ _ ⟨hl0, hg.s0⟩ hl1 hg.s1 (l.sub (.cons _ (.cons _ (.cons_cons _ (.cons_cons _ (List.nil_sublist _))))))

end Go.Proofs.Ytjojofnkgeiadaa

