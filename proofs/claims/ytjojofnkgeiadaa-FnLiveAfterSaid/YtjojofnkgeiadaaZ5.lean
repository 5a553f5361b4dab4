/- Generators: suites. -/
import Derived.Test.YtjojofnkgeiadaaW2
import Derived.Test.YtjojofnkgeiadaaZT
set_option maxHeartbeats 4000000
set_option synthInstance.maxHeartbeats 400000
set_option synthInstance.maxSize 4096
set_option linter.unusedSimpArgs false
set_option linter.unusedVariables false
namespace Go.Proofs.Ytjojofnkgeiadaa

set_option maxRecDepth 100000

def genF (f : FixtureD) : Prop := f.1.size ≤ 100 ∧ f.2.2.1.length ≤ 3
structure GenS (x : SuiteD) : Prop where
  l0 : x.1.length ≤ 6
  l1 : x.2.1.length ≤ 10
  s0 : ∀ f, f ∈ x.1 → genF f
  s1 : ∀ t, t ∈ x.2.1 → genT t
theorem GenS.small {x : SuiteD} (h : GenS x) : Small x := ⟨by have := h.l0; omega, by have := h.l1; omega, fun f hf => by have := (h.s0 f hf).2; show _ ≤ _; omega, fun t ht => by have h1 := (h.s1 t ht).2.2; exact ⟨by omega, by omega⟩⟩

theorem fAt_lt0 {xs : List FixtureD} {name : ByteArray} (h : 0 ≤ fAt xs name) : ∃ k : Nat, fAt xs name = k ∧ (fAt xs name).toNat = k ∧ k < xs.length := by
  obtain ⟨k, h1, h2, _⟩ := idxI_lt h
  exact ⟨k, h1, by show (idxI _ xs).toNat = k; rw [h1]; rfl, h2⟩
theorem map_take_snoc {α β : Type} (f : α → β) (xs : List α) (x : α) : (xs ++ [x]).map f = xs.map f ++ [f x] := by rw [List.map_append]; rfl

theorem goodSuite_c (B A : View) (L : List It) (q : Nat) (sl : Value) (N : Nat) (hb : Bts B sl) (hN : N ≤ 700000000) (l : Led B (rdr q sl N :: L) A) : ACalls Try.prog 81 #[.pointer (some ⟨q, 0, none⟩)] A fun r V => ∃ fp x cells, r = .agg cells.toArray ∧ GenS x ∧ Led B (oc suiteO fp x cells :: rdr q sl (N + 200) :: L) V := by
  refine acalls Try.func81 rfl (by kernel_rfl) ?_
  simp (disch := omega) only [↓stq, amv_at, vls, inf, frs, mark_eq, ↓reduceIte, Nat.reduceEqDiff, ite_tt, ite_ff, eq_self, and_true, true_and, and_self, implies_true, Bool.true_eq_false, Bool.false_eq_true, decide_true, decide_false, decide_eq_true_eq, decide_eq_false_iff_not, ne_eq, not_true_eq_false, not_false_eq_true, Bool.not_eq_true', Bool.not_eq_false', beq_self_eq_true, Bool.not_true, Bool.not_false, List.getElem?_toArray, List.getElem?_cons_zero, List.getElem?_cons_succ]
  refine led_alloc zc26 l fun q2 V _ l => ?_
  simp (disch := omega) only [↓stq, amv_at, vls, inf, frs, mark_eq, ↓reduceIte, Nat.reduceEqDiff, ite_tt, ite_ff, eq_self, and_true, true_and, and_self, implies_true, Bool.true_eq_false, Bool.false_eq_true, decide_true, decide_false, decide_eq_true_eq, decide_eq_false_iff_not, ne_eq, not_true_eq_false, not_false_eq_true, Bool.not_eq_true', Bool.not_eq_false', beq_self_eq_true, Bool.not_true, Bool.not_false, List.getElem?_toArray, List.getElem?_cons_zero, List.getElem?_cons_succ]
  refine led_lit li31 (by omega) rfl (by simp [Value.cells, Value.oneCell']) l fun bn V _ l => ?_
  simp (disch := omega) only [↓stq, amv_at, vls, inf, frs, mark_eq, ↓reduceIte, Nat.reduceEqDiff, ite_tt, ite_ff, eq_self, and_true, true_and, and_self, implies_true, Bool.true_eq_false, Bool.false_eq_true, decide_true, decide_false, decide_eq_true_eq, decide_eq_false_iff_not, ne_eq, not_true_eq_false, not_false_eq_true, Bool.not_eq_true', Bool.not_eq_false', beq_self_eq_true, Bool.not_true, Bool.not_false, List.getElem?_toArray, List.getElem?_cons_zero, List.getElem?_cons_succ, bu0S]
  refine led_alloc zc26 l fun q4 V _ l => ?_
  simp (disch := omega) only [↓stq, amv_at, vls, inf, frs, mark_eq, ↓reduceIte, Nat.reduceEqDiff, ite_tt, ite_ff, eq_self, and_true, true_and, and_self, implies_true, Bool.true_eq_false, Bool.false_eq_true, decide_true, decide_false, decide_eq_true_eq, decide_eq_false_iff_not, ne_eq, not_true_eq_false, not_false_eq_true, Bool.not_eq_true', Bool.not_eq_false', beq_self_eq_true, Bool.not_true, Bool.not_false, List.getElem?_toArray, List.getElem?_cons_zero, List.getElem?_cons_succ]
  refine led_storeAll (d := [.slice none 0 0, .slice none 0 0]) l 0 rfl sz26 rfl rfl (by simp [Value.oneCell']) fun V l => ?_
  simp (disch := omega) only [↓stq, amv_at, vls, inf, frs, mark_eq, ↓reduceIte, Nat.reduceEqDiff, ite_tt, ite_ff, eq_self, and_true, true_and, and_self, implies_true, Bool.true_eq_false, Bool.false_eq_true, decide_true, decide_false, decide_eq_true_eq, decide_eq_false_iff_not, ne_eq, not_true_eq_false, not_false_eq_true, Bool.not_eq_true', Bool.not_eq_false', beq_self_eq_true, Bool.not_true, Bool.not_false, List.getElem?_toArray, List.getElem?_cons_zero, List.getElem?_cons_succ]
  refine led_lit li88 (by omega) rfl (by simp [Value.cells, Value.oneCell']) l fun bl V _ l => ?_
  simp (disch := omega) only [↓stq, amv_at, vls, inf, frs, mark_eq, ↓reduceIte, Nat.reduceEqDiff, ite_tt, ite_ff, eq_self, and_true, true_and, and_self, implies_true, Bool.true_eq_false, Bool.false_eq_true, decide_true, decide_false, decide_eq_true_eq, decide_eq_false_iff_not, ne_eq, not_true_eq_false, not_false_eq_true, Bool.not_eq_true', Bool.not_eq_false', beq_self_eq_true, Bool.not_true, Bool.not_false, List.getElem?_toArray, List.getElem?_cons_zero, List.getElem?_cons_succ]
  refine (oneLit_c (n := 7) (c := 7) (xs := [_, _, _, _, _, _, _]) B V _ q sl N hb (by omega) rfl rfl (by omega) (by decide) (by omega) (by omega) (l.perm ((List.Perm.trans (List.Perm.swap ..) ((List.Perm.trans (List.Perm.swap ..) ((List.Perm.swap ..).cons _)).cons _)).cons _))).mono ?_
  rintro _ V ⟨s, rfl, hs, l⟩
  have hs3 : 0 ≤ s ∧ s ≤ 6 := by revert s; decide
  obtain ⟨n, rfl⟩ := Int.eq_ofNat_of_zero_le hs3.1
  obtain ⟨ns, hns⟩ : ∃ ns : List ByteArray, ns = [⟨#[100, 98]⟩, ⟨#[116, 109, 112]⟩, ⟨#[110, 101, 116]⟩, ⟨#[117, 115, 101, 114]⟩, ⟨#[108, 111, 103]⟩, ⟨#[97, 112, 112]⟩] := ⟨_, rfl⟩
  have hnl : ns.length = 6 := by rw [hns]; rfl
  have hnz : ∀ x, x ∈ ns → x.size ≤ 100 := by rw [hns]; decide
  replace l := l.upd (i := 2) (jt := osl 9 strO [bn] (.slice (some ⟨bn, 0, none⟩) ns.length 6) ns) rfl rfl (Only.refl _ _) (lit_osl (c := 6) (l.at (i := 2) rfl) rfl (by rw [hns]; rfl) (by omega) (by omega) hnz)
  rw [hnl] at l
  clear hns
  simp (disch := omega) only [↓stq, amv_at, vls, inf, frs, mark_eq, ↓reduceIte, Nat.reduceEqDiff, ite_tt, ite_ff, eq_self, and_true, true_and, and_self, implies_true, Bool.true_eq_false, Bool.false_eq_true, decide_true, decide_false, decide_eq_true_eq, decide_eq_false_iff_not, ne_eq, not_true_eq_false, not_false_eq_true, Bool.not_eq_true', Bool.not_eq_false', beq_self_eq_true, Bool.not_true, Bool.not_false, List.getElem?_toArray, List.getElem?_cons_zero, List.getElem?_cons_succ]
  refine led_lit0 (O := strO) li31 l fun bu V _ l => ?_
  simp (disch := omega) only [↓stq, amv_at, vls, inf, frs, mark_eq, ↓reduceIte, Nat.reduceEqDiff, ite_tt, ite_ff, eq_self, and_true, true_and, and_self, implies_true, Bool.true_eq_false, Bool.false_eq_true, decide_true, decide_false, decide_eq_true_eq, decide_eq_false_iff_not, ne_eq, not_true_eq_false, not_false_eq_true, Bool.not_eq_true', Bool.not_eq_false', beq_self_eq_true, Bool.not_true, Bool.not_false, List.getElem?_toArray, List.getElem?_cons_zero, List.getElem?_cons_succ]
  have l0 : Led B (osl 9 strO [bu] (.slice (some ⟨bu, 0, none⟩) 0 0) (([] : List FixtureD).map fun f : FixtureD => f.1) :: rdr q sl (N + 1) :: bx q4 ⟨26, [.slice none 0 0, .slice none 0 0], 2, true⟩ :: osl 33 fixtureO [] (.slice none 0 0) [] :: osl 9 strO [bn] (.slice (some ⟨bn, 0, none⟩) 6 6) ns :: bx q2 ⟨26, [.slice none 0 0, .slice none 0 0], 2, true⟩ :: L) V := (Led.nilO 33 fixtureO l).perm ((((List.Perm.swap ..).trans ((List.Perm.swap ..).cons _)).trans (((List.Perm.swap ..).cons _).cons _)).symm)
  clear l
  refine aloop (fun d fr V => ∃ (i : Nat) (fu : List Nat) (wu : Value) (fp : List Nat) (w : Value) (fs : List FixtureD), i ≤ n ∧ d = n - i ∧ Led B (osl 9 strO fu wu (fs.map fun f : FixtureD => f.1) :: rdr q sl (N + 1 + 6 * i) :: bx q4 ⟨26, [w, .slice none 0 0], 2, true⟩ :: osl 33 fixtureO fp w fs :: osl 9 strO [bn] (.slice (some ⟨bn, 0, none⟩) 6 6) ns :: bx q2 ⟨26, [.slice none 0 0, .slice none 0 0], 2, true⟩ :: L) V ∧ fr 0 = .pointer (some ⟨q, 0, none⟩) ∧ fr 2 = .pointer (some ⟨q2, 0, none⟩) ∧ fr 3 = .slice (some ⟨bn, 0, none⟩) 6 6 ∧ fr 4 = .pointer (some ⟨q4, 0, none⟩) ∧ fr 5 = .int .i64 n ∧ fr 6 = wu ∧ fr 7 = .int .i64 i ∧ fs.length = i ∧ ∀ f, f ∈ fs → genF f) n ⟨0, _, _, _, _, [], by omega, by omega, l0, by rfl, by rfl, by rfl, by rfl, by rfl, by rfl, by rfl, rfl, by simp⟩ ?_
  clear l0
  rintro d fr V ⟨i, fu, wu, fp, w, fs, hi, rfl, l, h0, h2, h3, h4, h5, h6, h7, hfl, hgf⟩
  simp (disch := omega) only [↓stq, amv_at, vls, inf, frs, mark_eq, ↓reduceIte, Nat.reduceEqDiff, ite_tt, ite_ff, eq_self, and_true, true_and, and_self, implies_true, Bool.true_eq_false, Bool.false_eq_true, decide_true, decide_false, decide_eq_true_eq, decide_eq_false_iff_not, ne_eq, not_true_eq_false, not_false_eq_true, Bool.not_eq_true', Bool.not_eq_false', beq_self_eq_true, Bool.not_true, Bool.not_false, List.getElem?_toArray, List.getElem?_cons_zero, List.getElem?_cons_succ, h0, h2, h3, h4, h5, h6, h7]
  refine ⟨fun e => ?_, fun e => ?_⟩
  · have hlt : i < ns.length := by omega
    have hnS : ∀ V', OSl 9 strO V' [bn] (.slice (some ⟨bn, 0, none⟩) 6 6) ns → V'.cell ((⟨bn, 0, none⟩ : Addr).add i) = some (.string ns[i]) := fun V' hV => by
      have hs2 : Sl strS V' (.slice (some ⟨bn, 0, none⟩) 6 6) ns := OSl.toS hV
      rw [show (6 : Nat) = ns.length from hnl.symm] at hs2
      obtain ⟨ad, hq, kk, _⟩ := hs2.str hlt
      obtain rfl := Option.some.inj hq
      exact kk
    have kk := hnS V (l.at (i := 4) rfl)
    obtain ⟨au, cu, rfl, _, _⟩ := (OSl.toS (show OSl 9 strO V fu wu _ from l.at (i := 0) rfl)).slice
    simp (disch := omega) only [↓stq, amv_at, vls, inf, frs, mark_eq, ↓reduceIte, Nat.reduceEqDiff, ite_tt, ite_ff, eq_self, and_true, true_and, and_self, implies_true, Bool.true_eq_false, Bool.false_eq_true, decide_true, decide_false, decide_eq_true_eq, decide_eq_false_iff_not, ne_eq, not_true_eq_false, not_false_eq_true, Bool.not_eq_true', Bool.not_eq_false', beq_self_eq_true, Bool.not_true, Bool.not_false, List.getElem?_toArray, List.getElem?_cons_zero, List.getElem?_cons_succ, h0, h2, h3, h4, h5, h6, h7]
    refine adraw_items [.q 0, .q 1, .q 2, .l 3 true, .q 4, .q 6, .q 7, .q 9, .c 5 [3], .c 8 [3], .c 10 [3], .q 11, .q 12, .c 13 [], .c 14 []] (by kernel_rfl) (by kernel_rfl) ?_
    simp (disch := omega) only [↓stq, amv_at, ↓pln, plv, nilOk, Nat.reduceBEq, Bool.or_false, Bool.or_true, Bool.false_or, Bool.true_or, vls, inf, frs, mark_eq, ↓reduceIte, Nat.reduceEqDiff, ite_tt, ite_ff, eq_self, and_true, true_and, and_self, implies_true, Bool.true_eq_false, Bool.false_eq_true, decide_true, decide_false, decide_eq_true_eq, decide_eq_false_iff_not, ne_eq, not_true_eq_false, not_false_eq_true, Bool.not_eq_true', Bool.not_eq_false', beq_self_eq_true, Bool.not_true, Bool.not_false, List.getElem?_toArray, List.getElem?_cons_zero, List.getElem?_cons_succ, h0, h2, h3, h4, h5, h6, h7, kk]
    refine (pick_c B V _ q sl _ 3 hb (by omega) ⟨by omega, by omega⟩ (l.perm (List.Perm.swap ..))).mono ?_
    rintro _ V ⟨sc, rfl, hsc0, hsc1, l⟩
    have kk := hnS V (l.at (i := 4) rfl)
    simp (disch := omega) only [↓stq, amv_at, ↓pln, plv, nilOk, Nat.reduceBEq, Bool.or_false, Bool.or_true, Bool.false_or, Bool.true_or, vls, inf, frs, mark_eq, ↓reduceIte, Nat.reduceEqDiff, ite_tt, ite_ff, eq_self, and_true, true_and, and_self, implies_true, Bool.true_eq_false, Bool.false_eq_true, decide_true, decide_false, decide_eq_true_eq, decide_eq_false_iff_not, ne_eq, not_true_eq_false, not_false_eq_true, Bool.not_eq_true', Bool.not_eq_false', beq_self_eq_true, Bool.not_true, Bool.not_false, List.getElem?_toArray, List.getElem?_cons_zero, List.getElem?_cons_succ, h0, h2, h3, h4, h5, h6, h7, kk, false_implies]
    refine (someNeeds_c B V _ q sl _ _ (fs.map fun f : FixtureD => f.1) hb (by omega) (fun V l => OSl.toS (l.at (i := 0) rfl)) l).mono ?_
    rintro r2 V ⟨fn, nd, hn1, hn2, l⟩
    obtain ⟨an, cn, rfl, _, _⟩ := (OSl.toS (show OSl 9 strO V fn r2 nd from l.at (i := 0) rfl)).slice
    have kk := hnS V (l.at (i := 5) rfl)
    simp (disch := omega) only [↓stq, amv_at, ↓pln, plv, nilOk, Nat.reduceBEq, Bool.or_false, Bool.or_true, Bool.false_or, Bool.true_or, vls, inf, frs, mark_eq, ↓reduceIte, Nat.reduceEqDiff, ite_tt, ite_ff, eq_self, and_true, true_and, and_self, implies_true, Bool.true_eq_false, Bool.false_eq_true, decide_true, decide_false, decide_eq_true_eq, decide_eq_false_iff_not, ne_eq, not_true_eq_false, not_false_eq_true, Bool.not_eq_true', Bool.not_eq_false', beq_self_eq_true, Bool.not_true, Bool.not_false, List.getElem?_toArray, List.getElem?_cons_zero, List.getElem?_cons_succ, h0, h2, h3, h4, h5, h6, h7, kk, false_implies]
    refine (pick_c B V _ q sl _ 6 hb (by omega) ⟨by omega, by omega⟩ (l.perm (List.Perm.swap ..))).mono ?_
    rintro _ V ⟨au2, rfl, hau0, hau1, l⟩
    have kk := hnS V (l.at (i := 5) rfl)
    simp (disch := omega) only [↓stq, amv_at, ↓pln, plv, nilOk, Nat.reduceBEq, Bool.or_false, Bool.or_true, Bool.false_or, Bool.true_or, vls, inf, frs, mark_eq, ↓reduceIte, Nat.reduceEqDiff, ite_tt, ite_ff, eq_self, and_true, true_and, and_self, implies_true, Bool.true_eq_false, Bool.false_eq_true, decide_true, decide_false, decide_eq_true_eq, decide_eq_false_iff_not, ne_eq, not_true_eq_false, not_false_eq_true, Bool.not_eq_true', Bool.not_eq_false', beq_self_eq_true, Bool.not_true, Bool.not_false, List.getElem?_toArray, List.getElem?_cons_zero, List.getElem?_cons_succ, h0, h2, h3, h4, h5, h6, h7, kk, false_implies]
    refine led_alloc zc33 l fun q8 V _ l => ?_
    have kk := hnS V (l.at (i := 6) rfl)
    simp (disch := omega) only [↓stq, amv_at, ↓pln, plv, nilOk, Nat.reduceBEq, Bool.or_false, Bool.or_true, Bool.false_or, Bool.true_or, vls, inf, frs, mark_eq, ↓reduceIte, Nat.reduceEqDiff, ite_tt, ite_ff, eq_self, and_true, true_and, and_self, implies_true, Bool.true_eq_false, Bool.false_eq_true, decide_true, decide_false, decide_eq_true_eq, decide_eq_false_iff_not, ne_eq, not_true_eq_false, not_false_eq_true, Bool.not_eq_true', Bool.not_eq_false', beq_self_eq_true, Bool.not_true, Bool.not_false, List.getElem?_toArray, List.getElem?_cons_zero, List.getElem?_cons_succ, h0, h2, h3, h4, h5, h6, h7, kk, false_implies]
    generalize hbb : decide (au2 = 0) = ab
    refine led_storeAll l 0 rfl sz33 rfl rfl (by simp [Value.oneCell']) fun V l => ?_
    have kk := hnS V (l.at (i := 6) rfl)
    simp (disch := omega) only [↓stq, amv_at, ↓pln, plv, nilOk, Nat.reduceBEq, Bool.or_false, Bool.or_true, Bool.false_or, Bool.true_or, vls, inf, frs, mark_eq, ↓reduceIte, Nat.reduceEqDiff, ite_tt, ite_ff, eq_self, and_true, true_and, and_self, implies_true, Bool.true_eq_false, Bool.false_eq_true, decide_true, decide_false, decide_eq_true_eq, decide_eq_false_iff_not, ne_eq, not_true_eq_false, not_false_eq_true, Bool.not_eq_true', Bool.not_eq_false', beq_self_eq_true, Bool.not_true, Bool.not_false, List.getElem?_toArray, List.getElem?_cons_zero, List.getElem?_cons_succ, h0, h2, h3, h4, h5, h6, h7, kk, false_implies]
    have hnz1 := hnz _ (List.getElem_mem hlt)
    generalize hnm : ns[i] = nm at l hnz1 kk
    obtain ⟨aw, cw, rfl, _, _⟩ := (OSl.toS (show OSl 33 fixtureO V fp w fs from l.at (i := 5) rfl)).slice
    simp (disch := omega) only [↓stq, amv_at, vls, inf, frs, mark_eq, ↓reduceIte, Nat.reduceEqDiff, ite_tt, ite_ff, eq_self, and_true, true_and, and_self, implies_true, Bool.true_eq_false, Bool.false_eq_true, decide_true, decide_false, decide_eq_true_eq, decide_eq_false_iff_not, ne_eq, not_true_eq_false, not_false_eq_true, Bool.not_eq_true', Bool.not_eq_false', beq_self_eq_true, Bool.not_true, Bool.not_false, List.getElem?_toArray, List.getElem?_cons_zero, List.getElem?_cons_succ, h0, h2, h3, h4, h5, h6, h7]
    refine aloop (fun d fr V => ∃ (k : Nat) (sc : Int), k ≤ nd.length ∧ d = nd.length - k ∧ (-9223372036854775808 ≤ sc ∧ sc < 9223372036854775808) ∧ Led B (bx q8 ⟨33, [.string nm, .int .i64 sc, .slice an nd.length cn, .bool ab], 4, true⟩ :: rdr q sl (N + 1 + 6 * i + 1 + 4 + 1) :: osl 9 strO fn (.slice an nd.length cn) nd :: osl 9 strO fu (.slice au (fs.map fun f : FixtureD => f.1).length cu) (fs.map fun f : FixtureD => f.1) :: bx q4 ⟨26, [.slice aw fs.length cw, .slice none 0 0], 2, true⟩ :: osl 33 fixtureO fp (.slice aw fs.length cw) fs :: osl 9 strO [bn] (.slice (some ⟨bn, 0, none⟩) 6 6) ns :: bx q2 ⟨26, [.slice none 0 0, .slice none 0 0], 2, true⟩ :: L) V ∧ fr 0 = .pointer (some ⟨q, 0, none⟩) ∧ fr 2 = .pointer (some ⟨q2, 0, none⟩) ∧ fr 3 = .slice (some ⟨bn, 0, none⟩) 6 6 ∧ fr 4 = .pointer (some ⟨q4, 0, none⟩) ∧ fr 5 = .int .i64 n ∧ fr 6 = .slice au (fs.map fun f : FixtureD => f.1).length cu ∧ fr 7 = .int .i64 i ∧ fr 8 = .pointer (some ⟨q8, 0, none⟩) ∧ fr 9 = .int .i64 k) nd.length ⟨0, sc, by omega, by omega, by omega, l, h0, h2, h3, h4, h5, h6, h7, by rfl, by rfl⟩ ?_
    clear l h0 h2 h3 h4 h5 h6 h7 kk hsc0 hsc1
    rintro d fr V ⟨k, sc, hk, rfl, hsr, l, h0, h2, h3, h4, h5, h6, h7, h8, h9⟩
    have m1 := l.cell (i := 0) rfl (o := 1) rfl rfl
    have m2 := l.cell (i := 0) rfl (o := 2) rfl rfl
    have w0 := l.cell (i := 4) rfl (o := 0) rfl rfl
    have hfS : Sl fixtureS V (.slice aw fs.length cw) fs := OSl.toS (show OSl 33 fixtureO V fp _ fs from l.at (i := 5) rfl)
    simp (disch := omega) only [↓stq, amv_at, vls, inf, frs, mark_eq, ↓reduceIte, Nat.reduceEqDiff, ite_tt, ite_ff, eq_self, and_true, true_and, and_self, implies_true, Bool.true_eq_false, Bool.false_eq_true, decide_true, decide_false, decide_eq_true_eq, decide_eq_false_iff_not, ne_eq, not_true_eq_false, not_false_eq_true, Bool.not_eq_true', Bool.not_eq_false', beq_self_eq_true, Bool.not_true, Bool.not_false, List.getElem?_toArray, List.getElem?_cons_zero, List.getElem?_cons_succ, h0, h2, h3, h4, h5, h6, h7, h8, h9, add_at, m2]
    refine ⟨fun e1 => ?_, fun e1 => ?_⟩
    · have hltk : k < nd.length := by omega
      obtain ⟨ad, rfl, kk, zk⟩ := (OSl.toS (show OSl 9 strO V fn _ nd from l.at (i := 2) rfl)).str hltk
      simp (disch := omega) only [↓stq, amv_at, vls, inf, frs, mark_eq, ↓reduceIte, Nat.reduceEqDiff, ite_tt, ite_ff, eq_self, and_true, true_and, and_self, implies_true, Bool.true_eq_false, Bool.false_eq_true, decide_true, decide_false, decide_eq_true_eq, decide_eq_false_iff_not, ne_eq, not_true_eq_false, not_false_eq_true, Bool.not_eq_true', Bool.not_eq_false', beq_self_eq_true, Bool.not_true, Bool.not_false, List.getElem?_toArray, List.getElem?_cons_zero, List.getElem?_cons_succ, h0, h2, h3, h4, h5, h6, h7, h8, h9]
      refine adraw_items [.q 0, .l 1 false, .q 2, .l 3 false, .q 4, .q 5, .l 6 false, .c 7 [], .q 8] (by kernel_rfl) (by kernel_rfl) ?_
      simp (disch := omega) only [↓stq, amv_at, ↓pln, plv, nilOk, Nat.reduceBEq, Bool.or_false, Bool.or_true, Bool.false_or, Bool.true_or, vls, inf, frs, mark_eq, ↓reduceIte, Nat.reduceEqDiff, ite_tt, ite_ff, eq_self, and_true, true_and, and_self, implies_true, Bool.true_eq_false, Bool.false_eq_true, decide_true, decide_false, decide_eq_true_eq, decide_eq_false_iff_not, ne_eq, not_true_eq_false, not_false_eq_true, Bool.not_eq_true', Bool.not_eq_false', beq_self_eq_true, Bool.not_true, Bool.not_false, List.getElem?_toArray, List.getElem?_cons_zero, List.getElem?_cons_succ, h0, h2, h3, h4, h5, h6, h7, h8, h9, add_at, w0, m2, kk]
      refine (spec_fixtureAt_c V _ fs nd[k] hfS).mono ?_
      rintro _ V ⟨rfl, rfl⟩
      obtain ⟨j, hj, _, hjl⟩ := fAt_lt0 (xs := fs) (name := nd[k]) (fAt_in.2 (hn2 _ (List.getElem_mem hltk)))
      rw [hj]
      obtain ⟨ad2, u2, rfl, hclA, y1, y2, _⟩ := hfS.fixture hjl
      have s1 := View.part_cell hclA (j := 1) rfl
      simp (disch := omega) only [↓stq, amv_at, ↓pln, plv, nilOk, Nat.reduceBEq, Bool.or_false, Bool.or_true, Bool.false_or, Bool.true_or, vls, inf, frs, mark_eq, ↓reduceIte, Nat.reduceEqDiff, ite_tt, ite_ff, eq_self, and_true, true_and, and_self, implies_true, Bool.true_eq_false, Bool.false_eq_true, decide_true, decide_false, decide_eq_true_eq, decide_eq_false_iff_not, ne_eq, not_true_eq_false, not_false_eq_true, Bool.not_eq_true', Bool.not_eq_false', beq_self_eq_true, Bool.not_true, Bool.not_false, List.getElem?_toArray, List.getElem?_cons_zero, List.getElem?_cons_succ, h0, h2, h3, h4, h5, h6, h7, h8, h9, add_at, w0, m2, kk]
      refine adraw_items [.q 0, .l 1 false, .q 2, .l 3 false, .q 4, .q 5, .q 6, .l 7 false, .q 8, .q 9, .c 10 []] (by kernel_rfl) (by kernel_rfl) ?_
      simp (disch := omega) only [↓stq, amv_at, ↓pln, plv, nilOk, Nat.reduceBEq, Bool.or_false, Bool.or_true, Bool.false_or, Bool.true_or, vls, inf, frs, mark_eq, ↓reduceIte, Nat.reduceEqDiff, ite_tt, ite_ff, eq_self, and_true, true_and, and_self, implies_true, Bool.true_eq_false, Bool.false_eq_true, decide_true, decide_false, decide_eq_true_eq, decide_eq_false_iff_not, ne_eq, not_true_eq_false, not_false_eq_true, Bool.not_eq_true', Bool.not_eq_false', beq_self_eq_true, Bool.not_true, Bool.not_false, List.getElem?_toArray, List.getElem?_cons_zero, List.getElem?_cons_succ, h0, h2, h3, h4, h5, h6, h7, h8, h9, add_at, w0, m1, s1]
      have hmin : -9223372036854775808 ≤ (if (fs[j]).2.1 < sc then (fs[j]).2.1 else sc) ∧ (if (fs[j]).2.1 < sc then (fs[j]).2.1 else sc) < 9223372036854775808 := by
        split
        · exact y2
        · exact hsr
      generalize (if (fs[j]).2.1 < sc then (fs[j]).2.1 else sc) = sc2 at hmin
      refine led_store l 0 rfl sz3 (by rfl) (by rfl) (by rfl) fun V l => ?_
      have m1 := l.cell (i := 0) rfl (o := 1) rfl rfl
      have w0 := l.cell (i := 4) rfl (o := 0) rfl rfl
      simp (disch := omega) only [↓stq, amv_at, ↓pln, plv, nilOk, Nat.reduceBEq, Bool.or_false, Bool.or_true, Bool.false_or, Bool.true_or, vls, inf, frs, mark_eq, ↓reduceIte, Nat.reduceEqDiff, ite_tt, ite_ff, eq_self, and_true, true_and, and_self, implies_true, Bool.true_eq_false, Bool.false_eq_true, decide_true, decide_false, decide_eq_true_eq, decide_eq_false_iff_not, ne_eq, not_true_eq_false, not_false_eq_true, Bool.not_eq_true', Bool.not_eq_false', beq_self_eq_true, Bool.not_true, Bool.not_false, List.getElem?_toArray, List.getElem?_cons_zero, List.getElem?_cons_succ, h0, h2, h3, h4, h5, h6, h7, h8, h9, add_at, w0, m1, false_implies]
      exact ⟨_, by omega, k + 1, sc2, by omega, rfl, hmin, l, rfl⟩
    · have kt : V.part ⟨q8, 0, none⟩ 4 = some _ := l.part (i := 0) rfl rfl
      simp (disch := omega) only [↓stq, amv_at, vls, inf, frs, mark_eq, ↓reduceIte, Nat.reduceEqDiff, ite_tt, ite_ff, eq_self, and_true, true_and, and_self, implies_true, Bool.true_eq_false, Bool.false_eq_true, decide_true, decide_false, decide_eq_true_eq, decide_eq_false_iff_not, ne_eq, not_true_eq_false, not_false_eq_true, Bool.not_eq_true', Bool.not_eq_false', beq_self_eq_true, Bool.not_true, Bool.not_false, List.getElem?_toArray, List.getElem?_cons_zero, List.getElem?_cons_succ, h0, h2, h3, h4, h5, h6, h7, h8, h9, add_at, w0, kt]
      obtain ⟨f, hf⟩ : ∃ f : FixtureD, f = (nm, sc, nd, ab, ()) := ⟨_, rfl⟩
      have hgF : genF f := by rw [hf]; exact ⟨hnz1, hn1⟩
      have hfn : f.1 = nm := by rw [hf]
      have lo := (l.perm ((List.Perm.swap ..).trans ((List.Perm.swap ..).cons _))).upd (i := 0) (jt := oc fixtureO fn f [.string nm, .int .i64 sc, .slice an nd.length cn, .bool ab]) rfl rfl (Only.refl _ _) (show fixtureO.rel V fn f _ from by rw [hf]; exact fixtureO_mk (x := (nm, sc, nd, ab, ())) (by show nm.size ≤ _; omega) hsr (l.at (i := 2) rfl))
      refine led_lit li23 (by omega) rfl (fun p hp => by rcases List.mem_singleton.1 hp with rfl; exact ⟨rfl, rfl⟩) lo fun bl V4 _ l => ?_
      simp (disch := omega) only [↓stq, amv_at, vls, inf, frs, mark_eq, ↓reduceIte, Nat.reduceEqDiff, ite_tt, ite_ff, eq_self, and_true, true_and, and_self, implies_true, Bool.true_eq_false, Bool.false_eq_true, decide_true, decide_false, decide_eq_true_eq, decide_eq_false_iff_not, ne_eq, not_true_eq_false, not_false_eq_true, Bool.not_eq_true', Bool.not_eq_false', beq_self_eq_true, Bool.not_true, Bool.not_false, List.getElem?_toArray, List.getElem?_cons_zero, List.getElem?_cons_succ, h0, h2, h3, h4, h5, h6, h7, h8, h9]
      refine led_appO (O := fixtureO) ap23_23 (by decide) l (i := 4) rfl (by omega) fun fp' w' V5 _ l => ?_
      obtain ⟨aw', cw', rfl, _, _⟩ := (OSl.toS (show OSl 33 fixtureO V5 fp' w' _ from l.at (i := 4) rfl)).slice
      simp (disch := omega) only [↓stq, amv_at, vls, inf, frs, mark_eq, ↓reduceIte, Nat.reduceEqDiff, ite_tt, ite_ff, eq_self, and_true, true_and, and_self, implies_true, Bool.true_eq_false, Bool.false_eq_true, decide_true, decide_false, decide_eq_true_eq, decide_eq_false_iff_not, ne_eq, not_true_eq_false, not_false_eq_true, Bool.not_eq_true', Bool.not_eq_false', beq_self_eq_true, Bool.not_true, Bool.not_false, List.getElem?_toArray, List.getElem?_cons_zero, List.getElem?_cons_succ, h0, h2, h3, h4, h5, h6, h7, h8, h9, add_at]
      refine led_store l 3 rfl sz23 (by rfl) (by rfl) (by rfl) fun V6 l => ?_
      have m0 := l.cell (i := 0) rfl (o := 0) rfl rfl
      simp (disch := omega) only [↓stq, amv_at, vls, inf, frs, mark_eq, ↓reduceIte, Nat.reduceEqDiff, ite_tt, ite_ff, eq_self, and_true, true_and, and_self, implies_true, Bool.true_eq_false, Bool.false_eq_true, decide_true, decide_false, decide_eq_true_eq, decide_eq_false_iff_not, ne_eq, not_true_eq_false, not_false_eq_true, Bool.not_eq_true', Bool.not_eq_false', beq_self_eq_true, Bool.not_true, Bool.not_false, List.getElem?_toArray, List.getElem?_cons_zero, List.getElem?_cons_succ, h0, h2, h3, h4, h5, h6, h7, h8, h9, add_at, m0]
      refine led_lit li31 (by omega) rfl (fun p hp => by rcases List.mem_singleton.1 hp with rfl; exact ⟨rfl, rfl⟩) l fun bl V7 _ l => ?_
      simp (disch := omega) only [↓stq, amv_at, vls, inf, frs, mark_eq, ↓reduceIte, Nat.reduceEqDiff, ite_tt, ite_ff, eq_self, and_true, true_and, and_self, implies_true, Bool.true_eq_false, Bool.false_eq_true, decide_true, decide_false, decide_eq_true_eq, decide_eq_false_iff_not, ne_eq, not_true_eq_false, not_false_eq_true, Bool.not_eq_true', Bool.not_eq_false', beq_self_eq_true, Bool.not_true, Bool.not_false, List.getElem?_toArray, List.getElem?_cons_zero, List.getElem?_cons_succ, h0, h2, h3, h4, h5, h6, h7, h8, h9]
      refine led_app (O := strO) ap31_31 (by decide) l (i := 3) rfl (l.src1 (S := strS) (j := 0) rfl ⟨rfl, by omega⟩) (by rw [List.length_singleton, List.length_map]; omega) fun fp2 w2 V8 _ l => ?_
      simp (disch := omega) only [↓stq, amv_at, vls, inf, frs, mark_eq, ↓reduceIte, Nat.reduceEqDiff, ite_tt, ite_ff, eq_self, and_true, true_and, and_self, implies_true, Bool.true_eq_false, Bool.false_eq_true, decide_true, decide_false, decide_eq_true_eq, decide_eq_false_iff_not, ne_eq, not_true_eq_false, not_false_eq_true, Bool.not_eq_true', Bool.not_eq_false', beq_self_eq_true, Bool.not_true, Bool.not_false, List.getElem?_toArray, List.getElem?_cons_zero, List.getElem?_cons_succ, h0, h2, h3, h4, h5, h6, h7, h8, h9]
      refine ⟨_, by omega, i + 1, fp2, w2, fp', .slice aw' (fs ++ [f]).length cw', fs ++ [f], by omega, rfl, ?_, rfl, rfl, by rw [List.length_append, List.length_singleton]; omega, fun g hg => ?_⟩
      · rw [map_take_snoc, hfn]
        exact l.tail.tail.perm (List.Perm.swap ..)
      · rcases List.mem_append.1 hg with hg | hg
        · exact hgf g hg
        · rw [List.mem_singleton.1 hg]; exact hgF
  · have hfl6 : fs.length ≤ 6 := by omega
    simp (disch := omega) only [↓stq, amv_at, vls, inf, frs, mark_eq, ↓reduceIte, Nat.reduceEqDiff, ite_tt, ite_ff, eq_self, and_true, true_and, and_self, implies_true, Bool.true_eq_false, Bool.false_eq_true, decide_true, decide_false, decide_eq_true_eq, decide_eq_false_iff_not, ne_eq, not_true_eq_false, not_false_eq_true, Bool.not_eq_true', Bool.not_eq_false', beq_self_eq_true, Bool.not_true, Bool.not_false, List.getElem?_toArray, List.getElem?_cons_zero, List.getElem?_cons_succ, h0, h2, h3, h4, h5, h6, h7]
    refine (goodTests_c B V _ q sl _ wu (fs.map fun f : FixtureD => f.1) hb (by omega) (fun V l => OSl.toS (l.at (i := 0) rfl)) (l.perm (List.Perm.swap ..))).mono ?_
    rintro r V ⟨ft, ts, ht1, ht2, l⟩
    obtain ⟨at1, ct1, rfl, _, _⟩ := (OSl.toS (show OSl 38 testO V ft r ts from l.at (i := 0) rfl)).slice
    obtain ⟨aw, cw, rfl, _, _⟩ := (OSl.toS (show OSl 33 fixtureO V fp w fs from l.at (i := 4) rfl)).slice
    simp (disch := omega) only [↓stq, amv_at, vls, inf, frs, mark_eq, ↓reduceIte, Nat.reduceEqDiff, ite_tt, ite_ff, eq_self, and_true, true_and, and_self, implies_true, Bool.true_eq_false, Bool.false_eq_true, decide_true, decide_false, decide_eq_true_eq, decide_eq_false_iff_not, ne_eq, not_true_eq_false, not_false_eq_true, Bool.not_eq_true', Bool.not_eq_false', beq_self_eq_true, Bool.not_true, Bool.not_false, List.getElem?_toArray, List.getElem?_cons_zero, List.getElem?_cons_succ, h0, h2, h3, h4, h5, h6, h7, add_at]
    refine led_store l 3 rfl sz24 (by rfl) (by rfl) (by rfl) fun V l => ?_
    have kp : V.part ⟨q4, 0, none⟩ 2 = some [.slice aw fs.length cw, .slice at1 ts.length ct1] := l.part (i := 3) rfl rfl
    simp (disch := omega) only [↓stq, amv_at, vls, inf, frs, mark_eq, ↓reduceIte, Nat.reduceEqDiff, ite_tt, ite_ff, eq_self, and_true, true_and, and_self, implies_true, Bool.true_eq_false, Bool.false_eq_true, decide_true, decide_false, decide_eq_true_eq, decide_eq_false_iff_not, ne_eq, not_true_eq_false, not_false_eq_true, Bool.not_eq_true', Bool.not_eq_false', beq_self_eq_true, Bool.not_true, Bool.not_false, List.getElem?_toArray, List.getElem?_cons_zero, List.getElem?_cons_succ, h0, h2, h3, h4, h5, h6, h7, kp]
    refine led_storeAll (d := [.slice aw fs.length cw, .slice at1 ts.length ct1]) l 6 rfl sz26 rfl rfl (by simp [Value.oneCell']) fun V l => ?_
    have kp : V.part ⟨q2, 0, none⟩ 2 = some [.slice aw fs.length cw, .slice at1 ts.length ct1] := l.part (i := 6) rfl rfl
    simp (disch := omega) only [↓stq, amv_at, vls, inf, frs, mark_eq, ↓reduceIte, Nat.reduceEqDiff, ite_tt, ite_ff, eq_self, and_true, true_and, and_self, implies_true, Bool.true_eq_false, Bool.false_eq_true, decide_true, decide_false, decide_eq_true_eq, decide_eq_false_iff_not, ne_eq, not_true_eq_false, not_false_eq_true, Bool.not_eq_true', Bool.not_eq_false', beq_self_eq_true, Bool.not_true, Bool.not_false, List.getElem?_toArray, List.getElem?_cons_zero, List.getElem?_cons_succ, h0, h2, h3, h4, h5, h6, h7, kp]
    have l2 : Led B (osl 38 testO ft (.slice at1 ts.length ct1) ts :: osl 33 fixtureO fp (.slice aw fs.length cw) fs :: rdr q sl (N + 1 + 6 * i + 101) :: L) V := (l.sub (M := osl 38 testO ft (.slice at1 ts.length ct1) ts :: rdr q sl (N + 1 + 6 * i + 101) :: osl 33 fixtureO fp (.slice aw fs.length cw) fs :: L) (.cons_cons _ (.cons_cons _ (.cons _ (.cons _ (.cons_cons _ (.cons _ (.cons _ (List.Sublist.refl L))))))))).perm ((List.Perm.swap ..).cons _)
    have l3 := l2.join2 (jt := oc suiteO (fp ++ ft) (fs, ts, ()) [.slice aw fs.length cw, .slice at1 ts.length ct1]) rfl (suiteO_mk (x := (fs, ts, ())) (l2.at (i := 1) rfl) (l2.at (i := 0) rfl))
    exact ⟨_, (fs, ts, ()), _, rfl, ⟨hfl6, ht1, hgf, ht2⟩, (rdr_more (l3.perm (List.Perm.swap ..)) (M := N + 200) (by omega)).perm (List.Perm.swap ..)⟩

end Go.Proofs.Ytjojofnkgeiadaa

