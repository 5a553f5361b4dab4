/- Part 3 of the proof: its texts, one behind the other. -/
import Derived.Test.YtggklaimbklefaaJExactSuiteText2
import Derived.Lib.UnsafeStr
import Derived.Lib.MakeNoZero

/- The helpers of the laws for Fixture: counted, copied, compared, marked. -/
set_option maxHeartbeats 4000000
set_option synthInstance.maxHeartbeats 400000
set_option synthInstance.maxSize 4096
set_option linter.unusedSimpArgs false
set_option linter.unusedVariables false
namespace Go.Proofs.Ytggklaimbklefaa

set_option maxRecDepth 100000

abbrev FixtureD := ByteArray × Int × List ByteArray × Bool × Unit

def fixtureS : Shape FixtureD := consS strS (consS intS (consS (slS strS) (consS boolS unitS)))

def fixtureO : OwnS FixtureD := consO strO (consO intO (consO (slO 9 strO) (consO boolO unitO)))

def fixtureT : GT FixtureD := consT strT (consT intT (consT (slT 9 strT) (consT boolT unitT)))

theorem fixtureS_open {A : View} {x : FixtureD} {d : List Value} (h : fixtureS.rel A x d) : ∃ uu2 : Value, d = [.string x.1, .int .i64 x.2.1, uu2, .bool x.2.2.2.1] ∧ x.1.size ≤ 140737488355328 ∧ (-9223372036854775808 ≤ x.2.1 ∧ x.2.1 < 9223372036854775808) ∧ Sl strS A uu2 x.2.2.1 := by
  obtain ⟨_, _, rfl, ⟨rfl, hh0⟩, ⟨_, _, rfl, ⟨rfl, hh1⟩, ⟨_, _, rfl, ⟨uu2, rfl, hh2⟩, ⟨_, _, rfl, rfl, rfl⟩⟩⟩⟩ := h
  exact ⟨uu2, rfl, hh0, hh1, hh2⟩

theorem fixtureS_mk {A : View} {x : FixtureD} {uu2 : Value} (hh0 : x.1.size ≤ 140737488355328) (hh1 : (-9223372036854775808 ≤ x.2.1 ∧ x.2.1 < 9223372036854775808)) (hh2 : Sl strS A uu2 x.2.2.1) : fixtureS.rel A x [.string x.1, .int .i64 x.2.1, uu2, .bool x.2.2.2.1] := ⟨_, _, rfl, ⟨rfl, hh0⟩, ⟨_, _, rfl, ⟨rfl, hh1⟩, ⟨_, _, rfl, ⟨_, rfl, hh2⟩, ⟨_, _, rfl, rfl, rfl⟩⟩⟩⟩

theorem fixtureO_open {A : View} {fp : List Nat} {x : FixtureD} {d : List Value} (h : fixtureO.rel A fp x d) : ∃ (ff2 : List Nat) (uu2 : Value), ff2 = fp ∧ d = [.string x.1, .int .i64 x.2.1, uu2, .bool x.2.2.2.1] ∧ x.1.size ≤ 140737488355328 ∧ (-9223372036854775808 ≤ x.2.1 ∧ x.2.1 < 9223372036854775808) ∧ OSl 9 strO A ff2 uu2 x.2.2.1 := by
  obtain ⟨_, _, _, _, rfl, rfl, ⟨rfl, rfl, hh0⟩, ⟨_, _, _, _, rfl, rfl, ⟨rfl, rfl, hh1⟩, ⟨_, _, _, _, rfl, rfl, ⟨uu2, rfl, hh2⟩, ⟨_, _, _, _, rfl, rfl, ⟨rfl, rfl⟩, ⟨rfl, rfl⟩⟩⟩⟩⟩ := h
  exact ⟨_, uu2, by simp, rfl, hh0, hh1, hh2⟩

theorem fixtureO_mk {A : View} {x : FixtureD} {ff2 : List Nat} {uu2 : Value} (hh0 : x.1.size ≤ 140737488355328) (hh1 : (-9223372036854775808 ≤ x.2.1 ∧ x.2.1 < 9223372036854775808)) (hh2 : OSl 9 strO A ff2 uu2 x.2.2.1) : fixtureO.rel A (ff2) x [.string x.1, .int .i64 x.2.1, uu2, .bool x.2.2.2.1] := ⟨[], ff2, [.string x.1], _, by simp, rfl, ⟨rfl, rfl, hh0⟩, ⟨[], ff2, [.int .i64 x.2.1], _, by simp, rfl, ⟨rfl, rfl, hh1⟩, ⟨ff2, [], [uu2], _, by simp, rfl, ⟨_, rfl, hh2⟩, ⟨[], [], [.bool x.2.2.2.1], _, by simp, rfl, ⟨rfl, rfl⟩, ⟨rfl, rfl⟩⟩⟩⟩⟩

theorem fixtureO_S {A : View} {fp : List Nat} {x : FixtureD} {d : List Value} (h : fixtureO.rel A fp x d) : fixtureS.rel A x d := fixtureO.toS h

theorem fixtureT_w (x : FixtureD) : fixtureT.w x = x.1.size + (0 + ((x.2.2.1.length + wL strT x.2.2.1) + (0 + 0))) := rfl

theorem fixtureT_cnt (x : FixtureD) : fixtureT.cnt x = 1 + (1 + (cntL strT x.2.2.1 + (1 + 0))) := rfl

theorem fixtureT_le (x : FixtureD) : fixtureT.cnt x ≤ 4 + 4 * fixtureT.w x := by
  rw [fixtureT_cnt, fixtureT_w]
  have e2 := cntL_str_le x.2.2.1
  omega

theorem fixtureL_le : ∀ (xs : List FixtureD), cntL fixtureT xs ≤ 4 * (xs.length + wL fixtureT xs)
  | [] => by simp [cntL]
  | x :: xs => by
    have := fixtureT_le x
    have := fixtureL_le xs
    simp only [cntL, wL, List.length_cons]
    omega

theorem Sl.fixture {A : View} {a : Option Addr} {n c : Nat} {xs : List FixtureD} (h : Sl fixtureS A (.slice a n c) xs) {i : Nat} (hi : i < xs.length) : ∃ (ad : Addr) (uu2 : Value), a = some ad ∧ A.part (ad.add (i * 4)) 4 = some [.string (xs[i]).1, .int .i64 (xs[i]).2.1, uu2, .bool (xs[i]).2.2.2.1] ∧ (xs[i]).1.size ≤ 140737488355328 ∧ (-9223372036854775808 ≤ (xs[i]).2.1 ∧ (xs[i]).2.1 < 9223372036854775808) ∧ Sl strS A uu2 (xs[i]).2.2.1 := by
  obtain ⟨ad, d, h1, h2, h3, _⟩ := h.at hi
  obtain ⟨uu2, rfl, hh0, hh1, hh2⟩ := fixtureS_open h2
  exact ⟨ad, uu2, h1, h3, hh0, hh1, hh2⟩

theorem szFixture_c (A : View) (d : List Value) (x : FixtureD) (k : Int) (h : fixtureS.rel A x d) (hk : 0 ≤ k ∧ k ≤ 1048576) : ACalls Try.prog 63 #[.agg d.toArray, .int .i64 k] A fun r A' => (∃ j : Int, r = .int .i64 j ∧ (j = -1 ∨ (0 ≤ j ∧ j + fixtureT.w x = k))) ∧ Ext A A' := by
  obtain ⟨uu2, rfl, hh0, hh1, hh2⟩ := fixtureS_open h
  obtain ⟨aa2, cc2, rfl, hc2, hl2⟩ := hh2.slice
  have hw := fixtureT_w x
  refine acalls Try.func63 rfl (by kernel_rfl) ?_
  simp (disch := omega) only [↓stp, vls, inf, frs, mark_eq, ↓reduceIte, Nat.reduceEqDiff, ite_tt, ite_ff, eq_self, and_true, true_and, and_self, implies_true, Bool.true_eq_false, Bool.false_eq_true, decide_true, decide_false, decide_eq_true_eq, decide_eq_false_iff_not, ne_eq, not_true_eq_false, not_false_eq_true, Bool.not_eq_true', Bool.not_eq_false', beq_self_eq_true, Bool.not_true, Bool.not_false, List.getElem?_toArray, List.getElem?_cons_zero, List.getElem?_cons_succ]
  refine led_box (Led.nil A) rfl fun b V _ l => ?_
  have b0 := l.cell (i := 0) rfl (o := 0) rfl rfl
  have b1 := l.cell (i := 0) rfl (o := 1) rfl rfl
  have b2 := l.cell (i := 0) rfl (o := 2) rfl rfl
  have b3 := l.cell (i := 0) rfl (o := 3) rfl rfl
  simp (disch := omega) only [↓stp, vls, inf, frs, mark_eq, ↓reduceIte, Nat.reduceEqDiff, ite_tt, ite_ff, eq_self, and_true, true_and, and_self, implies_true, Bool.true_eq_false, Bool.false_eq_true, decide_true, decide_false, decide_eq_true_eq, decide_eq_false_iff_not, ne_eq, not_true_eq_false, not_false_eq_true, Bool.not_eq_true', Bool.not_eq_false', beq_self_eq_true, Bool.not_true, Bool.not_false, List.getElem?_toArray, List.getElem?_cons_zero, List.getElem?_cons_succ, add_at, b0, b1, b2, b3]
  refine ⟨fun e => ?_, fun e => ?_⟩
  · simp (disch := omega) only [↓stp, vls, inf, frs, mark_eq, ↓reduceIte, Nat.reduceEqDiff, ite_tt, ite_ff, eq_self, and_true, true_and, and_self, implies_true, Bool.true_eq_false, Bool.false_eq_true, decide_true, decide_false, decide_eq_true_eq, decide_eq_false_iff_not, ne_eq, not_true_eq_false, not_false_eq_true, Bool.not_eq_true', Bool.not_eq_false', beq_self_eq_true, Bool.not_true, Bool.not_false, List.getElem?_toArray, List.getElem?_cons_zero, List.getElem?_cons_succ, add_at, b0, b1, b2, b3]
    exact ⟨⟨_, rfl, .inl rfl⟩, l.ext⟩
  simp (disch := omega) only [↓stp, vls, inf, frs, mark_eq, ↓reduceIte, Nat.reduceEqDiff, ite_tt, ite_ff, eq_self, and_true, true_and, and_self, implies_true, Bool.true_eq_false, Bool.false_eq_true, decide_true, decide_false, decide_eq_true_eq, decide_eq_false_iff_not, ne_eq, not_true_eq_false, not_false_eq_true, Bool.not_eq_true', Bool.not_eq_false', beq_self_eq_true, Bool.not_true, Bool.not_false, List.getElem?_toArray, List.getElem?_cons_zero, List.getElem?_cons_succ, add_at, b0, b1, b2, b3]
  refine (szStringS_c V _ _ _ (hh2.mono l.ext) (by omega)).mono ?_
  rintro _ V ⟨⟨j2, rfl, hj2⟩, he⟩
  replace l := l.step he
  have b0 := l.cell (i := 0) rfl (o := 0) rfl rfl
  have b1 := l.cell (i := 0) rfl (o := 1) rfl rfl
  have b2 := l.cell (i := 0) rfl (o := 2) rfl rfl
  have b3 := l.cell (i := 0) rfl (o := 3) rfl rfl
  simp (disch := omega) only [↓stp, vls, inf, frs, mark_eq, ↓reduceIte, Nat.reduceEqDiff, ite_tt, ite_ff, eq_self, and_true, true_and, and_self, implies_true, Bool.true_eq_false, Bool.false_eq_true, decide_true, decide_false, decide_eq_true_eq, decide_eq_false_iff_not, ne_eq, not_true_eq_false, not_false_eq_true, Bool.not_eq_true', Bool.not_eq_false', beq_self_eq_true, Bool.not_true, Bool.not_false, List.getElem?_toArray, List.getElem?_cons_zero, List.getElem?_cons_succ, add_at, b0, b1, b2, b3]
  refine ⟨fun e => ?_, fun e => ?_⟩
  · simp (disch := omega) only [↓stp, vls, inf, frs, mark_eq, ↓reduceIte, Nat.reduceEqDiff, ite_tt, ite_ff, eq_self, and_true, true_and, and_self, implies_true, Bool.true_eq_false, Bool.false_eq_true, decide_true, decide_false, decide_eq_true_eq, decide_eq_false_iff_not, ne_eq, not_true_eq_false, not_false_eq_true, Bool.not_eq_true', Bool.not_eq_false', beq_self_eq_true, Bool.not_true, Bool.not_false, List.getElem?_toArray, List.getElem?_cons_zero, List.getElem?_cons_succ, add_at, b0, b1, b2, b3]
    exact ⟨⟨_, rfl, .inl rfl⟩, l.ext⟩
  replace hj2 := hj2.resolve_left (by omega)
  simp (disch := omega) only [↓stp, vls, inf, frs, mark_eq, ↓reduceIte, Nat.reduceEqDiff, ite_tt, ite_ff, eq_self, and_true, true_and, and_self, implies_true, Bool.true_eq_false, Bool.false_eq_true, decide_true, decide_false, decide_eq_true_eq, decide_eq_false_iff_not, ne_eq, not_true_eq_false, not_false_eq_true, Bool.not_eq_true', Bool.not_eq_false', beq_self_eq_true, Bool.not_true, Bool.not_false, List.getElem?_toArray, List.getElem?_cons_zero, List.getElem?_cons_succ, add_at, b0, b1, b2, b3]
  exact ⟨⟨_, rfl, .inr ⟨by omega, by omega⟩⟩, l.ext⟩

theorem toFixture_c (A : View) (d : List Value) (x : FixtureD) (h : fixtureS.rel A x d) (hw : fixtureT.w x ≤ 1048576) : ACalls Try.prog 69 #[.agg d.toArray] A fun r A' => ∃ fp d', r = .agg d'.toArray ∧ fixtureO.rel A' fp x d' ∧ Ext A A' ∧ (∀ b, b ∈ fp → A b = none) ∧ fp.Nodup := by
  obtain ⟨uu2, rfl, hh0, hh1, hh2⟩ := fixtureS_open h
  obtain ⟨aa2, cc2, rfl, hc2, hl2⟩ := hh2.slice
  rw [fixtureT_w] at hw
  refine acalls Try.func69 rfl (by kernel_rfl) ?_
  simp (disch := omega) only [↓stp, vls, inf, frs, mark_eq, ↓reduceIte, Nat.reduceEqDiff, ite_tt, ite_ff, eq_self, and_true, true_and, and_self, implies_true, Bool.true_eq_false, Bool.false_eq_true, decide_true, decide_false, decide_eq_true_eq, decide_eq_false_iff_not, ne_eq, not_true_eq_false, not_false_eq_true, Bool.not_eq_true', Bool.not_eq_false', beq_self_eq_true, Bool.not_true, Bool.not_false, List.getElem?_toArray, List.getElem?_cons_zero, List.getElem?_cons_succ]
  refine led_box (Led.nil A) rfl fun q0 V _ l => ?_
  simp (disch := omega) only [↓stp, vls, inf, frs, mark_eq, ↓reduceIte, Nat.reduceEqDiff, ite_tt, ite_ff, eq_self, and_true, true_and, and_self, implies_true, Bool.true_eq_false, Bool.false_eq_true, decide_true, decide_false, decide_eq_true_eq, decide_eq_false_iff_not, ne_eq, not_true_eq_false, not_false_eq_true, Bool.not_eq_true', Bool.not_eq_false', beq_self_eq_true, Bool.not_true, Bool.not_false, List.getElem?_toArray, List.getElem?_cons_zero, List.getElem?_cons_succ]
  refine led_alloc zc75 l fun q1 V _ l => ?_
  simp (disch := omega) only [↓stp, vls, inf, frs, mark_eq, ↓reduceIte, Nat.reduceEqDiff, ite_tt, ite_ff, eq_self, and_true, true_and, and_self, implies_true, Bool.true_eq_false, Bool.false_eq_true, decide_true, decide_false, decide_eq_true_eq, decide_eq_false_iff_not, ne_eq, not_true_eq_false, not_false_eq_true, Bool.not_eq_true', Bool.not_eq_false', beq_self_eq_true, Bool.not_true, Bool.not_false, List.getElem?_toArray, List.getElem?_cons_zero, List.getElem?_cons_succ]
  refine led_alloc zc75 l fun q2 V _ l => ?_
  have b0 := l.cell (i := 2) rfl (o := 0) rfl rfl
  have b1 := l.cell (i := 2) rfl (o := 1) rfl rfl
  have b2 := l.cell (i := 2) rfl (o := 2) rfl rfl
  have b3 := l.cell (i := 2) rfl (o := 3) rfl rfl
  simp (disch := omega) only [↓stp, vls, inf, frs, mark_eq, ↓reduceIte, Nat.reduceEqDiff, ite_tt, ite_ff, eq_self, and_true, true_and, and_self, implies_true, Bool.true_eq_false, Bool.false_eq_true, decide_true, decide_false, decide_eq_true_eq, decide_eq_false_iff_not, ne_eq, not_true_eq_false, not_false_eq_true, Bool.not_eq_true', Bool.not_eq_false', beq_self_eq_true, Bool.not_true, Bool.not_false, List.getElem?_toArray, List.getElem?_cons_zero, List.getElem?_cons_succ, add_at, b0, b1, b2, b3]
  refine led_store l 0 rfl sz9 (by rfl) (by rfl) (by rfl) fun V l => ?_
  have b0 := l.cell (i := 2) rfl (o := 0) rfl rfl
  have b1 := l.cell (i := 2) rfl (o := 1) rfl rfl
  have b2 := l.cell (i := 2) rfl (o := 2) rfl rfl
  have b3 := l.cell (i := 2) rfl (o := 3) rfl rfl
  simp (disch := omega) only [↓stp, vls, inf, frs, mark_eq, ↓reduceIte, Nat.reduceEqDiff, ite_tt, ite_ff, eq_self, and_true, true_and, and_self, implies_true, Bool.true_eq_false, Bool.false_eq_true, decide_true, decide_false, decide_eq_true_eq, decide_eq_false_iff_not, ne_eq, not_true_eq_false, not_false_eq_true, Bool.not_eq_true', Bool.not_eq_false', beq_self_eq_true, Bool.not_true, Bool.not_false, List.getElem?_toArray, List.getElem?_cons_zero, List.getElem?_cons_succ, add_at, b0, b1, b2, b3]
  refine led_store l 0 rfl sz3 (by rfl) (by rfl) (by rfl) fun V l => ?_
  have b0 := l.cell (i := 2) rfl (o := 0) rfl rfl
  have b1 := l.cell (i := 2) rfl (o := 1) rfl rfl
  have b2 := l.cell (i := 2) rfl (o := 2) rfl rfl
  have b3 := l.cell (i := 2) rfl (o := 3) rfl rfl
  simp (disch := omega) only [↓stp, vls, inf, frs, mark_eq, ↓reduceIte, Nat.reduceEqDiff, ite_tt, ite_ff, eq_self, and_true, true_and, and_self, implies_true, Bool.true_eq_false, Bool.false_eq_true, decide_true, decide_false, decide_eq_true_eq, decide_eq_false_iff_not, ne_eq, not_true_eq_false, not_false_eq_true, Bool.not_eq_true', Bool.not_eq_false', beq_self_eq_true, Bool.not_true, Bool.not_false, List.getElem?_toArray, List.getElem?_cons_zero, List.getElem?_cons_succ, add_at, b0, b1, b2, b3]
  refine (toStringS_c V _ _ (hh2.mono l.ext) (by omega)).mono ?_
  rintro w2 V ⟨ff2, o2, he, hfr, hnd⟩
  obtain ⟨p2, r2, rfl, _, _⟩ := o2.toS.slice
  replace l := l.cons he (osl 9 strO ff2 _ _) o2 hfr hnd
  have b0 := l.cell (i := 3) rfl (o := 0) rfl rfl
  have b1 := l.cell (i := 3) rfl (o := 1) rfl rfl
  have b2 := l.cell (i := 3) rfl (o := 2) rfl rfl
  have b3 := l.cell (i := 3) rfl (o := 3) rfl rfl
  simp (disch := omega) only [↓stp, vls, inf, frs, mark_eq, ↓reduceIte, Nat.reduceEqDiff, ite_tt, ite_ff, eq_self, and_true, true_and, and_self, implies_true, Bool.true_eq_false, Bool.false_eq_true, decide_true, decide_false, decide_eq_true_eq, decide_eq_false_iff_not, ne_eq, not_true_eq_false, not_false_eq_true, Bool.not_eq_true', Bool.not_eq_false', beq_self_eq_true, Bool.not_true, Bool.not_false, List.getElem?_toArray, List.getElem?_cons_zero, List.getElem?_cons_succ, add_at, b0, b1, b2, b3]
  refine led_store l 1 rfl sz54 (by rfl) (by rfl) (by rfl) fun V l => ?_
  have b0 := l.cell (i := 3) rfl (o := 0) rfl rfl
  have b1 := l.cell (i := 3) rfl (o := 1) rfl rfl
  have b2 := l.cell (i := 3) rfl (o := 2) rfl rfl
  have b3 := l.cell (i := 3) rfl (o := 3) rfl rfl
  simp (disch := omega) only [↓stp, vls, inf, frs, mark_eq, ↓reduceIte, Nat.reduceEqDiff, ite_tt, ite_ff, eq_self, and_true, true_and, and_self, implies_true, Bool.true_eq_false, Bool.false_eq_true, decide_true, decide_false, decide_eq_true_eq, decide_eq_false_iff_not, ne_eq, not_true_eq_false, not_false_eq_true, Bool.not_eq_true', Bool.not_eq_false', beq_self_eq_true, Bool.not_true, Bool.not_false, List.getElem?_toArray, List.getElem?_cons_zero, List.getElem?_cons_succ, add_at, b0, b1, b2, b3]
  refine led_store l 1 rfl sz4 (by rfl) (by rfl) (by rfl) fun V l => ?_
  have hp : V.part ⟨q2, 0, none⟩ 4 = some [.string x.1, .int .i64 x.2.1, .slice p2 _ r2, .bool x.2.2.2.1] := l.part (i := 1) rfl rfl
  simp (disch := omega) only [↓stp, vls, inf, frs, mark_eq, ↓reduceIte, Nat.reduceEqDiff, ite_tt, ite_ff, eq_self, and_true, true_and, and_self, implies_true, Bool.true_eq_false, Bool.false_eq_true, decide_true, decide_false, decide_eq_true_eq, decide_eq_false_iff_not, ne_eq, not_true_eq_false, not_false_eq_true, Bool.not_eq_true', Bool.not_eq_false', beq_self_eq_true, Bool.not_true, Bool.not_false, List.getElem?_toArray, List.getElem?_cons_zero, List.getElem?_cons_succ, hp]
  refine led_store l 2 rfl sz75 (by rfl) (by rfl) (by rfl) fun V l => ?_
  have hp : V.part ⟨q1, 0, none⟩ 4 = some [.string x.1, .int .i64 x.2.1, .slice p2 _ r2, .bool x.2.2.2.1] := l.part (i := 2) rfl rfl
  simp (disch := omega) only [↓stp, vls, inf, frs, mark_eq, ↓reduceIte, Nat.reduceEqDiff, ite_tt, ite_ff, eq_self, and_true, true_and, and_self, implies_true, Bool.true_eq_false, Bool.false_eq_true, decide_true, decide_false, decide_eq_true_eq, decide_eq_false_iff_not, ne_eq, not_true_eq_false, not_false_eq_true, Bool.not_eq_true', Bool.not_eq_false', beq_self_eq_true, Bool.not_true, Bool.not_false, List.getElem?_toArray, List.getElem?_cons_zero, List.getElem?_cons_succ, hp]
  refine ⟨ff2, _, rfl, fixtureO_mk hh0 hh1 (l.at (i := 0) rfl), l.ext, fun b hb => ?_, ?_⟩
  · exact l.fresh (i := 0) rfl b hb
  · exact l.nodup1 (i := 0) rfl

theorem eqFixture_c (A : View) (d d' : List Value) (x y : FixtureD) (h : fixtureS.rel A x d) (h' : fixtureS.rel A y d') : ACalls Try.prog 74 #[.agg d.toArray, .agg d'.toArray] A fun r A' => r = .bool (decide (x = y)) ∧ Ext A A' := by
  obtain ⟨uu2, rfl, hh0, hh1, hh2⟩ := fixtureS_open h
  obtain ⟨aa2, cc2, rfl, hc2, hl2⟩ := hh2.slice
  obtain ⟨v2, rfl, g0, g1, g2⟩ := fixtureS_open h'
  obtain ⟨aa2q, cc2q, rfl, hc2q, hl2q⟩ := g2.slice
  refine acalls Try.func74 rfl (by kernel_rfl) ?_
  simp (disch := omega) only [↓stp, vls, inf, frs, mark_eq, ↓reduceIte, Nat.reduceEqDiff, ite_tt, ite_ff, eq_self, and_true, true_and, and_self, implies_true, Bool.true_eq_false, Bool.false_eq_true, decide_true, decide_false, decide_eq_true_eq, decide_eq_false_iff_not, ne_eq, not_true_eq_false, not_false_eq_true, Bool.not_eq_true', Bool.not_eq_false', beq_self_eq_true, Bool.not_true, Bool.not_false, List.getElem?_toArray, List.getElem?_cons_zero, List.getElem?_cons_succ]
  refine led_box (Led.nil A) rfl fun q0 V _ l => ?_
  simp (disch := omega) only [↓stp, vls, inf, frs, mark_eq, ↓reduceIte, Nat.reduceEqDiff, ite_tt, ite_ff, eq_self, and_true, true_and, and_self, implies_true, Bool.true_eq_false, Bool.false_eq_true, decide_true, decide_false, decide_eq_true_eq, decide_eq_false_iff_not, ne_eq, not_true_eq_false, not_false_eq_true, Bool.not_eq_true', Bool.not_eq_false', beq_self_eq_true, Bool.not_true, Bool.not_false, List.getElem?_toArray, List.getElem?_cons_zero, List.getElem?_cons_succ]
  refine led_box l rfl fun q1 V _ l => ?_
  have b0 := l.cell (i := 1) rfl (o := 0) rfl rfl
  have b1 := l.cell (i := 1) rfl (o := 1) rfl rfl
  have b2 := l.cell (i := 1) rfl (o := 2) rfl rfl
  have b3 := l.cell (i := 1) rfl (o := 3) rfl rfl
  have d0 := l.cell (i := 0) rfl (o := 0) rfl rfl
  have d1 := l.cell (i := 0) rfl (o := 1) rfl rfl
  have d2 := l.cell (i := 0) rfl (o := 2) rfl rfl
  have d3 := l.cell (i := 0) rfl (o := 3) rfl rfl
  simp (disch := omega) only [↓stp, vls, inf, frs, mark_eq, ↓reduceIte, Nat.reduceEqDiff, ite_tt, ite_ff, eq_self, and_true, true_and, and_self, implies_true, Bool.true_eq_false, Bool.false_eq_true, decide_true, decide_false, decide_eq_true_eq, decide_eq_false_iff_not, ne_eq, not_true_eq_false, not_false_eq_true, Bool.not_eq_true', Bool.not_eq_false', beq_self_eq_true, Bool.not_true, Bool.not_false, List.getElem?_toArray, List.getElem?_cons_zero, List.getElem?_cons_succ, add_at, b0, b1, b2, b3, d0, d1, d2, d3]
  refine ⟨fun e => ?_, fun e => ?_⟩
  · have hne : ¬ x = y := fun he => by rw [he] at e; simp at e
    simp (disch := omega) only [↓stp, vls, inf, frs, mark_eq, ↓reduceIte, Nat.reduceEqDiff, ite_tt, ite_ff, eq_self, and_true, true_and, and_self, implies_true, Bool.true_eq_false, Bool.false_eq_true, decide_true, decide_false, decide_eq_true_eq, decide_eq_false_iff_not, ne_eq, not_true_eq_false, not_false_eq_true, Bool.not_eq_true', Bool.not_eq_false', beq_self_eq_true, Bool.not_true, Bool.not_false, List.getElem?_toArray, List.getElem?_cons_zero, List.getElem?_cons_succ, hne]
    exact l.ext
  have e0 : x.1 = y.1 := by simpa using e
  simp (disch := omega) only [↓stp, vls, inf, frs, mark_eq, ↓reduceIte, Nat.reduceEqDiff, ite_tt, ite_ff, eq_self, and_true, true_and, and_self, implies_true, Bool.true_eq_false, Bool.false_eq_true, decide_true, decide_false, decide_eq_true_eq, decide_eq_false_iff_not, ne_eq, not_true_eq_false, not_false_eq_true, Bool.not_eq_true', Bool.not_eq_false', beq_self_eq_true, Bool.not_true, Bool.not_false, List.getElem?_toArray, List.getElem?_cons_zero, List.getElem?_cons_succ, add_at, b0, b1, b2, b3, d0, d1, d2, d3]
  refine ⟨fun e => ?_, fun e => ?_⟩
  · have hne : ¬ x = y := fun he => by rw [he] at e; simp at e
    simp (disch := omega) only [↓stp, vls, inf, frs, mark_eq, ↓reduceIte, Nat.reduceEqDiff, ite_tt, ite_ff, eq_self, and_true, true_and, and_self, implies_true, Bool.true_eq_false, Bool.false_eq_true, decide_true, decide_false, decide_eq_true_eq, decide_eq_false_iff_not, ne_eq, not_true_eq_false, not_false_eq_true, Bool.not_eq_true', Bool.not_eq_false', beq_self_eq_true, Bool.not_true, Bool.not_false, List.getElem?_toArray, List.getElem?_cons_zero, List.getElem?_cons_succ, hne]
    exact l.ext
  have e1 : x.2.1 = y.2.1 := by simpa using e
  simp (disch := omega) only [↓stp, vls, inf, frs, mark_eq, ↓reduceIte, Nat.reduceEqDiff, ite_tt, ite_ff, eq_self, and_true, true_and, and_self, implies_true, Bool.true_eq_false, Bool.false_eq_true, decide_true, decide_false, decide_eq_true_eq, decide_eq_false_iff_not, ne_eq, not_true_eq_false, not_false_eq_true, Bool.not_eq_true', Bool.not_eq_false', beq_self_eq_true, Bool.not_true, Bool.not_false, List.getElem?_toArray, List.getElem?_cons_zero, List.getElem?_cons_succ, add_at, b0, b1, b2, b3, d0, d1, d2, d3]
  refine (eqStringS_c V _ _ _ _ (hh2.mono l.ext) (g2.mono l.ext)).mono ?_
  rintro _ V ⟨rfl, he⟩
  replace l := l.step he
  have b0 := l.cell (i := 1) rfl (o := 0) rfl rfl
  have b1 := l.cell (i := 1) rfl (o := 1) rfl rfl
  have b2 := l.cell (i := 1) rfl (o := 2) rfl rfl
  have b3 := l.cell (i := 1) rfl (o := 3) rfl rfl
  have d0 := l.cell (i := 0) rfl (o := 0) rfl rfl
  have d1 := l.cell (i := 0) rfl (o := 1) rfl rfl
  have d2 := l.cell (i := 0) rfl (o := 2) rfl rfl
  have d3 := l.cell (i := 0) rfl (o := 3) rfl rfl
  simp (disch := omega) only [↓stp, vls, inf, frs, mark_eq, ↓reduceIte, Nat.reduceEqDiff, ite_tt, ite_ff, eq_self, and_true, true_and, and_self, implies_true, Bool.true_eq_false, Bool.false_eq_true, decide_true, decide_false, decide_eq_true_eq, decide_eq_false_iff_not, ne_eq, not_true_eq_false, not_false_eq_true, Bool.not_eq_true', Bool.not_eq_false', beq_self_eq_true, Bool.not_true, Bool.not_false, List.getElem?_toArray, List.getElem?_cons_zero, List.getElem?_cons_succ, add_at, b0, b1, b2, b3, d0, d1, d2, d3]
  refine ⟨fun e => ?_, fun e => ?_⟩
  · have hne : ¬ x = y := fun he => by rw [he] at e; simp at e
    simp (disch := omega) only [↓stp, vls, inf, frs, mark_eq, ↓reduceIte, Nat.reduceEqDiff, ite_tt, ite_ff, eq_self, and_true, true_and, and_self, implies_true, Bool.true_eq_false, Bool.false_eq_true, decide_true, decide_false, decide_eq_true_eq, decide_eq_false_iff_not, ne_eq, not_true_eq_false, not_false_eq_true, Bool.not_eq_true', Bool.not_eq_false', beq_self_eq_true, Bool.not_true, Bool.not_false, List.getElem?_toArray, List.getElem?_cons_zero, List.getElem?_cons_succ, hne]
    exact l.ext
  have e2 : x.2.2.1 = y.2.2.1 := by simpa using e
  simp (disch := omega) only [↓stp, vls, inf, frs, mark_eq, ↓reduceIte, Nat.reduceEqDiff, ite_tt, ite_ff, eq_self, and_true, true_and, and_self, implies_true, Bool.true_eq_false, Bool.false_eq_true, decide_true, decide_false, decide_eq_true_eq, decide_eq_false_iff_not, ne_eq, not_true_eq_false, not_false_eq_true, Bool.not_eq_true', Bool.not_eq_false', beq_self_eq_true, Bool.not_true, Bool.not_false, List.getElem?_toArray, List.getElem?_cons_zero, List.getElem?_cons_succ, add_at, b0, b1, b2, b3, d0, d1, d2, d3]
  refine ⟨fun e => ?_, fun e => ?_⟩
  · have hne : ¬ x = y := fun he => by rw [he] at e; simp at e
    simp (disch := omega) only [↓stp, vls, inf, frs, mark_eq, ↓reduceIte, Nat.reduceEqDiff, ite_tt, ite_ff, eq_self, and_true, true_and, and_self, implies_true, Bool.true_eq_false, Bool.false_eq_true, decide_true, decide_false, decide_eq_true_eq, decide_eq_false_iff_not, ne_eq, not_true_eq_false, not_false_eq_true, Bool.not_eq_true', Bool.not_eq_false', beq_self_eq_true, Bool.not_true, Bool.not_false, List.getElem?_toArray, List.getElem?_cons_zero, List.getElem?_cons_succ, hne]
    exact l.ext
  have e3 : x.2.2.2.1 = y.2.2.2.1 := by simpa using e
  have he : x = y := Prod.ext e0 (Prod.ext e1 (Prod.ext e2 (Prod.ext e3 (rfl))))
  simp (disch := omega) only [↓stp, vls, inf, frs, mark_eq, ↓reduceIte, Nat.reduceEqDiff, ite_tt, ite_ff, eq_self, and_true, true_and, and_self, implies_true, Bool.true_eq_false, Bool.false_eq_true, decide_true, decide_false, decide_eq_true_eq, decide_eq_false_iff_not, ne_eq, not_true_eq_false, not_false_eq_true, Bool.not_eq_true', Bool.not_eq_false', beq_self_eq_true, Bool.not_true, Bool.not_false, List.getElem?_toArray, List.getElem?_cons_zero, List.getElem?_cons_succ, he]
  exact l.ext

theorem szFixtureS_c (A : View) (v : Value) (xs : List FixtureD) (k : Int) (h : Sl fixtureS A v xs) (hk : 0 ≤ k ∧ k ≤ 1048576) : ACalls Try.prog 35 #[v, .int .i64 k] A fun r A' => (∃ j : Int, r = .int .i64 j ∧ (j = -1 ∨ (0 ≤ j ∧ j + (xs.length + wL fixtureT xs : Nat) = k))) ∧ Ext A A' := by
  obtain ⟨a, c, rfl, hc, hl⟩ := h.slice
  refine acalls Try.func35 rfl (by kernel_rfl) ?_
  simp (disch := omega) only [↓stp, vls, inf, frs, mark_eq, ↓reduceIte, Nat.reduceEqDiff, ite_tt, ite_ff, eq_self, and_true, true_and, and_self, implies_true, Bool.true_eq_false, Bool.false_eq_true, decide_true, decide_false, decide_eq_true_eq, decide_eq_false_iff_not, ne_eq, not_true_eq_false, not_false_eq_true, Bool.not_eq_true', Bool.not_eq_false', beq_self_eq_true, Bool.not_true, Bool.not_false, List.getElem?_toArray, List.getElem?_cons_zero, List.getElem?_cons_succ]
  refine ⟨fun e => ?_, fun e => ?_⟩
  · simp (disch := omega) only [↓stp, vls, inf, frs, mark_eq, ↓reduceIte, Nat.reduceEqDiff, ite_tt, ite_ff, eq_self, and_true, true_and, and_self, implies_true, Bool.true_eq_false, Bool.false_eq_true, decide_true, decide_false, decide_eq_true_eq, decide_eq_false_iff_not, ne_eq, not_true_eq_false, not_false_eq_true, Bool.not_eq_true', Bool.not_eq_false', beq_self_eq_true, Bool.not_true, Bool.not_false, List.getElem?_toArray, List.getElem?_cons_zero, List.getElem?_cons_succ, e]
    exact ⟨⟨_, rfl, .inl rfl⟩, Ext.refl _⟩
  · simp (disch := omega) only [↓stp, vls, inf, frs, mark_eq, ↓reduceIte, Nat.reduceEqDiff, ite_tt, ite_ff, eq_self, and_true, true_and, and_self, implies_true, Bool.true_eq_false, Bool.false_eq_true, decide_true, decide_false, decide_eq_true_eq, decide_eq_false_iff_not, ne_eq, not_true_eq_false, not_false_eq_true, Bool.not_eq_true', Bool.not_eq_false', beq_self_eq_true, Bool.not_true, Bool.not_false, List.getElem?_toArray, List.getElem?_cons_zero, List.getElem?_cons_succ]
    refine aloop (fun d fr A' => ∃ (i : Nat) (kk : Int), i ≤ xs.length ∧ d = xs.length - i ∧ Ext A A' ∧ fr 0 = .slice a xs.length c ∧ fr 1 = .int .i64 kk ∧ fr 5 = .int .i64 i ∧ 0 ≤ kk ∧ kk + (xs.length + wL fixtureT (xs.take i) : Nat) = k) xs.length ⟨0, k - xs.length, by omega, by omega, Ext.refl _, rfl, by rfl, by rfl, by omega, by simp [wL]⟩ ?_
    rintro d fr A' ⟨i, kk, hi, rfl, he, h0, h1, h5, hk1, hk2⟩
    simp (disch := omega) only [↓stp, vls, inf, frs, mark_eq, ↓reduceIte, Nat.reduceEqDiff, ite_tt, ite_ff, eq_self, and_true, true_and, and_self, implies_true, Bool.true_eq_false, Bool.false_eq_true, decide_true, decide_false, decide_eq_true_eq, decide_eq_false_iff_not, ne_eq, not_true_eq_false, not_false_eq_true, Bool.not_eq_true', Bool.not_eq_false', beq_self_eq_true, Bool.not_true, Bool.not_false, List.getElem?_toArray, List.getElem?_cons_zero, List.getElem?_cons_succ, h0, h1, h5]
    refine ⟨fun e => ?_, fun e => ?_⟩
    · have hlt : i < xs.length := by omega
      obtain ⟨ad, d, rfl, hd, hp, _⟩ := (h.mono he).at hlt
      have hp : A'.part (ad.add (i * 4)) 4 = some d := hp
      simp (disch := omega) only [↓stp, vls, inf, frs, mark_eq, ↓reduceIte, Nat.reduceEqDiff, ite_tt, ite_ff, eq_self, and_true, true_and, and_self, implies_true, Bool.true_eq_false, Bool.false_eq_true, decide_true, decide_false, decide_eq_true_eq, decide_eq_false_iff_not, ne_eq, not_true_eq_false, not_false_eq_true, Bool.not_eq_true', Bool.not_eq_false', beq_self_eq_true, Bool.not_true, Bool.not_false, List.getElem?_toArray, List.getElem?_cons_zero, List.getElem?_cons_succ, h0, h1, h5, hp]
      refine (szFixture_c A' d xs[i] kk hd (by omega)).mono ?_
      rintro _ A1 ⟨⟨j, rfl, hj⟩, he1⟩
      simp (disch := omega) only [↓stp, vls, inf, frs, mark_eq, ↓reduceIte, Nat.reduceEqDiff, ite_tt, ite_ff, eq_self, and_true, true_and, and_self, implies_true, Bool.true_eq_false, Bool.false_eq_true, decide_true, decide_false, decide_eq_true_eq, decide_eq_false_iff_not, ne_eq, not_true_eq_false, not_false_eq_true, Bool.not_eq_true', Bool.not_eq_false', beq_self_eq_true, Bool.not_true, Bool.not_false, List.getElem?_toArray, List.getElem?_cons_zero, List.getElem?_cons_succ, h0, h1, h5]
      refine ⟨fun e1 => ?_, fun e1 => ?_⟩ <;> simp (disch := omega) only [↓stp, vls, inf, frs, mark_eq, ↓reduceIte, Nat.reduceEqDiff, ite_tt, ite_ff, eq_self, and_true, true_and, and_self, implies_true, Bool.true_eq_false, Bool.false_eq_true, decide_true, decide_false, decide_eq_true_eq, decide_eq_false_iff_not, ne_eq, not_true_eq_false, not_false_eq_true, Bool.not_eq_true', Bool.not_eq_false', beq_self_eq_true, Bool.not_true, Bool.not_false, List.getElem?_toArray, List.getElem?_cons_zero, List.getElem?_cons_succ, h0, h1, h5]
      · exact ⟨⟨_, rfl, .inl rfl⟩, he.trans he1⟩
      · have hj := hj.resolve_left (by omega)
        have hw := wL_take fixtureT xs hlt
        exact ⟨_, by omega, i + 1, _, by omega, rfl, he.trans he1, rfl, rfl, by omega, by omega⟩
    · simp (disch := omega) only [↓stp, vls, inf, frs, mark_eq, ↓reduceIte, Nat.reduceEqDiff, ite_tt, ite_ff, eq_self, and_true, true_and, and_self, implies_true, Bool.true_eq_false, Bool.false_eq_true, decide_true, decide_false, decide_eq_true_eq, decide_eq_false_iff_not, ne_eq, not_true_eq_false, not_false_eq_true, Bool.not_eq_true', Bool.not_eq_false', beq_self_eq_true, Bool.not_true, Bool.not_false, List.getElem?_toArray, List.getElem?_cons_zero, List.getElem?_cons_succ, h0, h1, h5]
      rw [List.take_of_length_le (by omega)] at hk2
      exact ⟨⟨_, rfl, .inr ⟨hk1, hk2⟩⟩, he⟩

theorem toFixtureS_c (A : View) (v : Value) (xs : List FixtureD) (h : Sl fixtureS A v xs) (hw : xs.length + wL fixtureT xs ≤ 1048576) : ACalls Try.prog 39 #[v] A fun r A' => ∃ fp, OSl 75 fixtureO A' fp r xs ∧ Ext A A' ∧ (∀ b, b ∈ fp → A b = none) ∧ fp.Nodup := by
  obtain ⟨a, c, rfl, hc, hl⟩ := h.slice
  refine acalls Try.func39 rfl (by kernel_rfl) ?_
  simp (disch := omega) only [↓stp, vls, inf, frs, mark_eq, ↓reduceIte, Nat.reduceEqDiff, ite_tt, ite_ff, eq_self, and_true, true_and, and_self, implies_true, Bool.true_eq_false, Bool.false_eq_true, decide_true, decide_false, decide_eq_true_eq, decide_eq_false_iff_not, ne_eq, not_true_eq_false, not_false_eq_true, Bool.not_eq_true', Bool.not_eq_false', beq_self_eq_true, Bool.not_true, Bool.not_false, List.getElem?_toArray, List.getElem?_cons_zero, List.getElem?_cons_succ]
  refine amake_at mk38 (by omega) (by omega) fun b hb => ?_
  simp (disch := omega) only [↓stp, vls, inf, frs, mark_eq, ↓reduceIte, Nat.reduceEqDiff, ite_tt, ite_ff, eq_self, and_true, true_and, and_self, implies_true, Bool.true_eq_false, Bool.false_eq_true, decide_true, decide_false, decide_eq_true_eq, decide_eq_false_iff_not, ne_eq, not_true_eq_false, not_false_eq_true, Bool.not_eq_true', Bool.not_eq_false', beq_self_eq_true, Bool.not_true, Bool.not_false, List.getElem?_toArray, List.getElem?_cons_zero, List.getElem?_cons_succ]
  refine aloop (fun d fr A' => ∃ (i : Nat) (fp : List Nat) (done : List Value), i ≤ xs.length ∧ d = xs.length - i ∧ A' b = some ⟨75, done ++ (List.replicate (xs.length - i) [.string ⟨#[]⟩, .int .i64 0, .slice none 0 0, .bool false]).flatten, xs.length * 4, true⟩ ∧ OElems fixtureO A' fp (xs.take i) done ∧ Ext A A' ∧ (∀ x, x ∈ fp → A x = none ∧ x ≠ b) ∧ fp.Nodup ∧ fr 0 = .slice a xs.length c ∧ fr 3 = .slice (some ⟨b, 0, none⟩) xs.length xs.length ∧ fr 4 = .int .i64 i) xs.length ⟨0, [], [], by omega, by omega, by rw [View.set_same]; rfl, .nil, Ext.new hb _, by simp, List.nodup_nil, rfl, by rfl, by rfl⟩ ?_
  rintro d fr A' ⟨i, fp, done, hi, rfl, hA, hd, he, hfr, hnd, h0, h3, h4⟩
  simp (disch := omega) only [↓stp, vls, inf, frs, mark_eq, ↓reduceIte, Nat.reduceEqDiff, ite_tt, ite_ff, eq_self, and_true, true_and, and_self, implies_true, Bool.true_eq_false, Bool.false_eq_true, decide_true, decide_false, decide_eq_true_eq, decide_eq_false_iff_not, ne_eq, not_true_eq_false, not_false_eq_true, Bool.not_eq_true', Bool.not_eq_false', beq_self_eq_true, Bool.not_true, Bool.not_false, List.getElem?_toArray, List.getElem?_cons_zero, List.getElem?_cons_succ, h0, h3, h4]
  refine ⟨fun e => ?_, fun e => ?_⟩
  · have hlt : i < xs.length := by omega
    obtain ⟨ad, d, rfl, hdd, hp, _⟩ := (h.mono he).at hlt
    have hp : A'.part (ad.add (i * 4)) 4 = some d := hp
    simp (disch := omega) only [↓stp, vls, inf, frs, mark_eq, ↓reduceIte, Nat.reduceEqDiff, ite_tt, ite_ff, eq_self, and_true, true_and, and_self, implies_true, Bool.true_eq_false, Bool.false_eq_true, decide_true, decide_false, decide_eq_true_eq, decide_eq_false_iff_not, ne_eq, not_true_eq_false, not_false_eq_true, Bool.not_eq_true', Bool.not_eq_false', beq_self_eq_true, Bool.not_true, Bool.not_false, List.getElem?_toArray, List.getElem?_cons_zero, List.getElem?_cons_succ, h0, h3, h4, hp]
    refine (toFixture_c A' d xs[i] hdd (by have := wL_mem fixtureT (List.getElem_mem hlt); omega)).mono ?_
    rintro _ A1 ⟨fq, d', rfl, hw', he1, hfq, hndq⟩
    have hdl : done.length = i * 4 := by
      have := hd.len
      rw [List.length_take, Nat.min_eq_left hi] at this
      exact this
    have hz : (List.replicate (xs.length - i) ([.string ⟨#[]⟩, .int .i64 0, .slice none 0 0, .bool false] : List Value)).flatten = [.string ⟨#[]⟩, .int .i64 0, .slice none 0 0, .bool false] ++ (List.replicate (xs.length - (i + 1)) [.string ⟨#[]⟩, .int .i64 0, .slice none 0 0, .bool false]).flatten := by
      rw [show xs.length - i = (xs.length - (i + 1)) + 1 by omega, List.replicate_succ]; rfl
    have hA1 := he1 _ _ hA
    have hbq : b ∉ fq := fun hm => by rw [hfq _ hm] at hA; cases hA
    have hsz : d'.toArray.size = 4 := by rw [List.size_toArray]; exact fixtureS.len (fixtureO_S hw')
    have hone : (Value.agg d'.toArray).cells.toList.all (·.oneCell') = true := List.all_eq_true.2 (fixtureS.one (fixtureO_S hw'))
    have hst := storev_at (P := Try.prog) (v := .agg d'.toArray) sz75 (hA1.trans (by rw [hz])) hsz rfl hone (o := 0 + i * 4) (by omega)
    simp (disch := omega) only [↓stp, vls, inf, frs, mark_eq, ↓reduceIte, Nat.reduceEqDiff, ite_tt, ite_ff, eq_self, and_true, true_and, and_self, implies_true, Bool.true_eq_false, Bool.false_eq_true, decide_true, decide_false, decide_eq_true_eq, decide_eq_false_iff_not, ne_eq, not_true_eq_false, not_false_eq_true, Bool.not_eq_true', Bool.not_eq_false', beq_self_eq_true, Bool.not_true, Bool.not_false, List.getElem?_toArray, List.getElem?_cons_zero, List.getElem?_cons_succ, astore_at, h0, h3, h4, add_at, hst]
    have hqfp : ∀ x, x ∈ fp → x ∉ fq := fun x hx hm => by
      obtain ⟨k, hk⟩ := hd.has x hx
      rw [hfq x hm] at hk; cases hk
    refine ⟨_, by omega, i + 1, fp ++ fq, done ++ d', by omega, rfl, ?_, ?_, (he.trans he1).setOld hb _, ?_, ?_, rfl⟩
    · rw [View.set_same, List.append_assoc]; rfl
    · rw [List.take_succ_eq_append_getElem hlt]
      refine OElems.append (hd.stay fun x k hx hk => ?_) (OElems.single (fixtureO.stay hw' fun x k hx hk => ?_))
      · rw [View.set_ne _ _ (hfr x hx).2]
        exact he1 _ _ hk
      · rw [View.set_ne _ _ (fun e => hbq (by rw [← e]; exact hx))]
        exact hk
    · intro x hx
      rcases List.mem_append.1 hx with hx | hx
      · exact hfr x hx
      · exact ⟨he.none (hfq x hx), fun e => hbq (by rw [← e]; exact hx)⟩
    · exact List.nodup_append.2 ⟨hnd, hndq, fun x hx y hy e => hqfp x hx (by rw [e]; exact hy)⟩
  · simp (disch := omega) only [↓stp, vls, inf, frs, mark_eq, ↓reduceIte, Nat.reduceEqDiff, ite_tt, ite_ff, eq_self, and_true, true_and, and_self, implies_true, Bool.true_eq_false, Bool.false_eq_true, decide_true, decide_false, decide_eq_true_eq, decide_eq_false_iff_not, ne_eq, not_true_eq_false, not_false_eq_true, Bool.not_eq_true', Bool.not_eq_false', beq_self_eq_true, Bool.not_true, Bool.not_false, List.getElem?_toArray, List.getElem?_cons_zero, List.getElem?_cons_succ, h0, h3, h4]
    have hi' : i = xs.length := by omega
    subst hi'
    rw [List.take_length] at hd
    simp only [Nat.sub_self, List.replicate_zero, List.flatten_nil, List.append_nil] at hA
    refine ⟨b :: fp, ⟨by omega, .inr ⟨b, _, done, fp, rfl, Nat.le_refl _, rfl, hA, hd⟩⟩, he, ?_, List.nodup_cons.2 ⟨fun hm => (hfr b hm).2 rfl, hnd⟩⟩
    intro x hx
    rcases List.mem_cons.1 hx with rfl | hx
    · exact hb
    · exact (hfr x hx).1

theorem eqFixtureS_c (A : View) (v u : Value) (xs ys : List FixtureD) (h : Sl fixtureS A v xs) (h' : Sl fixtureS A u ys) : ACalls Try.prog 45 #[v, u] A fun r A' => r = .bool (decide (xs = ys)) ∧ Ext A A' := by
  obtain ⟨a, c, rfl, hc, hl⟩ := h.slice
  obtain ⟨a', c', rfl, hc', hl'⟩ := h'.slice
  refine acalls Try.func45 rfl (by kernel_rfl) ?_
  simp (disch := omega) only [↓stp, vls, inf, frs, mark_eq, ↓reduceIte, Nat.reduceEqDiff, ite_tt, ite_ff, eq_self, and_true, true_and, and_self, implies_true, Bool.true_eq_false, Bool.false_eq_true, decide_true, decide_false, decide_eq_true_eq, decide_eq_false_iff_not, ne_eq, not_true_eq_false, not_false_eq_true, Bool.not_eq_true', Bool.not_eq_false', beq_self_eq_true, Bool.not_true, Bool.not_false, List.getElem?_toArray, List.getElem?_cons_zero, List.getElem?_cons_succ]
  refine ⟨fun e => ?_, fun e => ?_⟩
  · simp (disch := omega) only [↓stp, vls, inf, frs, mark_eq, ↓reduceIte, Nat.reduceEqDiff, ite_tt, ite_ff, eq_self, and_true, true_and, and_self, implies_true, Bool.true_eq_false, Bool.false_eq_true, decide_true, decide_false, decide_eq_true_eq, decide_eq_false_iff_not, ne_eq, not_true_eq_false, not_false_eq_true, Bool.not_eq_true', Bool.not_eq_false', beq_self_eq_true, Bool.not_true, Bool.not_false, List.getElem?_toArray, List.getElem?_cons_zero, List.getElem?_cons_succ]
    have : xs ≠ ys := fun he => e (by rw [he])
    exact ⟨by simp [this], Ext.refl _⟩
  · have hlen : xs.length = ys.length := by omega
    simp (disch := omega) only [↓stp, vls, inf, frs, mark_eq, ↓reduceIte, Nat.reduceEqDiff, ite_tt, ite_ff, eq_self, and_true, true_and, and_self, implies_true, Bool.true_eq_false, Bool.false_eq_true, decide_true, decide_false, decide_eq_true_eq, decide_eq_false_iff_not, ne_eq, not_true_eq_false, not_false_eq_true, Bool.not_eq_true', Bool.not_eq_false', beq_self_eq_true, Bool.not_true, Bool.not_false, List.getElem?_toArray, List.getElem?_cons_zero, List.getElem?_cons_succ]
    refine aloop (fun d fr A' => ∃ i : Nat, i ≤ xs.length ∧ d = xs.length - i ∧ Ext A A' ∧ fr 0 = .slice a xs.length c ∧ fr 1 = .slice a' ys.length c' ∧ fr 5 = .int .i64 i ∧ xs.take i = ys.take i) xs.length ⟨0, by omega, by omega, Ext.refl _, rfl, by rfl, by rfl, by simp⟩ ?_
    rintro d fr A' ⟨i, hi, rfl, he, h0, h1, h5, hn⟩
    simp (disch := omega) only [↓stp, vls, inf, frs, mark_eq, ↓reduceIte, Nat.reduceEqDiff, ite_tt, ite_ff, eq_self, and_true, true_and, and_self, implies_true, Bool.true_eq_false, Bool.false_eq_true, decide_true, decide_false, decide_eq_true_eq, decide_eq_false_iff_not, ne_eq, not_true_eq_false, not_false_eq_true, Bool.not_eq_true', Bool.not_eq_false', beq_self_eq_true, Bool.not_true, Bool.not_false, List.getElem?_toArray, List.getElem?_cons_zero, List.getElem?_cons_succ, h0, h1, h5]
    refine ⟨fun e => ?_, fun e => ?_⟩
    · obtain ⟨ad, d, rfl, hd, hp, _⟩ := (h.mono he).at (i := i) (by omega)
      obtain ⟨ad', d', rfl, hd', hp', _⟩ := (h'.mono he).at (i := i) (by omega)
      have hp : A'.part (ad.add (i * 4)) 4 = some d := hp
      have hp' : A'.part (ad'.add (i * 4)) 4 = some d' := hp'
      simp (disch := omega) only [↓stp, vls, inf, frs, mark_eq, ↓reduceIte, Nat.reduceEqDiff, ite_tt, ite_ff, eq_self, and_true, true_and, and_self, implies_true, Bool.true_eq_false, Bool.false_eq_true, decide_true, decide_false, decide_eq_true_eq, decide_eq_false_iff_not, ne_eq, not_true_eq_false, not_false_eq_true, Bool.not_eq_true', Bool.not_eq_false', beq_self_eq_true, Bool.not_true, Bool.not_false, List.getElem?_toArray, List.getElem?_cons_zero, List.getElem?_cons_succ, h0, h1, h5]
      refine adraw_items [.q 0, .q 1, .q 2, .l 3 false, .q 4, .q 5, .q 6, .l 7 false, .c 8 [], .q 9] (by kernel_rfl) (by kernel_rfl) ?_
      simp (disch := omega) only [↓stp, ↓pln, plv, nilOk, Nat.reduceBEq, Bool.or_false, Bool.or_true, Bool.false_or, Bool.true_or, vls, inf, frs, mark_eq, ↓reduceIte, Nat.reduceEqDiff, ite_tt, ite_ff, eq_self, and_true, true_and, and_self, implies_true, Bool.true_eq_false, Bool.false_eq_true, decide_true, decide_false, decide_eq_true_eq, decide_eq_false_iff_not, ne_eq, not_true_eq_false, not_false_eq_true, Bool.not_eq_true', Bool.not_eq_false', beq_self_eq_true, Bool.not_true, Bool.not_false, List.getElem?_toArray, List.getElem?_cons_zero, List.getElem?_cons_succ, h0, h1, h5, hp, hp']
      refine (eqFixture_c A' d d' xs[i] ys[i] hd hd').mono ?_
      rintro _ A1 ⟨rfl, he1⟩
      simp (disch := omega) only [↓stp, ↓pln, plv, nilOk, Nat.reduceBEq, Bool.or_false, Bool.or_true, Bool.false_or, Bool.true_or, vls, inf, frs, mark_eq, ↓reduceIte, Nat.reduceEqDiff, ite_tt, ite_ff, eq_self, and_true, true_and, and_self, implies_true, Bool.true_eq_false, Bool.false_eq_true, decide_true, decide_false, decide_eq_true_eq, decide_eq_false_iff_not, ne_eq, not_true_eq_false, not_false_eq_true, Bool.not_eq_true', Bool.not_eq_false', beq_self_eq_true, Bool.not_true, Bool.not_false, List.getElem?_toArray, List.getElem?_cons_zero, List.getElem?_cons_succ, h0, h1, h5]
      refine ⟨fun e1 => ?_, fun e1 => ?_⟩ <;> simp (disch := omega) only [↓stp, vls, inf, frs, mark_eq, ↓reduceIte, Nat.reduceEqDiff, ite_tt, ite_ff, eq_self, and_true, true_and, and_self, implies_true, Bool.true_eq_false, Bool.false_eq_true, decide_true, decide_false, decide_eq_true_eq, decide_eq_false_iff_not, ne_eq, not_true_eq_false, not_false_eq_true, Bool.not_eq_true', Bool.not_eq_false', beq_self_eq_true, Bool.not_true, Bool.not_false, List.getElem?_toArray, List.getElem?_cons_zero, List.getElem?_cons_succ, h0, h1, h5]
      · have : xs ≠ ys := fun he => e1 (by simp only [he])
        exact ⟨by simp [this], he.trans he1⟩
      · refine ⟨_, by omega, i + 1, by omega, rfl, he.trans he1, rfl, ?_⟩
        rw [List.take_succ_eq_append_getElem (by omega), List.take_succ_eq_append_getElem (by omega), hn]
        have : xs[i] = ys[i] := by simpa using e1
        rw [this]
    · rw [List.take_of_length_le (by omega), List.take_of_length_le (by omega)] at hn
      simp (disch := omega) only [↓stp, vls, inf, frs, mark_eq, ↓reduceIte, Nat.reduceEqDiff, ite_tt, ite_ff, eq_self, and_true, true_and, and_self, implies_true, Bool.true_eq_false, Bool.false_eq_true, decide_true, decide_false, decide_eq_true_eq, decide_eq_false_iff_not, ne_eq, not_true_eq_false, not_false_eq_true, Bool.not_eq_true', Bool.not_eq_false', beq_self_eq_true, Bool.not_true, Bool.not_false, List.getElem?_toArray, List.getElem?_cons_zero, List.getElem?_cons_succ, h0, h1, h5, hn]
      exact he

end Go.Proofs.Ytggklaimbklefaa

/- The helpers of the laws for Suite: counted, copied, compared, marked. -/
set_option maxHeartbeats 4000000
set_option synthInstance.maxHeartbeats 400000
set_option synthInstance.maxSize 4096
set_option linter.unusedSimpArgs false
set_option linter.unusedVariables false
namespace Go.Proofs.Ytggklaimbklefaa

set_option maxRecDepth 100000

abbrev SuiteD := List FixtureD × List TestD × Unit

def suiteS : Shape SuiteD := consS (slS fixtureS) (consS (slS testS) unitS)

def suiteO : OwnS SuiteD := consO (slO 75 fixtureO) (consO (slO 78 testO) unitO)

def suiteT : GT SuiteD := consT (slT 75 fixtureT) (consT (slT 78 testT) unitT)

theorem suiteS_open {A : View} {x : SuiteD} {d : List Value} (h : suiteS.rel A x d) : ∃ uu0 uu1 : Value, d = [uu0, uu1] ∧ Sl fixtureS A uu0 x.1 ∧ Sl testS A uu1 x.2.1 := by
  obtain ⟨_, _, rfl, ⟨uu0, rfl, hh0⟩, ⟨_, _, rfl, ⟨uu1, rfl, hh1⟩, rfl⟩⟩ := h
  exact ⟨uu0, uu1, rfl, hh0, hh1⟩

theorem suiteS_mk {A : View} {x : SuiteD} {uu0 uu1 : Value} (hh0 : Sl fixtureS A uu0 x.1) (hh1 : Sl testS A uu1 x.2.1) : suiteS.rel A x [uu0, uu1] := ⟨_, _, rfl, ⟨_, rfl, hh0⟩, ⟨_, _, rfl, ⟨_, rfl, hh1⟩, rfl⟩⟩

theorem suiteO_open {A : View} {fp : List Nat} {x : SuiteD} {d : List Value} (h : suiteO.rel A fp x d) : ∃ (ff0 : List Nat) (uu0 : Value) (ff1 : List Nat) (uu1 : Value), ff0 ++ (ff1) = fp ∧ d = [uu0, uu1] ∧ OSl 75 fixtureO A ff0 uu0 x.1 ∧ OSl 78 testO A ff1 uu1 x.2.1 := by
  obtain ⟨_, _, _, _, rfl, rfl, ⟨uu0, rfl, hh0⟩, ⟨_, _, _, _, rfl, rfl, ⟨uu1, rfl, hh1⟩, ⟨rfl, rfl⟩⟩⟩ := h
  exact ⟨_, uu0, _, uu1, by simp, rfl, hh0, hh1⟩

theorem suiteO_mk {A : View} {x : SuiteD} {ff0 ff1 : List Nat} {uu0 uu1 : Value} (hh0 : OSl 75 fixtureO A ff0 uu0 x.1) (hh1 : OSl 78 testO A ff1 uu1 x.2.1) : suiteO.rel A (ff0 ++ (ff1)) x [uu0, uu1] := ⟨ff0, ff1, [uu0], _, by simp, rfl, ⟨_, rfl, hh0⟩, ⟨ff1, [], [uu1], _, by simp, rfl, ⟨_, rfl, hh1⟩, ⟨rfl, rfl⟩⟩⟩

theorem suiteO_S {A : View} {fp : List Nat} {x : SuiteD} {d : List Value} (h : suiteO.rel A fp x d) : suiteS.rel A x d := suiteO.toS h

theorem suiteT_w (x : SuiteD) : suiteT.w x = (x.1.length + wL fixtureT x.1) + ((x.2.1.length + wL testT x.2.1) + 0) := rfl

theorem suiteT_cnt (x : SuiteD) : suiteT.cnt x = cntL fixtureT x.1 + (cntL testT x.2.1 + 0) := rfl

theorem suiteT_le (x : SuiteD) : suiteT.cnt x ≤ 4 + 4 * suiteT.w x := by
  rw [suiteT_cnt, suiteT_w]
  have e0 := fixtureL_le x.1
  have e1 := testL_le x.2.1
  omega

theorem szSuite_c (A : View) (d : List Value) (x : SuiteD) (k : Int) (h : suiteS.rel A x d) (hk : 0 ≤ k ∧ k ≤ 1048576) : ACalls Try.prog 14 #[.agg d.toArray, .int .i64 k] A fun r A' => (∃ j : Int, r = .int .i64 j ∧ (j = -1 ∨ (0 ≤ j ∧ j + suiteT.w x = k))) ∧ Ext A A' := by
  obtain ⟨uu0, uu1, rfl, hh0, hh1⟩ := suiteS_open h
  obtain ⟨aa0, cc0, rfl, hc0, hl0⟩ := hh0.slice
  obtain ⟨aa1, cc1, rfl, hc1, hl1⟩ := hh1.slice
  have hw := suiteT_w x
  refine acalls Try.func14 rfl (by kernel_rfl) ?_
  simp (disch := omega) only [↓stp, vls, inf, frs, mark_eq, ↓reduceIte, Nat.reduceEqDiff, ite_tt, ite_ff, eq_self, and_true, true_and, and_self, implies_true, Bool.true_eq_false, Bool.false_eq_true, decide_true, decide_false, decide_eq_true_eq, decide_eq_false_iff_not, ne_eq, not_true_eq_false, not_false_eq_true, Bool.not_eq_true', Bool.not_eq_false', beq_self_eq_true, Bool.not_true, Bool.not_false, List.getElem?_toArray, List.getElem?_cons_zero, List.getElem?_cons_succ]
  refine led_box (Led.nil A) rfl fun b V _ l => ?_
  have b0 := l.cell (i := 0) rfl (o := 0) rfl rfl
  have b1 := l.cell (i := 0) rfl (o := 1) rfl rfl
  simp (disch := omega) only [↓stp, vls, inf, frs, mark_eq, ↓reduceIte, Nat.reduceEqDiff, ite_tt, ite_ff, eq_self, and_true, true_and, and_self, implies_true, Bool.true_eq_false, Bool.false_eq_true, decide_true, decide_false, decide_eq_true_eq, decide_eq_false_iff_not, ne_eq, not_true_eq_false, not_false_eq_true, Bool.not_eq_true', Bool.not_eq_false', beq_self_eq_true, Bool.not_true, Bool.not_false, List.getElem?_toArray, List.getElem?_cons_zero, List.getElem?_cons_succ, add_at, b0, b1]
  refine (szFixtureS_c V _ _ _ (hh0.mono l.ext) (by omega)).mono ?_
  rintro _ V ⟨⟨j0, rfl, hj0⟩, he⟩
  replace l := l.step he
  have b0 := l.cell (i := 0) rfl (o := 0) rfl rfl
  have b1 := l.cell (i := 0) rfl (o := 1) rfl rfl
  simp (disch := omega) only [↓stp, vls, inf, frs, mark_eq, ↓reduceIte, Nat.reduceEqDiff, ite_tt, ite_ff, eq_self, and_true, true_and, and_self, implies_true, Bool.true_eq_false, Bool.false_eq_true, decide_true, decide_false, decide_eq_true_eq, decide_eq_false_iff_not, ne_eq, not_true_eq_false, not_false_eq_true, Bool.not_eq_true', Bool.not_eq_false', beq_self_eq_true, Bool.not_true, Bool.not_false, List.getElem?_toArray, List.getElem?_cons_zero, List.getElem?_cons_succ, add_at, b0, b1]
  refine ⟨fun e => ?_, fun e => ?_⟩
  · simp (disch := omega) only [↓stp, vls, inf, frs, mark_eq, ↓reduceIte, Nat.reduceEqDiff, ite_tt, ite_ff, eq_self, and_true, true_and, and_self, implies_true, Bool.true_eq_false, Bool.false_eq_true, decide_true, decide_false, decide_eq_true_eq, decide_eq_false_iff_not, ne_eq, not_true_eq_false, not_false_eq_true, Bool.not_eq_true', Bool.not_eq_false', beq_self_eq_true, Bool.not_true, Bool.not_false, List.getElem?_toArray, List.getElem?_cons_zero, List.getElem?_cons_succ, add_at, b0, b1]
    exact ⟨⟨_, rfl, .inl rfl⟩, l.ext⟩
  replace hj0 := hj0.resolve_left (by omega)
  simp (disch := omega) only [↓stp, vls, inf, frs, mark_eq, ↓reduceIte, Nat.reduceEqDiff, ite_tt, ite_ff, eq_self, and_true, true_and, and_self, implies_true, Bool.true_eq_false, Bool.false_eq_true, decide_true, decide_false, decide_eq_true_eq, decide_eq_false_iff_not, ne_eq, not_true_eq_false, not_false_eq_true, Bool.not_eq_true', Bool.not_eq_false', beq_self_eq_true, Bool.not_true, Bool.not_false, List.getElem?_toArray, List.getElem?_cons_zero, List.getElem?_cons_succ, add_at, b0, b1]
  refine (szTestS_c V _ _ _ (hh1.mono l.ext) (by omega)).mono ?_
  rintro _ V ⟨⟨j1, rfl, hj1⟩, he⟩
  replace l := l.step he
  have b0 := l.cell (i := 0) rfl (o := 0) rfl rfl
  have b1 := l.cell (i := 0) rfl (o := 1) rfl rfl
  simp (disch := omega) only [↓stp, vls, inf, frs, mark_eq, ↓reduceIte, Nat.reduceEqDiff, ite_tt, ite_ff, eq_self, and_true, true_and, and_self, implies_true, Bool.true_eq_false, Bool.false_eq_true, decide_true, decide_false, decide_eq_true_eq, decide_eq_false_iff_not, ne_eq, not_true_eq_false, not_false_eq_true, Bool.not_eq_true', Bool.not_eq_false', beq_self_eq_true, Bool.not_true, Bool.not_false, List.getElem?_toArray, List.getElem?_cons_zero, List.getElem?_cons_succ, add_at, b0, b1]
  refine ⟨fun e => ?_, fun e => ?_⟩
  · simp (disch := omega) only [↓stp, vls, inf, frs, mark_eq, ↓reduceIte, Nat.reduceEqDiff, ite_tt, ite_ff, eq_self, and_true, true_and, and_self, implies_true, Bool.true_eq_false, Bool.false_eq_true, decide_true, decide_false, decide_eq_true_eq, decide_eq_false_iff_not, ne_eq, not_true_eq_false, not_false_eq_true, Bool.not_eq_true', Bool.not_eq_false', beq_self_eq_true, Bool.not_true, Bool.not_false, List.getElem?_toArray, List.getElem?_cons_zero, List.getElem?_cons_succ, add_at, b0, b1]
    exact ⟨⟨_, rfl, .inl rfl⟩, l.ext⟩
  replace hj1 := hj1.resolve_left (by omega)
  simp (disch := omega) only [↓stp, vls, inf, frs, mark_eq, ↓reduceIte, Nat.reduceEqDiff, ite_tt, ite_ff, eq_self, and_true, true_and, and_self, implies_true, Bool.true_eq_false, Bool.false_eq_true, decide_true, decide_false, decide_eq_true_eq, decide_eq_false_iff_not, ne_eq, not_true_eq_false, not_false_eq_true, Bool.not_eq_true', Bool.not_eq_false', beq_self_eq_true, Bool.not_true, Bool.not_false, List.getElem?_toArray, List.getElem?_cons_zero, List.getElem?_cons_succ, add_at, b0, b1]
  exact ⟨⟨_, rfl, .inr ⟨by omega, by omega⟩⟩, l.ext⟩

theorem toSuite_c (A : View) (d : List Value) (x : SuiteD) (h : suiteS.rel A x d) (hw : suiteT.w x ≤ 1048576) : ACalls Try.prog 16 #[.agg d.toArray] A fun r A' => ∃ fp d', r = .agg d'.toArray ∧ suiteO.rel A' fp x d' ∧ Ext A A' ∧ (∀ b, b ∈ fp → A b = none) ∧ fp.Nodup := by
  obtain ⟨uu0, uu1, rfl, hh0, hh1⟩ := suiteS_open h
  obtain ⟨aa0, cc0, rfl, hc0, hl0⟩ := hh0.slice
  obtain ⟨aa1, cc1, rfl, hc1, hl1⟩ := hh1.slice
  rw [suiteT_w] at hw
  refine acalls Try.func16 rfl (by kernel_rfl) ?_
  simp (disch := omega) only [↓stp, vls, inf, frs, mark_eq, ↓reduceIte, Nat.reduceEqDiff, ite_tt, ite_ff, eq_self, and_true, true_and, and_self, implies_true, Bool.true_eq_false, Bool.false_eq_true, decide_true, decide_false, decide_eq_true_eq, decide_eq_false_iff_not, ne_eq, not_true_eq_false, not_false_eq_true, Bool.not_eq_true', Bool.not_eq_false', beq_self_eq_true, Bool.not_true, Bool.not_false, List.getElem?_toArray, List.getElem?_cons_zero, List.getElem?_cons_succ]
  refine led_box (Led.nil A) rfl fun q0 V _ l => ?_
  simp (disch := omega) only [↓stp, vls, inf, frs, mark_eq, ↓reduceIte, Nat.reduceEqDiff, ite_tt, ite_ff, eq_self, and_true, true_and, and_self, implies_true, Bool.true_eq_false, Bool.false_eq_true, decide_true, decide_false, decide_eq_true_eq, decide_eq_false_iff_not, ne_eq, not_true_eq_false, not_false_eq_true, Bool.not_eq_true', Bool.not_eq_false', beq_self_eq_true, Bool.not_true, Bool.not_false, List.getElem?_toArray, List.getElem?_cons_zero, List.getElem?_cons_succ]
  refine led_alloc zc41 l fun q1 V _ l => ?_
  simp (disch := omega) only [↓stp, vls, inf, frs, mark_eq, ↓reduceIte, Nat.reduceEqDiff, ite_tt, ite_ff, eq_self, and_true, true_and, and_self, implies_true, Bool.true_eq_false, Bool.false_eq_true, decide_true, decide_false, decide_eq_true_eq, decide_eq_false_iff_not, ne_eq, not_true_eq_false, not_false_eq_true, Bool.not_eq_true', Bool.not_eq_false', beq_self_eq_true, Bool.not_true, Bool.not_false, List.getElem?_toArray, List.getElem?_cons_zero, List.getElem?_cons_succ]
  refine led_alloc zc41 l fun q2 V _ l => ?_
  have b0 := l.cell (i := 2) rfl (o := 0) rfl rfl
  have b1 := l.cell (i := 2) rfl (o := 1) rfl rfl
  simp (disch := omega) only [↓stp, vls, inf, frs, mark_eq, ↓reduceIte, Nat.reduceEqDiff, ite_tt, ite_ff, eq_self, and_true, true_and, and_self, implies_true, Bool.true_eq_false, Bool.false_eq_true, decide_true, decide_false, decide_eq_true_eq, decide_eq_false_iff_not, ne_eq, not_true_eq_false, not_false_eq_true, Bool.not_eq_true', Bool.not_eq_false', beq_self_eq_true, Bool.not_true, Bool.not_false, List.getElem?_toArray, List.getElem?_cons_zero, List.getElem?_cons_succ, add_at, b0, b1]
  refine (toFixtureS_c V _ _ (hh0.mono l.ext) (by omega)).mono ?_
  rintro w0 V ⟨ff0, o0, he, hfr, hnd⟩
  obtain ⟨p0, r0, rfl, _, _⟩ := o0.toS.slice
  replace l := l.cons he (osl 75 fixtureO ff0 _ _) o0 hfr hnd
  have b0 := l.cell (i := 3) rfl (o := 0) rfl rfl
  have b1 := l.cell (i := 3) rfl (o := 1) rfl rfl
  simp (disch := omega) only [↓stp, vls, inf, frs, mark_eq, ↓reduceIte, Nat.reduceEqDiff, ite_tt, ite_ff, eq_self, and_true, true_and, and_self, implies_true, Bool.true_eq_false, Bool.false_eq_true, decide_true, decide_false, decide_eq_true_eq, decide_eq_false_iff_not, ne_eq, not_true_eq_false, not_false_eq_true, Bool.not_eq_true', Bool.not_eq_false', beq_self_eq_true, Bool.not_true, Bool.not_false, List.getElem?_toArray, List.getElem?_cons_zero, List.getElem?_cons_succ, add_at, b0, b1]
  refine led_store l 1 rfl sz38 (by rfl) (by rfl) (by rfl) fun V l => ?_
  have b0 := l.cell (i := 3) rfl (o := 0) rfl rfl
  have b1 := l.cell (i := 3) rfl (o := 1) rfl rfl
  simp (disch := omega) only [↓stp, vls, inf, frs, mark_eq, ↓reduceIte, Nat.reduceEqDiff, ite_tt, ite_ff, eq_self, and_true, true_and, and_self, implies_true, Bool.true_eq_false, Bool.false_eq_true, decide_true, decide_false, decide_eq_true_eq, decide_eq_false_iff_not, ne_eq, not_true_eq_false, not_false_eq_true, Bool.not_eq_true', Bool.not_eq_false', beq_self_eq_true, Bool.not_true, Bool.not_false, List.getElem?_toArray, List.getElem?_cons_zero, List.getElem?_cons_succ, add_at, b0, b1]
  refine (toTestS_c V _ _ (hh1.mono l.ext) (by omega)).mono ?_
  rintro w1 V ⟨ff1, o1, he, hfr, hnd⟩
  obtain ⟨p1, r1, rfl, _, _⟩ := o1.toS.slice
  replace l := l.cons he (osl 78 testO ff1 _ _) o1 hfr hnd
  have b0 := l.cell (i := 4) rfl (o := 0) rfl rfl
  have b1 := l.cell (i := 4) rfl (o := 1) rfl rfl
  simp (disch := omega) only [↓stp, vls, inf, frs, mark_eq, ↓reduceIte, Nat.reduceEqDiff, ite_tt, ite_ff, eq_self, and_true, true_and, and_self, implies_true, Bool.true_eq_false, Bool.false_eq_true, decide_true, decide_false, decide_eq_true_eq, decide_eq_false_iff_not, ne_eq, not_true_eq_false, not_false_eq_true, Bool.not_eq_true', Bool.not_eq_false', beq_self_eq_true, Bool.not_true, Bool.not_false, List.getElem?_toArray, List.getElem?_cons_zero, List.getElem?_cons_succ, add_at, b0, b1]
  refine led_store l 2 rfl sz39 (by rfl) (by rfl) (by rfl) fun V l => ?_
  have hp : V.part ⟨q2, 0, none⟩ 2 = some [.slice p0 _ r0, .slice p1 _ r1] := l.part (i := 2) rfl rfl
  simp (disch := omega) only [↓stp, vls, inf, frs, mark_eq, ↓reduceIte, Nat.reduceEqDiff, ite_tt, ite_ff, eq_self, and_true, true_and, and_self, implies_true, Bool.true_eq_false, Bool.false_eq_true, decide_true, decide_false, decide_eq_true_eq, decide_eq_false_iff_not, ne_eq, not_true_eq_false, not_false_eq_true, Bool.not_eq_true', Bool.not_eq_false', beq_self_eq_true, Bool.not_true, Bool.not_false, List.getElem?_toArray, List.getElem?_cons_zero, List.getElem?_cons_succ, hp]
  refine led_store l 3 rfl sz41 (by rfl) (by rfl) (by rfl) fun V l => ?_
  have hp : V.part ⟨q1, 0, none⟩ 2 = some [.slice p0 _ r0, .slice p1 _ r1] := l.part (i := 3) rfl rfl
  simp (disch := omega) only [↓stp, vls, inf, frs, mark_eq, ↓reduceIte, Nat.reduceEqDiff, ite_tt, ite_ff, eq_self, and_true, true_and, and_self, implies_true, Bool.true_eq_false, Bool.false_eq_true, decide_true, decide_false, decide_eq_true_eq, decide_eq_false_iff_not, ne_eq, not_true_eq_false, not_false_eq_true, Bool.not_eq_true', Bool.not_eq_false', beq_self_eq_true, Bool.not_true, Bool.not_false, List.getElem?_toArray, List.getElem?_cons_zero, List.getElem?_cons_succ, hp]
  refine ⟨ff0 ++ (ff1), _, rfl, suiteO_mk (l.at (i := 1) rfl) (l.at (i := 0) rfl), l.ext, fun b hb => ?_, ?_⟩
  · simp only [List.mem_append] at hb
    rcases hb with hb | hb
    · exact l.fresh (i := 1) rfl b hb
    · exact l.fresh (i := 0) rfl b hb
  · refine List.nodup_append.2 ⟨l.nodup1 (i := 1) rfl, ?_, fun a ha b hb e => ?_⟩
    · exact l.nodup1 (i := 0) rfl
    · subst e
      exact l.dis (i := 1) (j := 0) rfl rfl (by decide) _ ha hb

theorem eqSuite_c (A : View) (d d' : List Value) (x y : SuiteD) (h : suiteS.rel A x d) (h' : suiteS.rel A y d') : ACalls Try.prog 18 #[.agg d.toArray, .agg d'.toArray] A fun r A' => r = .bool (decide (x = y)) ∧ Ext A A' := by
  obtain ⟨uu0, uu1, rfl, hh0, hh1⟩ := suiteS_open h
  obtain ⟨aa0, cc0, rfl, hc0, hl0⟩ := hh0.slice
  obtain ⟨aa1, cc1, rfl, hc1, hl1⟩ := hh1.slice
  obtain ⟨v0, v1, rfl, g0, g1⟩ := suiteS_open h'
  obtain ⟨aa0q, cc0q, rfl, hc0q, hl0q⟩ := g0.slice
  obtain ⟨aa1q, cc1q, rfl, hc1q, hl1q⟩ := g1.slice
  refine acalls Try.func18 rfl (by kernel_rfl) ?_
  simp (disch := omega) only [↓stp, vls, inf, frs, mark_eq, ↓reduceIte, Nat.reduceEqDiff, ite_tt, ite_ff, eq_self, and_true, true_and, and_self, implies_true, Bool.true_eq_false, Bool.false_eq_true, decide_true, decide_false, decide_eq_true_eq, decide_eq_false_iff_not, ne_eq, not_true_eq_false, not_false_eq_true, Bool.not_eq_true', Bool.not_eq_false', beq_self_eq_true, Bool.not_true, Bool.not_false, List.getElem?_toArray, List.getElem?_cons_zero, List.getElem?_cons_succ]
  refine led_box (Led.nil A) rfl fun q0 V _ l => ?_
  simp (disch := omega) only [↓stp, vls, inf, frs, mark_eq, ↓reduceIte, Nat.reduceEqDiff, ite_tt, ite_ff, eq_self, and_true, true_and, and_self, implies_true, Bool.true_eq_false, Bool.false_eq_true, decide_true, decide_false, decide_eq_true_eq, decide_eq_false_iff_not, ne_eq, not_true_eq_false, not_false_eq_true, Bool.not_eq_true', Bool.not_eq_false', beq_self_eq_true, Bool.not_true, Bool.not_false, List.getElem?_toArray, List.getElem?_cons_zero, List.getElem?_cons_succ]
  refine led_box l rfl fun q1 V _ l => ?_
  have b0 := l.cell (i := 1) rfl (o := 0) rfl rfl
  have b1 := l.cell (i := 1) rfl (o := 1) rfl rfl
  have d0 := l.cell (i := 0) rfl (o := 0) rfl rfl
  have d1 := l.cell (i := 0) rfl (o := 1) rfl rfl
  simp (disch := omega) only [↓stp, vls, inf, frs, mark_eq, ↓reduceIte, Nat.reduceEqDiff, ite_tt, ite_ff, eq_self, and_true, true_and, and_self, implies_true, Bool.true_eq_false, Bool.false_eq_true, decide_true, decide_false, decide_eq_true_eq, decide_eq_false_iff_not, ne_eq, not_true_eq_false, not_false_eq_true, Bool.not_eq_true', Bool.not_eq_false', beq_self_eq_true, Bool.not_true, Bool.not_false, List.getElem?_toArray, List.getElem?_cons_zero, List.getElem?_cons_succ, add_at, b0, b1, d0, d1]
  refine (eqFixtureS_c V _ _ _ _ (hh0.mono l.ext) (g0.mono l.ext)).mono ?_
  rintro _ V ⟨rfl, he⟩
  replace l := l.step he
  have b0 := l.cell (i := 1) rfl (o := 0) rfl rfl
  have b1 := l.cell (i := 1) rfl (o := 1) rfl rfl
  have d0 := l.cell (i := 0) rfl (o := 0) rfl rfl
  have d1 := l.cell (i := 0) rfl (o := 1) rfl rfl
  simp (disch := omega) only [↓stp, vls, inf, frs, mark_eq, ↓reduceIte, Nat.reduceEqDiff, ite_tt, ite_ff, eq_self, and_true, true_and, and_self, implies_true, Bool.true_eq_false, Bool.false_eq_true, decide_true, decide_false, decide_eq_true_eq, decide_eq_false_iff_not, ne_eq, not_true_eq_false, not_false_eq_true, Bool.not_eq_true', Bool.not_eq_false', beq_self_eq_true, Bool.not_true, Bool.not_false, List.getElem?_toArray, List.getElem?_cons_zero, List.getElem?_cons_succ, add_at, b0, b1, d0, d1]
  refine ⟨fun e => ?_, fun e => ?_⟩
  · have hne : ¬ x = y := fun he => by rw [he] at e; simp at e
    simp (disch := omega) only [↓stp, vls, inf, frs, mark_eq, ↓reduceIte, Nat.reduceEqDiff, ite_tt, ite_ff, eq_self, and_true, true_and, and_self, implies_true, Bool.true_eq_false, Bool.false_eq_true, decide_true, decide_false, decide_eq_true_eq, decide_eq_false_iff_not, ne_eq, not_true_eq_false, not_false_eq_true, Bool.not_eq_true', Bool.not_eq_false', beq_self_eq_true, Bool.not_true, Bool.not_false, List.getElem?_toArray, List.getElem?_cons_zero, List.getElem?_cons_succ, hne]
    exact l.ext
  have e0 : x.1 = y.1 := by simpa using e
  simp (disch := omega) only [↓stp, vls, inf, frs, mark_eq, ↓reduceIte, Nat.reduceEqDiff, ite_tt, ite_ff, eq_self, and_true, true_and, and_self, implies_true, Bool.true_eq_false, Bool.false_eq_true, decide_true, decide_false, decide_eq_true_eq, decide_eq_false_iff_not, ne_eq, not_true_eq_false, not_false_eq_true, Bool.not_eq_true', Bool.not_eq_false', beq_self_eq_true, Bool.not_true, Bool.not_false, List.getElem?_toArray, List.getElem?_cons_zero, List.getElem?_cons_succ, add_at, b0, b1, d0, d1]
  refine (eqTestS_c V _ _ _ _ (hh1.mono l.ext) (g1.mono l.ext)).mono ?_
  rintro _ V ⟨rfl, he⟩
  replace l := l.step he
  have b0 := l.cell (i := 1) rfl (o := 0) rfl rfl
  have b1 := l.cell (i := 1) rfl (o := 1) rfl rfl
  have d0 := l.cell (i := 0) rfl (o := 0) rfl rfl
  have d1 := l.cell (i := 0) rfl (o := 1) rfl rfl
  simp (disch := omega) only [↓stp, vls, inf, frs, mark_eq, ↓reduceIte, Nat.reduceEqDiff, ite_tt, ite_ff, eq_self, and_true, true_and, and_self, implies_true, Bool.true_eq_false, Bool.false_eq_true, decide_true, decide_false, decide_eq_true_eq, decide_eq_false_iff_not, ne_eq, not_true_eq_false, not_false_eq_true, Bool.not_eq_true', Bool.not_eq_false', beq_self_eq_true, Bool.not_true, Bool.not_false, List.getElem?_toArray, List.getElem?_cons_zero, List.getElem?_cons_succ, add_at, b0, b1, d0, d1]
  refine ⟨fun e => ?_, fun e => ?_⟩
  · have hne : ¬ x = y := fun he => by rw [he] at e; simp at e
    simp (disch := omega) only [↓stp, vls, inf, frs, mark_eq, ↓reduceIte, Nat.reduceEqDiff, ite_tt, ite_ff, eq_self, and_true, true_and, and_self, implies_true, Bool.true_eq_false, Bool.false_eq_true, decide_true, decide_false, decide_eq_true_eq, decide_eq_false_iff_not, ne_eq, not_true_eq_false, not_false_eq_true, Bool.not_eq_true', Bool.not_eq_false', beq_self_eq_true, Bool.not_true, Bool.not_false, List.getElem?_toArray, List.getElem?_cons_zero, List.getElem?_cons_succ, hne]
    exact l.ext
  have e1 : x.2.1 = y.2.1 := by simpa using e
  have he : x = y := Prod.ext e0 (Prod.ext e1 (rfl))
  simp (disch := omega) only [↓stp, vls, inf, frs, mark_eq, ↓reduceIte, Nat.reduceEqDiff, ite_tt, ite_ff, eq_self, and_true, true_and, and_self, implies_true, Bool.true_eq_false, Bool.false_eq_true, decide_true, decide_false, decide_eq_true_eq, decide_eq_false_iff_not, ne_eq, not_true_eq_false, not_false_eq_true, Bool.not_eq_true', Bool.not_eq_false', beq_self_eq_true, Bool.not_true, Bool.not_false, List.getElem?_toArray, List.getElem?_cons_zero, List.getElem?_cons_succ, he]
  exact l.ext

end Go.Proofs.Ytggklaimbklefaa

/- The walk through the law FnExactSuiteText. -/
set_option maxHeartbeats 4000000
set_option synthInstance.maxHeartbeats 400000
set_option synthInstance.maxSize 4096
set_option linter.unusedSimpArgs false
set_option linter.unusedVariables false
namespace Go.Proofs.Ytggklaimbklefaa

set_option maxRecDepth 100000

/-- The walk through the law, over what the two functions give back. -/
theorem walkFnExactSuiteText (A : View) (d0 : List Value) (x0 : SuiteD) (h0 : suiteS.rel A x0 d0) (R0 : ByteArray)
    (hspec : ∀ (B : View) (d0 : List Value) (h0 : suiteS.rel B x0 d0), suiteT.w x0 ≤ 1048576 → ACalls Try.prog 15 #[.agg d0.toArray] B fun r B' => r = .string R0 ∧ Led B [] B')
    (himpl : ∀ (B : View) (d0 : List Value) (h0 : suiteS.rel B x0 d0), suiteT.w x0 ≤ 1048576 → ACalls Try.prog 17 #[.agg d0.toArray] B fun r B' => r = .string R0 ∧ Led B [] B') :
    ACalls Try.prog 5 #[.agg d0.toArray] A fun r _ => r = .bool true := by
  have l := Led.nil A
  refine acalls Try.func5 rfl (by kernel_rfl) ?_
  simp (disch := omega) only [↓stp, vls, inf, frs, mark_eq, ↓reduceIte, Nat.reduceEqDiff, ite_tt, ite_ff, eq_self, and_true, true_and, and_self, implies_true, Bool.true_eq_false, Bool.false_eq_true, decide_true, decide_false, decide_eq_true_eq, decide_eq_false_iff_not, ne_eq, not_true_eq_false, not_false_eq_true, Bool.not_eq_true', Bool.not_eq_false', beq_self_eq_true, Bool.not_true, Bool.not_false, List.getElem?_toArray, List.getElem?_cons_zero, List.getElem?_cons_succ]
  have hnd0 : d0.length = 2 := suiteS.len h0
  have hod0 : ∀ v ∈ d0, v.oneCell' = true := suiteS.one h0
  refine led_box l (List.all_eq_true.2 hod0) fun q2 V1 _ l => ?_
  have pq2 : V1.part ⟨q2, 0, none⟩ 2 = some d0 := l.partn (i := 0) rfl hnd0 hod0
  simp (disch := omega) only [↓stp, vls, inf, frs, mark_eq, ↓reduceIte, Nat.reduceEqDiff, ite_tt, ite_ff, eq_self, and_true, true_and, and_self, implies_true, Bool.true_eq_false, Bool.false_eq_true, decide_true, decide_false, decide_eq_true_eq, decide_eq_false_iff_not, ne_eq, not_true_eq_false, not_false_eq_true, Bool.not_eq_true', Bool.not_eq_false', beq_self_eq_true, Bool.not_true, Bool.not_false, List.getElem?_toArray, List.getElem?_cons_zero, List.getElem?_cons_succ, pq2]
  refine (szSuite_c V1 _ x0 1048576 (suiteS.mono l.ext h0) (by omega)).mono ?_
  rintro _ V3 ⟨⟨j0, rfl, hj0⟩, he⟩
  replace l := l.step he
  have pq2 : V3.part ⟨q2, 0, none⟩ 2 = some d0 := l.partn (i := 0) rfl hnd0 hod0
  simp (disch := omega) only [↓stp, vls, inf, frs, mark_eq, ↓reduceIte, Nat.reduceEqDiff, ite_tt, ite_ff, eq_self, and_true, true_and, and_self, implies_true, Bool.true_eq_false, Bool.false_eq_true, decide_true, decide_false, decide_eq_true_eq, decide_eq_false_iff_not, ne_eq, not_true_eq_false, not_false_eq_true, Bool.not_eq_true', Bool.not_eq_false', beq_self_eq_true, Bool.not_true, Bool.not_false, List.getElem?_toArray, List.getElem?_cons_zero, List.getElem?_cons_succ, pq2]
  refine ⟨fun e => ?_, fun e => ?_⟩
  · simp (disch := omega) only [↓stp, vls, inf, frs, mark_eq, ↓reduceIte, Nat.reduceEqDiff, ite_tt, ite_ff, eq_self, and_true, true_and, and_self, implies_true, Bool.true_eq_false, Bool.false_eq_true, decide_true, decide_false, decide_eq_true_eq, decide_eq_false_iff_not, ne_eq, not_true_eq_false, not_false_eq_true, Bool.not_eq_true', Bool.not_eq_false', beq_self_eq_true, Bool.not_true, Bool.not_false, List.getElem?_toArray, List.getElem?_cons_zero, List.getElem?_cons_succ]
  replace hj0 := hj0.resolve_left (by omega)
  have pq2 : V3.part ⟨q2, 0, none⟩ 2 = some d0 := l.partn (i := 0) rfl hnd0 hod0
  simp (disch := omega) only [↓stp, vls, inf, frs, mark_eq, ↓reduceIte, Nat.reduceEqDiff, ite_tt, ite_ff, eq_self, and_true, true_and, and_self, implies_true, Bool.true_eq_false, Bool.false_eq_true, decide_true, decide_false, decide_eq_true_eq, decide_eq_false_iff_not, ne_eq, not_true_eq_false, not_false_eq_true, Bool.not_eq_true', Bool.not_eq_false', beq_self_eq_true, Bool.not_true, Bool.not_false, List.getElem?_toArray, List.getElem?_cons_zero, List.getElem?_cons_succ, pq2]
  have hc0 := suiteT_le x0
  refine (toSuite_c V3 _ _ (suiteS.mono l.ext h0) (by omega)).mono ?_
  rintro _ V7 ⟨f4, r5, rfl, o6, he, hfr, hnd⟩
  replace l := l.cons he (oc suiteO f4 _ _) o6 hfr hnd
  have hnr5 : r5.length = 2 := suiteS.len (suiteO_S o6)
  have hor5 : ∀ v ∈ r5, v.oneCell' = true := suiteS.one (suiteO_S o6)
  have pq2 : V7.part ⟨q2, 0, none⟩ 2 = some d0 := l.partn (i := 1) rfl hnd0 hod0
  simp (disch := omega) only [↓stp, vls, inf, frs, mark_eq, ↓reduceIte, Nat.reduceEqDiff, ite_tt, ite_ff, eq_self, and_true, true_and, and_self, implies_true, Bool.true_eq_false, Bool.false_eq_true, decide_true, decide_false, decide_eq_true_eq, decide_eq_false_iff_not, ne_eq, not_true_eq_false, not_false_eq_true, Bool.not_eq_true', Bool.not_eq_false', beq_self_eq_true, Bool.not_true, Bool.not_false, List.getElem?_toArray, List.getElem?_cons_zero, List.getElem?_cons_succ, pq2]
  refine (hspec V7 r5 (suiteO_S (l.at (i := 0) rfl)) (by omega)).mono ?_
  rintro _ V9 ⟨rfl, l2⟩
  replace l := l.append l2
  have pq2 : V9.part ⟨q2, 0, none⟩ 2 = some d0 := l.partn (i := 1) rfl hnd0 hod0
  simp (disch := omega) only [↓stp, vls, inf, frs, mark_eq, ↓reduceIte, Nat.reduceEqDiff, ite_tt, ite_ff, eq_self, and_true, true_and, and_self, implies_true, Bool.true_eq_false, Bool.false_eq_true, decide_true, decide_false, decide_eq_true_eq, decide_eq_false_iff_not, ne_eq, not_true_eq_false, not_false_eq_true, Bool.not_eq_true', Bool.not_eq_false', beq_self_eq_true, Bool.not_true, Bool.not_false, List.getElem?_toArray, List.getElem?_cons_zero, List.getElem?_cons_succ, pq2]
  refine (toSuite_c V9 _ _ (suiteS.mono l.ext h0) (by omega)).mono ?_
  rintro _ V13 ⟨f10, r11, rfl, o12, he, hfr, hnd⟩
  replace l := l.cons he (oc suiteO f10 _ _) o12 hfr hnd
  have hnr11 : r11.length = 2 := suiteS.len (suiteO_S o12)
  have hor11 : ∀ v ∈ r11, v.oneCell' = true := suiteS.one (suiteO_S o12)
  have pq2 : V13.part ⟨q2, 0, none⟩ 2 = some d0 := l.partn (i := 2) rfl hnd0 hod0
  simp (disch := omega) only [↓stp, vls, inf, frs, mark_eq, ↓reduceIte, Nat.reduceEqDiff, ite_tt, ite_ff, eq_self, and_true, true_and, and_self, implies_true, Bool.true_eq_false, Bool.false_eq_true, decide_true, decide_false, decide_eq_true_eq, decide_eq_false_iff_not, ne_eq, not_true_eq_false, not_false_eq_true, Bool.not_eq_true', Bool.not_eq_false', beq_self_eq_true, Bool.not_true, Bool.not_false, List.getElem?_toArray, List.getElem?_cons_zero, List.getElem?_cons_succ, pq2]
  refine led_alloc zc41 l fun q16 V15 _ l => ?_
  have pq2 : V15.part ⟨q2, 0, none⟩ 2 = some d0 := l.partn (i := 3) rfl hnd0 hod0
  simp (disch := omega) only [↓stp, vls, inf, frs, mark_eq, ↓reduceIte, Nat.reduceEqDiff, ite_tt, ite_ff, eq_self, and_true, true_and, and_self, implies_true, Bool.true_eq_false, Bool.false_eq_true, decide_true, decide_false, decide_eq_true_eq, decide_eq_false_iff_not, ne_eq, not_true_eq_false, not_false_eq_true, Bool.not_eq_true', Bool.not_eq_false', beq_self_eq_true, Bool.not_true, Bool.not_false, List.getElem?_toArray, List.getElem?_cons_zero, List.getElem?_cons_succ, pq2]
  refine led_storeAll l 0 rfl sz41 hnr11 rfl hor11 fun V17 l => ?_
  have pq16 : V17.part ⟨q16, 0, none⟩ 2 = some r11 := l.partn (i := 0) rfl hnr11 hor11
  have pq2 : V17.part ⟨q2, 0, none⟩ 2 = some d0 := l.partn (i := 3) rfl hnd0 hod0
  simp (disch := omega) only [↓stp, vls, inf, frs, mark_eq, ↓reduceIte, Nat.reduceEqDiff, ite_tt, ite_ff, eq_self, and_true, true_and, and_self, implies_true, Bool.true_eq_false, Bool.false_eq_true, decide_true, decide_false, decide_eq_true_eq, decide_eq_false_iff_not, ne_eq, not_true_eq_false, not_false_eq_true, Bool.not_eq_true', Bool.not_eq_false', beq_self_eq_true, Bool.not_true, Bool.not_false, List.getElem?_toArray, List.getElem?_cons_zero, List.getElem?_cons_succ, pq16, pq2]
  refine (himpl V17 r11 (suiteO_S (l.at (i := 1) rfl)) (by omega)).mono ?_
  rintro _ V18 ⟨rfl, l2⟩
  replace l := l.append l2
  have pq16 : V18.part ⟨q16, 0, none⟩ 2 = some r11 := l.partn (i := 0) rfl hnr11 hor11
  have pq2 : V18.part ⟨q2, 0, none⟩ 2 = some d0 := l.partn (i := 3) rfl hnd0 hod0
  simp (disch := omega) only [↓stp, vls, inf, frs, mark_eq, ↓reduceIte, Nat.reduceEqDiff, ite_tt, ite_ff, eq_self, and_true, true_and, and_self, implies_true, Bool.true_eq_false, Bool.false_eq_true, decide_true, decide_false, decide_eq_true_eq, decide_eq_false_iff_not, ne_eq, not_true_eq_false, not_false_eq_true, Bool.not_eq_true', Bool.not_eq_false', beq_self_eq_true, Bool.not_true, Bool.not_false, List.getElem?_toArray, List.getElem?_cons_zero, List.getElem?_cons_succ, pq16, pq2]
  refine adraw_items [.l 0 true, .l 1 false, .c 2 [0], .c 3 [], .q 4] (by kernel_rfl) (by kernel_rfl) ?_
  have pq16 : V18.part ⟨q16, 0, none⟩ 2 = some r11 := l.partn (i := 0) rfl hnr11 hor11
  have pq2 : V18.part ⟨q2, 0, none⟩ 2 = some d0 := l.partn (i := 3) rfl hnd0 hod0
  simp (disch := omega) only [↓stp, ↓pln, plv, nilOk, Nat.reduceBEq, Bool.or_false, Bool.or_true, Bool.false_or, Bool.true_or, vls, inf, frs, mark_eq, ↓reduceIte, Nat.reduceEqDiff, ite_tt, ite_ff, eq_self, and_true, true_and, and_self, implies_true, Bool.true_eq_false, Bool.false_eq_true, decide_true, decide_false, decide_eq_true_eq, decide_eq_false_iff_not, ne_eq, not_true_eq_false, not_false_eq_true, Bool.not_eq_true', Bool.not_eq_false', beq_self_eq_true, Bool.not_true, Bool.not_false, List.getElem?_toArray, List.getElem?_cons_zero, List.getElem?_cons_succ, pq16, pq2]
  refine (toSuite_c V18 _ _ (suiteS.mono l.ext h0) (by omega)).mono ?_
  rintro _ V22 ⟨f19, r20, rfl, o21, he, hfr, hnd⟩
  replace l := l.cons he (oc suiteO f19 _ _) o21 hfr hnd
  have hnr20 : r20.length = 2 := suiteS.len (suiteO_S o21)
  have hor20 : ∀ v ∈ r20, v.oneCell' = true := suiteS.one (suiteO_S o21)
  have pq16 : V22.part ⟨q16, 0, none⟩ 2 = some r11 := l.partn (i := 1) rfl hnr11 hor11
  have pq2 : V22.part ⟨q2, 0, none⟩ 2 = some d0 := l.partn (i := 4) rfl hnd0 hod0
  simp (disch := omega) only [↓stp, ↓pln, plv, nilOk, Nat.reduceBEq, Bool.or_false, Bool.or_true, Bool.false_or, Bool.true_or, vls, inf, frs, mark_eq, ↓reduceIte, Nat.reduceEqDiff, ite_tt, ite_ff, eq_self, and_true, true_and, and_self, implies_true, Bool.true_eq_false, Bool.false_eq_true, decide_true, decide_false, decide_eq_true_eq, decide_eq_false_iff_not, ne_eq, not_true_eq_false, not_false_eq_true, Bool.not_eq_true', Bool.not_eq_false', beq_self_eq_true, Bool.not_true, Bool.not_false, List.getElem?_toArray, List.getElem?_cons_zero, List.getElem?_cons_succ, pq16, pq2]
  refine (eqSuite_c V22 _ _ _ _ (suiteO_S (l.at (i := 2) rfl)) (suiteO_S (l.at (i := 0) rfl))).mono ?_
  rintro _ V24 ⟨rfl, he⟩
  replace l := l.step he
  have pq16 : V24.part ⟨q16, 0, none⟩ 2 = some r11 := l.partn (i := 1) rfl hnr11 hor11
  have pq2 : V24.part ⟨q2, 0, none⟩ 2 = some d0 := l.partn (i := 4) rfl hnd0 hod0
  simp (disch := omega) only [↓stp, ↓pln, plv, nilOk, Nat.reduceBEq, Bool.or_false, Bool.or_true, Bool.false_or, Bool.true_or, vls, inf, frs, mark_eq, ↓reduceIte, Nat.reduceEqDiff, ite_tt, ite_ff, eq_self, and_true, true_and, and_self, implies_true, Bool.true_eq_false, Bool.false_eq_true, decide_true, decide_false, decide_eq_true_eq, decide_eq_false_iff_not, ne_eq, not_true_eq_false, not_false_eq_true, Bool.not_eq_true', Bool.not_eq_false', beq_self_eq_true, Bool.not_true, Bool.not_false, List.getElem?_toArray, List.getElem?_cons_zero, List.getElem?_cons_succ, pq16, pq2]

end Go.Proofs.Ytggklaimbklefaa

/- What is appended, in ledgers. -/
set_option maxHeartbeats 4000000
set_option synthInstance.maxHeartbeats 400000
set_option synthInstance.maxSize 4096
set_option linter.unusedSimpArgs false
set_option linter.unusedVariables false
namespace Go.Proofs.Ytggklaimbklefaa

section
variable {P : Program} {A B V W : View} {K : Value → View → Prop} {L M : List It}

theorem Led.swap2 {ot it jt : It} {i : Nat} (h : Led A (ot :: L) V) (hi : L[i]? = some it) (ho : Only (it.fp ++ ot.fp) V W) (hφ : jt.φ W) (hfr : ∀ b, b ∈ jt.fp → b ∈ it.fp ∨ b ∈ ot.fp ∨ V b = none) (hnd : jt.fp.Nodup) : Led A (L.set i jt) W := by
  have hlt := (List.getElem?_eq_some_iff.1 hi).1
  have hs : (L.set i jt)[i]? = some jt := by rw [List.getElem?_set_self hlt]
  have hnd0 : (ot.fp ++ fps L).Nodup := h.nd
  have hn1 := List.nodup_append.1 hnd0
  have hit : ∀ b, b ∈ it.fp → b ∈ fps L := fun b hb => mem_fps (List.mem_of_getElem? hi) hb
  have hold : ∀ b, b ∈ it.fp ++ ot.fp → A b = none := fun b hb => by
    refine h.new b ?_
    show b ∈ ot.fp ++ fps L
    rcases List.mem_append.1 hb with hb | hb
    · exact List.mem_append_right _ (hit b hb)
    · exact List.mem_append_left _ hb
  have hnew : ∀ b, b ∈ jt.fp → A b = none := fun b hb => by
    rcases hfr b hb with hb | hb | hb
    · exact hold b (List.mem_append_left _ hb)
    · exact hold b (List.mem_append_right _ hb)
    · exact h.ext.none hb
  have hother : ∀ x, x ∈ fps (L.take i) ++ fps (L.drop (i + 1)) → x ∉ jt.fp := by
    intro x hx hj
    have hxL : x ∈ fps L := by
      rw [fps_split L i it hi]
      rcases List.mem_append.1 hx with hx | hx
      · exact List.mem_append_left _ hx
      · exact List.mem_append_right _ (List.mem_append_right _ hx)
    rcases hfr x hj with hb | hb | hb
    · have hn := hn1.2.1
      rw [fps_split L i it hi, List.nodup_append] at hn
      have h2 := List.nodup_append.1 hn.2.1
      rcases List.mem_append.1 hx with hx | hx
      · exact hn.2.2 x hx x (List.mem_append_left _ hb) rfl
      · exact h2.2.2 x hb x hx rfl
    · exact hn1.2.2 x hb x hxL rfl
    · obtain ⟨k, hk⟩ := h.has (b := x) (show x ∈ ot.fp ++ fps L from List.mem_append_right _ hxL)
      rw [hb] at hk; cases hk
  refine ⟨fun b k hb => ho b k (fun hm => by rw [hold b hm] at hb; cases hb) (h.ext b k hb), fun x hx => ?_, fun b hb => ?_, ?_⟩
  · obtain ⟨j, hj⟩ := List.mem_iff_getElem?.1 hx
    by_cases hij : i = j
    · subst hij
      rw [List.getElem?_set_self hlt] at hj
      obtain rfl := Option.some.inj hj
      exact hφ
    · rw [List.getElem?_set_ne hij] at hj
      refine x.stay (h.all x (List.mem_cons_of_mem _ (List.mem_of_getElem? hj))) fun b k hb hk => ho b k (fun hm => ?_) hk
      rcases List.mem_append.1 hm with hm | hm
      · exact fps_dis hn1.2.1 hj hi (fun e => hij e.symm) b hb hm
      · exact hn1.2.2 b hm b (mem_fps (List.mem_of_getElem? hj) hb) rfl
  · rw [fps_split _ i jt hs, List.take_set_of_le (Nat.le_refl _), List.drop_set_of_lt (by omega)] at hb
    rcases List.mem_append.1 hb with hb | hb
    · exact h.new b (show b ∈ ot.fp ++ fps L from List.mem_append_right _ (by rw [fps_split L i it hi]; exact List.mem_append_left _ hb))
    · rcases List.mem_append.1 hb with hb | hb
      · exact hnew b hb
      · exact h.new b (show b ∈ ot.fp ++ fps L from List.mem_append_right _ (by rw [fps_split L i it hi]; exact List.mem_append_right _ (List.mem_append_right _ hb)))
  · have hn := hn1.2.1
    rw [fps_split L i it hi, List.nodup_append] at hn
    have h2 := List.nodup_append.1 hn.2.1
    rw [fps_split _ i jt hs, List.take_set_of_le (Nat.le_refl _), List.drop_set_of_lt (by omega), List.nodup_append, List.nodup_append]
    refine ⟨hn.1, ⟨hnd, h2.2.1, fun x hx y hy e => hother y (List.mem_append_right _ hy) (by rw [← e]; exact hx)⟩, fun x hx y hy e => ?_⟩
    rcases List.mem_append.1 hy with hy | hy
    · exact hother x (List.mem_append_left _ hx) (by rw [e]; exact hy)
    · exact hn.2.2 x hx y (List.mem_append_right _ hy) e

def emp : It := ⟨[], fun _ => True, fun _ _ => trivial, fun _ b hb => by cases hb⟩
theorem Led.emp (h : Led A L V) : Led A (emp :: L) V := ⟨h.ext, fun it hit => by
  rcases List.mem_cons.1 hit with rfl | hit
  · exact trivial
  · exact h.all it hit, h.new, h.nd⟩
theorem Led.swap {it jt : It} {i : Nat} (h : Led A L V) (hi : L[i]? = some it) (ho : Only it.fp V W) (hφ : jt.φ W) (hfr : ∀ b, b ∈ jt.fp → b ∈ it.fp ∨ V b = none) (hnd : jt.fp.Nodup) : Led A (L.set i jt) W :=
  h.emp.swap2 hi (ho.more fun b hb => List.mem_append_left _ hb) hφ (fun b hb => (hfr b hb).elim .inl fun h => .inr (.inr h)) hnd

/-- What is appended to a slice of one's own. -/
theorem app_view {t tx ty e : TypeId} {size bytes b n m c : Nat} {x : Value} {xs news : List Value} (hT : appT P t tx = some (e, size, bytes)) (hb : V b = some ⟨e, xs, c * size, true⟩) (hx : xs.length = n * size)
    (hs : asrc V size x = some (m, news)) (hby : (n + m) * bytes ≤ 140737488355328) (h63 : n + m ≤ 9223372036854775807)
    (h : ∀ b' c' W, (b' = b ∨ V b' = none) → n + m ≤ c' → Only [b] V W → W b' = some ⟨e, xs ++ news, c' * size, true⟩ → K (.slice (some ⟨b', 0, none⟩) (n + m) c') W) :
    aappend P #[t, tx] ty #[.slice (some ⟨b, 0, none⟩) n c, x] V K := by
  refine aappend_own hT hb hx hs hby h63 fun b' c' hb' hle => h b' c' _ ?_ hle (fun y k hy hk => ?_) (View.set_same ..)
  · by_cases e : b' = b
    · exact .inl e
    · rw [View.kill_ne _ e] at hb'; exact .inr hb'
  · have hyb : y ≠ b := fun e => hy (List.mem_singleton.2 e)
    have hyb' : y ≠ b' := fun e => by rw [← e, View.kill_ne _ hyb, hk] at hb'; cases hb'
    rw [View.set_ne _ _ hyb', View.kill_ne _ hyb]; exact hk
theorem app_nil {t tx ty e : TypeId} {size bytes m : Nat} {x : Value} {news : List Value} (hT : appT P t tx = some (e, size, bytes)) (hs : asrc V size x = some (m, news)) (hm : 0 < m) (hby : m * bytes ≤ 140737488355328) (h63 : m ≤ 9223372036854775807)
    (h : ∀ b' c' W, V b' = none → m ≤ c' → Ext V W → W b' = some ⟨e, news, c' * size, true⟩ → K (.slice (some ⟨b', 0, none⟩) m c') W) :
    aappend P #[t, tx] ty #[.slice none 0 0, x] V K := by
  refine aappend_fresh hT (olds := []) (n := 0) (m := m) (c := 0) (by simp [asrc]) hs (by omega) (by simpa using hby) (by omega) fun b' c' hb' hle => ?_
  rw [Nat.zero_add] at hle ⊢
  exact h b' c' _ hb' hle (Ext.new hb' _) (by rw [View.set_same, List.nil_append])

/-- What may be appended: elements that are read. -/
def SrcOf {α : Type} (S : Shape α) (V : View) (u : Value) (ys : List α) : Prop := ∃ cells, asrc V S.size u = some (ys.length, cells) ∧ Elems S V ys cells

theorem Sl.srcOf {α : Type} {S : Shape α} {u : Value} {ys : List α} (h : Sl S V u ys) : SrcOf S V u ys := by
  obtain ⟨h0, a, c, rfl, h2, h3⟩ := h
  cases ys with
  | nil =>
    refine ⟨[], ?_, .nil⟩
    cases a <;> simp [asrc]
  | cons y ys =>
    obtain ⟨ad, cs, rfl, hp, he⟩ := h3 (by simp)
    refine ⟨cs, ?_, he⟩
    unfold asrc
    simp only [List.length_cons] at hp ⊢
    simp [hp]
theorem Led.src1 {α : Type} {S : Shape α} (h : Led A L V) {j bl room c : Nat} {e : TypeId} {x : α} {cells : List Value} (hj : L[j]? = some (bx bl ⟨e, cells, room, true⟩)) (hx : S.rel V x cells) : SrcOf S V (.slice (some ⟨bl, 0, none⟩) 1 c) [x] := by
  refine ⟨cells, ?_, Elems.single hx⟩
  have hb : V bl = some ⟨e, cells, room, true⟩ := h.at hj
  have hl := S.len hx
  have hp := part_at (n := 1 * S.size) (off := 0) hb (by simp [hl]) (fun v hv => S.one hx v (List.mem_of_mem_drop (List.mem_of_mem_take hv)))
  unfold asrc
  simp only [Nat.one_ne_zero, if_false, List.length_singleton]
  rw [hp]
  simp [← hl]

theorem OElems.scalE {α : Type} {S : Shape α} {hS : ∀ {A B : View} {x : α} {cs : List Value}, S.rel A x cs → S.rel B x cs} {xs : List α} {cs : List Value} (h : Elems S A xs cs) : OElems (scalO S hS) B [] xs cs := by
  induction h with
  | nil => exact .nil
  | cons h1 _ ih => exact OElems.cons (O := scalO S hS) (A := B) (f := []) (fp := []) ⟨rfl, hS h1⟩ ih
theorem OElems.scalN {α : Type} {S : Shape α} {hS : ∀ {A B : View} {x : α} {cs : List Value}, S.rel A x cs → S.rel B x cs} {fp : List Nat} {xs : List α} {cs : List Value} (h : OElems (scalO S hS) A fp xs cs) : fp = [] := by
  induction h with
  | nil => rfl
  | cons h1 _ ih => rw [h1.1, ih]; rfl
/-- Kinds whose elements bear no memory. -/
class Flat {α : Type} (O : OwnS α) : Prop where
  up : ∀ {A B : View} {x : α} {cs : List Value}, O.S.rel A x cs → O.rel B [] x cs
  nil : ∀ {A : View} {fp : List Nat} {x : α} {cs : List Value}, O.rel A fp x cs → fp = []
instance {α : Type} (S : Shape α) (hS : ∀ {A B : View} {x : α} {cs : List Value}, S.rel A x cs → S.rel B x cs) : Flat (scalO S hS) := ⟨fun h => ⟨rfl, hS h⟩, fun h => h.1⟩
instance : Flat strO := ⟨fun h => ⟨rfl, h⟩, fun h => h.1⟩
instance : Flat intO := ⟨fun h => ⟨rfl, h⟩, fun h => h.1⟩
instance : Flat boolO := ⟨fun h => ⟨rfl, h⟩, fun h => h.1⟩
instance : Flat byteO := ⟨fun h => ⟨rfl, h⟩, fun h => h.1⟩
instance : Flat unitO := ⟨fun h => ⟨rfl, h⟩, fun h => h.1⟩
instance {α β : Type} (O : OwnS α) (Q : OwnS β) [Flat O] [Flat Q] : Flat (consO O Q) :=
  ⟨fun ⟨c, d, h, h1, h2⟩ => ⟨[], [], c, d, rfl, h, Flat.up h1, Flat.up h2⟩, fun ⟨f, g, c, d, hf, h, h1, h2⟩ => by rw [hf, Flat.nil h1, Flat.nil h2]; rfl⟩
theorem OElems.flatE {α : Type} {O : OwnS α} [Flat O] {xs : List α} {cs : List Value} (h : Elems O.S A xs cs) : OElems O B [] xs cs := by
  induction h with
  | nil => exact .nil
  | cons h1 _ ih => exact OElems.cons (A := B) (f := []) (fp := []) (Flat.up h1) ih
theorem OElems.flatN {α : Type} {O : OwnS α} [Flat O] {fp : List Nat} {xs : List α} {cs : List Value} (h : OElems O A fp xs cs) : fp = [] := by
  induction h with
  | nil => rfl
  | cons h1 _ ih => rw [Flat.nil h1, ih]; rfl

/-- Elements that bear no memory, appended. -/
theorem led_app {α : Type} {O : OwnS α} [Flat O] {t tx ty e : TypeId} {bytes i : Nat} {fp : List Nat} {v u : Value} {xs ys : List α} (hT : appT P t tx = some (e, O.S.size, bytes)) (hby : bytes ≤ 1024) (h : Led A L V) (hi : L[i]? = some (osl e O fp v xs))
    (hs : SrcOf O.S V u ys) (hsm : xs.length + ys.length ≤ 16777216) (hk : ∀ fp' v' W, Only fp V W → Led A (L.set i (osl e O fp' v' (xs ++ ys))) W → K v' W) : aappend P #[t, tx] ty #[v, u] V K := by
  obtain ⟨news, hsrc, hel⟩ := hs
  have hb1 : (xs.length + ys.length) * bytes ≤ 140737488355328 := by
    have := Nat.mul_le_mul hsm hby
    omega
  have hlen : (xs ++ ys).length ≤ 140737488355328 := by rw [List.length_append]; omega
  have hO : OSl e O V fp v xs := h.at hi
  obtain ⟨hl, ⟨rfl, rfl, rfl⟩ | ⟨b, c, cells, f, rfl, hc, rfl, hbk, he⟩⟩ := hO
  · by_cases hm : ys.length = 0
    · have : ys = [] := List.eq_nil_of_length_eq_zero hm
      subst this
      refine aappend_nil0 hT hsrc (hk [] _ V (Only.refl _ _) ?_)
      exact h.swap hi (Only.refl _ _) (show OSl e O V [] _ _ from ⟨by simp, .inl ⟨rfl, rfl, rfl⟩⟩) (by simp [osl]) (by simp [osl])
    · refine app_nil hT hsrc (by omega) (by simpa using hb1) (by omega) fun b' c' W hb' hle hext hw => ?_
      refine hk [b'] _ W (Only.ext hext _) (h.swap hi (Only.ext hext _) (show OSl e O W [b'] _ _ from ⟨hlen, .inr ⟨b', c', news, [], rfl, hle, rfl, hw, ?_⟩⟩) (fun x hx => ?_) (by simp [osl]))
      · exact OElems.flatE hel
      · rw [List.mem_singleton.1 hx]; exact .inr hb'
  · have hf := he.flatN
    subst hf
    refine app_view hT hbk he.len hsrc hb1 (by omega) fun b' c' W hb' hle ho hw => ?_
    have hK : Led A (L.set i (osl e O [b'] (.slice (some ⟨b', 0, none⟩) (xs.length + ys.length) c') (xs ++ ys))) W := by
      refine h.swap hi ho (show OSl e O W [b'] _ _ from ⟨hlen, .inr ⟨b', c', cells ++ news, [], by rw [List.length_append], by rw [List.length_append]; exact hle, rfl, hw, ?_⟩⟩) (fun x hx => ?_) (by simp [osl])
      · exact OElems.append (he.stay fun x k hx => by cases hx) (OElems.flatE hel) (fq := [])
      · rw [List.mem_singleton.1 hx]
        rcases hb' with rfl | hb'
        · exact .inl (List.mem_singleton.2 rfl)
        · exact .inr hb'
    exact hk [b'] _ W ho hK

/-- An element with memory of its own, appended: it stands ahead in the ledger. -/
theorem led_appO {α : Type} {O : OwnS α} {t tx ty e e' : TypeId} {bytes i bl room c0 : Nat} {fp fd : List Nat} {v : Value} {x : α} {cells : List Value} {xs : List α} (hT : appT P t tx = some (e, O.S.size, bytes)) (hby : bytes ≤ 1024)
    (h : Led A (bx bl ⟨e', cells, room, true⟩ :: oc O fd x cells :: L) V) (hi : L[i]? = some (osl e O fp v xs)) (hsm : xs.length + 1 ≤ 16777216)
    (hk : ∀ fp' v' W, Only fp V W → Led A (L.set i (osl e O fp' v' (xs ++ [x]))) W → K v' W) : aappend P #[t, tx] ty #[v, .slice (some ⟨bl, 0, none⟩) 1 c0] V K := by
  have hx : O.rel V fd x cells := h.at (i := 1) rfl
  obtain ⟨news, hsrc, hel⟩ := h.src1 (S := O.S) (j := 0) (c := c0) rfl (O.toS hx)
  replace hsrc : asrc V O.S.size (.slice (some ⟨bl, 0, none⟩) 1 c0) = some (1, news) := hsrc
  have hb : V bl = some ⟨e', cells, room, true⟩ := h.at (i := 0) rfl
  have hnc : news = cells := by
    unfold asrc at hsrc
    simp only [Nat.one_ne_zero, if_false] at hsrc
    have hl := O.S.len (O.toS hx)
    have hp := part_at (n := 1 * O.S.size) (off := 0) hb (by simp [hl]) (fun v hv => O.S.one (O.toS hx) v (List.mem_of_mem_drop (List.mem_of_mem_take hv)))
    rw [hp] at hsrc
    simp [← hl] at hsrc
    exact hsrc.symm
  subst hnc
  have hb1 : (xs.length + 1) * bytes ≤ 140737488355328 := by
    have := Nat.mul_le_mul hsm hby
    omega
  have hlen : (xs ++ [x]).length ≤ 140737488355328 := by rw [List.length_append, List.length_singleton]; omega
  have h2 : Led A (oc O fd x news :: L) V := h.tail
  have hO : OSl e O V fp v xs := h2.at (i := i + 1) (by simpa using hi)
  have hfdn : fd.Nodup := h2.nodup1 (i := 0) rfl
  have hfd : ∀ b, b ∈ fd → b ∉ fp := fun b hb => h2.dis (i := 0) (j := i + 1) rfl (by simpa using hi) (by omega) b hb
  obtain ⟨hl, ⟨rfl, rfl, rfl⟩ | ⟨b, c, old, f, rfl, hc, rfl, hbk, he⟩⟩ := hO
  · refine app_nil hT hsrc (by omega) (by simpa using hb1) (by omega) fun b' c' W hb' hle hext hw => ?_
    have hbf : b' ∉ fd := fun hm => by
      obtain ⟨k, hk⟩ := O.has hx b' hm
      rw [hb'] at hk; cases hk
    refine hk (b' :: fd) _ W (Only.ext hext _) (h2.swap2 hi (Only.ext hext _) (show OSl e O W (b' :: fd) _ _ from ⟨hlen, .inr ⟨b', c', news, fd, rfl, hle, rfl, hw, OElems.single (O.stay hx fun y k _ hy => hext y k hy)⟩⟩) (fun y hy => ?_) (List.nodup_cons.2 ⟨hbf, hfdn⟩))
    rcases List.mem_cons.1 hy with rfl | hy
    · exact .inr (.inr hb')
    · exact .inr (.inl hy)
  · have hndf : (b :: f).Nodup := h2.nodup1 (i := i + 1) (it := osl e O (b :: f) _ _) (by simpa using hi)
    have hbf := (List.nodup_cons.1 hndf).1
    refine app_view hT hbk he.len hsrc hb1 (by omega) fun b' c' W hb' hle ho hw => ?_
    have hof : ∀ y k, y ∈ f → V y = some k → W y = some k := fun y k hy hk => ho y k (fun hm => hbf (by rw [← List.mem_singleton.1 hm]; exact hy)) hk
    have hod : ∀ y k, y ∈ fd → V y = some k → W y = some k := fun y k hy hk => ho y k (fun hm => hfd y hy (by rw [List.mem_singleton.1 hm]; exact List.mem_cons_self ..)) hk
    have hb'f : b' ∉ f ++ fd := fun hm => by
      rcases hb' with rfl | hb'
      · rcases List.mem_append.1 hm with hm | hm
        · exact hbf hm
        · exact hfd b' hm (List.mem_cons_self ..)
      · rcases List.mem_append.1 hm with hm | hm
        · obtain ⟨k, hk⟩ := he.has b' hm; rw [hb'] at hk; cases hk
        · obtain ⟨k, hk⟩ := O.has hx b' hm; rw [hb'] at hk; cases hk
    refine hk (b' :: (f ++ fd)) _ W (ho.more fun y hy => by rw [List.mem_singleton.1 hy]; exact List.mem_cons_self ..) (h2.swap2 hi (ho.more fun y hy => by rw [List.mem_singleton.1 hy]; exact List.mem_append_left _ (List.mem_cons_self ..))
      (show OSl e O W (b' :: (f ++ fd)) _ _ from ⟨hlen, .inr ⟨b', c', old ++ news, f ++ fd, by simp, by simpa using hle, rfl, hw, OElems.append (he.stay hof) (OElems.single (O.stay hx hod))⟩⟩) (fun y hy => ?_) ?_)
    · rcases List.mem_cons.1 hy with rfl | hy
      · rcases hb' with rfl | hb'
        · exact .inl (List.mem_cons_self ..)
        · exact .inr (.inr hb')
      · rcases List.mem_append.1 hy with hy | hy
        · exact .inl (List.mem_cons_of_mem _ hy)
        · exact .inr (.inl hy)
    · refine List.nodup_cons.2 ⟨hb'f, List.nodup_append.2 ⟨(List.nodup_cons.1 hndf).2, hfdn, fun y hy z hz e => hfd z hz (by rw [← e]; exact List.mem_cons_of_mem _ hy)⟩⟩

/-- A slice of one's own whose elements are read as they were known in an older view. -/
def RSl {α : Type} (e : TypeId) (S : Shape α) (B V : View) (fp : List Nat) (v : Value) (xs : List α) : Prop :=
  xs.length ≤ 140737488355328 ∧ ((v = .slice none 0 0 ∧ xs = [] ∧ fp = []) ∨
    ∃ b c cells, v = .slice (some ⟨b, 0, none⟩) xs.length c ∧ xs.length ≤ c ∧ fp = [b] ∧ V b = some ⟨e, cells, c * S.size, true⟩ ∧ Elems S B xs cells)
def rsl {α : Type} (e : TypeId) (S : Shape α) (B : View) (fp : List Nat) (v : Value) (xs : List α) : It := ⟨fp, fun V => RSl e S B V fp v xs, fun h hs => by
  obtain ⟨hl, ⟨rfl, rfl, rfl⟩ | ⟨b, c, cells, rfl, hc, rfl, hb, he⟩⟩ := h
  · exact ⟨hl, .inl ⟨rfl, rfl, rfl⟩⟩
  · exact ⟨hl, .inr ⟨b, c, cells, rfl, hc, rfl, hs b _ (List.mem_singleton.2 rfl) hb, he⟩⟩, fun h b hb => by
  obtain ⟨hl, ⟨rfl, rfl, rfl⟩ | ⟨b', c, cells, rfl, hc, rfl, hb', he⟩⟩ := h
  · cases hb
  · rw [List.mem_singleton.1 hb]; exact ⟨_, hb'⟩⟩
theorem RSl.toS {α : Type} {e : TypeId} {S : Shape α} {fp : List Nat} {v : Value} {xs : List α} (h : RSl e S B V fp v xs) (hx : Ext B V) : Sl S V v xs := by
  obtain ⟨hl, ⟨rfl, rfl, rfl⟩ | ⟨b, c, cells, rfl, hc, rfl, hb, he⟩⟩ := h
  · exact Sl.nil _ _
  · refine ⟨hl, _, c, rfl, hc, fun _ => ⟨_, cells, rfl, ?_, he.mono hx⟩⟩
    rw [part_at hb (by simp [he.len]) (fun v hv => he.one v (List.mem_of_mem_drop (List.mem_of_mem_take hv)))]
    simp [List.take_of_length_le, he.len]
/-- Elements that are read, appended. -/
theorem led_appR {α : Type} {S : Shape α} {t tx ty e : TypeId} {bytes i : Nat} {fp : List Nat} {v u : Value} {xs ys : List α} {news : List Value} (hT : appT P t tx = some (e, S.size, bytes)) (hby : bytes ≤ 1024) (h : Led A L V) (hi : L[i]? = some (rsl e S B fp v xs))
    (hsrc : asrc V S.size u = some (ys.length, news)) (hel : Elems S B ys news) (hsm : xs.length + ys.length ≤ 16777216) (hk : ∀ fp' v' W, Only fp V W → Led A (L.set i (rsl e S B fp' v' (xs ++ ys))) W → K v' W) : aappend P #[t, tx] ty #[v, u] V K := by
  have hb1 : (xs.length + ys.length) * bytes ≤ 140737488355328 := by
    have := Nat.mul_le_mul hsm hby
    omega
  have hlen : (xs ++ ys).length ≤ 140737488355328 := by rw [List.length_append]; omega
  have hO : RSl e S B V fp v xs := h.at hi
  obtain ⟨hl, ⟨rfl, rfl, rfl⟩ | ⟨b, c, cells, rfl, hc, rfl, hbk, he⟩⟩ := hO
  · by_cases hm : ys.length = 0
    · have : ys = [] := List.eq_nil_of_length_eq_zero hm
      subst this
      refine aappend_nil0 hT hsrc (hk [] _ V (Only.refl _ _) ?_)
      exact h.swap hi (Only.refl _ _) (show RSl e S B V [] _ _ from ⟨by simp, .inl ⟨rfl, rfl, rfl⟩⟩) (by simp [rsl]) (by simp [rsl])
    · refine app_nil hT hsrc (by omega) (by simpa using hb1) (by omega) fun b' c' W hb' hle hext hw => ?_
      refine hk [b'] _ W (Only.ext hext _) (h.swap hi (Only.ext hext _) (show RSl e S B W [b'] _ _ from ⟨hlen, .inr ⟨b', c', news, rfl, hle, rfl, hw, hel⟩⟩) (fun x hx => ?_) (by simp [rsl]))
      rw [List.mem_singleton.1 hx]; exact .inr hb'
  · refine app_view hT hbk he.len hsrc hb1 (by omega) fun b' c' W hb' hle ho hw => ?_
    have hK : Led A (L.set i (rsl e S B [b'] (.slice (some ⟨b', 0, none⟩) (xs.length + ys.length) c') (xs ++ ys))) W := by
      refine h.swap hi ho (show RSl e S B W [b'] _ _ from ⟨hlen, .inr ⟨b', c', cells ++ news, by rw [List.length_append], by rw [List.length_append]; exact hle, rfl, hw, he.append hel⟩⟩) (fun x hx => ?_) (by simp [rsl])
      rw [List.mem_singleton.1 hx]
      rcases hb' with rfl | hb'
      · exact .inl (List.mem_singleton.2 rfl)
      · exact .inr hb'
    exact hk [b'] _ W ho hK

/-- Cells of a block of one's own, cleared. -/
theorem aclear_at {t e : TypeId} {ty : TypeId} {bytes n b o c : Nat} {z : List Value} {k : Blk} (hT : makeT P t = some (e, bytes, z)) (hb : V b = some k) (hown : k.own = true) (hn : 0 < n) (hfit : o + n * z.length ≤ k.cells.length)
    (hk : ∀ zs, zs.length = n * z.length → K (.tuple #[]) (V.set b ⟨k.ty, k.cells.take o ++ zs ++ k.cells.drop (o + n * z.length), k.room, true⟩)) : aclear P #[t] ty #[.slice (some ⟨b, o, none⟩) n c] V K := by
  intro w hw
  unfold makeT at hT
  split at hT
  · rename_i e' hu
    split at hT
    · rename_i i hi
      split at hT
      · rename_i z' hz
        split at hT
        · rename_i hc
          simp at hT
          obtain ⟨rfl, rfl, rfl⟩ := hT
          obtain ⟨⟨cur, fz, hcell, hcs, hl, htk, hf⟩, hone⟩ := hw _ _ hb
          have hone := hone hown
          obtain rfl := hf hown
          have hzl : (Builtin.zeroCells z'.cells n).toList.length = n * z'.cells.toList.length := by rw [Array.length_toList, size_zeroCells, Array.length_toList]
          have hz1 := zeroCells_one (P := P) (i := i) z'.cells n (by rw [← Array.all_toList]; exact hc.2)
          simp only [Array.length_toList] at hfit hk hzl
          have hrun := run_storeCells_at (P := P) b o k.ty (Builtin.zeroCells z'.cells n).toList 0 cur w hcell (by rw [Array.length_toList, size_zeroCells]; omega) hz1
          simp only [Nat.add_zero] at hrun
          have hget : ∀ j, j < k.cells.length → cur.toList[j]? = k.cells[j]? := fun j hj => by rw [← htk, List.getElem?_take, if_pos (by simpa using hj)]
          have hzl' : (Builtin.zeroCells z'.cells n).toList.length = n * z'.cells.size := hzl
          generalize hzs : (Builtin.zeroCells z'.cells n).toList = zs at *
          have hw1 := hw.write (c' := (cur.toList.take o ++ zs ++ cur.toList.drop (o + zs.length)).toArray) (cs := k.cells.take o ++ zs ++ k.cells.drop (o + n * z'.cells.size)) hb hown (by simp; omega) (by simp; omega) (by
            apply List.ext_getElem?
            intro j
            simp only [List.getElem?_take, List.length_append, List.length_take, List.length_drop, List.getElem?_append, List.getElem?_drop, Array.length_toList]
            by_cases hj : j < k.cells.length
            · have h1 := hget j hj
              have h2 := fun (hh : ¬ j < o + zs.length) => hget (o + zs.length + (j - (o + zs.length))) (by omega)
              rw [if_pos (by omega), Nat.min_eq_left (by omega), Nat.min_eq_left (by omega)]
              split
              · split
                · first | exact h1 | (rw [if_pos (by omega)]; exact h1)
                · rfl
              · rename_i hh
                rw [h2 hh, hzl']
            · rw [if_neg (by omega), if_neg (by omega), List.getElem?_eq_none (by omega)]) (fun u hu => by
            simp only [List.mem_append] at hu
            rcases hu with (h | h) | h
            · exact hone u (List.mem_of_mem_take h)
            · exact hz1 u h
            · exact hone u (List.mem_of_mem_drop h))
          refine ⟨_, _, _, ?_, hk zs hzl', hw1.1, hw1.2⟩
          obtain ⟨n', rfl⟩ : ∃ n', n = n' + 1 := ⟨n - 1, by omega⟩
          simp only [Builtin.clear_, List.getElem?_toArray, List.getElem?_cons_zero, Sem.run_bind, run_underlying hu, Result.andThen, zeroValue, typeInfo, hi, hz, Sem.run_pure, hzs]
          simp [hi, hz, Result.andThen, hzs, hrun]
        · simp at hT
      · simp at hT
    · simp at hT
  · simp at hT

/-- One cell of an element of a slice of one's own is written. -/
theorem led_setfield {α : Type} {O : OwnS α} [Flat O] {t e : TypeId} {i k j b c o : Nat} {fp : List Nat} {xs : List α} {val : Value} {x' : α} (h : Led A L V) (hi : L[i]? = some (osl e O fp (.slice (some ⟨b, 0, none⟩) xs.length c) xs)) (hk : k < xs.length) (hs : (P.info? t).map (·.size) = some 1)
    (ho : o = k * O.S.size + j) (hv : val.cells = #[val] ∧ val.oneCell' = true) (hx : ∀ d, O.S.rel V xs[k] d → j < d.length ∧ O.S.rel V x' (d.set j val))
    (hK : ∀ W, Only fp V W → Led A (L.set i (osl e O fp (.slice (some ⟨b, 0, none⟩) xs.length c) (xs.set k x'))) W → K undef W) : astore P t (.pointer (some ⟨b, o, none⟩)) val V K := by
  have hO : OSl e O V fp (.slice (some ⟨b, 0, none⟩) xs.length c) xs := h.at hi
  obtain ⟨hl, ⟨hq, _⟩ | ⟨b', c', cells, f, hq, hc, rfl, hbk, he⟩⟩ := hO
  · cases hq
  · injection hq with hq1 hq2 hq3
    injection hq1 with hq1
    injection hq1 with hq1
    subst hq1; subst hq3
    obtain rfl := he.flatN
    obtain ⟨f1, f2, f3, c1, c2, c3, hf, rfl, hc1, h1, h2, h3⟩ := he.at hk
    obtain ⟨hj, hx'⟩ := hx c2 (O.toS h2)
    have hcv : val.cells.toList = [val] := by rw [hv.1]
    subst ho
    rw [← hc1]
    have e1 : (c1 ++ (c2 ++ c3)).take (c1.length + j) ++ val.cells.toList ++ (c1 ++ (c2 ++ c3)).drop (c1.length + j + 1) = c1 ++ (c2.set j val ++ c3) := by
      rw [hcv, List.take_append, List.take_of_length_le (by omega), Nat.add_sub_cancel_left, List.take_append_of_le_length (by omega), Nat.add_assoc, ← List.drop_drop, List.drop_left' rfl, List.drop_append_of_le_length (by omega), List.set_eq_take_append_cons_drop, if_pos hj]
      simp only [List.append_assoc, List.cons_append, List.nil_append]
    rw [astore_at, storev_set hs (k := ⟨e, c1 ++ (c2 ++ c3), c * O.S.size, true⟩) hbk rfl rfl (by rw [hv.1]; rfl) (by simp; omega) (by rw [hcv]; simpa using hv.2)]
    show K undef _
    simp only [e1]
    have hset := List.set_eq_take_append_cons_drop (l := xs) (i := k) (a := x')
    rw [if_pos hk] at hset
    refine hK _ (Only.set _ (List.mem_cons_self ..)) (h.upd hi rfl (Only.set _ (List.mem_cons_self ..)) (show OSl e O _ [b] _ _ from ⟨by simpa using hl, .inr ⟨b, c, _, [], by simp, by simpa using hc, rfl, View.set_same .., ?_⟩⟩))
    rw [hset]
    have g1 : OElems O (V.set b ⟨e, c1 ++ (c2.set j val ++ c3), c * O.S.size, true⟩) [] (xs.take k) c1 := OElems.flatE h1.toS
    have g2 : OElems O (V.set b ⟨e, c1 ++ (c2.set j val ++ c3), c * O.S.size, true⟩) [] (x' :: xs.drop (k + 1)) (c2.set j val ++ c3) := OElems.cons (f := []) (fp := []) (Flat.up hx') (OElems.flatE h3.toS)
    exact OElems.append (fp := []) (fq := []) g1 g2

/-! ### literals -/
theorem led_lit {t e : TypeId} {size n : Nat} {ps : Array (Nat × Value)} (ht : litT P t = some (e, size)) (hn : n * size ≤ 16777216) (hf : ps.toList.map (·.1) = List.range' 0 n) (hs : ∀ p ∈ ps.toList, p.2.cells.size = size ∧ p.2.cells.toList.all (·.oneCell') = true)
    (h : Led A L V) (hk : ∀ b W, Ext V W → Led A (bx b ⟨e, ps.toList.flatMap (·.2.cells.toList), n * size, true⟩ :: L) W → K (.slice (some ⟨b, 0, none⟩) n n) W) : alit P t n ps V K :=
  alit_at ht hn hf hs fun b hb => hk b _ (Ext.new hb _) (h.cons (Ext.new hb _) (bx b _) (View.set_same ..) (fun x hx => by rw [List.mem_singleton.1 hx]; exact hb) (by simp [bx]))
theorem led_lit0 {α : Type} {O : OwnS α} {t e : TypeId} (ht : litT P t = some (e, O.S.size)) (h : Led A L V) (hk : ∀ b W, Ext V W → Led A (osl e O [b] (.slice (some ⟨b, 0, none⟩) 0 0) ([] : List α) :: L) W → K (.slice (some ⟨b, 0, none⟩) 0 0) W) : alit P t 0 #[] V K :=
  led_lit ht (by simp) rfl (by simp) h fun b W he l => hk b W he (by
    refine l.swap (i := 0) rfl (Only.refl _ _) (show OSl e O W [b] _ _ from ⟨by simp, .inr ⟨b, 0, [], [], rfl, Nat.le_refl _, rfl, ?_, .nil⟩⟩) (fun x hx => .inl hx) (by simp [osl])
    exact l.at (i := 0) rfl)
theorem led_lit0R {α : Type} {S : Shape α} {t e : TypeId} (B : View) (ht : litT P t = some (e, S.size)) (h : Led A L V) (hk : ∀ b W, Ext V W → Led A (rsl e S B [b] (.slice (some ⟨b, 0, none⟩) 0 0) ([] : List α) :: L) W → K (.slice (some ⟨b, 0, none⟩) 0 0) W) : alit P t 0 #[] V K :=
  led_lit ht (by simp) rfl (by simp) h fun b W he l => hk b W he (by
    refine l.swap (i := 0) rfl (Only.refl _ _) (show RSl e S B W [b] _ _ from ⟨by simp, .inr ⟨b, 0, [], rfl, Nat.le_refl _, rfl, ?_, .nil⟩⟩) (fun x hx => .inl hx) (by simp [rsl])
    exact l.at (i := 0) rfl)
/-- nil, as a slice of one's own. -/
theorem Led.nilO {α : Type} (e : TypeId) (O : OwnS α) (h : Led A L V) : Led A (osl e O [] (.slice none 0 0) ([] : List α) :: L) V := h.cons (Ext.refl _) _ (show OSl e O V [] _ _ from ⟨by simp, .inl ⟨rfl, rfl, rfl⟩⟩) (fun b hb => by cases hb) List.nodup_nil
theorem Led.nilR {α : Type} (e : TypeId) (S : Shape α) (B : View) (h : Led A L V) : Led A (rsl e S B [] (.slice none 0 0) ([] : List α) :: L) V := h.cons (Ext.refl _) _ (show RSl e S B V [] _ _ from ⟨by simp, .inl ⟨rfl, rfl, rfl⟩⟩) (fun b hb => by cases hb) List.nodup_nil

/-- A slice of one's own that came of a call, as an item. -/
theorem Led.one {α : Type} {e : TypeId} {O : OwnS α} {fp : List Nat} {v : Value} {xs : List α} (h : OSl e O V fp v xs) (he : Ext A V) (hn : ∀ b, b ∈ fp → A b = none) (hd : fp.Nodup) : Led A [osl e O fp v xs] V := (Led.nil A).cons he (osl e O fp v xs) h hn hd
end

end Go.Proofs.Ytggklaimbklefaa

/- Function values that tell whether something holds; small contracts. -/
set_option maxHeartbeats 4000000
set_option synthInstance.maxHeartbeats 400000
set_option synthInstance.maxSize 4096
set_option linter.unusedSimpArgs false
set_option linter.unusedVariables false
namespace Go.Proofs.Ytggklaimbklefaa

set_option maxRecDepth 100000

/-- A function value that tells of data whether something holds, and changes nothing that is known. -/
def Tells {α : Type} (A : View) (f : Value) (rel : View → Value → α → Prop) (p : α → Bool) : Prop := ∃ g first cap, f = .func (.func g) first cap ∧ callable Try.prog g = true ∧ ∀ B, Ext A B → ∀ v x, rel B v x → ACalls Try.prog g (first ++ #[v] ++ cap) B fun r B' => r = .bool (p x) ∧ Ext B B'

/-- A struct as a value. -/
def agR {α : Type} (S : Shape α) : View → Value → α → Prop := fun B v x => ∃ d, v = .agg d.toArray ∧ S.rel B x d
def slR {α : Type} (S : Shape α) : View → Value → List α → Prop := fun B v x => Sl S B v x

/-- A slice of one's own that came of a call. -/
def NewSl {α : Type} (e : TypeId) (O : OwnS α) (A : View) (r : Value) (A' : View) (xs : List α) : Prop := ∃ fp, Led A [osl e O fp r xs] A'
theorem NewSl.out {α : Type} {e : TypeId} {O : OwnS α} {A A' : View} {r : Value} {xs : List α} (h : NewSl e O A r A' xs) : ∃ (f0 : List Nat) (u0 : Value), r = u0 ∧ Led A [osl e O f0 u0 xs] A' := let ⟨fp, h⟩ := h; ⟨fp, r, rfl, h⟩
theorem NewSl.nil {α : Type} {e : TypeId} {O : OwnS α} {A A' : View} (h : Ext A A') : NewSl e O A (.slice none 0 0) A' ([] : List α) := ⟨[], (Led.nilO e O (Led.nil A')).base h⟩
theorem NewSl.of {α : Type} {e : TypeId} {O : OwnS α} {A A' : View} {r : Value} {xs : List α} {L : List It} {fp : List Nat} (h : Led A L A') {i : Nat} (hi : L[i]? = some (osl e O fp r xs)) : NewSl e O A r A' xs :=
  ⟨fp, (h.sub (M := [osl e O fp r xs]) (by
    have hlt := (List.getElem?_eq_some_iff.1 hi).1
    have := (List.getElem?_eq_some_iff.1 hi).2
    rw [← this]
    exact List.singleton_sublist.2 (List.getElem_mem hlt)))⟩
theorem NewSl.ext {α : Type} {e : TypeId} {O : OwnS α} {A A' : View} {r : Value} {xs : List α} (h : NewSl e O A r A' xs) : Ext A A' := let ⟨_, h⟩ := h; h.ext
theorem NewSl.sl {α : Type} {e : TypeId} {O : OwnS α} {A A' : View} {r : Value} {xs : List α} (h : NewSl e O A r A' xs) : Sl O.S A' r xs := let ⟨_, h⟩ := h; OSl.toS (h.at (i := 0) rfl)
theorem NewSl.base {α : Type} {e : TypeId} {O : OwnS α} {A B A' : View} {r : Value} {xs : List α} (h : NewSl e O B r A' xs) (he : Ext A B) : NewSl e O A r A' xs := let ⟨fp, h⟩ := h; ⟨fp, h.base he⟩

theorem idxI_lt {α : Type} {p : α → Bool} {xs : List α} (h : 0 ≤ idxI p xs) : ∃ i : Nat, idxI p xs = i ∧ ∃ hi : i < xs.length, p xs[i] = true ∧ xs.find? p = some xs[i] := by
  rw [idxI_ge] at h
  have hlt := List.findIdx_lt_length.2 (List.any_eq_true.1 h)
  refine ⟨xs.findIdx p, by unfold idxI; rw [if_pos h], hlt, List.findIdx_getElem (w := hlt), ?_⟩
  rw [List.find?_eq_some_iff_getElem]
  exact ⟨List.findIdx_getElem (w := hlt), _, hlt, rfl, fun j hj => by simpa using List.not_of_lt_findIdx hj⟩
theorem idxI_no {α : Type} {p : α → Bool} {xs : List α} (h : ¬ 0 ≤ idxI p xs) : xs.any p = false ∧ idxI p xs = -1 ∧ xs.find? p = none := by
  rw [idxI_ge] at h
  have h0 : xs.any p = false := by simpa using h
  refine ⟨h0, by unfold idxI; rw [if_neg h], ?_⟩
  rw [List.find?_eq_none]
  intro x hx hp
  exact h (List.any_eq_true.2 ⟨x, hx, hp⟩)

theorem Led.perm {A V : View} {L M : List It} (h : Led A L V) (hp : M.Perm L) : Led A M V :=
  h.pick M (fun it hit => hp.mem_iff.1 hit) ((List.Perm.nodup_iff (hp.flatMap_right It.fp)).2 h.nd)

/-- One text stands before another one. -/
def sLt (a b : ByteArray) : Bool := Op.bytesLess a.toList b.toList

section
variable {P : Program} {A : View} {K : Value → View → Prop}
theorem abin_lts (t : TypeId) (x y : Operand) (a b : ByteArray) : abin P .lss t x y (.string a) (.string b) A K = K (.bool (sLt a b)) A := rfl
theorem abin_les (t : TypeId) (x y : Operand) (a b : ByteArray) : abin P .leq t x y (.string a) (.string b) A K = K (.bool (sLt a b || decide (a = b))) A := by
  rw [← bytes_eq]; rfl
end

end Go.Proofs.Ytggklaimbklefaa

/- Pointers compared and turned, bytes that become a text: the operations behind strings.Builder. -/
set_option maxHeartbeats 4000000
set_option synthInstance.maxHeartbeats 400000
set_option synthInstance.maxSize 4096
set_option linter.unusedSimpArgs false
set_option linter.unusedVariables false
namespace Go.Proofs.Ytggklaimbklefaa

set_option maxRecDepth 100000

section
variable {P : Program} {A V : View} {K : Value → View → Prop}

theorem sawp_bindB {α β : Type} (s : Sem α) (f : α → Sem β) (K : β → View → Prop) : sawp P (s >>= f) K A = sawp P s (fun a A => sawp P (f a) K A) A := sawp_bind ..

/-- A type of pointers to what takes memory. -/
def isPtrT (P : Program) (t : TypeId) : Bool := match P.underlying t with
  | some (.pointer e) => (match (P.info? e).map (·.size) with
    | some n => decide (n ≠ 0)
    | none => false)
  | _ => false

theorem isPtrT_spec {t : TypeId} (h : isPtrT P t = true) : ∃ e n, P.underlying t = some (.pointer e) ∧ (P.info? e).map (·.size) = some n ∧ n ≠ 0 := by
  unfold isPtrT at h
  split at h
  · rename_i e hu
    split at h
    · rename_i n hn
      exact ⟨e, n, hu, hn, of_decide_eq_true h⟩
    · cases h
  · cases h

theorem sawp_ptrEq {t : TypeId} (h : isPtrT P t = true) (a b : Option Addr) (hn : a = none ∨ b = none ∨ a = b) (J : Bool → View → Prop) : sawp P (Op.equalIn 10000 t (.pointer a) (.pointer b)) J A = J (decide (a = b)) A := by
  obtain ⟨e, n, hu, hs, h0⟩ := isPtrT_spec h
  unfold Op.equalIn
  rw [sawp_underlying hu]
  cases a with
  | none => cases b <;> rfl
  | some a =>
    cases b with
    | none => rfl
    | some b =>
      have e : a = b := by simpa using hn
      subst e
      show sawp P (sizeOf _ >>= _) J A = _
      rw [sawp_sizeOf hs, if_pos h0]
      show sawp P (if (a.block == a.block) = true then _ else _) J A = _
      rw [if_pos (beq_self_eq_true _)]
      show J (a == a) A = _
      rw [beq_self_eq_true, decide_eq_true rfl]

theorem abin_ptr {t : TypeId} (h : isPtrT P t = true) (x y : Operand) (a b : Option Addr) (hn : a = none ∨ b = none ∨ a = b) :
    abin P .eql t x y (.pointer a) (.pointer b) A K = K (.bool (decide (a = b))) A ∧ abin P .neq t x y (.pointer a) (.pointer b) A K = K (.bool (!decide (a = b))) A := by
  constructor
  all_goals
    unfold abin
    show sawp P (Sem.bind (.pure ()) _) K A = _
    simp only [Sem.bind]
    show sawp P (Sem.bind (Op.equalIn 10000 t (.pointer a) (.pointer b)) _) K A = _
    rw [sawp_bind, sawp_ptrEq h a b hn]
    rfl

theorem all_same {p : Prop} (r : Nat) : (∀ n, r ≤ n → p) = p := propext ⟨fun h => h r (Nat.le_refl _), fun h _ _ => h⟩

theorem sawp_shapeB {α : Type} {b : Nat} {k : Blk} (hb : A b = some k) (f : Option (TypeId × Nat) → Sem α) (J : α → View → Prop) : sawp P (shape b >>= f) J A = ∀ n, k.room ≤ n → sawp P (f (some (k.ty, n))) J A := by
  show sawp P (Sem.bind (Sem.shape b Sem.pure) f) J A = _
  rw [sawp_bind]
  simp only [sawp, hb]
theorem sawp_viewAt {α : Type} {b : Nat} {k : Blk} (hb : A b = some k) (f : Option (Addr × TypeId) → Sem α) (J : α → View → Prop) : sawp P (viewAt b >>= f) J A = sawp P (f none) J A := by
  unfold viewAt
  rw [sawp_bindB, sawp_shapeB hb]
  refine Eq.trans (forall_congr fun m => forall_congr fun hm => ?_) (all_same k.room)
  rfl
theorem sawp_cellsIn {α : Type} {b : Nat} {k : Blk} (hb : A b = some k) (f : Option Nat → Sem α) (J : α → View → Prop) : sawp P (cellsIn b >>= f) J A = ∀ n, k.room ≤ n → sawp P (f (some n)) J A := by
  unfold cellsIn
  rw [sawp_bindB, sawp_shapeB hb]
  rfl
theorem sawp_seenAt {α : Type} {a : Addr} {k : Blk} (hb : A a.block = some k) (f : Addr → Sem α) (J : α → View → Prop) : sawp P (Conv.seenAt a >>= f) J A = sawp P (f a) J A := by
  unfold Conv.seenAt
  rw [sawp_bindB, sawp_viewAt hb]
  rfl

/-- A pointer without its type. -/
theorem aconv_to {src dst t : TypeId} {n b : Nat} {k : Blk} (hs : P.underlying src = some (.pointer t)) (hd : P.underlying dst = some .unsafePointer) (ht : (P.info? t).map (·.size) = some n) (h0 : n ≠ 0) (hb : A b = some k) (hr : 0 < k.room) :
    aconv P src dst (.pointer (some ⟨b, 0, none⟩)) A K = K (.pointer (some ⟨b, 0, none⟩)) A := by
  unfold aconv convert
  rw [sawp_underlying hs, sawp_underlying hd]
  show sawp P (Conv.unsafePointer src dst _) K A = _
  unfold Conv.unsafePointer
  rw [sawp_underlying hs, sawp_underlying hd]
  dsimp only
  rw [sawp_seenAt (k := k) hb, sawp_cellsIn hb]
  refine Eq.trans (forall_congr fun m => forall_congr fun hm => ?_) (all_same k.room)
  rw [sawp_sizeOf ht]
  have h1 : (decide (0 ≥ m) && (none : Option Nat).isNone) = false := by
    have : ¬ 0 ≥ m := by omega
    simp [this]
  have h2 : (decide (n = 0) || (decide (0 ≥ m) && (none : Option Nat).isNone)) = false := by rw [h1]; simp [h0]
  show sawp P (if (decide (n = 0) || (decide (0 ≥ m) && (none : Option Nat).isNone)) = true then _ else _) K A = _
  rw [h2]
  rfl

/-- A pointer gets a type, where such a variable lies. -/
theorem aconv_from {src dst u : TypeId} {n b : Nat} {k : Blk} (hs : P.underlying src = some .unsafePointer) (hd : P.underlying dst = some (.pointer u)) (hu : (P.info? u).map (·.size) = some n) (h0 : n ≠ 0) (hb : A b = some k)
    (hl : ∀ m, k.room ≤ m → liesAt P P.depth k.ty (m / P.cellsOf k.ty) 0 u 1 = true) :
    aconv P src dst (.pointer (some ⟨b, 0, none⟩)) A K = K (.pointer (some ⟨b, 0, none⟩)) A := by
  unfold aconv convert
  rw [sawp_underlying hs, sawp_underlying hd]
  show sawp P (Conv.unsafePointer src dst _) K A = _
  unfold Conv.unsafePointer
  rw [sawp_underlying hs, sawp_underlying hd]
  dsimp only
  rw [sawp_seenAt (k := k) hb, sawp_sizeOf hu]
  unfold variablesAt
  show sawp P (Sem.bind (Sem.program Sem.pure) _ >>= _) K A = _
  rw [sawp_bindB]
  show sawp P (shape b >>= _) _ A = _
  rw [sawp_shapeB hb]
  refine Eq.trans (forall_congr fun m => forall_congr fun hm => ?_) (all_same k.room)
  show sawp P (if (decide (n = 0) || liesAt P P.depth k.ty (m / P.cellsOf k.ty) 0 u 1) = true then _ else _) K A = _
  rw [hl m hm, Bool.or_true, if_pos rfl]
  rfl

/-- Where a slice begins. -/
theorem abuiltin_sdata (ts : Array TypeId) (ty : TypeId) (cs : Array Bool) (a : Addr) (n c : Nat) (hc : c ≠ 0) : abuiltin P .unsafeSliceData ts ty cs #[.slice (some a) n c] A K = K (.pointer (some a)) A := by
  obtain ⟨c, rfl⟩ : ∃ d, c = d + 1 := ⟨c - 1, by omega⟩
  exact Eq.trans (sawp_value _) rfl
theorem abuiltin_sdata0 (ts : Array TypeId) (ty : TypeId) (cs : Array Bool) (n c : Nat) : abuiltin P .unsafeSliceData ts ty cs #[.slice none n c] A K = K (.pointer none) A := Eq.trans (sawp_value _) rfl

theorem sawp_loadBytes : ∀ (l : List UInt8) (a : Addr) (acc : ByteArray) (J : ByteArray → View → Prop), (∀ j x, l[j]? = some x → A.cell (a.add j) = some (.int .u8 x.toNat)) → sawp P (loadBytes a acc l.length) J A = J ⟨acc.data ++ l.toArray⟩ A
  | [], a, acc, J, _ => by
    show J acc A = _
    simp
  | x :: l, a, acc, J, h => by
    have h0 : A.cell a = some (.int .u8 x.toNat) := by
      have := h 0 x rfl
      simpa [Addr.add] using this
    have ih := sawp_loadBytes l (a.add 1) (acc.push x) J (fun j y hy => by
      have := h (j + 1) y (by simpa using hy)
      have e : (a.add 1).add j = a.add (j + 1) := by
        unfold Addr.add
        by_cases hj : j = 0
        · subst hj; simp
        · simp [hj]; omega
      rw [e]; exact this)
    have hx : ((x.toNat : Int).toNat).toUInt8 = x := by simp
    rw [List.length_cons]
    unfold loadBytes
    show sawp P (Sem.bind (load a) _) J A = _
    rw [sawp_bind]
    unfold load
    simp only [sawp, h0]
    rw [hx, ih]
    congr 1
    apply ByteArray.ext
    simp [ByteArray.push]

theorem part_byte {b : Nat} {l : List UInt8} {e : TypeId} {room : Nat} {own : Bool} (hb : A b = some ⟨e, Go.Lib.byteCells l, room, own⟩) : ∀ j x, l[j]? = some x → A.cell ((⟨b, 0, none⟩ : Addr).add j) = some (.int .u8 x.toNat) := by
  intro j x hj
  have hc : (Go.Lib.byteCells l)[j]? = some (.int .u8 x.toNat) := by
    unfold Go.Lib.byteCells
    rw [List.getElem?_map, hj]
    rfl
  unfold Addr.add
  split
  · rename_i h
    subst h
    exact View.cell_mk rfl hb hc rfl
  · exact View.cell_mk rfl hb (by simpa using hc) rfl

/-- The text of no bytes. -/
theorem abuiltin_ustr0 (pt it ty : TypeId) (cs : Array Bool) (p : Option Addr) : abuiltin P .unsafeString #[pt, it] ty cs #[.pointer p, .int .i64 0] A K = K (.string ⟨#[]⟩) A := by
  refine (sawp_value _).trans ?_
  cases p with
  | none => rfl
  | some a => rfl
/-- .. and of a row of bytes, which is read alone from then on. -/
theorem abuiltin_ustr {pt it ty e : TypeId} (cs : Array Bool) {b room : Nat} {l : List UInt8} (hp : P.underlying pt = some (.pointer e)) (hc : P.cellsOf e = 1) (h0 : l ≠ []) (hb : A b = some ⟨e, Go.Lib.byteCells l, room, true⟩) (hr : l.length ≤ room) (h63 : l.length ≤ 9223372036854775807) :
    abuiltin P .unsafeString #[pt, it] ty cs #[.pointer (some ⟨b, 0, none⟩), .int .i64 l.length] A K = K (.string ⟨l.toArray⟩) (A.set b ⟨e, Go.Lib.byteCells l, room, false⟩) := by
  refine (sawp_value _).trans ?_
  have hl : (l.length : Int) ≠ 0 := by
    have : l.length ≠ 0 := by simpa using h0
    omega
  have hmax : IntKind.i64.max = 9223372036854775807 := rfl
  have e1 : ¬ (l.length : Int) < 0 := by omega
  have e2 : ¬ (9223372036854775807 : Int) < (l.length : Int) := by omega
  unfold Builtin.unsafeString_
  change sawp P (Sem.bind (Sem.pure (l.length : Int)) _) K A = _
  simp only [Sem.bind, List.getElem?_toArray, List.getElem?_cons_zero, if_neg e1, hmax, gt_iff_lt, if_neg e2, if_neg hl, Int.toNat_natCast]
  unfold elemOf
  show sawp P ((underlying pt >>= _) >>= _) K A = _
  rw [sawp_bindB, sawp_underlying hp]
  unfold variablesAt
  show sawp P (shape b >>= _ >>= _) K A = _
  rw [sawp_bindB, sawp_shapeB hb]
  refine Eq.trans (forall_congr fun m => forall_congr fun hm => ?_) (all_same room)
  show sawp P (if liesAt P P.depth e (m / P.cellsOf e) 0 e l.length = true then _ else _) K A = _
  rw [if_pos (Go.Lib.liesAt_bytes hc _ _ (by rw [hc, Nat.div_one]; exact Nat.le_trans hr hm)), sawp_bindB, sawp_loadBytes l _ _ _ (part_byte hb)]
  show sawp P (Sem.bind (Sem.freeze ⟨b, 0, none⟩ l.length (.pure ())) _) K A = _
  simp only [Sem.bind, sawp, hb, true_and]
  show K (.string ⟨ByteArray.empty.data ++ l.toArray⟩) _ = _
  congr 2
  apply ByteArray.ext
  show #[] ++ l.toArray = _
  rw [Array.empty_append]
end

end Go.Proofs.Ytggklaimbklefaa

/- Large regions, step by step. -/
set_option maxHeartbeats 4000000
set_option synthInstance.maxHeartbeats 400000
set_option synthInstance.maxSize 4096
set_option linter.unusedSimpArgs false
set_option linter.unusedVariables false
namespace Go.Proofs.Ytggklaimbklefaa

set_option maxRecDepth 100000

def anilV (P : Program) (v : Value) (A : View) (K : Value → View → Prop) : Prop := sawp P (execOp (fun _ => v) ⟨none, .nilCheck (.tmp 0), 0, "", #[], none⟩) (nextK P K) A
theorem aop_nilV {P : Program} {A : View} {K : Value → View → Prop} {d : Option Tmp} {ty : TypeId} {ps : String} {af : Array Edge} {g : Option (Nat × Bool)} {ρ : Operand → Value} (x : Operand) : aop P ⟨d, .nilCheck x, ty, ps, af, g⟩ ρ A K = anilV P (ρ x) A K := Eq.trans rfl rfl
@[congr] theorem anilV_congr {P : Program} {A : View} {K : Value → View → Prop} {v v' : Value} (h1 : Mark v = v') : anilV P v A K = anilV P v' A K := by rw [← h1, mark_eq]
theorem anilV_ptr {P : Program} {A : View} {K : Value → View → Prop} (a : Addr) : anilV P (.pointer (some a)) A K = K (.pointer (some a)) A := Eq.trans rfl rfl
theorem abin_xor {P : Program} {A : View} {K : Value → View → Prop} (t : TypeId) (x y : Operand) (a b : Int) : abin P .xor t x y (.int .i64 a) (.int .i64 b) A K = K (.int .i64 (IntKind.i64.wrap (BitVec.ofInt 64 a ^^^ BitVec.ofInt 64 b).toNat)) A := Eq.trans rfl rfl
theorem xor_range {a b : Int} (ha : 0 ≤ a ∧ a < 9223372036854775808) (hb : 0 ≤ b ∧ b < 9223372036854775808) : ((BitVec.ofInt 64 a ^^^ BitVec.ofInt 64 b).toNat : Int) < 9223372036854775808 := by
  obtain ⟨n, rfl⟩ := Int.eq_ofNat_of_zero_le ha.1
  obtain ⟨m, rfl⟩ := Int.eq_ofNat_of_zero_le hb.1
  have h1 : (BitVec.ofInt 64 (n : Int)).toNat = n := by
    rw [BitVec.toNat_ofInt]
    omega
  have h2 : (BitVec.ofInt 64 (m : Int)).toNat = m := by
    rw [BitVec.toNat_ofInt]
    omega
  rw [BitVec.toNat_xor, h1, h2]
  have := Nat.xor_lt_two_pow (x := n) (y := m) (n := 63) (by omega) (by omega)
  omega

theorem abin_xor_ex {P : Program} {a b : Int} (ha : 0 ≤ a ∧ a < 9223372036854775808) (hb : 0 ≤ b ∧ b < 9223372036854775808) : ∃ Z : Nat, (Z : Int) < 9223372036854775808 ∧ ∀ (t : TypeId) (x y : Operand) (A : View) (K : Value → View → Prop), abin P .xor t x y (.int .i64 a) (.int .i64 b) A K = K (.int .i64 Z) A := by
  have hZ := xor_range ha hb
  refine ⟨_, hZ, fun t x y A K => ?_⟩
  rw [abin_xor]
  generalize (BitVec.ofInt 64 a ^^^ BitVec.ofInt 64 b).toNat = Z at hZ
  rw [wrap_id (by omega) (by omega)]

/-! ### large regions: the cheap test first -/
def pairOkF (ops : Array Oper) (i j : Nat) : Bool := (match ops[i]?, ops[j]? with
  | some a, some b => (quietOp a || allocOp b) && a.apart ops b
  | _, _ => false) || reach ops ops.size i j
theorem pairOkF_eq (ops : Array Oper) (i j : Nat) : pairOkF ops i j = pairOk ops i j := Bool.or_comm ..
def linOkF (ops : Array Oper) : List Nat → List Nat → Bool
  | _, [] => true
  | done, i :: L => (match ops[i]? with | some o => (needs o).all (done.contains ·) | none => false) && !L.contains i && L.all (pairOkF ops i) && linOkF ops (i :: done) L
theorem linOkF_eq (ops : Array Oper) : ∀ (L done : List Nat), linOkF ops done L = linOk ops done L
  | [], _ => rfl
  | i :: L, done => by
    unfold linOkF linOk
    rw [linOkF_eq ops L (i :: done), show pairOkF ops i = pairOk ops i from funext (pairOkF_eq ops i)]
    rfl
def drawOkF (ops : Array Oper) (L : List PItem) : Bool := ((List.range ops.size).all ((L.map (·.idx)).contains ·) && (L.map (·.idx)).all (· < ops.size) && linOkF ops [] (L.map (·.idx)) && Region.noSelect ops) && itemsOk ops [] L
theorem adraw_itemsF {P : Program} {id : Nat} {ops : Array Oper} {K : Fr → View → Prop} {fr : Fr} {A : View} (L : List PItem) (hp : drawOkF ops L = true) (hm : P.follows .mixedOrders = true) (h : bseq P ops K L [] fr A) : ADraw P id ops K fr A :=
  adraw_items L (by unfold drawOkF at hp; rw [linOkF_eq] at hp; exact hp) hm h

/-! ### frames are forgotten on the way -/
theorem awp_fr {P : Program} {c : Code} {K : Exit → Fr → View → Prop} {A : View} {fr : Fr} (i j k : Nat) (vi vj vk : Value) (hi : fr i = vi) (hj : fr j = vj) (hk : fr k = vk) (h : ∀ fr' : Fr, fr' i = vi → fr' j = vj → fr' k = vk → awp P c K fr' A) : awp P c K fr A := h fr hi hj hk
def PItem.plain : PItem → Bool
  | .q _ => true
  | .l _ late => !late
  | .c _ _ => false
theorem bseq_chunk {P : Program} {ops : Array Oper} {K : Fr → View → Prop} {L2 : List PItem} {A : View} (Q : Fr → Prop) (h2 : ∀ fr', Q fr' → bseq P ops K L2 [] fr' A) : ∀ (L1 : List PItem) (fr : Fr), L1.all PItem.plain = true → bseq P ops (fun fr' _ => Q fr') L1 [] fr A → bseq P ops K (L1 ++ L2) [] fr A
  | [], fr, _, h1 => h2 fr h1
  | it :: L1, fr, hL, h1 => by
    rw [List.all_cons, Bool.and_eq_true] at hL
    have ih := fun fr' => bseq_chunk Q h2 L1 fr' hL.2
    show bitem P ops it ops[it.idx]? [] fr A _
    replace h1 : bitem P ops it ops[it.idx]? [] fr A _ := h1
    unfold bitem at h1 ⊢
    cases ho : ops[it.idx]? with
    | none => rw [ho] at h1; exact h1.elim
    | some o =>
      rw [ho] at h1
      simp only at h1 ⊢
      cases it with
      | q i => exact awant_imp h1 (fun ⟨hn, h⟩ => ⟨hn, aop_mono (fun v A' h => ⟨h.1, ih _ h.2⟩) h⟩) (fun h => ih _ h)
      | l i late =>
        cases late with
        | true => cases hL.1
        | false =>
          dsimp only at h1 ⊢
          split at h1
          · refine awant_imp h1 (fun h => ?_) (fun h => ih _ h)
            unfold bload at h ⊢
            split at h
            · revert h
              cases hl : A.loadv P _ _ with
              | none => exact fun h => h.elim
              | some v => exact fun h => ih _ h
            · exact h.elim
          · exact h1.elim
      | c i ks => cases hL.1

/-! ### moves, with their value found at once -/
def amv (v : Value) (A : View) (K : Value → View → Prop) : Prop := K v A
@[congr] theorem amv_congr {v v' : Value} {A : View} {K : Value → View → Prop} (h1 : Mark v = v') : amv v A K = amv v' A K := by rw [← h1, mark_eq]
theorem amv_at (v : Value) (A : View) (K : Value → View → Prop) : amv v A K = K v A := Eq.trans rfl rfl
section
variable {P : Program} {A : View} {K : Value → View → Prop} (d : Option Tmp) (ty : TypeId) (ps : String) (af : Array Edge) (g : Option (Nat × Bool)) (ρ : Operand → Value)
theorem aop_moveV (x : Operand) : aop P ⟨d, .move x, ty, ps, af, g⟩ ρ A K = amv (ρ x) A K := Eq.trans rfl rfl
theorem aop_assignV (x : Operand) : aop P ⟨d, .assign x, ty, ps, af, g⟩ ρ A K = amv (ρ x) A K := Eq.trans rfl rfl
end

theorem stq : type_of% (And.intro @ay_arr (And.intro @ay_zero (And.intro @ay_succ (And.intro @ay_some (And.intro @ares_nil (And.intro @ares_tmp (And.intro @ares_tmp2 (And.intro @ares_tmp3 (And.intro @ares_cell (And.intro @ares_cell_tmp (And.intro @ares_cell_tmp2 (And.intro @ares_tmp_cell (And.intro @ares_cell2 (And.intro @awp_region (And.intro @awp_draw (And.intro @awp_seq (And.intro @awp_cond (And.intro @awp_block (And.intro @awp_loop (And.intro @awp_exit (And.intro @awp_ret (And.intro @awp_skip (And.intro @seqK_normal (And.intro @seqK_ret (And.intro @seqK_exit (And.intro @blockK_normal (And.intro @blockK_ret (And.intro @blockK_same (And.intro @fnPost_normal (And.intro @fnPost_ret (And.intro @aops_nil (And.intro @aops_plain (And.intro @aops_guard (And.intro @aop_moveV (And.intro @aop_assignV (And.intro @aop_pick (And.intro @aop_alloc (And.intro @aop_box (And.intro @aop_build (And.intro @aop_lit (And.intro @aop_load (And.intro @aop_store (And.intro @aop_bin (And.intro @aop_un (And.intro @aop_conv (And.intro @aop_func (And.intro @aop_make (And.intro @aop_slice (And.intro @aop_faddr (And.intro @aop_field (And.intro @aop_iaddr (And.intro @aop_index (And.intro @aop_extract (And.intro @aop_call (And.intro @aop_append (And.intro @aop_copy (And.intro @aop_clear (And.intro @aop_len (And.intro @aop_cap (And.intro @aop_min (@aop_max))))))))))))))))))))))))))))))))))))))))))))))))))))))))))))) := And.intro @ay_arr (And.intro @ay_zero (And.intro @ay_succ (And.intro @ay_some (And.intro @ares_nil (And.intro @ares_tmp (And.intro @ares_tmp2 (And.intro @ares_tmp3 (And.intro @ares_cell (And.intro @ares_cell_tmp (And.intro @ares_cell_tmp2 (And.intro @ares_tmp_cell (And.intro @ares_cell2 (And.intro @awp_region (And.intro @awp_draw (And.intro @awp_seq (And.intro @awp_cond (And.intro @awp_block (And.intro @awp_loop (And.intro @awp_exit (And.intro @awp_ret (And.intro @awp_skip (And.intro @seqK_normal (And.intro @seqK_ret (And.intro @seqK_exit (And.intro @blockK_normal (And.intro @blockK_ret (And.intro @blockK_same (And.intro @fnPost_normal (And.intro @fnPost_ret (And.intro @aops_nil (And.intro @aops_plain (And.intro @aops_guard (And.intro @aop_moveV (And.intro @aop_assignV (And.intro @aop_pick (And.intro @aop_alloc (And.intro @aop_box (And.intro @aop_build (And.intro @aop_lit (And.intro @aop_load (And.intro @aop_store (And.intro @aop_bin (And.intro @aop_un (And.intro @aop_conv (And.intro @aop_func (And.intro @aop_make (And.intro @aop_slice (And.intro @aop_faddr (And.intro @aop_field (And.intro @aop_iaddr (And.intro @aop_index (And.intro @aop_extract (And.intro @aop_call (And.intro @aop_append (And.intro @aop_copy (And.intro @aop_clear (And.intro @aop_len (And.intro @aop_cap (And.intro @aop_min (@aop_max))))))))))))))))))))))))))))))))))))))))))))))))))))))))))))

end Go.Proofs.Ytggklaimbklefaa

/- strings.Builder: a buffer of bytes of one's own, behind a block of two cells. -/
set_option maxHeartbeats 4000000
set_option synthInstance.maxHeartbeats 400000
set_option synthInstance.maxSize 4096
set_option linter.unusedSimpArgs false
set_option linter.unusedVariables false
namespace Go.Proofs.Ytggklaimbklefaa

set_option maxRecDepth 100000

/-- A builder's buffer: nothing yet, or a row of bytes with room. -/
def Buf (V : View) (fp : List Nat) (v : Value) (bs : List UInt8) : Prop :=
  (v = .slice none 0 0 ∧ bs = [] ∧ fp = []) ∨ ∃ g c, v = .slice (some ⟨g, 0, none⟩) bs.length c ∧ bs.length ≤ c ∧ 0 < c ∧ fp = [g] ∧ V g = some ⟨5, Go.Lib.byteCells bs, c, true⟩
theorem Buf.stay {V W : View} {fp : List Nat} {v : Value} {bs : List UInt8} (h : Buf V fp v bs) (hs : ∀ b k, b ∈ fp → V b = some k → W b = some k) : Buf W fp v bs := by
  rcases h with h | ⟨g, c, h1, h2, h3, rfl, h5⟩
  · exact .inl h
  · exact .inr ⟨g, c, h1, h2, h3, rfl, hs g _ (List.mem_singleton.2 rfl) h5⟩
theorem Buf.has {V : View} {fp : List Nat} {v : Value} {bs : List UInt8} (h : Buf V fp v bs) : ∀ b, b ∈ fp → ∃ k, V b = some k := by
  rcases h with ⟨_, _, rfl⟩ | ⟨g, c, _, _, _, rfl, h5⟩
  · intro b hb; cases hb
  · intro b hb
    rw [List.mem_singleton] at hb
    subst hb
    exact ⟨_, h5⟩
theorem Buf.one {V : View} {fp : List Nat} {v : Value} {bs : List UInt8} (h : Buf V fp v bs) : v.cells = #[v] ∧ v.oneCell' = true ∧ ∃ a c, v = .slice a bs.length c := by
  rcases h with ⟨rfl, rfl, _⟩ | ⟨g, c, rfl, _⟩
  · exact ⟨rfl, rfl, _, _, rfl⟩
  · exact ⟨rfl, rfl, _, _, rfl⟩
def buf (fp : List Nat) (v : Value) (bs : List UInt8) : It := ⟨fp, fun V => Buf V fp v bs, fun h hs => h.stay hs, fun h => h.has⟩
/-- A builder. -/
def wb (q : Nat) (fp : List Nat) (bs : List UInt8) : It where
  fp := q :: fp
  φ V := ∃ (p : Option Addr) (v : Value), (p = none ∨ p = some ⟨q, 0, none⟩) ∧ V q = some ⟨62, [.pointer p, v], 2, true⟩ ∧ Buf V fp v bs
  stay := fun ⟨p, v, h1, h2, h3⟩ hs => ⟨p, v, h1, hs q _ (List.mem_cons_self ..) h2, h3.stay fun b k hb => hs b k (List.mem_cons_of_mem _ hb)⟩
  has := fun ⟨p, v, h1, h2, h3⟩ b hb => by
    rcases List.mem_cons.1 hb with rfl | hb
    · exact ⟨_, h2⟩
    · exact h3.has b hb

section
variable {A B V W : View} {L : List It} {K : Value → View → Prop}

theorem wb_open {q : Nat} {fp : List Nat} {bs : List UInt8} (l : Led B (wb q fp bs :: L) V) : ∃ (p : Option Addr) (v : Value), (p = none ∨ p = some ⟨q, 0, none⟩) ∧ Led B (bx q ⟨62, [.pointer p, v], 2, true⟩ :: buf fp v bs :: L) V := by
  obtain ⟨p, v, h1, h2, h3⟩ := (show (wb q fp bs).φ V from l.at (i := 0) rfl)
  refine ⟨p, v, h1, l.ext, fun it hit => ?_, l.new, l.nd⟩
  rcases List.mem_cons.1 hit with rfl | hit
  · exact h2
  · rcases List.mem_cons.1 hit with rfl | hit
    · exact h3
    · exact l.all it (List.mem_cons_of_mem _ hit)
theorem wb_close {q : Nat} {fp : List Nat} {bs : List UInt8} {p : Option Addr} {v : Value} (hp : p = none ∨ p = some ⟨q, 0, none⟩) (l : Led B (bx q ⟨62, [.pointer p, v], 2, true⟩ :: buf fp v bs :: L) V) : Led B (wb q fp bs :: L) V := by
  refine ⟨l.ext, fun it hit => ?_, l.new, l.nd⟩
  rcases List.mem_cons.1 hit with rfl | hit
  · exact ⟨p, v, hp, l.at (i := 0) rfl, l.at (i := 1) rfl⟩
  · exact l.all it (List.mem_cons_of_mem _ (List.mem_cons_of_mem _ hit))
theorem wb_new {q : Nat} (l : Led B (bx q ⟨62, [.pointer none, .slice none 0 0], 2, true⟩ :: L) V) : Led B (wb q [] [] :: L) V := by
  refine ⟨l.ext, fun it hit => ?_, l.new, l.nd⟩
  rcases List.mem_cons.1 hit with rfl | hit
  · exact ⟨none, _, .inl rfl, l.at (i := 0) rfl, .inl ⟨rfl, rfl, rfl⟩⟩
  · exact l.all it (List.mem_cons_of_mem _ hit)

theorem bd_eq (x y : Operand) (a : Option Addr) : abin Try.prog .eql 60 x y (.pointer a) (.pointer none) A K = K (.bool (decide (a = none))) A := (abin_ptr (by kernel_rfl) x y a none (.inr (.inl rfl))).1
theorem bd_ne (x y : Operand) (a : Addr) : abin Try.prog .neq 60 x y (.pointer (some a)) (.pointer (some a)) A K = K (.bool false) A := by
  refine (abin_ptr (by kernel_rfl) x y (some a) (some a) (.inr (.inr rfl))).2.trans ?_
  rw [decide_eq_true rfl]
  rfl
theorem bd_to {q room : Nat} {e : TypeId} {cs : List Value} (hr : 0 < room) (hb : A q = some ⟨e, cs, room, true⟩) : aconv Try.prog 60 115 (.pointer (some ⟨q, 0, none⟩)) A K = K (.pointer (some ⟨q, 0, none⟩)) A :=
  aconv_to (t := 62) (n := 2) (by kernel_rfl) (by kernel_rfl) (by kernel_rfl) (by decide) hb hr
theorem bd_cells : Try.prog.cellsOf 62 = 2 := by kernel_rfl
theorem byte_cells : Try.prog.cellsOf 5 = 1 := by kernel_rfl
theorem bd_lies (m : Nat) (hm : 2 ≤ m) : liesAt Try.prog Try.prog.depth 62 (m / Try.prog.cellsOf 62) 0 62 1 = true := by
  rw [bd_cells]
  have h1 : 1 ≤ m / 2 := by omega
  generalize m / 2 = count at h1
  have hd : Try.prog.depth = (2 * (Try.prog.types.size + Made.depth) + 1) + 1 := rfl
  rw [hd]
  simp only [liesAt, Bool.or_eq_true]
  left
  rw [hd]
  simp [rowAt, bd_cells, h1, sameLayout]
theorem bd_from {q : Nat} {cs : List Value} (hb : A q = some ⟨62, cs, 2, true⟩) : aconv Try.prog 115 60 (.pointer (some ⟨q, 0, none⟩)) A K = K (.pointer (some ⟨q, 0, none⟩)) A :=
  aconv_from (u := 62) (n := 2) (by kernel_rfl) (by kernel_rfl) (by kernel_rfl) (by decide) hb fun m hm => bd_lies m hm

theorem acall_same {P : Program} {f : FuncId} {fn : Func} (hf : P.funcs[f]? = some fn) (hname : (fn.name == "runtime.NumGoroutine") = false)
    (hb : fn.body.isNone = true) (hn : Extern.findNext fn = none) (he : Extern.find fn = some Extern.AbiNoEscape.same) (v : Value) :
    acall P (.func (.func f) #[] #[]) #[v] A K = K v A := by
  unfold acall
  show sawp P (callFunc f (#[] ++ #[v] ++ #[])) (nextK P K) A = _
  unfold callFunc
  show sawp P (Sem.bind (.program .pure) _) (nextK P K) A = _
  simp only [Sem.bind, sawp, hf, hname, hb, hn, he, Bool.false_eq_true, if_false, if_true]
  rfl
theorem bd_noescape (v : Value) : acall Try.prog (.func (.func 83) #[] #[]) #[v] A K = K v A := acall_same Try.func83 rfl rfl (by kernel_rfl) (by kernel_rfl) v
end

theorem copyCheck_c (B A : View) (L : List It) (q : Nat) (p : Option Addr) (v : Value) (hp : p = none ∨ p = some ⟨q, 0, none⟩) (l : Led B (bx q ⟨62, [.pointer p, v], 2, true⟩ :: L) A) :
    ACalls Try.prog 61 #[.pointer (some ⟨q, 0, none⟩)] A fun _ V => Led B (bx q ⟨62, [.pointer (some ⟨q, 0, none⟩), v], 2, true⟩ :: L) V := by
  have k0 := l.cell (i := 0) rfl (o := 0) rfl rfl
  have kb : A q = some ⟨62, [.pointer p, v], 2, true⟩ := l.at (i := 0) rfl
  refine acalls Try.func61 rfl (by kernel_rfl) ?_
  simp (disch := omega) only [↓stq, amv_at, vls, inf, frs, mark_eq, ↓reduceIte, Nat.reduceEqDiff, ite_tt, ite_ff, eq_self, and_true, true_and, and_self, implies_true, Bool.true_eq_false, Bool.false_eq_true, decide_true, decide_false, decide_eq_true_eq, decide_eq_false_iff_not, ne_eq, not_true_eq_false, not_false_eq_true, Bool.not_eq_true', Bool.not_eq_false', beq_self_eq_true, Bool.not_true, Bool.not_false, List.getElem?_toArray, List.getElem?_cons_zero, List.getElem?_cons_succ]
  rcases hp with rfl | rfl
  · simp (disch := omega) only [↓stq, amv_at, vls, inf, frs, mark_eq, ↓reduceIte, Nat.reduceEqDiff, ite_tt, ite_ff, eq_self, and_true, true_and, and_self, implies_true, Bool.true_eq_false, Bool.false_eq_true, decide_true, decide_false, decide_eq_true_eq, decide_eq_false_iff_not, ne_eq, not_true_eq_false, not_false_eq_true, Bool.not_eq_true', Bool.not_eq_false', beq_self_eq_true, Bool.not_true, Bool.not_false, List.getElem?_toArray, List.getElem?_cons_zero, List.getElem?_cons_succ, ↓aop_nilV, anilV_ptr, add_at, k0, bd_eq, bd_ne, bd_to (by decide) kb, bd_from kb, bd_noescape]
    refine led_store l 0 rfl sz60 (by rfl) (by rfl) (by rfl) fun V l => ?_
    simp (disch := omega) only [↓stq, amv_at, vls, inf, frs, mark_eq, ↓reduceIte, Nat.reduceEqDiff, ite_tt, ite_ff, eq_self, and_true, true_and, and_self, implies_true, Bool.true_eq_false, Bool.false_eq_true, decide_true, decide_false, decide_eq_true_eq, decide_eq_false_iff_not, ne_eq, not_true_eq_false, not_false_eq_true, Bool.not_eq_true', Bool.not_eq_false', beq_self_eq_true, Bool.not_true, Bool.not_false, List.getElem?_toArray, List.getElem?_cons_zero, List.getElem?_cons_succ]
    exact l
  · simp (disch := omega) only [↓stq, amv_at, vls, inf, frs, mark_eq, ↓reduceIte, Nat.reduceEqDiff, ite_tt, ite_ff, eq_self, and_true, true_and, and_self, implies_true, Bool.true_eq_false, Bool.false_eq_true, decide_true, decide_false, decide_eq_true_eq, decide_eq_false_iff_not, ne_eq, not_true_eq_false, not_false_eq_true, Bool.not_eq_true', Bool.not_eq_false', beq_self_eq_true, Bool.not_true, Bool.not_false, List.getElem?_toArray, List.getElem?_cons_zero, List.getElem?_cons_succ, ↓aop_nilV, anilV_ptr, add_at, k0, bd_eq, bd_ne, reduceCtorEq]
    exact l

end Go.Proofs.Ytggklaimbklefaa

/- strings.Builder: what it writes and what it gives. -/
set_option maxHeartbeats 4000000
set_option synthInstance.maxHeartbeats 400000
set_option synthInstance.maxSize 4096
set_option linter.unusedSimpArgs false
set_option linter.unusedVariables false
namespace Go.Proofs.Ytggklaimbklefaa

set_option maxRecDepth 100000

section
variable {A B V W : View} {L : List It} {K : Value → View → Prop}

theorem bytes_cat (bs cs : List UInt8) : Go.Lib.byteCells bs ++ Go.Lib.byteCells cs = Go.Lib.byteCells (bs ++ cs) := by simp [Go.Lib.byteCells]

/-- A text is appended to a buffer. -/
theorem buf_app {it : It} {fp : List Nat} {v : Value} {bs : List UInt8} {s : ByteArray} (hsm : bs.length + s.size ≤ 16777216) (l : Led B (it :: buf fp v bs :: L) V)
    (hk : ∀ fp' v' W, Led B (it :: buf fp' v' (bs ++ s.data.toList) :: L) W → K v' W) : aappend Try.prog #[22, 9] 22 #[v, .string s] V K := by
  have hT := ap22_9
  have hsrc : asrc V 1 (.string s) = some (s.size, Go.Lib.byteCells s.data.toList) := rfl
  have hdl : s.data.toList.length = s.size := by rw [Array.length_toList]; rfl
  have hB : Buf V fp v bs := l.at (i := 1) rfl
  rcases hB with ⟨rfl, rfl, rfl⟩ | ⟨g, c, rfl, hc, h0, rfl, hg⟩
  · by_cases hz : s.size = 0
    · have hn : s.data.toList = [] := List.eq_nil_of_length_eq_zero (by rw [hdl, hz])
      rw [hz] at hsrc
      refine aappend_nil0 hT hsrc (hk [] _ V ?_)
      rw [hn]
      exact l
    · refine app_nil hT hsrc (by omega) (by simp at hsm; omega) (by simp at hsm; omega) fun b' c' W hb' hle hext hw => ?_
      rw [Nat.mul_one] at hw
      refine hk [b'] _ W (l.swap (i := 1) (jt := buf [b'] _ ([] ++ s.data.toList)) rfl (Only.ext hext _) (.inr ⟨b', c', ?_, ?_, by omega, rfl, hw⟩) (fun x hx => ?_) (by simp [buf]))
      · rw [List.nil_append, hdl]
      · rw [List.nil_append, hdl]; exact hle
      · rw [List.mem_singleton.1 hx]; exact .inr hb'
  · have hlen : (Go.Lib.byteCells bs).length = bs.length * 1 := by rw [Go.Lib.byteCells_length, Nat.mul_one]
    by_cases hz : s.size = 0
    · have hn : s.data.toList = [] := List.eq_nil_of_length_eq_zero (by rw [hdl, hz])
      rw [hz, hn] at hsrc
      refine aappend_room hT hg rfl hsrc (by omega) (by rw [hlen]; omega) ?_
      refine hk [g] _ _ ?_
      rw [hn, List.append_nil]
      refine l.upd (i := 1) (jt := buf [g] _ bs) rfl rfl (Only.set _ (List.mem_singleton.2 rfl)) (.inr ⟨g, c, rfl, hc, h0, rfl, ?_⟩)
      rw [View.set_same]
      congr 2
      show (Go.Lib.byteCells bs).take (bs.length * 1) ++ [] ++ (Go.Lib.byteCells bs).drop ((bs.length + 0) * 1) = _
      rw [List.append_nil, Nat.add_zero, List.take_append_drop]
    · refine app_view hT (c := c) (by rw [Nat.mul_one]; exact hg) hlen hsrc (by omega) (by omega) fun b' c' W hb' hle ho hw => ?_
      rw [Nat.mul_one, bytes_cat] at hw
      refine hk [b'] _ W (l.swap (i := 1) (jt := buf [b'] _ (bs ++ s.data.toList)) rfl ho (.inr ⟨b', c', ?_, ?_, by omega, rfl, hw⟩) (fun x hx => ?_) (by simp [buf]))
      · rw [List.length_append, hdl]
      · rw [List.length_append, hdl]; exact hle
      · rw [List.mem_singleton.1 hx]
        rcases hb' with rfl | hb'
        · exact .inl (List.mem_singleton.2 rfl)
        · exact .inr hb'
end

theorem writeString_c (B A : View) (L : List It) (q : Nat) (fp : List Nat) (bs : List UInt8) (s : ByteArray) (hsm : bs.length + s.size ≤ 16777216) (l : Led B (wb q fp bs :: L) A) :
    ACalls Try.prog 31 #[.pointer (some ⟨q, 0, none⟩), .string s] A fun r V => r = .tuple #[.int .i64 s.size, .nilIface] ∧ ∃ fp', Led B (wb q fp' (bs ++ s.data.toList) :: L) V := by
  obtain ⟨p, v, hp, l⟩ := wb_open l
  refine acalls Try.func31 rfl (by kernel_rfl) ?_
  simp (disch := omega) only [↓stq, amv_at, vls, inf, frs, mark_eq, ↓reduceIte, Nat.reduceEqDiff, ite_tt, ite_ff, eq_self, and_true, true_and, and_self, implies_true, Bool.true_eq_false, Bool.false_eq_true, decide_true, decide_false, decide_eq_true_eq, decide_eq_false_iff_not, ne_eq, not_true_eq_false, not_false_eq_true, Bool.not_eq_true', Bool.not_eq_false', beq_self_eq_true, Bool.not_true, Bool.not_false, List.getElem?_toArray, List.getElem?_cons_zero, List.getElem?_cons_succ]
  refine (copyCheck_c B A _ q p v hp l).mono ?_
  rintro _ V l
  have kv := (show Buf V fp v bs from l.at (i := 1) rfl).one
  have k1 := l.cell (i := 0) rfl (o := 1) rfl kv.2.1
  simp (disch := omega) only [↓stq, amv_at, vls, inf, frs, mark_eq, ↓reduceIte, Nat.reduceEqDiff, ite_tt, ite_ff, eq_self, and_true, true_and, and_self, implies_true, Bool.true_eq_false, Bool.false_eq_true, decide_true, decide_false, decide_eq_true_eq, decide_eq_false_iff_not, ne_eq, not_true_eq_false, not_false_eq_true, Bool.not_eq_true', Bool.not_eq_false', beq_self_eq_true, Bool.not_true, Bool.not_false, List.getElem?_toArray, List.getElem?_cons_zero, List.getElem?_cons_succ, ↓aop_nilV, anilV_ptr, add_at, k1]
  refine buf_app hsm l fun fp' v' W l => ?_
  have kv' := (show Buf W fp' v' _ from l.at (i := 1) rfl).one
  simp (disch := omega) only [↓stq, amv_at, vls, inf, frs, mark_eq, ↓reduceIte, Nat.reduceEqDiff, ite_tt, ite_ff, eq_self, and_true, true_and, and_self, implies_true, Bool.true_eq_false, Bool.false_eq_true, decide_true, decide_false, decide_eq_true_eq, decide_eq_false_iff_not, ne_eq, not_true_eq_false, not_false_eq_true, Bool.not_eq_true', Bool.not_eq_false', beq_self_eq_true, Bool.not_true, Bool.not_false, List.getElem?_toArray, List.getElem?_cons_zero, List.getElem?_cons_succ, ↓aop_nilV, anilV_ptr, add_at]
  refine led_store l 0 rfl sz22 (by rw [kv'.1]; rfl) (by rfl) (by rw [kv'.1]; simpa using kv'.2.1) fun W2 l => ?_
  have e : [Value.pointer (some ⟨q, 0, none⟩), v].take 1 ++ v'.cells.toList ++ [Value.pointer (some ⟨q, 0, none⟩), v].drop (1 + 1) = [Value.pointer (some ⟨q, 0, none⟩), v'] := by rw [kv'.1]; rfl
  replace l : Led B (bx q ⟨62, [Value.pointer (some ⟨q, 0, none⟩), v].take 1 ++ v'.cells.toList ++ [Value.pointer (some ⟨q, 0, none⟩), v].drop (1 + 1), 2, true⟩ :: buf fp' v' (bs ++ s.data.toList) :: L) W2 := l
  rw [e] at l
  simp (disch := omega) only [↓stq, amv_at, vls, inf, frs, mark_eq, ↓reduceIte, Nat.reduceEqDiff, ite_tt, ite_ff, eq_self, and_true, true_and, and_self, implies_true, Bool.true_eq_false, Bool.false_eq_true, decide_true, decide_false, decide_eq_true_eq, decide_eq_false_iff_not, ne_eq, not_true_eq_false, not_false_eq_true, Bool.not_eq_true', Bool.not_eq_false', beq_self_eq_true, Bool.not_true, Bool.not_false, List.getElem?_toArray, List.getElem?_cons_zero, List.getElem?_cons_succ]
  exact ⟨fp', wb_close (.inr rfl) l⟩

theorem aop_sdata {P : Program} {A : View} {K : Value → View → Prop} (d : Option Tmp) (ty : TypeId) (ps : String) (af : Array Edge) (g : Option (Nat × Bool)) (ρ : Operand → Value) (xs : Array Operand) (ats : Array TypeId) :
    aop P ⟨d, .call ⟨.builtin .unsafeSliceData, xs, ats⟩, ty, ps, af, g⟩ ρ A K = abuiltin P .unsafeSliceData ats ty (xs.map fun | .const _ => true | _ => false) (xs.map ρ) A K := Eq.trans rfl rfl
theorem aop_ustr {P : Program} {A : View} {K : Value → View → Prop} (d : Option Tmp) (ty : TypeId) (ps : String) (af : Array Edge) (g : Option (Nat × Bool)) (ρ : Operand → Value) (xs : Array Operand) (ats : Array TypeId) :
    aop P ⟨d, .call ⟨.builtin .unsafeString, xs, ats⟩, ty, ps, af, g⟩ ρ A K = abuiltin P .unsafeString ats ty (xs.map fun | .const _ => true | _ => false) (xs.map ρ) A K := Eq.trans rfl rfl

/-- The text of a builder. -/
theorem string_c (B A : View) (L : List It) (q : Nat) (fp : List Nat) (bs : List UInt8) (hsm : bs.length ≤ 16777216) (l : Led B (wb q fp bs :: L) A) :
    ACalls Try.prog 33 #[.pointer (some ⟨q, 0, none⟩)] A fun r V => r = .string ⟨bs.toArray⟩ ∧ Led B L V := by
  obtain ⟨p, v, hp, l⟩ := wb_open l
  have hB : Buf A fp v bs := l.at (i := 1) rfl
  have k1 := l.cell (i := 0) rfl (o := 1) rfl hB.one.2.1
  refine acalls Try.func33 rfl (by kernel_rfl) ?_
  simp (disch := omega) only [↓stq, amv_at, vls, inf, frs, mark_eq, ↓reduceIte, Nat.reduceEqDiff, ite_tt, ite_ff, eq_self, and_true, true_and, and_self, implies_true, Bool.true_eq_false, Bool.false_eq_true, decide_true, decide_false, decide_eq_true_eq, decide_eq_false_iff_not, ne_eq, not_true_eq_false, not_false_eq_true, Bool.not_eq_true', Bool.not_eq_false', beq_self_eq_true, Bool.not_true, Bool.not_false, List.getElem?_toArray, List.getElem?_cons_zero, List.getElem?_cons_succ]
  refine adraw_items [.q 0, .q 1, .q 2, .l 3 false, .q 4, .q 5, .q 6, .q 7, .l 8 false, .q 9, .c 10 [], .q 11] (by kernel_rfl) (by kernel_rfl) ?_
  rcases hB with ⟨rfl, rfl, rfl⟩ | ⟨g, c, rfl, hc, h0, rfl, hg⟩
  · simp (disch := omega) only [↓stq, amv_at, ↓pln, plv, nilOk, Nat.reduceBEq, Bool.or_false, Bool.or_true, Bool.false_or, Bool.true_or, vls, inf, frs, mark_eq, ↓reduceIte, Nat.reduceEqDiff, ite_tt, ite_ff, eq_self, and_true, true_and, and_self, implies_true, Bool.true_eq_false, Bool.false_eq_true, decide_true, decide_false, decide_eq_true_eq, decide_eq_false_iff_not, ne_eq, not_true_eq_false, not_false_eq_true, Bool.not_eq_true', Bool.not_eq_false', beq_self_eq_true, Bool.not_true, Bool.not_false, List.getElem?_toArray, List.getElem?_cons_zero, List.getElem?_cons_succ, ↓aop_nilV, anilV_ptr, add_at, k1, ↓aop_sdata, ↓aop_ustr, abuiltin_sdata0, abuiltin_ustr0, List.length_nil, Int.ofNat_zero, Int.natCast_zero]
    exact l.tail.tail
  · simp (disch := omega) only [↓stq, amv_at, ↓pln, plv, nilOk, Nat.reduceBEq, Bool.or_false, Bool.or_true, Bool.false_or, Bool.true_or, vls, inf, frs, mark_eq, ↓reduceIte, Nat.reduceEqDiff, ite_tt, ite_ff, eq_self, and_true, true_and, and_self, implies_true, Bool.true_eq_false, Bool.false_eq_true, decide_true, decide_false, decide_eq_true_eq, decide_eq_false_iff_not, ne_eq, not_true_eq_false, not_false_eq_true, Bool.not_eq_true', Bool.not_eq_false', beq_self_eq_true, Bool.not_true, Bool.not_false, List.getElem?_toArray, List.getElem?_cons_zero, List.getElem?_cons_succ, ↓aop_nilV, anilV_ptr, add_at, k1, ↓aop_sdata, ↓aop_ustr, abuiltin_sdata _ _ _ _ _ _ (show c ≠ 0 by omega)]
    by_cases hn : bs = []
    · subst hn
      simp (disch := omega) only [↓stq, amv_at, ↓pln, plv, nilOk, Nat.reduceBEq, Bool.or_false, Bool.or_true, Bool.false_or, Bool.true_or, vls, inf, frs, mark_eq, ↓reduceIte, Nat.reduceEqDiff, ite_tt, ite_ff, eq_self, and_true, true_and, and_self, implies_true, Bool.true_eq_false, Bool.false_eq_true, decide_true, decide_false, decide_eq_true_eq, decide_eq_false_iff_not, ne_eq, not_true_eq_false, not_false_eq_true, Bool.not_eq_true', Bool.not_eq_false', beq_self_eq_true, Bool.not_true, Bool.not_false, List.getElem?_toArray, List.getElem?_cons_zero, List.getElem?_cons_succ, abuiltin_ustr0, List.length_nil, Int.ofNat_zero, Int.natCast_zero]
      exact l.tail.tail
    · simp (disch := omega) only [↓stq, amv_at, ↓pln, plv, nilOk, Nat.reduceBEq, Bool.or_false, Bool.or_true, Bool.false_or, Bool.true_or, vls, inf, frs, mark_eq, ↓reduceIte, Nat.reduceEqDiff, ite_tt, ite_ff, eq_self, and_true, true_and, and_self, implies_true, Bool.true_eq_false, Bool.false_eq_true, decide_true, decide_false, decide_eq_true_eq, decide_eq_false_iff_not, ne_eq, not_true_eq_false, not_false_eq_true, Bool.not_eq_true', Bool.not_eq_false', beq_self_eq_true, Bool.not_true, Bool.not_false, List.getElem?_toArray, List.getElem?_cons_zero, List.getElem?_cons_succ, abuiltin_ustr (P := Try.prog) _ (show Try.prog.underlying 94 = some (.pointer 5) by kernel_rfl) byte_cells hn hg hc (by omega)]
      exact (l.upd (i := 1) (jt := bx g _) rfl rfl (Only.set _ (List.mem_singleton.2 rfl)) (View.set_same ..)).tail.tail

end Go.Proofs.Ytggklaimbklefaa

/- strings.Join: room that is asked for ahead, and the texts one behind the other. -/
set_option maxHeartbeats 4000000
set_option synthInstance.maxHeartbeats 400000
set_option synthInstance.maxSize 4096
set_option linter.unusedSimpArgs false
set_option linter.unusedVariables false
namespace Go.Proofs.Ytggklaimbklefaa

set_option maxRecDepth 100000

section
variable {P : Program} {A : View} {K : Value → View → Prop}

theorem digits_one : ∀ (n t : Nat) (acc : Array Value), (∀ v ∈ acc.toList, v.oneCell' = true) → ∀ v ∈ (Extern.BytealgMakeNoZero.digits n t acc).toList, v.oneCell' = true
  | 0, _, _, h => h
  | n + 1, t, acc, h => by
    unfold Extern.BytealgMakeNoZero.digits
    refine digits_one n _ _ fun v hv => ?_
    rw [Array.toList_push] at hv
    rcases List.mem_append.1 hv with hv | hv
    · exact h v hv
    · rw [List.mem_singleton.1 hv]
      rfl
/-- A new row of bytes, whatever they are. -/
theorem acall_mnz {f : FuncId} {fn : Func} {ps : Array TypeId} {t e : TypeId} (hf : P.funcs[f]? = some fn) (hname : (fn.name == "runtime.NumGoroutine") = false)
    (hb : fn.body.isNone = true) (hn : Extern.findNext fn = none) (he : Extern.find fn = some (Extern.BytealgMakeNoZero.makeNoZero ps #[t])) (ht : P.underlying t = some (.slice e)) (n : Nat) (hnl : n ≤ 16777216)
    (hA : ∃ b kb, A b = some kb) (hk : ∀ b cs, A b = none → n ≤ cs.length → (∀ v ∈ cs, v.oneCell' = true) → K (.slice (some ⟨b, 0, none⟩) n cs.length) (A.set b ⟨e, cs, cs.length, true⟩)) :
    acall P (.func (.func f) #[] #[]) #[.int .i64 n] A K := by
  unfold acall
  show sawp P (callFunc f (#[] ++ #[.int .i64 n] ++ #[])) (nextK P K) A
  unfold callFunc
  show sawp P (Sem.bind (.program .pure) _) (nextK P K) A
  simp only [Sem.bind, sawp, hf, hname, hb, hn, he, Bool.false_eq_true, if_false, if_true]
  show sawp P (Sem.bind (Extern.BytealgMakeNoZero.makeNoZero ps #[t] #[.int .i64 n]) _) (nextK P K) A
  rw [sawp_bind]
  unfold Extern.BytealgMakeNoZero.makeNoZero
  show sawp P (underlying t >>= _) _ A
  rw [sawp_underlying ht]
  have h1 : (decide ((n : Int) < 0) || decide ((n : Int) > 2 ^ 48)) = false := by
    rw [Bool.or_eq_false_iff, decide_eq_false_iff_not, decide_eq_false_iff_not]
    omega
  dsimp only
  rw [if_neg (by rw [h1]; decide)]
  show sawp P (Sem.bind (Sem.choose _ Sem.pure) _) _ A
  rw [sawp_bind]
  simp only [sawp]
  refine ⟨hA, fun cap hcap => ?_⟩
  have hcap : n ≤ cap := by
    rcases hcap with ⟨h, _⟩ | ⟨t, rfl⟩
    · cases h
    · show n ≤ (n : Int).toNat + _
      rw [Int.toNat_natCast]
      omega
  rw [sawp_bindB]
  have room : ∀ J : Unit → View → Prop, sawp P (askRoom cap) J A = J () A := fun J => by
    unfold askRoom
    split <;> rfl
  rw [room]
  show sawp P (Sem.bind (Sem.choose _ Sem.pure) _) _ A
  rw [sawp_bind]
  simp only [sawp]
  refine ⟨hA, fun bytes _ => ?_⟩
  have hsz : (Extern.BytealgMakeNoZero.digits cap bytes #[]).toList.length = cap := by
    rw [Array.length_toList, Go.Lib.size_digits]
    simp
  have hone := digits_one cap bytes #[] (fun v hv => by cases hv)
  show sawp P (Sem.bind (Sem.bind (Sem.new _ _) _) _) _ A
  simp only [Sem.bind, sawp]
  refine ⟨hone, fun b hb => ?_⟩
  have := hk b (Extern.BytealgMakeNoZero.digits cap bytes #[]).toList hb (by rw [hsz]; exact hcap) hone
  rw [hsz] at this
  have e2 : (Extern.BytealgMakeNoZero.digits cap bytes #[]).size = cap := by rw [← Array.length_toList]; exact hsz
  rw [e2]
  exact this

/-- Nothing is copied. -/
theorem acopy_none {t tx ty e : TypeId} {size : Nat} {a : Option Addr} {n c : Nat} (hu : P.underlying t = some (.slice e)) (hs : (P.info? e).map (·.size) = some size) (h : K (.int .i64 0) A) : acopy P #[t, tx] ty #[.slice a n c, .slice none 0 0] A K := by
  intro w hw
  obtain ⟨i, hi, _⟩ := Option.map_eq_some_iff.1 hs
  refine ⟨_, w, A, ?_, h, hw, Step.refl A w⟩
  cases a <;> simp [Builtin.copy_, run_underlying hu, Builtin.lenOf, Builtin.firstCells, sizeOf, typeInfo, hi, storeCells, goInt]
theorem acap_slice {t : TypeId} (h : isSliceT P t = true) (ty : TypeId) (cs : Array Bool) (a : Option Addr) (n c : Nat) : abuiltin P .cap #[t] ty cs #[.slice a n c] A K = K (.int .i64 c) A := by
  unfold isSliceT at h
  split at h
  · rename_i e hu
    unfold abuiltin builtin
    rw [sawp_value]
    unfold Builtin.cap_
    simp only [List.getElem?_toArray, List.getElem?_cons_zero]
    rw [sawp_underlying hu]
    rfl
  · simp at h
end

section
variable {A : View} {K : Value → View → Prop}
theorem bd_cap (ty : TypeId) (cs : Array Bool) (a : Option Addr) (n c : Nat) : abuiltin Try.prog .cap #[22] ty cs #[.slice a n c] A K = K (.int .i64 c) A := acap_slice (by kernel_rfl) ty cs a n c
theorem bd_mnz (n : Nat) (hnl : n ≤ 16777216) (hA : ∃ b kb, A b = some kb) (hk : ∀ b cs, A b = none → n ≤ cs.length → (∀ v ∈ cs, v.oneCell' = true) → K (.slice (some ⟨b, 0, none⟩) n cs.length) (A.set b ⟨5, cs, cs.length, true⟩)) :
    acall Try.prog (.func (.func 113) #[] #[]) #[.int .i64 n] A K :=
  acall_mnz Try.func113 rfl rfl (by kernel_rfl) (show Extern.find _ = some (Extern.BytealgMakeNoZero.makeNoZero #[3] #[22]) by kernel_rfl) (show Try.prog.underlying 22 = some (.slice 5) by kernel_rfl) n hnl hA hk
end

theorem grow_c (B A : View) (L : List It) (q : Nat) (p : Option Addr) (n : Nat) (hn : n ≤ 16777216) (h0 : 0 < n) (l : Led B (bx q ⟨62, [.pointer p, .slice none 0 0], 2, true⟩ :: L) A) :
    ACalls Try.prog 108 #[.pointer (some ⟨q, 0, none⟩), .int .i64 n] A fun _ V => ∃ g cs, n ≤ cs.length ∧ Led B (bx q ⟨62, [.pointer p, .slice (some ⟨g, 0, none⟩) 0 cs.length], 2, true⟩ :: bx g ⟨5, cs, cs.length, true⟩ :: L) V := by
  have k1 := l.cell (i := 0) rfl (o := 1) rfl rfl
  have kq : A q = some ⟨62, [.pointer p, .slice none 0 0], 2, true⟩ := l.at (i := 0) rfl
  have eZ : (2 : Int) * ((0 : Nat) : Int) + (n : Int) = n := by omega
  have hz : ((0 : Nat) : Int).toNat = 0 := rfl
  refine acalls Try.func108 rfl (by kernel_rfl) ?_
  simp (disch := omega) only [↓stq, amv_at, vls, inf, frs, mark_eq, ↓reduceIte, Nat.reduceEqDiff, ite_tt, ite_ff, eq_self, and_true, true_and, and_self, implies_true, Bool.true_eq_false, Bool.false_eq_true, decide_true, decide_false, decide_eq_true_eq, decide_eq_false_iff_not, ne_eq, not_true_eq_false, not_false_eq_true, Bool.not_eq_true', Bool.not_eq_false', beq_self_eq_true, Bool.not_true, Bool.not_false, List.getElem?_toArray, List.getElem?_cons_zero, List.getElem?_cons_succ]
  refine adraw_items [.q 0, .q 1, .q 2, .l 3 false, .q 4, .q 5, .q 6, .q 7, .q 9, .q 10, .q 11, .l 12 true, .q 13, .c 8 [12], .q 14, .q 15] (by kernel_rfl) (by kernel_rfl) ?_
  simp (disch := omega) only [↓stq, amv_at, ↓pln, plv, nilOk, Nat.reduceBEq, Bool.or_false, Bool.or_true, Bool.false_or, Bool.true_or, vls, inf, frs, mark_eq, ↓reduceIte, Nat.reduceEqDiff, ite_tt, ite_ff, eq_self, and_true, true_and, and_self, implies_true, Bool.true_eq_false, Bool.false_eq_true, decide_true, decide_false, decide_eq_true_eq, decide_eq_false_iff_not, ne_eq, not_true_eq_false, not_false_eq_true, Bool.not_eq_true', Bool.not_eq_false', beq_self_eq_true, Bool.not_true, Bool.not_false, List.getElem?_toArray, List.getElem?_cons_zero, List.getElem?_cons_succ, ↓aop_nilV, anilV_ptr, add_at, k1, bd_cap, eZ]
  refine bd_mnz n hn ⟨q, _, kq⟩ fun g cs hg hcs hone => ?_
  have hext : Ext A (A.set g ⟨5, cs, cs.length, true⟩) := Ext.new hg _
  replace l := l.cons hext (bx g ⟨5, cs, cs.length, true⟩) (View.set_same ..) (fun x hx => by rw [List.mem_singleton.1 hx]; exact hg) (by simp [bx])
  have k1 := hext.cell k1
  have hcut : cutAddr (some (⟨g, 0, none⟩ : Addr)) 0 cs.length 1 = some ⟨g, 0, none⟩ := by
    unfold cutAddr
    rw [if_neg (by omega)]
    simp [Addr.add]
  simp (disch := omega) only [↓stq, amv_at, ↓pln, plv, nilOk, Nat.reduceBEq, Bool.or_false, Bool.or_true, Bool.false_or, Bool.true_or, vls, inf, frs, mark_eq, ↓reduceIte, Nat.reduceEqDiff, ite_tt, ite_ff, eq_self, and_true, true_and, and_self, implies_true, Bool.true_eq_false, Bool.false_eq_true, decide_true, decide_false, decide_eq_true_eq, decide_eq_false_iff_not, ne_eq, not_true_eq_false, not_false_eq_true, Bool.not_eq_true', Bool.not_eq_false', beq_self_eq_true, Bool.not_true, Bool.not_false, List.getElem?_toArray, List.getElem?_cons_zero, List.getElem?_cons_succ, ↓aop_nilV, anilV_ptr, add_at, k1, hz, hcut]
  refine acopy_none (show Try.prog.underlying 22 = some (.slice 5) by kernel_rfl) (show (Try.prog.info? 5).map (·.size) = some 1 by kernel_rfl) ?_
  simp (disch := omega) only [↓stq, amv_at, vls, inf, frs, mark_eq, ↓reduceIte, Nat.reduceEqDiff, ite_tt, ite_ff, eq_self, and_true, true_and, and_self, implies_true, Bool.true_eq_false, Bool.false_eq_true, decide_true, decide_false, decide_eq_true_eq, decide_eq_false_iff_not, ne_eq, not_true_eq_false, not_false_eq_true, Bool.not_eq_true', Bool.not_eq_false', beq_self_eq_true, Bool.not_true, Bool.not_false, List.getElem?_toArray, List.getElem?_cons_zero, List.getElem?_cons_succ, ↓aop_nilV, anilV_ptr, add_at]
  refine led_store l 1 rfl sz22 (by rfl) (by rfl) (by rfl) fun W l => ?_
  simp (disch := omega) only [↓stq, amv_at, vls, inf, frs, mark_eq, ↓reduceIte, Nat.reduceEqDiff, ite_tt, ite_ff, eq_self, and_true, true_and, and_self, implies_true, Bool.true_eq_false, Bool.false_eq_true, decide_true, decide_false, decide_eq_true_eq, decide_eq_false_iff_not, ne_eq, not_true_eq_false, not_false_eq_true, Bool.not_eq_true', Bool.not_eq_false', beq_self_eq_true, Bool.not_true, Bool.not_false, List.getElem?_toArray, List.getElem?_cons_zero, List.getElem?_cons_succ]
  exact ⟨g, cs, hcs, l.perm (List.Perm.swap ..)⟩

theorem Grow_c (B A : View) (L : List It) (q : Nat) (n : Nat) (hn : n ≤ 16777216) (l : Led B (wb q [] [] :: L) A) :
    ACalls Try.prog 96 #[.pointer (some ⟨q, 0, none⟩), .int .i64 n] A fun _ V => ∃ fp, Led B (wb q fp [] :: L) V := by
  obtain ⟨p, v, hp, l⟩ := wb_open l
  obtain ⟨rfl⟩ : v = .slice none 0 0 := by
    rcases (show Buf A [] v [] from l.at (i := 1) rfl) with ⟨h, _⟩ | ⟨_, _, _, _, _, h, _⟩
    · exact h
    · cases h
  refine ACalls.weaken (R := fun _ V => ∃ g cs, (n = 0 ∧ Led B (wb q [] [] :: L) V) ∨ (0 < cs.length ∧ Led B (bx q ⟨62, [.pointer (some ⟨q, 0, none⟩), .slice (some ⟨g, 0, none⟩) 0 cs.length], 2, true⟩ :: bx g ⟨5, cs, cs.length, true⟩ :: buf [] (.slice none 0 0) [] :: L) V)) ?_ ?_
  · refine acalls Try.func96 rfl (by kernel_rfl) ?_
    simp (disch := omega) only [↓stq, amv_at, vls, inf, frs, mark_eq, ↓reduceIte, Nat.reduceEqDiff, ite_tt, ite_ff, eq_self, and_true, true_and, and_self, implies_true, Bool.true_eq_false, Bool.false_eq_true, decide_true, decide_false, decide_eq_true_eq, decide_eq_false_iff_not, ne_eq, not_true_eq_false, not_false_eq_true, Bool.not_eq_true', Bool.not_eq_false', beq_self_eq_true, Bool.not_true, Bool.not_false, List.getElem?_toArray, List.getElem?_cons_zero, List.getElem?_cons_succ]
    refine (copyCheck_c B A _ q p _ hp l).mono ?_
    rintro _ V l
    have k1 := l.cell (i := 0) rfl (o := 1) rfl rfl
    simp (disch := omega) only [↓stq, amv_at, vls, inf, frs, mark_eq, ↓reduceIte, Nat.reduceEqDiff, ite_tt, ite_ff, eq_self, and_true, true_and, and_self, implies_true, Bool.true_eq_false, Bool.false_eq_true, decide_true, decide_false, decide_eq_true_eq, decide_eq_false_iff_not, ne_eq, not_true_eq_false, not_false_eq_true, Bool.not_eq_true', Bool.not_eq_false', beq_self_eq_true, Bool.not_true, Bool.not_false, List.getElem?_toArray, List.getElem?_cons_zero, List.getElem?_cons_succ]
    refine ⟨fun e => by omega, fun e => ?_⟩
    refine adraw_items [.q 0, .q 1, .q 2, .l 3 false, .q 4, .q 5, .q 6, .q 7, .l 8 false, .q 9, .q 10, .q 11, .q 12] (by kernel_rfl) (by kernel_rfl) ?_
    have eZ : ((0 : Nat) : Int) - ((0 : Nat) : Int) = 0 := rfl
    simp (disch := omega) only [↓stq, amv_at, ↓pln, plv, nilOk, Nat.reduceBEq, Bool.or_false, Bool.or_true, Bool.false_or, Bool.true_or, vls, inf, frs, mark_eq, ↓reduceIte, Nat.reduceEqDiff, ite_tt, ite_ff, eq_self, and_true, true_and, and_self, implies_true, Bool.true_eq_false, Bool.false_eq_true, decide_true, decide_false, decide_eq_true_eq, decide_eq_false_iff_not, ne_eq, not_true_eq_false, not_false_eq_true, Bool.not_eq_true', Bool.not_eq_false', beq_self_eq_true, Bool.not_true, Bool.not_false, List.getElem?_toArray, List.getElem?_cons_zero, List.getElem?_cons_succ, ↓aop_nilV, anilV_ptr, add_at, k1, bd_cap, eZ]
    refine ⟨fun e1 => ?_, fun e1 => ?_⟩
    · simp (disch := omega) only [↓stq, amv_at, vls, inf, frs, mark_eq, ↓reduceIte, Nat.reduceEqDiff, ite_tt, ite_ff, eq_self, and_true, true_and, and_self, implies_true, Bool.true_eq_false, Bool.false_eq_true, decide_true, decide_false, decide_eq_true_eq, decide_eq_false_iff_not, ne_eq, not_true_eq_false, not_false_eq_true, Bool.not_eq_true', Bool.not_eq_false', beq_self_eq_true, Bool.not_true, Bool.not_false, List.getElem?_toArray, List.getElem?_cons_zero, List.getElem?_cons_succ]
      refine (grow_c B V _ q _ n hn (by omega) l).mono ?_
      rintro _ V2 ⟨g, cs, hcs, l⟩
      simp (disch := omega) only [↓stq, amv_at, vls, inf, frs, mark_eq, ↓reduceIte, Nat.reduceEqDiff, ite_tt, ite_ff, eq_self, and_true, true_and, and_self, implies_true, Bool.true_eq_false, Bool.false_eq_true, decide_true, decide_false, decide_eq_true_eq, decide_eq_false_iff_not, ne_eq, not_true_eq_false, not_false_eq_true, Bool.not_eq_true', Bool.not_eq_false', beq_self_eq_true, Bool.not_true, Bool.not_false, List.getElem?_toArray, List.getElem?_cons_zero, List.getElem?_cons_succ]
      exact ⟨g, cs, .inr ⟨by omega, l⟩⟩
    · simp (disch := omega) only [↓stq, amv_at, vls, inf, frs, mark_eq, ↓reduceIte, Nat.reduceEqDiff, ite_tt, ite_ff, eq_self, and_true, true_and, and_self, implies_true, Bool.true_eq_false, Bool.false_eq_true, decide_true, decide_false, decide_eq_true_eq, decide_eq_false_iff_not, ne_eq, not_true_eq_false, not_false_eq_true, Bool.not_eq_true', Bool.not_eq_false', beq_self_eq_true, Bool.not_true, Bool.not_false, List.getElem?_toArray, List.getElem?_cons_zero, List.getElem?_cons_succ]
      exact ⟨0, [], .inl ⟨by omega, wb_close (.inr rfl) l⟩⟩
  · rintro r V ⟨g, cs, h⟩
    rcases h with ⟨_, l⟩ | ⟨h0, l⟩
    · exact ⟨V, fun b k hb => ⟨k, hb, rfl, .inl rfl⟩, [], l⟩
    · have hg : V g = some ⟨5, cs, cs.length, true⟩ := l.at (i := 1) rfl
      refine ⟨V.set g ⟨5, [], cs.length, true⟩, Weaker.set hg rfl ⟨rfl, Nat.le_refl _, Nat.zero_le _, cs, rfl⟩, [g], ?_⟩
      replace l := l.upd (i := 1) (jt := bx g ⟨5, [], cs.length, true⟩) rfl rfl (Only.set _ (List.mem_singleton.2 rfl)) (View.set_same ..)
      refine wb_close (p := some ⟨q, 0, none⟩) (v := .slice (some ⟨g, 0, none⟩) 0 cs.length) (.inr rfl) ?_
      replace l : Led B (bx q ⟨62, [.pointer (some ⟨q, 0, none⟩), .slice (some ⟨g, 0, none⟩) 0 cs.length], 2, true⟩ :: bx g ⟨5, [], cs.length, true⟩ :: buf [] (.slice none 0 0) [] :: L) (V.set g ⟨5, [], cs.length, true⟩) := l
      refine (l.sub (M := bx q ⟨62, [.pointer (some ⟨q, 0, none⟩), .slice (some ⟨g, 0, none⟩) 0 cs.length], 2, true⟩ :: bx g ⟨5, [], cs.length, true⟩ :: L) (.cons_cons _ (.cons_cons _ (.cons _ (List.Sublist.refl _))))).upd (i := 1) (jt := buf [g] _ []) rfl rfl (Only.refl _ _) (.inr ⟨g, cs.length, rfl, Nat.zero_le _, h0, rfl, View.set_same ..⟩)

end Go.Proofs.Ytggklaimbklefaa

/- Bytes as a text. -/
set_option maxHeartbeats 4000000
set_option synthInstance.maxHeartbeats 400000
set_option synthInstance.maxSize 4096
set_option linter.unusedSimpArgs false
set_option linter.unusedVariables false
namespace Go.Proofs.Ytggklaimbklefaa

set_option maxRecDepth 100000

/-- Bytes as a text. -/
def Bt (l : List UInt8) : ByteArray := ⟨l.toArray⟩
theorem Bt_list (l : List UInt8) : (Bt l).data.toList = l := by simp [Bt]
theorem Bt_of (s : ByteArray) : Bt s.data.toList = s := by
  apply ByteArray.ext
  simp [Bt]
theorem Bt_size (l : List UInt8) : (Bt l).size = l.length := by
  show l.toArray.size = _
  simp
theorem Bt_inj {l m : List UInt8} (h : Bt l = Bt m) : l = m := by rw [← Bt_list l, h, Bt_list]
theorem Bt_app (l m : List UInt8) : Bt l ++ Bt m = Bt (l ++ m) := by
  apply ByteArray.ext
  simp [Bt]
theorem Bt_extract (l : List UInt8) (i j : Nat) : (Bt l).extract i j = Bt ((l.take j).drop i) := by
  apply ByteArray.ext
  apply Array.toList_inj.1
  show (((Bt l).extract i j).data).toList = _
  rw [ByteArray.data_extract]
  simp [Bt, List.extract_eq_take_drop, List.drop_take]

end Go.Proofs.Ytggklaimbklefaa

/- strings.Join, and the reference's own. -/
set_option maxHeartbeats 4000000
set_option synthInstance.maxHeartbeats 400000
set_option synthInstance.maxSize 4096
set_option linter.unusedSimpArgs false
set_option linter.unusedVariables false
namespace Go.Proofs.Ytggklaimbklefaa

set_option maxRecDepth 100000

/-- Texts one behind the other, with something between two of them. -/
def joinA (sep : List UInt8) : List ByteArray → List UInt8
  | [] => []
  | x :: xs => x.data.toList ++ xs.flatMap fun y => sep ++ y.data.toList
theorem joinA_cons (sep : List UInt8) (x : ByteArray) (xs : List ByteArray) : joinA sep (x :: xs) = x.data.toList ++ xs.flatMap fun y => sep ++ y.data.toList := rfl
theorem joinA_one (sep : List UInt8) {xs : List ByteArray} (h : 0 < xs.length) : joinA sep (xs.take 1) = (xs[0]).data.toList := by
  cases xs with
  | nil => cases h
  | cons x xs => simp [joinA]
theorem joinA_take (sep : List UInt8) {xs : List ByteArray} {i : Nat} (hi : i < xs.length) (h0 : 0 < i) : joinA sep (xs.take (i + 1)) = joinA sep (xs.take i) ++ (sep ++ (xs[i]).data.toList) := by
  cases xs with
  | nil => cases hi
  | cons x xs =>
    obtain ⟨j, rfl⟩ : ∃ j, i = j + 1 := ⟨i - 1, by omega⟩
    have hj : j < xs.length := by simpa using hi
    rw [List.take_succ_cons, List.take_succ_cons, List.take_succ_eq_append_getElem hj]
    rw [joinA_cons, joinA_cons, List.flatMap_append, List.getElem_cons_succ]
    simp only [List.flatMap_cons, List.flatMap_nil, List.append_nil, List.append_assoc]
theorem joinA_le (sep : List UInt8) (xs : List ByteArray) (i : Nat) : (joinA sep (xs.take i)).length ≤ (joinA sep xs).length := by
  cases xs with
  | nil => simp
  | cons x xs =>
    cases i with
    | zero => simp [joinA]
    | succ i =>
      rw [List.take_succ_cons]
      unfold joinA
      conv => rhs; rw [← List.take_append_drop i xs]
      simp only [List.flatMap_append, List.length_append]
      omega
/-- How many bytes the texts have. -/
def lenS (xs : List ByteArray) : Nat := (xs.map (·.size)).sum
theorem lenS_take {xs : List ByteArray} {i : Nat} (hi : i < xs.length) : lenS (xs.take (i + 1)) = lenS (xs.take i) + (xs[i]).size := by
  unfold lenS
  rw [List.take_succ_eq_append_getElem hi, List.map_append, List.sum_append]
  simp only [List.map_cons, List.map_nil, List.sum_cons, List.sum_nil, Nat.add_zero]
theorem lenS_le (xs : List ByteArray) (i : Nat) : lenS (xs.take i) ≤ lenS xs := by
  unfold lenS
  conv => rhs; rw [← List.take_append_drop i xs]
  rw [List.map_append, List.sum_append]
  omega
theorem dsize (s : ByteArray) : s.data.toList.length = s.size := by rw [Array.length_toList]; rfl
theorem joinA_len (sep : List UInt8) : ∀ xs : List ByteArray, (joinA sep xs).length = lenS xs + (xs.length - 1) * sep.length
  | [] => by simp [joinA, lenS]
  | x :: xs => by
    have key : ∀ xs : List ByteArray, (xs.flatMap fun y => sep ++ y.data.toList).length = lenS xs + xs.length * sep.length := by
      intro xs
      induction xs with
      | nil => simp [lenS]
      | cons y ys ih =>
        rw [List.flatMap_cons, List.length_append, ih, List.length_append, dsize]
        unfold lenS
        rw [List.map_cons, List.sum_cons, List.length_cons, Nat.add_mul]
        omega
    unfold joinA
    rw [List.length_append, key, dsize]
    unfold lenS
    rw [List.map_cons, List.sum_cons, List.length_cons, Nat.add_sub_cancel]
    omega

theorem joinWith_c (A : View) (v : Value) (xs : List ByteArray) (sep : ByteArray) (h : Sl strS A v xs) (hsm : (joinA sep.data.toList xs).length ≤ 16777216) : ACalls Try.prog 89 #[v, .string sep] A fun r V => r = .string (Bt (joinA sep.data.toList xs)) ∧ V = A := by
  obtain ⟨a, c, rfl, _, hl⟩ := h.slice
  have hsl := dsize sep
  refine acalls Try.func89 rfl (by kernel_rfl) ?_
  simp (disch := omega) only [↓stq, amv_at, vls, inf, frs, mark_eq, ↓reduceIte, Nat.reduceEqDiff, ite_tt, ite_ff, eq_self, and_true, true_and, and_self, implies_true, Bool.true_eq_false, Bool.false_eq_true, decide_true, decide_false, decide_eq_true_eq, decide_eq_false_iff_not, ne_eq, not_true_eq_false, not_false_eq_true, Bool.not_eq_true', Bool.not_eq_false', beq_self_eq_true, Bool.not_true, Bool.not_false, List.getElem?_toArray, List.getElem?_cons_zero, List.getElem?_cons_succ]
  refine aloop (fun d fr V => ∃ i : Nat, i ≤ xs.length ∧ d = xs.length - i ∧ V = A ∧ fr 0 = .slice a xs.length c ∧ fr 1 = .string sep ∧ fr 5 = .string (Bt (joinA sep.data.toList (xs.take i))) ∧ fr 6 = .int .i64 i) xs.length ⟨0, by omega, by omega, rfl, by rfl, by rfl, by rfl, by rfl⟩ ?_
  rintro d fr V ⟨i, hi, rfl, rfl, h0, h1, h5, h6⟩
  simp (disch := omega) only [↓stq, amv_at, vls, inf, frs, mark_eq, ↓reduceIte, Nat.reduceEqDiff, ite_tt, ite_ff, eq_self, and_true, true_and, and_self, implies_true, Bool.true_eq_false, Bool.false_eq_true, decide_true, decide_false, decide_eq_true_eq, decide_eq_false_iff_not, ne_eq, not_true_eq_false, not_false_eq_true, Bool.not_eq_true', Bool.not_eq_false', beq_self_eq_true, Bool.not_true, Bool.not_false, List.getElem?_toArray, List.getElem?_cons_zero, List.getElem?_cons_succ, h0, h1, h5, h6]
  refine ⟨fun e1 => ?_, fun e1 => ?_⟩
  · have hlt : i < xs.length := by omega
    obtain ⟨ad, rfl, hcl, _⟩ := h.str hlt
    have hle := joinA_le sep.data.toList xs (i + 1)
    have hbs := Bt_size (joinA sep.data.toList (xs.take i))
    have hxz := dsize xs[i]
    by_cases hi0 : 0 < i
    · have hj := joinA_take sep.data.toList hlt hi0
      rw [hj, List.length_append, List.length_append] at hle
      have e2 : (0 < (i : Int)) = True := eq_true (by omega)
      have s1 := ByteArray.size_append (a := Bt (joinA sep.data.toList (xs.take i))) (b := sep)
      simp (disch := omega) only [↓stq, amv_at, vls, inf, frs, mark_eq, ↓reduceIte, Nat.reduceEqDiff, ite_tt, ite_ff, eq_self, and_true, true_and, and_self, implies_true, Bool.true_eq_false, Bool.false_eq_true, decide_true, decide_false, decide_eq_true_eq, decide_eq_false_iff_not, ne_eq, not_true_eq_false, not_false_eq_true, Bool.not_eq_true', Bool.not_eq_false', beq_self_eq_true, Bool.not_true, Bool.not_false, List.getElem?_toArray, List.getElem?_cons_zero, List.getElem?_cons_succ, h0, h1, h5, h6, e2]
      simp (disch := omega) only [↓stq, amv_at, vls, inf, frs, mark_eq, ↓reduceIte, Nat.reduceEqDiff, ite_tt, ite_ff, eq_self, and_true, true_and, and_self, implies_true, Bool.true_eq_false, Bool.false_eq_true, decide_true, decide_false, decide_eq_true_eq, decide_eq_false_iff_not, ne_eq, not_true_eq_false, not_false_eq_true, Bool.not_eq_true', Bool.not_eq_false', beq_self_eq_true, Bool.not_true, Bool.not_false, List.getElem?_toArray, List.getElem?_cons_zero, List.getElem?_cons_succ, h0, h1, h5, h6, hcl]
      refine ⟨_, by omega, i + 1, by omega, rfl, ?_⟩
      rw [hj]
      refine ⟨congrArg Value.string (ByteArray.ext ?_), rfl⟩
      simp [Bt]
    · have hie : i = 0 := by omega
      subst hie
      have hj := joinA_one sep.data.toList (xs := xs) (by omega)
      rw [Nat.zero_add, hj] at hle
      have e2 : (0 < ((0 : Nat) : Int)) = False := eq_false (by omega)
      have hb0 : (Bt (joinA sep.data.toList (xs.take 0))).size = 0 := rfl
      simp (disch := omega) only [↓stq, amv_at, vls, inf, frs, mark_eq, ↓reduceIte, Nat.reduceEqDiff, ite_tt, ite_ff, eq_self, and_true, true_and, and_self, implies_true, Bool.true_eq_false, Bool.false_eq_true, decide_true, decide_false, decide_eq_true_eq, decide_eq_false_iff_not, ne_eq, not_true_eq_false, not_false_eq_true, Bool.not_eq_true', Bool.not_eq_false', beq_self_eq_true, Bool.not_true, Bool.not_false, List.getElem?_toArray, List.getElem?_cons_zero, List.getElem?_cons_succ, h0, h1, h5, h6, e2]
      simp (disch := omega) only [↓stq, amv_at, vls, inf, frs, mark_eq, ↓reduceIte, Nat.reduceEqDiff, ite_tt, ite_ff, eq_self, and_true, true_and, and_self, implies_true, Bool.true_eq_false, Bool.false_eq_true, decide_true, decide_false, decide_eq_true_eq, decide_eq_false_iff_not, ne_eq, not_true_eq_false, not_false_eq_true, Bool.not_eq_true', Bool.not_eq_false', beq_self_eq_true, Bool.not_true, Bool.not_false, List.getElem?_toArray, List.getElem?_cons_zero, List.getElem?_cons_succ, h0, h1, h5, h6, hcl]
      refine ⟨_, by omega, 0 + 1, by omega, rfl, ?_⟩
      rw [Nat.zero_add, hj]
      refine ⟨congrArg Value.string (ByteArray.ext ?_), rfl⟩
      simp [Bt, joinA]
  · have hie : i = xs.length := by omega
    subst hie
    rw [List.take_length] at h5
    simp (disch := omega) only [↓stq, amv_at, vls, inf, frs, mark_eq, ↓reduceIte, Nat.reduceEqDiff, ite_tt, ite_ff, eq_self, and_true, true_and, and_self, implies_true, Bool.true_eq_false, Bool.false_eq_true, decide_true, decide_false, decide_eq_true_eq, decide_eq_false_iff_not, ne_eq, not_true_eq_false, not_false_eq_true, Bool.not_eq_true', Bool.not_eq_false', beq_self_eq_true, Bool.not_true, Bool.not_false, List.getElem?_toArray, List.getElem?_cons_zero, List.getElem?_cons_succ, h0, h1, h5, h6]

theorem join_c (A : View) (v : Value) (xs : List ByteArray) (sep : ByteArray) (h : Sl strS A v xs) (hsep : 0 < sep.size ∧ sep.size ≤ 16) (hx : xs.length ≤ 1048577) (hsm : (joinA sep.data.toList xs).length ≤ 16777216) :
    ACalls Try.prog 73 #[v, .string sep] A fun r V => r = .string (Bt (joinA sep.data.toList xs)) ∧ Ext A V := by
  obtain ⟨a, c, rfl, hc, hl⟩ := h.slice
  have hsl := dsize sep
  have hlen := joinA_len sep.data.toList xs
  rw [hsl] at hlen
  refine acalls Try.func73 rfl (by kernel_rfl) ?_
  simp (disch := omega) only [↓stq, amv_at, vls, inf, frs, mark_eq, ↓reduceIte, Nat.reduceEqDiff, ite_tt, ite_ff, eq_self, and_true, true_and, and_self, implies_true, Bool.true_eq_false, Bool.false_eq_true, decide_true, decide_false, decide_eq_true_eq, decide_eq_false_iff_not, ne_eq, not_true_eq_false, not_false_eq_true, Bool.not_eq_true', Bool.not_eq_false', beq_self_eq_true, Bool.not_true, Bool.not_false, List.getElem?_toArray, List.getElem?_cons_zero, List.getElem?_cons_succ]
  by_cases h0 : xs.length = 0
  · have e0 : ((xs.length : Int) = 0) = True := eq_true (by omega)
    have hxs : xs = [] := List.eq_nil_of_length_eq_zero h0
    simp (disch := omega) only [↓stq, amv_at, vls, inf, frs, mark_eq, ↓reduceIte, Nat.reduceEqDiff, ite_tt, ite_ff, eq_self, and_true, true_and, and_self, implies_true, Bool.true_eq_false, Bool.false_eq_true, decide_true, decide_false, decide_eq_true_eq, decide_eq_false_iff_not, ne_eq, not_true_eq_false, not_false_eq_true, Bool.not_eq_true', Bool.not_eq_false', beq_self_eq_true, Bool.not_true, Bool.not_false, List.getElem?_toArray, List.getElem?_cons_zero, List.getElem?_cons_succ, e0]
    rw [hxs]
    exact ⟨rfl, Ext.refl _⟩
  have e0 : ((xs.length : Int) = 0) = False := eq_false (by omega)
  by_cases h1 : xs.length = 1
  · have e1 : ((xs.length : Int) = 1) = True := eq_true (by omega)
    obtain ⟨ad, rfl, hcl, _⟩ := h.str (i := 0) (by omega)
    replace hcl : A.cell (ad.add (Int.toNat 0)) = some (.string xs[0]) := hcl
    simp (disch := omega) only [↓stq, amv_at, vls, inf, frs, mark_eq, ↓reduceIte, Nat.reduceEqDiff, ite_tt, ite_ff, eq_self, and_true, true_and, and_self, implies_true, Bool.true_eq_false, Bool.false_eq_true, decide_true, decide_false, decide_eq_true_eq, decide_eq_false_iff_not, ne_eq, not_true_eq_false, not_false_eq_true, Bool.not_eq_true', Bool.not_eq_false', beq_self_eq_true, Bool.not_true, Bool.not_false, List.getElem?_toArray, List.getElem?_cons_zero, List.getElem?_cons_succ, e0, e1, hcl]
    have hj := joinA_one sep.data.toList (xs := xs) (by omega)
    rw [List.take_of_length_le (by omega)] at hj
    rw [hj, Bt_of]
    exact ⟨rfl, Ext.refl _⟩
  have e1 : ((xs.length : Int) = 1) = False := eq_false (by omega)
  obtain ⟨Q, hQ, hQ1, hQ2⟩ : ∃ Q : Nat, (9223372036854775807 : Int).tdiv ((xs.length : Int) - 1) = Q ∧ 1000 ≤ Q ∧ Q ≤ 9223372036854775807 := by
    refine ⟨9223372036854775807 / (xs.length - 1), ?_, ?_, Nat.div_le_self _ _⟩
    · rw [show ((xs.length : Int) - 1) = ((xs.length - 1 : Nat) : Int) by omega]
      rfl
    · rw [Nat.le_div_iff_mul_le (by omega)]
      have := Nat.mul_le_mul_left 1000 (show xs.length - 1 ≤ 1048576 by omega)
      omega
  have hm : ∃ M : Nat, (sep.size : Int) * ((xs.length : Int) - 1) = M ∧ M = (xs.length - 1) * sep.size := by
    refine ⟨(xs.length - 1) * sep.size, ?_, rfl⟩
    rw [show ((xs.length : Int) - 1) = ((xs.length - 1 : Nat) : Int) by omega, Int.mul_comm, Int.natCast_mul]
  obtain ⟨M, hM, hM2⟩ := hm
  have hM3 : M ≤ 16777216 := by omega
  have e2 : (0 < (sep.size : Int)) = True := eq_true (by omega)
  have e3 : (Q ≤ (sep.size : Int)) = False := eq_false (by omega)
  have e4 : ¬ ((xs.length : Int) - 1 = 0) := by omega
  simp (disch := omega) only [↓stq, amv_at, vls, inf, frs, mark_eq, ↓reduceIte, Nat.reduceEqDiff, ite_tt, ite_ff, eq_self, and_true, true_and, and_self, implies_true, Bool.true_eq_false, Bool.false_eq_true, decide_true, decide_false, decide_eq_true_eq, decide_eq_false_iff_not, ne_eq, not_true_eq_false, not_false_eq_true, Bool.not_eq_true', Bool.not_eq_false', beq_self_eq_true, Bool.not_true, Bool.not_false, List.getElem?_toArray, List.getElem?_cons_zero, List.getElem?_cons_succ, e0, e1, e2, abin_quo, hQ, e3, hM]
  refine aloop (fun d fr V => ∃ i : Nat, i ≤ xs.length ∧ d = xs.length - i ∧ V = A ∧ fr 0 = .slice a xs.length c ∧ fr 1 = .string sep ∧ fr 5 = .int .i64 ((M + lenS (xs.take i) : Nat) : Int) ∧ fr 39 = .slice a xs.length c ∧ fr 40 = .int .i64 xs.length ∧ fr 41 = .int .i64 i) xs.length ⟨0, by omega, by omega, rfl, by rfl, by rfl, ?_, by rfl, by rfl, by rfl⟩ ?_
  · simp (disch := omega) only [↓stq, amv_at, vls, inf, frs, mark_eq, ↓reduceIte, Nat.reduceEqDiff, ite_tt, ite_ff, eq_self, and_true, true_and, and_self, implies_true, Bool.true_eq_false, Bool.false_eq_true, decide_true, decide_false, decide_eq_true_eq, decide_eq_false_iff_not, ne_eq, not_true_eq_false, not_false_eq_true, Bool.not_eq_true', Bool.not_eq_false', beq_self_eq_true, Bool.not_true, Bool.not_false, List.getElem?_toArray, List.getElem?_cons_zero, List.getElem?_cons_succ]
    rw [List.take_zero]
    show Value.int .i64 (0 + (M : Int)) = .int .i64 ((M + 0 : Nat) : Int)
    congr 1
    omega
  rintro d fr V ⟨i, hi, rfl, rfl, g0, g1, g5, g39, g40, g41⟩
  have hle := lenS_le xs i
  simp (disch := omega) only [↓stq, amv_at, vls, inf, frs, mark_eq, ↓reduceIte, Nat.reduceEqDiff, ite_tt, ite_ff, eq_self, and_true, true_and, and_self, implies_true, Bool.true_eq_false, Bool.false_eq_true, decide_true, decide_false, decide_eq_true_eq, decide_eq_false_iff_not, ne_eq, not_true_eq_false, not_false_eq_true, Bool.not_eq_true', Bool.not_eq_false', beq_self_eq_true, Bool.not_true, Bool.not_false, List.getElem?_toArray, List.getElem?_cons_zero, List.getElem?_cons_succ, g0, g1, g5, g39, g40, g41]
  refine ⟨fun e => ?_, fun e => ?_⟩
  · have hlt : i < xs.length := by omega
    obtain ⟨ad, rfl, hcl, hz⟩ := h.str hlt
    have hnx := lenS_take hlt
    have hle2 := lenS_le xs (i + 1)
    have e5 : ((9223372036854775807 : Int) - ((M + lenS (xs.take i) : Nat) : Int) < (xs[i]).size) = False := eq_false (by omega)
    simp (disch := omega) only [↓stq, amv_at, vls, inf, frs, mark_eq, ↓reduceIte, Nat.reduceEqDiff, ite_tt, ite_ff, eq_self, and_true, true_and, and_self, implies_true, Bool.true_eq_false, Bool.false_eq_true, decide_true, decide_false, decide_eq_true_eq, decide_eq_false_iff_not, ne_eq, not_true_eq_false, not_false_eq_true, Bool.not_eq_true', Bool.not_eq_false', beq_self_eq_true, Bool.not_true, Bool.not_false, List.getElem?_toArray, List.getElem?_cons_zero, List.getElem?_cons_succ, g0, g1, g5, g39, g40, g41, hcl, e5]
    refine ⟨_, by omega, i + 1, by omega, rfl, ?_, rfl⟩
    congr 1
    rw [hnx]
    omega
  · have hie : i = xs.length := by omega
    subst hie
    rw [List.take_length] at g5
    simp (disch := omega) only [↓stq, amv_at, vls, inf, frs, mark_eq, ↓reduceIte, Nat.reduceEqDiff, ite_tt, ite_ff, eq_self, and_true, true_and, and_self, implies_true, Bool.true_eq_false, Bool.false_eq_true, decide_true, decide_false, decide_eq_true_eq, decide_eq_false_iff_not, ne_eq, not_true_eq_false, not_false_eq_true, Bool.not_eq_true', Bool.not_eq_false', beq_self_eq_true, Bool.not_true, Bool.not_false, List.getElem?_toArray, List.getElem?_cons_zero, List.getElem?_cons_succ, g0, g1, g5, g39, g40, g41]
    refine led_alloc zc62 (Led.nil V) fun q V1 _ l => ?_
    simp (disch := omega) only [↓stq, amv_at, vls, inf, frs, mark_eq, ↓reduceIte, Nat.reduceEqDiff, ite_tt, ite_ff, eq_self, and_true, true_and, and_self, implies_true, Bool.true_eq_false, Bool.false_eq_true, decide_true, decide_false, decide_eq_true_eq, decide_eq_false_iff_not, ne_eq, not_true_eq_false, not_false_eq_true, Bool.not_eq_true', Bool.not_eq_false', beq_self_eq_true, Bool.not_true, Bool.not_false, List.getElem?_toArray, List.getElem?_cons_zero, List.getElem?_cons_succ, g0, g1, g5, g39, g40, g41]
    refine (Grow_c V V1 [] q (M + lenS xs) (by omega) (wb_new l)).mono ?_
    rintro _ V2 ⟨fp, l⟩
    obtain ⟨ad, rfl, hcl, hz⟩ := h.str (i := 0) (by omega)
    replace hcl : V.cell (ad.add (Int.toNat 0)) = some (.string xs[0]) := hcl
    have k0 := l.ext.cell hcl
    simp (disch := omega) only [↓stq, amv_at, vls, inf, frs, mark_eq, ↓reduceIte, Nat.reduceEqDiff, ite_tt, ite_ff, eq_self, and_true, true_and, and_self, implies_true, Bool.true_eq_false, Bool.false_eq_true, decide_true, decide_false, decide_eq_true_eq, decide_eq_false_iff_not, ne_eq, not_true_eq_false, not_false_eq_true, Bool.not_eq_true', Bool.not_eq_false', beq_self_eq_true, Bool.not_true, Bool.not_false, List.getElem?_toArray, List.getElem?_cons_zero, List.getElem?_cons_succ, g0, g1, g5, g39, g40, g41, k0]
    have hj1 := joinA_one sep.data.toList (xs := xs) (by omega)
    have hle1 := joinA_le sep.data.toList xs 1
    rw [hj1, dsize] at hle1
    refine (writeString_c V V2 [] q fp [] _ (by rw [List.length_nil]; omega) l).mono ?_
    rintro _ V3 ⟨rfl, fp2, l⟩
    rw [List.nil_append, ← hj1] at l
    have hdr := h.drop (k := 1) (by omega)
    have e6 : (1 : Int).toNat = 1 := rfl
    simp (disch := omega) only [↓stq, amv_at, vls, inf, frs, mark_eq, ↓reduceIte, Nat.reduceEqDiff, ite_tt, ite_ff, eq_self, and_true, true_and, and_self, implies_true, Bool.true_eq_false, Bool.false_eq_true, decide_true, decide_false, decide_eq_true_eq, decide_eq_false_iff_not, ne_eq, not_true_eq_false, not_false_eq_true, Bool.not_eq_true', Bool.not_eq_false', beq_self_eq_true, Bool.not_true, Bool.not_false, List.getElem?_toArray, List.getElem?_cons_zero, List.getElem?_cons_succ, g0, g1, g5, g39, g40, g41, e6]
    refine aloop (fun d fr V' => ∃ (i : Nat) (fp : List Nat), 1 ≤ i ∧ i ≤ xs.length ∧ d = xs.length - i ∧ Led V [wb q fp (joinA sep.data.toList (xs.take i))] V' ∧ fr 1 = .string sep ∧ fr 8 = .pointer (some ⟨q, 0, none⟩) ∧ fr 63 = .slice (cutAddr (some ad) 1 c 1) (xs.length - 1) (c - 1) ∧ fr 64 = .int .i64 (xs.length - 1 : Nat) ∧ fr 65 = .int .i64 (i - 1 : Nat)) (xs.length - 1) ⟨1, fp2, by omega, by omega, rfl, l, by simp (disch := omega) only [↓stq, amv_at, vls, inf, frs, mark_eq, ↓reduceIte, Nat.reduceEqDiff, ite_tt, ite_ff, eq_self, and_true, true_and, and_self, implies_true, Bool.true_eq_false, Bool.false_eq_true, decide_true, decide_false, decide_eq_true_eq, decide_eq_false_iff_not, ne_eq, not_true_eq_false, not_false_eq_true, Bool.not_eq_true', Bool.not_eq_false', beq_self_eq_true, Bool.not_true, Bool.not_false, List.getElem?_toArray, List.getElem?_cons_zero, List.getElem?_cons_succ, g0, g1, g5, g39, g40, g41], by rfl, by rfl, by rfl, by rfl⟩ ?_
    clear l
    rintro d fr V' ⟨i, fp, hi1, hi2, rfl, l, g1, g8, g63, g64, g65⟩
    simp (disch := omega) only [↓stq, amv_at, vls, inf, frs, mark_eq, ↓reduceIte, Nat.reduceEqDiff, ite_tt, ite_ff, eq_self, and_true, true_and, and_self, implies_true, Bool.true_eq_false, Bool.false_eq_true, decide_true, decide_false, decide_eq_true_eq, decide_eq_false_iff_not, ne_eq, not_true_eq_false, not_false_eq_true, Bool.not_eq_true', Bool.not_eq_false', beq_self_eq_true, Bool.not_true, Bool.not_false, List.getElem?_toArray, List.getElem?_cons_zero, List.getElem?_cons_succ, g1, g8, g63, g64, g65]
    refine ⟨fun e => ?_, fun e => ?_⟩
    · have hlt : i < xs.length := by omega
      have hdl : (xs.drop 1).length = xs.length - 1 := by rw [List.length_drop]
      obtain ⟨ad2, hq, hcl2, hz2⟩ := hdr.str (i := i - 1) (by rw [hdl]; omega)
      have hget : (xs.drop 1)[i - 1]'(by rw [hdl]; omega) = xs[i] := by
        rw [List.getElem_drop]
        congr 1
        omega
      rw [hget] at hcl2
      have hq' : cutAddr (some ad) 1 c 1 = some ad2 := hq
      have kc := l.ext.cell hcl2
      have hj := joinA_take sep.data.toList hlt (by omega)
      have hle3 := joinA_le sep.data.toList xs (i + 1)
      rw [hj, List.length_append, List.length_append, dsize, dsize] at hle3
      simp (disch := omega) only [↓stq, amv_at, vls, inf, frs, mark_eq, ↓reduceIte, Nat.reduceEqDiff, ite_tt, ite_ff, eq_self, and_true, true_and, and_self, implies_true, Bool.true_eq_false, Bool.false_eq_true, decide_true, decide_false, decide_eq_true_eq, decide_eq_false_iff_not, ne_eq, not_true_eq_false, not_false_eq_true, Bool.not_eq_true', Bool.not_eq_false', beq_self_eq_true, Bool.not_true, Bool.not_false, List.getElem?_toArray, List.getElem?_cons_zero, List.getElem?_cons_succ, g1, g8, g63, g64, g65, hq', kc]
      refine (writeString_c V V' [] q fp _ sep (by omega) l).mono ?_
      rintro _ V4 ⟨rfl, fp3, l⟩
      simp (disch := omega) only [↓stq, amv_at, vls, inf, frs, mark_eq, ↓reduceIte, Nat.reduceEqDiff, ite_tt, ite_ff, eq_self, and_true, true_and, and_self, implies_true, Bool.true_eq_false, Bool.false_eq_true, decide_true, decide_false, decide_eq_true_eq, decide_eq_false_iff_not, ne_eq, not_true_eq_false, not_false_eq_true, Bool.not_eq_true', Bool.not_eq_false', beq_self_eq_true, Bool.not_true, Bool.not_false, List.getElem?_toArray, List.getElem?_cons_zero, List.getElem?_cons_succ, g1, g8, g63, g64, g65]
      refine (writeString_c V V4 [] q fp3 _ xs[i] (by rw [List.length_append, dsize]; omega) l).mono ?_
      rintro _ V5 ⟨rfl, fp4, l⟩
      simp (disch := omega) only [↓stq, amv_at, vls, inf, frs, mark_eq, ↓reduceIte, Nat.reduceEqDiff, ite_tt, ite_ff, eq_self, and_true, true_and, and_self, implies_true, Bool.true_eq_false, Bool.false_eq_true, decide_true, decide_false, decide_eq_true_eq, decide_eq_false_iff_not, ne_eq, not_true_eq_false, not_false_eq_true, Bool.not_eq_true', Bool.not_eq_false', beq_self_eq_true, Bool.not_true, Bool.not_false, List.getElem?_toArray, List.getElem?_cons_zero, List.getElem?_cons_succ, g1, g8, g63, g64, g65]
      refine ⟨_, by omega, i + 1, fp4, by omega, by omega, rfl, ?_, ?_⟩
      · rw [hj, ← List.append_assoc]
        exact l
      · congr 1
        omega
    · have hie : i = xs.length := by omega
      subst hie
      rw [List.take_length] at l
      simp (disch := omega) only [↓stq, amv_at, vls, inf, frs, mark_eq, ↓reduceIte, Nat.reduceEqDiff, ite_tt, ite_ff, eq_self, and_true, true_and, and_self, implies_true, Bool.true_eq_false, Bool.false_eq_true, decide_true, decide_false, decide_eq_true_eq, decide_eq_false_iff_not, ne_eq, not_true_eq_false, not_false_eq_true, Bool.not_eq_true', Bool.not_eq_false', beq_self_eq_true, Bool.not_true, Bool.not_false, List.getElem?_toArray, List.getElem?_cons_zero, List.getElem?_cons_succ, g1, g8, g63, g64, g65]
      refine (string_c V V' [] q fp _ (by omega) l).mono ?_
      rintro _ V6 ⟨rfl, l⟩
      simp (disch := omega) only [↓stq, amv_at, vls, inf, frs, mark_eq, ↓reduceIte, Nat.reduceEqDiff, ite_tt, ite_ff, eq_self, and_true, true_and, and_self, implies_true, Bool.true_eq_false, Bool.false_eq_true, decide_true, decide_false, decide_eq_true_eq, decide_eq_false_iff_not, ne_eq, not_true_eq_false, not_false_eq_true, Bool.not_eq_true', Bool.not_eq_false', beq_self_eq_true, Bool.not_true, Bool.not_false, List.getElem?_toArray, List.getElem?_cons_zero, List.getElem?_cons_succ, g1, g8, g63, g64, g65]
      exact ⟨rfl, l.ext⟩

end Go.Proofs.Ytggklaimbklefaa

/- Valid names and tests. -/
set_option maxHeartbeats 4000000
set_option synthInstance.maxHeartbeats 400000
set_option synthInstance.maxSize 4096
set_option linter.unusedSimpArgs false
set_option linter.unusedVariables false
namespace Go.Proofs.Ytggklaimbklefaa

set_option maxRecDepth 100000

def namesB (xs : List ByteArray) (m : Int) : Bool := xs.all nmOk && decide xs.Nodup && decide ((xs.length : Int) ≤ m)

theorem namesB_len {xs : List ByteArray} {m : Int} (h : namesB xs m = true) : (xs.length : Int) ≤ m := by
  unfold namesB at h
  simp only [Bool.and_eq_true, decide_eq_true_eq] at h
  exact h.2

theorem impl_namesOk_c (A : View) (v : Value) (xs : List ByteArray) (m : Int) (h : Sl strS A v xs) : ACalls Try.prog 91 #[v, .int .i64 m] A fun r A' => r = .bool (namesB xs m) ∧ A' = A := by
  obtain ⟨a, c, rfl, hc, hl⟩ := h.slice
  refine acalls Try.func91 rfl (by kernel_rfl) ?_
  simp (disch := omega) only [↓stp, vls, inf, frs, mark_eq, ↓reduceIte, Nat.reduceEqDiff, ite_tt, ite_ff, eq_self, and_true, true_and, and_self, implies_true, Bool.true_eq_false, Bool.false_eq_true, decide_true, decide_false, decide_eq_true_eq, decide_eq_false_iff_not, ne_eq, not_true_eq_false, not_false_eq_true, Bool.not_eq_true', Bool.not_eq_false', beq_self_eq_true, Bool.not_true, Bool.not_false, List.getElem?_toArray, List.getElem?_cons_zero, List.getElem?_cons_succ]
  refine aloop (fun d fr A' => ∃ i : Nat, i ≤ xs.length ∧ d = xs.length - i ∧ A' = A ∧ fr 0 = .slice a xs.length c ∧ fr 1 = .int .i64 m ∧ fr 7 = .slice a xs.length c ∧ fr 8 = .int .i64 xs.length ∧ fr 9 = .int .i64 i ∧ (xs.take i).all nmOk = true ∧ (xs.take i).Nodup) xs.length ⟨0, by omega, by omega, rfl, rfl, rfl, by rfl, by rfl, by rfl, by simp, by simp⟩ ?_
  rintro d fr A ⟨i, hi, rfl, rfl, h0, h1, h7, h8, h9, hn, hn2⟩
  simp (disch := omega) only [↓stp, vls, inf, frs, mark_eq, ↓reduceIte, Nat.reduceEqDiff, ite_tt, ite_ff, eq_self, and_true, true_and, and_self, implies_true, Bool.true_eq_false, Bool.false_eq_true, decide_true, decide_false, decide_eq_true_eq, decide_eq_false_iff_not, ne_eq, not_true_eq_false, not_false_eq_true, Bool.not_eq_true', Bool.not_eq_false', beq_self_eq_true, Bool.not_true, Bool.not_false, List.getElem?_toArray, List.getElem?_cons_zero, List.getElem?_cons_succ, h0, h1, h7, h8, h9]
  refine ⟨fun e => ?_, fun e => ?_⟩
  · obtain ⟨ad, rfl, hcl, hsz⟩ := h.str (i := i) (by omega)
    simp (disch := omega) only [↓stp, vls, inf, frs, mark_eq, ↓reduceIte, Nat.reduceEqDiff, ite_tt, ite_ff, eq_self, and_true, true_and, and_self, implies_true, Bool.true_eq_false, Bool.false_eq_true, decide_true, decide_false, decide_eq_true_eq, decide_eq_false_iff_not, ne_eq, not_true_eq_false, not_false_eq_true, Bool.not_eq_true', Bool.not_eq_false', beq_self_eq_true, Bool.not_true, Bool.not_false, List.getElem?_toArray, List.getElem?_cons_zero, List.getElem?_cons_succ, h0, h1, h7, h8, h9, hcl]
    refine (impl_nameOk_c A _ hsz).mono ?_
    rintro _ A ⟨rfl, rfl⟩
    simp (disch := omega) only [↓stp, vls, inf, frs, mark_eq, ↓reduceIte, Nat.reduceEqDiff, ite_tt, ite_ff, eq_self, and_true, true_and, and_self, implies_true, Bool.true_eq_false, Bool.false_eq_true, decide_true, decide_false, decide_eq_true_eq, decide_eq_false_iff_not, ne_eq, not_true_eq_false, not_false_eq_true, Bool.not_eq_true', Bool.not_eq_false', beq_self_eq_true, Bool.not_true, Bool.not_false, List.getElem?_toArray, List.getElem?_cons_zero, List.getElem?_cons_succ, h0, h1, h7, h8, h9]
    refine ⟨fun e1 => ?_, fun e1 => ?_⟩ <;> simp (disch := omega) only [↓stp, vls, inf, frs, mark_eq, ↓reduceIte, Nat.reduceEqDiff, ite_tt, ite_ff, eq_self, and_true, true_and, and_self, implies_true, Bool.true_eq_false, Bool.false_eq_true, decide_true, decide_false, decide_eq_true_eq, decide_eq_false_iff_not, ne_eq, not_true_eq_false, not_false_eq_true, Bool.not_eq_true', Bool.not_eq_false', beq_self_eq_true, Bool.not_true, Bool.not_false, List.getElem?_toArray, List.getElem?_cons_zero, List.getElem?_cons_succ, h0, h1, h7, h8, h9, e1]
    · refine (contains_str_c A _ (xs.take i) _ (h.take (by omega) 1)).mono ?_
      rintro _ A ⟨rfl, rfl⟩
      simp (disch := omega) only [↓stp, vls, inf, frs, mark_eq, ↓reduceIte, Nat.reduceEqDiff, ite_tt, ite_ff, eq_self, and_true, true_and, and_self, implies_true, Bool.true_eq_false, Bool.false_eq_true, decide_true, decide_false, decide_eq_true_eq, decide_eq_false_iff_not, ne_eq, not_true_eq_false, not_false_eq_true, Bool.not_eq_true', Bool.not_eq_false', beq_self_eq_true, Bool.not_true, Bool.not_false, List.getElem?_toArray, List.getElem?_cons_zero, List.getElem?_cons_succ, h0, h1, h7, h8, h9, e1]
      refine ⟨fun e2 => ?_, fun e2 => ?_⟩ <;> simp (disch := omega) only [↓stp, vls, inf, frs, mark_eq, ↓reduceIte, Nat.reduceEqDiff, ite_tt, ite_ff, eq_self, and_true, true_and, and_self, implies_true, Bool.true_eq_false, Bool.false_eq_true, decide_true, decide_false, decide_eq_true_eq, decide_eq_false_iff_not, ne_eq, not_true_eq_false, not_false_eq_true, Bool.not_eq_true', Bool.not_eq_false', beq_self_eq_true, Bool.not_true, Bool.not_false, List.getElem?_toArray, List.getElem?_cons_zero, List.getElem?_cons_succ, h0, h1, h7, h8, h9]
      · simp [namesB, nodup_no (by omega) e2]
      · exact ⟨_, by omega, i + 1, by omega, rfl, rfl, all_take (by omega) hn e1, (nodup_take_succ (by omega)).2 ⟨hn2, e2⟩⟩
    · simp [namesB, all_no (p := nmOk) (by omega) e1]
  · simp (disch := omega) only [↓stp, vls, inf, frs, mark_eq, ↓reduceIte, Nat.reduceEqDiff, ite_tt, ite_ff, eq_self, and_true, true_and, and_self, implies_true, Bool.true_eq_false, Bool.false_eq_true, decide_true, decide_false, decide_eq_true_eq, decide_eq_false_iff_not, ne_eq, not_true_eq_false, not_false_eq_true, Bool.not_eq_true', Bool.not_eq_false', beq_self_eq_true, Bool.not_true, Bool.not_false, List.getElem?_toArray, List.getElem?_cons_zero, List.getElem?_cons_succ, h0, h1, h7, h8, h9]
    rw [List.take_of_length_le (by omega)] at hn hn2
    simp [namesB, hn, hn2]

theorem spec_validNames_c (A : View) (v : Value) (xs : List ByteArray) (m : Int) (h : Sl strS A v xs) : ACalls Try.prog 86 #[v, .int .i64 m] A fun r A' => r = .bool (namesB xs m) ∧ A' = A := by
  obtain ⟨a, c, rfl, hc, hl⟩ := h.slice
  refine acalls Try.func86 rfl (by kernel_rfl) ?_
  simp (disch := omega) only [↓stp, vls, inf, frs, mark_eq, ↓reduceIte, Nat.reduceEqDiff, ite_tt, ite_ff, eq_self, and_true, true_and, and_self, implies_true, Bool.true_eq_false, Bool.false_eq_true, decide_true, decide_false, decide_eq_true_eq, decide_eq_false_iff_not, ne_eq, not_true_eq_false, not_false_eq_true, Bool.not_eq_true', Bool.not_eq_false', beq_self_eq_true, Bool.not_true, Bool.not_false, List.getElem?_toArray, List.getElem?_cons_zero, List.getElem?_cons_succ]
  refine aloop (fun d fr A' => ∃ i : Nat, i ≤ xs.length ∧ d = xs.length - i ∧ A' = A ∧ fr 0 = .slice a xs.length c ∧ fr 1 = .int .i64 m ∧ fr 5 = .int .i64 i ∧ (xs.take i).all nmOk = true ∧ (xs.take i).Nodup) xs.length ⟨0, by omega, by omega, rfl, rfl, rfl, by rfl, by simp, by simp⟩ ?_
  rintro d fr A ⟨i, hi, rfl, rfl, h0, h1, h5, hn, hn2⟩
  simp (disch := omega) only [↓stp, vls, inf, frs, mark_eq, ↓reduceIte, Nat.reduceEqDiff, ite_tt, ite_ff, eq_self, and_true, true_and, and_self, implies_true, Bool.true_eq_false, Bool.false_eq_true, decide_true, decide_false, decide_eq_true_eq, decide_eq_false_iff_not, ne_eq, not_true_eq_false, not_false_eq_true, Bool.not_eq_true', Bool.not_eq_false', beq_self_eq_true, Bool.not_true, Bool.not_false, List.getElem?_toArray, List.getElem?_cons_zero, List.getElem?_cons_succ, h0, h1, h5]
  refine ⟨fun e => ?_, fun e => ?_⟩
  · obtain ⟨ad, rfl, hcl, hsz⟩ := h.str (i := i) (by omega)
    simp (disch := omega) only [↓stp, vls, inf, frs, mark_eq, ↓reduceIte, Nat.reduceEqDiff, ite_tt, ite_ff, eq_self, and_true, true_and, and_self, implies_true, Bool.true_eq_false, Bool.false_eq_true, decide_true, decide_false, decide_eq_true_eq, decide_eq_false_iff_not, ne_eq, not_true_eq_false, not_false_eq_true, Bool.not_eq_true', Bool.not_eq_false', beq_self_eq_true, Bool.not_true, Bool.not_false, List.getElem?_toArray, List.getElem?_cons_zero, List.getElem?_cons_succ, h0, h1, h5]
    refine adraw_items [.q 0, .q 1, .q 2, .l 3 false, .c 4 [], .q 5, .q 6, .q 7, .q 8, .q 9, .q 10, .q 11, .q 12, .l 13 false, .c 14 [], .q 15] (by kernel_rfl) (by kernel_rfl) ?_
    simp (disch := omega) only [↓stp, ↓pln, plv, nilOk, Nat.reduceBEq, Bool.or_false, Bool.or_true, Bool.false_or, Bool.true_or, vls, inf, frs, mark_eq, ↓reduceIte, Nat.reduceEqDiff, ite_tt, ite_ff, eq_self, and_true, true_and, and_self, implies_true, Bool.true_eq_false, Bool.false_eq_true, decide_true, decide_false, decide_eq_true_eq, decide_eq_false_iff_not, ne_eq, not_true_eq_false, not_false_eq_true, Bool.not_eq_true', Bool.not_eq_false', beq_self_eq_true, Bool.not_true, Bool.not_false, List.getElem?_toArray, List.getElem?_cons_zero, List.getElem?_cons_succ, h0, h1, h5, hcl]
    refine (spec_validName_c A _ hsz).mono ?_
    rintro _ A ⟨rfl, rfl⟩
    simp (disch := omega) only [↓stp, ↓pln, plv, nilOk, Nat.reduceBEq, Bool.or_false, Bool.or_true, Bool.false_or, Bool.true_or, vls, inf, frs, mark_eq, ↓reduceIte, Nat.reduceEqDiff, ite_tt, ite_ff, eq_self, and_true, true_and, and_self, implies_true, Bool.true_eq_false, Bool.false_eq_true, decide_true, decide_false, decide_eq_true_eq, decide_eq_false_iff_not, ne_eq, not_true_eq_false, not_false_eq_true, Bool.not_eq_true', Bool.not_eq_false', beq_self_eq_true, Bool.not_true, Bool.not_false, List.getElem?_toArray, List.getElem?_cons_zero, List.getElem?_cons_succ, h0, h1, h5, hcl]
    refine ⟨fun e1 => ?_, fun e1 => ?_⟩ <;> simp (disch := omega) only [↓stp, ↓pln, plv, nilOk, Nat.reduceBEq, Bool.or_false, Bool.or_true, Bool.false_or, Bool.true_or, vls, inf, frs, mark_eq, ↓reduceIte, Nat.reduceEqDiff, ite_tt, ite_ff, eq_self, and_true, true_and, and_self, implies_true, Bool.true_eq_false, Bool.false_eq_true, decide_true, decide_false, decide_eq_true_eq, decide_eq_false_iff_not, ne_eq, not_true_eq_false, not_false_eq_true, Bool.not_eq_true', Bool.not_eq_false', beq_self_eq_true, Bool.not_true, Bool.not_false, List.getElem?_toArray, List.getElem?_cons_zero, List.getElem?_cons_succ, h0, h1, h5, hcl, e1]
    · refine (spec_hasText_c A _ (xs.take i) _ (h.take (by omega) 1)).mono ?_
      rintro _ A ⟨rfl, rfl⟩
      simp (disch := omega) only [↓stp, ↓pln, plv, nilOk, Nat.reduceBEq, Bool.or_false, Bool.or_true, Bool.false_or, Bool.true_or, vls, inf, frs, mark_eq, ↓reduceIte, Nat.reduceEqDiff, ite_tt, ite_ff, eq_self, and_true, true_and, and_self, implies_true, Bool.true_eq_false, Bool.false_eq_true, decide_true, decide_false, decide_eq_true_eq, decide_eq_false_iff_not, ne_eq, not_true_eq_false, not_false_eq_true, Bool.not_eq_true', Bool.not_eq_false', beq_self_eq_true, Bool.not_true, Bool.not_false, List.getElem?_toArray, List.getElem?_cons_zero, List.getElem?_cons_succ, h0, h1, h5, e1]
      refine ⟨fun e2 => ?_, fun e2 => ?_⟩ <;> simp (disch := omega) only [↓stp, vls, inf, frs, mark_eq, ↓reduceIte, Nat.reduceEqDiff, ite_tt, ite_ff, eq_self, and_true, true_and, and_self, implies_true, Bool.true_eq_false, Bool.false_eq_true, decide_true, decide_false, decide_eq_true_eq, decide_eq_false_iff_not, ne_eq, not_true_eq_false, not_false_eq_true, Bool.not_eq_true', Bool.not_eq_false', beq_self_eq_true, Bool.not_true, Bool.not_false, List.getElem?_toArray, List.getElem?_cons_zero, List.getElem?_cons_succ, h0, h1, h5]
      · simp [namesB, nodup_no (by omega) e2]
      · exact ⟨_, by omega, i + 1, by omega, rfl, rfl, all_take (by omega) hn e1, (nodup_take_succ (by omega)).2 ⟨hn2, e2⟩⟩
    · simp [namesB, all_no (p := nmOk) (by omega) e1]
  · simp (disch := omega) only [↓stp, vls, inf, frs, mark_eq, ↓reduceIte, Nat.reduceEqDiff, ite_tt, ite_ff, eq_self, and_true, true_and, and_self, implies_true, Bool.true_eq_false, Bool.false_eq_true, decide_true, decide_false, decide_eq_true_eq, decide_eq_false_iff_not, ne_eq, not_true_eq_false, not_false_eq_true, Bool.not_eq_true', Bool.not_eq_false', beq_self_eq_true, Bool.not_true, Bool.not_false, List.getElem?_toArray, List.getElem?_cons_zero, List.getElem?_cons_succ, h0, h1, h5]
    rw [List.take_of_length_le (by omega)] at hn hn2
    simp [namesB, hn, hn2]

/-- No text stands before the one ahead of it. -/
def Asc (xs : List ByteArray) : Prop := ∀ i (h : i < xs.length), 0 < i → sLt xs[i] (xs[i - 1]'(by omega)) = false
noncomputable def ascB (xs : List ByteArray) : Bool := @decide (Asc xs) (Classical.propDecidable _)
theorem ascB_t {xs : List ByteArray} (h : Asc xs) : ascB xs = true := by unfold ascB; exact @decide_eq_true _ (Classical.propDecidable _) h
theorem ascB_f {xs : List ByteArray} (h : ¬ Asc xs) : ascB xs = false := by unfold ascB; exact @decide_eq_false _ (Classical.propDecidable _) h
theorem ascB_iff {xs : List ByteArray} : ascB xs = true ↔ Asc xs := ⟨fun h => Classical.byContradiction fun hn => Bool.noConfusion ((ascB_f hn).symm.trans h), ascB_t⟩

theorem lib_isNaN_c (A : View) (a : ByteArray) : ACalls Try.prog 115 #[.string a] A fun r A' => r = .bool false ∧ A' = A := by
  refine acalls Try.func115 rfl (by kernel_rfl) ?_
  simp (disch := omega) only [↓stp, vls, inf, frs, mark_eq, ↓reduceIte, Nat.reduceEqDiff, ite_tt, ite_ff, eq_self, and_true, true_and, and_self, implies_true, Bool.true_eq_false, Bool.false_eq_true, decide_true, decide_false, decide_eq_true_eq, decide_eq_false_iff_not, ne_eq, not_true_eq_false, not_false_eq_true, Bool.not_eq_true', Bool.not_eq_false', beq_self_eq_true, Bool.not_true, Bool.not_false, List.getElem?_toArray, List.getElem?_cons_zero, List.getElem?_cons_succ]

theorem lib_less_c (A : View) (a b : ByteArray) : ACalls Try.prog 114 #[.string a, .string b] A fun r A' => r = .bool (sLt a b) ∧ A' = A := by
  refine acalls Try.func114 rfl (by kernel_rfl) ?_
  simp (disch := omega) only [↓stp, vls, inf, frs, mark_eq, ↓reduceIte, Nat.reduceEqDiff, ite_tt, ite_ff, eq_self, and_true, true_and, and_self, implies_true, Bool.true_eq_false, Bool.false_eq_true, decide_true, decide_false, decide_eq_true_eq, decide_eq_false_iff_not, ne_eq, not_true_eq_false, not_false_eq_true, Bool.not_eq_true', Bool.not_eq_false', beq_self_eq_true, Bool.not_true, Bool.not_false, List.getElem?_toArray, List.getElem?_cons_zero, List.getElem?_cons_succ]
  refine (lib_isNaN_c A a).mono ?_
  rintro _ A ⟨rfl, rfl⟩
  simp (disch := omega) only [↓stp, vls, inf, frs, mark_eq, ↓reduceIte, Nat.reduceEqDiff, ite_tt, ite_ff, eq_self, and_true, true_and, and_self, implies_true, Bool.true_eq_false, Bool.false_eq_true, decide_true, decide_false, decide_eq_true_eq, decide_eq_false_iff_not, ne_eq, not_true_eq_false, not_false_eq_true, Bool.not_eq_true', Bool.not_eq_false', beq_self_eq_true, Bool.not_true, Bool.not_false, List.getElem?_toArray, List.getElem?_cons_zero, List.getElem?_cons_succ, abin_lts]

theorem isSorted_c (A : View) (v : Value) (xs : List ByteArray) (h : Sl strS A v xs) : ACalls Try.prog 112 #[v] A fun r A' => r = .bool (ascB xs) ∧ A' = A := by
  obtain ⟨a, c, rfl, hc, hl⟩ := h.slice
  refine acalls Try.func112 rfl (by kernel_rfl) ?_
  simp (disch := omega) only [↓stp, vls, inf, frs, mark_eq, ↓reduceIte, Nat.reduceEqDiff, ite_tt, ite_ff, eq_self, and_true, true_and, and_self, implies_true, Bool.true_eq_false, Bool.false_eq_true, decide_true, decide_false, decide_eq_true_eq, decide_eq_false_iff_not, ne_eq, not_true_eq_false, not_false_eq_true, Bool.not_eq_true', Bool.not_eq_false', beq_self_eq_true, Bool.not_true, Bool.not_false, List.getElem?_toArray, List.getElem?_cons_zero, List.getElem?_cons_succ]
  refine aloop (fun d fr A' => ∃ i : Int, -1 ≤ i ∧ i < xs.length ∧ d = (i + 1).toNat ∧ A' = A ∧ fr 0 = .slice a xs.length c ∧ fr 3 = .int .i64 i ∧ (∀ j (hj : j < xs.length), i < j → 0 < j → sLt xs[j] (xs[j - 1]'(by omega)) = false)) xs.length ⟨(xs.length : Int) - 1, by omega, by omega, by omega, rfl, rfl, by rfl, fun j hj h1 => by omega⟩ ?_
  rintro d fr A ⟨i, hi1, hi, rfl, rfl, h0, h3, hn⟩
  simp (disch := omega) only [↓stp, vls, inf, frs, mark_eq, ↓reduceIte, Nat.reduceEqDiff, ite_tt, ite_ff, eq_self, and_true, true_and, and_self, implies_true, Bool.true_eq_false, Bool.false_eq_true, decide_true, decide_false, decide_eq_true_eq, decide_eq_false_iff_not, ne_eq, not_true_eq_false, not_false_eq_true, Bool.not_eq_true', Bool.not_eq_false', beq_self_eq_true, Bool.not_true, Bool.not_false, List.getElem?_toArray, List.getElem?_cons_zero, List.getElem?_cons_succ, h0, h3]
  refine ⟨fun e => ?_, fun e => ?_⟩
  · obtain ⟨m, rfl⟩ : ∃ m : Nat, i = (m : Int) + 1 := ⟨(i - 1).toNat, by omega⟩
    obtain ⟨ad, rfl, k1, _⟩ := h.str (i := m + 1) (by omega)
    obtain ⟨ad', hq, k2, _⟩ := h.str (i := m) (by omega)
    obtain rfl := Option.some.inj hq
    have e1 : ((m : Int) + 1).toNat = m + 1 := by omega
    have e2 : ((m : Int) + 1 - 1).toNat = m := by omega
    simp (disch := omega) only [↓stp, vls, inf, frs, mark_eq, ↓reduceIte, Nat.reduceEqDiff, ite_tt, ite_ff, eq_self, and_true, true_and, and_self, implies_true, Bool.true_eq_false, Bool.false_eq_true, decide_true, decide_false, decide_eq_true_eq, decide_eq_false_iff_not, ne_eq, not_true_eq_false, not_false_eq_true, Bool.not_eq_true', Bool.not_eq_false', beq_self_eq_true, Bool.not_true, Bool.not_false, List.getElem?_toArray, List.getElem?_cons_zero, List.getElem?_cons_succ, h0, h3]
    refine adraw_items [.q 0, .q 1, .q 2, .l 3 false, .q 4, .q 5, .q 6, .q 7, .l 8 false, .c 9 []] (by kernel_rfl) (by kernel_rfl) ?_
    simp (disch := omega) only [↓stp, ↓pln, plv, nilOk, Nat.reduceBEq, Bool.or_false, Bool.or_true, Bool.false_or, Bool.true_or, vls, inf, frs, mark_eq, ↓reduceIte, Nat.reduceEqDiff, ite_tt, ite_ff, eq_self, and_true, true_and, and_self, implies_true, Bool.true_eq_false, Bool.false_eq_true, decide_true, decide_false, decide_eq_true_eq, decide_eq_false_iff_not, ne_eq, not_true_eq_false, not_false_eq_true, Bool.not_eq_true', Bool.not_eq_false', beq_self_eq_true, Bool.not_true, Bool.not_false, List.getElem?_toArray, List.getElem?_cons_zero, List.getElem?_cons_succ, h0, h3, e1, e2, k1, k2]
    refine (lib_less_c A _ _).mono ?_
    rintro _ A ⟨rfl, rfl⟩
    simp (disch := omega) only [↓stp, ↓pln, plv, nilOk, Nat.reduceBEq, Bool.or_false, Bool.or_true, Bool.false_or, Bool.true_or, vls, inf, frs, mark_eq, ↓reduceIte, Nat.reduceEqDiff, ite_tt, ite_ff, eq_self, and_true, true_and, and_self, implies_true, Bool.true_eq_false, Bool.false_eq_true, decide_true, decide_false, decide_eq_true_eq, decide_eq_false_iff_not, ne_eq, not_true_eq_false, not_false_eq_true, Bool.not_eq_true', Bool.not_eq_false', beq_self_eq_true, Bool.not_true, Bool.not_false, List.getElem?_toArray, List.getElem?_cons_zero, List.getElem?_cons_succ, h0, h3, k1, k2]
    refine ⟨fun e3 => ?_, fun e3 => ?_⟩ <;> simp (disch := omega) only [↓stp, vls, inf, frs, mark_eq, ↓reduceIte, Nat.reduceEqDiff, ite_tt, ite_ff, eq_self, and_true, true_and, and_self, implies_true, Bool.true_eq_false, Bool.false_eq_true, decide_true, decide_false, decide_eq_true_eq, decide_eq_false_iff_not, ne_eq, not_true_eq_false, not_false_eq_true, Bool.not_eq_true', Bool.not_eq_false', beq_self_eq_true, Bool.not_true, Bool.not_false, List.getElem?_toArray, List.getElem?_cons_zero, List.getElem?_cons_succ, h0, h3]
    · rw [ascB_f]
      intro hA
      have := hA (m + 1) (by omega) (by omega)
      simp only [Nat.add_sub_cancel] at this
      rw [this] at e3; cases e3
    · refine ⟨_, ?_, (m : Int), by omega, by omega, rfl, by rw [Int.add_sub_cancel], fun j hj h1 h2 => ?_⟩
      · omega
      · by_cases hjm : j = m + 1
        · subst hjm; exact e3
        · exact hn j hj (by omega) h2
  · simp (disch := omega) only [↓stp, vls, inf, frs, mark_eq, ↓reduceIte, Nat.reduceEqDiff, ite_tt, ite_ff, eq_self, and_true, true_and, and_self, implies_true, Bool.true_eq_false, Bool.false_eq_true, decide_true, decide_false, decide_eq_true_eq, decide_eq_false_iff_not, ne_eq, not_true_eq_false, not_false_eq_true, Bool.not_eq_true', Bool.not_eq_false', beq_self_eq_true, Bool.not_true, Bool.not_false, List.getElem?_toArray, List.getElem?_cons_zero, List.getElem?_cons_succ, h0, h3]
    rw [ascB_t fun j hj h2 => hn j hj (by omega) h2]

def AscS (xs : List ByteArray) : Prop := ∀ i (h : i < xs.length), 0 < i → (sLt xs[i] (xs[i - 1]'(by omega)) || decide (xs[i] = xs[i - 1]'(by omega))) = false
theorem ascS_iff {xs : List ByteArray} (hn : xs.Nodup) : AscS xs ↔ Asc xs := by
  constructor
  · intro h i hi h0
    have := h i hi h0
    rw [Bool.or_eq_false_iff] at this
    exact this.1
  · intro h i hi h0
    rw [Bool.or_eq_false_iff]
    refine ⟨h i hi h0, decide_eq_false fun he => ?_⟩
    exact List.pairwise_iff_getElem.1 hn (i - 1) i (by omega) hi (by omega) he.symm

theorem spec_ascending_c (A : View) (v : Value) (xs : List ByteArray) (h : Sl strS A v xs) : ACalls Try.prog 111 #[v] A fun r A' => r = .bool (@decide (AscS xs) (Classical.propDecidable _)) ∧ A' = A := by
  obtain ⟨a, c, rfl, hc, hl⟩ := h.slice
  refine acalls Try.func111 rfl (by kernel_rfl) ?_
  simp (disch := omega) only [↓stp, vls, inf, frs, mark_eq, ↓reduceIte, Nat.reduceEqDiff, ite_tt, ite_ff, eq_self, and_true, true_and, and_self, implies_true, Bool.true_eq_false, Bool.false_eq_true, decide_true, decide_false, decide_eq_true_eq, decide_eq_false_iff_not, ne_eq, not_true_eq_false, not_false_eq_true, Bool.not_eq_true', Bool.not_eq_false', beq_self_eq_true, Bool.not_true, Bool.not_false, List.getElem?_toArray, List.getElem?_cons_zero, List.getElem?_cons_succ]
  refine aloop (fun d fr A' => ∃ i : Nat, 1 ≤ i ∧ d = xs.length + 1 - i ∧ A' = A ∧ fr 0 = .slice a xs.length c ∧ fr 3 = .int .i64 i ∧ (i ≤ xs.length ∨ i = 1) ∧ (∀ j (hj : j < xs.length), j < i → 0 < j → (sLt xs[j] (xs[j - 1]'(by omega)) || decide (xs[j] = xs[j - 1]'(by omega))) = false)) xs.length ⟨1, by omega, by omega, rfl, rfl, by rfl, .inr rfl, fun j hj h1 => by omega⟩ ?_
  rintro d fr A ⟨i, hi1, rfl, rfl, h0, h3, hi, hn⟩
  simp (disch := omega) only [↓stp, vls, inf, frs, mark_eq, ↓reduceIte, Nat.reduceEqDiff, ite_tt, ite_ff, eq_self, and_true, true_and, and_self, implies_true, Bool.true_eq_false, Bool.false_eq_true, decide_true, decide_false, decide_eq_true_eq, decide_eq_false_iff_not, ne_eq, not_true_eq_false, not_false_eq_true, Bool.not_eq_true', Bool.not_eq_false', beq_self_eq_true, Bool.not_true, Bool.not_false, List.getElem?_toArray, List.getElem?_cons_zero, List.getElem?_cons_succ, h0, h3]
  refine ⟨fun e => ?_, fun e => ?_⟩
  · obtain ⟨ad, rfl, k1, _⟩ := h.str (i := i) (by omega)
    obtain ⟨ad', hq, k2, _⟩ := h.str (i := i - 1) (by omega)
    obtain rfl := Option.some.inj hq
    have e2 : ((i : Int) - 1).toNat = i - 1 := by omega
    simp (disch := omega) only [↓stp, vls, inf, frs, mark_eq, ↓reduceIte, Nat.reduceEqDiff, ite_tt, ite_ff, eq_self, and_true, true_and, and_self, implies_true, Bool.true_eq_false, Bool.false_eq_true, decide_true, decide_false, decide_eq_true_eq, decide_eq_false_iff_not, ne_eq, not_true_eq_false, not_false_eq_true, Bool.not_eq_true', Bool.not_eq_false', beq_self_eq_true, Bool.not_true, Bool.not_false, List.getElem?_toArray, List.getElem?_cons_zero, List.getElem?_cons_succ, h0, h3]
    refine adraw_items [.q 0, .q 1, .q 2, .l 3 false, .q 4, .q 5, .q 6, .q 7, .l 8 false, .q 9] (by kernel_rfl) (by kernel_rfl) ?_
    simp (disch := omega) only [↓stp, ↓pln, plv, nilOk, Nat.reduceBEq, Bool.or_false, Bool.or_true, Bool.false_or, Bool.true_or, vls, inf, frs, mark_eq, ↓reduceIte, Nat.reduceEqDiff, ite_tt, ite_ff, eq_self, and_true, true_and, and_self, implies_true, Bool.true_eq_false, Bool.false_eq_true, decide_true, decide_false, decide_eq_true_eq, decide_eq_false_iff_not, ne_eq, not_true_eq_false, not_false_eq_true, Bool.not_eq_true', Bool.not_eq_false', beq_self_eq_true, Bool.not_true, Bool.not_false, List.getElem?_toArray, List.getElem?_cons_zero, List.getElem?_cons_succ, h0, h3, e2, k1, k2, abin_les]
    refine ⟨fun e3 => ?_, fun e3 => ?_⟩ <;> simp (disch := omega) only [↓stp, vls, inf, frs, mark_eq, ↓reduceIte, Nat.reduceEqDiff, ite_tt, ite_ff, eq_self, and_true, true_and, and_self, implies_true, Bool.true_eq_false, Bool.false_eq_true, decide_true, decide_false, decide_eq_true_eq, decide_eq_false_iff_not, ne_eq, not_true_eq_false, not_false_eq_true, Bool.not_eq_true', Bool.not_eq_false', beq_self_eq_true, Bool.not_true, Bool.not_false, List.getElem?_toArray, List.getElem?_cons_zero, List.getElem?_cons_succ, h0, h3]
    · refine congrArg Value.bool (@decide_eq_false _ (Classical.propDecidable _) fun hA => ?_).symm
      rw [hA i (by omega) (by omega)] at e3
      cases e3
    · refine ⟨_, ?_, i + 1, by omega, rfl, rfl, .inl (by omega), fun j hj h1 h2 => ?_⟩
      · omega
      · by_cases hji : j = i
        · subst hji; exact e3
        · exact hn j hj (by omega) h2
  · simp (disch := omega) only [↓stp, vls, inf, frs, mark_eq, ↓reduceIte, Nat.reduceEqDiff, ite_tt, ite_ff, eq_self, and_true, true_and, and_self, implies_true, Bool.true_eq_false, Bool.false_eq_true, decide_true, decide_false, decide_eq_true_eq, decide_eq_false_iff_not, ne_eq, not_true_eq_false, not_false_eq_true, Bool.not_eq_true', Bool.not_eq_false', beq_self_eq_true, Bool.not_true, Bool.not_false, List.getElem?_toArray, List.getElem?_cons_zero, List.getElem?_cons_succ, h0, h3]
    refine congrArg Value.bool (@decide_eq_true _ (Classical.propDecidable _) fun j hj h2 => ?_).symm
    exact hn j hj (by omega) h2

end Go.Proofs.Ytggklaimbklefaa

/- Where a Test stands in a list. -/
set_option maxHeartbeats 4000000
set_option synthInstance.maxHeartbeats 400000
set_option synthInstance.maxSize 4096
set_option linter.unusedSimpArgs false
set_option linter.unusedVariables false
namespace Go.Proofs.Ytggklaimbklefaa

set_option maxRecDepth 100000

end Go.Proofs.Ytggklaimbklefaa
