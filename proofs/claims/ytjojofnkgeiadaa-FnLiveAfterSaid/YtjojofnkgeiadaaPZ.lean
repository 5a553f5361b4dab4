/- Plans: what is live, events; the reference's plan. -/
import Derived.Test.YtjojofnkgeiadaaZ6
import Derived.Test.YtjojofnkgeiadaaGEvent
import Derived.Test.YtjojofnkgeiadaaEQ
set_option maxHeartbeats 4000000
set_option synthInstance.maxHeartbeats 400000
set_option synthInstance.maxSize 4096
set_option linter.unusedSimpArgs false
set_option linter.unusedVariables false
namespace Go.Proofs.Ytjojofnkgeiadaa

set_option maxRecDepth 100000

/-! ### closures, in plain words -/
def preR (x : SuiteD) (t : TestD) : List ByteArray := (x.1.filter fun f => f.2.2.2.1).map (·.1) ++ t.2.2.2.1
def rawR (fs : List FixtureD) (ns : List ByteArray) : List ByteArray := ns.foldl (fun l a => rchF fs (fuel fs) a [] l) []
def bucket (fs : List FixtureD) (l : List ByteArray) (s : Int) : List ByteArray := l.filter fun a => decide (scopeAt fs a = s)
def cloR (fs : List FixtureD) (ns : List ByteArray) : List ByteArray := bucket fs (rawR fs ns) 2 ++ (bucket fs (rawR fs ns) 1 ++ bucket fs (rawR fs ns) 0)
theorem rawR_snoc (fs : List FixtureD) (ns : List ByteArray) (a : ByteArray) : rawR fs (ns ++ [a]) = rchF fs (fuel fs) a [] (rawR fs ns) := by
  unfold rawR
  rw [List.foldl_append]
  rfl
theorem rawR_names (fs : List FixtureD) (ns : List ByteArray) : Names fs (rawR fs ns) := by
  rw [← List.reverse_reverse ns]
  induction ns.reverse with
  | nil => exact ⟨List.nodup_nil, fun x hx => by cases hx⟩
  | cons a az ih => rw [List.reverse_cons, rawR_snoc]; exact rchF_names _ _ _ _ ih
theorem names_nil (fs : List FixtureD) : Names fs [] := ⟨List.nodup_nil, fun x hx => by cases hx⟩
theorem bucket_mem {fs : List FixtureD} {l : List ByteArray} {s : Int} {a : ByteArray} : a ∈ bucket fs l s ↔ a ∈ l ∧ scopeAt fs a = s := by
  unfold bucket
  rw [List.mem_filter, decide_eq_true_eq]
theorem bucket_snoc {fs : List FixtureD} {l : List ByteArray} {s : Int} {a : ByteArray} : bucket fs (l ++ [a]) s = bucket fs l s ++ (if scopeAt fs a = s then [a] else []) := by
  unfold bucket
  rw [List.filter_append, List.filter_cons]
  by_cases h : scopeAt fs a = s
  · rw [if_pos (decide_eq_true h), if_pos h]; rfl
  · rw [if_neg (by rw [decide_eq_false h]; decide), if_neg h]; rfl
theorem bucket_take {fs : List FixtureD} {l : List ByteArray} {s : Int} {i : Nat} (h : i < l.length) : bucket fs (l.take (i + 1)) s = bucket fs (l.take i) s ++ (if scopeAt fs l[i] = s then [l[i]] else []) := by
  rw [List.take_succ_eq_append_getElem h, bucket_snoc]
theorem auto_take {fs : List FixtureD} {i : Nat} (h : i < fs.length) : ((fs.take (i + 1)).filter fun f => f.2.2.2.1).map (·.1) = ((fs.take i).filter fun f => f.2.2.2.1).map (·.1) ++ (if (fs[i]).2.2.2.1 = true then [(fs[i]).1] else []) := by
  rw [List.take_succ_eq_append_getElem h, List.filter_append, List.map_append, List.filter_cons]
  by_cases hq : (fs[i]).2.2.2.1 = true
  · rw [if_pos hq, if_pos hq]; rfl
  · rw [if_neg hq, if_neg hq]; rfl

def outsR (fs : List FixtureD) (l : List ByteArray) : Nat → List ByteArray
  | 0 => []
  | k + 1 => outsR fs l k ++ bucket fs l (2 - (k : Int))
theorem outsR_end (fs : List FixtureD) (l : List ByteArray) : outsR fs l 3 = bucket fs l 2 ++ (bucket fs l 1 ++ bucket fs l 0) := by
  show (([] ++ bucket fs l 2) ++ bucket fs l 1) ++ bucket fs l 0 = _
  simp
theorem bucket_len (fs : List FixtureD) (l : List ByteArray) (s : Int) : (bucket fs l s).length ≤ l.length := List.length_filter_le ..
theorem outsR_len (fs : List FixtureD) (l : List ByteArray) : ∀ k, (outsR fs l k).length ≤ k * l.length
  | 0 => by simp [outsR]
  | k + 1 => by
    have := outsR_len fs l k
    have := bucket_len fs l (2 - (k : Int))
    rw [outsR, List.length_append, Nat.succ_mul]
    omega

theorem spec_closure_c (A : View) (d d' : List Value) (x : SuiteD) (t : TestD) (hx : suiteS.rel A x d) (ht : testS.rel A t d') (hsm : x.1.length ≤ 1048576) : ACalls Try.prog 60 #[.agg d.toArray, .agg d'.toArray] A fun r V => NewSl 9 strO A r V (cloR x.1 (preR x t)) := by
  obtain ⟨u0, u1, rfl, g0, g1⟩ := suiteS_open hx
  obtain ⟨a0, c0, rfl, _, _⟩ := g0.slice
  obtain ⟨a1, c1, rfl, _, _⟩ := g1.slice
  obtain ⟨v2, v3, rfl, z1, z2, f2, f3⟩ := testS_open ht
  obtain ⟨a2, c2, rfl, _, _⟩ := f2.slice
  obtain ⟨a3, c3, rfl, _, _⟩ := f3.slice
  have hSx : ∀ V, Ext A V → suiteS.rel V x [.slice a0 x.1.length c0, .slice a1 x.2.1.length c1] := fun V he => suiteS_mk (g0.mono he) (g1.mono he)
  have hx0 := hSx A (Ext.refl A)
  refine acalls Try.func60 rfl (by kernel_rfl) ?_
  simp (disch := omega) only [↓stq, amv_at, vls, inf, frs, mark_eq, ↓reduceIte, Nat.reduceEqDiff, ite_tt, ite_ff, eq_self, and_true, true_and, and_self, implies_true, Bool.true_eq_false, Bool.false_eq_true, decide_true, decide_false, decide_eq_true_eq, decide_eq_false_iff_not, ne_eq, not_true_eq_false, not_false_eq_true, Bool.not_eq_true', Bool.not_eq_false', beq_self_eq_true, Bool.not_true, Bool.not_false, List.getElem?_toArray, List.getElem?_cons_zero, List.getElem?_cons_succ]
  refine led_box (Led.nil A) rfl fun q2 V _ l => ?_
  simp (disch := omega) only [↓stq, amv_at, vls, inf, frs, mark_eq, ↓reduceIte, Nat.reduceEqDiff, ite_tt, ite_ff, eq_self, and_true, true_and, and_self, implies_true, Bool.true_eq_false, Bool.false_eq_true, decide_true, decide_false, decide_eq_true_eq, decide_eq_false_iff_not, ne_eq, not_true_eq_false, not_false_eq_true, Bool.not_eq_true', Bool.not_eq_false', beq_self_eq_true, Bool.not_true, Bool.not_false, List.getElem?_toArray, List.getElem?_cons_zero, List.getElem?_cons_succ]
  refine led_box l rfl fun q3 V _ l => ?_
  simp (disch := omega) only [↓stq, amv_at, vls, inf, frs, mark_eq, ↓reduceIte, Nat.reduceEqDiff, ite_tt, ite_ff, eq_self, and_true, true_and, and_self, implies_true, Bool.true_eq_false, Bool.false_eq_true, decide_true, decide_false, decide_eq_true_eq, decide_eq_false_iff_not, ne_eq, not_true_eq_false, not_false_eq_true, Bool.not_eq_true', Bool.not_eq_false', beq_self_eq_true, Bool.not_true, Bool.not_false, List.getElem?_toArray, List.getElem?_cons_zero, List.getElem?_cons_succ]
  refine led_lit0 (O := strO) li31 l fun b V _ l => ?_
  simp (disch := omega) only [↓stq, amv_at, vls, inf, frs, mark_eq, ↓reduceIte, Nat.reduceEqDiff, ite_tt, ite_ff, eq_self, and_true, true_and, and_self, implies_true, Bool.true_eq_false, Bool.false_eq_true, decide_true, decide_false, decide_eq_true_eq, decide_eq_false_iff_not, ne_eq, not_true_eq_false, not_false_eq_true, Bool.not_eq_true', Bool.not_eq_false', beq_self_eq_true, Bool.not_true, Bool.not_false, List.getElem?_toArray, List.getElem?_cons_zero, List.getElem?_cons_succ]
  refine aloop (fun d fr V => ∃ (i : Nat) (fp : List Nat) (w : Value), i ≤ x.1.length ∧ d = x.1.length - i ∧ Led A [osl 9 strO fp w (rawR x.1 (((x.1.take i).filter fun f => f.2.2.2.1).map (·.1))), bx q3 ⟨38, [.string t.1, .string t.2.1, .slice a2 t.2.2.1.length c2, .slice a3 t.2.2.2.1.length c3], 4, true⟩, bx q2 ⟨26, [.slice a0 x.1.length c0, .slice a1 x.2.1.length c1], 2, true⟩] V ∧ fr 2 = .pointer (some ⟨q2, 0, none⟩) ∧ fr 3 = .pointer (some ⟨q3, 0, none⟩) ∧ fr 5 = w ∧ fr 6 = .int .i64 i) x.1.length ⟨0, _, _, by omega, by omega, l, by rfl, by rfl, by rfl, by rfl⟩ ?_
  clear l
  rintro d fr V ⟨i, fp, w, hi, rfl, l, h2, h3, h5, h6⟩
  have k0 := l.cell (i := 2) rfl (o := 0) rfl rfl
  simp (disch := omega) only [↓stq, amv_at, vls, inf, frs, mark_eq, ↓reduceIte, Nat.reduceEqDiff, ite_tt, ite_ff, eq_self, and_true, true_and, and_self, implies_true, Bool.true_eq_false, Bool.false_eq_true, decide_true, decide_false, decide_eq_true_eq, decide_eq_false_iff_not, ne_eq, not_true_eq_false, not_false_eq_true, Bool.not_eq_true', Bool.not_eq_false', beq_self_eq_true, Bool.not_true, Bool.not_false, List.getElem?_toArray, List.getElem?_cons_zero, List.getElem?_cons_succ, h2, h3, h5, h6, add_at, k0]
  refine ⟨fun e1 => ?_, fun e1 => ?_⟩
  · have hlt : i < x.1.length := by omega
    have htk := auto_take hlt
    obtain ⟨ad, u2, rfl, hclA, y1, y2, _⟩ := g0.fixture hlt
    have hcl := l.ext.part hclA
    have s3 := View.part_cell hcl (j := 3) rfl
    have s0 := View.part_cell hcl (j := 0) rfl
    simp (disch := omega) only [↓stq, amv_at, vls, inf, frs, mark_eq, ↓reduceIte, Nat.reduceEqDiff, ite_tt, ite_ff, eq_self, and_true, true_and, and_self, implies_true, Bool.true_eq_false, Bool.false_eq_true, decide_true, decide_false, decide_eq_true_eq, decide_eq_false_iff_not, ne_eq, not_true_eq_false, not_false_eq_true, Bool.not_eq_true', Bool.not_eq_false', beq_self_eq_true, Bool.not_true, Bool.not_false, List.getElem?_toArray, List.getElem?_cons_zero, List.getElem?_cons_succ, h2, h3, h5, h6, add_at, k0, s3]
    have hN := rawR_names x.1 (((x.1.take i).filter fun f => f.2.2.2.1).map (·.1))
    refine ⟨fun e2 => ?_, fun e2 => ?_⟩ <;> simp (disch := omega) only [↓stq, amv_at, vls, inf, frs, mark_eq, ↓reduceIte, Nat.reduceEqDiff, ite_tt, ite_ff, eq_self, and_true, true_and, and_self, implies_true, Bool.true_eq_false, Bool.false_eq_true, decide_true, decide_false, decide_eq_true_eq, decide_eq_false_iff_not, ne_eq, not_true_eq_false, not_false_eq_true, Bool.not_eq_true', Bool.not_eq_false', beq_self_eq_true, Bool.not_true, Bool.not_false, List.getElem?_toArray, List.getElem?_cons_zero, List.getElem?_cons_succ, h2, h3, h5, h6, add_at, k0, s3]
    · refine adraw_items [.l 0 false, .q 1, .l 2 false, .q 3, .q 4, .q 5, .l 6 false, .q 8, .c 7 [], .c 9 [], .q 10] (by kernel_rfl) (by kernel_rfl) ?_
      have kp : V.part ⟨q2, 0, none⟩ 2 = some [.slice (some ad) x.1.length c0, .slice a1 x.2.1.length c1] := l.part (i := 2) rfl rfl
      simp (disch := omega) only [↓stq, amv_at, ↓pln, plv, nilOk, Nat.reduceBEq, Bool.or_false, Bool.or_true, Bool.false_or, Bool.true_or, vls, inf, frs, mark_eq, ↓reduceIte, Nat.reduceEqDiff, ite_tt, ite_ff, eq_self, and_true, true_and, and_self, implies_true, Bool.true_eq_false, Bool.false_eq_true, decide_true, decide_false, decide_eq_true_eq, decide_eq_false_iff_not, ne_eq, not_true_eq_false, not_false_eq_true, Bool.not_eq_true', Bool.not_eq_false', beq_self_eq_true, Bool.not_true, Bool.not_false, List.getElem?_toArray, List.getElem?_cons_zero, List.getElem?_cons_succ, h2, h3, h5, h6, add_at, k0, kp, s0]
      refine led_lit0 (O := strO) li31 l fun bo V _ l => ?_
      have k0 := l.cell (i := 3) rfl (o := 0) rfl rfl
      have kp : V.part ⟨q2, 0, none⟩ 2 = some [.slice (some ad) x.1.length c0, .slice a1 x.2.1.length c1] := l.part (i := 3) rfl rfl
      have s0 := View.part_cell (l.ext.part hclA) (j := 0) rfl
      simp (disch := omega) only [↓stq, amv_at, ↓pln, plv, nilOk, Nat.reduceBEq, Bool.or_false, Bool.or_true, Bool.false_or, Bool.true_or, vls, inf, frs, mark_eq, ↓reduceIte, Nat.reduceEqDiff, ite_tt, ite_ff, eq_self, and_true, true_and, and_self, implies_true, Bool.true_eq_false, Bool.false_eq_true, decide_true, decide_false, decide_eq_true_eq, decide_eq_false_iff_not, ne_eq, not_true_eq_false, not_false_eq_true, Bool.not_eq_true', Bool.not_eq_false', beq_self_eq_true, Bool.not_true, Bool.not_false, List.getElem?_toArray, List.getElem?_cons_zero, List.getElem?_cons_succ, h2, h3, h5, h6, add_at, k0, kp, s0, false_implies]
      refine (spec_reach_c A _ x hx0 hsm (fuel x.1) V _ (x.1[i]).1 _ [] fp w _ y1 (fun V fp w out l => Sl.empty ..) (fuel_ok _) (names_nil _) hN l.tail).mono ?_
      rintro r V2 ⟨fp2, l⟩
      have k0 := l.cell (i := 2) rfl (o := 0) rfl rfl
      have kp : V2.part ⟨q2, 0, none⟩ 2 = some [.slice (some ad) x.1.length c0, .slice a1 x.2.1.length c1] := l.part (i := 2) rfl rfl
      have s0 := View.part_cell (l.ext.part hclA) (j := 0) rfl
      simp (disch := omega) only [↓stq, amv_at, ↓pln, plv, nilOk, Nat.reduceBEq, Bool.or_false, Bool.or_true, Bool.false_or, Bool.true_or, vls, inf, frs, mark_eq, ↓reduceIte, Nat.reduceEqDiff, ite_tt, ite_ff, eq_self, and_true, true_and, and_self, implies_true, Bool.true_eq_false, Bool.false_eq_true, decide_true, decide_false, decide_eq_true_eq, decide_eq_false_iff_not, ne_eq, not_true_eq_false, not_false_eq_true, Bool.not_eq_true', Bool.not_eq_false', beq_self_eq_true, Bool.not_true, Bool.not_false, List.getElem?_toArray, List.getElem?_cons_zero, List.getElem?_cons_succ, h2, h3, h5, h6, add_at, k0, kp, s0, false_implies]
      rw [if_pos e2] at htk
      exact ⟨_, by omega, i + 1, fp2, r, by omega, rfl, by rw [htk, rawR_snoc]; exact l, rfl, rfl⟩
    · rw [if_neg (by simpa using e2), List.append_nil] at htk
      exact ⟨_, by omega, i + 1, fp, w, by omega, rfl, by rw [htk]; exact l, rfl, rfl⟩
  have hie : i = x.1.length := by omega
  subst hie
  rw [List.take_length] at l
  generalize hau : (x.1.filter fun f => f.2.2.2.1).map (·.1) = autos at l
  · simp (disch := omega) only [↓stq, amv_at, vls, inf, frs, mark_eq, ↓reduceIte, Nat.reduceEqDiff, ite_tt, ite_ff, eq_self, and_true, true_and, and_self, implies_true, Bool.true_eq_false, Bool.false_eq_true, decide_true, decide_false, decide_eq_true_eq, decide_eq_false_iff_not, ne_eq, not_true_eq_false, not_false_eq_true, Bool.not_eq_true', Bool.not_eq_false', beq_self_eq_true, Bool.not_true, Bool.not_false, List.getElem?_toArray, List.getElem?_cons_zero, List.getElem?_cons_succ, h2, h3, h5, h6]
    refine aloop (fun d fr V => ∃ (i : Nat) (fp : List Nat) (w : Value), i ≤ t.2.2.2.1.length ∧ d = t.2.2.2.1.length - i ∧ Led A [osl 9 strO fp w (rawR x.1 (autos ++ t.2.2.2.1.take i)), bx q3 ⟨38, [.string t.1, .string t.2.1, .slice a2 t.2.2.1.length c2, .slice a3 t.2.2.2.1.length c3], 4, true⟩, bx q2 ⟨26, [.slice a0 x.1.length c0, .slice a1 x.2.1.length c1], 2, true⟩] V ∧ fr 2 = .pointer (some ⟨q2, 0, none⟩) ∧ fr 3 = .pointer (some ⟨q3, 0, none⟩) ∧ fr 5 = w ∧ fr 7 = .int .i64 i) t.2.2.2.1.length ⟨0, _, _, by omega, by omega, by rw [List.take_zero, List.append_nil]; exact l, h2, h3, h5, by rfl⟩ ?_
    clear l k0 h2 h3 h5 h6
    rintro d fr V ⟨i, fp, w, hi, rfl, l, h2, h3, h5, h7⟩
    have n3 := l.cell (i := 1) rfl (o := 3) rfl rfl
    simp (disch := omega) only [↓stq, amv_at, vls, inf, frs, mark_eq, ↓reduceIte, Nat.reduceEqDiff, ite_tt, ite_ff, eq_self, and_true, true_and, and_self, implies_true, Bool.true_eq_false, Bool.false_eq_true, decide_true, decide_false, decide_eq_true_eq, decide_eq_false_iff_not, ne_eq, not_true_eq_false, not_false_eq_true, Bool.not_eq_true', Bool.not_eq_false', beq_self_eq_true, Bool.not_true, Bool.not_false, List.getElem?_toArray, List.getElem?_cons_zero, List.getElem?_cons_succ, h2, h3, h5, h7, add_at, n3]
    refine ⟨fun e2 => ?_, fun e2 => ?_⟩
    · have hlt : i < t.2.2.2.1.length := by omega
      have hN := rawR_names x.1 (autos ++ t.2.2.2.1.take i)
      obtain ⟨ad, rfl, kk, zk⟩ := (f3.mono l.ext).str hlt
      have htk : autos ++ t.2.2.2.1.take (i + 1) = (autos ++ t.2.2.2.1.take i) ++ [(t.2.2.2.1)[i]] := by rw [List.take_succ_eq_append_getElem hlt, List.append_assoc]
      simp (disch := omega) only [↓stq, amv_at, vls, inf, frs, mark_eq, ↓reduceIte, Nat.reduceEqDiff, ite_tt, ite_ff, eq_self, and_true, true_and, and_self, implies_true, Bool.true_eq_false, Bool.false_eq_true, decide_true, decide_false, decide_eq_true_eq, decide_eq_false_iff_not, ne_eq, not_true_eq_false, not_false_eq_true, Bool.not_eq_true', Bool.not_eq_false', beq_self_eq_true, Bool.not_true, Bool.not_false, List.getElem?_toArray, List.getElem?_cons_zero, List.getElem?_cons_succ, h2, h3, h5, h7]
      refine adraw_items [.l 0 false, .q 1, .l 2 false, .q 3, .q 4, .l 5 false, .q 7, .c 6 [], .c 8 [], .q 9] (by kernel_rfl) (by kernel_rfl) ?_
      have kp : V.part ⟨q2, 0, none⟩ 2 = some [.slice a0 x.1.length c0, .slice a1 x.2.1.length c1] := l.part (i := 2) rfl rfl
      simp (disch := omega) only [↓stq, amv_at, ↓pln, plv, nilOk, Nat.reduceBEq, Bool.or_false, Bool.or_true, Bool.false_or, Bool.true_or, vls, inf, frs, mark_eq, ↓reduceIte, Nat.reduceEqDiff, ite_tt, ite_ff, eq_self, and_true, true_and, and_self, implies_true, Bool.true_eq_false, Bool.false_eq_true, decide_true, decide_false, decide_eq_true_eq, decide_eq_false_iff_not, ne_eq, not_true_eq_false, not_false_eq_true, Bool.not_eq_true', Bool.not_eq_false', beq_self_eq_true, Bool.not_true, Bool.not_false, List.getElem?_toArray, List.getElem?_cons_zero, List.getElem?_cons_succ, h2, h3, h5, h7, add_at, n3, kp, kk]
      refine led_lit0 (O := strO) li31 l fun bo V _ l => ?_
      have n3 := l.cell (i := 2) rfl (o := 3) rfl rfl
      have kp : V.part ⟨q2, 0, none⟩ 2 = some [.slice a0 x.1.length c0, .slice a1 x.2.1.length c1] := l.part (i := 3) rfl rfl
      obtain ⟨_, hq, kk, _⟩ := (f3.mono l.ext).str hlt
      obtain rfl := Option.some.inj hq
      simp (disch := omega) only [↓stq, amv_at, ↓pln, plv, nilOk, Nat.reduceBEq, Bool.or_false, Bool.or_true, Bool.false_or, Bool.true_or, vls, inf, frs, mark_eq, ↓reduceIte, Nat.reduceEqDiff, ite_tt, ite_ff, eq_self, and_true, true_and, and_self, implies_true, Bool.true_eq_false, Bool.false_eq_true, decide_true, decide_false, decide_eq_true_eq, decide_eq_false_iff_not, ne_eq, not_true_eq_false, not_false_eq_true, Bool.not_eq_true', Bool.not_eq_false', beq_self_eq_true, Bool.not_true, Bool.not_false, List.getElem?_toArray, List.getElem?_cons_zero, List.getElem?_cons_succ, h2, h3, h5, h7, add_at, n3, kp, kk, false_implies]
      refine (spec_reach_c A _ x hx0 hsm (fuel x.1) V _ _ _ [] fp w _ zk (fun V fp w out l => Sl.empty ..) (fuel_ok _) (names_nil _) hN l.tail).mono ?_
      rintro r V2 ⟨fp2, l⟩
      have n3 := l.cell (i := 1) rfl (o := 3) rfl rfl
      have kp : V2.part ⟨q2, 0, none⟩ 2 = some [.slice a0 x.1.length c0, .slice a1 x.2.1.length c1] := l.part (i := 2) rfl rfl
      obtain ⟨_, hq, kk, _⟩ := (f3.mono l.ext).str hlt
      obtain rfl := Option.some.inj hq
      simp (disch := omega) only [↓stq, amv_at, ↓pln, plv, nilOk, Nat.reduceBEq, Bool.or_false, Bool.or_true, Bool.false_or, Bool.true_or, vls, inf, frs, mark_eq, ↓reduceIte, Nat.reduceEqDiff, ite_tt, ite_ff, eq_self, and_true, true_and, and_self, implies_true, Bool.true_eq_false, Bool.false_eq_true, decide_true, decide_false, decide_eq_true_eq, decide_eq_false_iff_not, ne_eq, not_true_eq_false, not_false_eq_true, Bool.not_eq_true', Bool.not_eq_false', beq_self_eq_true, Bool.not_true, Bool.not_false, List.getElem?_toArray, List.getElem?_cons_zero, List.getElem?_cons_succ, h2, h3, h5, h7, add_at, n3, kp, kk, false_implies]
      exact ⟨_, by omega, i + 1, fp2, r, by omega, rfl, by rw [htk, rawR_snoc]; exact l, rfl, rfl⟩
    have hie : i = t.2.2.2.1.length := by omega
    rw [hie, List.take_length] at l
    have hpre : autos ++ t.2.2.2.1 = preR x t := by rw [← hau]; rfl
    rw [hpre] at l
    unfold cloR
    have hN := rawR_names x.1 (preR x t)
    generalize rawR x.1 (preR x t) = raw at l hN ⊢
    have hNl := hN.len
    obtain ⟨aw, cw, rfl, _, _⟩ := (OSl.toS (show OSl 9 strO V fp w raw from l.at (i := 0) rfl)).slice
    · simp (disch := omega) only [↓stq, amv_at, vls, inf, frs, mark_eq, ↓reduceIte, Nat.reduceEqDiff, ite_tt, ite_ff, eq_self, and_true, true_and, and_self, implies_true, Bool.true_eq_false, Bool.false_eq_true, decide_true, decide_false, decide_eq_true_eq, decide_eq_false_iff_not, ne_eq, not_true_eq_false, not_false_eq_true, Bool.not_eq_true', Bool.not_eq_false', beq_self_eq_true, Bool.not_true, Bool.not_false, List.getElem?_toArray, List.getElem?_cons_zero, List.getElem?_cons_succ, h2, h3, h5, h7]
      refine led_lit0 (O := strO) li31 l fun b8 V _ l => ?_
      simp (disch := omega) only [↓stq, amv_at, vls, inf, frs, mark_eq, ↓reduceIte, Nat.reduceEqDiff, ite_tt, ite_ff, eq_self, and_true, true_and, and_self, implies_true, Bool.true_eq_false, Bool.false_eq_true, decide_true, decide_false, decide_eq_true_eq, decide_eq_false_iff_not, ne_eq, not_true_eq_false, not_false_eq_true, Bool.not_eq_true', Bool.not_eq_false', beq_self_eq_true, Bool.not_true, Bool.not_false, List.getElem?_toArray, List.getElem?_cons_zero, List.getElem?_cons_succ, h2, h3, h5, h7]
      refine aloop (fun d fr V => ∃ (k : Nat) (fo : List Nat) (wo : Value), k ≤ 3 ∧ d = 3 - k ∧ Led A [osl 9 strO fo wo (outsR x.1 raw k), osl 9 strO fp (.slice aw raw.length cw) raw, bx q3 ⟨38, [.string t.1, .string t.2.1, .slice a2 t.2.2.1.length c2, .slice a3 t.2.2.2.1.length c3], 4, true⟩, bx q2 ⟨26, [.slice a0 x.1.length c0, .slice a1 x.2.1.length c1], 2, true⟩] V ∧ fr 2 = .pointer (some ⟨q2, 0, none⟩) ∧ fr 5 = .slice aw raw.length cw ∧ fr 8 = wo ∧ fr 9 = .int .i64 (2 - (k : Int))) 3 ⟨0, _, _, by omega, by omega, l, h2, h5, by rfl, by rfl⟩ ?_
      clear l h2 h3 h5 h7 n3
      rintro d fr V ⟨k, fo, wo, hk, rfl, l, h2, h5, h8, h9⟩
      simp (disch := omega) only [↓stq, amv_at, vls, inf, frs, mark_eq, ↓reduceIte, Nat.reduceEqDiff, ite_tt, ite_ff, eq_self, and_true, true_and, and_self, implies_true, Bool.true_eq_false, Bool.false_eq_true, decide_true, decide_false, decide_eq_true_eq, decide_eq_false_iff_not, ne_eq, not_true_eq_false, not_false_eq_true, Bool.not_eq_true', Bool.not_eq_false', beq_self_eq_true, Bool.not_true, Bool.not_false, List.getElem?_toArray, List.getElem?_cons_zero, List.getElem?_cons_succ, h2, h5, h8, h9]
      refine ⟨fun e3 => ?_, fun e3 => ?_⟩
      · have hk3 : k < 3 := by omega
        simp (disch := omega) only [↓stq, amv_at, vls, inf, frs, mark_eq, ↓reduceIte, Nat.reduceEqDiff, ite_tt, ite_ff, eq_self, and_true, true_and, and_self, implies_true, Bool.true_eq_false, Bool.false_eq_true, decide_true, decide_false, decide_eq_true_eq, decide_eq_false_iff_not, ne_eq, not_true_eq_false, not_false_eq_true, Bool.not_eq_true', Bool.not_eq_false', beq_self_eq_true, Bool.not_true, Bool.not_false, List.getElem?_toArray, List.getElem?_cons_zero, List.getElem?_cons_succ, h2, h5, h8, h9]
        refine aloop (fun d fr V => ∃ (i : Nat) (fo : List Nat) (wo : Value), i ≤ raw.length ∧ d = raw.length - i ∧ Led A [osl 9 strO fo wo (outsR x.1 raw k ++ bucket x.1 (raw.take i) (2 - (k : Int))), osl 9 strO fp (.slice aw raw.length cw) raw, bx q3 ⟨38, [.string t.1, .string t.2.1, .slice a2 t.2.2.1.length c2, .slice a3 t.2.2.2.1.length c3], 4, true⟩, bx q2 ⟨26, [.slice a0 x.1.length c0, .slice a1 x.2.1.length c1], 2, true⟩] V ∧ fr 2 = .pointer (some ⟨q2, 0, none⟩) ∧ fr 5 = .slice aw raw.length cw ∧ fr 8 = wo ∧ fr 9 = .int .i64 (2 - (k : Int)) ∧ fr 10 = .int .i64 i) raw.length ⟨0, _, _, by omega, by omega, by rw [List.take_zero]; show Led A [osl _ _ _ _ (_ ++ []), _, _, _] _; rw [List.append_nil]; exact l, h2, h5, h8, h9, by rfl⟩ ?_
        clear l h2 h5 h8 h9
        rintro d fr V ⟨i, fo, wo, hi, rfl, l, h2, h5, h8, h9, h10⟩
        simp (disch := omega) only [↓stq, amv_at, vls, inf, frs, mark_eq, ↓reduceIte, Nat.reduceEqDiff, ite_tt, ite_ff, eq_self, and_true, true_and, and_self, implies_true, Bool.true_eq_false, Bool.false_eq_true, decide_true, decide_false, decide_eq_true_eq, decide_eq_false_iff_not, ne_eq, not_true_eq_false, not_false_eq_true, Bool.not_eq_true', Bool.not_eq_false', beq_self_eq_true, Bool.not_true, Bool.not_false, List.getElem?_toArray, List.getElem?_cons_zero, List.getElem?_cons_succ, h2, h5, h8, h9, h10]
        refine ⟨fun e4 => ?_, fun e4 => ?_⟩
        · have hlt : i < raw.length := by omega
          have hF := hN.2 _ (List.getElem_mem hlt)
          obtain ⟨j, hj, hjl, _, hsc, _⟩ := scope_idx (fs := x.1) (a := raw[i]) (hasF_idx.1 hF)
          obtain ⟨adj, uj, rfl, hclA, _, _, _⟩ := g0.fixture hjl
          have hcl := l.ext.part hclA
          have s1 := View.part_cell hcl (j := 1) rfl
          obtain ⟨adr, hq, kr, zr⟩ := (OSl.toS (show OSl 9 strO V fp _ raw from l.at (i := 1) rfl)).str hlt
          subst hq
          have k0 := l.cell (i := 3) rfl (o := 0) rfl rfl
          have hbt := bucket_take (fs := x.1) (s := 2 - (k : Int)) hlt
          have hb1 := outsR_len x.1 raw k
          have hb2 := bucket_len x.1 (raw.take i) (2 - (k : Int))
          rw [List.length_take] at hb2
          have hb3 : k * raw.length ≤ 3 * raw.length := Nat.mul_le_mul_right _ hk
          simp (disch := omega) only [↓stq, amv_at, vls, inf, frs, mark_eq, ↓reduceIte, Nat.reduceEqDiff, ite_tt, ite_ff, eq_self, and_true, true_and, and_self, implies_true, Bool.true_eq_false, Bool.false_eq_true, decide_true, decide_false, decide_eq_true_eq, decide_eq_false_iff_not, ne_eq, not_true_eq_false, not_false_eq_true, Bool.not_eq_true', Bool.not_eq_false', beq_self_eq_true, Bool.not_true, Bool.not_false, List.getElem?_toArray, List.getElem?_cons_zero, List.getElem?_cons_succ, h2, h5, h8, h9, h10]
          refine adraw_items [.q 0, .l 1 true, .q 2, .l 3 false, .q 4, .q 5, .q 6, .l 7 false, .q 12, .c 8 [1], .q 9, .q 10, .l 11 false, .q 13] (by kernel_rfl) (by kernel_rfl) ?_
          simp (disch := omega) only [↓stq, amv_at, ↓pln, plv, nilOk, Nat.reduceBEq, Bool.or_false, Bool.or_true, Bool.false_or, Bool.true_or, vls, inf, frs, mark_eq, ↓reduceIte, Nat.reduceEqDiff, ite_tt, ite_ff, eq_self, and_true, true_and, and_self, implies_true, Bool.true_eq_false, Bool.false_eq_true, decide_true, decide_false, decide_eq_true_eq, decide_eq_false_iff_not, ne_eq, not_true_eq_false, not_false_eq_true, Bool.not_eq_true', Bool.not_eq_false', beq_self_eq_true, Bool.not_true, Bool.not_false, List.getElem?_toArray, List.getElem?_cons_zero, List.getElem?_cons_succ, h2, h5, h8, h9, h10, add_at, k0, kr]
          refine (spec_fixtureAt_c V _ x.1 raw[i] (g0.mono l.ext)).mono ?_
          rintro _ V ⟨rfl, rfl⟩
          rw [hj]
          simp (disch := omega) only [↓stq, amv_at, ↓pln, plv, nilOk, Nat.reduceBEq, Bool.or_false, Bool.or_true, Bool.false_or, Bool.true_or, vls, inf, frs, mark_eq, ↓reduceIte, Nat.reduceEqDiff, ite_tt, ite_ff, eq_self, and_true, true_and, and_self, implies_true, Bool.true_eq_false, Bool.false_eq_true, decide_true, decide_false, decide_eq_true_eq, decide_eq_false_iff_not, ne_eq, not_true_eq_false, not_false_eq_true, Bool.not_eq_true', Bool.not_eq_false', beq_self_eq_true, Bool.not_true, Bool.not_false, List.getElem?_toArray, List.getElem?_cons_zero, List.getElem?_cons_succ, h2, h5, h8, h9, h10, add_at, k0, kr, s1]
          rw [← hsc]
          refine ⟨fun e5 => ?_, fun e5 => ?_⟩ <;> simp (disch := omega) only [↓stq, amv_at, vls, inf, frs, mark_eq, ↓reduceIte, Nat.reduceEqDiff, ite_tt, ite_ff, eq_self, and_true, true_and, and_self, implies_true, Bool.true_eq_false, Bool.false_eq_true, decide_true, decide_false, decide_eq_true_eq, decide_eq_false_iff_not, ne_eq, not_true_eq_false, not_false_eq_true, Bool.not_eq_true', Bool.not_eq_false', beq_self_eq_true, Bool.not_true, Bool.not_false, List.getElem?_toArray, List.getElem?_cons_zero, List.getElem?_cons_succ, h2, h5, h8, h9, h10, kr]
          · refine led_lit li31 (by omega) rfl (by simp [Value.cells, Value.oneCell']) l fun bl V _ l => ?_
            simp (disch := omega) only [↓stq, amv_at, vls, inf, frs, mark_eq, ↓reduceIte, Nat.reduceEqDiff, ite_tt, ite_ff, eq_self, and_true, true_and, and_self, implies_true, Bool.true_eq_false, Bool.false_eq_true, decide_true, decide_false, decide_eq_true_eq, decide_eq_false_iff_not, ne_eq, not_true_eq_false, not_false_eq_true, Bool.not_eq_true', Bool.not_eq_false', beq_self_eq_true, Bool.not_true, Bool.not_false, List.getElem?_toArray, List.getElem?_cons_zero, List.getElem?_cons_succ, h2, h5, h8, h9, h10]
            refine led_app (O := strO) ap31_31 (by decide) l (i := 1) rfl (l.src1 (S := strS) (j := 0) rfl ⟨rfl, zr⟩) (by rw [List.length_singleton, List.length_append]; omega) fun fp2 w2 V4 _ l => ?_
            simp (disch := omega) only [↓stq, amv_at, vls, inf, frs, mark_eq, ↓reduceIte, Nat.reduceEqDiff, ite_tt, ite_ff, eq_self, and_true, true_and, and_self, implies_true, Bool.true_eq_false, Bool.false_eq_true, decide_true, decide_false, decide_eq_true_eq, decide_eq_false_iff_not, ne_eq, not_true_eq_false, not_false_eq_true, Bool.not_eq_true', Bool.not_eq_false', beq_self_eq_true, Bool.not_true, Bool.not_false, List.getElem?_toArray, List.getElem?_cons_zero, List.getElem?_cons_succ, h2, h5, h8, h9, h10]
            rw [if_pos e5] at hbt
            exact ⟨_, by omega, i + 1, fp2, w2, by omega, rfl, by rw [hbt, ← List.append_assoc]; exact l.tail, rfl, rfl⟩
          · rw [if_neg e5, List.append_nil] at hbt
            exact ⟨_, by omega, i + 1, fo, wo, by omega, rfl, by rw [hbt]; exact l, rfl, rfl⟩
        · have hie : i = raw.length := by omega
          rw [hie, List.take_length] at l
          simp (disch := omega) only [↓stq, amv_at, vls, inf, frs, mark_eq, ↓reduceIte, Nat.reduceEqDiff, ite_tt, ite_ff, eq_self, and_true, true_and, and_self, implies_true, Bool.true_eq_false, Bool.false_eq_true, decide_true, decide_false, decide_eq_true_eq, decide_eq_false_iff_not, ne_eq, not_true_eq_false, not_false_eq_true, Bool.not_eq_true', Bool.not_eq_false', beq_self_eq_true, Bool.not_true, Bool.not_false, List.getElem?_toArray, List.getElem?_cons_zero, List.getElem?_cons_succ, h2, h5, h8, h9, h10]
          exact ⟨_, by omega, k + 1, fo, wo, by omega, rfl, l, rfl, congrArg (Value.int .i64) (by omega)⟩
      · have hk3 : k = 3 := by omega
        subst hk3
        rw [outsR_end] at l
        simp (disch := omega) only [↓stq, amv_at, vls, inf, frs, mark_eq, ↓reduceIte, Nat.reduceEqDiff, ite_tt, ite_ff, eq_self, and_true, true_and, and_self, implies_true, Bool.true_eq_false, Bool.false_eq_true, decide_true, decide_false, decide_eq_true_eq, decide_eq_false_iff_not, ne_eq, not_true_eq_false, not_false_eq_true, Bool.not_eq_true', Bool.not_eq_false', beq_self_eq_true, Bool.not_true, Bool.not_false, List.getElem?_toArray, List.getElem?_cons_zero, List.getElem?_cons_succ, h2, h5, h8, h9]
        exact NewSl.of l (i := 0) rfl

/-! ### events -/
instance : Flat eventO := inferInstanceAs (Flat (consO intO (consO strO unitO)))
theorem cloR_len {fs : List FixtureD} {n : Nat} (hl : fs.length ≤ n) (ns : List ByteArray) : (cloR fs ns).length ≤ 3 * n := by
  have h1 := (rawR_names fs ns).len
  have h2 := bucket_len fs (rawR fs ns)
  have := h2 0
  have := h2 1
  have := h2 2
  unfold cloR
  rw [List.length_append, List.length_append]
  omega
theorem cloR_has {fs : List FixtureD} {ns : List ByteArray} : ∀ a, a ∈ cloR fs ns → hasF fs a := fun a ha => by
  have hN := (rawR_names fs ns).2
  unfold cloR at ha
  rcases List.mem_append.1 ha with ha | ha
  · exact hN a (bucket_mem.1 ha).1
  · rcases List.mem_append.1 ha with ha | ha <;> exact hN a (bucket_mem.1 ha).1
theorem nil_lit {V : View} : (⟨55, ([] : List Value), 0, true⟩ : Blk) = ⟨55, [], 0, true⟩ := rfl

theorem spec_liveScope_c (A : View) (d : List Value) (x : SuiteD) (v : Value) (ls : List ByteArray) (s : Int) (hx : suiteS.rel A x d) (h : Sl strS A v ls) (hF : ∀ a, a ∈ ls → hasF x.1 a) (hl : ls.length ≤ 1048576) : ACalls Try.prog 116 #[.agg d.toArray, v, .int .i64 s] A fun r V => NewSl 9 strO A r V (bucket x.1 ls s) := by
  obtain ⟨u0, u1, rfl, g0, g1⟩ := suiteS_open hx
  obtain ⟨a0, c0, rfl, _, _⟩ := g0.slice
  obtain ⟨a1, c1, rfl, _, _⟩ := g1.slice
  obtain ⟨al, cl, rfl, _, _⟩ := h.slice
  refine acalls Try.func116 rfl (by kernel_rfl) ?_
  simp (disch := omega) only [↓stq, amv_at, vls, inf, frs, mark_eq, ↓reduceIte, Nat.reduceEqDiff, ite_tt, ite_ff, eq_self, and_true, true_and, and_self, implies_true, Bool.true_eq_false, Bool.false_eq_true, decide_true, decide_false, decide_eq_true_eq, decide_eq_false_iff_not, ne_eq, not_true_eq_false, not_false_eq_true, Bool.not_eq_true', Bool.not_eq_false', beq_self_eq_true, Bool.not_true, Bool.not_false, List.getElem?_toArray, List.getElem?_cons_zero, List.getElem?_cons_succ]
  refine led_box (Led.nil A) rfl fun q V _ l => ?_
  simp (disch := omega) only [↓stq, amv_at, vls, inf, frs, mark_eq, ↓reduceIte, Nat.reduceEqDiff, ite_tt, ite_ff, eq_self, and_true, true_and, and_self, implies_true, Bool.true_eq_false, Bool.false_eq_true, decide_true, decide_false, decide_eq_true_eq, decide_eq_false_iff_not, ne_eq, not_true_eq_false, not_false_eq_true, Bool.not_eq_true', Bool.not_eq_false', beq_self_eq_true, Bool.not_true, Bool.not_false, List.getElem?_toArray, List.getElem?_cons_zero, List.getElem?_cons_succ]
  refine led_lit0 (O := strO) li31 l fun b V _ l => ?_
  simp (disch := omega) only [↓stq, amv_at, vls, inf, frs, mark_eq, ↓reduceIte, Nat.reduceEqDiff, ite_tt, ite_ff, eq_self, and_true, true_and, and_self, implies_true, Bool.true_eq_false, Bool.false_eq_true, decide_true, decide_false, decide_eq_true_eq, decide_eq_false_iff_not, ne_eq, not_true_eq_false, not_false_eq_true, Bool.not_eq_true', Bool.not_eq_false', beq_self_eq_true, Bool.not_true, Bool.not_false, List.getElem?_toArray, List.getElem?_cons_zero, List.getElem?_cons_succ]
  refine aloop (fun d fr V => ∃ (i : Nat) (fp : List Nat) (w : Value), i ≤ ls.length ∧ d = ls.length - i ∧ Led A [osl 9 strO fp w (bucket x.1 (ls.take i) s), bx q ⟨26, [.slice a0 x.1.length c0, .slice a1 x.2.1.length c1], 2, true⟩] V ∧ fr 1 = .slice al ls.length cl ∧ fr 2 = .int .i64 s ∧ fr 3 = .pointer (some ⟨q, 0, none⟩) ∧ fr 7 = w ∧ fr 8 = .int .i64 i) ls.length ⟨0, _, _, by omega, by omega, l, by rfl, by rfl, by rfl, by rfl, by rfl⟩ ?_
  clear l
  rintro d fr V ⟨i, fp, w, hi, rfl, l, h1, h2, h3, h7, h8⟩
  simp (disch := omega) only [↓stq, amv_at, vls, inf, frs, mark_eq, ↓reduceIte, Nat.reduceEqDiff, ite_tt, ite_ff, eq_self, and_true, true_and, and_self, implies_true, Bool.true_eq_false, Bool.false_eq_true, decide_true, decide_false, decide_eq_true_eq, decide_eq_false_iff_not, ne_eq, not_true_eq_false, not_false_eq_true, Bool.not_eq_true', Bool.not_eq_false', beq_self_eq_true, Bool.not_true, Bool.not_false, List.getElem?_toArray, List.getElem?_cons_zero, List.getElem?_cons_succ, h1, h2, h3, h7, h8]
  refine ⟨fun e1 => ?_, fun e1 => ?_⟩
  · have hlt : i < ls.length := by omega
    obtain ⟨j, hj, hjl, _, hsc, _⟩ := scope_idx (fs := x.1) (a := ls[i]) (hasF_idx.1 (hF _ (List.getElem_mem hlt)))
    obtain ⟨adj, uj, rfl, hclA, _, _, _⟩ := g0.fixture hjl
    have s1 := View.part_cell (l.ext.part hclA) (j := 1) rfl
    obtain ⟨adr, hq, kr, zr⟩ := (h.mono l.ext).str hlt
    subst hq
    have k0 := l.cell (i := 1) rfl (o := 0) rfl rfl
    have hbt := bucket_take (fs := x.1) (s := s) hlt
    have hb2 := bucket_len x.1 (ls.take i) s
    rw [List.length_take] at hb2
    simp (disch := omega) only [↓stq, amv_at, vls, inf, frs, mark_eq, ↓reduceIte, Nat.reduceEqDiff, ite_tt, ite_ff, eq_self, and_true, true_and, and_self, implies_true, Bool.true_eq_false, Bool.false_eq_true, decide_true, decide_false, decide_eq_true_eq, decide_eq_false_iff_not, ne_eq, not_true_eq_false, not_false_eq_true, Bool.not_eq_true', Bool.not_eq_false', beq_self_eq_true, Bool.not_true, Bool.not_false, List.getElem?_toArray, List.getElem?_cons_zero, List.getElem?_cons_succ, h1, h2, h3, h7, h8]
    refine adraw_items [.q 0, .l 1 true, .q 2, .l 3 false, .q 4, .q 5, .q 6, .l 7 false, .q 12, .c 8 [1], .q 9, .q 10, .l 11 false, .q 13] (by kernel_rfl) (by kernel_rfl) ?_
    simp (disch := omega) only [↓stq, amv_at, ↓pln, plv, nilOk, Nat.reduceBEq, Bool.or_false, Bool.or_true, Bool.false_or, Bool.true_or, vls, inf, frs, mark_eq, ↓reduceIte, Nat.reduceEqDiff, ite_tt, ite_ff, eq_self, and_true, true_and, and_self, implies_true, Bool.true_eq_false, Bool.false_eq_true, decide_true, decide_false, decide_eq_true_eq, decide_eq_false_iff_not, ne_eq, not_true_eq_false, not_false_eq_true, Bool.not_eq_true', Bool.not_eq_false', beq_self_eq_true, Bool.not_true, Bool.not_false, List.getElem?_toArray, List.getElem?_cons_zero, List.getElem?_cons_succ, h1, h2, h3, h7, h8, add_at, k0, kr]
    refine (spec_fixtureAt_c V _ x.1 ls[i] (g0.mono l.ext)).mono ?_
    rintro _ V ⟨rfl, rfl⟩
    rw [hj]
    simp (disch := omega) only [↓stq, amv_at, ↓pln, plv, nilOk, Nat.reduceBEq, Bool.or_false, Bool.or_true, Bool.false_or, Bool.true_or, vls, inf, frs, mark_eq, ↓reduceIte, Nat.reduceEqDiff, ite_tt, ite_ff, eq_self, and_true, true_and, and_self, implies_true, Bool.true_eq_false, Bool.false_eq_true, decide_true, decide_false, decide_eq_true_eq, decide_eq_false_iff_not, ne_eq, not_true_eq_false, not_false_eq_true, Bool.not_eq_true', Bool.not_eq_false', beq_self_eq_true, Bool.not_true, Bool.not_false, List.getElem?_toArray, List.getElem?_cons_zero, List.getElem?_cons_succ, h1, h2, h3, h7, h8, add_at, k0, kr, s1]
    rw [← hsc]
    refine ⟨fun e5 => ?_, fun e5 => ?_⟩ <;> simp (disch := omega) only [↓stq, amv_at, vls, inf, frs, mark_eq, ↓reduceIte, Nat.reduceEqDiff, ite_tt, ite_ff, eq_self, and_true, true_and, and_self, implies_true, Bool.true_eq_false, Bool.false_eq_true, decide_true, decide_false, decide_eq_true_eq, decide_eq_false_iff_not, ne_eq, not_true_eq_false, not_false_eq_true, Bool.not_eq_true', Bool.not_eq_false', beq_self_eq_true, Bool.not_true, Bool.not_false, List.getElem?_toArray, List.getElem?_cons_zero, List.getElem?_cons_succ, h1, h2, h3, h7, h8, kr]
    · refine led_lit li31 (by omega) rfl (by simp [Value.cells, Value.oneCell']) l fun bl V _ l => ?_
      simp (disch := omega) only [↓stq, amv_at, vls, inf, frs, mark_eq, ↓reduceIte, Nat.reduceEqDiff, ite_tt, ite_ff, eq_self, and_true, true_and, and_self, implies_true, Bool.true_eq_false, Bool.false_eq_true, decide_true, decide_false, decide_eq_true_eq, decide_eq_false_iff_not, ne_eq, not_true_eq_false, not_false_eq_true, Bool.not_eq_true', Bool.not_eq_false', beq_self_eq_true, Bool.not_true, Bool.not_false, List.getElem?_toArray, List.getElem?_cons_zero, List.getElem?_cons_succ, h1, h2, h3, h7, h8]
      refine led_app (O := strO) ap31_31 (by decide) l (i := 1) rfl (l.src1 (S := strS) (j := 0) rfl ⟨rfl, zr⟩) (by rw [List.length_singleton]; omega) fun fp2 w2 V4 _ l => ?_
      simp (disch := omega) only [↓stq, amv_at, vls, inf, frs, mark_eq, ↓reduceIte, Nat.reduceEqDiff, ite_tt, ite_ff, eq_self, and_true, true_and, and_self, implies_true, Bool.true_eq_false, Bool.false_eq_true, decide_true, decide_false, decide_eq_true_eq, decide_eq_false_iff_not, ne_eq, not_true_eq_false, not_false_eq_true, Bool.not_eq_true', Bool.not_eq_false', beq_self_eq_true, Bool.not_true, Bool.not_false, List.getElem?_toArray, List.getElem?_cons_zero, List.getElem?_cons_succ, h1, h2, h3, h7, h8]
      rw [if_pos e5] at hbt
      exact ⟨_, by omega, i + 1, fp2, w2, by omega, rfl, by rw [hbt]; exact l.tail, rfl, rfl⟩
    · rw [if_neg e5, List.append_nil] at hbt
      exact ⟨_, by omega, i + 1, fp, w, by omega, rfl, by rw [hbt]; exact l, rfl, rfl⟩
  · simp (disch := omega) only [↓stq, amv_at, vls, inf, frs, mark_eq, ↓reduceIte, Nat.reduceEqDiff, ite_tt, ite_ff, eq_self, and_true, true_and, and_self, implies_true, Bool.true_eq_false, Bool.false_eq_true, decide_true, decide_false, decide_eq_true_eq, decide_eq_false_iff_not, ne_eq, not_true_eq_false, not_false_eq_true, Bool.not_eq_true', Bool.not_eq_false', beq_self_eq_true, Bool.not_true, Bool.not_false, List.getElem?_toArray, List.getElem?_cons_zero, List.getElem?_cons_succ, h1, h2, h3, h7, h8]
    rw [List.take_of_length_le (by omega)] at l
    exact NewSl.of l (i := 0) rfl

theorem spec_without_c (A : View) (v u : Value) (ls ms : List ByteArray) (h : Sl strS A v ls) (h' : Sl strS A u ms) (hl : ls.length ≤ 1048576) : ACalls Try.prog 111 #[v, u] A fun r V => NewSl 9 strO A r V (ls.filter fun a => decide (a ∉ ms)) := by
  obtain ⟨al, cl, rfl, _, _⟩ := h.slice
  obtain ⟨am, cm, rfl, _, _⟩ := h'.slice
  refine acalls Try.func111 rfl (by kernel_rfl) ?_
  simp (disch := omega) only [↓stq, amv_at, vls, inf, frs, mark_eq, ↓reduceIte, Nat.reduceEqDiff, ite_tt, ite_ff, eq_self, and_true, true_and, and_self, implies_true, Bool.true_eq_false, Bool.false_eq_true, decide_true, decide_false, decide_eq_true_eq, decide_eq_false_iff_not, ne_eq, not_true_eq_false, not_false_eq_true, Bool.not_eq_true', Bool.not_eq_false', beq_self_eq_true, Bool.not_true, Bool.not_false, List.getElem?_toArray, List.getElem?_cons_zero, List.getElem?_cons_succ]
  refine led_lit0 (O := strO) li31 (Led.nil A) fun b V _ l => ?_
  simp (disch := omega) only [↓stq, amv_at, vls, inf, frs, mark_eq, ↓reduceIte, Nat.reduceEqDiff, ite_tt, ite_ff, eq_self, and_true, true_and, and_self, implies_true, Bool.true_eq_false, Bool.false_eq_true, decide_true, decide_false, decide_eq_true_eq, decide_eq_false_iff_not, ne_eq, not_true_eq_false, not_false_eq_true, Bool.not_eq_true', Bool.not_eq_false', beq_self_eq_true, Bool.not_true, Bool.not_false, List.getElem?_toArray, List.getElem?_cons_zero, List.getElem?_cons_succ]
  refine aloop (fun d fr V => ∃ (i : Nat) (fp : List Nat) (w : Value), i ≤ ls.length ∧ d = ls.length - i ∧ Led A [osl 9 strO fp w ((ls.take i).filter fun a => decide (a ∉ ms))] V ∧ fr 0 = .slice al ls.length cl ∧ fr 1 = .slice am ms.length cm ∧ fr 5 = w ∧ fr 6 = .int .i64 i) ls.length ⟨0, _, _, by omega, by omega, l, by rfl, by rfl, by rfl, by rfl⟩ ?_
  clear l
  rintro d fr V ⟨i, fp, w, hi, rfl, l, h0, h1, h5, h6⟩
  simp (disch := omega) only [↓stq, amv_at, vls, inf, frs, mark_eq, ↓reduceIte, Nat.reduceEqDiff, ite_tt, ite_ff, eq_self, and_true, true_and, and_self, implies_true, Bool.true_eq_false, Bool.false_eq_true, decide_true, decide_false, decide_eq_true_eq, decide_eq_false_iff_not, ne_eq, not_true_eq_false, not_false_eq_true, Bool.not_eq_true', Bool.not_eq_false', beq_self_eq_true, Bool.not_true, Bool.not_false, List.getElem?_toArray, List.getElem?_cons_zero, List.getElem?_cons_succ, h0, h1, h5, h6]
  refine ⟨fun e1 => ?_, fun e1 => ?_⟩
  · have hlt : i < ls.length := by omega
    have hb2 : ((ls.take i).filter fun a => decide (a ∉ ms)).length ≤ (ls.take i).length := List.length_filter_le ..
    rw [List.length_take] at hb2
    have htk : (ls.take (i + 1)).filter (fun a => decide (a ∉ ms)) = (ls.take i).filter (fun a => decide (a ∉ ms)) ++ (if ls[i] ∉ ms then [ls[i]] else []) := by
      rw [List.take_succ_eq_append_getElem hlt, List.filter_append, List.filter_cons]
      by_cases hq : ls[i] ∉ ms
      · rw [if_pos (decide_eq_true hq), if_pos hq]; rfl
      · rw [if_neg (by rw [decide_eq_false hq]; decide), if_neg hq]; rfl
    obtain ⟨adr, rfl, kr, zr⟩ := (h.mono l.ext).str hlt
    simp (disch := omega) only [↓stq, amv_at, vls, inf, frs, mark_eq, ↓reduceIte, Nat.reduceEqDiff, ite_tt, ite_ff, eq_self, and_true, true_and, and_self, implies_true, Bool.true_eq_false, Bool.false_eq_true, decide_true, decide_false, decide_eq_true_eq, decide_eq_false_iff_not, ne_eq, not_true_eq_false, not_false_eq_true, Bool.not_eq_true', Bool.not_eq_false', beq_self_eq_true, Bool.not_true, Bool.not_false, List.getElem?_toArray, List.getElem?_cons_zero, List.getElem?_cons_succ, h0, h1, h5, h6, kr]
    refine (spec_hasText_c V _ ms ls[i] (h'.mono l.ext)).mono ?_
    rintro _ V ⟨rfl, rfl⟩
    simp (disch := omega) only [↓stq, amv_at, vls, inf, frs, mark_eq, ↓reduceIte, Nat.reduceEqDiff, ite_tt, ite_ff, eq_self, and_true, true_and, and_self, implies_true, Bool.true_eq_false, Bool.false_eq_true, decide_true, decide_false, decide_eq_true_eq, decide_eq_false_iff_not, ne_eq, not_true_eq_false, not_false_eq_true, Bool.not_eq_true', Bool.not_eq_false', beq_self_eq_true, Bool.not_true, Bool.not_false, List.getElem?_toArray, List.getElem?_cons_zero, List.getElem?_cons_succ, h0, h1, h5, h6]
    refine ⟨fun e5 => ?_, fun e5 => ?_⟩ <;> simp (disch := omega) only [↓stq, amv_at, vls, inf, frs, mark_eq, ↓reduceIte, Nat.reduceEqDiff, ite_tt, ite_ff, eq_self, and_true, true_and, and_self, implies_true, Bool.true_eq_false, Bool.false_eq_true, decide_true, decide_false, decide_eq_true_eq, decide_eq_false_iff_not, ne_eq, not_true_eq_false, not_false_eq_true, Bool.not_eq_true', Bool.not_eq_false', beq_self_eq_true, Bool.not_true, Bool.not_false, List.getElem?_toArray, List.getElem?_cons_zero, List.getElem?_cons_succ, h0, h1, h5, h6, kr]
    · refine led_lit li31 (by omega) rfl (by simp [Value.cells, Value.oneCell']) l fun bl V _ l => ?_
      simp (disch := omega) only [↓stq, amv_at, vls, inf, frs, mark_eq, ↓reduceIte, Nat.reduceEqDiff, ite_tt, ite_ff, eq_self, and_true, true_and, and_self, implies_true, Bool.true_eq_false, Bool.false_eq_true, decide_true, decide_false, decide_eq_true_eq, decide_eq_false_iff_not, ne_eq, not_true_eq_false, not_false_eq_true, Bool.not_eq_true', Bool.not_eq_false', beq_self_eq_true, Bool.not_true, Bool.not_false, List.getElem?_toArray, List.getElem?_cons_zero, List.getElem?_cons_succ, h0, h1, h5, h6]
      refine led_app (O := strO) ap31_31 (by decide) l (i := 1) rfl (l.src1 (S := strS) (j := 0) rfl ⟨rfl, zr⟩) (by rw [List.length_singleton]; omega) fun fp2 w2 V4 _ l => ?_
      simp (disch := omega) only [↓stq, amv_at, vls, inf, frs, mark_eq, ↓reduceIte, Nat.reduceEqDiff, ite_tt, ite_ff, eq_self, and_true, true_and, and_self, implies_true, Bool.true_eq_false, Bool.false_eq_true, decide_true, decide_false, decide_eq_true_eq, decide_eq_false_iff_not, ne_eq, not_true_eq_false, not_false_eq_true, Bool.not_eq_true', Bool.not_eq_false', beq_self_eq_true, Bool.not_true, Bool.not_false, List.getElem?_toArray, List.getElem?_cons_zero, List.getElem?_cons_succ, h0, h1, h5, h6]
      rw [if_pos e5] at htk
      exact ⟨_, by omega, i + 1, fp2, w2, by omega, rfl, by rw [htk]; exact l.tail, rfl, rfl⟩
    · rw [if_neg (by simpa using e5), List.append_nil] at htk
      exact ⟨_, by omega, i + 1, fp, w, by omega, rfl, by rw [htk]; exact l, rfl, rfl⟩
  · simp (disch := omega) only [↓stq, amv_at, vls, inf, frs, mark_eq, ↓reduceIte, Nat.reduceEqDiff, ite_tt, ite_ff, eq_self, and_true, true_and, and_self, implies_true, Bool.true_eq_false, Bool.false_eq_true, decide_true, decide_false, decide_eq_true_eq, decide_eq_false_iff_not, ne_eq, not_true_eq_false, not_false_eq_true, Bool.not_eq_true', Bool.not_eq_false', beq_self_eq_true, Bool.not_true, Bool.not_false, List.getElem?_toArray, List.getElem?_cons_zero, List.getElem?_cons_succ, h0, h1, h5, h6]
    rw [List.take_of_length_le (by omega)] at l
    exact NewSl.of l (i := 0) rfl

def downR (ls : List ByteArray) : List EventD := ls.reverse.map fun n => (1, n, ())
theorem spec_downs_c (A : View) (v : Value) (ls : List ByteArray) (h : Sl strS A v ls) (hl : ls.length ≤ 1048576) : ACalls Try.prog 117 #[v] A fun r V => NewSl 55 eventO A r V (downR ls) := by
  obtain ⟨al, cl, rfl, _, _⟩ := h.slice
  refine acalls Try.func117 rfl (by kernel_rfl) ?_
  simp (disch := omega) only [↓stq, amv_at, vls, inf, frs, mark_eq, ↓reduceIte, Nat.reduceEqDiff, ite_tt, ite_ff, eq_self, and_true, true_and, and_self, implies_true, Bool.true_eq_false, Bool.false_eq_true, decide_true, decide_false, decide_eq_true_eq, decide_eq_false_iff_not, ne_eq, not_true_eq_false, not_false_eq_true, Bool.not_eq_true', Bool.not_eq_false', beq_self_eq_true, Bool.not_true, Bool.not_false, List.getElem?_toArray, List.getElem?_cons_zero, List.getElem?_cons_succ]
  refine led_lit0 (O := eventO) li48 (Led.nil A) fun b V _ l => ?_
  simp (disch := omega) only [↓stq, amv_at, vls, inf, frs, mark_eq, ↓reduceIte, Nat.reduceEqDiff, ite_tt, ite_ff, eq_self, and_true, true_and, and_self, implies_true, Bool.true_eq_false, Bool.false_eq_true, decide_true, decide_false, decide_eq_true_eq, decide_eq_false_iff_not, ne_eq, not_true_eq_false, not_false_eq_true, Bool.not_eq_true', Bool.not_eq_false', beq_self_eq_true, Bool.not_true, Bool.not_false, List.getElem?_toArray, List.getElem?_cons_zero, List.getElem?_cons_succ]
  refine aloop (fun d fr V => ∃ (i : Nat) (fp : List Nat) (w : Value), i ≤ ls.length ∧ d = i ∧ Led A [osl 55 eventO fp w (downR (ls.drop i))] V ∧ fr 0 = .slice al ls.length cl ∧ fr 3 = w ∧ fr 4 = .int .i64 ((i : Int) - 1)) ls.length ⟨ls.length, _, _, by omega, rfl, by rw [List.drop_length]; exact l, by rfl, by rfl, by rfl⟩ ?_
  clear l
  rintro d fr V ⟨i, fp, w, hi, rfl, l, h0, h3, h4⟩
  simp (disch := omega) only [↓stq, amv_at, vls, inf, frs, mark_eq, ↓reduceIte, Nat.reduceEqDiff, ite_tt, ite_ff, eq_self, and_true, true_and, and_self, implies_true, Bool.true_eq_false, Bool.false_eq_true, decide_true, decide_false, decide_eq_true_eq, decide_eq_false_iff_not, ne_eq, not_true_eq_false, not_false_eq_true, Bool.not_eq_true', Bool.not_eq_false', beq_self_eq_true, Bool.not_true, Bool.not_false, List.getElem?_toArray, List.getElem?_cons_zero, List.getElem?_cons_succ, h0, h3, h4]
  refine ⟨fun e1 => ?_, fun e1 => ?_⟩
  · obtain ⟨i, rfl⟩ : ∃ i, d = i + 1 := ⟨d - 1, by omega⟩
    have hlt : i < ls.length := by omega
    have hdd : (((i + 1 : Nat) : Int) - 1).toNat = i := by omega
    have hdr : downR (ls.drop i) = downR (ls.drop (i + 1)) ++ [(1, ls[i], ())] := by
      unfold downR
      rw [List.drop_eq_getElem_cons hlt, List.reverse_cons, List.map_append]; rfl
    have hbl : (downR (ls.drop (i + 1))).length ≤ ls.length := by
      unfold downR
      rw [List.length_map, List.length_reverse, List.length_drop]; omega
    obtain ⟨adr, rfl, kr, zr⟩ := (h.mono l.ext).str hlt
    simp (disch := omega) only [↓stq, amv_at, vls, inf, frs, mark_eq, ↓reduceIte, Nat.reduceEqDiff, ite_tt, ite_ff, eq_self, and_true, true_and, and_self, implies_true, Bool.true_eq_false, Bool.false_eq_true, decide_true, decide_false, decide_eq_true_eq, decide_eq_false_iff_not, ne_eq, not_true_eq_false, not_false_eq_true, Bool.not_eq_true', Bool.not_eq_false', beq_self_eq_true, Bool.not_true, Bool.not_false, List.getElem?_toArray, List.getElem?_cons_zero, List.getElem?_cons_succ, h0, h3, h4, hdd, kr]
    refine led_lit li48 (by omega) rfl (fun p hp => by rcases List.mem_singleton.1 hp with rfl; exact ⟨rfl, rfl⟩) l fun bl V _ l => ?_
    simp (disch := omega) only [↓stq, amv_at, vls, inf, frs, mark_eq, ↓reduceIte, Nat.reduceEqDiff, ite_tt, ite_ff, eq_self, and_true, true_and, and_self, implies_true, Bool.true_eq_false, Bool.false_eq_true, decide_true, decide_false, decide_eq_true_eq, decide_eq_false_iff_not, ne_eq, not_true_eq_false, not_false_eq_true, Bool.not_eq_true', Bool.not_eq_false', beq_self_eq_true, Bool.not_true, Bool.not_false, List.getElem?_toArray, List.getElem?_cons_zero, List.getElem?_cons_succ, h0, h3, h4]
    refine led_app (O := eventO) ap48_48 (by decide) l (i := 1) rfl (l.src1 (S := eventS) (j := 0) rfl (eventS_mk (x := (1, ls[i], ())) (by show (_ : Int) ≤ 1 ∧ (1 : Int) < _; omega) zr)) (by rw [List.length_singleton]; omega) fun fp2 w2 V4 _ l => ?_
    simp (disch := omega) only [↓stq, amv_at, vls, inf, frs, mark_eq, ↓reduceIte, Nat.reduceEqDiff, ite_tt, ite_ff, eq_self, and_true, true_and, and_self, implies_true, Bool.true_eq_false, Bool.false_eq_true, decide_true, decide_false, decide_eq_true_eq, decide_eq_false_iff_not, ne_eq, not_true_eq_false, not_false_eq_true, Bool.not_eq_true', Bool.not_eq_false', beq_self_eq_true, Bool.not_true, Bool.not_false, List.getElem?_toArray, List.getElem?_cons_zero, List.getElem?_cons_succ, h0, h3, h4]
    exact ⟨_, by omega, i, fp2, w2, by omega, rfl, by rw [hdr]; exact l.tail, rfl, congrArg (Value.int .i64) (by omega)⟩
  · simp (disch := omega) only [↓stq, amv_at, vls, inf, frs, mark_eq, ↓reduceIte, Nat.reduceEqDiff, ite_tt, ite_ff, eq_self, and_true, true_and, and_self, implies_true, Bool.true_eq_false, Bool.false_eq_true, decide_true, decide_false, decide_eq_true_eq, decide_eq_false_iff_not, ne_eq, not_true_eq_false, not_false_eq_true, Bool.not_eq_true', Bool.not_eq_false', beq_self_eq_true, Bool.not_true, Bool.not_false, List.getElem?_toArray, List.getElem?_cons_zero, List.getElem?_cons_succ, h0, h3, h4]
    obtain rfl : d = 0 := by omega
    exact NewSl.of l (i := 0) rfl

/-- A choice after which all goes on alike. -/
theorem abr_cut {P : Program} {c d : Prop} {c1 c2 : Code} {k : Fr → View → Prop} {K : Post} {fr1 fr2 : Fr} {A : View} (Q : Fr → View → Prop) (h1 : c → awp P c1 (fun e fr A => e = .normal ∧ Q fr A) fr1 A) (h2 : d → awp P c2 (fun e fr A => e = .normal ∧ Q fr A) fr2 A) (h3 : ∀ fr A, Q fr A → k fr A) : abr c (awp P c1 (seqK k K) fr1 A) ∧ abr d (awp P c2 (seqK k K) fr2 A) := by
  have key : ∀ e fr A, (e = .normal ∧ Q fr A) → seqK k K e fr A := by
    rintro e fr A ⟨rfl, h⟩
    exact h3 fr A h
  exact ⟨fun e => awp_mono c1 key fr1 A (h1 e), fun e => awp_mono c2 key fr2 A (h2 e)⟩
theorem draw_cut {P : Program} {id : Nat} {ops : Array Oper} {y : Code} {R : Fr → View → Prop} {K1 K2 : Post} {fr : Fr} {A : View} (Q : Fr → View → Prop) (h1 : ADraw P id ops (fun fr A => awp P y (fun e fr A => e = .normal ∧ Q fr A) fr A) fr A) (h2 : ∀ fr A, Q fr A → R fr A) : ADraw P id ops (seqK (awp P y (seqK R K1)) K2 .normal) fr A :=
  awp_mono (.region id ops true) (K := fun e fr A => match e with
    | .normal => awp P y (fun e fr A => e = .normal ∧ Q fr A) fr A
    | _ => False) (fun e fr A h => by
    cases e <;> first
      | exact awp_mono y (fun e fr A h => by
          obtain ⟨rfl, h⟩ := h
          exact h2 fr A h) fr A h
      | exact h.elim) fr A h1

def genE (e : EventD) : Prop := -1 ≤ e.1 ∧ e.1 ≤ 3 ∧ e.2.1.size ≤ 300
theorem genE_app {xs ys : List EventD} (h : ∀ e, e ∈ xs → genE e) (h' : ∀ e, e ∈ ys → genE e) : ∀ e, e ∈ xs ++ ys → genE e := fun e he => (List.mem_append.1 he).elim (h e) (h' e)
theorem has_size {x : SuiteD} (hg : GenS x) {a : ByteArray} (ha : hasF x.1 a) : a.size ≤ 100 := by
  obtain ⟨f, hf, rfl⟩ := List.mem_map.1 ha
  exact (hg.s0 f hf).1
theorem genE_down {x : SuiteD} (hg : GenS x) {ls : List ByteArray} (h : ∀ a, a ∈ ls → hasF x.1 a) : ∀ e, e ∈ downR ls → genE e := fun e he => by
  unfold downR at he
  obtain ⟨a, ha, rfl⟩ := List.mem_map.1 he
  have := has_size hg (h a (List.mem_reverse.1 ha))
  exact ⟨by show (-1 : Int) ≤ 1; omega, by show (1 : Int) ≤ 3; omega, by show a.size ≤ 300; omega⟩
theorem downR_len (ls : List ByteArray) : (downR ls).length = ls.length := by
  unfold downR
  rw [List.length_map, List.length_reverse]
theorem Names.filter {fs : List FixtureD} {ls : List ByteArray} (h : Names fs ls) (p : ByteArray → Bool) : Names fs (ls.filter p) := ⟨List.filter_sublist.nodup h.1, fun a ha => h.2 a (List.mem_filter.1 ha).1⟩

theorem spec_planOf_c (A : View) (d : List Value) (x : SuiteD) (hx : suiteS.rel A x d) (hg : GenS x) : ACalls Try.prog 80 #[.agg d.toArray] A fun r V => ∃ es, es.length ≤ 410 ∧ (∀ e, e ∈ es → genE e) ∧ NewSl 55 eventO A r V es := by
  obtain ⟨u0, u1, rfl, g0, g1⟩ := suiteS_open hx
  obtain ⟨a0, c0, rfl, _, _⟩ := g0.slice
  obtain ⟨a1, c1, rfl, _, _⟩ := g1.slice
  have hl0 := hg.l0
  have hl1 := hg.l1
  have hNl : ∀ {ls : List ByteArray}, Names x.1 ls → ls.length ≤ 6 := fun h => Nat.le_trans h.len hl0
  refine acalls Try.func80 rfl (by kernel_rfl) ?_
  simp (disch := omega) only [↓stq, amv_at, vls, inf, frs, mark_eq, ↓reduceIte, Nat.reduceEqDiff, ite_tt, ite_ff, eq_self, and_true, true_and, and_self, implies_true, Bool.true_eq_false, Bool.false_eq_true, decide_true, decide_false, decide_eq_true_eq, decide_eq_false_iff_not, ne_eq, not_true_eq_false, not_false_eq_true, Bool.not_eq_true', Bool.not_eq_false', beq_self_eq_true, Bool.not_true, Bool.not_false, List.getElem?_toArray, List.getElem?_cons_zero, List.getElem?_cons_succ]
  refine led_box (Led.nil A) rfl fun q1 V _ l => ?_
  simp (disch := omega) only [↓stq, amv_at, vls, inf, frs, mark_eq, ↓reduceIte, Nat.reduceEqDiff, ite_tt, ite_ff, eq_self, and_true, true_and, and_self, implies_true, Bool.true_eq_false, Bool.false_eq_true, decide_true, decide_false, decide_eq_true_eq, decide_eq_false_iff_not, ne_eq, not_true_eq_false, not_false_eq_true, Bool.not_eq_true', Bool.not_eq_false', beq_self_eq_true, Bool.not_true, Bool.not_false, List.getElem?_toArray, List.getElem?_cons_zero, List.getElem?_cons_succ]
  refine led_lit0 (O := eventO) li48 l fun be V _ l => ?_
  simp (disch := omega) only [↓stq, amv_at, vls, inf, frs, mark_eq, ↓reduceIte, Nat.reduceEqDiff, ite_tt, ite_ff, eq_self, and_true, true_and, and_self, implies_true, Bool.true_eq_false, Bool.false_eq_true, decide_true, decide_false, decide_eq_true_eq, decide_eq_false_iff_not, ne_eq, not_true_eq_false, not_false_eq_true, Bool.not_eq_true', Bool.not_eq_false', beq_self_eq_true, Bool.not_true, Bool.not_false, List.getElem?_toArray, List.getElem?_cons_zero, List.getElem?_cons_succ]
  refine led_lit0 (O := strO) li31 l fun bl V _ l => ?_
  simp (disch := omega) only [↓stq, amv_at, vls, inf, frs, mark_eq, ↓reduceIte, Nat.reduceEqDiff, ite_tt, ite_ff, eq_self, and_true, true_and, and_self, implies_true, Bool.true_eq_false, Bool.false_eq_true, decide_true, decide_false, decide_eq_true_eq, decide_eq_false_iff_not, ne_eq, not_true_eq_false, not_false_eq_true, Bool.not_eq_true', Bool.not_eq_false', beq_self_eq_true, Bool.not_true, Bool.not_false, List.getElem?_toArray, List.getElem?_cons_zero, List.getElem?_cons_succ]
  refine aloop (fun d fr V => ∃ (i : Nat) (fe : List Nat) (we : Value) (es : List EventD) (fl : List Nat) (wl : Value) (ls : List ByteArray), i ≤ x.2.1.length ∧ d = x.2.1.length - i ∧ Led A [osl 55 eventO fe we es, osl 9 strO fl wl ls, bx q1 ⟨26, [.slice a0 x.1.length c0, .slice a1 x.2.1.length c1], 2, true⟩] V ∧ es.length ≤ 40 * i ∧ (∀ e, e ∈ es → genE e) ∧ Names x.1 ls ∧ fr 1 = .pointer (some ⟨q1, 0, none⟩) ∧ fr 3 = we ∧ fr 4 = wl ∧ fr 5 = .int .i64 i) x.2.1.length ⟨0, _, _, _, _, _, _, by omega, by omega, l.perm (List.Perm.swap ..), by simp, by simp, names_nil _, by rfl, by rfl, by rfl, by rfl⟩ ?_
  clear l
  rintro d fr V ⟨i, fe, we, es, fl, wl, ls, hi, rfl, l, hel, hge, hN, h1, h3, h4, h5⟩
  have k1 := l.cell (i := 2) rfl (o := 1) rfl rfl
  simp (disch := omega) only [↓stq, amv_at, vls, inf, frs, mark_eq, ↓reduceIte, Nat.reduceEqDiff, ite_tt, ite_ff, eq_self, and_true, true_and, and_self, implies_true, Bool.true_eq_false, Bool.false_eq_true, decide_true, decide_false, decide_eq_true_eq, decide_eq_false_iff_not, ne_eq, not_true_eq_false, not_false_eq_true, Bool.not_eq_true', Bool.not_eq_false', beq_self_eq_true, Bool.not_true, Bool.not_false, List.getElem?_toArray, List.getElem?_cons_zero, List.getElem?_cons_succ, h1, h3, h4, h5, add_at, k1]
  refine ⟨fun e1 => ?_, fun e1 => ?_⟩
  · have hlt : i < x.2.1.length := by omega
    obtain ⟨ad, u2, u3, rfl, hclA, z1, z2, f2, f3⟩ := g1.test hlt
    obtain ⟨a2, c2, rfl, _, _⟩ := f2.slice
    obtain ⟨a3, c3, rfl, _, _⟩ := f3.slice
    have hgt := hg.s1 _ (List.getElem_mem hlt)
    have hcl := l.ext.part hclA
    simp (disch := omega) only [↓stq, amv_at, vls, inf, frs, mark_eq, ↓reduceIte, Nat.reduceEqDiff, ite_tt, ite_ff, eq_self, and_true, true_and, and_self, implies_true, Bool.true_eq_false, Bool.false_eq_true, decide_true, decide_false, decide_eq_true_eq, decide_eq_false_iff_not, ne_eq, not_true_eq_false, not_false_eq_true, Bool.not_eq_true', Bool.not_eq_false', beq_self_eq_true, Bool.not_true, Bool.not_false, List.getElem?_toArray, List.getElem?_cons_zero, List.getElem?_cons_succ, h1, h3, h4, h5, add_at, k1, hcl]
    refine led_alloc zc38 l fun q6 V _ l => ?_
    simp (disch := omega) only [↓stq, amv_at, vls, inf, frs, mark_eq, ↓reduceIte, Nat.reduceEqDiff, ite_tt, ite_ff, eq_self, and_true, true_and, and_self, implies_true, Bool.true_eq_false, Bool.false_eq_true, decide_true, decide_false, decide_eq_true_eq, decide_eq_false_iff_not, ne_eq, not_true_eq_false, not_false_eq_true, Bool.not_eq_true', Bool.not_eq_false', beq_self_eq_true, Bool.not_true, Bool.not_false, List.getElem?_toArray, List.getElem?_cons_zero, List.getElem?_cons_succ, h1, h3, h4, h5]
    refine led_storeAll l 0 rfl sz38 rfl rfl (by simp [Value.oneCell']) fun V l => ?_
    simp (disch := omega) only [↓stq, amv_at, vls, inf, frs, mark_eq, ↓reduceIte, Nat.reduceEqDiff, ite_tt, ite_ff, eq_self, and_true, true_and, and_self, implies_true, Bool.true_eq_false, Bool.false_eq_true, decide_true, decide_false, decide_eq_true_eq, decide_eq_false_iff_not, ne_eq, not_true_eq_false, not_false_eq_true, Bool.not_eq_true', Bool.not_eq_false', beq_self_eq_true, Bool.not_true, Bool.not_false, List.getElem?_toArray, List.getElem?_cons_zero, List.getElem?_cons_succ, h1, h3, h4, h5]
    refine draw_cut (fun fr V => ∃ (fe : List Nat) (we : Value) (es : List EventD) (fl : List Nat) (wl : Value) (ls : List ByteArray), Led A [bx q6 ⟨38, [.string (x.2.1[i]).1, .string (x.2.1[i]).2.1, .slice a2 (x.2.1[i]).2.2.1.length c2, .slice a3 (x.2.1[i]).2.2.2.1.length c3], 4, true⟩, osl 55 eventO fe we es, osl 9 strO fl wl ls, bx q1 ⟨26, [.slice a0 x.1.length c0, .slice (some ad) x.2.1.length c1], 2, true⟩] V ∧ es.length ≤ 40 * i + 6 ∧ (∀ e, e ∈ es → genE e) ∧ Names x.1 ls ∧ fr 1 = .pointer (some ⟨q1, 0, none⟩) ∧ fr 3 = we ∧ fr 4 = wl ∧ fr 5 = .int .i64 i ∧ fr 6 = .pointer (some ⟨q6, 0, none⟩)) ?_ ?_
    · refine adraw_items [.q 0, .q 1, .q 2, .q 3, .l 4 false, .q 5, .q 6, .q 7, .q 8, .l 9 false, .q 10, .l 11 false, .q 12, .q 13] (by kernel_rfl) (by kernel_rfl) ?_
      have k1 := l.cell (i := 3) rfl (o := 1) rfl rfl
      have m0 := l.cell (i := 0) rfl (o := 0) rfl rfl
      simp (disch := omega) only [↓stq, amv_at, ↓pln, plv, nilOk, Nat.reduceBEq, Bool.or_false, Bool.or_true, Bool.false_or, Bool.true_or, vls, inf, frs, mark_eq, ↓reduceIte, Nat.reduceEqDiff, ite_tt, ite_ff, eq_self, and_true, true_and, and_self, implies_true, Bool.true_eq_false, Bool.false_eq_true, decide_true, decide_false, decide_eq_true_eq, decide_eq_false_iff_not, ne_eq, not_true_eq_false, not_false_eq_true, Bool.not_eq_true', Bool.not_eq_false', beq_self_eq_true, Bool.not_true, Bool.not_false, List.getElem?_toArray, List.getElem?_cons_zero, List.getElem?_cons_succ, h1, h3, h4, h5, add_at, k1, m0]
      have same : Led A [bx q6 ⟨38, [.string (x.2.1[i]).1, .string (x.2.1[i]).2.1, .slice a2 (x.2.1[i]).2.2.1.length c2, .slice a3 (x.2.1[i]).2.2.2.1.length c3], 4, true⟩, osl 55 eventO fe we es, osl 9 strO fl wl ls, bx q1 ⟨26, [.slice a0 x.1.length c0, .slice (some ad) x.2.1.length c1], 2, true⟩] V := l
      refine ⟨fun e2 => ?_, fun e2 => ?_⟩
      · obtain ⟨_, _, _, hq, hclP, _, _, _, _⟩ := g1.test (i := i - 1) (by omega)
        obtain rfl := Option.some.inj hq
        have p0 := View.part_cell (l.ext.part hclP) (j := 0) rfl
        have hdd : ((i : Int) - 1).toNat = i - 1 := by omega
        simp (disch := omega) only [↓stq, amv_at, ↓pln, plv, nilOk, Nat.reduceBEq, Bool.or_false, Bool.or_true, Bool.false_or, Bool.true_or, vls, inf, frs, mark_eq, ↓reduceIte, Nat.reduceEqDiff, ite_tt, ite_ff, eq_self, and_true, true_and, and_self, implies_true, Bool.true_eq_false, Bool.false_eq_true, decide_true, decide_false, decide_eq_true_eq, decide_eq_false_iff_not, ne_eq, not_true_eq_false, not_false_eq_true, Bool.not_eq_true', Bool.not_eq_false', beq_self_eq_true, Bool.not_true, Bool.not_false, List.getElem?_toArray, List.getElem?_cons_zero, List.getElem?_cons_succ, h1, h3, h4, h5, e2, add_at, k1, m0, hdd, p0]
        refine ⟨fun e3 => ?_, fun e3 => ?_⟩
        · have kp : V.part ⟨q1, 0, none⟩ 2 = some [.slice a0 x.1.length c0, .slice (some ad) x.2.1.length c1] := l.part (i := 3) rfl rfl
          obtain ⟨al, cl, rfl, _, _⟩ := (OSl.toS (show OSl 9 strO V fl wl ls from l.at (i := 2) rfl)).slice
          have hNl6 := hNl hN
          simp (disch := omega) only [↓stq, amv_at, vls, inf, frs, mark_eq, ↓reduceIte, Nat.reduceEqDiff, ite_tt, ite_ff, eq_self, and_true, true_and, and_self, implies_true, Bool.true_eq_false, Bool.false_eq_true, decide_true, decide_false, decide_eq_true_eq, decide_eq_false_iff_not, ne_eq, not_true_eq_false, not_false_eq_true, Bool.not_eq_true', Bool.not_eq_false', beq_self_eq_true, Bool.not_true, Bool.not_false, List.getElem?_toArray, List.getElem?_cons_zero, List.getElem?_cons_succ, h1, h3, h4, h5, kp]
          refine (spec_liveScope_c V _ x _ ls 1 (suiteS_mk (g0.mono l.ext) (g1.mono l.ext)) (OSl.toS (l.at (i := 2) rfl)) hN.2 (by omega)).mono ?_
          rintro r7 V2 ⟨f7, l7⟩
          have hB := bucket_len x.1 ls 1
          have hBh : ∀ a, a ∈ bucket x.1 ls 1 → hasF x.1 a := fun a ha => hN.2 a (bucket_mem.1 ha).1
          generalize bucket x.1 ls 1 = bk at l7 hB hBh
          obtain ⟨a7, c7, rfl, _, _⟩ := (OSl.toS (show OSl 9 strO V2 f7 r7 bk from l7.at (i := 0) rfl)).slice
          replace l := l.append l7
          simp (disch := omega) only [↓stq, amv_at, vls, inf, frs, mark_eq, ↓reduceIte, Nat.reduceEqDiff, ite_tt, ite_ff, eq_self, and_true, true_and, and_self, implies_true, Bool.true_eq_false, Bool.false_eq_true, decide_true, decide_false, decide_eq_true_eq, decide_eq_false_iff_not, ne_eq, not_true_eq_false, not_false_eq_true, Bool.not_eq_true', Bool.not_eq_false', beq_self_eq_true, Bool.not_true, Bool.not_false, List.getElem?_toArray, List.getElem?_cons_zero, List.getElem?_cons_succ, h1, h3, h4, h5]
          refine (spec_downs_c V2 _ bk (OSl.toS (l.at (i := 0) rfl)) (by omega)).mono ?_
          rintro rd V3 ⟨fd, ld⟩
          replace l := l.append ld
          have hdl := downR_len bk
          have hdg := genE_down hg hBh
          generalize downR bk = dn at l hdl hdg
          obtain ⟨adn, cdn, rfl, _, _⟩ := (OSl.toS (show OSl 55 eventO V3 fd rd dn from l.at (i := 0) rfl)).slice
          simp (disch := omega) only [↓stq, amv_at, vls, inf, frs, mark_eq, ↓reduceIte, Nat.reduceEqDiff, ite_tt, ite_ff, eq_self, and_true, true_and, and_self, implies_true, Bool.true_eq_false, Bool.false_eq_true, decide_true, decide_false, decide_eq_true_eq, decide_eq_false_iff_not, ne_eq, not_true_eq_false, not_false_eq_true, Bool.not_eq_true', Bool.not_eq_false', beq_self_eq_true, Bool.not_true, Bool.not_false, List.getElem?_toArray, List.getElem?_cons_zero, List.getElem?_cons_succ, h1, h3, h4, h5]
          refine led_app (O := eventO) ap48_48 (by decide) l (i := 3) rfl (Sl.srcOf (OSl.toS (l.at (i := 0) rfl))) (by omega) fun fe2 we2 V4 _ l => ?_
          simp (disch := omega) only [↓stq, amv_at, vls, inf, frs, mark_eq, ↓reduceIte, Nat.reduceEqDiff, ite_tt, ite_ff, eq_self, and_true, true_and, and_self, implies_true, Bool.true_eq_false, Bool.false_eq_true, decide_true, decide_false, decide_eq_true_eq, decide_eq_false_iff_not, ne_eq, not_true_eq_false, not_false_eq_true, Bool.not_eq_true', Bool.not_eq_false', beq_self_eq_true, Bool.not_true, Bool.not_false, List.getElem?_toArray, List.getElem?_cons_zero, List.getElem?_cons_succ, h1, h3, h4, h5]
          refine (spec_without_c V4 _ _ ls bk (OSl.toS (l.at (i := 4) rfl)) (OSl.toS (l.at (i := 1) rfl)) (by omega)).mono ?_
          rintro rl V5 ⟨fl2, l5⟩
          replace l := l.append l5
          simp (disch := omega) only [↓stq, amv_at, vls, inf, frs, mark_eq, ↓reduceIte, Nat.reduceEqDiff, ite_tt, ite_ff, eq_self, and_true, true_and, and_self, implies_true, Bool.true_eq_false, Bool.false_eq_true, decide_true, decide_false, decide_eq_true_eq, decide_eq_false_iff_not, ne_eq, not_true_eq_false, not_false_eq_true, Bool.not_eq_true', Bool.not_eq_false', beq_self_eq_true, Bool.not_true, Bool.not_false, List.getElem?_toArray, List.getElem?_cons_zero, List.getElem?_cons_succ, h1, h3, h4, h5]
          exact ⟨fe2, we2, es ++ dn, fl2, rl, _, (l.sub (M := [osl 9 strO fl2 rl (ls.filter fun a => decide (a ∉ bk)), bx q6 ⟨38, [.string (x.2.1[i]).1, .string (x.2.1[i]).2.1, .slice a2 (x.2.1[i]).2.2.1.length c2, .slice a3 (x.2.1[i]).2.2.2.1.length c3], 4, true⟩, osl 55 eventO fe2 we2 (es ++ dn), bx q1 ⟨26, [.slice a0 x.1.length c0, .slice (some ad) x.2.1.length c1], 2, true⟩]) (.cons_cons _ (.cons _ (.cons _ (.cons_cons _ (.cons_cons _ (.cons _ (.cons_cons _ (List.Sublist.refl []))))))))).perm (((List.Perm.swap ..).cons _).trans (List.Perm.swap ..)).symm.symm, by rw [List.length_append]; omega, genE_app hge hdg, hN.filter _, rfl, rfl⟩
        · simp (disch := omega) only [↓stq, amv_at, vls, inf, frs, mark_eq, ↓reduceIte, Nat.reduceEqDiff, ite_tt, ite_ff, eq_self, and_true, true_and, and_self, implies_true, Bool.true_eq_false, Bool.false_eq_true, decide_true, decide_false, decide_eq_true_eq, decide_eq_false_iff_not, ne_eq, not_true_eq_false, not_false_eq_true, Bool.not_eq_true', Bool.not_eq_false', beq_self_eq_true, Bool.not_true, Bool.not_false, List.getElem?_toArray, List.getElem?_cons_zero, List.getElem?_cons_succ, h1, h3, h4, h5]
          exact ⟨fe, we, es, fl, wl, ls, same, by omega, hge, hN, rfl, rfl⟩
      · simp (disch := omega) only [↓stq, amv_at, ↓pln, plv, nilOk, Nat.reduceBEq, Bool.or_false, Bool.or_true, Bool.false_or, Bool.true_or, vls, inf, frs, mark_eq, ↓reduceIte, Nat.reduceEqDiff, ite_tt, ite_ff, eq_self, and_true, true_and, and_self, implies_true, Bool.true_eq_false, Bool.false_eq_true, decide_true, decide_false, decide_eq_true_eq, decide_eq_false_iff_not, ne_eq, not_true_eq_false, not_false_eq_true, Bool.not_eq_true', Bool.not_eq_false', beq_self_eq_true, Bool.not_true, Bool.not_false, List.getElem?_toArray, List.getElem?_cons_zero, List.getElem?_cons_succ, h1, h3, h4, h5, e2]
        exact ⟨fe, we, es, fl, wl, ls, same, by omega, hge, hN, rfl, rfl⟩
    · clear l k1 hel hge hN h1 h3 h4 h5
      rintro fr V ⟨fe, we, es, fl, wl, ls, l, hel, hge, hN, h1, h3, h4, h5, h6⟩
      have kp : V.part ⟨q1, 0, none⟩ 2 = some [.slice a0 x.1.length c0, .slice (some ad) x.2.1.length c1] := l.part (i := 3) rfl rfl
      have kt : V.part ⟨q6, 0, none⟩ 4 = some [.string (x.2.1[i]).1, .string (x.2.1[i]).2.1, .slice a2 (x.2.1[i]).2.2.1.length c2, .slice a3 (x.2.1[i]).2.2.2.1.length c3] := l.part (i := 0) rfl rfl
      simp (disch := omega) only [↓stq, amv_at, vls, inf, frs, mark_eq, ↓reduceIte, Nat.reduceEqDiff, ite_tt, ite_ff, eq_self, and_true, true_and, and_self, implies_true, Bool.true_eq_false, Bool.false_eq_true, decide_true, decide_false, decide_eq_true_eq, decide_eq_false_iff_not, ne_eq, not_true_eq_false, not_false_eq_true, Bool.not_eq_true', Bool.not_eq_false', beq_self_eq_true, Bool.not_true, Bool.not_false, List.getElem?_toArray, List.getElem?_cons_zero, List.getElem?_cons_succ, h1, h3, h4, h5, h6, kp, kt]
      refine (spec_closure_c V _ _ x x.2.1[i] (suiteS_mk (g0.mono l.ext) (g1.mono l.ext)) (testS_mk z1 z2 (f2.mono l.ext) (f3.mono l.ext)) (by omega)).mono ?_
      rintro r8 V2 ⟨f8, l8⟩
      have hcl := cloR_len hl0 (preR x x.2.1[i])
      have hch := cloR_has (fs := x.1) (ns := preR x x.2.1[i])
      generalize cloR x.1 (preR x x.2.1[i]) = cs at l8 hcl hch
      obtain ⟨a8, c8, rfl, _, _⟩ := (OSl.toS (show OSl 9 strO V2 f8 r8 cs from l8.at (i := 0) rfl)).slice
      replace l := l.append l8
      simp (disch := omega) only [↓stq, amv_at, vls, inf, frs, mark_eq, ↓reduceIte, Nat.reduceEqDiff, ite_tt, ite_ff, eq_self, and_true, true_and, and_self, implies_true, Bool.true_eq_false, Bool.false_eq_true, decide_true, decide_false, decide_eq_true_eq, decide_eq_false_iff_not, ne_eq, not_true_eq_false, not_false_eq_true, Bool.not_eq_true', Bool.not_eq_false', beq_self_eq_true, Bool.not_true, Bool.not_false, List.getElem?_toArray, List.getElem?_cons_zero, List.getElem?_cons_succ, h1, h3, h4, h5, h6]
      refine aloop (fun d fr V => ∃ (j : Nat) (fe : List Nat) (we : Value) (es : List EventD) (fl : List Nat) (wl : Value) (ls : List ByteArray), j ≤ cs.length ∧ d = cs.length - j ∧ Led A [osl 9 strO f8 (.slice a8 cs.length c8) cs, bx q6 ⟨38, [.string (x.2.1[i]).1, .string (x.2.1[i]).2.1, .slice a2 (x.2.1[i]).2.2.1.length c2, .slice a3 (x.2.1[i]).2.2.2.1.length c3], 4, true⟩, osl 55 eventO fe we es, osl 9 strO fl wl ls, bx q1 ⟨26, [.slice a0 x.1.length c0, .slice (some ad) x.2.1.length c1], 2, true⟩] V ∧ es.length ≤ 40 * i + 6 + j ∧ (∀ e, e ∈ es → genE e) ∧ Names x.1 ls ∧ fr 1 = .pointer (some ⟨q1, 0, none⟩) ∧ fr 3 = we ∧ fr 4 = wl ∧ fr 5 = .int .i64 i ∧ fr 6 = .pointer (some ⟨q6, 0, none⟩) ∧ fr 8 = .slice a8 cs.length c8 ∧ fr 9 = .int .i64 j) cs.length ⟨0, fe, we, es, fl, wl, ls, by omega, by omega, l, by omega, hge, hN, h1, h3, h4, h5, h6, by rfl, by rfl⟩ ?_
      clear l kp kt hel hge hN h1 h3 h4 h5 h6
      rintro d fr V ⟨j, fe, we, es, fl, wl, ls, hj, rfl, l, hel, hge, hN, h1, h3, h4, h5, h6, h8, h9⟩
      simp (disch := omega) only [↓stq, amv_at, vls, inf, frs, mark_eq, ↓reduceIte, Nat.reduceEqDiff, ite_tt, ite_ff, eq_self, and_true, true_and, and_self, implies_true, Bool.true_eq_false, Bool.false_eq_true, decide_true, decide_false, decide_eq_true_eq, decide_eq_false_iff_not, ne_eq, not_true_eq_false, not_false_eq_true, Bool.not_eq_true', Bool.not_eq_false', beq_self_eq_true, Bool.not_true, Bool.not_false, List.getElem?_toArray, List.getElem?_cons_zero, List.getElem?_cons_succ, h1, h3, h4, h5, h6, h8, h9]
      refine ⟨fun e2 => ?_, fun e2 => ?_⟩
      · have hltj : j < cs.length := by omega
        have hNl6 := hNl hN
        have hFj := hch _ (List.getElem_mem hltj)
        have hzj := has_size hg hFj
        obtain ⟨adr, hq, kr, zr⟩ := (OSl.toS (show OSl 9 strO V f8 _ cs from l.at (i := 0) rfl)).str hltj
        subst hq
        simp (disch := omega) only [↓stq, amv_at, vls, inf, frs, mark_eq, ↓reduceIte, Nat.reduceEqDiff, ite_tt, ite_ff, eq_self, and_true, true_and, and_self, implies_true, Bool.true_eq_false, Bool.false_eq_true, decide_true, decide_false, decide_eq_true_eq, decide_eq_false_iff_not, ne_eq, not_true_eq_false, not_false_eq_true, Bool.not_eq_true', Bool.not_eq_false', beq_self_eq_true, Bool.not_true, Bool.not_false, List.getElem?_toArray, List.getElem?_cons_zero, List.getElem?_cons_succ, h1, h3, h4, h5, h6, h8, h9, kr]
        refine (spec_hasText_c V _ ls cs[j] (OSl.toS (l.at (i := 3) rfl))).mono ?_
        rintro _ V ⟨rfl, rfl⟩
        simp (disch := omega) only [↓stq, amv_at, vls, inf, frs, mark_eq, ↓reduceIte, Nat.reduceEqDiff, ite_tt, ite_ff, eq_self, and_true, true_and, and_self, implies_true, Bool.true_eq_false, Bool.false_eq_true, decide_true, decide_false, decide_eq_true_eq, decide_eq_false_iff_not, ne_eq, not_true_eq_false, not_false_eq_true, Bool.not_eq_true', Bool.not_eq_false', beq_self_eq_true, Bool.not_true, Bool.not_false, List.getElem?_toArray, List.getElem?_cons_zero, List.getElem?_cons_succ, h1, h3, h4, h5, h6, h8, h9]
        refine ⟨fun e3 => ?_, fun e3 => ?_⟩ <;> simp (disch := omega) only [↓stq, amv_at, vls, inf, frs, mark_eq, ↓reduceIte, Nat.reduceEqDiff, ite_tt, ite_ff, eq_self, and_true, true_and, and_self, implies_true, Bool.true_eq_false, Bool.false_eq_true, decide_true, decide_false, decide_eq_true_eq, decide_eq_false_iff_not, ne_eq, not_true_eq_false, not_false_eq_true, Bool.not_eq_true', Bool.not_eq_false', beq_self_eq_true, Bool.not_true, Bool.not_false, List.getElem?_toArray, List.getElem?_cons_zero, List.getElem?_cons_succ, h1, h3, h4, h5, h6, h8, h9, kr]
        · refine led_lit li31 (by omega) rfl (by simp [Value.cells, Value.oneCell']) l fun bl2 V _ l => ?_
          simp (disch := omega) only [↓stq, amv_at, vls, inf, frs, mark_eq, ↓reduceIte, Nat.reduceEqDiff, ite_tt, ite_ff, eq_self, and_true, true_and, and_self, implies_true, Bool.true_eq_false, Bool.false_eq_true, decide_true, decide_false, decide_eq_true_eq, decide_eq_false_iff_not, ne_eq, not_true_eq_false, not_false_eq_true, Bool.not_eq_true', Bool.not_eq_false', beq_self_eq_true, Bool.not_true, Bool.not_false, List.getElem?_toArray, List.getElem?_cons_zero, List.getElem?_cons_succ, h1, h3, h4, h5, h6, h8, h9]
          refine led_app (O := strO) ap31_31 (by decide) l (i := 4) rfl (l.src1 (S := strS) (j := 0) rfl ⟨rfl, zr⟩) (by rw [List.length_singleton]; omega) fun fl2 wl2 V _ l => ?_
          replace l := l.tail
          obtain ⟨_, hq, kr, _⟩ := (OSl.toS (show OSl 9 strO V f8 _ cs from l.at (i := 0) rfl)).str hltj
          obtain rfl := Option.some.inj hq
          simp (disch := omega) only [↓stq, amv_at, vls, inf, frs, mark_eq, ↓reduceIte, Nat.reduceEqDiff, ite_tt, ite_ff, eq_self, and_true, true_and, and_self, implies_true, Bool.true_eq_false, Bool.false_eq_true, decide_true, decide_false, decide_eq_true_eq, decide_eq_false_iff_not, ne_eq, not_true_eq_false, not_false_eq_true, Bool.not_eq_true', Bool.not_eq_false', beq_self_eq_true, Bool.not_true, Bool.not_false, List.getElem?_toArray, List.getElem?_cons_zero, List.getElem?_cons_succ, h1, h3, h4, h5, h6, h8, h9, kr]
          refine led_lit li48 (by omega) rfl (fun p hp => by rcases List.mem_singleton.1 hp with rfl; exact ⟨rfl, rfl⟩) l fun bl3 V _ l => ?_
          simp (disch := omega) only [↓stq, amv_at, vls, inf, frs, mark_eq, ↓reduceIte, Nat.reduceEqDiff, ite_tt, ite_ff, eq_self, and_true, true_and, and_self, implies_true, Bool.true_eq_false, Bool.false_eq_true, decide_true, decide_false, decide_eq_true_eq, decide_eq_false_iff_not, ne_eq, not_true_eq_false, not_false_eq_true, Bool.not_eq_true', Bool.not_eq_false', beq_self_eq_true, Bool.not_true, Bool.not_false, List.getElem?_toArray, List.getElem?_cons_zero, List.getElem?_cons_succ, h1, h3, h4, h5, h6, h8, h9]
          refine led_app (O := eventO) ap48_48 (by decide) l (i := 3) rfl (l.src1 (S := eventS) (j := 0) rfl (eventS_mk (x := (0, cs[j], ())) (by show (_ : Int) ≤ 0 ∧ (0 : Int) < _; omega) zr)) (by rw [List.length_singleton]; omega) fun fe2 we2 V _ l => ?_
          replace l := l.tail
          simp (disch := omega) only [↓stq, amv_at, vls, inf, frs, mark_eq, ↓reduceIte, Nat.reduceEqDiff, ite_tt, ite_ff, eq_self, and_true, true_and, and_self, implies_true, Bool.true_eq_false, Bool.false_eq_true, decide_true, decide_false, decide_eq_true_eq, decide_eq_false_iff_not, ne_eq, not_true_eq_false, not_false_eq_true, Bool.not_eq_true', Bool.not_eq_false', beq_self_eq_true, Bool.not_true, Bool.not_false, List.getElem?_toArray, List.getElem?_cons_zero, List.getElem?_cons_succ, h1, h3, h4, h5, h6, h8, h9]
          exact ⟨_, by omega, j + 1, fe2, we2, es ++ [(0, cs[j], ())], fl2, wl2, ls ++ [cs[j]], by omega, rfl, l, by rw [List.length_append, List.length_singleton]; omega, genE_app hge (fun e he => by rw [List.mem_singleton.1 he]; exact ⟨by show (-1 : Int) ≤ 0; omega, by show (0 : Int) ≤ 3; omega, by show (cs[j]).size ≤ 300; omega⟩), hN.snoc hFj e3, rfl, rfl, rfl⟩
        · exact ⟨_, by omega, j + 1, fe, we, es, fl, wl, ls, by omega, rfl, l, by omega, hge, hN, rfl, rfl, rfl⟩
      · replace l := l.tail
        have hNl6 := hNl hN
        have kt : V.part ⟨q6, 0, none⟩ 4 = some [.string (x.2.1[i]).1, .string (x.2.1[i]).2.1, .slice a2 (x.2.1[i]).2.2.1.length c2, .slice a3 (x.2.1[i]).2.2.2.1.length c3] := l.part (i := 0) rfl rfl
        simp (disch := omega) only [↓stq, amv_at, vls, inf, frs, mark_eq, ↓reduceIte, Nat.reduceEqDiff, ite_tt, ite_ff, eq_self, and_true, true_and, and_self, implies_true, Bool.true_eq_false, Bool.false_eq_true, decide_true, decide_false, decide_eq_true_eq, decide_eq_false_iff_not, ne_eq, not_true_eq_false, not_false_eq_true, Bool.not_eq_true', Bool.not_eq_false', beq_self_eq_true, Bool.not_true, Bool.not_false, List.getElem?_toArray, List.getElem?_cons_zero, List.getElem?_cons_succ, h1, h3, h4, h5, h6, h8, h9, kt]
        refine (spec_idOf_c V _ x.2.1[i] (testS_mk z1 z2 (f2.mono l.ext) (f3.mono l.ext))).mono ?_
        rintro _ V2 ⟨rfl, he2⟩
        replace l := l.step he2
        have hiz : (idD x.2.1[i]).size ≤ 300 := by
          have h1 := hgt.1
          have h2 := hgt.2.1
          rw [idD_size]; omega
        generalize idD x.2.1[i] = idi at hiz
        simp (disch := omega) only [↓stq, amv_at, vls, inf, frs, mark_eq, ↓reduceIte, Nat.reduceEqDiff, ite_tt, ite_ff, eq_self, and_true, true_and, and_self, implies_true, Bool.true_eq_false, Bool.false_eq_true, decide_true, decide_false, decide_eq_true_eq, decide_eq_false_iff_not, ne_eq, not_true_eq_false, not_false_eq_true, Bool.not_eq_true', Bool.not_eq_false', beq_self_eq_true, Bool.not_true, Bool.not_false, List.getElem?_toArray, List.getElem?_cons_zero, List.getElem?_cons_succ, h1, h3, h4, h5, h6, h8, h9]
        refine led_lit li48 (by omega) rfl (fun p hp => by rcases List.mem_singleton.1 hp with rfl; exact ⟨rfl, rfl⟩) l fun bl3 V _ l => ?_
        simp (disch := omega) only [↓stq, amv_at, vls, inf, frs, mark_eq, ↓reduceIte, Nat.reduceEqDiff, ite_tt, ite_ff, eq_self, and_true, true_and, and_self, implies_true, Bool.true_eq_false, Bool.false_eq_true, decide_true, decide_false, decide_eq_true_eq, decide_eq_false_iff_not, ne_eq, not_true_eq_false, not_false_eq_true, Bool.not_eq_true', Bool.not_eq_false', beq_self_eq_true, Bool.not_true, Bool.not_false, List.getElem?_toArray, List.getElem?_cons_zero, List.getElem?_cons_succ, h1, h3, h4, h5, h6, h8, h9]
        refine led_app (O := eventO) ap48_48 (by decide) l (i := 2) rfl (l.src1 (S := eventS) (j := 0) rfl (eventS_mk (x := (2, idi, ())) (by show (_ : Int) ≤ 2 ∧ (2 : Int) < _; omega) (by show idi.size ≤ _; omega))) (by rw [List.length_singleton]; omega) fun fe1 we1 V _ l => ?_
        replace l := l.tail
        have hge1 := genE_app hge (ys := [(2, idi, ())]) (fun e he => by rw [List.mem_singleton.1 he]; exact ⟨by show (-1 : Int) ≤ 2; omega, by show (2 : Int) ≤ 3; omega, hiz⟩)
        have hel1 : (es ++ [((2 : Int), idi, ())]).length ≤ 40 * i + 25 := by rw [List.length_append, List.length_singleton]; omega
        generalize es ++ [((2 : Int), idi, ())] = es1 at l hge1 hel1
        have kp : V.part ⟨q1, 0, none⟩ 2 = some [.slice a0 x.1.length c0, .slice (some ad) x.2.1.length c1] := l.part (i := 3) rfl rfl
        obtain ⟨al, cl, rfl, _, _⟩ := (OSl.toS (show OSl 9 strO V fl wl ls from l.at (i := 2) rfl)).slice
        simp (disch := omega) only [↓stq, amv_at, vls, inf, frs, mark_eq, ↓reduceIte, Nat.reduceEqDiff, ite_tt, ite_ff, eq_self, and_true, true_and, and_self, implies_true, Bool.true_eq_false, Bool.false_eq_true, decide_true, decide_false, decide_eq_true_eq, decide_eq_false_iff_not, ne_eq, not_true_eq_false, not_false_eq_true, Bool.not_eq_true', Bool.not_eq_false', beq_self_eq_true, Bool.not_true, Bool.not_false, List.getElem?_toArray, List.getElem?_cons_zero, List.getElem?_cons_succ, h1, h3, h4, h5, h6, h8, h9, kp]
        refine (spec_liveScope_c V _ x _ ls 0 (suiteS_mk (g0.mono l.ext) (g1.mono l.ext)) (OSl.toS (l.at (i := 2) rfl)) hN.2 (by omega)).mono ?_
        rintro r7 V2 ⟨f7, l7⟩
        have hB := bucket_len x.1 ls 0
        have hBh : ∀ a, a ∈ bucket x.1 ls 0 → hasF x.1 a := fun a ha => hN.2 a (bucket_mem.1 ha).1
        generalize bucket x.1 ls 0 = bk at l7 hB hBh
        obtain ⟨a7, c7, rfl, _, _⟩ := (OSl.toS (show OSl 9 strO V2 f7 r7 bk from l7.at (i := 0) rfl)).slice
        replace l := l.append l7
        simp (disch := omega) only [↓stq, amv_at, vls, inf, frs, mark_eq, ↓reduceIte, Nat.reduceEqDiff, ite_tt, ite_ff, eq_self, and_true, true_and, and_self, implies_true, Bool.true_eq_false, Bool.false_eq_true, decide_true, decide_false, decide_eq_true_eq, decide_eq_false_iff_not, ne_eq, not_true_eq_false, not_false_eq_true, Bool.not_eq_true', Bool.not_eq_false', beq_self_eq_true, Bool.not_true, Bool.not_false, List.getElem?_toArray, List.getElem?_cons_zero, List.getElem?_cons_succ, h1, h3, h4, h5, h6, h8, h9]
        refine (spec_downs_c V2 _ bk (OSl.toS (l.at (i := 0) rfl)) (by omega)).mono ?_
        rintro rd V3 ⟨fd, ld⟩
        replace l := l.append ld
        have hdl := downR_len bk
        have hdg := genE_down hg hBh
        generalize downR bk = dn at l hdl hdg
        obtain ⟨adn, cdn, rfl, _, _⟩ := (OSl.toS (show OSl 55 eventO V3 fd rd dn from l.at (i := 0) rfl)).slice
        simp (disch := omega) only [↓stq, amv_at, vls, inf, frs, mark_eq, ↓reduceIte, Nat.reduceEqDiff, ite_tt, ite_ff, eq_self, and_true, true_and, and_self, implies_true, Bool.true_eq_false, Bool.false_eq_true, decide_true, decide_false, decide_eq_true_eq, decide_eq_false_iff_not, ne_eq, not_true_eq_false, not_false_eq_true, Bool.not_eq_true', Bool.not_eq_false', beq_self_eq_true, Bool.not_true, Bool.not_false, List.getElem?_toArray, List.getElem?_cons_zero, List.getElem?_cons_succ, h1, h3, h4, h5, h6, h8, h9]
        refine led_app (O := eventO) ap48_48 (by decide) l (i := 3) rfl (Sl.srcOf (OSl.toS (l.at (i := 0) rfl))) (by omega) fun fe2 we2 V4 _ l => ?_
        simp (disch := omega) only [↓stq, amv_at, vls, inf, frs, mark_eq, ↓reduceIte, Nat.reduceEqDiff, ite_tt, ite_ff, eq_self, and_true, true_and, and_self, implies_true, Bool.true_eq_false, Bool.false_eq_true, decide_true, decide_false, decide_eq_true_eq, decide_eq_false_iff_not, ne_eq, not_true_eq_false, not_false_eq_true, Bool.not_eq_true', Bool.not_eq_false', beq_self_eq_true, Bool.not_true, Bool.not_false, List.getElem?_toArray, List.getElem?_cons_zero, List.getElem?_cons_succ, h1, h3, h4, h5, h6, h8, h9]
        refine (spec_without_c V4 _ _ ls bk (OSl.toS (l.at (i := 4) rfl)) (OSl.toS (l.at (i := 1) rfl)) (by omega)).mono ?_
        rintro rl V5 ⟨fl2, l5⟩
        replace l := l.append l5
        simp (disch := omega) only [↓stq, amv_at, vls, inf, frs, mark_eq, ↓reduceIte, Nat.reduceEqDiff, ite_tt, ite_ff, eq_self, and_true, true_and, and_self, implies_true, Bool.true_eq_false, Bool.false_eq_true, decide_true, decide_false, decide_eq_true_eq, decide_eq_false_iff_not, ne_eq, not_true_eq_false, not_false_eq_true, Bool.not_eq_true', Bool.not_eq_false', beq_self_eq_true, Bool.not_true, Bool.not_false, List.getElem?_toArray, List.getElem?_cons_zero, List.getElem?_cons_succ, h1, h3, h4, h5, h6, h8, h9]
        exact ⟨_, by omega, i + 1, fe2, we2, es1 ++ dn, fl2, rl, _, by omega, rfl, (l.sub (M := [osl 9 strO fl2 rl (ls.filter fun a => decide (a ∉ bk)), osl 55 eventO fe2 we2 (es1 ++ dn), bx q1 ⟨26, [.slice a0 x.1.length c0, .slice (some ad) x.2.1.length c1], 2, true⟩]) (.cons_cons _ (.cons _ (.cons _ (.cons _ (.cons_cons _ (.cons _ (.cons_cons _ (List.Sublist.refl []))))))))).perm (List.Perm.swap ..), by rw [List.length_append]; omega, genE_app hge1 hdg, hN.filter _, rfl, rfl, rfl⟩
  · have hNl6 := hNl hN
    simp (disch := omega) only [↓stq, amv_at, vls, inf, frs, mark_eq, ↓reduceIte, Nat.reduceEqDiff, ite_tt, ite_ff, eq_self, and_true, true_and, and_self, implies_true, Bool.true_eq_false, Bool.false_eq_true, decide_true, decide_false, decide_eq_true_eq, decide_eq_false_iff_not, ne_eq, not_true_eq_false, not_false_eq_true, Bool.not_eq_true', Bool.not_eq_false', beq_self_eq_true, Bool.not_true, Bool.not_false, List.getElem?_toArray, List.getElem?_cons_zero, List.getElem?_cons_succ, h1, h3, h4, h5]
    refine (spec_downs_c V _ ls (OSl.toS (l.at (i := 1) rfl)) (by omega)).mono ?_
    rintro rd V3 ⟨fd, ld⟩
    replace l := l.append ld
    have hdl := downR_len ls
    have hdg := genE_down hg hN.2
    generalize downR ls = dn at l hdl hdg
    obtain ⟨adn, cdn, rfl, _, _⟩ := (OSl.toS (show OSl 55 eventO V3 fd rd dn from l.at (i := 0) rfl)).slice
    simp (disch := omega) only [↓stq, amv_at, vls, inf, frs, mark_eq, ↓reduceIte, Nat.reduceEqDiff, ite_tt, ite_ff, eq_self, and_true, true_and, and_self, implies_true, Bool.true_eq_false, Bool.false_eq_true, decide_true, decide_false, decide_eq_true_eq, decide_eq_false_iff_not, ne_eq, not_true_eq_false, not_false_eq_true, Bool.not_eq_true', Bool.not_eq_false', beq_self_eq_true, Bool.not_true, Bool.not_false, List.getElem?_toArray, List.getElem?_cons_zero, List.getElem?_cons_succ, h1, h3, h4, h5]
    refine led_app (O := eventO) ap48_48 (by decide) l (i := 1) rfl (Sl.srcOf (OSl.toS (l.at (i := 0) rfl))) (by omega) fun fe2 we2 V4 _ l => ?_
    simp (disch := omega) only [↓stq, amv_at, vls, inf, frs, mark_eq, ↓reduceIte, Nat.reduceEqDiff, ite_tt, ite_ff, eq_self, and_true, true_and, and_self, implies_true, Bool.true_eq_false, Bool.false_eq_true, decide_true, decide_false, decide_eq_true_eq, decide_eq_false_iff_not, ne_eq, not_true_eq_false, not_false_eq_true, Bool.not_eq_true', Bool.not_eq_false', beq_self_eq_true, Bool.not_true, Bool.not_false, List.getElem?_toArray, List.getElem?_cons_zero, List.getElem?_cons_succ, h1, h3, h4, h5]
    exact ⟨es ++ dn, by rw [List.length_append]; omega, genE_app hge hdg, NewSl.of l (i := 1) rfl⟩

theorem led_setS {P : Program} {A V : View} {L : List It} {K : Value → View → Prop} {α : Type} {O : OwnS α} [Flat O] {t e : TypeId} {m i k b c o : Nat} {fp : List Nat} {xs : List α} {z : List Value} {x' : α} (h : Led A L V) (hi : L[i]? = some (osl e O fp (.slice (some ⟨b, 0, none⟩) m c) xs)) (hk : k < xs.length) (hs : (P.info? t).map (·.size) = some O.S.size)
    (ho : o = k * O.S.size) (hz : O.S.rel V x' z)
    (hK : ∀ W, Only fp V W → Led A (L.set i (osl e O fp (.slice (some ⟨b, 0, none⟩) m c) (xs.set k x'))) W → K undef W) : astore P t (.pointer (some ⟨b, o, none⟩)) (.agg z.toArray) V K := by
  have hO : OSl e O V fp (.slice (some ⟨b, 0, none⟩) m c) xs := h.at hi
  have hzl : z.length = O.S.size := O.S.len hz
  obtain ⟨hl, ⟨hq, _⟩ | ⟨b', c', cells, f, hq, hc, rfl, hbk, he⟩⟩ := hO
  · cases hq
  · injection hq with hq1 hq2 hq3
    injection hq1 with hq1
    injection hq1 with hq1
    subst hq1; subst hq2; subst hq3
    obtain rfl := he.flatN
    obtain ⟨f1, f2, f3, c1, c2, c3, hf, rfl, hc1, h1, h2, h3⟩ := he.at hk
    have hc2 : c2.length = O.S.size := O.S.len (O.toS h2)
    have hcv : (Value.agg z.toArray).cells.toList = z := rfl
    subst ho
    rw [astore_at, storev_set hs (k := ⟨e, c1 ++ (c2 ++ c3), c * O.S.size, true⟩) hbk rfl rfl (by show z.toArray.size = _; simpa using hzl) (by simp; omega) (by rw [hcv]; exact List.all_eq_true.2 (O.S.one hz))]
    have e1 : (c1 ++ (c2 ++ c3)).take (k * O.S.size) ++ (Value.agg z.toArray).cells.toList ++ (c1 ++ (c2 ++ c3)).drop (k * O.S.size + O.S.size) = c1 ++ (z ++ c3) := by
      rw [hcv, List.take_left' hc1, ← List.drop_drop, List.drop_left' hc1, List.drop_left' hc2, List.append_assoc]
    show K undef _
    simp only [e1]
    have hset := List.set_eq_take_append_cons_drop (l := xs) (i := k) (a := x')
    rw [if_pos hk] at hset
    refine hK _ (Only.set _ (List.mem_cons_self ..)) (h.upd hi rfl (Only.set _ (List.mem_cons_self ..)) (show OSl e O _ [b] _ _ from ⟨by simpa using hl, .inr ⟨b, c, _, [], by simp, by simpa using hc, rfl, View.set_same .., ?_⟩⟩))
    rw [hset]
    have g1 : OElems O (V.set b ⟨e, c1 ++ (z ++ c3), c * O.S.size, true⟩) [] (xs.take k) c1 := OElems.flatE h1.toS
    have g2 : OElems O (V.set b ⟨e, c1 ++ (z ++ c3), c * O.S.size, true⟩) [] (x' :: xs.drop (k + 1)) (z ++ c3) := OElems.cons (f := []) (fp := []) (Flat.up hz) (OElems.flatE h3.toS)
    exact OElems.append (fp := []) (fq := []) g1 g2

theorem led_setelem {P : Program} {A V : View} {L : List It} {K : Value → View → Prop} {α : Type} {O : OwnS α} [Flat O] {t e : TypeId} {i k j b c o n : Nat} {fp : List Nat} {xs : List α} {val : Value} {x' : α} (h : Led A L V) (hi : L[i]? = some (osl e O fp (.slice (some ⟨b, 0, none⟩) n c) xs)) (hk : k < xs.length) (hs : (P.info? t).map (·.size) = some 1)
    (ho : o = k * O.S.size + j) (hv : val.cells = #[val] ∧ val.oneCell' = true) (hx : ∀ d, O.S.rel V xs[k] d → j < d.length ∧ O.S.rel V x' (d.set j val))
    (hK : ∀ W, Only fp V W → Led A (L.set i (osl e O fp (.slice (some ⟨b, 0, none⟩) n c) (xs.set k x'))) W → K undef W) : astore P t (.pointer (some ⟨b, o, none⟩)) val V K := by
  have hn : n = xs.length := by
    obtain ⟨_, ⟨hq, _⟩ | ⟨_, _, _, _, hq, _⟩⟩ := (show OSl e O V fp _ xs from h.at hi)
    · cases hq
    · injection hq
  subst hn
  exact led_setfield h hi hk hs ho hv hx hK

theorem genE_set {xs : List EventD} (h : ∀ e, e ∈ xs → genE e) {y : EventD} (hy : genE y) (k : Nat) : ∀ e, e ∈ xs.set k y → genE e := fun e he => by
  rcases List.mem_or_eq_of_mem_set he with he | rfl
  · exact h e he
  · exact hy
theorem genE_rng {e : EventD} (h : genE e) : -9223372036854775808 ≤ e.1 ∧ e.1 < 9223372036854775808 := by
  have h1 := h.1
  have h2 := h.2.1
  omega

theorem someEvents_c (B A : View) (L : List It) (q : Nat) (sl : Value) (N : Nat) (hb : Bts B sl) (hN : N ≤ 500000000) (l : Led B (rdr q sl N :: L) A) : ACalls Try.prog 69 #[.pointer (some ⟨q, 0, none⟩)] A fun r V => ∃ (d : List Value) (fe : List Nat) (we : Value) (es : List EventD), r = .tuple #[.agg d.toArray, we] ∧ (d.length = 2 ∧ ∀ v ∈ d, v.oneCell' = true) ∧ es.length ≤ 410 ∧ (∀ e, e ∈ es → genE e) ∧ Led B (osl 55 eventO fe we es :: rdr q sl (N + 310) :: L) V := by
  refine acalls Try.func69 rfl (by kernel_rfl) ?_
  simp (disch := omega) only [↓stq, amv_at, vls, inf, frs, mark_eq, ↓reduceIte, Nat.reduceEqDiff, ite_tt, ite_ff, eq_self, and_true, true_and, and_self, implies_true, Bool.true_eq_false, Bool.false_eq_true, decide_true, decide_false, decide_eq_true_eq, decide_eq_false_iff_not, ne_eq, not_true_eq_false, not_false_eq_true, Bool.not_eq_true', Bool.not_eq_false', beq_self_eq_true, Bool.not_true, Bool.not_false, List.getElem?_toArray, List.getElem?_cons_zero, List.getElem?_cons_succ]
  refine led_alloc zc26 l fun q2 V _ l => ?_
  simp (disch := omega) only [↓stq, amv_at, vls, inf, frs, mark_eq, ↓reduceIte, Nat.reduceEqDiff, ite_tt, ite_ff, eq_self, and_true, true_and, and_self, implies_true, Bool.true_eq_false, Bool.false_eq_true, decide_true, decide_false, decide_eq_true_eq, decide_eq_false_iff_not, ne_eq, not_true_eq_false, not_false_eq_true, Bool.not_eq_true', Bool.not_eq_false', beq_self_eq_true, Bool.not_true, Bool.not_false, List.getElem?_toArray, List.getElem?_cons_zero, List.getElem?_cons_succ]
  refine (someSuite_c B V _ q sl N hb (by omega) (l.perm (List.Perm.swap ..))).mono ?_
  rintro r V ⟨fp, x, d, rfl, hg, l⟩
  have hS : suiteS.rel V x d := suiteO_S (show suiteO.rel V fp x d from l.at (i := 0) rfl)
  have hd : d.length = 2 ∧ ∀ v ∈ d, v.oneCell' = true := ⟨suiteS.len hS, suiteS.one hS⟩
  simp (disch := omega) only [↓stq, amv_at, vls, inf, frs, mark_eq, ↓reduceIte, Nat.reduceEqDiff, ite_tt, ite_ff, eq_self, and_true, true_and, and_self, implies_true, Bool.true_eq_false, Bool.false_eq_true, decide_true, decide_false, decide_eq_true_eq, decide_eq_false_iff_not, ne_eq, not_true_eq_false, not_false_eq_true, Bool.not_eq_true', Bool.not_eq_false', beq_self_eq_true, Bool.not_true, Bool.not_false, List.getElem?_toArray, List.getElem?_cons_zero, List.getElem?_cons_succ]
  refine led_alloc zc26 l fun q4 V _ l => ?_
  simp (disch := omega) only [↓stq, amv_at, vls, inf, frs, mark_eq, ↓reduceIte, Nat.reduceEqDiff, ite_tt, ite_ff, eq_self, and_true, true_and, and_self, implies_true, Bool.true_eq_false, Bool.false_eq_true, decide_true, decide_false, decide_eq_true_eq, decide_eq_false_iff_not, ne_eq, not_true_eq_false, not_false_eq_true, Bool.not_eq_true', Bool.not_eq_false', beq_self_eq_true, Bool.not_true, Bool.not_false, List.getElem?_toArray, List.getElem?_cons_zero, List.getElem?_cons_succ]
  refine led_storeAll l 0 rfl sz26 hd.1 rfl hd.2 fun V l => ?_
  have kp : V.part ⟨q4, 0, none⟩ 2 = some d := l.partn (i := 0) rfl hd.1 hd.2
  have hS : suiteS.rel V x d := suiteO_S (show suiteO.rel V fp x d from l.at (i := 1) rfl)
  simp (disch := omega) only [↓stq, amv_at, vls, inf, frs, mark_eq, ↓reduceIte, Nat.reduceEqDiff, ite_tt, ite_ff, eq_self, and_true, true_and, and_self, implies_true, Bool.true_eq_false, Bool.false_eq_true, decide_true, decide_false, decide_eq_true_eq, decide_eq_false_iff_not, ne_eq, not_true_eq_false, not_false_eq_true, Bool.not_eq_true', Bool.not_eq_false', beq_self_eq_true, Bool.not_true, Bool.not_false, List.getElem?_toArray, List.getElem?_cons_zero, List.getElem?_cons_succ, kp]
  refine (spec_validB_c V _ x hS trivial).mono ?_
  rintro _ V2 ⟨rfl, he2⟩
  replace l := l.step he2
  replace kp := he2.part kp
  simp (disch := omega) only [↓stq, amv_at, vls, inf, frs, mark_eq, ↓reduceIte, Nat.reduceEqDiff, ite_tt, ite_ff, eq_self, and_true, true_and, and_self, implies_true, Bool.true_eq_false, Bool.false_eq_true, decide_true, decide_false, decide_eq_true_eq, decide_eq_false_iff_not, ne_eq, not_true_eq_false, not_false_eq_true, Bool.not_eq_true', Bool.not_eq_false', beq_self_eq_true, Bool.not_true, Bool.not_false, List.getElem?_toArray, List.getElem?_cons_zero, List.getElem?_cons_succ]
  refine ⟨fun e1 => ?_, fun e1 => ?_⟩ <;> simp (disch := omega) only [↓stq, amv_at, vls, inf, frs, mark_eq, ↓reduceIte, Nat.reduceEqDiff, ite_tt, ite_ff, eq_self, and_true, true_and, and_self, implies_true, Bool.true_eq_false, Bool.false_eq_true, decide_true, decide_false, decide_eq_true_eq, decide_eq_false_iff_not, ne_eq, not_true_eq_false, not_false_eq_true, Bool.not_eq_true', Bool.not_eq_false', beq_self_eq_true, Bool.not_true, Bool.not_false, List.getElem?_toArray, List.getElem?_cons_zero, List.getElem?_cons_succ, kp]
  · refine led_lit0 (O := eventO) li48 l fun be V _ l => ?_
    simp (disch := omega) only [↓stq, amv_at, vls, inf, frs, mark_eq, ↓reduceIte, Nat.reduceEqDiff, ite_tt, ite_ff, eq_self, and_true, true_and, and_self, implies_true, Bool.true_eq_false, Bool.false_eq_true, decide_true, decide_false, decide_eq_true_eq, decide_eq_false_iff_not, ne_eq, not_true_eq_false, not_false_eq_true, Bool.not_eq_true', Bool.not_eq_false', beq_self_eq_true, Bool.not_true, Bool.not_false, List.getElem?_toArray, List.getElem?_cons_zero, List.getElem?_cons_succ]
    refine led_storeAll l 4 rfl sz26 hd.1 rfl hd.2 fun V l => ?_
    have k2 : V.part ⟨q2, 0, none⟩ 2 = some d := l.partn (i := 4) rfl hd.1 hd.2
    simp (disch := omega) only [↓stq, amv_at, vls, inf, frs, mark_eq, ↓reduceIte, Nat.reduceEqDiff, ite_tt, ite_ff, eq_self, and_true, true_and, and_self, implies_true, Bool.true_eq_false, Bool.false_eq_true, decide_true, decide_false, decide_eq_true_eq, decide_eq_false_iff_not, ne_eq, not_true_eq_false, not_false_eq_true, Bool.not_eq_true', Bool.not_eq_false', beq_self_eq_true, Bool.not_true, Bool.not_false, List.getElem?_toArray, List.getElem?_cons_zero, List.getElem?_cons_succ, k2]
    have l2 : Led B (rdr q sl (N + 300) :: osl 55 eventO [be] (.slice (some ⟨be, 0, none⟩) 0 0) [] :: L) V := (l.sub (M := osl 55 eventO [be] (.slice (some ⟨be, 0, none⟩) 0 0) [] :: rdr q sl (N + 300) :: L) (.cons_cons _ (.cons _ (.cons _ (.cons_cons _ (.cons _ (List.Sublist.refl L))))))).perm (List.Perm.swap ..)
    exact ⟨d, [be], _, [], rfl, hd, by simp, by simp, (rdr_more l2 (M := N + 310) (by omega)).perm (List.Perm.swap ..)⟩
  · refine (spec_planOf_c V2 _ x (suiteO_S (show suiteO.rel V2 fp x d from l.at (i := 1) rfl)) hg).mono ?_
    rintro we V3 ⟨es, hel, hge, fe, l3⟩
    replace l := l.append l3
    replace l : Led B (rdr q sl (N + 300) :: osl 55 eventO fe we es :: bx q4 ⟨26, d, 2, true⟩ :: bx q2 ⟨26, [.slice none 0 0, .slice none 0 0], 2, true⟩ :: L) V3 := (l.sub (M := osl 55 eventO fe we es :: bx q4 ⟨26, d, 2, true⟩ :: rdr q sl (N + 300) :: bx q2 ⟨26, [.slice none 0 0, .slice none 0 0], 2, true⟩ :: L) (.cons_cons _ (.cons_cons _ (.cons _ (.cons_cons _ (.cons_cons _ (List.Sublist.refl L))))))).perm (List.perm_middle (l₁ := [_, _])).symm
    obtain ⟨ae, ce, rfl, _, _⟩ := (OSl.toS (show OSl 55 eventO V3 fe we es from l.at (i := 1) rfl)).slice
    have done : ∀ (V : View) (M : Nat) (fe : List Nat) (we : Value) (es : List EventD), M ≤ N + 310 → Led B (rdr q sl M :: osl 55 eventO fe we es :: bx q4 ⟨26, d, 2, true⟩ :: bx q2 ⟨26, d, 2, true⟩ :: L) V → Led B (osl 55 eventO fe we es :: rdr q sl (N + 310) :: L) V := fun V M fe we es hM l => by
      have l2 : Led B (rdr q sl M :: osl 55 eventO fe we es :: L) V := l.sub (.cons_cons _ (.cons_cons _ (.cons _ (.cons _ (List.Sublist.refl L)))))
      exact (rdr_more l2 hM).perm (List.Perm.swap ..)
    simp (disch := omega) only [↓stq, amv_at, vls, inf, frs, mark_eq, ↓reduceIte, Nat.reduceEqDiff, ite_tt, ite_ff, eq_self, and_true, true_and, and_self, implies_true, Bool.true_eq_false, Bool.false_eq_true, decide_true, decide_false, decide_eq_true_eq, decide_eq_false_iff_not, ne_eq, not_true_eq_false, not_false_eq_true, Bool.not_eq_true', Bool.not_eq_false', beq_self_eq_true, Bool.not_true, Bool.not_false, List.getElem?_toArray, List.getElem?_cons_zero, List.getElem?_cons_succ]
    refine ⟨fun e2 => ?_, fun e2 => ?_⟩ <;> simp (disch := omega) only [↓stq, amv_at, vls, inf, frs, mark_eq, ↓reduceIte, Nat.reduceEqDiff, ite_tt, ite_ff, eq_self, and_true, true_and, and_self, implies_true, Bool.true_eq_false, Bool.false_eq_true, decide_true, decide_false, decide_eq_true_eq, decide_eq_false_iff_not, ne_eq, not_true_eq_false, not_false_eq_true, Bool.not_eq_true', Bool.not_eq_false', beq_self_eq_true, Bool.not_true, Bool.not_false, List.getElem?_toArray, List.getElem?_cons_zero, List.getElem?_cons_succ, e2]
    · refine (pick_c B V3 _ q sl _ 3 hb (by omega) ⟨by omega, by omega⟩ l).mono ?_
      rintro _ V ⟨u0, rfl, hu0, hu1, l⟩
      simp (disch := omega) only [↓stq, amv_at, vls, inf, frs, mark_eq, ↓reduceIte, Nat.reduceEqDiff, ite_tt, ite_ff, eq_self, and_true, true_and, and_self, implies_true, Bool.true_eq_false, Bool.false_eq_true, decide_true, decide_false, decide_eq_true_eq, decide_eq_false_iff_not, ne_eq, not_true_eq_false, not_false_eq_true, Bool.not_eq_true', Bool.not_eq_false', beq_self_eq_true, Bool.not_true, Bool.not_false, List.getElem?_toArray, List.getElem?_cons_zero, List.getElem?_cons_succ, e2]
      refine ⟨fun e3 => ?_, fun e3 => ?_⟩ <;> simp (disch := omega) only [↓stq, amv_at, vls, inf, frs, mark_eq, ↓reduceIte, Nat.reduceEqDiff, ite_tt, ite_ff, eq_self, and_true, true_and, and_self, implies_true, Bool.true_eq_false, Bool.false_eq_true, decide_true, decide_false, decide_eq_true_eq, decide_eq_false_iff_not, ne_eq, not_true_eq_false, not_false_eq_true, Bool.not_eq_true', Bool.not_eq_false', beq_self_eq_true, Bool.not_true, Bool.not_false, List.getElem?_toArray, List.getElem?_cons_zero, List.getElem?_cons_succ]
      · refine (pick_c B V _ q sl _ es.length hb (by omega) ⟨by omega, by omega⟩ l).mono ?_
        rintro _ V ⟨k, rfl, hk0, hk1, l⟩
        obtain ⟨k, rfl⟩ := Int.eq_ofNat_of_zero_le hk0
        have hkl : k < es.length := by omega
        simp (disch := omega) only [↓stq, amv_at, vls, inf, frs, mark_eq, ↓reduceIte, Nat.reduceEqDiff, ite_tt, ite_ff, eq_self, and_true, true_and, and_self, implies_true, Bool.true_eq_false, Bool.false_eq_true, decide_true, decide_false, decide_eq_true_eq, decide_eq_false_iff_not, ne_eq, not_true_eq_false, not_false_eq_true, Bool.not_eq_true', Bool.not_eq_false', beq_self_eq_true, Bool.not_true, Bool.not_false, List.getElem?_toArray, List.getElem?_cons_zero, List.getElem?_cons_succ]
        refine (pick_c B V _ q sl _ 4 hb (by omega) ⟨by omega, by omega⟩ l).mono ?_
        rintro _ V ⟨u, rfl, hv0, hv1, l⟩
        obtain ⟨b, rfl⟩ : ∃ b, ae = some ⟨b, 0, none⟩ := by
          obtain ⟨_, ⟨hq, hx, _⟩ | ⟨b, _, _, _, hq, _⟩⟩ := (show OSl 55 eventO V fe _ es from l.at (i := 1) rfl)
          · rw [hx] at hkl; cases hkl
          · injection hq with hq; exact ⟨b, hq⟩
        simp (disch := omega) only [↓stq, amv_at, vls, inf, frs, mark_eq, ↓reduceIte, Nat.reduceEqDiff, ite_tt, ite_ff, eq_self, and_true, true_and, and_self, implies_true, Bool.true_eq_false, Bool.false_eq_true, decide_true, decide_false, decide_eq_true_eq, decide_eq_false_iff_not, ne_eq, not_true_eq_false, not_false_eq_true, Bool.not_eq_true', Bool.not_eq_false', beq_self_eq_true, Bool.not_true, Bool.not_false, List.getElem?_toArray, List.getElem?_cons_zero, List.getElem?_cons_succ]
        refine ⟨fun e4 => ?_, fun e4 => ?_⟩ <;> simp (disch := omega) only [↓stq, amv_at, vls, inf, frs, mark_eq, ↓reduceIte, Nat.reduceEqDiff, ite_tt, ite_ff, eq_self, and_true, true_and, and_self, implies_true, Bool.true_eq_false, Bool.false_eq_true, decide_true, decide_false, decide_eq_true_eq, decide_eq_false_iff_not, ne_eq, not_true_eq_false, not_false_eq_true, Bool.not_eq_true', Bool.not_eq_false', beq_self_eq_true, Bool.not_true, Bool.not_false, List.getElem?_toArray, List.getElem?_cons_zero, List.getElem?_cons_succ]
        · refine adraw_items [.q 1, .q 2, .q 3, .q 5, .q 6, .q 7, .q 8, .c 0 [], .c 4 [], .c 9 [], .q 10] (by kernel_rfl) (by kernel_rfl) ?_
          simp (disch := omega) only [↓stq, amv_at, ↓pln, plv, nilOk, Nat.reduceBEq, Bool.or_false, Bool.or_true, Bool.false_or, Bool.true_or, vls, inf, frs, mark_eq, ↓reduceIte, Nat.reduceEqDiff, ite_tt, ite_ff, eq_self, and_true, true_and, and_self, implies_true, Bool.true_eq_false, Bool.false_eq_true, decide_true, decide_false, decide_eq_true_eq, decide_eq_false_iff_not, ne_eq, not_true_eq_false, not_false_eq_true, Bool.not_eq_true', Bool.not_eq_false', beq_self_eq_true, Bool.not_true, Bool.not_false, List.getElem?_toArray, List.getElem?_cons_zero, List.getElem?_cons_succ]
          refine led_lit0 (O := eventO) li48 l fun b1 V _ l => ?_
          simp (disch := omega) only [↓stq, amv_at, ↓pln, plv, nilOk, Nat.reduceBEq, Bool.or_false, Bool.or_true, Bool.false_or, Bool.true_or, vls, inf, frs, mark_eq, ↓reduceIte, Nat.reduceEqDiff, ite_tt, ite_ff, eq_self, and_true, true_and, and_self, implies_true, Bool.true_eq_false, Bool.false_eq_true, decide_true, decide_false, decide_eq_true_eq, decide_eq_false_iff_not, ne_eq, not_true_eq_false, not_false_eq_true, Bool.not_eq_true', Bool.not_eq_false', beq_self_eq_true, Bool.not_true, Bool.not_false, List.getElem?_toArray, List.getElem?_cons_zero, List.getElem?_cons_succ, false_implies]
          have hO : Sl eventS V (.slice (some ⟨b, 0, none⟩) es.length ce) es := OSl.toS (l.at (i := 2) rfl)
          refine led_app (O := eventO) ap48_48 (by decide) l (i := 0) rfl (Sl.srcOf (hO.take (k := k) (by omega) 2)) (by rw [List.length_nil, List.length_take]; omega) fun f1 w1 V _ l => ?_
          rw [List.nil_append] at l
          simp (disch := omega) only [↓stq, amv_at, ↓pln, plv, nilOk, Nat.reduceBEq, Bool.or_false, Bool.or_true, Bool.false_or, Bool.true_or, vls, inf, frs, mark_eq, ↓reduceIte, Nat.reduceEqDiff, ite_tt, ite_ff, eq_self, and_true, true_and, and_self, implies_true, Bool.true_eq_false, Bool.false_eq_true, decide_true, decide_false, decide_eq_true_eq, decide_eq_false_iff_not, ne_eq, not_true_eq_false, not_false_eq_true, Bool.not_eq_true', Bool.not_eq_false', beq_self_eq_true, Bool.not_true, Bool.not_false, List.getElem?_toArray, List.getElem?_cons_zero, List.getElem?_cons_succ, false_implies]
          have hO : Sl eventS V (.slice (some ⟨b, 0, none⟩) es.length ce) es := OSl.toS (l.at (i := 2) rfl)
          have hdd : ((k : Int) + 1).toNat = k + 1 := by omega
          refine led_app (O := eventO) ap48_48 (by decide) l (i := 0) rfl (Sl.srcOf (hO.drop (k := k + 1) (by omega))) (by rw [List.length_take, List.length_drop]; omega) fun f2 w2 V _ l => ?_
          simp (disch := omega) only [↓stq, amv_at, ↓pln, plv, nilOk, Nat.reduceBEq, Bool.or_false, Bool.or_true, Bool.false_or, Bool.true_or, vls, inf, frs, mark_eq, ↓reduceIte, Nat.reduceEqDiff, ite_tt, ite_ff, eq_self, and_true, true_and, and_self, implies_true, Bool.true_eq_false, Bool.false_eq_true, decide_true, decide_false, decide_eq_true_eq, decide_eq_false_iff_not, ne_eq, not_true_eq_false, not_false_eq_true, Bool.not_eq_true', Bool.not_eq_false', beq_self_eq_true, Bool.not_true, Bool.not_false, List.getElem?_toArray, List.getElem?_cons_zero, List.getElem?_cons_succ, false_implies]
          replace l : Led B (rdr q sl (N + 300 + 1 + 1 + 1) :: osl 55 eventO f2 w2 (es.take k ++ es.drop (k + 1)) :: bx q4 ⟨26, d, 2, true⟩ :: bx q2 ⟨26, [.slice none 0 0, .slice none 0 0], 2, true⟩ :: L) V := (l.sub (M := osl 55 eventO f2 w2 (es.take k ++ es.drop (k + 1)) :: rdr q sl (N + 300 + 1 + 1 + 1) :: bx q4 ⟨26, d, 2, true⟩ :: bx q2 ⟨26, [.slice none 0 0, .slice none 0 0], 2, true⟩ :: L) (.cons_cons _ (.cons_cons _ (.cons _ (List.Sublist.refl _))))).perm (List.Perm.swap ..)
          have hge2 : ∀ e, e ∈ es.take k ++ es.drop (k + 1) → genE e := genE_app (fun e he => hge e (List.mem_of_mem_take he)) fun e he => hge e (List.mem_of_mem_drop he)
          have kp : V.part ⟨q4, 0, none⟩ 2 = some d := l.partn (i := 2) rfl hd.1 hd.2
          simp (disch := omega) only [↓stq, amv_at, vls, inf, frs, mark_eq, ↓reduceIte, Nat.reduceEqDiff, ite_tt, ite_ff, eq_self, and_true, true_and, and_self, implies_true, Bool.true_eq_false, Bool.false_eq_true, decide_true, decide_false, decide_eq_true_eq, decide_eq_false_iff_not, ne_eq, not_true_eq_false, not_false_eq_true, Bool.not_eq_true', Bool.not_eq_false', beq_self_eq_true, Bool.not_true, Bool.not_false, List.getElem?_toArray, List.getElem?_cons_zero, List.getElem?_cons_succ, kp]
          refine led_storeAll l 3 rfl sz26 hd.1 rfl hd.2 fun V l => ?_
          have k2 : V.part ⟨q2, 0, none⟩ 2 = some d := l.partn (i := 3) rfl hd.1 hd.2
          simp (disch := omega) only [↓stq, amv_at, vls, inf, frs, mark_eq, ↓reduceIte, Nat.reduceEqDiff, ite_tt, ite_ff, eq_self, and_true, true_and, and_self, implies_true, Bool.true_eq_false, Bool.false_eq_true, decide_true, decide_false, decide_eq_true_eq, decide_eq_false_iff_not, ne_eq, not_true_eq_false, not_false_eq_true, Bool.not_eq_true', Bool.not_eq_false', beq_self_eq_true, Bool.not_true, Bool.not_false, List.getElem?_toArray, List.getElem?_cons_zero, List.getElem?_cons_succ, k2]
          exact ⟨d, f2, _, _, rfl, hd, by rw [List.length_append, List.length_take, List.length_drop]; omega, hge2, done V _ _ _ _ (by omega) l⟩
        · refine ⟨fun e5 => ?_, fun e5 => ?_⟩ <;> simp (disch := omega) only [↓stq, amv_at, vls, inf, frs, mark_eq, ↓reduceIte, Nat.reduceEqDiff, ite_tt, ite_ff, eq_self, and_true, true_and, and_self, implies_true, Bool.true_eq_false, Bool.false_eq_true, decide_true, decide_false, decide_eq_true_eq, decide_eq_false_iff_not, ne_eq, not_true_eq_false, not_false_eq_true, Bool.not_eq_true', Bool.not_eq_false', beq_self_eq_true, Bool.not_true, Bool.not_false, List.getElem?_toArray, List.getElem?_cons_zero, List.getElem?_cons_succ]
          · have hO : Sl eventS V (.slice (some ⟨b, 0, none⟩) es.length ce) es := OSl.toS (l.at (i := 1) rfl)
            obtain ⟨_, hq, k0, r0, z0⟩ := hO.event (i := 0) (by omega)
            obtain rfl := Option.some.inj hq
            obtain ⟨_, hq, kk, rk, zk⟩ := hO.event hkl
            obtain rfl := Option.some.inj hq
            simp (disch := omega) only [↓stq, amv_at, vls, inf, frs, mark_eq, ↓reduceIte, Nat.reduceEqDiff, ite_tt, ite_ff, eq_self, and_true, true_and, and_self, implies_true, Bool.true_eq_false, Bool.false_eq_true, decide_true, decide_false, decide_eq_true_eq, decide_eq_false_iff_not, ne_eq, not_true_eq_false, not_false_eq_true, Bool.not_eq_true', Bool.not_eq_false', beq_self_eq_true, Bool.not_true, Bool.not_false, List.getElem?_toArray, List.getElem?_cons_zero, List.getElem?_cons_succ, k0, Int.toNat_zero]
            refine led_alloc zc55 l fun q7 V _ l => ?_
            simp (disch := omega) only [↓stq, amv_at, vls, inf, frs, mark_eq, ↓reduceIte, Nat.reduceEqDiff, ite_tt, ite_ff, eq_self, and_true, true_and, and_self, implies_true, Bool.true_eq_false, Bool.false_eq_true, decide_true, decide_false, decide_eq_true_eq, decide_eq_false_iff_not, ne_eq, not_true_eq_false, not_false_eq_true, Bool.not_eq_true', Bool.not_eq_false', beq_self_eq_true, Bool.not_true, Bool.not_false, List.getElem?_toArray, List.getElem?_cons_zero, List.getElem?_cons_succ]
            refine led_storeAll l 0 rfl sz55 rfl rfl (by simp [Value.oneCell']) fun V l => ?_
            have hO : Sl eventS V (.slice (some ⟨b, 0, none⟩) es.length ce) es := OSl.toS (l.at (i := 2) rfl)
            obtain ⟨_, hq, kk, _, _⟩ := hO.event hkl
            obtain rfl := Option.some.inj hq
            simp (disch := omega) only [↓stq, amv_at, vls, inf, frs, mark_eq, ↓reduceIte, Nat.reduceEqDiff, ite_tt, ite_ff, eq_self, and_true, true_and, and_self, implies_true, Bool.true_eq_false, Bool.false_eq_true, decide_true, decide_false, decide_eq_true_eq, decide_eq_false_iff_not, ne_eq, not_true_eq_false, not_false_eq_true, Bool.not_eq_true', Bool.not_eq_false', beq_self_eq_true, Bool.not_true, Bool.not_false, List.getElem?_toArray, List.getElem?_cons_zero, List.getElem?_cons_succ, kk]
            rw [add_at]
            refine led_setS (z := [.int .i64 (es[k]).1, .string (es[k]).2.1]) (x' := es[k]) l (i := 2) (k := 0) rfl (by omega) sz55 rfl (eventS_mk rk zk) fun V _ l => ?_
            have m7 : V.part ⟨q7, 0, none⟩ 2 = some [.int .i64 (es[0]).1, .string (es[0]).2.1] := l.part (i := 0) rfl rfl
            simp (disch := omega) only [↓stq, amv_at, vls, inf, frs, mark_eq, ↓reduceIte, Nat.reduceEqDiff, ite_tt, ite_ff, eq_self, and_true, true_and, and_self, implies_true, Bool.true_eq_false, Bool.false_eq_true, decide_true, decide_false, decide_eq_true_eq, decide_eq_false_iff_not, ne_eq, not_true_eq_false, not_false_eq_true, Bool.not_eq_true', Bool.not_eq_false', beq_self_eq_true, Bool.not_true, Bool.not_false, List.getElem?_toArray, List.getElem?_cons_zero, List.getElem?_cons_succ, m7]
            rw [add_at]
            refine led_setS (z := [.int .i64 (es[0]).1, .string (es[0]).2.1]) (x' := es[0]) l (i := 2) (k := k) rfl (by rw [List.length_set]; omega) sz55 (by show 0 + k * 2 = k * 2; omega) (eventS_mk r0 z0) fun V _ l => ?_
            replace l := l.tail
            have hge2 : ∀ e, e ∈ (es.set 0 es[k]).set k es[0] → genE e := genE_set (genE_set hge (hge _ (List.getElem_mem _)) 0) (hge _ (List.getElem_mem _)) k
            have kp : V.part ⟨q4, 0, none⟩ 2 = some d := l.partn (i := 2) rfl hd.1 hd.2
            simp (disch := omega) only [↓stq, amv_at, vls, inf, frs, mark_eq, ↓reduceIte, Nat.reduceEqDiff, ite_tt, ite_ff, eq_self, and_true, true_and, and_self, implies_true, Bool.true_eq_false, Bool.false_eq_true, decide_true, decide_false, decide_eq_true_eq, decide_eq_false_iff_not, ne_eq, not_true_eq_false, not_false_eq_true, Bool.not_eq_true', Bool.not_eq_false', beq_self_eq_true, Bool.not_true, Bool.not_false, List.getElem?_toArray, List.getElem?_cons_zero, List.getElem?_cons_succ, kp]
            refine led_storeAll l 3 rfl sz26 hd.1 rfl hd.2 fun V l => ?_
            have k2 : V.part ⟨q2, 0, none⟩ 2 = some d := l.partn (i := 3) rfl hd.1 hd.2
            simp (disch := omega) only [↓stq, amv_at, vls, inf, frs, mark_eq, ↓reduceIte, Nat.reduceEqDiff, ite_tt, ite_ff, eq_self, and_true, true_and, and_self, implies_true, Bool.true_eq_false, Bool.false_eq_true, decide_true, decide_false, decide_eq_true_eq, decide_eq_false_iff_not, ne_eq, not_true_eq_false, not_false_eq_true, Bool.not_eq_true', Bool.not_eq_false', beq_self_eq_true, Bool.not_true, Bool.not_false, List.getElem?_toArray, List.getElem?_cons_zero, List.getElem?_cons_succ, k2]
            exact ⟨d, fe, _, _, rfl, hd, by rw [List.length_set, List.length_set]; omega, hge2, done V _ _ _ _ (by omega) l⟩
          · refine ⟨fun e6 => ?_, fun e6 => ?_⟩ <;> simp (disch := omega) only [↓stq, amv_at, vls, inf, frs, mark_eq, ↓reduceIte, Nat.reduceEqDiff, ite_tt, ite_ff, eq_self, and_true, true_and, and_self, implies_true, Bool.true_eq_false, Bool.false_eq_true, decide_true, decide_false, decide_eq_true_eq, decide_eq_false_iff_not, ne_eq, not_true_eq_false, not_false_eq_true, Bool.not_eq_true', Bool.not_eq_false', beq_self_eq_true, Bool.not_true, Bool.not_false, List.getElem?_toArray, List.getElem?_cons_zero, List.getElem?_cons_succ]
            · refine led_lit li31 (by omega) rfl (by simp [Value.cells, Value.oneCell']) l fun bl V _ l => ?_
              simp (disch := omega) only [↓stq, amv_at, vls, inf, frs, mark_eq, ↓reduceIte, Nat.reduceEqDiff, ite_tt, ite_ff, eq_self, and_true, true_and, and_self, implies_true, Bool.true_eq_false, Bool.false_eq_true, decide_true, decide_false, decide_eq_true_eq, decide_eq_false_iff_not, ne_eq, not_true_eq_false, not_false_eq_true, Bool.not_eq_true', Bool.not_eq_false', beq_self_eq_true, Bool.not_true, Bool.not_false, List.getElem?_toArray, List.getElem?_cons_zero, List.getElem?_cons_succ]
              refine (ofLit_c (n := 4) (c := 4) (xs := [_, _, _, _]) B V _ q sl _ hb (by omega) rfl rfl (by omega) (by decide) (by omega) (by omega) l).mono ?_
              rintro _ V ⟨s, rfl, hs, l⟩
              have hsz : s.size ≤ 100 := by revert s; decide
              have hgk := hge _ (List.getElem_mem hkl)
              simp (disch := omega) only [↓stq, amv_at, vls, inf, frs, mark_eq, ↓reduceIte, Nat.reduceEqDiff, ite_tt, ite_ff, eq_self, and_true, true_and, and_self, implies_true, Bool.true_eq_false, Bool.false_eq_true, decide_true, decide_false, decide_eq_true_eq, decide_eq_false_iff_not, ne_eq, not_true_eq_false, not_false_eq_true, Bool.not_eq_true', Bool.not_eq_false', beq_self_eq_true, Bool.not_true, Bool.not_false, List.getElem?_toArray, List.getElem?_cons_zero, List.getElem?_cons_succ]
              rw [add_at, add_at]
              refine led_setelem (x' := ((es[k]).1, s, ())) l (i := 1) (k := k) rfl hkl sz9 (j := 1) (by show 0 + k * 2 + 1 = k * 2 + 1; omega) ⟨rfl, rfl⟩ (fun q hq => by
                obtain ⟨rfl, h1, h2⟩ := eventS_open hq
                exact ⟨by show (1 : Nat) < 2; omega, eventS_mk (x := ((es[k]).1, s, ())) h1 (by show s.size ≤ _; omega)⟩) fun V _ l => ?_
              have hge2 : ∀ e, e ∈ es.set k ((es[k]).1, s, ()) → genE e := genE_set (y := ((es[k]).1, s, ())) hge ⟨hgk.1, hgk.2.1, by show s.size ≤ 300; omega⟩ k
              have kp : V.part ⟨q4, 0, none⟩ 2 = some d := l.partn (i := 2) rfl hd.1 hd.2
              simp (disch := omega) only [↓stq, amv_at, vls, inf, frs, mark_eq, ↓reduceIte, Nat.reduceEqDiff, ite_tt, ite_ff, eq_self, and_true, true_and, and_self, implies_true, Bool.true_eq_false, Bool.false_eq_true, decide_true, decide_false, decide_eq_true_eq, decide_eq_false_iff_not, ne_eq, not_true_eq_false, not_false_eq_true, Bool.not_eq_true', Bool.not_eq_false', beq_self_eq_true, Bool.not_true, Bool.not_false, List.getElem?_toArray, List.getElem?_cons_zero, List.getElem?_cons_succ, kp]
              refine led_storeAll l 3 rfl sz26 hd.1 rfl hd.2 fun V l => ?_
              have k2 : V.part ⟨q2, 0, none⟩ 2 = some d := l.partn (i := 3) rfl hd.1 hd.2
              simp (disch := omega) only [↓stq, amv_at, vls, inf, frs, mark_eq, ↓reduceIte, Nat.reduceEqDiff, ite_tt, ite_ff, eq_self, and_true, true_and, and_self, implies_true, Bool.true_eq_false, Bool.false_eq_true, decide_true, decide_false, decide_eq_true_eq, decide_eq_false_iff_not, ne_eq, not_true_eq_false, not_false_eq_true, Bool.not_eq_true', Bool.not_eq_false', beq_self_eq_true, Bool.not_true, Bool.not_false, List.getElem?_toArray, List.getElem?_cons_zero, List.getElem?_cons_succ, k2]
              exact ⟨d, fe, _, _, rfl, hd, by rw [List.length_set]; omega, hge2, done V _ _ _ _ (by omega) l⟩
            · refine led_lit li88 (by omega) rfl (by simp [Value.cells, Value.oneCell']) l fun bl V _ l => ?_
              simp (disch := omega) only [↓stq, amv_at, vls, inf, frs, mark_eq, ↓reduceIte, Nat.reduceEqDiff, ite_tt, ite_ff, eq_self, and_true, true_and, and_self, implies_true, Bool.true_eq_false, Bool.false_eq_true, decide_true, decide_false, decide_eq_true_eq, decide_eq_false_iff_not, ne_eq, not_true_eq_false, not_false_eq_true, Bool.not_eq_true', Bool.not_eq_false', beq_self_eq_true, Bool.not_true, Bool.not_false, List.getElem?_toArray, List.getElem?_cons_zero, List.getElem?_cons_succ]
              refine (oneLit_c (n := 5) (c := 5) (xs := [_, _, _, _, _]) B V _ q sl _ hb (by omega) rfl rfl (by omega) (by decide) (by omega) (by omega) l).mono ?_
              rintro _ V ⟨s, rfl, hs, l⟩
              have hsz : -1 ≤ s ∧ s ≤ 3 := by revert s; decide
              have hgk := hge _ (List.getElem_mem hkl)
              simp (disch := omega) only [↓stq, amv_at, vls, inf, frs, mark_eq, ↓reduceIte, Nat.reduceEqDiff, ite_tt, ite_ff, eq_self, and_true, true_and, and_self, implies_true, Bool.true_eq_false, Bool.false_eq_true, decide_true, decide_false, decide_eq_true_eq, decide_eq_false_iff_not, ne_eq, not_true_eq_false, not_false_eq_true, Bool.not_eq_true', Bool.not_eq_false', beq_self_eq_true, Bool.not_true, Bool.not_false, List.getElem?_toArray, List.getElem?_cons_zero, List.getElem?_cons_succ]
              rw [add_at, add_at]
              refine led_setelem (x' := (s, (es[k]).2.1, ())) l (i := 1) (k := k) rfl hkl sz3 (j := 0) (by show 0 + k * 2 + 0 = k * 2 + 0; omega) ⟨rfl, rfl⟩ (fun q hq => by
                obtain ⟨rfl, h1, h2⟩ := eventS_open hq
                exact ⟨by show (0 : Nat) < 2; omega, eventS_mk (x := (s, (es[k]).2.1, ())) (by show (_ : Int) ≤ s ∧ s < _; omega) h2⟩) fun V _ l => ?_
              have hge2 : ∀ e, e ∈ es.set k (s, (es[k]).2.1, ()) → genE e := genE_set (y := (s, (es[k]).2.1, ())) hge ⟨hsz.1, hsz.2, hgk.2.2⟩ k
              have kp : V.part ⟨q4, 0, none⟩ 2 = some d := l.partn (i := 2) rfl hd.1 hd.2
              simp (disch := omega) only [↓stq, amv_at, vls, inf, frs, mark_eq, ↓reduceIte, Nat.reduceEqDiff, ite_tt, ite_ff, eq_self, and_true, true_and, and_self, implies_true, Bool.true_eq_false, Bool.false_eq_true, decide_true, decide_false, decide_eq_true_eq, decide_eq_false_iff_not, ne_eq, not_true_eq_false, not_false_eq_true, Bool.not_eq_true', Bool.not_eq_false', beq_self_eq_true, Bool.not_true, Bool.not_false, List.getElem?_toArray, List.getElem?_cons_zero, List.getElem?_cons_succ, kp]
              refine led_storeAll l 3 rfl sz26 hd.1 rfl hd.2 fun V l => ?_
              have k2 : V.part ⟨q2, 0, none⟩ 2 = some d := l.partn (i := 3) rfl hd.1 hd.2
              simp (disch := omega) only [↓stq, amv_at, vls, inf, frs, mark_eq, ↓reduceIte, Nat.reduceEqDiff, ite_tt, ite_ff, eq_self, and_true, true_and, and_self, implies_true, Bool.true_eq_false, Bool.false_eq_true, decide_true, decide_false, decide_eq_true_eq, decide_eq_false_iff_not, ne_eq, not_true_eq_false, not_false_eq_true, Bool.not_eq_true', Bool.not_eq_false', beq_self_eq_true, Bool.not_true, Bool.not_false, List.getElem?_toArray, List.getElem?_cons_zero, List.getElem?_cons_succ, k2]
              exact ⟨d, fe, _, _, rfl, hd, by rw [List.length_set]; omega, hge2, done V _ _ _ _ (by omega) l⟩
      · have kp : V.part ⟨q4, 0, none⟩ 2 = some d := l.partn (i := 2) rfl hd.1 hd.2
        simp (disch := omega) only [↓stq, amv_at, vls, inf, frs, mark_eq, ↓reduceIte, Nat.reduceEqDiff, ite_tt, ite_ff, eq_self, and_true, true_and, and_self, implies_true, Bool.true_eq_false, Bool.false_eq_true, decide_true, decide_false, decide_eq_true_eq, decide_eq_false_iff_not, ne_eq, not_true_eq_false, not_false_eq_true, Bool.not_eq_true', Bool.not_eq_false', beq_self_eq_true, Bool.not_true, Bool.not_false, List.getElem?_toArray, List.getElem?_cons_zero, List.getElem?_cons_succ, kp]
        refine led_storeAll l 3 rfl sz26 hd.1 rfl hd.2 fun V l => ?_
        have k2 : V.part ⟨q2, 0, none⟩ 2 = some d := l.partn (i := 3) rfl hd.1 hd.2
        simp (disch := omega) only [↓stq, amv_at, vls, inf, frs, mark_eq, ↓reduceIte, Nat.reduceEqDiff, ite_tt, ite_ff, eq_self, and_true, true_and, and_self, implies_true, Bool.true_eq_false, Bool.false_eq_true, decide_true, decide_false, decide_eq_true_eq, decide_eq_false_iff_not, ne_eq, not_true_eq_false, not_false_eq_true, Bool.not_eq_true', Bool.not_eq_false', beq_self_eq_true, Bool.not_true, Bool.not_false, List.getElem?_toArray, List.getElem?_cons_zero, List.getElem?_cons_succ, k2]
        exact ⟨d, fe, _, es, rfl, hd, hel, hge, done V _ _ _ _ (by omega) l⟩
    · have kp : V3.part ⟨q4, 0, none⟩ 2 = some d := l.partn (i := 2) rfl hd.1 hd.2
      simp (disch := omega) only [↓stq, amv_at, vls, inf, frs, mark_eq, ↓reduceIte, Nat.reduceEqDiff, ite_tt, ite_ff, eq_self, and_true, true_and, and_self, implies_true, Bool.true_eq_false, Bool.false_eq_true, decide_true, decide_false, decide_eq_true_eq, decide_eq_false_iff_not, ne_eq, not_true_eq_false, not_false_eq_true, Bool.not_eq_true', Bool.not_eq_false', beq_self_eq_true, Bool.not_true, Bool.not_false, List.getElem?_toArray, List.getElem?_cons_zero, List.getElem?_cons_succ, kp]
      refine led_storeAll l 3 rfl sz26 hd.1 rfl hd.2 fun V l => ?_
      have k2 : V.part ⟨q2, 0, none⟩ 2 = some d := l.partn (i := 3) rfl hd.1 hd.2
      simp (disch := omega) only [↓stq, amv_at, vls, inf, frs, mark_eq, ↓reduceIte, Nat.reduceEqDiff, ite_tt, ite_ff, eq_self, and_true, true_and, and_self, implies_true, Bool.true_eq_false, Bool.false_eq_true, decide_true, decide_false, decide_eq_true_eq, decide_eq_false_iff_not, ne_eq, not_true_eq_false, not_false_eq_true, Bool.not_eq_true', Bool.not_eq_false', beq_self_eq_true, Bool.not_true, Bool.not_false, List.getElem?_toArray, List.getElem?_cons_zero, List.getElem?_cons_succ, k2]
      exact ⟨d, fe, _, es, rfl, hd, hel, hge, done V _ _ _ _ (by omega) l⟩

theorem Sl.mid {α : Type} {S : Shape α} {A : View} {xs : List α} {a : Option Addr} {n c : Nat} (h : Sl S A (.slice a n c) xs) {k m : Nat} (hk : k + m ≤ xs.length) : Sl S A (.slice (cutAddr a k c S.size) m (c - k)) ((xs.drop k).take m) := by
  by_cases hx : xs.length = 0
  · have hm : m = 0 := by omega
    subst hm
    rw [List.take_zero]
    exact Sl.empty S A _ _
  · obtain ⟨ad, d, rfl, _⟩ := h.at (i := 0) (by omega)
    have e0 : cutAddr (some ad) 0 c S.size = some ad := by
      unfold cutAddr
      split
      · rfl
      · simp [Addr.add]
    have h1 := h.take (k := k + m) hk S.size
    rw [e0] at h1
    have h2 := h1.drop (k := k) (by rw [List.length_take]; omega)
    rw [Nat.add_sub_cancel_left] at h2
    rwa [List.take_drop]

theorem DrawMostLive_c (A : View) (v : Value) (bs : List UInt8) (h : Sl byteS A v bs) : ACalls Try.prog 26 #[v] A fun r V => ∃ es : List EventD, es.length ≤ 410 ∧ (∀ e, e ∈ es → genE e) ∧ Sl eventS V r es ∧ Ext A V := by
  obtain ⟨a, c, rfl, _, _⟩ := h.slice
  refine acalls Try.func26 rfl (by kernel_rfl) ?_
  simp (disch := omega) only [↓stq, amv_at, vls, inf, frs, mark_eq, ↓reduceIte, Nat.reduceEqDiff, ite_tt, ite_ff, eq_self, and_true, true_and, and_self, implies_true, Bool.true_eq_false, Bool.false_eq_true, decide_true, decide_false, decide_eq_true_eq, decide_eq_false_iff_not, ne_eq, not_true_eq_false, not_false_eq_true, Bool.not_eq_true', Bool.not_eq_false', beq_self_eq_true, Bool.not_true, Bool.not_false, List.getElem?_toArray, List.getElem?_cons_zero, List.getElem?_cons_succ]
  refine acalls Try.func66 rfl (by kernel_rfl) ?_
  simp (disch := omega) only [↓stq, amv_at, vls, inf, frs, mark_eq, ↓reduceIte, Nat.reduceEqDiff, ite_tt, ite_ff, eq_self, and_true, true_and, and_self, implies_true, Bool.true_eq_false, Bool.false_eq_true, decide_true, decide_false, decide_eq_true_eq, decide_eq_false_iff_not, ne_eq, not_true_eq_false, not_false_eq_true, Bool.not_eq_true', Bool.not_eq_false', beq_self_eq_true, Bool.not_true, Bool.not_false, List.getElem?_toArray, List.getElem?_cons_zero, List.getElem?_cons_succ]
  refine (newReader_c A A _ bs h).mono ?_
  rintro _ V ⟨q, sl, rfl, hb, l⟩
  simp (disch := omega) only [↓stq, amv_at, vls, inf, frs, mark_eq, ↓reduceIte, Nat.reduceEqDiff, ite_tt, ite_ff, eq_self, and_true, true_and, and_self, implies_true, Bool.true_eq_false, Bool.false_eq_true, decide_true, decide_false, decide_eq_true_eq, decide_eq_false_iff_not, ne_eq, not_true_eq_false, not_false_eq_true, Bool.not_eq_true', Bool.not_eq_false', beq_self_eq_true, Bool.not_true, Bool.not_false, List.getElem?_toArray, List.getElem?_cons_zero, List.getElem?_cons_succ]
  refine (someEvents_c A V [] q sl 0 hb (by omega) l).mono ?_
  rintro _ V ⟨d, fe, we, es, rfl, hd, hel, hge, l⟩
  simp (disch := omega) only [↓stq, amv_at, vls, inf, frs, mark_eq, ↓reduceIte, Nat.reduceEqDiff, ite_tt, ite_ff, eq_self, and_true, true_and, and_self, implies_true, Bool.true_eq_false, Bool.false_eq_true, decide_true, decide_false, decide_eq_true_eq, decide_eq_false_iff_not, ne_eq, not_true_eq_false, not_false_eq_true, Bool.not_eq_true', Bool.not_eq_false', beq_self_eq_true, Bool.not_true, Bool.not_false, List.getElem?_toArray, List.getElem?_cons_zero, List.getElem?_cons_succ]
  refine led_alloc zc26 l fun q3 V _ l => ?_
  simp (disch := omega) only [↓stq, amv_at, vls, inf, frs, mark_eq, ↓reduceIte, Nat.reduceEqDiff, ite_tt, ite_ff, eq_self, and_true, true_and, and_self, implies_true, Bool.true_eq_false, Bool.false_eq_true, decide_true, decide_false, decide_eq_true_eq, decide_eq_false_iff_not, ne_eq, not_true_eq_false, not_false_eq_true, Bool.not_eq_true', Bool.not_eq_false', beq_self_eq_true, Bool.not_true, Bool.not_false, List.getElem?_toArray, List.getElem?_cons_zero, List.getElem?_cons_succ]
  refine led_storeAll l 0 rfl sz26 hd.1 rfl hd.2 fun V l => ?_
  simp (disch := omega) only [↓stq, amv_at, vls, inf, frs, mark_eq, ↓reduceIte, Nat.reduceEqDiff, ite_tt, ite_ff, eq_self, and_true, true_and, and_self, implies_true, Bool.true_eq_false, Bool.false_eq_true, decide_true, decide_false, decide_eq_true_eq, decide_eq_false_iff_not, ne_eq, not_true_eq_false, not_false_eq_true, Bool.not_eq_true', Bool.not_eq_false', beq_self_eq_true, Bool.not_true, Bool.not_false, List.getElem?_toArray, List.getElem?_cons_zero, List.getElem?_cons_succ]
  exact ⟨es, hel, hge, OSl.toS (l.at (i := 1) rfl), l.ext⟩

theorem DrawLiveAfter_c (A : View) (v : Value) (bs : List UInt8) (h : Sl byteS A v bs) : ACalls Try.prog 30 #[v] A fun r V => ∃ (w : Value) (es : List EventD) (k : Int), r = .tuple #[w, .int .i64 k] ∧ es.length ≤ 410 ∧ (∀ e, e ∈ es → genE e) ∧ Sl eventS V w es ∧ -1 ≤ k ∧ k ≤ 500 ∧ Ext A V := by
  obtain ⟨a, c, rfl, _, _⟩ := h.slice
  refine acalls Try.func30 rfl (by kernel_rfl) ?_
  simp (disch := omega) only [↓stq, amv_at, vls, inf, frs, mark_eq, ↓reduceIte, Nat.reduceEqDiff, ite_tt, ite_ff, eq_self, and_true, true_and, and_self, implies_true, Bool.true_eq_false, Bool.false_eq_true, decide_true, decide_false, decide_eq_true_eq, decide_eq_false_iff_not, ne_eq, not_true_eq_false, not_false_eq_true, Bool.not_eq_true', Bool.not_eq_false', beq_self_eq_true, Bool.not_true, Bool.not_false, List.getElem?_toArray, List.getElem?_cons_zero, List.getElem?_cons_succ]
  refine (newReader_c A A _ bs h).mono ?_
  rintro _ V ⟨q, sl, rfl, hb, l⟩
  simp (disch := omega) only [↓stq, amv_at, vls, inf, frs, mark_eq, ↓reduceIte, Nat.reduceEqDiff, ite_tt, ite_ff, eq_self, and_true, true_and, and_self, implies_true, Bool.true_eq_false, Bool.false_eq_true, decide_true, decide_false, decide_eq_true_eq, decide_eq_false_iff_not, ne_eq, not_true_eq_false, not_false_eq_true, Bool.not_eq_true', Bool.not_eq_false', beq_self_eq_true, Bool.not_true, Bool.not_false, List.getElem?_toArray, List.getElem?_cons_zero, List.getElem?_cons_succ]
  refine (someEvents_c A V [] q sl 0 hb (by omega) l).mono ?_
  rintro _ V ⟨d, fe, we, es, rfl, hd, hel, hge, l⟩
  obtain ⟨ae, ce, rfl, _, _⟩ := (OSl.toS (show OSl 55 eventO V fe we es from l.at (i := 0) rfl)).slice
  simp (disch := omega) only [↓stq, amv_at, vls, inf, frs, mark_eq, ↓reduceIte, Nat.reduceEqDiff, ite_tt, ite_ff, eq_self, and_true, true_and, and_self, implies_true, Bool.true_eq_false, Bool.false_eq_true, decide_true, decide_false, decide_eq_true_eq, decide_eq_false_iff_not, ne_eq, not_true_eq_false, not_false_eq_true, Bool.not_eq_true', Bool.not_eq_false', beq_self_eq_true, Bool.not_true, Bool.not_false, List.getElem?_toArray, List.getElem?_cons_zero, List.getElem?_cons_succ]
  refine led_alloc zc26 l fun q3 V _ l => ?_
  simp (disch := omega) only [↓stq, amv_at, vls, inf, frs, mark_eq, ↓reduceIte, Nat.reduceEqDiff, ite_tt, ite_ff, eq_self, and_true, true_and, and_self, implies_true, Bool.true_eq_false, Bool.false_eq_true, decide_true, decide_false, decide_eq_true_eq, decide_eq_false_iff_not, ne_eq, not_true_eq_false, not_false_eq_true, Bool.not_eq_true', Bool.not_eq_false', beq_self_eq_true, Bool.not_true, Bool.not_false, List.getElem?_toArray, List.getElem?_cons_zero, List.getElem?_cons_succ]
  refine led_storeAll l 0 rfl sz26 hd.1 rfl hd.2 fun V l => ?_
  replace l := (l.tail).perm (List.Perm.swap ..)
  simp (disch := omega) only [↓stq, amv_at, vls, inf, frs, mark_eq, ↓reduceIte, Nat.reduceEqDiff, ite_tt, ite_ff, eq_self, and_true, true_and, and_self, implies_true, Bool.true_eq_false, Bool.false_eq_true, decide_true, decide_false, decide_eq_true_eq, decide_eq_false_iff_not, ne_eq, not_true_eq_false, not_false_eq_true, Bool.not_eq_true', Bool.not_eq_false', beq_self_eq_true, Bool.not_true, Bool.not_false, List.getElem?_toArray, List.getElem?_cons_zero, List.getElem?_cons_succ]
  refine (pick_c A V _ q sl _ ((es.length : Int) + 1) hb (by omega) ⟨by omega, by omega⟩ l).mono ?_
  rintro _ V ⟨p1, rfl, h10, h11, l⟩
  simp (disch := omega) only [↓stq, amv_at, vls, inf, frs, mark_eq, ↓reduceIte, Nat.reduceEqDiff, ite_tt, ite_ff, eq_self, and_true, true_and, and_self, implies_true, Bool.true_eq_false, Bool.false_eq_true, decide_true, decide_false, decide_eq_true_eq, decide_eq_false_iff_not, ne_eq, not_true_eq_false, not_false_eq_true, Bool.not_eq_true', Bool.not_eq_false', beq_self_eq_true, Bool.not_true, Bool.not_false, List.getElem?_toArray, List.getElem?_cons_zero, List.getElem?_cons_succ]
  refine (pick_c A V _ q sl _ ((es.length : Int) + 1) hb (by omega) ⟨by omega, by omega⟩ l).mono ?_
  rintro _ V ⟨p2, rfl, h20, h21, l⟩
  simp (disch := omega) only [↓stq, amv_at, vls, inf, frs, mark_eq, ↓reduceIte, Nat.reduceEqDiff, ite_tt, ite_ff, eq_self, and_true, true_and, and_self, implies_true, Bool.true_eq_false, Bool.false_eq_true, decide_true, decide_false, decide_eq_true_eq, decide_eq_false_iff_not, ne_eq, not_true_eq_false, not_false_eq_true, Bool.not_eq_true', Bool.not_eq_false', beq_self_eq_true, Bool.not_true, Bool.not_false, List.getElem?_toArray, List.getElem?_cons_zero, List.getElem?_cons_succ]
  refine led_lit li88 (by omega) rfl (by simp [Value.cells, Value.oneCell']) l fun bl V _ l => ?_
  simp (disch := omega) only [↓stq, amv_at, vls, inf, frs, mark_eq, ↓reduceIte, Nat.reduceEqDiff, ite_tt, ite_ff, eq_self, and_true, true_and, and_self, implies_true, Bool.true_eq_false, Bool.false_eq_true, decide_true, decide_false, decide_eq_true_eq, decide_eq_false_iff_not, ne_eq, not_true_eq_false, not_false_eq_true, Bool.not_eq_true', Bool.not_eq_false', beq_self_eq_true, Bool.not_true, Bool.not_false, List.getElem?_toArray, List.getElem?_cons_zero, List.getElem?_cons_succ]
  refine (oneLit_c (n := 5) (c := 5) (xs := [p1, p2, (es.length : Int), (es.length : Int) + 1, -1]) A V _ q sl _ hb (by omega) rfl rfl (by omega) (fun y hy => by
    simp only [List.mem_cons, List.not_mem_nil, or_false] at hy
    omega) (by omega) (by omega) l).mono ?_
  rintro _ V ⟨k, rfl, hk, l⟩
  have hkr : -1 ≤ k ∧ k ≤ 500 := by
    simp only [List.mem_cons, List.not_mem_nil, or_false] at hk
    omega
  simp (disch := omega) only [↓stq, amv_at, vls, inf, frs, mark_eq, ↓reduceIte, Nat.reduceEqDiff, ite_tt, ite_ff, eq_self, and_true, true_and, and_self, implies_true, Bool.true_eq_false, Bool.false_eq_true, decide_true, decide_false, decide_eq_true_eq, decide_eq_false_iff_not, ne_eq, not_true_eq_false, not_false_eq_true, Bool.not_eq_true', Bool.not_eq_false', beq_self_eq_true, Bool.not_true, Bool.not_false, List.getElem?_toArray, List.getElem?_cons_zero, List.getElem?_cons_succ]
  exact ⟨_, es, k, rfl, hel, hge, OSl.toS (l.at (i := 1) rfl), hkr.1, hkr.2, l.ext⟩

/-! ### in plain words -/
def stepL (l : List ByteArray) (e : EventD) : List ByteArray := if e.1 = 0 then l ++ [e.2.1] else if e.1 = 1 then l.filter (fun a => decide (a ∉ [e.2.1])) else l
def liveR (es : List EventD) : List ByteArray := es.foldl stepL []
def goL : List EventD → List ByteArray
  | [] => []
  | e :: r => (if e.1 = 0 ∧ ((1 : Int), e.2.1, ()) ∉ r then [e.2.1] else []) ++ goL r
theorem goL_cons (e : EventD) (r : List EventD) : goL (e :: r) = (if e.1 = 0 ∧ ((1 : Int), e.2.1, ()) ∉ r then [e.2.1] else []) ++ goL r := rfl
theorem stepL_len (l : List ByteArray) (e : EventD) : (stepL l e).length ≤ l.length + 1 := by
  unfold stepL
  split
  · rw [List.length_append]; exact Nat.le_refl _
  · split
    · exact Nat.le_succ_of_le (List.length_filter_le ..)
    · omega
theorem foldL_len : ∀ (es : List EventD) (l : List ByteArray), (es.foldl stepL l).length ≤ l.length + es.length
  | [], l => Nat.le_refl _
  | e :: es, l => by
    have h1 := foldL_len es (stepL l e)
    have h2 := stepL_len l e
    rw [List.foldl_cons, List.length_cons]
    omega
theorem liveR_len (es : List EventD) : (liveR es).length ≤ es.length := by
  have := foldL_len es []
  rw [List.length_nil, Nat.zero_add] at this
  exact this
theorem liveR_take {es : List EventD} {i : Nat} (h : i < es.length) : liveR (es.take (i + 1)) = stepL (liveR (es.take i)) es[i] := by
  unfold liveR
  rw [List.take_succ_eq_append_getElem h, List.foldl_append]
  rfl
theorem live_go : ∀ (es : List EventD) (l : List ByteArray), es.foldl stepL l = l.filter (fun n => decide (((1 : Int), n, ()) ∉ es)) ++ goL es
  | [], l => by
    show l = l.filter _ ++ []
    rw [List.filter_eq_self.2 fun a _ => decide_eq_true List.not_mem_nil, List.append_nil]
  | (ek, en, eu) :: es, l => by
    rw [List.foldl_cons, live_go es, goL_cons]
    unfold stepL
    dsimp only
    by_cases h0 : ek = 0
    · subst h0
      rw [if_pos rfl, List.filter_append]
      have h1 : ∀ n : ByteArray, ((1 : Int), n, ()) ∉ ((0 : Int), en, eu) :: es ↔ ((1 : Int), n, ()) ∉ es := fun n => by simp
      simp only [h1]
      rw [List.append_assoc]
      congr 1
      rw [List.filter_cons, List.filter_nil]
      by_cases hq : ((1 : Int), en, ()) ∉ es
      · rw [if_pos (decide_eq_true hq), if_pos ⟨trivial, hq⟩]
      · rw [if_neg (by rw [decide_eq_false hq]; decide), if_neg fun h => hq h.2]
    · rw [if_neg h0, if_neg (c := ek = 0 ∧ ((1 : Int), en, ()) ∉ es) fun h => h0 h.1, List.nil_append]
      congr 1
      by_cases h1 : ek = 1
      · subst h1
        rw [if_pos rfl, List.filter_filter]
        refine List.filter_congr fun n _ => ?_
        rw [Bool.eq_iff_iff, Bool.and_eq_true, decide_eq_true_eq, decide_eq_true_eq, decide_eq_true_eq]
        simp only [List.mem_cons, List.not_mem_nil, or_false, Prod.mk.injEq, true_and, and_true, not_or]
        exact And.comm
      · rw [if_neg h1]
        refine List.filter_congr fun n _ => ?_
        have : ((1 : Int), n, ()) ∉ (ek, en, eu) :: es ↔ ((1 : Int), n, ()) ∉ es := by
          simp only [List.mem_cons, Prod.mk.injEq, not_or, and_iff_right_iff_imp]
          exact fun _ h => h1 h.1.symm
        simp only [this]
theorem live_eq (es : List EventD) : liveR es = goL es := by
  have := live_go es []
  simpa [liveR] using this
theorem goL_drop {es : List EventD} {i : Nat} (h : i < es.length) : goL (es.drop i) = (if (es[i]).1 = 0 ∧ ((1 : Int), (es[i]).2.1, ()) ∉ es.drop i then [(es[i]).2.1] else []) ++ goL (es.drop (i + 1)) := by
  rw [List.drop_eq_getElem_cons h]
  show (if (es[i]).1 = 0 ∧ _ then _ else _) ++ _ = _
  congr 1
  by_cases h0 : (es[i]).1 = 0
  · have h1 : ((1 : Int), (es[i]).2.1, ()) ∉ es[i] :: es.drop (i + 1) ↔ ((1 : Int), (es[i]).2.1, ()) ∉ es.drop (i + 1) := by
      rw [List.mem_cons, not_or]
      refine and_iff_right fun h => ?_
      have := congrArg (·.1) h
      rw [h0] at this
      cases this
    simp only [h1]
  · rw [if_neg fun h => h0 h.1, if_neg fun h => h0 h.1]
noncomputable def liveA (es : List EventD) (k : Int) : List ByteArray := if 0 ≤ k ∧ k ≤ es.length then liveR (es.take k.toNat) else []

theorem spec_liveAfter_c (A : View) (v : Value) (es : List EventD) (h : Sl eventS A v es) (hl : es.length ≤ 1048576) : ACalls Try.prog 67 #[v] A fun r V => NewSl 9 strO A r V (liveR es) := by
  obtain ⟨a, c, rfl, _, _⟩ := h.slice
  refine acalls Try.func67 rfl (by kernel_rfl) ?_
  simp (disch := omega) only [↓stq, amv_at, vls, inf, frs, mark_eq, ↓reduceIte, Nat.reduceEqDiff, ite_tt, ite_ff, eq_self, and_true, true_and, and_self, implies_true, Bool.true_eq_false, Bool.false_eq_true, decide_true, decide_false, decide_eq_true_eq, decide_eq_false_iff_not, ne_eq, not_true_eq_false, not_false_eq_true, Bool.not_eq_true', Bool.not_eq_false', beq_self_eq_true, Bool.not_true, Bool.not_false, List.getElem?_toArray, List.getElem?_cons_zero, List.getElem?_cons_succ]
  refine led_lit0 (O := strO) li31 (Led.nil A) fun b V _ l => ?_
  simp (disch := omega) only [↓stq, amv_at, vls, inf, frs, mark_eq, ↓reduceIte, Nat.reduceEqDiff, ite_tt, ite_ff, eq_self, and_true, true_and, and_self, implies_true, Bool.true_eq_false, Bool.false_eq_true, decide_true, decide_false, decide_eq_true_eq, decide_eq_false_iff_not, ne_eq, not_true_eq_false, not_false_eq_true, Bool.not_eq_true', Bool.not_eq_false', beq_self_eq_true, Bool.not_true, Bool.not_false, List.getElem?_toArray, List.getElem?_cons_zero, List.getElem?_cons_succ]
  refine aloop (fun d fr V => ∃ (i : Nat) (fp : List Nat) (w : Value), i ≤ es.length ∧ d = es.length - i ∧ Led A [osl 9 strO fp w (liveR (es.take i))] V ∧ fr 0 = .slice a es.length c ∧ fr 3 = w ∧ fr 4 = .int .i64 i) es.length ⟨0, _, _, by omega, by omega, l, by rfl, by rfl, by rfl⟩ ?_
  clear l
  rintro d fr V ⟨i, fp, w, hi, rfl, l, h0, h3, h4⟩
  simp (disch := omega) only [↓stq, amv_at, vls, inf, frs, mark_eq, ↓reduceIte, Nat.reduceEqDiff, ite_tt, ite_ff, eq_self, and_true, true_and, and_self, implies_true, Bool.true_eq_false, Bool.false_eq_true, decide_true, decide_false, decide_eq_true_eq, decide_eq_false_iff_not, ne_eq, not_true_eq_false, not_false_eq_true, Bool.not_eq_true', Bool.not_eq_false', beq_self_eq_true, Bool.not_true, Bool.not_false, List.getElem?_toArray, List.getElem?_cons_zero, List.getElem?_cons_succ, h0, h3, h4]
  refine ⟨fun e1 => ?_, fun e1 => ?_⟩
  · have hlt : i < es.length := by omega
    have htk := liveR_take hlt
    have hll := liveR_len (es.take i)
    rw [List.length_take] at hll
    unfold stepL at htk
    obtain ⟨ad, rfl, hclA, r1, z1⟩ := h.event hlt
    have hcl := l.ext.part hclA
    have k0 := View.part_cell hcl (j := 0) rfl
    have k1 := View.part_cell hcl (j := 1) rfl
    simp (disch := omega) only [↓stq, amv_at, vls, inf, frs, mark_eq, ↓reduceIte, Nat.reduceEqDiff, ite_tt, ite_ff, eq_self, and_true, true_and, and_self, implies_true, Bool.true_eq_false, Bool.false_eq_true, decide_true, decide_false, decide_eq_true_eq, decide_eq_false_iff_not, ne_eq, not_true_eq_false, not_false_eq_true, Bool.not_eq_true', Bool.not_eq_false', beq_self_eq_true, Bool.not_true, Bool.not_false, List.getElem?_toArray, List.getElem?_cons_zero, List.getElem?_cons_succ, h0, h3, h4, k0]
    refine ⟨fun e2 => ?_, fun e2 => ?_⟩ <;> simp (disch := omega) only [↓stq, amv_at, vls, inf, frs, mark_eq, ↓reduceIte, Nat.reduceEqDiff, ite_tt, ite_ff, eq_self, and_true, true_and, and_self, implies_true, Bool.true_eq_false, Bool.false_eq_true, decide_true, decide_false, decide_eq_true_eq, decide_eq_false_iff_not, ne_eq, not_true_eq_false, not_false_eq_true, Bool.not_eq_true', Bool.not_eq_false', beq_self_eq_true, Bool.not_true, Bool.not_false, List.getElem?_toArray, List.getElem?_cons_zero, List.getElem?_cons_succ, h0, h3, h4, k1]
    · refine led_lit li31 (by omega) rfl (by simp [Value.cells, Value.oneCell']) l fun bl V _ l => ?_
      simp (disch := omega) only [↓stq, amv_at, vls, inf, frs, mark_eq, ↓reduceIte, Nat.reduceEqDiff, ite_tt, ite_ff, eq_self, and_true, true_and, and_self, implies_true, Bool.true_eq_false, Bool.false_eq_true, decide_true, decide_false, decide_eq_true_eq, decide_eq_false_iff_not, ne_eq, not_true_eq_false, not_false_eq_true, Bool.not_eq_true', Bool.not_eq_false', beq_self_eq_true, Bool.not_true, Bool.not_false, List.getElem?_toArray, List.getElem?_cons_zero, List.getElem?_cons_succ, h0, h3, h4]
      refine led_app (O := strO) ap31_31 (by decide) l (i := 1) rfl (l.src1 (S := strS) (j := 0) rfl ⟨rfl, z1⟩) (by rw [List.length_singleton]; omega) fun fp2 w2 V4 _ l => ?_
      simp (disch := omega) only [↓stq, amv_at, vls, inf, frs, mark_eq, ↓reduceIte, Nat.reduceEqDiff, ite_tt, ite_ff, eq_self, and_true, true_and, and_self, implies_true, Bool.true_eq_false, Bool.false_eq_true, decide_true, decide_false, decide_eq_true_eq, decide_eq_false_iff_not, ne_eq, not_true_eq_false, not_false_eq_true, Bool.not_eq_true', Bool.not_eq_false', beq_self_eq_true, Bool.not_true, Bool.not_false, List.getElem?_toArray, List.getElem?_cons_zero, List.getElem?_cons_succ, h0, h3, h4]
      rw [if_pos e2] at htk
      exact ⟨_, by omega, i + 1, fp2, w2, by omega, rfl, by rw [htk]; exact l.tail, rfl, rfl⟩
    · rw [if_neg e2] at htk
      refine ⟨fun e3 => ?_, fun e3 => ?_⟩ <;> simp (disch := omega) only [↓stq, amv_at, vls, inf, frs, mark_eq, ↓reduceIte, Nat.reduceEqDiff, ite_tt, ite_ff, eq_self, and_true, true_and, and_self, implies_true, Bool.true_eq_false, Bool.false_eq_true, decide_true, decide_false, decide_eq_true_eq, decide_eq_false_iff_not, ne_eq, not_true_eq_false, not_false_eq_true, Bool.not_eq_true', Bool.not_eq_false', beq_self_eq_true, Bool.not_true, Bool.not_false, List.getElem?_toArray, List.getElem?_cons_zero, List.getElem?_cons_succ, h0, h3, h4, k1]
      · refine led_lit li31 (by omega) rfl (by simp [Value.cells, Value.oneCell']) l fun bl V _ l => ?_
        simp (disch := omega) only [↓stq, amv_at, vls, inf, frs, mark_eq, ↓reduceIte, Nat.reduceEqDiff, ite_tt, ite_ff, eq_self, and_true, true_and, and_self, implies_true, Bool.true_eq_false, Bool.false_eq_true, decide_true, decide_false, decide_eq_true_eq, decide_eq_false_iff_not, ne_eq, not_true_eq_false, not_false_eq_true, Bool.not_eq_true', Bool.not_eq_false', beq_self_eq_true, Bool.not_true, Bool.not_false, List.getElem?_toArray, List.getElem?_cons_zero, List.getElem?_cons_succ, h0, h3, h4]
        have hsl : Sl strS V (.slice (some ⟨bl, 0, none⟩) 1 1) [(es[i]).2.1] := lit_sl (l.at (i := 0) rfl) (Nat.le_refl 1) (by simp) (elems_str _ (by simpa using z1))
        refine (spec_without_c V _ _ _ [(es[i]).2.1] (OSl.toS (l.at (i := 1) rfl)) hsl (by omega)).mono ?_
        rintro r V2 ⟨fp2, l2⟩
        replace l := l.append l2
        simp (disch := omega) only [↓stq, amv_at, vls, inf, frs, mark_eq, ↓reduceIte, Nat.reduceEqDiff, ite_tt, ite_ff, eq_self, and_true, true_and, and_self, implies_true, Bool.true_eq_false, Bool.false_eq_true, decide_true, decide_false, decide_eq_true_eq, decide_eq_false_iff_not, ne_eq, not_true_eq_false, not_false_eq_true, Bool.not_eq_true', Bool.not_eq_false', beq_self_eq_true, Bool.not_true, Bool.not_false, List.getElem?_toArray, List.getElem?_cons_zero, List.getElem?_cons_succ, h0, h3, h4]
        rw [if_pos e3] at htk
        exact ⟨_, by omega, i + 1, fp2, r, by omega, rfl, by rw [htk]; exact l.sub (.cons_cons _ (List.nil_sublist _)), rfl, rfl⟩
      · rw [if_neg e3] at htk
        exact ⟨_, by omega, i + 1, fp, w, by omega, rfl, by rw [htk]; exact l, rfl, rfl⟩
  · simp (disch := omega) only [↓stq, amv_at, vls, inf, frs, mark_eq, ↓reduceIte, Nat.reduceEqDiff, ite_tt, ite_ff, eq_self, and_true, true_and, and_self, implies_true, Bool.true_eq_false, Bool.false_eq_true, decide_true, decide_false, decide_eq_true_eq, decide_eq_false_iff_not, ne_eq, not_true_eq_false, not_false_eq_true, Bool.not_eq_true', Bool.not_eq_false', beq_self_eq_true, Bool.not_true, Bool.not_false, List.getElem?_toArray, List.getElem?_cons_zero, List.getElem?_cons_succ, h0, h3, h4]
    rw [List.take_of_length_le (by omega)] at l
    exact NewSl.of l (i := 0) rfl

theorem eqEv (a a' : Int) (b b' : ByteArray) {A : View} {K : Value → View → Prop} (x y : Operand) : abin Try.prog .eql 55 x y (.agg #[.int .i64 a, .string b]) (.agg #[.int .i64 a', .string b']) A K = K (.bool (decide (a = a') && (decide (b = b') && true))) A :=
  (abin_neStruct (by kernel_rfl) (by kernel_rfl) (by kernel_rfl) (by kernel_rfl) x y).2
theorem ev_same {x y : EventD} : (decide (x.1 = y.1) && (decide (x.2.1 = y.2.1) && true)) = decide (x = y) := by
  obtain ⟨a, b, _⟩ := x
  obtain ⟨a', b', _⟩ := y
  rw [Bool.eq_iff_iff]
  simp

theorem index_ev_c (A : View) (v : Value) (es : List EventD) (e : EventD) (h : Sl eventS A v es) (he1 : -9223372036854775808 ≤ e.1 ∧ e.1 < 9223372036854775808) : ACalls Try.prog 112 #[v, .agg #[.int .i64 e.1, .string e.2.1]] A fun r V => (∃ k : Int, r = .int .i64 k ∧ (0 ≤ k ↔ e ∈ es) ∧ -1 ≤ k) ∧ Ext A V := by
  obtain ⟨a, c, rfl, _, hle⟩ := h.slice
  refine acalls Try.func112 rfl (by kernel_rfl) ?_
  simp (disch := omega) only [↓stq, amv_at, vls, inf, frs, mark_eq, ↓reduceIte, Nat.reduceEqDiff, ite_tt, ite_ff, eq_self, and_true, true_and, and_self, implies_true, Bool.true_eq_false, Bool.false_eq_true, decide_true, decide_false, decide_eq_true_eq, decide_eq_false_iff_not, ne_eq, not_true_eq_false, not_false_eq_true, Bool.not_eq_true', Bool.not_eq_false', beq_self_eq_true, Bool.not_true, Bool.not_false, List.getElem?_toArray, List.getElem?_cons_zero, List.getElem?_cons_succ]
  refine led_box (Led.nil A) rfl fun q V _ l => ?_
  simp (disch := omega) only [↓stq, amv_at, vls, inf, frs, mark_eq, ↓reduceIte, Nat.reduceEqDiff, ite_tt, ite_ff, eq_self, and_true, true_and, and_self, implies_true, Bool.true_eq_false, Bool.false_eq_true, decide_true, decide_false, decide_eq_true_eq, decide_eq_false_iff_not, ne_eq, not_true_eq_false, not_false_eq_true, Bool.not_eq_true', Bool.not_eq_false', beq_self_eq_true, Bool.not_true, Bool.not_false, List.getElem?_toArray, List.getElem?_cons_zero, List.getElem?_cons_succ]
  refine aloop (fun d fr V => ∃ i : Nat, i ≤ es.length ∧ d = es.length - i ∧ Led A [bx q ⟨55, [.int .i64 e.1, .string e.2.1], 2, true⟩] V ∧ (∀ j (hj : j < es.length), j < i → e ≠ es[j]) ∧ fr 0 = .slice a es.length c ∧ fr 3 = .pointer (some ⟨q, 0, none⟩) ∧ fr 7 = .int .i64 es.length ∧ fr 8 = .int .i64 i) es.length ⟨0, by omega, by omega, l, fun j hj h => absurd h (Nat.not_lt_zero _), by rfl, by rfl, by rfl, by rfl⟩ ?_
  clear l
  rintro d fr V ⟨i, hi, rfl, l, hno, h0, h3, h7, h8⟩
  simp (disch := omega) only [↓stq, amv_at, vls, inf, frs, mark_eq, ↓reduceIte, Nat.reduceEqDiff, ite_tt, ite_ff, eq_self, and_true, true_and, and_self, implies_true, Bool.true_eq_false, Bool.false_eq_true, decide_true, decide_false, decide_eq_true_eq, decide_eq_false_iff_not, ne_eq, not_true_eq_false, not_false_eq_true, Bool.not_eq_true', Bool.not_eq_false', beq_self_eq_true, Bool.not_true, Bool.not_false, List.getElem?_toArray, List.getElem?_cons_zero, List.getElem?_cons_succ, h0, h3, h7, h8]
  refine ⟨fun e1 => ?_, fun e1 => ?_⟩
  · have hlt : i < es.length := by omega
    obtain ⟨ad, rfl, hclA, r1, z1⟩ := h.event hlt
    have hcl := l.ext.part hclA
    have kp : V.part ⟨q, 0, none⟩ 2 = some [.int .i64 e.1, .string e.2.1] := l.part (i := 0) rfl rfl
    simp (disch := omega) only [↓stq, amv_at, vls, inf, frs, mark_eq, ↓reduceIte, Nat.reduceEqDiff, ite_tt, ite_ff, eq_self, and_true, true_and, and_self, implies_true, Bool.true_eq_false, Bool.false_eq_true, decide_true, decide_false, decide_eq_true_eq, decide_eq_false_iff_not, ne_eq, not_true_eq_false, not_false_eq_true, Bool.not_eq_true', Bool.not_eq_false', beq_self_eq_true, Bool.not_true, Bool.not_false, List.getElem?_toArray, List.getElem?_cons_zero, List.getElem?_cons_succ, h0, h3, h7, h8]
    refine adraw_items [.l 0 false, .q 1, .q 2, .q 3, .l 4 false, .q 5] (by kernel_rfl) (by kernel_rfl) ?_
    simp (disch := omega) only [↓stq, amv_at, ↓pln, plv, nilOk, Nat.reduceBEq, Bool.or_false, Bool.or_true, Bool.false_or, Bool.true_or, vls, inf, frs, mark_eq, ↓reduceIte, Nat.reduceEqDiff, ite_tt, ite_ff, eq_self, and_true, true_and, and_self, implies_true, Bool.true_eq_false, Bool.false_eq_true, decide_true, decide_false, decide_eq_true_eq, decide_eq_false_iff_not, ne_eq, not_true_eq_false, not_false_eq_true, Bool.not_eq_true', Bool.not_eq_false', beq_self_eq_true, Bool.not_true, Bool.not_false, List.getElem?_toArray, List.getElem?_cons_zero, List.getElem?_cons_succ, h0, h3, h7, h8, kp, hcl, eqEv]
    rw [ev_same]
    refine ⟨fun e2 => ?_, fun e2 => ?_⟩ <;> simp (disch := omega) only [↓stq, amv_at, vls, inf, frs, mark_eq, ↓reduceIte, Nat.reduceEqDiff, ite_tt, ite_ff, eq_self, and_true, true_and, and_self, implies_true, Bool.true_eq_false, Bool.false_eq_true, decide_true, decide_false, decide_eq_true_eq, decide_eq_false_iff_not, ne_eq, not_true_eq_false, not_false_eq_true, Bool.not_eq_true', Bool.not_eq_false', beq_self_eq_true, Bool.not_true, Bool.not_false, List.getElem?_toArray, List.getElem?_cons_zero, List.getElem?_cons_succ, h0, h3, h7, h8]
    · have e2 : e = es[i] := by simpa using e2
      exact ⟨⟨(i : Int), rfl, ⟨fun _ => e2 ▸ List.getElem_mem hlt, fun _ => by omega⟩, by omega⟩, l.ext⟩
    · have e2 : e ≠ es[i] := by simpa using e2
      refine ⟨_, by omega, i + 1, by omega, rfl, l, fun j hj h => ?_, rfl⟩
      rcases Nat.lt_succ_iff_lt_or_eq.1 h with h | rfl
      · exact hno j hj h
      · exact e2
  · simp (disch := omega) only [↓stq, amv_at, vls, inf, frs, mark_eq, ↓reduceIte, Nat.reduceEqDiff, ite_tt, ite_ff, eq_self, and_true, true_and, and_self, implies_true, Bool.true_eq_false, Bool.false_eq_true, decide_true, decide_false, decide_eq_true_eq, decide_eq_false_iff_not, ne_eq, not_true_eq_false, not_false_eq_true, Bool.not_eq_true', Bool.not_eq_false', beq_self_eq_true, Bool.not_true, Bool.not_false, List.getElem?_toArray, List.getElem?_cons_zero, List.getElem?_cons_succ, h0, h3, h7, h8]
    refine ⟨⟨-1, rfl, ⟨fun h => absurd h (by omega), fun h => ?_⟩, by omega⟩, l.ext⟩
    obtain ⟨j, hj, hq⟩ := List.mem_iff_getElem.1 h
    exact absurd hq.symm (hno j hj (by omega))

theorem contains_ev_c (A : View) (v : Value) (es : List EventD) (e : EventD) (h : Sl eventS A v es) (he1 : -9223372036854775808 ≤ e.1 ∧ e.1 < 9223372036854775808) : ACalls Try.prog 68 #[v, .agg #[.int .i64 e.1, .string e.2.1]] A fun r V => (∃ b : Bool, r = .bool b ∧ (b = true ↔ e ∈ es)) ∧ Ext A V := by
  refine acalls Try.func68 rfl (by kernel_rfl) ?_
  simp (disch := omega) only [↓stq, amv_at, vls, inf, frs, mark_eq, ↓reduceIte, Nat.reduceEqDiff, ite_tt, ite_ff, eq_self, and_true, true_and, and_self, implies_true, Bool.true_eq_false, Bool.false_eq_true, decide_true, decide_false, decide_eq_true_eq, decide_eq_false_iff_not, ne_eq, not_true_eq_false, not_false_eq_true, Bool.not_eq_true', Bool.not_eq_false', beq_self_eq_true, Bool.not_true, Bool.not_false, List.getElem?_toArray, List.getElem?_cons_zero, List.getElem?_cons_succ]
  refine led_box (Led.nil A) rfl fun q V _ l => ?_
  have kp : V.part ⟨q, 0, none⟩ 2 = some [.int .i64 e.1, .string e.2.1] := l.part (i := 0) rfl rfl
  simp (disch := omega) only [↓stq, amv_at, vls, inf, frs, mark_eq, ↓reduceIte, Nat.reduceEqDiff, ite_tt, ite_ff, eq_self, and_true, true_and, and_self, implies_true, Bool.true_eq_false, Bool.false_eq_true, decide_true, decide_false, decide_eq_true_eq, decide_eq_false_iff_not, ne_eq, not_true_eq_false, not_false_eq_true, Bool.not_eq_true', Bool.not_eq_false', beq_self_eq_true, Bool.not_true, Bool.not_false, List.getElem?_toArray, List.getElem?_cons_zero, List.getElem?_cons_succ, kp]
  refine (index_ev_c V _ es e (h.mono l.ext) he1).mono ?_
  rintro _ V2 ⟨⟨k, rfl, hk, _⟩, he⟩
  simp (disch := omega) only [↓stq, amv_at, vls, inf, frs, mark_eq, ↓reduceIte, Nat.reduceEqDiff, ite_tt, ite_ff, eq_self, and_true, true_and, and_self, implies_true, Bool.true_eq_false, Bool.false_eq_true, decide_true, decide_false, decide_eq_true_eq, decide_eq_false_iff_not, ne_eq, not_true_eq_false, not_false_eq_true, Bool.not_eq_true', Bool.not_eq_false', beq_self_eq_true, Bool.not_true, Bool.not_false, List.getElem?_toArray, List.getElem?_cons_zero, List.getElem?_cons_succ]
  exact ⟨⟨_, rfl, by rw [decide_eq_true_eq]; exact hk⟩, l.ext.trans he⟩

theorem impl_LiveAfter_c (A : View) (v : Value) (es : List EventD) (k : Int) (h : Sl eventS A v es) (hl : es.length ≤ 1048576) : ACalls Try.prog 29 #[v, .int .i64 k] A fun r V => NewSl 9 strO A r V (liveA es k) := by
  obtain ⟨a, c, rfl, hc, _⟩ := h.slice
  by_cases hk : 0 ≤ k ∧ k ≤ es.length
  · obtain ⟨k, rfl⟩ := Int.eq_ofNat_of_zero_le hk.1
    have hkl : k ≤ es.length := by omega
    have hp : liveA es (k : Int) = goL (es.take k) := by
      unfold liveA
      rw [if_pos hk, live_eq]
      rfl
    rw [hp]
    have g1 : ¬ (k : Int) < 0 := by omega
    have g2 : ¬ (k : Int) > es.length := by omega
    have hT := h.take (k := k) hkl 2
    have hTl : (es.take k).length = k := by rw [List.length_take]; omega
    have hdr : ∀ i, i ≤ k → Sl eventS A (.slice (cutAddr a i c 2) (k - i) (c - i)) ((es.take k).drop i) := fun i hi => by
      have := h.mid (k := i) (m := k - i) (by omega)
      rw [List.drop_take]
      exact this
    generalize es.take k = ts at hT hTl hdr
    refine acalls Try.func29 rfl (by kernel_rfl) ?_
    simp (disch := omega) only [↓stq, amv_at, vls, inf, frs, mark_eq, ↓reduceIte, Nat.reduceEqDiff, ite_tt, ite_ff, eq_self, and_true, true_and, and_self, implies_true, Bool.true_eq_false, Bool.false_eq_true, decide_true, decide_false, decide_eq_true_eq, decide_eq_false_iff_not, ne_eq, not_true_eq_false, not_false_eq_true, Bool.not_eq_true', Bool.not_eq_false', beq_self_eq_true, Bool.not_true, Bool.not_false, List.getElem?_toArray, List.getElem?_cons_zero, List.getElem?_cons_succ]
    refine ⟨fun e => ?_, fun e => by omega⟩
    simp (disch := omega) only [↓stq, amv_at, vls, inf, frs, mark_eq, ↓reduceIte, Nat.reduceEqDiff, ite_tt, ite_ff, eq_self, and_true, true_and, and_self, implies_true, Bool.true_eq_false, Bool.false_eq_true, decide_true, decide_false, decide_eq_true_eq, decide_eq_false_iff_not, ne_eq, not_true_eq_false, not_false_eq_true, Bool.not_eq_true', Bool.not_eq_false', beq_self_eq_true, Bool.not_true, Bool.not_false, List.getElem?_toArray, List.getElem?_cons_zero, List.getElem?_cons_succ, e]
    refine ⟨fun e2 => by omega, fun e2 => ?_⟩
    simp (disch := omega) only [↓stq, amv_at, vls, inf, frs, mark_eq, ↓reduceIte, Nat.reduceEqDiff, ite_tt, ite_ff, eq_self, and_true, true_and, and_self, implies_true, Bool.true_eq_false, Bool.false_eq_true, decide_true, decide_false, decide_eq_true_eq, decide_eq_false_iff_not, ne_eq, not_true_eq_false, not_false_eq_true, Bool.not_eq_true', Bool.not_eq_false', beq_self_eq_true, Bool.not_true, Bool.not_false, List.getElem?_toArray, List.getElem?_cons_zero, List.getElem?_cons_succ]
    refine led_lit0 (O := strO) li31 (Led.nil A) fun b V _ l => ?_
    simp (disch := omega) only [↓stq, amv_at, vls, inf, frs, mark_eq, ↓reduceIte, Nat.reduceEqDiff, ite_tt, ite_ff, eq_self, and_true, true_and, and_self, implies_true, Bool.true_eq_false, Bool.false_eq_true, decide_true, decide_false, decide_eq_true_eq, decide_eq_false_iff_not, ne_eq, not_true_eq_false, not_false_eq_true, Bool.not_eq_true', Bool.not_eq_false', beq_self_eq_true, Bool.not_true, Bool.not_false, List.getElem?_toArray, List.getElem?_cons_zero, List.getElem?_cons_succ]
    refine aloop (fun d fr V => ∃ (i : Nat) (fp : List Nat) (w : Value) (out : List ByteArray), i ≤ k ∧ d = k - i ∧ Led A [osl 9 strO fp w out] V ∧ out ++ goL (ts.drop i) = goL ts ∧ out.length ≤ i ∧ fr 0 = .slice a es.length c ∧ fr 1 = .int .i64 k ∧ fr 5 = w ∧ fr 19 = .slice (cutAddr a 0 c 2) k c ∧ fr 20 = .int .i64 k ∧ fr 21 = .int .i64 i) k ⟨0, _, _, [], by omega, by omega, l, by simp, by simp, by rfl, by rfl, by rfl, by rfl, by rfl, by rfl⟩ ?_
    clear l
    rintro d fr V ⟨i, fp, w, out, hi, rfl, l, hgo, hol, h0, h1, h5, h19, h20, h21⟩
    simp (disch := omega) only [↓stq, amv_at, vls, inf, frs, mark_eq, ↓reduceIte, Nat.reduceEqDiff, ite_tt, ite_ff, eq_self, and_true, true_and, and_self, implies_true, Bool.true_eq_false, Bool.false_eq_true, decide_true, decide_false, decide_eq_true_eq, decide_eq_false_iff_not, ne_eq, not_true_eq_false, not_false_eq_true, Bool.not_eq_true', Bool.not_eq_false', beq_self_eq_true, Bool.not_true, Bool.not_false, List.getElem?_toArray, List.getElem?_cons_zero, List.getElem?_cons_succ, h0, h1, h5, h19, h20, h21]
    refine ⟨fun e3 => ?_, fun e3 => ?_⟩
    · have hlt : i < ts.length := by omega
      have hgd := goL_drop hlt
      obtain ⟨ad, hq, hclA, r1, z1⟩ := hT.event hlt
      have hcl := l.ext.part hclA
      simp (disch := omega) only [↓stq, amv_at, vls, inf, frs, mark_eq, ↓reduceIte, Nat.reduceEqDiff, ite_tt, ite_ff, eq_self, and_true, true_and, and_self, implies_true, Bool.true_eq_false, Bool.false_eq_true, decide_true, decide_false, decide_eq_true_eq, decide_eq_false_iff_not, ne_eq, not_true_eq_false, not_false_eq_true, Bool.not_eq_true', Bool.not_eq_false', beq_self_eq_true, Bool.not_true, Bool.not_false, List.getElem?_toArray, List.getElem?_cons_zero, List.getElem?_cons_succ, h0, h1, h5, h19, h20, h21, hq, hcl]
      refine led_alloc zc55 l fun q7 V _ l => ?_
      simp (disch := omega) only [↓stq, amv_at, vls, inf, frs, mark_eq, ↓reduceIte, Nat.reduceEqDiff, ite_tt, ite_ff, eq_self, and_true, true_and, and_self, implies_true, Bool.true_eq_false, Bool.false_eq_true, decide_true, decide_false, decide_eq_true_eq, decide_eq_false_iff_not, ne_eq, not_true_eq_false, not_false_eq_true, Bool.not_eq_true', Bool.not_eq_false', beq_self_eq_true, Bool.not_true, Bool.not_false, List.getElem?_toArray, List.getElem?_cons_zero, List.getElem?_cons_succ, h0, h1, h5, h19, h20, h21]
      refine led_storeAll l 0 rfl sz55 rfl rfl (by simp [Value.oneCell']) fun V l => ?_
      have m0 := l.cell (i := 0) rfl (o := 0) rfl rfl
      have m1 := l.cell (i := 0) rfl (o := 1) rfl rfl
      simp (disch := omega) only [↓stq, amv_at, vls, inf, frs, mark_eq, ↓reduceIte, Nat.reduceEqDiff, ite_tt, ite_ff, eq_self, and_true, true_and, and_self, implies_true, Bool.true_eq_false, Bool.false_eq_true, decide_true, decide_false, decide_eq_true_eq, decide_eq_false_iff_not, ne_eq, not_true_eq_false, not_false_eq_true, Bool.not_eq_true', Bool.not_eq_false', beq_self_eq_true, Bool.not_true, Bool.not_false, List.getElem?_toArray, List.getElem?_cons_zero, List.getElem?_cons_succ, h0, h1, h5, h19, h20, h21]
      refine adraw_items [.q 0, .l 1 false, .q 2, .q 3, .q 4, .q 5, .q 6, .q 7, .q 8, .l 9 false, .q 10, .c 11 [], .q 12, .q 13] (by kernel_rfl) (by kernel_rfl) ?_
      simp (disch := omega) only [↓stq, amv_at, ↓pln, plv, nilOk, Nat.reduceBEq, Bool.or_false, Bool.or_true, Bool.false_or, Bool.true_or, vls, inf, frs, mark_eq, ↓reduceIte, Nat.reduceEqDiff, ite_tt, ite_ff, eq_self, and_true, true_and, and_self, implies_true, Bool.true_eq_false, Bool.false_eq_true, decide_true, decide_false, decide_eq_true_eq, decide_eq_false_iff_not, ne_eq, not_true_eq_false, not_false_eq_true, Bool.not_eq_true', Bool.not_eq_false', beq_self_eq_true, Bool.not_true, Bool.not_false, List.getElem?_toArray, List.getElem?_cons_zero, List.getElem?_cons_succ, h0, h1, h5, h19, h20, h21, add_at, m0, m1]
      refine ⟨fun e4 => ?_, fun e4 => ?_⟩
      · simp (disch := omega) only [↓stq, amv_at, ↓pln, plv, nilOk, Nat.reduceBEq, Bool.or_false, Bool.or_true, Bool.false_or, Bool.true_or, vls, inf, frs, mark_eq, ↓reduceIte, Nat.reduceEqDiff, ite_tt, ite_ff, eq_self, and_true, true_and, and_self, implies_true, Bool.true_eq_false, Bool.false_eq_true, decide_true, decide_false, decide_eq_true_eq, decide_eq_false_iff_not, ne_eq, not_true_eq_false, not_false_eq_true, Bool.not_eq_true', Bool.not_eq_false', beq_self_eq_true, Bool.not_true, Bool.not_false, List.getElem?_toArray, List.getElem?_cons_zero, List.getElem?_cons_succ, h0, h1, h5, h19, h20, h21, e4, add_at, m0, m1]
        refine (contains_ev_c V _ (ts.drop i) (1, (ts[i]).2.1, ()) ((hdr i (by omega)).mono l.ext) (by show (_ : Int) ≤ 1 ∧ (1 : Int) < _; omega)).mono ?_
        rintro _ V2 ⟨⟨b, rfl, hb⟩, he⟩
        replace l := l.step he
        have m0 := l.cell (i := 0) rfl (o := 0) rfl rfl
        have m1 := l.cell (i := 0) rfl (o := 1) rfl rfl
        cases b with
        | false =>
          simp (disch := omega) only [↓stq, amv_at, ↓pln, plv, nilOk, Nat.reduceBEq, Bool.or_false, Bool.or_true, Bool.false_or, Bool.true_or, vls, inf, frs, mark_eq, ↓reduceIte, Nat.reduceEqDiff, ite_tt, ite_ff, eq_self, and_true, true_and, and_self, implies_true, Bool.true_eq_false, Bool.false_eq_true, decide_true, decide_false, decide_eq_true_eq, decide_eq_false_iff_not, ne_eq, not_true_eq_false, not_false_eq_true, Bool.not_eq_true', Bool.not_eq_false', beq_self_eq_true, Bool.not_true, Bool.not_false, List.getElem?_toArray, List.getElem?_cons_zero, List.getElem?_cons_succ, h0, h1, h5, h19, h20, h21, e4, add_at, m0, m1]
          have hn : ((1 : Int), (ts[i]).2.1, ()) ∉ ts.drop i := fun h => by
            have := hb.2 h
            cases this
          rw [if_pos ⟨e4, hn⟩] at hgd
          simp (disch := omega) only [↓stq, amv_at, vls, inf, frs, mark_eq, ↓reduceIte, Nat.reduceEqDiff, ite_tt, ite_ff, eq_self, and_true, true_and, and_self, implies_true, Bool.true_eq_false, Bool.false_eq_true, decide_true, decide_false, decide_eq_true_eq, decide_eq_false_iff_not, ne_eq, not_true_eq_false, not_false_eq_true, Bool.not_eq_true', Bool.not_eq_false', beq_self_eq_true, Bool.not_true, Bool.not_false, List.getElem?_toArray, List.getElem?_cons_zero, List.getElem?_cons_succ, h0, h1, h5, h19, h20, h21, add_at, m1]
          refine led_lit li31 (by omega) rfl (by simp [Value.cells, Value.oneCell']) l fun bl V _ l => ?_
          simp (disch := omega) only [↓stq, amv_at, vls, inf, frs, mark_eq, ↓reduceIte, Nat.reduceEqDiff, ite_tt, ite_ff, eq_self, and_true, true_and, and_self, implies_true, Bool.true_eq_false, Bool.false_eq_true, decide_true, decide_false, decide_eq_true_eq, decide_eq_false_iff_not, ne_eq, not_true_eq_false, not_false_eq_true, Bool.not_eq_true', Bool.not_eq_false', beq_self_eq_true, Bool.not_true, Bool.not_false, List.getElem?_toArray, List.getElem?_cons_zero, List.getElem?_cons_succ, h0, h1, h5, h19, h20, h21]
          refine led_app (O := strO) ap31_31 (by decide) l (i := 2) rfl (l.src1 (S := strS) (j := 0) rfl ⟨rfl, z1⟩) (by rw [List.length_singleton]; omega) fun fp2 w2 V4 _ l => ?_
          simp (disch := omega) only [↓stq, amv_at, vls, inf, frs, mark_eq, ↓reduceIte, Nat.reduceEqDiff, ite_tt, ite_ff, eq_self, and_true, true_and, and_self, implies_true, Bool.true_eq_false, Bool.false_eq_true, decide_true, decide_false, decide_eq_true_eq, decide_eq_false_iff_not, ne_eq, not_true_eq_false, not_false_eq_true, Bool.not_eq_true', Bool.not_eq_false', beq_self_eq_true, Bool.not_true, Bool.not_false, List.getElem?_toArray, List.getElem?_cons_zero, List.getElem?_cons_succ, h0, h1, h5, h19, h20, h21]
          exact ⟨_, by omega, i + 1, fp2, w2, out ++ [(ts[i]).2.1], by omega, rfl, l.tail.tail, by rw [List.append_assoc, ← hgd]; exact hgo, by rw [List.length_append, List.length_singleton]; omega, rfl, rfl⟩
        | true =>
          simp (disch := omega) only [↓stq, amv_at, ↓pln, plv, nilOk, Nat.reduceBEq, Bool.or_false, Bool.or_true, Bool.false_or, Bool.true_or, vls, inf, frs, mark_eq, ↓reduceIte, Nat.reduceEqDiff, ite_tt, ite_ff, eq_self, and_true, true_and, and_self, implies_true, Bool.true_eq_false, Bool.false_eq_true, decide_true, decide_false, decide_eq_true_eq, decide_eq_false_iff_not, ne_eq, not_true_eq_false, not_false_eq_true, Bool.not_eq_true', Bool.not_eq_false', beq_self_eq_true, Bool.not_true, Bool.not_false, List.getElem?_toArray, List.getElem?_cons_zero, List.getElem?_cons_succ, h0, h1, h5, h19, h20, h21, e4, add_at, m0, m1]
          rw [if_neg fun h => h.2 (hb.1 rfl), List.nil_append] at hgd
          exact ⟨_, by omega, i + 1, fp, w, out, by omega, rfl, l.tail, by rw [← hgd]; exact hgo, by omega, rfl, rfl⟩
      · simp (disch := omega) only [↓stq, amv_at, ↓pln, plv, nilOk, Nat.reduceBEq, Bool.or_false, Bool.or_true, Bool.false_or, Bool.true_or, vls, inf, frs, mark_eq, ↓reduceIte, Nat.reduceEqDiff, ite_tt, ite_ff, eq_self, and_true, true_and, and_self, implies_true, Bool.true_eq_false, Bool.false_eq_true, decide_true, decide_false, decide_eq_true_eq, decide_eq_false_iff_not, ne_eq, not_true_eq_false, not_false_eq_true, Bool.not_eq_true', Bool.not_eq_false', beq_self_eq_true, Bool.not_true, Bool.not_false, List.getElem?_toArray, List.getElem?_cons_zero, List.getElem?_cons_succ, h0, h1, h5, h19, h20, h21, e4]
        rw [if_neg fun h => e4 h.1, List.nil_append] at hgd
        exact ⟨_, by omega, i + 1, fp, w, out, by omega, rfl, l.tail, by rw [← hgd]; exact hgo, by omega, rfl, rfl⟩
    · simp (disch := omega) only [↓stq, amv_at, vls, inf, frs, mark_eq, ↓reduceIte, Nat.reduceEqDiff, ite_tt, ite_ff, eq_self, and_true, true_and, and_self, implies_true, Bool.true_eq_false, Bool.false_eq_true, decide_true, decide_false, decide_eq_true_eq, decide_eq_false_iff_not, ne_eq, not_true_eq_false, not_false_eq_true, Bool.not_eq_true', Bool.not_eq_false', beq_self_eq_true, Bool.not_true, Bool.not_false, List.getElem?_toArray, List.getElem?_cons_zero, List.getElem?_cons_succ, h0, h1, h5, h19, h20, h21]
      rw [List.drop_of_length_le (by omega)] at hgo
      rw [← hgo]
      show NewSl _ _ _ _ _ (out ++ [])
      rw [List.append_nil]
      exact NewSl.of l (i := 0) rfl
  · rw [liveA, if_neg hk]
    refine acalls Try.func29 rfl (by kernel_rfl) ?_
    simp (disch := omega) only [↓stq, amv_at, vls, inf, frs, mark_eq, ↓reduceIte, Nat.reduceEqDiff, ite_tt, ite_ff, eq_self, and_true, true_and, and_self, implies_true, Bool.true_eq_false, Bool.false_eq_true, decide_true, decide_false, decide_eq_true_eq, decide_eq_false_iff_not, ne_eq, not_true_eq_false, not_false_eq_true, Bool.not_eq_true', Bool.not_eq_false', beq_self_eq_true, Bool.not_true, Bool.not_false, List.getElem?_toArray, List.getElem?_cons_zero, List.getElem?_cons_succ]
    refine ⟨fun e => ?_, fun e => ?_⟩ <;> simp (disch := omega) only [↓stq, amv_at, vls, inf, frs, mark_eq, ↓reduceIte, Nat.reduceEqDiff, ite_tt, ite_ff, eq_self, and_true, true_and, and_self, implies_true, Bool.true_eq_false, Bool.false_eq_true, decide_true, decide_false, decide_eq_true_eq, decide_eq_false_iff_not, ne_eq, not_true_eq_false, not_false_eq_true, Bool.not_eq_true', Bool.not_eq_false', beq_self_eq_true, Bool.not_true, Bool.not_false, List.getElem?_toArray, List.getElem?_cons_zero, List.getElem?_cons_succ, e]
    · refine ⟨fun e2 => ?_, fun e2 => by omega⟩
      simp (disch := omega) only [↓stq, amv_at, vls, inf, frs, mark_eq, ↓reduceIte, Nat.reduceEqDiff, ite_tt, ite_ff, eq_self, and_true, true_and, and_self, implies_true, Bool.true_eq_false, Bool.false_eq_true, decide_true, decide_false, decide_eq_true_eq, decide_eq_false_iff_not, ne_eq, not_true_eq_false, not_false_eq_true, Bool.not_eq_true', Bool.not_eq_false', beq_self_eq_true, Bool.not_true, Bool.not_false, List.getElem?_toArray, List.getElem?_cons_zero, List.getElem?_cons_succ]
      exact NewSl.nil (Ext.refl A)
    · exact NewSl.nil (Ext.refl A)

theorem spec_LiveAfter_c (A : View) (v : Value) (es : List EventD) (k : Int) (h : Sl eventS A v es) (hl : es.length ≤ 1048576) : ACalls Try.prog 31 #[v, .int .i64 k] A fun r V => NewSl 9 strO A r V (liveA es k) := by
  obtain ⟨a, c, rfl, hc, _⟩ := h.slice
  refine acalls Try.func31 rfl (by kernel_rfl) ?_
  simp (disch := omega) only [↓stq, amv_at, vls, inf, frs, mark_eq, ↓reduceIte, Nat.reduceEqDiff, ite_tt, ite_ff, eq_self, and_true, true_and, and_self, implies_true, Bool.true_eq_false, Bool.false_eq_true, decide_true, decide_false, decide_eq_true_eq, decide_eq_false_iff_not, ne_eq, not_true_eq_false, not_false_eq_true, Bool.not_eq_true', Bool.not_eq_false', beq_self_eq_true, Bool.not_true, Bool.not_false, List.getElem?_toArray, List.getElem?_cons_zero, List.getElem?_cons_succ]
  refine (spec_inRange_c A k 0 es.length).mono ?_
  rintro _ A ⟨rfl, rfl⟩
  by_cases hk : 0 ≤ k ∧ k ≤ es.length
  · obtain ⟨k, rfl⟩ := Int.eq_ofNat_of_zero_le hk.1
    have hkl : k ≤ es.length := by omega
    have hp : liveA es (k : Int) = liveR (es.take k) := by
      unfold liveA
      rw [if_pos hk]
      rfl
    rw [hp, show (decide (0 ≤ (k : Int)) && decide ((k : Int) ≤ es.length)) = true by rw [decide_eq_true hk.1, decide_eq_true hk.2]; rfl]
    simp (disch := omega) only [↓stq, amv_at, vls, inf, frs, mark_eq, ↓reduceIte, Nat.reduceEqDiff, ite_tt, ite_ff, eq_self, and_true, true_and, and_self, implies_true, Bool.true_eq_false, Bool.false_eq_true, decide_true, decide_false, decide_eq_true_eq, decide_eq_false_iff_not, ne_eq, not_true_eq_false, not_false_eq_true, Bool.not_eq_true', Bool.not_eq_false', beq_self_eq_true, Bool.not_true, Bool.not_false, List.getElem?_toArray, List.getElem?_cons_zero, List.getElem?_cons_succ]
    refine (spec_liveAfter_c _ _ (es.take k) (h.take (k := k) hkl 2) (by rw [List.length_take]; omega)).mono ?_
    rintro r V hr
    simp (disch := omega) only [↓stq, amv_at, vls, inf, frs, mark_eq, ↓reduceIte, Nat.reduceEqDiff, ite_tt, ite_ff, eq_self, and_true, true_and, and_self, implies_true, Bool.true_eq_false, Bool.false_eq_true, decide_true, decide_false, decide_eq_true_eq, decide_eq_false_iff_not, ne_eq, not_true_eq_false, not_false_eq_true, Bool.not_eq_true', Bool.not_eq_false', beq_self_eq_true, Bool.not_true, Bool.not_false, List.getElem?_toArray, List.getElem?_cons_zero, List.getElem?_cons_succ]
    exact hr
  · rw [liveA, if_neg hk, show (decide (0 ≤ k) && decide (k ≤ es.length)) = false by
      rw [Bool.and_eq_false_iff, decide_eq_false_iff_not, decide_eq_false_iff_not]
      omega]
    simp (disch := omega) only [↓stq, amv_at, vls, inf, frs, mark_eq, ↓reduceIte, Nat.reduceEqDiff, ite_tt, ite_ff, eq_self, and_true, true_and, and_self, implies_true, Bool.true_eq_false, Bool.false_eq_true, decide_true, decide_false, decide_eq_true_eq, decide_eq_false_iff_not, ne_eq, not_true_eq_false, not_false_eq_true, Bool.not_eq_true', Bool.not_eq_false', beq_self_eq_true, Bool.not_true, Bool.not_false, List.getElem?_toArray, List.getElem?_cons_zero, List.getElem?_cons_succ]
    exact NewSl.nil (Ext.refl _)

/-! ### the most that is live -/
def mxL (es : List EventD) : Nat → Nat
  | 0 => 0
  | k + 1 => max (mxL es k) (liveR (es.take k)).length
theorem mxL_le (es : List EventD) : ∀ n, mxL es n ≤ es.length
  | 0 => Nat.zero_le _
  | n + 1 => by
    have h1 := mxL_le es n
    have h2 := liveR_len (es.take n)
    rw [List.length_take] at h2
    unfold mxL
    omega
theorem mxL_ge (es : List EventD) : ∀ n k, k < n → (liveR (es.take k)).length ≤ mxL es n
  | 0, k, h => absurd h (Nat.not_lt_zero _)
  | n + 1, k, h => by
    unfold mxL
    rcases Nat.lt_succ_iff_lt_or_eq.1 h with h | rfl
    · have := mxL_ge es n k h
      omega
    · omega
theorem mxL_at (es : List EventD) : ∀ n, 0 < n → ∃ k, k < n ∧ (liveR (es.take k)).length = mxL es n
  | 0, h => absurd h (Nat.lt_irrefl _)
  | 1, _ => ⟨0, by omega, by simp [mxL, liveR]⟩
  | n + 2, _ => by
    obtain ⟨k, hk, he⟩ := mxL_at es (n + 1) (by omega)
    rw [show mxL es (n + 2) = max (mxL es (n + 1)) (liveR (es.take (n + 1))).length from rfl]
    by_cases h : mxL es (n + 1) ≤ (liveR (es.take (n + 1))).length
    · exact ⟨n + 1, by omega, by omega⟩
    · exact ⟨k, by omega, by omega⟩
theorem liveA_at {es : List EventD} {k : Nat} (h : k ≤ es.length) : liveA es (k : Int) = liveR (es.take k) := by
  unfold liveA
  rw [if_pos (by omega)]
  rfl

theorem impl_MostLive_c (A : View) (v : Value) (es : List EventD) (h : Sl eventS A v es) (hl : es.length ≤ 1048576) : ACalls Try.prog 27 #[v] A fun r V => r = .int .i64 (mxL es (es.length + 1)) ∧ Ext A V := by
  obtain ⟨a, c, rfl, hc, _⟩ := h.slice
  refine acalls Try.func27 rfl (by kernel_rfl) ?_
  simp (disch := omega) only [↓stq, amv_at, vls, inf, frs, mark_eq, ↓reduceIte, Nat.reduceEqDiff, ite_tt, ite_ff, eq_self, and_true, true_and, and_self, implies_true, Bool.true_eq_false, Bool.false_eq_true, decide_true, decide_false, decide_eq_true_eq, decide_eq_false_iff_not, ne_eq, not_true_eq_false, not_false_eq_true, Bool.not_eq_true', Bool.not_eq_false', beq_self_eq_true, Bool.not_true, Bool.not_false, List.getElem?_toArray, List.getElem?_cons_zero, List.getElem?_cons_succ]
  refine aloop (fun d fr V => ∃ i : Nat, i ≤ es.length + 1 ∧ d = es.length + 1 - i ∧ Ext A V ∧ fr 0 = .slice a es.length c ∧ fr 3 = .int .i64 (mxL es i) ∧ fr 7 = .int .i64 ((es.length : Int) + 1) ∧ fr 8 = .int .i64 i) (es.length + 1) ⟨0, by omega, by omega, Ext.refl _, by rfl, by rfl, by rfl, by rfl⟩ ?_
  rintro d fr V ⟨i, hi, rfl, he, h0, h3, h7, h8⟩
  simp (disch := omega) only [↓stq, amv_at, vls, inf, frs, mark_eq, ↓reduceIte, Nat.reduceEqDiff, ite_tt, ite_ff, eq_self, and_true, true_and, and_self, implies_true, Bool.true_eq_false, Bool.false_eq_true, decide_true, decide_false, decide_eq_true_eq, decide_eq_false_iff_not, ne_eq, not_true_eq_false, not_false_eq_true, Bool.not_eq_true', Bool.not_eq_false', beq_self_eq_true, Bool.not_true, Bool.not_false, List.getElem?_toArray, List.getElem?_cons_zero, List.getElem?_cons_succ, h0, h3, h7, h8]
  refine ⟨fun e1 => ?_, fun e1 => ?_⟩
  · have hle : i ≤ es.length := by omega
    simp (disch := omega) only [↓stq, amv_at, vls, inf, frs, mark_eq, ↓reduceIte, Nat.reduceEqDiff, ite_tt, ite_ff, eq_self, and_true, true_and, and_self, implies_true, Bool.true_eq_false, Bool.false_eq_true, decide_true, decide_false, decide_eq_true_eq, decide_eq_false_iff_not, ne_eq, not_true_eq_false, not_false_eq_true, Bool.not_eq_true', Bool.not_eq_false', beq_self_eq_true, Bool.not_true, Bool.not_false, List.getElem?_toArray, List.getElem?_cons_zero, List.getElem?_cons_succ, h0, h3, h7, h8]
    refine (impl_LiveAfter_c V _ es i (h.mono he) hl).mono ?_
    rintro r V2 ⟨fp, l2⟩
    rw [liveA_at hle] at l2
    obtain ⟨ar, cr, rfl, _, _⟩ := (OSl.toS (show OSl 9 strO V2 fp r _ from l2.at (i := 0) rfl)).slice
    have hm1 := mxL_le es i
    simp (disch := omega) only [↓stq, amv_at, vls, inf, frs, mark_eq, ↓reduceIte, Nat.reduceEqDiff, ite_tt, ite_ff, eq_self, and_true, true_and, and_self, implies_true, Bool.true_eq_false, Bool.false_eq_true, decide_true, decide_false, decide_eq_true_eq, decide_eq_false_iff_not, ne_eq, not_true_eq_false, not_false_eq_true, Bool.not_eq_true', Bool.not_eq_false', beq_self_eq_true, Bool.not_true, Bool.not_false, List.getElem?_toArray, List.getElem?_cons_zero, List.getElem?_cons_succ, h0, h3, h7, h8]
    refine ⟨_, by omega, i + 1, by omega, rfl, he.trans l2.ext, ?_, rfl⟩
    refine congrArg (Value.int .i64) ?_
    rw [show mxL es (i + 1) = max (mxL es i) (liveR (es.take i)).length from rfl]
    split <;> omega
  · have hie : i = es.length + 1 := by omega
    subst hie
    simp (disch := omega) only [↓stq, amv_at, vls, inf, frs, mark_eq, ↓reduceIte, Nat.reduceEqDiff, ite_tt, ite_ff, eq_self, and_true, true_and, and_self, implies_true, Bool.true_eq_false, Bool.false_eq_true, decide_true, decide_false, decide_eq_true_eq, decide_eq_false_iff_not, ne_eq, not_true_eq_false, not_false_eq_true, Bool.not_eq_true', Bool.not_eq_false', beq_self_eq_true, Bool.not_true, Bool.not_false, List.getElem?_toArray, List.getElem?_cons_zero, List.getElem?_cons_succ, h0, h3, h7, h8]
    exact he

theorem spec_MostLive_c (A : View) (v : Value) (es : List EventD) (h : Sl eventS A v es) (hl : es.length ≤ 1048576) : ACalls Try.prog 28 #[v] A fun r V => r = .int .i64 (mxL es (es.length + 1)) ∧ Ext A V := by
  obtain ⟨a, c, rfl, hc, _⟩ := h.slice
  refine acalls Try.func28 rfl (by kernel_rfl) ?_
  simp (disch := omega) only [↓stq, amv_at, vls, inf, frs, mark_eq, ↓reduceIte, Nat.reduceEqDiff, ite_tt, ite_ff, eq_self, and_true, true_and, and_self, implies_true, Bool.true_eq_false, Bool.false_eq_true, decide_true, decide_false, decide_eq_true_eq, decide_eq_false_iff_not, ne_eq, not_true_eq_false, not_false_eq_true, Bool.not_eq_true', Bool.not_eq_false', beq_self_eq_true, Bool.not_true, Bool.not_false, List.getElem?_toArray, List.getElem?_cons_zero, List.getElem?_cons_succ]
  refine aloop (fun d fr V => ∃ i : Nat, i ≤ es.length + 1 ∧ d = es.length + 1 - i ∧ Ext A V ∧ fr 0 = .slice a es.length c ∧ fr 3 = .int .i64 (mxL es i) ∧ fr 4 = .int .i64 i) (es.length + 1) ⟨0, by omega, by omega, Ext.refl _, by rfl, by rfl, by rfl⟩ ?_
  rintro d fr V ⟨i, hi, rfl, he, h0, h3, h4⟩
  simp (disch := omega) only [↓stq, amv_at, vls, inf, frs, mark_eq, ↓reduceIte, Nat.reduceEqDiff, ite_tt, ite_ff, eq_self, and_true, true_and, and_self, implies_true, Bool.true_eq_false, Bool.false_eq_true, decide_true, decide_false, decide_eq_true_eq, decide_eq_false_iff_not, ne_eq, not_true_eq_false, not_false_eq_true, Bool.not_eq_true', Bool.not_eq_false', beq_self_eq_true, Bool.not_true, Bool.not_false, List.getElem?_toArray, List.getElem?_cons_zero, List.getElem?_cons_succ, h0, h3, h4]
  refine ⟨fun e1 => ?_, fun e1 => ?_⟩
  · have hle : i ≤ es.length := by omega
    simp (disch := omega) only [↓stq, amv_at, vls, inf, frs, mark_eq, ↓reduceIte, Nat.reduceEqDiff, ite_tt, ite_ff, eq_self, and_true, true_and, and_self, implies_true, Bool.true_eq_false, Bool.false_eq_true, decide_true, decide_false, decide_eq_true_eq, decide_eq_false_iff_not, ne_eq, not_true_eq_false, not_false_eq_true, Bool.not_eq_true', Bool.not_eq_false', beq_self_eq_true, Bool.not_true, Bool.not_false, List.getElem?_toArray, List.getElem?_cons_zero, List.getElem?_cons_succ, h0, h3, h4]
    refine (spec_liveAfter_c V _ (es.take i) ((h.mono he).take (k := i) hle 2) (by rw [List.length_take]; omega)).mono ?_
    rintro r V2 ⟨fp, l2⟩
    obtain ⟨ar, cr, rfl, _, _⟩ := (OSl.toS (show OSl 9 strO V2 fp r _ from l2.at (i := 0) rfl)).slice
    have hm1 := mxL_le es i
    simp (disch := omega) only [↓stq, amv_at, vls, inf, frs, mark_eq, ↓reduceIte, Nat.reduceEqDiff, ite_tt, ite_ff, eq_self, and_true, true_and, and_self, implies_true, Bool.true_eq_false, Bool.false_eq_true, decide_true, decide_false, decide_eq_true_eq, decide_eq_false_iff_not, ne_eq, not_true_eq_false, not_false_eq_true, Bool.not_eq_true', Bool.not_eq_false', beq_self_eq_true, Bool.not_true, Bool.not_false, List.getElem?_toArray, List.getElem?_cons_zero, List.getElem?_cons_succ, h0, h3, h4]
    refine ⟨_, by omega, i + 1, by omega, rfl, he.trans l2.ext, ?_, rfl⟩
    refine congrArg (Value.int .i64) ?_
    rw [show mxL es (i + 1) = max (mxL es i) (liveR (es.take i)).length from rfl]
    split <;> omega
  · have hie : i = es.length + 1 := by omega
    subst hie
    simp (disch := omega) only [↓stq, amv_at, vls, inf, frs, mark_eq, ↓reduceIte, Nat.reduceEqDiff, ite_tt, ite_ff, eq_self, and_true, true_and, and_self, implies_true, Bool.true_eq_false, Bool.false_eq_true, decide_true, decide_false, decide_eq_true_eq, decide_eq_false_iff_not, ne_eq, not_true_eq_false, not_false_eq_true, Bool.not_eq_true', Bool.not_eq_false', beq_self_eq_true, Bool.not_true, Bool.not_false, List.getElem?_toArray, List.getElem?_cons_zero, List.getElem?_cons_succ, h0, h3, h4]
    exact he

end Go.Proofs.Ytjojofnkgeiadaa

