/- Generators: tests. -/
import Derived.Test.YtbddklkfekiaeaaV2
import Derived.Test.YtbddklkfekiaeaaZ3
set_option maxHeartbeats 4000000
set_option synthInstance.maxHeartbeats 400000
set_option synthInstance.maxSize 4096
set_option linter.unusedSimpArgs false
set_option linter.unusedVariables false
namespace Go.Proofs.Ytbddklkfekiaeaa

set_option maxRecDepth 100000

theorem lit_osl {V : View} {b c room : Nat} {cells : List Value} {ns : List ByteArray} (hb : V b = some ⟨9, cells, room, true⟩) (hr : room = c * 1) (hcl : cells = ns.map Value.string) (hc : ns.length ≤ c) (hl : ns.length ≤ 1000) (hz : ∀ x, x ∈ ns → x.size ≤ 100) : OSl 9 strO V [b] (.slice (some ⟨b, 0, none⟩) ns.length c) ns := by
  subst hr; subst hcl
  exact ⟨by omega, .inr ⟨b, c, _, [], rfl, hc, rfl, hb, OElems.flatE (A := V) (elems_str _ fun x hx => by have := hz x hx; omega)⟩⟩

def genT (t : TestD) : Prop := t.1.size ≤ 100 ∧ t.2.1.size ≤ 100 ∧ t.2.2.1.length ≤ 3 ∧ t.2.2.2.1.length ≤ 3
theorem goodTests_c (B A : View) (L : List It) (q : Nat) (sl : Value) (N : Nat) (v : Value) (xs : List ByteArray) (hb : Bts B sl) (hN : N ≤ 800000000) (hx : ∀ V, Led B L V → Sl strS V v xs) (l : Led B (rdr q sl N :: L) A) : ACalls Try.prog 85 #[.pointer (some ⟨q, 0, none⟩), v] A fun r V => ∃ fp ts, ts.length ≤ 10 ∧ (∀ t, t ∈ ts → genT t) ∧ Led B (osl 34 testO fp r ts :: rdr q sl (N + 101) :: L) V := by
  obtain ⟨a, c, rfl, _, hle⟩ := (hx A l.tail).slice
  refine acalls Try.func85 rfl (by kernel_rfl) ?_
  simp (disch := omega) only [↓stq, amv_at, vls, inf, frs, mark_eq, ↓reduceIte, Nat.reduceEqDiff, ite_tt, ite_ff, eq_self, and_true, true_and, and_self, implies_true, Bool.true_eq_false, Bool.false_eq_true, decide_true, decide_false, decide_eq_true_eq, decide_eq_false_iff_not, ne_eq, not_true_eq_false, not_false_eq_true, Bool.not_eq_true', Bool.not_eq_false', beq_self_eq_true, Bool.not_true, Bool.not_false, List.getElem?_toArray, List.getElem?_cons_zero, List.getElem?_cons_succ]
  refine led_lit0 (O := testO) li23 l fun b V _ l => ?_
  simp (disch := omega) only [↓stq, amv_at, vls, inf, frs, mark_eq, ↓reduceIte, Nat.reduceEqDiff, ite_tt, ite_ff, eq_self, and_true, true_and, and_self, implies_true, Bool.true_eq_false, Bool.false_eq_true, decide_true, decide_false, decide_eq_true_eq, decide_eq_false_iff_not, ne_eq, not_true_eq_false, not_false_eq_true, Bool.not_eq_true', Bool.not_eq_false', beq_self_eq_true, Bool.not_true, Bool.not_false, List.getElem?_toArray, List.getElem?_cons_zero, List.getElem?_cons_succ]
  refine led_lit li101 (by omega) rfl (by simp [Value.cells, Value.oneCell']) l fun bl V _ l => ?_
  simp (disch := omega) only [↓stq, amv_at, vls, inf, frs, mark_eq, ↓reduceIte, Nat.reduceEqDiff, ite_tt, ite_ff, eq_self, and_true, true_and, and_self, implies_true, Bool.true_eq_false, Bool.false_eq_true, decide_true, decide_false, decide_eq_true_eq, decide_eq_false_iff_not, ne_eq, not_true_eq_false, not_false_eq_true, Bool.not_eq_true', Bool.not_eq_false', beq_self_eq_true, Bool.not_true, Bool.not_false, List.getElem?_toArray, List.getElem?_cons_zero, List.getElem?_cons_succ]
  refine (oneLit_c (n := 8) (c := 8) (xs := [_, _, _, _, _, _, _, _]) B V (osl 34 testO [b] _ [] :: L) q sl N hb (by omega) rfl rfl (by omega) (by decide) (by omega) (by omega) (l.perm ((List.Perm.swap ..).cons _))).mono ?_
  rintro _ V ⟨s, rfl, hs, l⟩
  have hs3 : 0 ≤ s ∧ s ≤ 10 := by revert s; decide
  obtain ⟨n, rfl⟩ := Int.eq_ofNat_of_zero_le hs3.1
  simp (disch := omega) only [↓stq, amv_at, vls, inf, frs, mark_eq, ↓reduceIte, Nat.reduceEqDiff, ite_tt, ite_ff, eq_self, and_true, true_and, and_self, implies_true, Bool.true_eq_false, Bool.false_eq_true, decide_true, decide_false, decide_eq_true_eq, decide_eq_false_iff_not, ne_eq, not_true_eq_false, not_false_eq_true, Bool.not_eq_true', Bool.not_eq_false', beq_self_eq_true, Bool.not_true, Bool.not_false, List.getElem?_toArray, List.getElem?_cons_zero, List.getElem?_cons_succ]
  refine aloop (fun d fr V => ∃ (k : Nat) (fp : List Nat) (w : Value) (ts : List TestD), d = k ∧ k ≤ n ∧ ts.length + k ≤ n ∧ Led B (osl 34 testO fp w ts :: rdr q sl (N + 1 + 10 * (n - k)) :: L) V ∧ fr 0 = .pointer (some ⟨q, 0, none⟩) ∧ fr 1 = .slice a xs.length c ∧ fr 5 = w ∧ fr 6 = .int .i64 k ∧ ∀ t, t ∈ ts → genT t) n ⟨n, _, _, [], rfl, by omega, by simp, by rw [Nat.sub_self]; exact l.perm (List.Perm.swap ..), by rfl, by rfl, by rfl, by rfl, by simp⟩ ?_
  clear l
  rintro k fr V ⟨_, fp, w, ts, rfl, hkn, hk, l, h0, h1, h5, h6, hy⟩
  simp (disch := omega) only [↓stq, amv_at, vls, inf, frs, mark_eq, ↓reduceIte, Nat.reduceEqDiff, ite_tt, ite_ff, eq_self, and_true, true_and, and_self, implies_true, Bool.true_eq_false, Bool.false_eq_true, decide_true, decide_false, decide_eq_true_eq, decide_eq_false_iff_not, ne_eq, not_true_eq_false, not_false_eq_true, Bool.not_eq_true', Bool.not_eq_false', beq_self_eq_true, Bool.not_true, Bool.not_false, List.getElem?_toArray, List.getElem?_cons_zero, List.getElem?_cons_succ, h0, h1, h5, h6]
  refine ⟨fun e => ?_, fun e => ?_⟩ <;> simp (disch := omega) only [↓stq, amv_at, vls, inf, frs, mark_eq, ↓reduceIte, Nat.reduceEqDiff, ite_tt, ite_ff, eq_self, and_true, true_and, and_self, implies_true, Bool.true_eq_false, Bool.false_eq_true, decide_true, decide_false, decide_eq_true_eq, decide_eq_false_iff_not, ne_eq, not_true_eq_false, not_false_eq_true, Bool.not_eq_true', Bool.not_eq_false', beq_self_eq_true, Bool.not_true, Bool.not_false, List.getElem?_toArray, List.getElem?_cons_zero, List.getElem?_cons_succ, h0, h1, h5, h6]
  · refine (aModule_c B V (osl 34 testO fp w ts :: L) q sl _ hb (by omega) (l.perm (List.Perm.swap ..))).mono ?_
    rintro _ V ⟨s1, rfl, hz1, l⟩
    simp (disch := omega) only [↓stq, amv_at, vls, inf, frs, mark_eq, ↓reduceIte, Nat.reduceEqDiff, ite_tt, ite_ff, eq_self, and_true, true_and, and_self, implies_true, Bool.true_eq_false, Bool.false_eq_true, decide_true, decide_false, decide_eq_true_eq, decide_eq_false_iff_not, ne_eq, not_true_eq_false, not_false_eq_true, Bool.not_eq_true', Bool.not_eq_false', beq_self_eq_true, Bool.not_true, Bool.not_false, List.getElem?_toArray, List.getElem?_cons_zero, List.getElem?_cons_succ, h0, h1, h5, h6]
    refine led_lit li25 (by omega) rfl (by simp [Value.cells, Value.oneCell']) l fun bl V _ l => ?_
    simp (disch := omega) only [↓stq, amv_at, vls, inf, frs, mark_eq, ↓reduceIte, Nat.reduceEqDiff, ite_tt, ite_ff, eq_self, and_true, true_and, and_self, implies_true, Bool.true_eq_false, Bool.false_eq_true, decide_true, decide_false, decide_eq_true_eq, decide_eq_false_iff_not, ne_eq, not_true_eq_false, not_false_eq_true, Bool.not_eq_true', Bool.not_eq_false', beq_self_eq_true, Bool.not_true, Bool.not_false, List.getElem?_toArray, List.getElem?_cons_zero, List.getElem?_cons_succ, h0, h1, h5, h6]
    refine (ofLit_c (n := 5) (c := 5) (xs := [_, _, _, _, _]) B V (osl 34 testO fp w ts :: L) q sl _ hb (by omega) rfl rfl (by omega) (by decide) (by omega) (by omega) l).mono ?_
    rintro _ V ⟨s2, rfl, hs2, l⟩
    have hz2 : s2.size ≤ 100 := by revert s2; decide
    simp (disch := omega) only [↓stq, amv_at, vls, inf, frs, mark_eq, ↓reduceIte, Nat.reduceEqDiff, ite_tt, ite_ff, eq_self, and_true, true_and, and_self, implies_true, Bool.true_eq_false, Bool.false_eq_true, decide_true, decide_false, decide_eq_true_eq, decide_eq_false_iff_not, ne_eq, not_true_eq_false, not_false_eq_true, Bool.not_eq_true', Bool.not_eq_false', beq_self_eq_true, Bool.not_true, Bool.not_false, List.getElem?_toArray, List.getElem?_cons_zero, List.getElem?_cons_succ, h0, h1, h5, h6]
    refine (someMarks_c B V (osl 34 testO fp w ts :: L) q sl _ hb (by omega) l).mono ?_
    rintro r1 V ⟨fm, ms, hm1, hm2, l⟩
    obtain ⟨am, cm, rfl, _, _⟩ := (OSl.toS (show OSl 9 strO V fm r1 ms from l.at (i := 0) rfl)).slice
    simp (disch := omega) only [↓stq, amv_at, vls, inf, frs, mark_eq, ↓reduceIte, Nat.reduceEqDiff, ite_tt, ite_ff, eq_self, and_true, true_and, and_self, implies_true, Bool.true_eq_false, Bool.false_eq_true, decide_true, decide_false, decide_eq_true_eq, decide_eq_false_iff_not, ne_eq, not_true_eq_false, not_false_eq_true, Bool.not_eq_true', Bool.not_eq_false', beq_self_eq_true, Bool.not_true, Bool.not_false, List.getElem?_toArray, List.getElem?_cons_zero, List.getElem?_cons_succ, h0, h1, h5, h6]
    refine (someNeeds_c B V (osl 9 strO fm _ ms :: osl 34 testO fp w ts :: L) q sl _ _ xs hb (by omega) (fun V l => hx V l.tail.tail) (l.perm (List.Perm.swap ..))).mono ?_
    rintro r2 V ⟨fn, ns, hn1, hn2, l⟩
    obtain ⟨an, cn, rfl, _, _⟩ := (OSl.toS (show OSl 9 strO V fn r2 ns from l.at (i := 0) rfl)).slice
    simp (disch := omega) only [↓stq, amv_at, vls, inf, frs, mark_eq, ↓reduceIte, Nat.reduceEqDiff, ite_tt, ite_ff, eq_self, and_true, true_and, and_self, implies_true, Bool.true_eq_false, Bool.false_eq_true, decide_true, decide_false, decide_eq_true_eq, decide_eq_false_iff_not, ne_eq, not_true_eq_false, not_false_eq_true, Bool.not_eq_true', Bool.not_eq_false', beq_self_eq_true, Bool.not_true, Bool.not_false, List.getElem?_toArray, List.getElem?_cons_zero, List.getElem?_cons_succ, h0, h1, h5, h6]
    refine led_alloc zc34 l fun q7 V _ l => ?_
    simp (disch := omega) only [↓stq, amv_at, vls, inf, frs, mark_eq, ↓reduceIte, Nat.reduceEqDiff, ite_tt, ite_ff, eq_self, and_true, true_and, and_self, implies_true, Bool.true_eq_false, Bool.false_eq_true, decide_true, decide_false, decide_eq_true_eq, decide_eq_false_iff_not, ne_eq, not_true_eq_false, not_false_eq_true, Bool.not_eq_true', Bool.not_eq_false', beq_self_eq_true, Bool.not_true, Bool.not_false, List.getElem?_toArray, List.getElem?_cons_zero, List.getElem?_cons_succ, h0, h1, h5, h6]
    refine led_storeAll l 0 rfl sz34 rfl rfl (by simp [Value.oneCell']) fun V l => ?_
    have kt : V.part ⟨q7, 0, none⟩ 4 = some [.string s1, .string s2, .slice am ms.length cm, .slice an ns.length cn] := l.part (i := 0) rfl rfl
    simp (disch := omega) only [↓stq, amv_at, vls, inf, frs, mark_eq, ↓reduceIte, Nat.reduceEqDiff, ite_tt, ite_ff, eq_self, and_true, true_and, and_self, implies_true, Bool.true_eq_false, Bool.false_eq_true, decide_true, decide_false, decide_eq_true_eq, decide_eq_false_iff_not, ne_eq, not_true_eq_false, not_false_eq_true, Bool.not_eq_true', Bool.not_eq_false', beq_self_eq_true, Bool.not_true, Bool.not_false, List.getElem?_toArray, List.getElem?_cons_zero, List.getElem?_cons_succ, h0, h1, h5, h6, kt]
    have hgt : genT (s1, s2, ms, ns, ()) := ⟨hz1, hz2, hm1, hn1⟩
    refine (spec_idOf_c V _ (s1, s2, ms, ns, ()) (testS_mk (x := (s1, s2, ms, ns, ())) (by show s1.size ≤ _; omega) (by show s2.size ≤ _; omega) (OSl.toS (l.at (i := 3) rfl)) (OSl.toS (l.at (i := 1) rfl)))).mono ?_
    rintro _ V2 ⟨rfl, he2⟩
    replace l := l.step he2
    have kt := he2.part kt
    simp (disch := omega) only [↓stq, amv_at, vls, inf, frs, mark_eq, ↓reduceIte, Nat.reduceEqDiff, ite_tt, ite_ff, eq_self, and_true, true_and, and_self, implies_true, Bool.true_eq_false, Bool.false_eq_true, decide_true, decide_false, decide_eq_true_eq, decide_eq_false_iff_not, ne_eq, not_true_eq_false, not_false_eq_true, Bool.not_eq_true', Bool.not_eq_false', beq_self_eq_true, Bool.not_true, Bool.not_false, List.getElem?_toArray, List.getElem?_cons_zero, List.getElem?_cons_succ, h0, h1, h5, h6]
    refine (spec_findTest_c V2 _ ts _ (OSl.toS (l.at (i := 4) rfl))).mono ?_
    rintro _ V3 ⟨rfl, he3⟩
    replace l := l.step he3
    have kt := he3.part kt
    simp (disch := omega) only [↓stq, amv_at, vls, inf, frs, mark_eq, ↓reduceIte, Nat.reduceEqDiff, ite_tt, ite_ff, eq_self, and_true, true_and, and_self, implies_true, Bool.true_eq_false, Bool.false_eq_true, decide_true, decide_false, decide_eq_true_eq, decide_eq_false_iff_not, ne_eq, not_true_eq_false, not_false_eq_true, Bool.not_eq_true', Bool.not_eq_false', beq_self_eq_true, Bool.not_true, Bool.not_false, List.getElem?_toArray, List.getElem?_cons_zero, List.getElem?_cons_succ, h0, h1, h5, h6]
    have lr : Led B (osl 9 strO fn (.slice an ns.length cn) ns :: osl 9 strO fm (.slice am ms.length cm) ms :: rdr q sl (N + 1 + 10 * (n - k) + 1 + 1 + 4 + 4) :: osl 34 testO fp w ts :: L) V3 := l.tail.perm ((List.Perm.swap ..).cons _)
    refine ⟨fun e1 => ?_, fun e1 => ?_⟩ <;> simp (disch := omega) only [↓stq, amv_at, vls, inf, frs, mark_eq, ↓reduceIte, Nat.reduceEqDiff, ite_tt, ite_ff, eq_self, and_true, true_and, and_self, implies_true, Bool.true_eq_false, Bool.false_eq_true, decide_true, decide_false, decide_eq_true_eq, decide_eq_false_iff_not, ne_eq, not_true_eq_false, not_false_eq_true, Bool.not_eq_true', Bool.not_eq_false', beq_self_eq_true, Bool.not_true, Bool.not_false, List.getElem?_toArray, List.getElem?_cons_zero, List.getElem?_cons_succ, h0, h1, h5, h6, kt]
    · have lj := lr.join2 (jt := oc testO (fm ++ fn) (s1, s2, ms, ns, ()) _) rfl (show testO.rel V3 (fm ++ fn) (s1, s2, ms, ns, ()) _ from testO_mk (x := (s1, s2, ms, ns, ())) (by show s1.size ≤ _; omega) (by show s2.size ≤ _; omega) (lr.at (i := 1) rfl) (lr.at (i := 0) rfl))
      refine led_lit li23 (by omega) rfl (fun p hp => by rcases List.mem_singleton.1 hp with rfl; exact ⟨rfl, rfl⟩) lj fun bl V4 _ l => ?_
      simp (disch := omega) only [↓stq, amv_at, vls, inf, frs, mark_eq, ↓reduceIte, Nat.reduceEqDiff, ite_tt, ite_ff, eq_self, and_true, true_and, and_self, implies_true, Bool.true_eq_false, Bool.false_eq_true, decide_true, decide_false, decide_eq_true_eq, decide_eq_false_iff_not, ne_eq, not_true_eq_false, not_false_eq_true, Bool.not_eq_true', Bool.not_eq_false', beq_self_eq_true, Bool.not_true, Bool.not_false, List.getElem?_toArray, List.getElem?_cons_zero, List.getElem?_cons_succ, h0, h1, h5, h6]
      refine led_appO (O := testO) ap23_23 (by decide) l (i := 1) rfl (by omega) fun fp' w' V12 _ l => ?_
      simp (disch := omega) only [↓stq, amv_at, vls, inf, frs, mark_eq, ↓reduceIte, Nat.reduceEqDiff, ite_tt, ite_ff, eq_self, and_true, true_and, and_self, implies_true, Bool.true_eq_false, Bool.false_eq_true, decide_true, decide_false, decide_eq_true_eq, decide_eq_false_iff_not, ne_eq, not_true_eq_false, not_false_eq_true, Bool.not_eq_true', Bool.not_eq_false', beq_self_eq_true, Bool.not_true, Bool.not_false, List.getElem?_toArray, List.getElem?_cons_zero, List.getElem?_cons_succ, h0, h1, h5, h6]
      refine ⟨k - 1, by omega, k - 1, fp', w', ts ++ [(s1, s2, ms, ns, ())], rfl, by omega, by rw [List.length_append, List.length_singleton]; omega, ?_, rfl, by congr 1; omega, fun t ht => ?_⟩
      · exact (rdr_more l (M := N + 1 + 10 * (n - (k - 1))) (by omega)).perm (List.Perm.swap ..)
      · rcases List.mem_append.1 ht with ht | ht
        · exact hy t ht
        · rw [List.mem_singleton.1 ht]; exact hgt
    · refine ⟨k - 1, by omega, k - 1, fp, w, ts, rfl, by omega, by omega, ?_, rfl, by congr 1; omega, hy⟩
      exact (rdr_more lr.tail.tail (M := N + 1 + 10 * (n - (k - 1))) (by omega)).perm (List.Perm.swap ..)
  · exact ⟨fp, ts, by omega, hy, (rdr_more (l.perm (List.Perm.swap ..)) (M := N + 101) (by omega)).perm (List.Perm.swap ..)⟩

/-- What is known of some blocks alone. -/
def View.only (V : View) (fp : List Nat) : View := fun b => if b ∈ fp then V b else none
theorem View.only_ext (V : View) (fp : List Nat) : Ext (V.only fp) V := fun b k h => by
  unfold View.only at h
  split at h
  · exact h
  · cases h
theorem View.only_of {V : View} {fp : List Nat} {b : Nat} {k : Blk} (hb : b ∈ fp) (h : V b = some k) : (V.only fp) b = some k := by
  unfold View.only
  rw [if_pos hb]; exact h
theorem rdl_stay {α : Type} {S : Shape α} {fp : List Nat} {v : Value} {xs : List α} {V W : View} (h : (∀ b, b ∈ fp → ∃ k, V b = some k) ∧ Sl S (V.only fp) v xs) (hs : ∀ b k, b ∈ fp → V b = some k → W b = some k) : (∀ b, b ∈ fp → ∃ k, W b = some k) ∧ Sl S (W.only fp) v xs := by
  refine ⟨fun b hb => ?_, h.2.mono fun b k hk => ?_⟩
  · obtain ⟨k, hk⟩ := h.1 b hb
    exact ⟨k, hs b k hb hk⟩
  · unfold View.only at hk
    split at hk
    · rename_i hb
      exact View.only_of hb (hs b k hb hk)
    · cases hk
/-- Data that is read, in blocks of one's own. -/
def rdl {α : Type} (S : Shape α) (fp : List Nat) (v : Value) (xs : List α) : It := ⟨fp, fun V => (∀ b, b ∈ fp → ∃ k, V b = some k) ∧ Sl S (V.only fp) v xs, fun h hs => rdl_stay h hs, fun h => h.1⟩
theorem rdl_sl {α : Type} {S : Shape α} {fp : List Nat} {v : Value} {xs : List α} {V : View} (h : (rdl S fp v xs).φ V) : Sl S V v xs := h.2.mono (View.only_ext V fp)
theorem osl_rdl {α : Type} {O : OwnS α} {e : TypeId} {fp : List Nat} {v : Value} {xs : List α} {V : View} (h : OSl e O V fp v xs) : (rdl O.S fp v xs).φ V :=
  ⟨fun b hb => h.has b hb, OSl.toS (h.stay fun b k hb hk => View.only_of hb hk)⟩
theorem keepI_stay {fp : List Nat} {B0 V W : View} (h0 : ∀ b k, B0 b = some k → b ∈ fp) (h : (∀ b, b ∈ fp → ∃ k, V b = some k) ∧ Ext B0 V) (hs : ∀ b k, b ∈ fp → V b = some k → W b = some k) : (∀ b, b ∈ fp → ∃ k, W b = some k) ∧ Ext B0 W := by
  refine ⟨fun b hb => ?_, fun b k hk => hs b k (h0 b k hk) (h.2 b k hk)⟩
  obtain ⟨k, hk⟩ := h.1 b hb
  exact ⟨k, hs b k hb hk⟩
/-- Blocks that are kept. -/
def keepI (fp : List Nat) (B0 : View) (h0 : ∀ b k, B0 b = some k → b ∈ fp) : It := ⟨fp, fun V => (∀ b, b ∈ fp → ∃ k, V b = some k) ∧ Ext B0 V, fun h hs => keepI_stay h0 h hs, fun h => h.1⟩

theorem someTests_c (B A : View) (L : List It) (q : Nat) (sl : Value) (N : Nat) (hb : Bts B sl) (hN : N ≤ 600000000) (l : Led B (rdr q sl N :: L) A) : ACalls Try.prog 49 #[.pointer (some ⟨q, 0, none⟩)] A fun r V => ∃ fp ts, ts.length ≤ 11 ∧ (∀ t, t ∈ ts → genT t) ∧ Led B (rdl testS fp r ts :: rdr q sl (N + 150) :: L) V := by
  refine acalls Try.func49 rfl (by kernel_rfl) ?_
  simp (disch := omega) only [↓stq, amv_at, vls, inf, frs, mark_eq, ↓reduceIte, Nat.reduceEqDiff, ite_tt, ite_ff, eq_self, and_true, true_and, and_self, implies_true, Bool.true_eq_false, Bool.false_eq_true, decide_true, decide_false, decide_eq_true_eq, decide_eq_false_iff_not, ne_eq, not_true_eq_false, not_false_eq_true, Bool.not_eq_true', Bool.not_eq_false', beq_self_eq_true, Bool.not_true, Bool.not_false, List.getElem?_toArray, List.getElem?_cons_zero, List.getElem?_cons_succ]
  refine led_lit li25 (by omega) rfl (by simp [Value.cells, Value.oneCell']) l fun bn V _ l => ?_
  simp (disch := omega) only [↓stq, amv_at, vls, inf, frs, mark_eq, ↓reduceIte, Nat.reduceEqDiff, ite_tt, ite_ff, eq_self, and_true, true_and, and_self, implies_true, Bool.true_eq_false, Bool.false_eq_true, decide_true, decide_false, decide_eq_true_eq, decide_eq_false_iff_not, ne_eq, not_true_eq_false, not_false_eq_true, Bool.not_eq_true', Bool.not_eq_false', beq_self_eq_true, Bool.not_true, Bool.not_false, List.getElem?_toArray, List.getElem?_cons_zero, List.getElem?_cons_succ]
  replace l := l.upd (i := 0) (jt := osl 9 strO [bn] (.slice (some ⟨bn, 0, none⟩) 2 2) [⟨#[100, 98]⟩, ⟨#[116, 109, 112]⟩]) rfl rfl (Only.refl _ _) (lit_osl (ns := [⟨#[100, 98]⟩, ⟨#[116, 109, 112]⟩]) (c := 2) (l.at (i := 0) rfl) rfl rfl (by simp) (by simp) (by decide))
  refine (goodTests_c B V _ q sl N _ [⟨#[100, 98]⟩, ⟨#[116, 109, 112]⟩] hb (by omega) (fun V l => OSl.toS (l.at (i := 0) rfl)) (l.perm (List.Perm.swap ..))).mono ?_
  rintro r V ⟨fp, ts, ht1, ht2, l⟩
  obtain ⟨at1, ct, rfl, _, _⟩ := (OSl.toS (show OSl 34 testO V fp r ts from l.at (i := 0) rfl)).slice
  replace l : Led B (rdr q sl (N + 101) :: osl 34 testO fp (.slice at1 ts.length ct) ts :: L) V := (l.sub (.cons_cons _ (.cons_cons _ (.cons _ (List.Sublist.refl L))))).perm (List.Perm.swap ..)
  simp (disch := omega) only [↓stq, amv_at, vls, inf, frs, mark_eq, ↓reduceIte, Nat.reduceEqDiff, ite_tt, ite_ff, eq_self, and_true, true_and, and_self, implies_true, Bool.true_eq_false, Bool.false_eq_true, decide_true, decide_false, decide_eq_true_eq, decide_eq_false_iff_not, ne_eq, not_true_eq_false, not_false_eq_true, Bool.not_eq_true', Bool.not_eq_false', beq_self_eq_true, Bool.not_true, Bool.not_false, List.getElem?_toArray, List.getElem?_cons_zero, List.getElem?_cons_succ]
  have fin : ∀ (V : View) (M : Nat), M ≤ N + 150 → Led B (rdr q sl M :: osl 34 testO fp (.slice at1 ts.length ct) ts :: L) V → ∃ fp' ts', ts'.length ≤ 11 ∧ (∀ t, t ∈ ts' → genT t) ∧ Led B (rdl testS fp' (.slice at1 ts.length ct) ts' :: rdr q sl (N + 150) :: L) V := fun V M hM l =>
    ⟨fp, ts, by omega, ht2, ((rdr_more l hM).perm (List.Perm.swap ..)).upd (i := 0) rfl rfl (Only.refl _ _) (osl_rdl (l.at (i := 1) rfl))⟩
  refine ⟨fun e => ?_, fun e => ?_⟩ <;> simp (disch := omega) only [↓stq, amv_at, vls, inf, frs, mark_eq, ↓reduceIte, Nat.reduceEqDiff, ite_tt, ite_ff, eq_self, and_true, true_and, and_self, implies_true, Bool.true_eq_false, Bool.false_eq_true, decide_true, decide_false, decide_eq_true_eq, decide_eq_false_iff_not, ne_eq, not_true_eq_false, not_false_eq_true, Bool.not_eq_true', Bool.not_eq_false', beq_self_eq_true, Bool.not_true, Bool.not_false, List.getElem?_toArray, List.getElem?_cons_zero, List.getElem?_cons_succ]
  · refine (pick_c B V _ q sl _ ts.length hb (by omega) ⟨by omega, by omega⟩ l).mono ?_
    rintro _ V ⟨k, rfl, hk0, hk1, l⟩
    obtain ⟨k, rfl⟩ := Int.eq_ofNat_of_zero_le hk0
    have hkl : k < ts.length := by omega
    simp (disch := omega) only [↓stq, amv_at, vls, inf, frs, mark_eq, ↓reduceIte, Nat.reduceEqDiff, ite_tt, ite_ff, eq_self, and_true, true_and, and_self, implies_true, Bool.true_eq_false, Bool.false_eq_true, decide_true, decide_false, decide_eq_true_eq, decide_eq_false_iff_not, ne_eq, not_true_eq_false, not_false_eq_true, Bool.not_eq_true', Bool.not_eq_false', beq_self_eq_true, Bool.not_true, Bool.not_false, List.getElem?_toArray, List.getElem?_cons_zero, List.getElem?_cons_succ]
    refine (pick_c B V _ q sl _ 24 hb (by omega) ⟨by omega, by omega⟩ l).mono ?_
    rintro _ V ⟨u, rfl, hu0, hu1, l⟩
    simp (disch := omega) only [↓stq, amv_at, vls, inf, frs, mark_eq, ↓reduceIte, Nat.reduceEqDiff, ite_tt, ite_ff, eq_self, and_true, true_and, and_self, implies_true, Bool.true_eq_false, Bool.false_eq_true, decide_true, decide_false, decide_eq_true_eq, decide_eq_false_iff_not, ne_eq, not_true_eq_false, not_false_eq_true, Bool.not_eq_true', Bool.not_eq_false', beq_self_eq_true, Bool.not_true, Bool.not_false, List.getElem?_toArray, List.getElem?_cons_zero, List.getElem?_cons_succ]
    refine ⟨fun eu => ?_, fun eu => ?_⟩
    · obtain ⟨b, cb, d1, d2, d3, f1, f2, f3, hv, hcb, hd1, lo⟩ := (l.perm (List.Perm.swap ..)).openAt hkl
      injection hv with hv1 hv2 hv3
      subst hv1; subst hv3
      obtain ⟨gf, gu, gf3, gu3, rfl, rfl, z1, z2, og, og3⟩ := testO_open (show testO.rel V f2 ts[k] d2 from lo.at (i := 1) rfl)
      have hd1' : d1.length = k * 4 := hd1
      have hgk := ht2 _ (List.getElem_mem hkl)
      obtain ⟨am, cm, rfl, _, _⟩ := og.toS.slice
      obtain ⟨an, cn, rfl, _, _⟩ := og3.toS.slice
      have lq := (lo.perm (List.Perm.swap ..)).split2 (it1 := osl 9 strO gf _ (ts[k]).2.2.1) (it2 := osl 9 strO gf3 _ (ts[k]).2.2.2.1) rfl og og3
      replace l : Led B (rdr q sl (N + 101 + 1 + 1) :: osl 9 strO gf (.slice am (ts[k]).2.2.1.length cm) (ts[k]).2.2.1 :: osl 9 strO gf3 (.slice an (ts[k]).2.2.2.1.length cn) (ts[k]).2.2.2.1 :: bx b ⟨34, d1 ++ ([.string (ts[k]).1, .string (ts[k]).2.1, .slice am (ts[k]).2.2.1.length cm, .slice an (ts[k]).2.2.2.1.length cn] ++ d3), ct * 4, true⟩ :: oel testO f1 (ts.take k) d1 :: oel testO f3 (ts.drop (k + 1)) d3 :: L) V := lq.front 5 (by simp)
      clear lo lq
      simp (disch := omega) only [↓stq, amv_at, vls, inf, frs, mark_eq, ↓reduceIte, Nat.reduceEqDiff, ite_tt, ite_ff, eq_self, and_true, true_and, and_self, implies_true, Bool.true_eq_false, Bool.false_eq_true, decide_true, decide_false, decide_eq_true_eq, decide_eq_false_iff_not, ne_eq, not_true_eq_false, not_false_eq_true, Bool.not_eq_true', Bool.not_eq_false', beq_self_eq_true, Bool.not_true, Bool.not_false, List.getElem?_toArray, List.getElem?_cons_zero, List.getElem?_cons_succ]
      refine led_lit li25 (by omega) rfl (by simp [Value.cells, Value.oneCell']) l fun bl V _ l => ?_
      simp (disch := omega) only [↓stq, amv_at, vls, inf, frs, mark_eq, ↓reduceIte, Nat.reduceEqDiff, ite_tt, ite_ff, eq_self, and_true, true_and, and_self, implies_true, Bool.true_eq_false, Bool.false_eq_true, decide_true, decide_false, decide_eq_true_eq, decide_eq_false_iff_not, ne_eq, not_true_eq_false, not_false_eq_true, Bool.not_eq_true', Bool.not_eq_false', beq_self_eq_true, Bool.not_true, Bool.not_false, List.getElem?_toArray, List.getElem?_cons_zero, List.getElem?_cons_succ]
      refine (ofLit_c (n := 4) (c := 4) (xs := [_, _, _, _]) B V _ q sl _ hb (by omega) rfl rfl (by omega) (by decide) (by omega) (by omega) l).mono ?_
      rintro _ V ⟨s, rfl, hs, l⟩
      have hsz : s.size ≤ 100 := by revert s; decide
      simp (disch := omega) only [↓stq, amv_at, vls, inf, frs, mark_eq, ↓reduceIte, Nat.reduceEqDiff, ite_tt, ite_ff, eq_self, and_true, true_and, and_self, implies_true, Bool.true_eq_false, Bool.false_eq_true, decide_true, decide_false, decide_eq_true_eq, decide_eq_false_iff_not, ne_eq, not_true_eq_false, not_false_eq_true, Bool.not_eq_true', Bool.not_eq_false', beq_self_eq_true, Bool.not_true, Bool.not_false, List.getElem?_toArray, List.getElem?_cons_zero, List.getElem?_cons_succ, add_at]
      refine led_mid l 3 rfl sz9 (j := 1) (d' := [.string (ts[k]).1, .string s, .slice am (ts[k]).2.2.1.length cm, .slice an (ts[k]).2.2.2.1.length cn]) (by omega) ⟨rfl, rfl⟩ ⟨by simp, rfl⟩ fun W _ l => ?_
      have lm : Led B (bx b ⟨34, d1 ++ ([.string (ts[k]).1, .string s, .slice am (ts[k]).2.2.1.length cm, .slice an (ts[k]).2.2.2.1.length cn] ++ d3), ct * 4, true⟩ :: oc testO (gf ++ gf3) ((ts[k]).1, s, (ts[k]).2.2.1, (ts[k]).2.2.2.1, ()) [.string (ts[k]).1, .string s, .slice am (ts[k]).2.2.1.length cm, .slice an (ts[k]).2.2.2.1.length cn] :: oel testO f1 (ts.take k) d1 :: oel testO f3 (ts.drop (k + 1)) d3 :: rdr q sl (N + 101 + 1 + 1 + 1) :: L) W := by
        refine l.regroup (List.perm_iff_count.2 fun z => ?_) fun it hit => ?_
        · simp only [List.set_cons_succ, List.set_cons_zero, fps, List.flatMap_cons, bx, oc, oel, osl, rdr, List.count_append]
          omega
        · simp only [List.mem_cons] at hit
          rcases hit with rfl | rfl | rfl | rfl | rfl | hit
          · exact l.at (i := 3) rfl
          · exact testO_mk (x := ((ts[k]).1, s, (ts[k]).2.2.1, (ts[k]).2.2.2.1, ())) z1 (by show s.size ≤ _; omega) (l.at (i := 1) rfl) (l.at (i := 2) rfl)
          · exact l.at (i := 4) rfl
          · exact l.at (i := 5) rfl
          · exact l.at (i := 0) rfl
          · exact l.all it (by simp [hit])
      have lc := Led.closeAt (O := testO) lm hkl hcb (by omega)
      simp (disch := omega) only [↓stq, amv_at, vls, inf, frs, mark_eq, ↓reduceIte, Nat.reduceEqDiff, ite_tt, ite_ff, eq_self, and_true, true_and, and_self, implies_true, Bool.true_eq_false, Bool.false_eq_true, decide_true, decide_false, decide_eq_true_eq, decide_eq_false_iff_not, ne_eq, not_true_eq_false, not_false_eq_true, Bool.not_eq_true', Bool.not_eq_false', beq_self_eq_true, Bool.not_true, Bool.not_false, List.getElem?_toArray, List.getElem?_cons_zero, List.getElem?_cons_succ]
      exact ⟨_, ts.set k ((ts[k]).1, s, (ts[k]).2.2.1, (ts[k]).2.2.2.1, ()), by rw [List.length_set]; omega, (fun t ht => by
        rcases List.mem_or_eq_of_mem_set ht with ht | rfl
        · exact ht2 t ht
        · exact ⟨hgk.1, hsz, hgk.2.2⟩), ((rdr_more (lc.perm (List.Perm.swap ..)) (M := N + 150) (by omega)).perm (List.Perm.swap ..)).upd (i := 0) rfl rfl (Only.refl _ _) (osl_rdl (lc.at (i := 0) rfl))⟩
    · simp (disch := omega) only [↓stq, amv_at, vls, inf, frs, mark_eq, ↓reduceIte, Nat.reduceEqDiff, ite_tt, ite_ff, eq_self, and_true, true_and, and_self, implies_true, Bool.true_eq_false, Bool.false_eq_true, decide_true, decide_false, decide_eq_true_eq, decide_eq_false_iff_not, ne_eq, not_true_eq_false, not_false_eq_true, Bool.not_eq_true', Bool.not_eq_false', beq_self_eq_true, Bool.not_true, Bool.not_false, List.getElem?_toArray, List.getElem?_cons_zero, List.getElem?_cons_succ]
      refine ⟨fun eu => ?_, fun eu => ?_⟩
      · obtain ⟨b, cb, d1, d2, d3, f1, f2, f3, hv, hcb, hd1, lo⟩ := (l.perm (List.Perm.swap ..)).openAt hkl
        injection hv with hv1 hv2 hv3
        subst hv1; subst hv3
        obtain ⟨gf, gu, gf3, gu3, rfl, rfl, z1, z2, og, og3⟩ := testO_open (show testO.rel V f2 ts[k] d2 from lo.at (i := 1) rfl)
        have hd1' : d1.length = k * 4 := hd1
        have hgk := ht2 _ (List.getElem_mem hkl)
        obtain ⟨am, cm, rfl, _, _⟩ := og.toS.slice
        obtain ⟨an, cn, rfl, _, _⟩ := og3.toS.slice
        have lq := (lo.perm (List.Perm.swap ..)).split2 (it1 := osl 9 strO gf _ (ts[k]).2.2.1) (it2 := osl 9 strO gf3 _ (ts[k]).2.2.2.1) rfl og og3
        replace l : Led B (rdr q sl (N + 101 + 1 + 1) :: osl 9 strO gf (.slice am (ts[k]).2.2.1.length cm) (ts[k]).2.2.1 :: osl 9 strO gf3 (.slice an (ts[k]).2.2.2.1.length cn) (ts[k]).2.2.2.1 :: bx b ⟨34, d1 ++ ([.string (ts[k]).1, .string (ts[k]).2.1, .slice am (ts[k]).2.2.1.length cm, .slice an (ts[k]).2.2.2.1.length cn] ++ d3), ct * 4, true⟩ :: oel testO f1 (ts.take k) d1 :: oel testO f3 (ts.drop (k + 1)) d3 :: L) V := lq.front 5 (by simp)
        clear lo lq
        simp (disch := omega) only [↓stq, amv_at, vls, inf, frs, mark_eq, ↓reduceIte, Nat.reduceEqDiff, ite_tt, ite_ff, eq_self, and_true, true_and, and_self, implies_true, Bool.true_eq_false, Bool.false_eq_true, decide_true, decide_false, decide_eq_true_eq, decide_eq_false_iff_not, ne_eq, not_true_eq_false, not_false_eq_true, Bool.not_eq_true', Bool.not_eq_false', beq_self_eq_true, Bool.not_true, Bool.not_false, List.getElem?_toArray, List.getElem?_cons_zero, List.getElem?_cons_succ]
        refine led_lit li25 (by omega) rfl (by simp [Value.cells, Value.oneCell']) l fun bl V _ l => ?_
        simp (disch := omega) only [↓stq, amv_at, vls, inf, frs, mark_eq, ↓reduceIte, Nat.reduceEqDiff, ite_tt, ite_ff, eq_self, and_true, true_and, and_self, implies_true, Bool.true_eq_false, Bool.false_eq_true, decide_true, decide_false, decide_eq_true_eq, decide_eq_false_iff_not, ne_eq, not_true_eq_false, not_false_eq_true, Bool.not_eq_true', Bool.not_eq_false', beq_self_eq_true, Bool.not_true, Bool.not_false, List.getElem?_toArray, List.getElem?_cons_zero, List.getElem?_cons_succ, add_at]
        refine led_mid l 4 rfl sz25 (j := 2) (d' := [.string (ts[k]).1, .string (ts[k]).2.1, .slice (some ⟨bl, 0, none⟩) 2 2, .slice an (ts[k]).2.2.2.1.length cn]) (by omega) ⟨rfl, rfl⟩ ⟨by simp, rfl⟩ fun W _ l => ?_
        replace l := l.sub (.cons_cons _ (.cons_cons _ (.cons _ (List.Sublist.refl _))))
        have lm : Led B (bx b ⟨34, d1 ++ ([.string (ts[k]).1, .string (ts[k]).2.1, .slice (some ⟨bl, 0, none⟩) 2 2, .slice an (ts[k]).2.2.2.1.length cn] ++ d3), ct * 4, true⟩ :: oc testO ([bl] ++ gf3) ((ts[k]).1, (ts[k]).2.1, [⟨#[115, 108, 111, 119]⟩, ⟨#[102, 97, 115, 116]⟩], (ts[k]).2.2.2.1, ()) [.string (ts[k]).1, .string (ts[k]).2.1, .slice (some ⟨bl, 0, none⟩) 2 2, .slice an (ts[k]).2.2.2.1.length cn] :: oel testO f1 (ts.take k) d1 :: oel testO f3 (ts.drop (k + 1)) d3 :: rdr q sl (N + 101 + 1 + 1) :: L) W := by
          refine l.regroup (List.perm_iff_count.2 fun z => ?_) fun it hit => ?_
          · simp only [List.set_cons_succ, List.set_cons_zero, fps, List.flatMap_cons, bx, oc, oel, osl, rdr, List.count_append]
            omega
          · simp only [List.mem_cons] at hit
            rcases hit with rfl | rfl | rfl | rfl | rfl | hit
            · exact l.at (i := 3) rfl
            · exact testO_mk (x := ((ts[k]).1, (ts[k]).2.1, [⟨#[115, 108, 111, 119]⟩, ⟨#[102, 97, 115, 116]⟩], (ts[k]).2.2.2.1, ())) z1 z2 (lit_osl (ns := [⟨#[115, 108, 111, 119]⟩, ⟨#[102, 97, 115, 116]⟩]) (c := 2) (l.at (i := 0) rfl) rfl rfl (by simp) (by simp) (by decide)) (l.at (i := 2) rfl)
            · exact l.at (i := 4) rfl
            · exact l.at (i := 5) rfl
            · exact l.at (i := 1) rfl
            · exact l.all it (by simp [hit])
        have lc := Led.closeAt (O := testO) lm hkl hcb (by omega)
        simp (disch := omega) only [↓stq, amv_at, vls, inf, frs, mark_eq, ↓reduceIte, Nat.reduceEqDiff, ite_tt, ite_ff, eq_self, and_true, true_and, and_self, implies_true, Bool.true_eq_false, Bool.false_eq_true, decide_true, decide_false, decide_eq_true_eq, decide_eq_false_iff_not, ne_eq, not_true_eq_false, not_false_eq_true, Bool.not_eq_true', Bool.not_eq_false', beq_self_eq_true, Bool.not_true, Bool.not_false, List.getElem?_toArray, List.getElem?_cons_zero, List.getElem?_cons_succ]
        exact ⟨_, ts.set k ((ts[k]).1, (ts[k]).2.1, [⟨#[115, 108, 111, 119]⟩, ⟨#[102, 97, 115, 116]⟩], (ts[k]).2.2.2.1, ()), by rw [List.length_set]; omega, (fun t ht => by
          rcases List.mem_or_eq_of_mem_set ht with ht | rfl
          · exact ht2 t ht
          · exact ⟨hgk.1, hgk.2.1, by show 2 ≤ 3; omega, hgk.2.2.2⟩), ((rdr_more (lc.perm (List.Perm.swap ..)) (M := N + 150) (by omega)).perm (List.Perm.swap ..)).upd (i := 0) rfl rfl (Only.refl _ _) (osl_rdl (lc.at (i := 0) rfl))⟩
      · simp (disch := omega) only [↓stq, amv_at, vls, inf, frs, mark_eq, ↓reduceIte, Nat.reduceEqDiff, ite_tt, ite_ff, eq_self, and_true, true_and, and_self, implies_true, Bool.true_eq_false, Bool.false_eq_true, decide_true, decide_false, decide_eq_true_eq, decide_eq_false_iff_not, ne_eq, not_true_eq_false, not_false_eq_true, Bool.not_eq_true', Bool.not_eq_false', beq_self_eq_true, Bool.not_true, Bool.not_false, List.getElem?_toArray, List.getElem?_cons_zero, List.getElem?_cons_succ]
        refine ⟨fun eu => ?_, fun eu => ?_⟩
        · obtain ⟨hlen, ⟨_, hz0, _⟩ | ⟨b, c, cells, f, hv, hc, rfl, hbk, he⟩⟩ := (show OSl 34 testO V fp _ ts from l.at (i := 1) rfl)
          · rw [hz0] at hkl
            cases hkl
          injection hv with hv1 hv2 hv3
          subst hv1; subst hv3
          obtain ⟨f1, f2, f3, d1, d2, d3, hf, rfl, hd1, h1, h2, h3⟩ := he.at hkl
          have hd1' : d1.length = k * 4 := hd1
          have hgk := ht2 _ (List.getElem_mem hkl)
          have h2s : testS.rel (V.only f) ts[k] d2 := testO.toS (testO.stay h2 fun y ky hy hq => View.only_of (by rw [hf]; exact List.mem_append_right _ (List.mem_append_left _ hy)) hq)
          have hcl : V.part ⟨b, 0 + k * 4, none⟩ 4 = some d2 := by
            have hl2 : d2.length = 4 := testS.len h2s
            have := part_at (A := V) (off := 0 + k * 4) (n := 4) hbk (by simp only [List.length_append]; omega) (fun y hy => he.toS.one y (List.mem_of_mem_drop (List.mem_of_mem_take hy)))
            rw [this]
            show some (((d1 ++ (d2 ++ d3)).drop (0 + k * 4)).take 4) = _
            rw [Nat.zero_add, List.drop_left' hd1', List.take_left' hl2]
          obtain ⟨u2, u3, rfl, z1, z2, g2, g3⟩ := testS_open h2s
          have lr : Led B (rdr q sl (N + 101 + 1 + 1) :: rsl 34 testS (V.only f) [b] (.slice (some ⟨b, 0, none⟩) ts.length ct) ts :: keepI f (V.only f) (fun y ky hy => by
            unfold View.only at hy
            split at hy
            · assumption
            · cases hy) :: L) V := by
            refine l.regroup (List.perm_iff_count.2 fun z => ?_) fun it hit => ?_
            · simp only [fps, List.flatMap_cons, rsl, keepI, osl, rdr, List.count_append, List.count_cons, List.count_nil]
              omega
            · simp only [List.mem_cons] at hit
              rcases hit with rfl | rfl | rfl | hit
              · exact l.at (i := 0) rfl
              · exact (show RSl 34 testS (V.only f) V [b] _ ts from ⟨hlen, .inr ⟨b, ct, _, rfl, hc, rfl, hbk, (he.stay fun y ky hy hq => View.only_of hy hq).toS⟩⟩)
              · exact ⟨fun y hy => he.has y hy, View.only_ext V f⟩
              · exact l.all it (by simp [hit])
          replace hcl : V.part ((⟨b, 0, none⟩ : Addr).add (k * 4)) 4 = some [.string (ts[k]).1, .string (ts[k]).2.1, u2, u3] := by rw [add_at]; exact hcl
          obtain ⟨am, cm, rfl, _, _⟩ := g2.slice
          obtain ⟨an, cn, rfl, _, _⟩ := g3.slice
          simp (disch := omega) only [↓stq, amv_at, vls, inf, frs, mark_eq, ↓reduceIte, Nat.reduceEqDiff, ite_tt, ite_ff, eq_self, and_true, true_and, and_self, implies_true, Bool.true_eq_false, Bool.false_eq_true, decide_true, decide_false, decide_eq_true_eq, decide_eq_false_iff_not, ne_eq, not_true_eq_false, not_false_eq_true, Bool.not_eq_true', Bool.not_eq_false', beq_self_eq_true, Bool.not_true, Bool.not_false, List.getElem?_toArray, List.getElem?_cons_zero, List.getElem?_cons_succ, hcl]
          refine led_lit li23 (by omega) rfl (fun p hp => by rcases List.mem_singleton.1 hp with rfl; exact ⟨rfl, rfl⟩) lr fun bl V2 _ l => ?_
          simp (disch := omega) only [↓stq, amv_at, vls, inf, frs, mark_eq, ↓reduceIte, Nat.reduceEqDiff, ite_tt, ite_ff, eq_self, and_true, true_and, and_self, implies_true, Bool.true_eq_false, Bool.false_eq_true, decide_true, decide_false, decide_eq_true_eq, decide_eq_false_iff_not, ne_eq, not_true_eq_false, not_false_eq_true, Bool.not_eq_true', Bool.not_eq_false', beq_self_eq_true, Bool.not_true, Bool.not_false, List.getElem?_toArray, List.getElem?_cons_zero, List.getElem?_cons_succ]
          refine led_appR (S := testS) (B := V.only f) (ys := [ts[k]]) (news := [.string (ts[k]).1, .string (ts[k]).2.1, .slice am (ts[k]).2.2.1.length cm, .slice an (ts[k]).2.2.2.1.length cn]) ap23_23 (by decide) l (i := 2) rfl ?_ ?_ (by rw [List.length_singleton]; omega) fun fp' v' W _ l => ?_
          · have hb2 : V2.part ⟨bl, 0, none⟩ 4 = some [.string (ts[k]).1, .string (ts[k]).2.1, .slice am (ts[k]).2.2.1.length cm, .slice an (ts[k]).2.2.2.1.length cn] := l.part (i := 0) rfl rfl
            show (if 1 = 0 then some (0, []) else (V2.part ⟨bl, 0, none⟩ (1 * 4)).map fun cs => (1, cs)) = _
            rw [if_neg (by decide), hb2]
            rfl
          · have := Elems.cons (S := testS) (A := V.only f) (x := ts[k]) (xs := []) h2s .nil
            simpa using this
          simp (disch := omega) only [↓stq, amv_at, vls, inf, frs, mark_eq, ↓reduceIte, Nat.reduceEqDiff, ite_tt, ite_ff, eq_self, and_true, true_and, and_self, implies_true, Bool.true_eq_false, Bool.false_eq_true, decide_true, decide_false, decide_eq_true_eq, decide_eq_false_iff_not, ne_eq, not_true_eq_false, not_false_eq_true, Bool.not_eq_true', Bool.not_eq_false', beq_self_eq_true, Bool.not_true, Bool.not_false, List.getElem?_toArray, List.getElem?_cons_zero, List.getElem?_cons_succ]
          replace l := l.tail
          have lf : Led B (rdl testS (fp' ++ f) v' (ts ++ [ts[k]]) :: rdr q sl (N + 101 + 1 + 1) :: L) W := by
            have hr : RSl 34 testS (V.only f) W fp' v' (ts ++ [ts[k]]) := l.at (i := 1) rfl
            have hkp : (∀ y, y ∈ f → ∃ ky, W y = some ky) ∧ Ext (V.only f) W := l.at (i := 2) rfl
            refine l.regroup (List.perm_iff_count.2 fun z => ?_) fun it hit => ?_
            · simp only [List.tail_cons, List.set_cons_succ, List.set_cons_zero, fps, List.flatMap_cons, rsl, keepI, rdl, rdr, List.count_append]
              omega
            · simp only [List.mem_cons] at hit
              rcases hit with rfl | rfl | hit
              · refine ⟨fun y hy => ?_, RSl.toS (show RSl 34 testS (V.only f) (W.only (fp' ++ f)) fp' v' _ from (rsl 34 testS (V.only f) fp' v' (ts ++ [ts[k]])).stay hr fun y ky hy hq => View.only_of (List.mem_append_left _ hy) hq) fun y ky hq => ?_⟩
                · rcases List.mem_append.1 hy with hy | hy
                  · exact (rsl 34 testS (V.only f) fp' v' (ts ++ [ts[k]])).has hr y hy
                  · exact hkp.1 y hy
                · have hyf : y ∈ f := by
                    unfold View.only at hq
                    split at hq
                    · assumption
                    · cases hq
                  exact View.only_of (List.mem_append_right _ hyf) (hkp.2 y ky hq)
              · exact l.at (i := 0) rfl
              · exact l.all it (by simp [hit])
          exact ⟨_, ts ++ [ts[k]], by rw [List.length_append, List.length_singleton]; omega, (fun t ht => by
            rcases List.mem_append.1 ht with ht | ht
            · exact ht2 t ht
            · rw [List.mem_singleton.1 ht]; exact hgk), (rdr_more (lf.perm (List.Perm.swap ..)) (M := N + 150) (by omega)).perm (List.Perm.swap ..)⟩
        · simp (disch := omega) only [↓stq, amv_at, vls, inf, frs, mark_eq, ↓reduceIte, Nat.reduceEqDiff, ite_tt, ite_ff, eq_self, and_true, true_and, and_self, implies_true, Bool.true_eq_false, Bool.false_eq_true, decide_true, decide_false, decide_eq_true_eq, decide_eq_false_iff_not, ne_eq, not_true_eq_false, not_false_eq_true, Bool.not_eq_true', Bool.not_eq_false', beq_self_eq_true, Bool.not_true, Bool.not_false, List.getElem?_toArray, List.getElem?_cons_zero, List.getElem?_cons_succ]
          refine ⟨fun eu => ?_, fun eu => ?_⟩
          · obtain ⟨b, cb, d1, d2, d3, f1, f2, f3, hv, hcb, hd1, lo⟩ := (l.perm (List.Perm.swap ..)).openAt hkl
            injection hv with hv1 hv2 hv3
            subst hv1; subst hv3
            obtain ⟨gf, gu, gf3, gu3, rfl, rfl, z1, z2, og, og3⟩ := testO_open (show testO.rel V f2 ts[k] d2 from lo.at (i := 1) rfl)
            have hd1' : d1.length = k * 4 := hd1
            have hgk := ht2 _ (List.getElem_mem hkl)
            obtain ⟨am, cm, rfl, _, _⟩ := og.toS.slice
            obtain ⟨an, cn, rfl, _, _⟩ := og3.toS.slice
            have lq := (lo.perm (List.Perm.swap ..)).split2 (it1 := osl 9 strO gf _ (ts[k]).2.2.1) (it2 := osl 9 strO gf3 _ (ts[k]).2.2.2.1) rfl og og3
            replace l : Led B (rdr q sl (N + 101 + 1 + 1) :: osl 9 strO gf (.slice am (ts[k]).2.2.1.length cm) (ts[k]).2.2.1 :: osl 9 strO gf3 (.slice an (ts[k]).2.2.2.1.length cn) (ts[k]).2.2.2.1 :: bx b ⟨34, d1 ++ ([.string (ts[k]).1, .string (ts[k]).2.1, .slice am (ts[k]).2.2.1.length cm, .slice an (ts[k]).2.2.2.1.length cn] ++ d3), ct * 4, true⟩ :: oel testO f1 (ts.take k) d1 :: oel testO f3 (ts.drop (k + 1)) d3 :: L) V := lq.front 5 (by simp)
            clear lo lq
            simp (disch := omega) only [↓stq, amv_at, vls, inf, frs, mark_eq, ↓reduceIte, Nat.reduceEqDiff, ite_tt, ite_ff, eq_self, and_true, true_and, and_self, implies_true, Bool.true_eq_false, Bool.false_eq_true, decide_true, decide_false, decide_eq_true_eq, decide_eq_false_iff_not, ne_eq, not_true_eq_false, not_false_eq_true, Bool.not_eq_true', Bool.not_eq_false', beq_self_eq_true, Bool.not_true, Bool.not_false, List.getElem?_toArray, List.getElem?_cons_zero, List.getElem?_cons_succ]
            refine led_lit li25 (by omega) rfl (by simp [Value.cells, Value.oneCell']) l fun bl V _ l => ?_
            simp (disch := omega) only [↓stq, amv_at, vls, inf, frs, mark_eq, ↓reduceIte, Nat.reduceEqDiff, ite_tt, ite_ff, eq_self, and_true, true_and, and_self, implies_true, Bool.true_eq_false, Bool.false_eq_true, decide_true, decide_false, decide_eq_true_eq, decide_eq_false_iff_not, ne_eq, not_true_eq_false, not_false_eq_true, Bool.not_eq_true', Bool.not_eq_false', beq_self_eq_true, Bool.not_true, Bool.not_false, List.getElem?_toArray, List.getElem?_cons_zero, List.getElem?_cons_succ, add_at]
            refine led_mid l 4 rfl sz25 (j := 3) (d' := [.string (ts[k]).1, .string (ts[k]).2.1, .slice am (ts[k]).2.2.1.length cm, .slice (some ⟨bl, 0, none⟩) 2 2]) (by omega) ⟨rfl, rfl⟩ ⟨by simp, rfl⟩ fun W _ l => ?_
            replace l := l.sub (.cons_cons _ (.cons_cons _ (.cons_cons _ (.cons _ (List.Sublist.refl _)))))
            have lm : Led B (bx b ⟨34, d1 ++ ([.string (ts[k]).1, .string (ts[k]).2.1, .slice am (ts[k]).2.2.1.length cm, .slice (some ⟨bl, 0, none⟩) 2 2] ++ d3), ct * 4, true⟩ :: oc testO (gf ++ [bl]) ((ts[k]).1, (ts[k]).2.1, (ts[k]).2.2.1, [⟨#[100, 98]⟩, ⟨#[100, 98]⟩], ()) [.string (ts[k]).1, .string (ts[k]).2.1, .slice am (ts[k]).2.2.1.length cm, .slice (some ⟨bl, 0, none⟩) 2 2] :: oel testO f1 (ts.take k) d1 :: oel testO f3 (ts.drop (k + 1)) d3 :: rdr q sl (N + 101 + 1 + 1) :: L) W := by
              refine l.regroup (List.perm_iff_count.2 fun z => ?_) fun it hit => ?_
              · simp only [List.set_cons_succ, List.set_cons_zero, fps, List.flatMap_cons, bx, oc, oel, osl, rdr, List.count_append]
                omega
              · simp only [List.mem_cons] at hit
                rcases hit with rfl | rfl | rfl | rfl | rfl | hit
                · exact l.at (i := 3) rfl
                · exact testO_mk (x := ((ts[k]).1, (ts[k]).2.1, (ts[k]).2.2.1, [⟨#[100, 98]⟩, ⟨#[100, 98]⟩], ())) z1 z2 (l.at (i := 2) rfl) (lit_osl (ns := [⟨#[100, 98]⟩, ⟨#[100, 98]⟩]) (c := 2) (l.at (i := 0) rfl) rfl rfl (by simp) (by simp) (by decide))
                · exact l.at (i := 4) rfl
                · exact l.at (i := 5) rfl
                · exact l.at (i := 1) rfl
                · exact l.all it (by simp [hit])
            have lc := Led.closeAt (O := testO) lm hkl hcb (by omega)
            simp (disch := omega) only [↓stq, amv_at, vls, inf, frs, mark_eq, ↓reduceIte, Nat.reduceEqDiff, ite_tt, ite_ff, eq_self, and_true, true_and, and_self, implies_true, Bool.true_eq_false, Bool.false_eq_true, decide_true, decide_false, decide_eq_true_eq, decide_eq_false_iff_not, ne_eq, not_true_eq_false, not_false_eq_true, Bool.not_eq_true', Bool.not_eq_false', beq_self_eq_true, Bool.not_true, Bool.not_false, List.getElem?_toArray, List.getElem?_cons_zero, List.getElem?_cons_succ]
            exact ⟨_, ts.set k ((ts[k]).1, (ts[k]).2.1, (ts[k]).2.2.1, [⟨#[100, 98]⟩, ⟨#[100, 98]⟩], ()), by rw [List.length_set]; omega, (fun t ht => by
              rcases List.mem_or_eq_of_mem_set ht with ht | rfl
              · exact ht2 t ht
              · exact ⟨hgk.1, hgk.2.1, hgk.2.2.1, by show 2 ≤ 3; omega⟩), ((rdr_more (lc.perm (List.Perm.swap ..)) (M := N + 150) (by omega)).perm (List.Perm.swap ..)).upd (i := 0) rfl rfl (Only.refl _ _) (osl_rdl (lc.at (i := 0) rfl))⟩
          · simp (disch := omega) only [↓stq, amv_at, vls, inf, frs, mark_eq, ↓reduceIte, Nat.reduceEqDiff, ite_tt, ite_ff, eq_self, and_true, true_and, and_self, implies_true, Bool.true_eq_false, Bool.false_eq_true, decide_true, decide_false, decide_eq_true_eq, decide_eq_false_iff_not, ne_eq, not_true_eq_false, not_false_eq_true, Bool.not_eq_true', Bool.not_eq_false', beq_self_eq_true, Bool.not_true, Bool.not_false, List.getElem?_toArray, List.getElem?_cons_zero, List.getElem?_cons_succ]
            exact fin V _ (by omega) l
  · exact fin V _ (by omega) l

end Go.Proofs.Ytbddklkfekiaeaa

