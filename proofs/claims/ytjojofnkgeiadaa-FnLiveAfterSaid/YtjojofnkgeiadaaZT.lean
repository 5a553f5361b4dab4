/- Generators: tests. -/
import Derived.Test.YtjojofnkgeiadaaV2
import Derived.Test.YtjojofnkgeiadaaZ3
set_option maxHeartbeats 4000000
set_option synthInstance.maxHeartbeats 400000
set_option synthInstance.maxSize 4096
set_option linter.unusedSimpArgs false
set_option linter.unusedVariables false
namespace Go.Proofs.Ytjojofnkgeiadaa

set_option maxRecDepth 100000

theorem lit_osl {V : View} {b c room : Nat} {cells : List Value} {ns : List ByteArray} (hb : V b = some ⟨9, cells, room, true⟩) (hr : room = c * 1) (hcl : cells = ns.map Value.string) (hc : ns.length ≤ c) (hl : ns.length ≤ 1000) (hz : ∀ x, x ∈ ns → x.size ≤ 100) : OSl 9 strO V [b] (.slice (some ⟨b, 0, none⟩) ns.length c) ns := by
  subst hr; subst hcl
  exact ⟨by omega, .inr ⟨b, c, _, [], rfl, hc, rfl, hb, OElems.flatE (A := V) (elems_str _ fun x hx => by have := hz x hx; omega)⟩⟩

def genT (t : TestD) : Prop := t.1.size ≤ 100 ∧ t.2.1.size ≤ 100 ∧ t.2.2.1.length ≤ 3 ∧ t.2.2.2.1.length ≤ 3
theorem goodTests_c (B A : View) (L : List It) (q : Nat) (sl : Value) (N : Nat) (v : Value) (xs : List ByteArray) (hb : Bts B sl) (hN : N ≤ 800000000) (hx : ∀ V, Led B L V → Sl strS V v xs) (l : Led B (rdr q sl N :: L) A) : ACalls Try.prog 120 #[.pointer (some ⟨q, 0, none⟩), v] A fun r V => ∃ fp ts, ts.length ≤ 10 ∧ (∀ t, t ∈ ts → genT t) ∧ Led B (osl 38 testO fp r ts :: rdr q sl (N + 101) :: L) V := by
  obtain ⟨a, c, rfl, _, hle⟩ := (hx A l.tail).slice
  refine acalls Try.func120 rfl (by kernel_rfl) ?_
  simp (disch := omega) only [↓stq, amv_at, vls, inf, frs, mark_eq, ↓reduceIte, Nat.reduceEqDiff, ite_tt, ite_ff, eq_self, and_true, true_and, and_self, implies_true, Bool.true_eq_false, Bool.false_eq_true, decide_true, decide_false, decide_eq_true_eq, decide_eq_false_iff_not, ne_eq, not_true_eq_false, not_false_eq_true, Bool.not_eq_true', Bool.not_eq_false', beq_self_eq_true, Bool.not_true, Bool.not_false, List.getElem?_toArray, List.getElem?_cons_zero, List.getElem?_cons_succ]
  refine led_lit0 (O := testO) li24 l fun b V _ l => ?_
  simp (disch := omega) only [↓stq, amv_at, vls, inf, frs, mark_eq, ↓reduceIte, Nat.reduceEqDiff, ite_tt, ite_ff, eq_self, and_true, true_and, and_self, implies_true, Bool.true_eq_false, Bool.false_eq_true, decide_true, decide_false, decide_eq_true_eq, decide_eq_false_iff_not, ne_eq, not_true_eq_false, not_false_eq_true, Bool.not_eq_true', Bool.not_eq_false', beq_self_eq_true, Bool.not_true, Bool.not_false, List.getElem?_toArray, List.getElem?_cons_zero, List.getElem?_cons_succ]
  refine led_lit li88 (by omega) rfl (by simp [Value.cells, Value.oneCell']) l fun bl V _ l => ?_
  simp (disch := omega) only [↓stq, amv_at, vls, inf, frs, mark_eq, ↓reduceIte, Nat.reduceEqDiff, ite_tt, ite_ff, eq_self, and_true, true_and, and_self, implies_true, Bool.true_eq_false, Bool.false_eq_true, decide_true, decide_false, decide_eq_true_eq, decide_eq_false_iff_not, ne_eq, not_true_eq_false, not_false_eq_true, Bool.not_eq_true', Bool.not_eq_false', beq_self_eq_true, Bool.not_true, Bool.not_false, List.getElem?_toArray, List.getElem?_cons_zero, List.getElem?_cons_succ]
  refine (oneLit_c (n := 8) (c := 8) (xs := [_, _, _, _, _, _, _, _]) B V (osl 38 testO [b] _ [] :: L) q sl N hb (by omega) rfl rfl (by omega) (by decide) (by omega) (by omega) (l.perm ((List.Perm.swap ..).cons _))).mono ?_
  rintro _ V ⟨s, rfl, hs, l⟩
  have hs3 : 0 ≤ s ∧ s ≤ 10 := by revert s; decide
  obtain ⟨n, rfl⟩ := Int.eq_ofNat_of_zero_le hs3.1
  simp (disch := omega) only [↓stq, amv_at, vls, inf, frs, mark_eq, ↓reduceIte, Nat.reduceEqDiff, ite_tt, ite_ff, eq_self, and_true, true_and, and_self, implies_true, Bool.true_eq_false, Bool.false_eq_true, decide_true, decide_false, decide_eq_true_eq, decide_eq_false_iff_not, ne_eq, not_true_eq_false, not_false_eq_true, Bool.not_eq_true', Bool.not_eq_false', beq_self_eq_true, Bool.not_true, Bool.not_false, List.getElem?_toArray, List.getElem?_cons_zero, List.getElem?_cons_succ]
  refine aloop (fun d fr V => ∃ (k : Nat) (fp : List Nat) (w : Value) (ts : List TestD), d = k ∧ k ≤ n ∧ ts.length + k ≤ n ∧ Led B (osl 38 testO fp w ts :: rdr q sl (N + 1 + 10 * (n - k)) :: L) V ∧ fr 0 = .pointer (some ⟨q, 0, none⟩) ∧ fr 1 = .slice a xs.length c ∧ fr 5 = w ∧ fr 6 = .int .i64 k ∧ ∀ t, t ∈ ts → genT t) n ⟨n, _, _, [], rfl, by omega, by simp, by rw [Nat.sub_self]; exact l.perm (List.Perm.swap ..), by rfl, by rfl, by rfl, by rfl, by simp⟩ ?_
  clear l
  rintro k fr V ⟨_, fp, w, ts, rfl, hkn, hk, l, h0, h1, h5, h6, hy⟩
  simp (disch := omega) only [↓stq, amv_at, vls, inf, frs, mark_eq, ↓reduceIte, Nat.reduceEqDiff, ite_tt, ite_ff, eq_self, and_true, true_and, and_self, implies_true, Bool.true_eq_false, Bool.false_eq_true, decide_true, decide_false, decide_eq_true_eq, decide_eq_false_iff_not, ne_eq, not_true_eq_false, not_false_eq_true, Bool.not_eq_true', Bool.not_eq_false', beq_self_eq_true, Bool.not_true, Bool.not_false, List.getElem?_toArray, List.getElem?_cons_zero, List.getElem?_cons_succ, h0, h1, h5, h6]
  refine ⟨fun e => ?_, fun e => ?_⟩ <;> simp (disch := omega) only [↓stq, amv_at, vls, inf, frs, mark_eq, ↓reduceIte, Nat.reduceEqDiff, ite_tt, ite_ff, eq_self, and_true, true_and, and_self, implies_true, Bool.true_eq_false, Bool.false_eq_true, decide_true, decide_false, decide_eq_true_eq, decide_eq_false_iff_not, ne_eq, not_true_eq_false, not_false_eq_true, Bool.not_eq_true', Bool.not_eq_false', beq_self_eq_true, Bool.not_true, Bool.not_false, List.getElem?_toArray, List.getElem?_cons_zero, List.getElem?_cons_succ, h0, h1, h5, h6]
  · refine (aModule_c B V (osl 38 testO fp w ts :: L) q sl _ hb (by omega) (l.perm (List.Perm.swap ..))).mono ?_
    rintro _ V ⟨s1, rfl, hz1, l⟩
    simp (disch := omega) only [↓stq, amv_at, vls, inf, frs, mark_eq, ↓reduceIte, Nat.reduceEqDiff, ite_tt, ite_ff, eq_self, and_true, true_and, and_self, implies_true, Bool.true_eq_false, Bool.false_eq_true, decide_true, decide_false, decide_eq_true_eq, decide_eq_false_iff_not, ne_eq, not_true_eq_false, not_false_eq_true, Bool.not_eq_true', Bool.not_eq_false', beq_self_eq_true, Bool.not_true, Bool.not_false, List.getElem?_toArray, List.getElem?_cons_zero, List.getElem?_cons_succ, h0, h1, h5, h6]
    refine led_lit li31 (by omega) rfl (by simp [Value.cells, Value.oneCell']) l fun bl V _ l => ?_
    simp (disch := omega) only [↓stq, amv_at, vls, inf, frs, mark_eq, ↓reduceIte, Nat.reduceEqDiff, ite_tt, ite_ff, eq_self, and_true, true_and, and_self, implies_true, Bool.true_eq_false, Bool.false_eq_true, decide_true, decide_false, decide_eq_true_eq, decide_eq_false_iff_not, ne_eq, not_true_eq_false, not_false_eq_true, Bool.not_eq_true', Bool.not_eq_false', beq_self_eq_true, Bool.not_true, Bool.not_false, List.getElem?_toArray, List.getElem?_cons_zero, List.getElem?_cons_succ, h0, h1, h5, h6]
    refine (ofLit_c (n := 5) (c := 5) (xs := [_, _, _, _, _]) B V (osl 38 testO fp w ts :: L) q sl _ hb (by omega) rfl rfl (by omega) (by decide) (by omega) (by omega) l).mono ?_
    rintro _ V ⟨s2, rfl, hs2, l⟩
    have hz2 : s2.size ≤ 100 := by revert s2; decide
    simp (disch := omega) only [↓stq, amv_at, vls, inf, frs, mark_eq, ↓reduceIte, Nat.reduceEqDiff, ite_tt, ite_ff, eq_self, and_true, true_and, and_self, implies_true, Bool.true_eq_false, Bool.false_eq_true, decide_true, decide_false, decide_eq_true_eq, decide_eq_false_iff_not, ne_eq, not_true_eq_false, not_false_eq_true, Bool.not_eq_true', Bool.not_eq_false', beq_self_eq_true, Bool.not_true, Bool.not_false, List.getElem?_toArray, List.getElem?_cons_zero, List.getElem?_cons_succ, h0, h1, h5, h6]
    refine (someMarks_c B V (osl 38 testO fp w ts :: L) q sl _ hb (by omega) l).mono ?_
    rintro r1 V ⟨fm, ms, hm1, hm2, l⟩
    obtain ⟨am, cm, rfl, _, _⟩ := (OSl.toS (show OSl 9 strO V fm r1 ms from l.at (i := 0) rfl)).slice
    simp (disch := omega) only [↓stq, amv_at, vls, inf, frs, mark_eq, ↓reduceIte, Nat.reduceEqDiff, ite_tt, ite_ff, eq_self, and_true, true_and, and_self, implies_true, Bool.true_eq_false, Bool.false_eq_true, decide_true, decide_false, decide_eq_true_eq, decide_eq_false_iff_not, ne_eq, not_true_eq_false, not_false_eq_true, Bool.not_eq_true', Bool.not_eq_false', beq_self_eq_true, Bool.not_true, Bool.not_false, List.getElem?_toArray, List.getElem?_cons_zero, List.getElem?_cons_succ, h0, h1, h5, h6]
    refine (someNeeds_c B V (osl 9 strO fm _ ms :: osl 38 testO fp w ts :: L) q sl _ _ xs hb (by omega) (fun V l => hx V l.tail.tail) (l.perm (List.Perm.swap ..))).mono ?_
    rintro r2 V ⟨fn, ns, hn1, hn2, l⟩
    obtain ⟨an, cn, rfl, _, _⟩ := (OSl.toS (show OSl 9 strO V fn r2 ns from l.at (i := 0) rfl)).slice
    simp (disch := omega) only [↓stq, amv_at, vls, inf, frs, mark_eq, ↓reduceIte, Nat.reduceEqDiff, ite_tt, ite_ff, eq_self, and_true, true_and, and_self, implies_true, Bool.true_eq_false, Bool.false_eq_true, decide_true, decide_false, decide_eq_true_eq, decide_eq_false_iff_not, ne_eq, not_true_eq_false, not_false_eq_true, Bool.not_eq_true', Bool.not_eq_false', beq_self_eq_true, Bool.not_true, Bool.not_false, List.getElem?_toArray, List.getElem?_cons_zero, List.getElem?_cons_succ, h0, h1, h5, h6]
    refine led_alloc zc38 l fun q7 V _ l => ?_
    simp (disch := omega) only [↓stq, amv_at, vls, inf, frs, mark_eq, ↓reduceIte, Nat.reduceEqDiff, ite_tt, ite_ff, eq_self, and_true, true_and, and_self, implies_true, Bool.true_eq_false, Bool.false_eq_true, decide_true, decide_false, decide_eq_true_eq, decide_eq_false_iff_not, ne_eq, not_true_eq_false, not_false_eq_true, Bool.not_eq_true', Bool.not_eq_false', beq_self_eq_true, Bool.not_true, Bool.not_false, List.getElem?_toArray, List.getElem?_cons_zero, List.getElem?_cons_succ, h0, h1, h5, h6]
    refine led_storeAll l 0 rfl sz38 rfl rfl (by simp [Value.oneCell']) fun V l => ?_
    have kt : V.part ⟨q7, 0, none⟩ 4 = some [.string s1, .string s2, .slice am ms.length cm, .slice an ns.length cn] := l.part (i := 0) rfl rfl
    simp (disch := omega) only [↓stq, amv_at, vls, inf, frs, mark_eq, ↓reduceIte, Nat.reduceEqDiff, ite_tt, ite_ff, eq_self, and_true, true_and, and_self, implies_true, Bool.true_eq_false, Bool.false_eq_true, decide_true, decide_false, decide_eq_true_eq, decide_eq_false_iff_not, ne_eq, not_true_eq_false, not_false_eq_true, Bool.not_eq_true', Bool.not_eq_false', beq_self_eq_true, Bool.not_true, Bool.not_false, List.getElem?_toArray, List.getElem?_cons_zero, List.getElem?_cons_succ, h0, h1, h5, h6, kt]
    have hgt : genT (s1, s2, ms, ns, ()) := ⟨hz1, hz2, hm1, hn1⟩
    refine (spec_idOf_c V _ (s1, s2, ms, ns, ()) (testS_mk (x := (s1, s2, ms, ns, ())) (by show s1.size ≤ _; omega) (by show s2.size ≤ _; omega) (OSl.toS (l.at (i := 3) rfl)) (OSl.toS (l.at (i := 1) rfl)))).mono ?_
    rintro _ V2 ⟨rfl, he2⟩
    replace l := l.step he2
    have kt := he2.part kt
    simp (disch := omega) only [↓stq, amv_at, vls, inf, frs, mark_eq, ↓reduceIte, Nat.reduceEqDiff, ite_tt, ite_ff, eq_self, and_true, true_and, and_self, implies_true, Bool.true_eq_false, Bool.false_eq_true, decide_true, decide_false, decide_eq_true_eq, decide_eq_false_iff_not, ne_eq, not_true_eq_false, not_false_eq_true, Bool.not_eq_true', Bool.not_eq_false', beq_self_eq_true, Bool.not_true, Bool.not_false, List.getElem?_toArray, List.getElem?_cons_zero, List.getElem?_cons_succ, h0, h1, h5, h6]
    refine (spec_findTest_c V2 _ ts _ (OSl.toS (l.at (i := 4) rfl))).mono ?_
    rintro _ V3 ⟨rfl, he3⟩
    replace l := l.step he3
    have kt := he3.part kt
    simp (disch := omega) only [↓stq, amv_at, vls, inf, frs, mark_eq, ↓reduceIte, Nat.reduceEqDiff, ite_tt, ite_ff, eq_self, and_true, true_and, and_self, implies_true, Bool.true_eq_false, Bool.false_eq_true, decide_true, decide_false, decide_eq_true_eq, decide_eq_false_iff_not, ne_eq, not_true_eq_false, not_false_eq_true, Bool.not_eq_true', Bool.not_eq_false', beq_self_eq_true, Bool.not_true, Bool.not_false, List.getElem?_toArray, List.getElem?_cons_zero, List.getElem?_cons_succ, h0, h1, h5, h6]
    have lr : Led B (osl 9 strO fn (.slice an ns.length cn) ns :: osl 9 strO fm (.slice am ms.length cm) ms :: rdr q sl (N + 1 + 10 * (n - k) + 1 + 1 + 4 + 4) :: osl 38 testO fp w ts :: L) V3 := l.tail.perm ((List.Perm.swap ..).cons _)
    refine ⟨fun e1 => ?_, fun e1 => ?_⟩ <;> simp (disch := omega) only [↓stq, amv_at, vls, inf, frs, mark_eq, ↓reduceIte, Nat.reduceEqDiff, ite_tt, ite_ff, eq_self, and_true, true_and, and_self, implies_true, Bool.true_eq_false, Bool.false_eq_true, decide_true, decide_false, decide_eq_true_eq, decide_eq_false_iff_not, ne_eq, not_true_eq_false, not_false_eq_true, Bool.not_eq_true', Bool.not_eq_false', beq_self_eq_true, Bool.not_true, Bool.not_false, List.getElem?_toArray, List.getElem?_cons_zero, List.getElem?_cons_succ, h0, h1, h5, h6, kt]
    · have lj := lr.join2 (jt := oc testO (fm ++ fn) (s1, s2, ms, ns, ()) _) rfl (show testO.rel V3 (fm ++ fn) (s1, s2, ms, ns, ()) _ from testO_mk (x := (s1, s2, ms, ns, ())) (by show s1.size ≤ _; omega) (by show s2.size ≤ _; omega) (lr.at (i := 1) rfl) (lr.at (i := 0) rfl))
      refine led_lit li24 (by omega) rfl (fun p hp => by rcases List.mem_singleton.1 hp with rfl; exact ⟨rfl, rfl⟩) lj fun bl V4 _ l => ?_
      simp (disch := omega) only [↓stq, amv_at, vls, inf, frs, mark_eq, ↓reduceIte, Nat.reduceEqDiff, ite_tt, ite_ff, eq_self, and_true, true_and, and_self, implies_true, Bool.true_eq_false, Bool.false_eq_true, decide_true, decide_false, decide_eq_true_eq, decide_eq_false_iff_not, ne_eq, not_true_eq_false, not_false_eq_true, Bool.not_eq_true', Bool.not_eq_false', beq_self_eq_true, Bool.not_true, Bool.not_false, List.getElem?_toArray, List.getElem?_cons_zero, List.getElem?_cons_succ, h0, h1, h5, h6]
      refine led_appO (O := testO) ap24_24 (by decide) l (i := 1) rfl (by omega) fun fp' w' V12 _ l => ?_
      simp (disch := omega) only [↓stq, amv_at, vls, inf, frs, mark_eq, ↓reduceIte, Nat.reduceEqDiff, ite_tt, ite_ff, eq_self, and_true, true_and, and_self, implies_true, Bool.true_eq_false, Bool.false_eq_true, decide_true, decide_false, decide_eq_true_eq, decide_eq_false_iff_not, ne_eq, not_true_eq_false, not_false_eq_true, Bool.not_eq_true', Bool.not_eq_false', beq_self_eq_true, Bool.not_true, Bool.not_false, List.getElem?_toArray, List.getElem?_cons_zero, List.getElem?_cons_succ, h0, h1, h5, h6]
      refine ⟨k - 1, by omega, k - 1, fp', w', ts ++ [(s1, s2, ms, ns, ())], rfl, by omega, by rw [List.length_append, List.length_singleton]; omega, ?_, rfl, by congr 1; omega, fun t ht => ?_⟩
      · exact (rdr_more l (M := N + 1 + 10 * (n - (k - 1))) (by omega)).perm (List.Perm.swap ..)
      · rcases List.mem_append.1 ht with ht | ht
        · exact hy t ht
        · rw [List.mem_singleton.1 ht]; exact hgt
    · refine ⟨k - 1, by omega, k - 1, fp, w, ts, rfl, by omega, by omega, ?_, rfl, by congr 1; omega, hy⟩
      exact (rdr_more lr.tail.tail (M := N + 1 + 10 * (n - (k - 1))) (by omega)).perm (List.Perm.swap ..)
  · exact ⟨fp, ts, by omega, hy, (rdr_more (l.perm (List.Perm.swap ..)) (M := N + 101) (by omega)).perm (List.Perm.swap ..)⟩

/-- What is known of some blocks alone. -/
def View.only (V : View) (fp : List Nat) : View := fun b => if b ∈ fp then V b else none
theorem View.only_ext (V : View) (fp : List Nat) : Ext (V.only fp) V := fun b k h => by
  unfold View.only at h
  split at h
  · exact h
  · cases h
theorem View.only_of {V : View} {fp : List Nat} {b : Nat} {k : Blk} (hb : b ∈ fp) (h : V b = some k) : (V.only fp) b = some k := by
  unfold View.only
  rw [if_pos hb]; exact h
theorem rdl_stay {α : Type} {S : Shape α} {fp : List Nat} {v : Value} {xs : List α} {V W : View} (h : (∀ b, b ∈ fp → ∃ k, V b = some k) ∧ Sl S (V.only fp) v xs) (hs : ∀ b k, b ∈ fp → V b = some k → W b = some k) : (∀ b, b ∈ fp → ∃ k, W b = some k) ∧ Sl S (W.only fp) v xs := by
  refine ⟨fun b hb => ?_, h.2.mono fun b k hk => ?_⟩
  · obtain ⟨k, hk⟩ := h.1 b hb
    exact ⟨k, hs b k hb hk⟩
  · unfold View.only at hk
    split at hk
    · rename_i hb
      exact View.only_of hb (hs b k hb hk)
    · cases hk
/-- Data that is read, in blocks of one's own. -/
def rdl {α : Type} (S : Shape α) (fp : List Nat) (v : Value) (xs : List α) : It := ⟨fp, fun V => (∀ b, b ∈ fp → ∃ k, V b = some k) ∧ Sl S (V.only fp) v xs, fun h hs => rdl_stay h hs, fun h => h.1⟩
theorem rdl_sl {α : Type} {S : Shape α} {fp : List Nat} {v : Value} {xs : List α} {V : View} (h : (rdl S fp v xs).φ V) : Sl S V v xs := h.2.mono (View.only_ext V fp)
theorem osl_rdl {α : Type} {O : OwnS α} {e : TypeId} {fp : List Nat} {v : Value} {xs : List α} {V : View} (h : OSl e O V fp v xs) : (rdl O.S fp v xs).φ V :=
  ⟨fun b hb => h.has b hb, OSl.toS (h.stay fun b k hb hk => View.only_of hb hk)⟩
theorem keepI_stay {fp : List Nat} {B0 V W : View} (h0 : ∀ b k, B0 b = some k → b ∈ fp) (h : (∀ b, b ∈ fp → ∃ k, V b = some k) ∧ Ext B0 V) (hs : ∀ b k, b ∈ fp → V b = some k → W b = some k) : (∀ b, b ∈ fp → ∃ k, W b = some k) ∧ Ext B0 W := by
  refine ⟨fun b hb => ?_, fun b k hk => hs b k (h0 b k hk) (h.2 b k hk)⟩
  obtain ⟨k, hk⟩ := h.1 b hb
  exact ⟨k, hs b k hb hk⟩
/-- Blocks that are kept. -/
def keepI (fp : List Nat) (B0 : View) (h0 : ∀ b k, B0 b = some k → b ∈ fp) : It := ⟨fp, fun V => (∀ b, b ∈ fp → ∃ k, V b = some k) ∧ Ext B0 V, fun h hs => keepI_stay h0 h hs, fun h => h.1⟩

end Go.Proofs.Ytjojofnkgeiadaa

