/- Generators: a test and an expression. -/
import Derived.Test.YtbddklkfekiaeaaUG
set_option maxHeartbeats 4000000
set_option synthInstance.maxHeartbeats 400000
set_option synthInstance.maxSize 4096
set_option linter.unusedSimpArgs false
set_option linter.unusedVariables false
namespace Go.Proofs.Ytbddklkfekiaeaa

set_option maxRecDepth 100000

theorem rd1_stay {α : Type} {S : Shape α} {fp : List Nat} {x : α} {d : List Value} {V W : View} (h : (∀ b, b ∈ fp → ∃ k, V b = some k) ∧ S.rel (V.only fp) x d) (hs : ∀ b k, b ∈ fp → V b = some k → W b = some k) : (∀ b, b ∈ fp → ∃ k, W b = some k) ∧ S.rel (W.only fp) x d := by
  refine ⟨fun b hb => ?_, S.mono (fun b k hk => ?_) h.2⟩
  · obtain ⟨k, hk⟩ := h.1 b hb
    exact ⟨k, hs b k hb hk⟩
  · unfold View.only at hk
    split at hk
    · rename_i hb
      exact View.only_of hb (hs b k hb hk)
    · cases hk
/-- A thing that is read, in blocks of one's own. -/
def rd1 {α : Type} (S : Shape α) (fp : List Nat) (x : α) (d : List Value) : It := ⟨fp, fun V => (∀ b, b ∈ fp → ∃ k, V b = some k) ∧ S.rel (V.only fp) x d, fun h hs => rd1_stay h hs, fun h => h.1⟩
theorem rd1_rel {α : Type} {S : Shape α} {fp : List Nat} {x : α} {d : List Value} {V : View} (h : (rd1 S fp x d).φ V) : S.rel V x d := S.mono (View.only_ext V fp) h.2

theorem aTest_c (B A : View) (L : List It) (q : Nat) (sl : Value) (N : Nat) (hb : Bts B sl) (hN : N ≤ 500000000) (l : Led B (rdr q sl N :: L) A) : ACalls Try.prog 62 #[.pointer (some ⟨q, 0, none⟩)] A fun r V => ∃ fp x d, r = .agg d.toArray ∧ genT x ∧ Led B (rd1 testS fp x d :: rdr q sl (N + 151) :: L) V := by
  refine acalls Try.func62 rfl (by kernel_rfl) ?_
  simp (disch := omega) only [↓stq, amv_at, vls, inf, frs, mark_eq, ↓reduceIte, Nat.reduceEqDiff, ite_tt, ite_ff, eq_self, and_true, true_and, and_self, implies_true, Bool.true_eq_false, Bool.false_eq_true, decide_true, decide_false, decide_eq_true_eq, decide_eq_false_iff_not, ne_eq, not_true_eq_false, not_false_eq_true, Bool.not_eq_true', Bool.not_eq_false', beq_self_eq_true, Bool.not_true, Bool.not_false, List.getElem?_toArray, List.getElem?_cons_zero, List.getElem?_cons_succ]
  refine led_alloc zc34 l fun q2 V _ l => ?_
  simp (disch := omega) only [↓stq, amv_at, vls, inf, frs, mark_eq, ↓reduceIte, Nat.reduceEqDiff, ite_tt, ite_ff, eq_self, and_true, true_and, and_self, implies_true, Bool.true_eq_false, Bool.false_eq_true, decide_true, decide_false, decide_eq_true_eq, decide_eq_false_iff_not, ne_eq, not_true_eq_false, not_false_eq_true, Bool.not_eq_true', Bool.not_eq_false', beq_self_eq_true, Bool.not_true, Bool.not_false, List.getElem?_toArray, List.getElem?_cons_zero, List.getElem?_cons_succ]
  refine (someTests_c B V _ q sl N hb (by omega) (l.perm (List.Perm.swap ..))).mono ?_
  rintro r V ⟨fp, ts, ht1, ht2, l⟩
  obtain ⟨at1, ct, rfl, _, _⟩ := (rdl_sl (l.at (i := 0) rfl) : Sl testS V r ts).slice
  simp (disch := omega) only [↓stq, amv_at, vls, inf, frs, mark_eq, ↓reduceIte, Nat.reduceEqDiff, ite_tt, ite_ff, eq_self, and_true, true_and, and_self, implies_true, Bool.true_eq_false, Bool.false_eq_true, decide_true, decide_false, decide_eq_true_eq, decide_eq_false_iff_not, ne_eq, not_true_eq_false, not_false_eq_true, Bool.not_eq_true', Bool.not_eq_false', beq_self_eq_true, Bool.not_true, Bool.not_false, List.getElem?_toArray, List.getElem?_cons_zero, List.getElem?_cons_succ]
  have conv : ∀ (V : View) (x : TestD) (d : List Value) (M : Nat) (k : Blk), testS.rel (V.only fp) x d → Led B (rdl testS fp (.slice at1 ts.length ct) ts :: rdr q sl M :: bx q2 k :: L) V → Led B (rd1 testS fp x d :: rdr q sl M :: bx q2 k :: L) V := fun V x d M k hr l =>
    l.upd (i := 0) (jt := rd1 testS fp x d) rfl rfl (Only.refl _ _) ⟨(show (rdl testS fp (.slice at1 ts.length ct) ts).φ V from l.at (i := 0) rfl).1, hr⟩
  have fin : ∀ (V : View) (x : TestD) (d : List Value) (M : Nat) (k : Blk), M ≤ N + 151 → Led B (rd1 testS fp x d :: rdr q sl M :: bx q2 k :: L) V → Led B (rd1 testS fp x d :: rdr q sl (N + 151) :: L) V := fun V x d M k hM l => by
    have l3 : Led B (rdr q sl M :: rd1 testS fp x d :: L) V := (l.sub (.cons_cons _ (.cons_cons _ (.cons _ (List.Sublist.refl L))))).perm (List.Perm.swap ..)
    exact (rdr_more l3 hM).perm (List.Perm.swap ..)
  refine ⟨fun e => ?_, fun e => ?_⟩ <;> simp (disch := omega) only [↓stq, amv_at, vls, inf, frs, mark_eq, ↓reduceIte, Nat.reduceEqDiff, ite_tt, ite_ff, eq_self, and_true, true_and, and_self, implies_true, Bool.true_eq_false, Bool.false_eq_true, decide_true, decide_false, decide_eq_true_eq, decide_eq_false_iff_not, ne_eq, not_true_eq_false, not_false_eq_true, Bool.not_eq_true', Bool.not_eq_false', beq_self_eq_true, Bool.not_true, Bool.not_false, List.getElem?_toArray, List.getElem?_cons_zero, List.getElem?_cons_succ]
  · replace l := conv V (⟨#[109]⟩, ⟨#[97]⟩, [], [], ()) _ _ _ (testS_mk (by show (1 : Nat) ≤ _; omega) (by show (1 : Nat) ≤ _; omega) (Sl.nil _ _) (Sl.nil _ _)) l
    refine led_storeAll (d := [.string ⟨#[109]⟩, .string ⟨#[97]⟩, .slice none 0 0, .slice none 0 0]) l 2 rfl sz34 rfl rfl (by simp [Value.oneCell']) fun V l => ?_
    have kt : V.part ⟨q2, 0, none⟩ 4 = some [.string ⟨#[109]⟩, .string ⟨#[97]⟩, .slice none 0 0, .slice none 0 0] := l.part (i := 2) rfl rfl
    simp (disch := omega) only [↓stq, amv_at, vls, inf, frs, mark_eq, ↓reduceIte, Nat.reduceEqDiff, ite_tt, ite_ff, eq_self, and_true, true_and, and_self, implies_true, Bool.true_eq_false, Bool.false_eq_true, decide_true, decide_false, decide_eq_true_eq, decide_eq_false_iff_not, ne_eq, not_true_eq_false, not_false_eq_true, Bool.not_eq_true', Bool.not_eq_false', beq_self_eq_true, Bool.not_true, Bool.not_false, List.getElem?_toArray, List.getElem?_cons_zero, List.getElem?_cons_succ, kt]
    exact ⟨fp, _, _, rfl, ⟨by show (1 : Nat) ≤ 100; omega, by show (1 : Nat) ≤ 100; omega, by simp, by simp⟩, fin V _ _ _ _ (by omega) l⟩
  · refine (pick_c B V _ q sl _ ts.length hb (by omega) ⟨by omega, by omega⟩ (l.perm (List.Perm.swap ..))).mono ?_
    rintro _ V ⟨k, rfl, hk0, hk1, l⟩
    obtain ⟨k, rfl⟩ := Int.eq_ofNat_of_zero_le hk0
    have hkl : k < ts.length := by omega
    have hT : Sl testS (V.only fp) (.slice at1 ts.length ct) ts := (show (rdl testS fp (.slice at1 ts.length ct) ts).φ V from l.at (i := 1) rfl).2
    obtain ⟨ad, u2, u3, rfl, hclA, z1, z2, f2, f3⟩ := hT.test hkl
    have hcl := (View.only_ext V fp).part hclA
    have hgk := ht2 _ (List.getElem_mem hkl)
    obtain ⟨a2, c2, rfl, _, _⟩ := f2.slice
    obtain ⟨a3, c3, rfl, _, _⟩ := f3.slice
    simp (disch := omega) only [↓stq, amv_at, vls, inf, frs, mark_eq, ↓reduceIte, Nat.reduceEqDiff, ite_tt, ite_ff, eq_self, and_true, true_and, and_self, implies_true, Bool.true_eq_false, Bool.false_eq_true, decide_true, decide_false, decide_eq_true_eq, decide_eq_false_iff_not, ne_eq, not_true_eq_false, not_false_eq_true, Bool.not_eq_true', Bool.not_eq_false', beq_self_eq_true, Bool.not_true, Bool.not_false, List.getElem?_toArray, List.getElem?_cons_zero, List.getElem?_cons_succ, hcl]
    replace l := conv V ts[k] _ _ _ (testS_mk z1 z2 f2 f3) (l.perm (List.Perm.swap ..))
    refine led_storeAll (d := [.string (ts[k]).1, .string (ts[k]).2.1, .slice a2 (ts[k]).2.2.1.length c2, .slice a3 (ts[k]).2.2.2.1.length c3]) l 2 rfl sz34 rfl rfl (by simp [Value.oneCell']) fun V l => ?_
    have kt : V.part ⟨q2, 0, none⟩ 4 = some [.string (ts[k]).1, .string (ts[k]).2.1, .slice a2 (ts[k]).2.2.1.length c2, .slice a3 (ts[k]).2.2.2.1.length c3] := l.part (i := 2) rfl rfl
    simp (disch := omega) only [↓stq, amv_at, vls, inf, frs, mark_eq, ↓reduceIte, Nat.reduceEqDiff, ite_tt, ite_ff, eq_self, and_true, true_and, and_self, implies_true, Bool.true_eq_false, Bool.false_eq_true, decide_true, decide_false, decide_eq_true_eq, decide_eq_false_iff_not, ne_eq, not_true_eq_false, not_false_eq_true, Bool.not_eq_true', Bool.not_eq_false', beq_self_eq_true, Bool.not_true, Bool.not_false, List.getElem?_toArray, List.getElem?_cons_zero, List.getElem?_cons_succ, kt]
    exact ⟨fp, _, _, rfl, hgk, fin V _ _ _ _ (by omega) l⟩

theorem DrawMatches_c (A : View) (v : Value) (bs : List UInt8) (h : Sl byteS A v bs) : ACalls Try.prog 26 #[v] A fun r V => ∃ (s : ByteArray) (x : TestD) (d : List Value), r = .tuple #[.string s, .agg d.toArray] ∧ s.size ≤ 2000 ∧ genT x ∧ testS.rel V x d ∧ Ext A V := by
  obtain ⟨a, c, rfl, _, _⟩ := h.slice
  refine acalls Try.func26 rfl (by kernel_rfl) ?_
  simp (disch := omega) only [↓stq, amv_at, vls, inf, frs, mark_eq, ↓reduceIte, Nat.reduceEqDiff, ite_tt, ite_ff, eq_self, and_true, true_and, and_self, implies_true, Bool.true_eq_false, Bool.false_eq_true, decide_true, decide_false, decide_eq_true_eq, decide_eq_false_iff_not, ne_eq, not_true_eq_false, not_false_eq_true, Bool.not_eq_true', Bool.not_eq_false', beq_self_eq_true, Bool.not_true, Bool.not_false, List.getElem?_toArray, List.getElem?_cons_zero, List.getElem?_cons_succ]
  refine led_alloc zc34 (Led.nil A) fun q3 V _ l => ?_
  simp (disch := omega) only [↓stq, amv_at, vls, inf, frs, mark_eq, ↓reduceIte, Nat.reduceEqDiff, ite_tt, ite_ff, eq_self, and_true, true_and, and_self, implies_true, Bool.true_eq_false, Bool.false_eq_true, decide_true, decide_false, decide_eq_true_eq, decide_eq_false_iff_not, ne_eq, not_true_eq_false, not_false_eq_true, Bool.not_eq_true', Bool.not_eq_false', beq_self_eq_true, Bool.not_true, Bool.not_false, List.getElem?_toArray, List.getElem?_cons_zero, List.getElem?_cons_succ]
  refine (newReader_c A V _ bs h).mono ?_
  rintro _ V2 ⟨q, sl, rfl, hb, l2⟩
  replace l := l.append l2
  clear l2
  simp (disch := omega) only [↓stq, amv_at, vls, inf, frs, mark_eq, ↓reduceIte, Nat.reduceEqDiff, ite_tt, ite_ff, eq_self, and_true, true_and, and_self, implies_true, Bool.true_eq_false, Bool.false_eq_true, decide_true, decide_false, decide_eq_true_eq, decide_eq_false_iff_not, ne_eq, not_true_eq_false, not_false_eq_true, Bool.not_eq_true', Bool.not_eq_false', beq_self_eq_true, Bool.not_true, Bool.not_false, List.getElem?_toArray, List.getElem?_cons_zero, List.getElem?_cons_succ]
  refine (someExpr_c A V2 _ q sl _ hb (by omega) l).mono ?_
  rintro _ V ⟨s, rfl, hs, l⟩
  simp (disch := omega) only [↓stq, amv_at, vls, inf, frs, mark_eq, ↓reduceIte, Nat.reduceEqDiff, ite_tt, ite_ff, eq_self, and_true, true_and, and_self, implies_true, Bool.true_eq_false, Bool.false_eq_true, decide_true, decide_false, decide_eq_true_eq, decide_eq_false_iff_not, ne_eq, not_true_eq_false, not_false_eq_true, Bool.not_eq_true', Bool.not_eq_false', beq_self_eq_true, Bool.not_true, Bool.not_false, List.getElem?_toArray, List.getElem?_cons_zero, List.getElem?_cons_succ]
  refine (aTest_c A V _ q sl _ hb (by omega) l).mono ?_
  rintro _ V ⟨fp, x, d, rfl, hg, l⟩
  obtain ⟨u2, u3, rfl, z1, z2, f2, f3⟩ := testS_open (rd1_rel (l.at (i := 0) rfl) : testS.rel V x d)
  obtain ⟨a2, c2, rfl, _, _⟩ := f2.slice
  obtain ⟨a3, c3, rfl, _, _⟩ := f3.slice
  simp (disch := omega) only [↓stq, amv_at, vls, inf, frs, mark_eq, ↓reduceIte, Nat.reduceEqDiff, ite_tt, ite_ff, eq_self, and_true, true_and, and_self, implies_true, Bool.true_eq_false, Bool.false_eq_true, decide_true, decide_false, decide_eq_true_eq, decide_eq_false_iff_not, ne_eq, not_true_eq_false, not_false_eq_true, Bool.not_eq_true', Bool.not_eq_false', beq_self_eq_true, Bool.not_true, Bool.not_false, List.getElem?_toArray, List.getElem?_cons_zero, List.getElem?_cons_succ]
  refine led_storeAll (d := [.string x.1, .string x.2.1, .slice a2 x.2.2.1.length c2, .slice a3 x.2.2.2.1.length c3]) l 2 rfl sz34 rfl rfl (by simp [Value.oneCell']) fun V l => ?_
  have kt : V.part ⟨q3, 0, none⟩ 4 = some [.string x.1, .string x.2.1, .slice a2 x.2.2.1.length c2, .slice a3 x.2.2.2.1.length c3] := l.part (i := 2) rfl rfl
  simp (disch := omega) only [↓stq, amv_at, vls, inf, frs, mark_eq, ↓reduceIte, Nat.reduceEqDiff, ite_tt, ite_ff, eq_self, and_true, true_and, and_self, implies_true, Bool.true_eq_false, Bool.false_eq_true, decide_true, decide_false, decide_eq_true_eq, decide_eq_false_iff_not, ne_eq, not_true_eq_false, not_false_eq_true, Bool.not_eq_true', Bool.not_eq_false', beq_self_eq_true, Bool.not_true, Bool.not_false, List.getElem?_toArray, List.getElem?_cons_zero, List.getElem?_cons_succ, kt]
  exact ⟨s, x, _, rfl, hs, hg, rd1_rel (l.at (i := 0) rfl), l.ext⟩

end Go.Proofs.Ytbddklkfekiaeaa

