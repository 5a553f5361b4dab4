/- Generators: tests that may be invalid. -/
import Derived.Test.YtjiioedohbbceaaZ7
set_option maxHeartbeats 4000000
set_option synthInstance.maxHeartbeats 400000
set_option synthInstance.maxSize 4096
set_option linter.unusedSimpArgs false
set_option linter.unusedVariables false
namespace Go.Proofs.Ytjiioedohbbceaa

set_option maxRecDepth 100000

/-- What is known of some blocks alone. -/
def View.only (V : View) (fp : List Nat) : View := fun b => if b ∈ fp then V b else none
theorem View.only_ext (V : View) (fp : List Nat) : Ext (V.only fp) V := fun b k h => by
  unfold View.only at h
  split at h
  · exact h
  · cases h
theorem View.only_of {V : View} {fp : List Nat} {b : Nat} {k : Blk} (hb : b ∈ fp) (h : V b = some k) : (V.only fp) b = some k := by
  unfold View.only
  rw [if_pos hb]; exact h
theorem rdl_stay {α : Type} {S : Shape α} {fp : List Nat} {v : Value} {xs : List α} {V W : View} (h : (∀ b, b ∈ fp → ∃ k, V b = some k) ∧ Sl S (V.only fp) v xs) (hs : ∀ b k, b ∈ fp → V b = some k → W b = some k) : (∀ b, b ∈ fp → ∃ k, W b = some k) ∧ Sl S (W.only fp) v xs := by
  refine ⟨fun b hb => ?_, h.2.mono fun b k hk => ?_⟩
  · obtain ⟨k, hk⟩ := h.1 b hb
    exact ⟨k, hs b k hb hk⟩
  · unfold View.only at hk
    split at hk
    · rename_i hb
      exact View.only_of hb (hs b k hb hk)
    · cases hk
/-- Data that is read, in blocks of one's own. -/
def rdl {α : Type} (S : Shape α) (fp : List Nat) (v : Value) (xs : List α) : It := ⟨fp, fun V => (∀ b, b ∈ fp → ∃ k, V b = some k) ∧ Sl S (V.only fp) v xs, fun h hs => rdl_stay h hs, fun h => h.1⟩
theorem rdl_sl {α : Type} {S : Shape α} {fp : List Nat} {v : Value} {xs : List α} {V : View} (h : (rdl S fp v xs).φ V) : Sl S V v xs := h.2.mono (View.only_ext V fp)
theorem osl_rdl {α : Type} {O : OwnS α} {e : TypeId} {fp : List Nat} {v : Value} {xs : List α} {V : View} (h : OSl e O V fp v xs) : (rdl O.S fp v xs).φ V :=
  ⟨fun b hb => h.has b hb, OSl.toS (h.stay fun b k hb hk => View.only_of hb hk)⟩
theorem keepI_stay {fp : List Nat} {B0 V W : View} (h0 : ∀ b k, B0 b = some k → b ∈ fp) (h : (∀ b, b ∈ fp → ∃ k, V b = some k) ∧ Ext B0 V) (hs : ∀ b k, b ∈ fp → V b = some k → W b = some k) : (∀ b, b ∈ fp → ∃ k, W b = some k) ∧ Ext B0 W := by
  refine ⟨fun b hb => ?_, fun b k hk => hs b k (h0 b k hk) (h.2 b k hk)⟩
  obtain ⟨k, hk⟩ := h.1 b hb
  exact ⟨k, hs b k hb hk⟩
/-- Blocks that are kept. -/
def keepI (fp : List Nat) (B0 : View) (h0 : ∀ b k, B0 b = some k → b ∈ fp) : It := ⟨fp, fun V => (∀ b, b ∈ fp → ∃ k, V b = some k) ∧ Ext B0 V, fun h hs => keepI_stay h0 h hs, fun h => h.1⟩

theorem someTests_c (B A : View) (L : List It) (q : Nat) (sl : Value) (N : Nat) (hb : Bts B sl) (hN : N ≤ 600000000) (l : Led B (rdr q sl N :: L) A) : ACalls Try.prog 80 #[.pointer (some ⟨q, 0, none⟩)] A fun r V => ∃ fp ts, ts.length ≤ 11 ∧ (∀ t, t ∈ ts → genT t) ∧ Led B (rdl testS fp r ts :: rdr q sl (N + 150) :: L) V := by
  refine acalls Try.func80 rfl (by kernel_rfl) ?_
  simp (disch := omega) only [↓stq, amv_at, vls, inf, frs, mark_eq, ↓reduceIte, Nat.reduceEqDiff, ite_tt, ite_ff, eq_self, and_true, true_and, and_self, implies_true, Bool.true_eq_false, Bool.false_eq_true, decide_true, decide_false, decide_eq_true_eq, decide_eq_false_iff_not, ne_eq, not_true_eq_false, not_false_eq_true, Bool.not_eq_true', Bool.not_eq_false', beq_self_eq_true, Bool.not_true, Bool.not_false, List.getElem?_toArray, List.getElem?_cons_zero, List.getElem?_cons_succ]
  refine led_lit li31 (by omega) rfl (by simp [Value.cells, Value.oneCell']) l fun bn V _ l => ?_
  simp (disch := omega) only [↓stq, amv_at, vls, inf, frs, mark_eq, ↓reduceIte, Nat.reduceEqDiff, ite_tt, ite_ff, eq_self, and_true, true_and, and_self, implies_true, Bool.true_eq_false, Bool.false_eq_true, decide_true, decide_false, decide_eq_true_eq, decide_eq_false_iff_not, ne_eq, not_true_eq_false, not_false_eq_true, Bool.not_eq_true', Bool.not_eq_false', beq_self_eq_true, Bool.not_true, Bool.not_false, List.getElem?_toArray, List.getElem?_cons_zero, List.getElem?_cons_succ]
  replace l := l.upd (i := 0) (jt := osl 9 strO [bn] (.slice (some ⟨bn, 0, none⟩) 2 2) [⟨#[100, 98]⟩, ⟨#[116, 109, 112]⟩]) rfl rfl (Only.refl _ _) (lit_osl (ns := [⟨#[100, 98]⟩, ⟨#[116, 109, 112]⟩]) (c := 2) (l.at (i := 0) rfl) rfl rfl (by simp) (by simp) (by decide))
  refine (goodTests_c B V _ q sl N _ [⟨#[100, 98]⟩, ⟨#[116, 109, 112]⟩] hb (by omega) (fun V l => OSl.toS (l.at (i := 0) rfl)) (l.perm (List.Perm.swap ..))).mono ?_
  rintro r V ⟨fp, ts, ht1, ht2, l⟩
  obtain ⟨at1, ct, rfl, _, _⟩ := (OSl.toS (show OSl 43 testO V fp r ts from l.at (i := 0) rfl)).slice
  replace l : Led B (rdr q sl (N + 101) :: osl 43 testO fp (.slice at1 ts.length ct) ts :: L) V := (l.sub (.cons_cons _ (.cons_cons _ (.cons _ (List.Sublist.refl L))))).perm (List.Perm.swap ..)
  simp (disch := omega) only [↓stq, amv_at, vls, inf, frs, mark_eq, ↓reduceIte, Nat.reduceEqDiff, ite_tt, ite_ff, eq_self, and_true, true_and, and_self, implies_true, Bool.true_eq_false, Bool.false_eq_true, decide_true, decide_false, decide_eq_true_eq, decide_eq_false_iff_not, ne_eq, not_true_eq_false, not_false_eq_true, Bool.not_eq_true', Bool.not_eq_false', beq_self_eq_true, Bool.not_true, Bool.not_false, List.getElem?_toArray, List.getElem?_cons_zero, List.getElem?_cons_succ]
  have fin : ∀ (V : View) (M : Nat), M ≤ N + 150 → Led B (rdr q sl M :: osl 43 testO fp (.slice at1 ts.length ct) ts :: L) V → ∃ fp' ts', ts'.length ≤ 11 ∧ (∀ t, t ∈ ts' → genT t) ∧ Led B (rdl testS fp' (.slice at1 ts.length ct) ts' :: rdr q sl (N + 150) :: L) V := fun V M hM l =>
    ⟨fp, ts, by omega, ht2, ((rdr_more l hM).perm (List.Perm.swap ..)).upd (i := 0) rfl rfl (Only.refl _ _) (osl_rdl (l.at (i := 1) rfl))⟩
  refine ⟨fun e => ?_, fun e => ?_⟩ <;> simp (disch := omega) only [↓stq, amv_at, vls, inf, frs, mark_eq, ↓reduceIte, Nat.reduceEqDiff, ite_tt, ite_ff, eq_self, and_true, true_and, and_self, implies_true, Bool.true_eq_false, Bool.false_eq_true, decide_true, decide_false, decide_eq_true_eq, decide_eq_false_iff_not, ne_eq, not_true_eq_false, not_false_eq_true, Bool.not_eq_true', Bool.not_eq_false', beq_self_eq_true, Bool.not_true, Bool.not_false, List.getElem?_toArray, List.getElem?_cons_zero, List.getElem?_cons_succ]
  · refine (pick_c B V _ q sl _ ts.length hb (by omega) ⟨by omega, by omega⟩ l).mono ?_
    rintro _ V ⟨k, rfl, hk0, hk1, l⟩
    obtain ⟨k, rfl⟩ := Int.eq_ofNat_of_zero_le hk0
    have hkl : k < ts.length := by omega
    simp (disch := omega) only [↓stq, amv_at, vls, inf, frs, mark_eq, ↓reduceIte, Nat.reduceEqDiff, ite_tt, ite_ff, eq_self, and_true, true_and, and_self, implies_true, Bool.true_eq_false, Bool.false_eq_true, decide_true, decide_false, decide_eq_true_eq, decide_eq_false_iff_not, ne_eq, not_true_eq_false, not_false_eq_true, Bool.not_eq_true', Bool.not_eq_false', beq_self_eq_true, Bool.not_true, Bool.not_false, List.getElem?_toArray, List.getElem?_cons_zero, List.getElem?_cons_succ]
    refine (pick_c B V _ q sl _ 24 hb (by omega) ⟨by omega, by omega⟩ l).mono ?_
    rintro _ V ⟨u, rfl, hu0, hu1, l⟩
    simp (disch := omega) only [↓stq, amv_at, vls, inf, frs, mark_eq, ↓reduceIte, Nat.reduceEqDiff, ite_tt, ite_ff, eq_self, and_true, true_and, and_self, implies_true, Bool.true_eq_false, Bool.false_eq_true, decide_true, decide_false, decide_eq_true_eq, decide_eq_false_iff_not, ne_eq, not_true_eq_false, not_false_eq_true, Bool.not_eq_true', Bool.not_eq_false', beq_self_eq_true, Bool.not_true, Bool.not_false, List.getElem?_toArray, List.getElem?_cons_zero, List.getElem?_cons_succ]
    refine ⟨fun eu => ?_, fun eu => ?_⟩
    · obtain ⟨b, cb, d1, d2, d3, f1, f2, f3, hv, hcb, hd1, lo⟩ := (l.perm (List.Perm.swap ..)).openAt hkl
      injection hv with hv1 hv2 hv3
      subst hv1; subst hv3
      obtain ⟨gf, gu, gf3, gu3, rfl, rfl, z1, z2, og, og3⟩ := testO_open (show testO.rel V f2 ts[k] d2 from lo.at (i := 1) rfl)
      have hd1' : d1.length = k * 4 := hd1
      have hgk := ht2 _ (List.getElem_mem hkl)
      obtain ⟨am, cm, rfl, _, _⟩ := og.toS.slice
      obtain ⟨an, cn, rfl, _, _⟩ := og3.toS.slice
      have lq := (lo.perm (List.Perm.swap ..)).split2 (it1 := osl 9 strO gf _ (ts[k]).2.2.1) (it2 := osl 9 strO gf3 _ (ts[k]).2.2.2.1) rfl og og3
      replace l : Led B (rdr q sl (N + 101 + 1 + 1) :: osl 9 strO gf (.slice am (ts[k]).2.2.1.length cm) (ts[k]).2.2.1 :: osl 9 strO gf3 (.slice an (ts[k]).2.2.2.1.length cn) (ts[k]).2.2.2.1 :: bx b ⟨43, d1 ++ ([.string (ts[k]).1, .string (ts[k]).2.1, .slice am (ts[k]).2.2.1.length cm, .slice an (ts[k]).2.2.2.1.length cn] ++ d3), ct * 4, true⟩ :: oel testO f1 (ts.take k) d1 :: oel testO f3 (ts.drop (k + 1)) d3 :: L) V := lq.front 5 (by simp)
      clear lo lq
      simp (disch := omega) only [↓stq, amv_at, vls, inf, frs, mark_eq, ↓reduceIte, Nat.reduceEqDiff, ite_tt, ite_ff, eq_self, and_true, true_and, and_self, implies_true, Bool.true_eq_false, Bool.false_eq_true, decide_true, decide_false, decide_eq_true_eq, decide_eq_false_iff_not, ne_eq, not_true_eq_false, not_false_eq_true, Bool.not_eq_true', Bool.not_eq_false', beq_self_eq_true, Bool.not_true, Bool.not_false, List.getElem?_toArray, List.getElem?_cons_zero, List.getElem?_cons_succ]
      refine led_lit li31 (by omega) rfl (by simp [Value.cells, Value.oneCell']) l fun bl V _ l => ?_
      simp (disch := omega) only [↓stq, amv_at, vls, inf, frs, mark_eq, ↓reduceIte, Nat.reduceEqDiff, ite_tt, ite_ff, eq_self, and_true, true_and, and_self, implies_true, Bool.true_eq_false, Bool.false_eq_true, decide_true, decide_false, decide_eq_true_eq, decide_eq_false_iff_not, ne_eq, not_true_eq_false, not_false_eq_true, Bool.not_eq_true', Bool.not_eq_false', beq_self_eq_true, Bool.not_true, Bool.not_false, List.getElem?_toArray, List.getElem?_cons_zero, List.getElem?_cons_succ]
      refine (ofLit_c (n := 4) (c := 4) (xs := [_, _, _, _]) B V _ q sl _ hb (by omega) rfl rfl (by omega) (by decide) (by omega) (by omega) l).mono ?_
      rintro _ V ⟨s, rfl, hs, l⟩
      have hsz : s.size ≤ 100 := by revert s; decide
      simp (disch := omega) only [↓stq, amv_at, vls, inf, frs, mark_eq, ↓reduceIte, Nat.reduceEqDiff, ite_tt, ite_ff, eq_self, and_true, true_and, and_self, implies_true, Bool.true_eq_false, Bool.false_eq_true, decide_true, decide_false, decide_eq_true_eq, decide_eq_false_iff_not, ne_eq, not_true_eq_false, not_false_eq_true, Bool.not_eq_true', Bool.not_eq_false', beq_self_eq_true, Bool.not_true, Bool.not_false, List.getElem?_toArray, List.getElem?_cons_zero, List.getElem?_cons_succ, add_at]
      refine led_mid l 3 rfl sz9 (j := 1) (d' := [.string (ts[k]).1, .string s, .slice am (ts[k]).2.2.1.length cm, .slice an (ts[k]).2.2.2.1.length cn]) (by omega) ⟨rfl, rfl⟩ ⟨by simp, rfl⟩ fun W _ l => ?_
      have lm : Led B (bx b ⟨43, d1 ++ ([.string (ts[k]).1, .string s, .slice am (ts[k]).2.2.1.length cm, .slice an (ts[k]).2.2.2.1.length cn] ++ d3), ct * 4, true⟩ :: oc testO (gf ++ gf3) ((ts[k]).1, s, (ts[k]).2.2.1, (ts[k]).2.2.2.1, ()) [.string (ts[k]).1, .string s, .slice am (ts[k]).2.2.1.length cm, .slice an (ts[k]).2.2.2.1.length cn] :: oel testO f1 (ts.take k) d1 :: oel testO f3 (ts.drop (k + 1)) d3 :: rdr q sl (N + 101 + 1 + 1 + 1) :: L) W := by
        refine l.regroup (List.perm_iff_count.2 fun z => ?_) fun it hit => ?_
        · simp only [List.set_cons_succ, List.set_cons_zero, fps, List.flatMap_cons, bx, oc, oel, osl, rdr, List.count_append]
          omega
        · simp only [List.mem_cons] at hit
          rcases hit with rfl | rfl | rfl | rfl | rfl | hit
          · exact l.at (i := 3) rfl
          · exact testO_mk (x := ((ts[k]).1, s, (ts[k]).2.2.1, (ts[k]).2.2.2.1, ())) z1 (by show s.size ≤ _; omega) (l.at (i := 1) rfl) (l.at (i := 2) rfl)
          · exact l.at (i := 4) rfl
          · exact l.at (i := 5) rfl
          · exact l.at (i := 0) rfl
          · exact l.all it (by simp [hit])
      have lc := Led.closeAt (O := testO) lm hkl hcb (by omega)
      simp (disch := omega) only [↓stq, amv_at, vls, inf, frs, mark_eq, ↓reduceIte, Nat.reduceEqDiff, ite_tt, ite_ff, eq_self, and_true, true_and, and_self, implies_true, Bool.true_eq_false, Bool.false_eq_true, decide_true, decide_false, decide_eq_true_eq, decide_eq_false_iff_not, ne_eq, not_true_eq_false, not_false_eq_true, Bool.not_eq_true', Bool.not_eq_false', beq_self_eq_true, Bool.not_true, Bool.not_false, List.getElem?_toArray, List.getElem?_cons_zero, List.getElem?_cons_succ]
      exact ⟨_, ts.set k ((ts[k]).1, s, (ts[k]).2.2.1, (ts[k]).2.2.2.1, ()), by rw [List.length_set]; omega, (fun t ht => by
        rcases List.mem_or_eq_of_mem_set ht with ht | rfl
        · exact ht2 t ht
        · exact ⟨hgk.1, hsz, hgk.2.2⟩), ((rdr_more (lc.perm (List.Perm.swap ..)) (M := N + 150) (by omega)).perm (List.Perm.swap ..)).upd (i := 0) rfl rfl (Only.refl _ _) (osl_rdl (lc.at (i := 0) rfl))⟩
    · simp (disch := omega) only [↓stq, amv_at, vls, inf, frs, mark_eq, ↓reduceIte, Nat.reduceEqDiff, ite_tt, ite_ff, eq_self, and_true, true_and, and_self, implies_true, Bool.true_eq_false, Bool.false_eq_true, decide_true, decide_false, decide_eq_true_eq, decide_eq_false_iff_not, ne_eq, not_true_eq_false, not_false_eq_true, Bool.not_eq_true', Bool.not_eq_false', beq_self_eq_true, Bool.not_true, Bool.not_false, List.getElem?_toArray, List.getElem?_cons_zero, List.getElem?_cons_succ]
      refine ⟨fun eu => ?_, fun eu => ?_⟩
      · obtain ⟨b, cb, d1, d2, d3, f1, f2, f3, hv, hcb, hd1, lo⟩ := (l.perm (List.Perm.swap ..)).openAt hkl
        injection hv with hv1 hv2 hv3
        subst hv1; subst hv3
        obtain ⟨gf, gu, gf3, gu3, rfl, rfl, z1, z2, og, og3⟩ := testO_open (show testO.rel V f2 ts[k] d2 from lo.at (i := 1) rfl)
        have hd1' : d1.length = k * 4 := hd1
        have hgk := ht2 _ (List.getElem_mem hkl)
        obtain ⟨am, cm, rfl, _, _⟩ := og.toS.slice
        obtain ⟨an, cn, rfl, _, _⟩ := og3.toS.slice
        have lq := (lo.perm (List.Perm.swap ..)).split2 (it1 := osl 9 strO gf _ (ts[k]).2.2.1) (it2 := osl 9 strO gf3 _ (ts[k]).2.2.2.1) rfl og og3
        replace l : Led B (rdr q sl (N + 101 + 1 + 1) :: osl 9 strO gf (.slice am (ts[k]).2.2.1.length cm) (ts[k]).2.2.1 :: osl 9 strO gf3 (.slice an (ts[k]).2.2.2.1.length cn) (ts[k]).2.2.2.1 :: bx b ⟨43, d1 ++ ([.string (ts[k]).1, .string (ts[k]).2.1, .slice am (ts[k]).2.2.1.length cm, .slice an (ts[k]).2.2.2.1.length cn] ++ d3), ct * 4, true⟩ :: oel testO f1 (ts.take k) d1 :: oel testO f3 (ts.drop (k + 1)) d3 :: L) V := lq.front 5 (by simp)
        clear lo lq
        simp (disch := omega) only [↓stq, amv_at, vls, inf, frs, mark_eq, ↓reduceIte, Nat.reduceEqDiff, ite_tt, ite_ff, eq_self, and_true, true_and, and_self, implies_true, Bool.true_eq_false, Bool.false_eq_true, decide_true, decide_false, decide_eq_true_eq, decide_eq_false_iff_not, ne_eq, not_true_eq_false, not_false_eq_true, Bool.not_eq_true', Bool.not_eq_false', beq_self_eq_true, Bool.not_true, Bool.not_false, List.getElem?_toArray, List.getElem?_cons_zero, List.getElem?_cons_succ]
        refine led_lit li31 (by omega) rfl (by simp [Value.cells, Value.oneCell']) l fun bl V _ l => ?_
        simp (disch := omega) only [↓stq, amv_at, vls, inf, frs, mark_eq, ↓reduceIte, Nat.reduceEqDiff, ite_tt, ite_ff, eq_self, and_true, true_and, and_self, implies_true, Bool.true_eq_false, Bool.false_eq_true, decide_true, decide_false, decide_eq_true_eq, decide_eq_false_iff_not, ne_eq, not_true_eq_false, not_false_eq_true, Bool.not_eq_true', Bool.not_eq_false', beq_self_eq_true, Bool.not_true, Bool.not_false, List.getElem?_toArray, List.getElem?_cons_zero, List.getElem?_cons_succ, add_at]
        refine led_mid l 4 rfl sz31 (j := 2) (d' := [.string (ts[k]).1, .string (ts[k]).2.1, .slice (some ⟨bl, 0, none⟩) 2 2, .slice an (ts[k]).2.2.2.1.length cn]) (by omega) ⟨rfl, rfl⟩ ⟨by simp, rfl⟩ fun W _ l => ?_
        replace l := l.sub (.cons_cons _ (.cons_cons _ (.cons _ (List.Sublist.refl _))))
        have lm : Led B (bx b ⟨43, d1 ++ ([.string (ts[k]).1, .string (ts[k]).2.1, .slice (some ⟨bl, 0, none⟩) 2 2, .slice an (ts[k]).2.2.2.1.length cn] ++ d3), ct * 4, true⟩ :: oc testO ([bl] ++ gf3) ((ts[k]).1, (ts[k]).2.1, [⟨#[115, 108, 111, 119]⟩, ⟨#[102, 97, 115, 116]⟩], (ts[k]).2.2.2.1, ()) [.string (ts[k]).1, .string (ts[k]).2.1, .slice (some ⟨bl, 0, none⟩) 2 2, .slice an (ts[k]).2.2.2.1.length cn] :: oel testO f1 (ts.take k) d1 :: oel testO f3 (ts.drop (k + 1)) d3 :: rdr q sl (N + 101 + 1 + 1) :: L) W := by
          refine l.regroup (List.perm_iff_count.2 fun z => ?_) fun it hit => ?_
          · simp only [List.set_cons_succ, List.set_cons_zero, fps, List.flatMap_cons, bx, oc, oel, osl, rdr, List.count_append]
            omega
          · simp only [List.mem_cons] at hit
            rcases hit with rfl | rfl | rfl | rfl | rfl | hit
            · exact l.at (i := 3) rfl
            · exact testO_mk (x := ((ts[k]).1, (ts[k]).2.1, [⟨#[115, 108, 111, 119]⟩, ⟨#[102, 97, 115, 116]⟩], (ts[k]).2.2.2.1, ())) z1 z2 (lit_osl (ns := [⟨#[115, 108, 111, 119]⟩, ⟨#[102, 97, 115, 116]⟩]) (c := 2) (l.at (i := 0) rfl) rfl rfl (by simp) (by simp) (by decide)) (l.at (i := 2) rfl)
            · exact l.at (i := 4) rfl
            · exact l.at (i := 5) rfl
            · exact l.at (i := 1) rfl
            · exact l.all it (by simp [hit])
        have lc := Led.closeAt (O := testO) lm hkl hcb (by omega)
        simp (disch := omega) only [↓stq, amv_at, vls, inf, frs, mark_eq, ↓reduceIte, Nat.reduceEqDiff, ite_tt, ite_ff, eq_self, and_true, true_and, and_self, implies_true, Bool.true_eq_false, Bool.false_eq_true, decide_true, decide_false, decide_eq_true_eq, decide_eq_false_iff_not, ne_eq, not_true_eq_false, not_false_eq_true, Bool.not_eq_true', Bool.not_eq_false', beq_self_eq_true, Bool.not_true, Bool.not_false, List.getElem?_toArray, List.getElem?_cons_zero, List.getElem?_cons_succ]
        exact ⟨_, ts.set k ((ts[k]).1, (ts[k]).2.1, [⟨#[115, 108, 111, 119]⟩, ⟨#[102, 97, 115, 116]⟩], (ts[k]).2.2.2.1, ()), by rw [List.length_set]; omega, (fun t ht => by
          rcases List.mem_or_eq_of_mem_set ht with ht | rfl
          · exact ht2 t ht
          · exact ⟨hgk.1, hgk.2.1, by show 2 ≤ 3; omega, hgk.2.2.2⟩), ((rdr_more (lc.perm (List.Perm.swap ..)) (M := N + 150) (by omega)).perm (List.Perm.swap ..)).upd (i := 0) rfl rfl (Only.refl _ _) (osl_rdl (lc.at (i := 0) rfl))⟩
      · simp (disch := omega) only [↓stq, amv_at, vls, inf, frs, mark_eq, ↓reduceIte, Nat.reduceEqDiff, ite_tt, ite_ff, eq_self, and_true, true_and, and_self, implies_true, Bool.true_eq_false, Bool.false_eq_true, decide_true, decide_false, decide_eq_true_eq, decide_eq_false_iff_not, ne_eq, not_true_eq_false, not_false_eq_true, Bool.not_eq_true', Bool.not_eq_false', beq_self_eq_true, Bool.not_true, Bool.not_false, List.getElem?_toArray, List.getElem?_cons_zero, List.getElem?_cons_succ]
        refine ⟨fun eu => ?_, fun eu => ?_⟩
        · obtain ⟨hlen, ⟨_, hz0, _⟩ | ⟨b, c, cells, f, hv, hc, rfl, hbk, he⟩⟩ := (show OSl 43 testO V fp _ ts from l.at (i := 1) rfl)
          · rw [hz0] at hkl
            cases hkl
          injection hv with hv1 hv2 hv3
          subst hv1; subst hv3
          obtain ⟨f1, f2, f3, d1, d2, d3, hf, rfl, hd1, h1, h2, h3⟩ := he.at hkl
          have hd1' : d1.length = k * 4 := hd1
          have hgk := ht2 _ (List.getElem_mem hkl)
          have h2s : testS.rel (V.only f) ts[k] d2 := testO.toS (testO.stay h2 fun y ky hy hq => View.only_of (by rw [hf]; exact List.mem_append_right _ (List.mem_append_left _ hy)) hq)
          have hcl : V.part ⟨b, 0 + k * 4, none⟩ 4 = some d2 := by
            have hl2 : d2.length = 4 := testS.len h2s
            have := part_at (A := V) (off := 0 + k * 4) (n := 4) hbk (by simp only [List.length_append]; omega) (fun y hy => he.toS.one y (List.mem_of_mem_drop (List.mem_of_mem_take hy)))
            rw [this]
            show some (((d1 ++ (d2 ++ d3)).drop (0 + k * 4)).take 4) = _
            rw [Nat.zero_add, List.drop_left' hd1', List.take_left' hl2]
          obtain ⟨u2, u3, rfl, z1, z2, g2, g3⟩ := testS_open h2s
          have lr : Led B (rdr q sl (N + 101 + 1 + 1) :: rsl 43 testS (V.only f) [b] (.slice (some ⟨b, 0, none⟩) ts.length ct) ts :: keepI f (V.only f) (fun y ky hy => by
            unfold View.only at hy
            split at hy
            · assumption
            · cases hy) :: L) V := by
            refine l.regroup (List.perm_iff_count.2 fun z => ?_) fun it hit => ?_
            · simp only [fps, List.flatMap_cons, rsl, keepI, osl, rdr, List.count_append, List.count_cons, List.count_nil]
              omega
            · simp only [List.mem_cons] at hit
              rcases hit with rfl | rfl | rfl | hit
              · exact l.at (i := 0) rfl
              · exact (show RSl 43 testS (V.only f) V [b] _ ts from ⟨hlen, .inr ⟨b, ct, _, rfl, hc, rfl, hbk, (he.stay fun y ky hy hq => View.only_of hy hq).toS⟩⟩)
              · exact ⟨fun y hy => he.has y hy, View.only_ext V f⟩
              · exact l.all it (by simp [hit])
          replace hcl : V.part ((⟨b, 0, none⟩ : Addr).add (k * 4)) 4 = some [.string (ts[k]).1, .string (ts[k]).2.1, u2, u3] := by rw [add_at]; exact hcl
          obtain ⟨am, cm, rfl, _, _⟩ := g2.slice
          obtain ⟨an, cn, rfl, _, _⟩ := g3.slice
          simp (disch := omega) only [↓stq, amv_at, vls, inf, frs, mark_eq, ↓reduceIte, Nat.reduceEqDiff, ite_tt, ite_ff, eq_self, and_true, true_and, and_self, implies_true, Bool.true_eq_false, Bool.false_eq_true, decide_true, decide_false, decide_eq_true_eq, decide_eq_false_iff_not, ne_eq, not_true_eq_false, not_false_eq_true, Bool.not_eq_true', Bool.not_eq_false', beq_self_eq_true, Bool.not_true, Bool.not_false, List.getElem?_toArray, List.getElem?_cons_zero, List.getElem?_cons_succ, hcl]
          refine led_lit li24 (by omega) rfl (fun p hp => by rcases List.mem_singleton.1 hp with rfl; exact ⟨rfl, rfl⟩) lr fun bl V2 _ l => ?_
          simp (disch := omega) only [↓stq, amv_at, vls, inf, frs, mark_eq, ↓reduceIte, Nat.reduceEqDiff, ite_tt, ite_ff, eq_self, and_true, true_and, and_self, implies_true, Bool.true_eq_false, Bool.false_eq_true, decide_true, decide_false, decide_eq_true_eq, decide_eq_false_iff_not, ne_eq, not_true_eq_false, not_false_eq_true, Bool.not_eq_true', Bool.not_eq_false', beq_self_eq_true, Bool.not_true, Bool.not_false, List.getElem?_toArray, List.getElem?_cons_zero, List.getElem?_cons_succ]
          refine led_appR (S := testS) (B := V.only f) (ys := [ts[k]]) (news := [.string (ts[k]).1, .string (ts[k]).2.1, .slice am (ts[k]).2.2.1.length cm, .slice an (ts[k]).2.2.2.1.length cn]) ap24_24 (by decide) l (i := 2) rfl ?_ ?_ (by rw [List.length_singleton]; omega) fun fp' v' W _ l => ?_
          · have hb2 : V2.part ⟨bl, 0, none⟩ 4 = some [.string (ts[k]).1, .string (ts[k]).2.1, .slice am (ts[k]).2.2.1.length cm, .slice an (ts[k]).2.2.2.1.length cn] := l.part (i := 0) rfl rfl
            show (if 1 = 0 then some (0, []) else (V2.part ⟨bl, 0, none⟩ (1 * 4)).map fun cs => (1, cs)) = _
            rw [if_neg (by decide), hb2]
            rfl
          · have := Elems.cons (S := testS) (A := V.only f) (x := ts[k]) (xs := []) h2s .nil
            simpa using this
          simp (disch := omega) only [↓stq, amv_at, vls, inf, frs, mark_eq, ↓reduceIte, Nat.reduceEqDiff, ite_tt, ite_ff, eq_self, and_true, true_and, and_self, implies_true, Bool.true_eq_false, Bool.false_eq_true, decide_true, decide_false, decide_eq_true_eq, decide_eq_false_iff_not, ne_eq, not_true_eq_false, not_false_eq_true, Bool.not_eq_true', Bool.not_eq_false', beq_self_eq_true, Bool.not_true, Bool.not_false, List.getElem?_toArray, List.getElem?_cons_zero, List.getElem?_cons_succ]
          replace l := l.tail
          have lf : Led B (rdl testS (fp' ++ f) v' (ts ++ [ts[k]]) :: rdr q sl (N + 101 + 1 + 1) :: L) W := by
            have hr : RSl 43 testS (V.only f) W fp' v' (ts ++ [ts[k]]) := l.at (i := 1) rfl
            have hkp : (∀ y, y ∈ f → ∃ ky, W y = some ky) ∧ Ext (V.only f) W := l.at (i := 2) rfl
            refine l.regroup (List.perm_iff_count.2 fun z => ?_) fun it hit => ?_
            · simp only [List.tail_cons, List.set_cons_succ, List.set_cons_zero, fps, List.flatMap_cons, rsl, keepI, rdl, rdr, List.count_append]
              omega
            · simp only [List.mem_cons] at hit
              rcases hit with rfl | rfl | hit
              · refine ⟨fun y hy => ?_, RSl.toS (show RSl 43 testS (V.only f) (W.only (fp' ++ f)) fp' v' _ from (rsl 43 testS (V.only f) fp' v' (ts ++ [ts[k]])).stay hr fun y ky hy hq => View.only_of (List.mem_append_left _ hy) hq) fun y ky hq => ?_⟩
                · rcases List.mem_append.1 hy with hy | hy
                  · exact (rsl 43 testS (V.only f) fp' v' (ts ++ [ts[k]])).has hr y hy
                  · exact hkp.1 y hy
                · have hyf : y ∈ f := by
                    unfold View.only at hq
                    split at hq
                    · assumption
                    · cases hq
                  exact View.only_of (List.mem_append_right _ hyf) (hkp.2 y ky hq)
              · exact l.at (i := 0) rfl
              · exact l.all it (by simp [hit])
          exact ⟨_, ts ++ [ts[k]], by rw [List.length_append, List.length_singleton]; omega, (fun t ht => by
            rcases List.mem_append.1 ht with ht | ht
            · exact ht2 t ht
            · rw [List.mem_singleton.1 ht]; exact hgk), (rdr_more (lf.perm (List.Perm.swap ..)) (M := N + 150) (by omega)).perm (List.Perm.swap ..)⟩
        · simp (disch := omega) only [↓stq, amv_at, vls, inf, frs, mark_eq, ↓reduceIte, Nat.reduceEqDiff, ite_tt, ite_ff, eq_self, and_true, true_and, and_self, implies_true, Bool.true_eq_false, Bool.false_eq_true, decide_true, decide_false, decide_eq_true_eq, decide_eq_false_iff_not, ne_eq, not_true_eq_false, not_false_eq_true, Bool.not_eq_true', Bool.not_eq_false', beq_self_eq_true, Bool.not_true, Bool.not_false, List.getElem?_toArray, List.getElem?_cons_zero, List.getElem?_cons_succ]
          refine ⟨fun eu => ?_, fun eu => ?_⟩
          · obtain ⟨b, cb, d1, d2, d3, f1, f2, f3, hv, hcb, hd1, lo⟩ := (l.perm (List.Perm.swap ..)).openAt hkl
            injection hv with hv1 hv2 hv3
            subst hv1; subst hv3
            obtain ⟨gf, gu, gf3, gu3, rfl, rfl, z1, z2, og, og3⟩ := testO_open (show testO.rel V f2 ts[k] d2 from lo.at (i := 1) rfl)
            have hd1' : d1.length = k * 4 := hd1
            have hgk := ht2 _ (List.getElem_mem hkl)
            obtain ⟨am, cm, rfl, _, _⟩ := og.toS.slice
            obtain ⟨an, cn, rfl, _, _⟩ := og3.toS.slice
            have lq := (lo.perm (List.Perm.swap ..)).split2 (it1 := osl 9 strO gf _ (ts[k]).2.2.1) (it2 := osl 9 strO gf3 _ (ts[k]).2.2.2.1) rfl og og3
            replace l : Led B (rdr q sl (N + 101 + 1 + 1) :: osl 9 strO gf (.slice am (ts[k]).2.2.1.length cm) (ts[k]).2.2.1 :: osl 9 strO gf3 (.slice an (ts[k]).2.2.2.1.length cn) (ts[k]).2.2.2.1 :: bx b ⟨43, d1 ++ ([.string (ts[k]).1, .string (ts[k]).2.1, .slice am (ts[k]).2.2.1.length cm, .slice an (ts[k]).2.2.2.1.length cn] ++ d3), ct * 4, true⟩ :: oel testO f1 (ts.take k) d1 :: oel testO f3 (ts.drop (k + 1)) d3 :: L) V := lq.front 5 (by simp)
            clear lo lq
            simp (disch := omega) only [↓stq, amv_at, vls, inf, frs, mark_eq, ↓reduceIte, Nat.reduceEqDiff, ite_tt, ite_ff, eq_self, and_true, true_and, and_self, implies_true, Bool.true_eq_false, Bool.false_eq_true, decide_true, decide_false, decide_eq_true_eq, decide_eq_false_iff_not, ne_eq, not_true_eq_false, not_false_eq_true, Bool.not_eq_true', Bool.not_eq_false', beq_self_eq_true, Bool.not_true, Bool.not_false, List.getElem?_toArray, List.getElem?_cons_zero, List.getElem?_cons_succ]
            refine led_lit li31 (by omega) rfl (by simp [Value.cells, Value.oneCell']) l fun bl V _ l => ?_
            simp (disch := omega) only [↓stq, amv_at, vls, inf, frs, mark_eq, ↓reduceIte, Nat.reduceEqDiff, ite_tt, ite_ff, eq_self, and_true, true_and, and_self, implies_true, Bool.true_eq_false, Bool.false_eq_true, decide_true, decide_false, decide_eq_true_eq, decide_eq_false_iff_not, ne_eq, not_true_eq_false, not_false_eq_true, Bool.not_eq_true', Bool.not_eq_false', beq_self_eq_true, Bool.not_true, Bool.not_false, List.getElem?_toArray, List.getElem?_cons_zero, List.getElem?_cons_succ, add_at]
            refine led_mid l 4 rfl sz31 (j := 3) (d' := [.string (ts[k]).1, .string (ts[k]).2.1, .slice am (ts[k]).2.2.1.length cm, .slice (some ⟨bl, 0, none⟩) 2 2]) (by omega) ⟨rfl, rfl⟩ ⟨by simp, rfl⟩ fun W _ l => ?_
            replace l := l.sub (.cons_cons _ (.cons_cons _ (.cons_cons _ (.cons _ (List.Sublist.refl _)))))
            have lm : Led B (bx b ⟨43, d1 ++ ([.string (ts[k]).1, .string (ts[k]).2.1, .slice am (ts[k]).2.2.1.length cm, .slice (some ⟨bl, 0, none⟩) 2 2] ++ d3), ct * 4, true⟩ :: oc testO (gf ++ [bl]) ((ts[k]).1, (ts[k]).2.1, (ts[k]).2.2.1, [⟨#[100, 98]⟩, ⟨#[100, 98]⟩], ()) [.string (ts[k]).1, .string (ts[k]).2.1, .slice am (ts[k]).2.2.1.length cm, .slice (some ⟨bl, 0, none⟩) 2 2] :: oel testO f1 (ts.take k) d1 :: oel testO f3 (ts.drop (k + 1)) d3 :: rdr q sl (N + 101 + 1 + 1) :: L) W := by
              refine l.regroup (List.perm_iff_count.2 fun z => ?_) fun it hit => ?_
              · simp only [List.set_cons_succ, List.set_cons_zero, fps, List.flatMap_cons, bx, oc, oel, osl, rdr, List.count_append]
                omega
              · simp only [List.mem_cons] at hit
                rcases hit with rfl | rfl | rfl | rfl | rfl | hit
                · exact l.at (i := 3) rfl
                · exact testO_mk (x := ((ts[k]).1, (ts[k]).2.1, (ts[k]).2.2.1, [⟨#[100, 98]⟩, ⟨#[100, 98]⟩], ())) z1 z2 (l.at (i := 2) rfl) (lit_osl (ns := [⟨#[100, 98]⟩, ⟨#[100, 98]⟩]) (c := 2) (l.at (i := 0) rfl) rfl rfl (by simp) (by simp) (by decide))
                · exact l.at (i := 4) rfl
                · exact l.at (i := 5) rfl
                · exact l.at (i := 1) rfl
                · exact l.all it (by simp [hit])
            have lc := Led.closeAt (O := testO) lm hkl hcb (by omega)
            simp (disch := omega) only [↓stq, amv_at, vls, inf, frs, mark_eq, ↓reduceIte, Nat.reduceEqDiff, ite_tt, ite_ff, eq_self, and_true, true_and, and_self, implies_true, Bool.true_eq_false, Bool.false_eq_true, decide_true, decide_false, decide_eq_true_eq, decide_eq_false_iff_not, ne_eq, not_true_eq_false, not_false_eq_true, Bool.not_eq_true', Bool.not_eq_false', beq_self_eq_true, Bool.not_true, Bool.not_false, List.getElem?_toArray, List.getElem?_cons_zero, List.getElem?_cons_succ]
            exact ⟨_, ts.set k ((ts[k]).1, (ts[k]).2.1, (ts[k]).2.2.1, [⟨#[100, 98]⟩, ⟨#[100, 98]⟩], ()), by rw [List.length_set]; omega, (fun t ht => by
              rcases List.mem_or_eq_of_mem_set ht with ht | rfl
              · exact ht2 t ht
              · exact ⟨hgk.1, hgk.2.1, hgk.2.2.1, by show 2 ≤ 3; omega⟩), ((rdr_more (lc.perm (List.Perm.swap ..)) (M := N + 150) (by omega)).perm (List.Perm.swap ..)).upd (i := 0) rfl rfl (Only.refl _ _) (osl_rdl (lc.at (i := 0) rfl))⟩
          · simp (disch := omega) only [↓stq, amv_at, vls, inf, frs, mark_eq, ↓reduceIte, Nat.reduceEqDiff, ite_tt, ite_ff, eq_self, and_true, true_and, and_self, implies_true, Bool.true_eq_false, Bool.false_eq_true, decide_true, decide_false, decide_eq_true_eq, decide_eq_false_iff_not, ne_eq, not_true_eq_false, not_false_eq_true, Bool.not_eq_true', Bool.not_eq_false', beq_self_eq_true, Bool.not_true, Bool.not_false, List.getElem?_toArray, List.getElem?_cons_zero, List.getElem?_cons_succ]
            exact fin V _ (by omega) l
  · exact fin V _ (by omega) l

theorem DrawWithTests_c (A : View) (v : Value) (bs : List UInt8) (h : Sl byteS A v bs) : ACalls Try.prog 34 #[v] A fun r V => ∃ (x : SuiteD) (ts : List TestD) (d : List Value) (w : Value), r = .tuple #[.agg d.toArray, w] ∧ GenS x ∧ ts.length ≤ 11 ∧ suiteS.rel V x d ∧ Sl testS V w ts ∧ Ext A V := by
  obtain ⟨a, c, rfl, _, _⟩ := h.slice
  refine acalls Try.func34 rfl (by kernel_rfl) ?_
  simp (disch := omega) only [↓stq, amv_at, vls, inf, frs, mark_eq, ↓reduceIte, Nat.reduceEqDiff, ite_tt, ite_ff, eq_self, and_true, true_and, and_self, implies_true, Bool.true_eq_false, Bool.false_eq_true, decide_true, decide_false, decide_eq_true_eq, decide_eq_false_iff_not, ne_eq, not_true_eq_false, not_false_eq_true, Bool.not_eq_true', Bool.not_eq_false', beq_self_eq_true, Bool.not_true, Bool.not_false, List.getElem?_toArray, List.getElem?_cons_zero, List.getElem?_cons_succ]
  refine led_alloc zc26 (Led.nil A) fun q2 V he l => ?_
  simp (disch := omega) only [↓stq, amv_at, vls, inf, frs, mark_eq, ↓reduceIte, Nat.reduceEqDiff, ite_tt, ite_ff, eq_self, and_true, true_and, and_self, implies_true, Bool.true_eq_false, Bool.false_eq_true, decide_true, decide_false, decide_eq_true_eq, decide_eq_false_iff_not, ne_eq, not_true_eq_false, not_false_eq_true, Bool.not_eq_true', Bool.not_eq_false', beq_self_eq_true, Bool.not_true, Bool.not_false, List.getElem?_toArray, List.getElem?_cons_zero, List.getElem?_cons_succ]
  refine (newReader_c A V _ bs h).mono ?_
  rintro _ V2 ⟨q, sl, rfl, hb, l2⟩
  replace l := l.append l2
  simp (disch := omega) only [↓stq, amv_at, vls, inf, frs, mark_eq, ↓reduceIte, Nat.reduceEqDiff, ite_tt, ite_ff, eq_self, and_true, true_and, and_self, implies_true, Bool.true_eq_false, Bool.false_eq_true, decide_true, decide_false, decide_eq_true_eq, decide_eq_false_iff_not, ne_eq, not_true_eq_false, not_false_eq_true, Bool.not_eq_true', Bool.not_eq_false', beq_self_eq_true, Bool.not_true, Bool.not_false, List.getElem?_toArray, List.getElem?_cons_zero, List.getElem?_cons_succ]
  refine (someSuite_c A V2 [bx q2 _] q sl 0 hb (by omega) l).mono ?_
  rintro _ V3 ⟨fp, x, d, rfl, hg, l⟩
  have hd := suite_cells (suiteO_S (show suiteO.rel V3 fp x d from l.at (i := 0) rfl))
  simp (disch := omega) only [↓stq, amv_at, vls, inf, frs, mark_eq, ↓reduceIte, Nat.reduceEqDiff, ite_tt, ite_ff, eq_self, and_true, true_and, and_self, implies_true, Bool.true_eq_false, Bool.false_eq_true, decide_true, decide_false, decide_eq_true_eq, decide_eq_false_iff_not, ne_eq, not_true_eq_false, not_false_eq_true, Bool.not_eq_true', Bool.not_eq_false', beq_self_eq_true, Bool.not_true, Bool.not_false, List.getElem?_toArray, List.getElem?_cons_zero, List.getElem?_cons_succ]
  refine (someTests_c A V3 _ q sl _ hb (by omega) (l.perm (List.Perm.swap ..))).mono ?_
  rintro w V4 ⟨ft, ts, ht1, ht2, l⟩
  simp (disch := omega) only [↓stq, amv_at, vls, inf, frs, mark_eq, ↓reduceIte, Nat.reduceEqDiff, ite_tt, ite_ff, eq_self, and_true, true_and, and_self, implies_true, Bool.true_eq_false, Bool.false_eq_true, decide_true, decide_false, decide_eq_true_eq, decide_eq_false_iff_not, ne_eq, not_true_eq_false, not_false_eq_true, Bool.not_eq_true', Bool.not_eq_false', beq_self_eq_true, Bool.not_true, Bool.not_false, List.getElem?_toArray, List.getElem?_cons_zero, List.getElem?_cons_succ]
  refine led_storeAll l 3 rfl sz26 hd.1 rfl hd.2 fun V l => ?_
  have kp : V.part ⟨q2, 0, none⟩ 2 = some d := l.partn (i := 3) rfl hd.1 hd.2
  simp (disch := omega) only [↓stq, amv_at, vls, inf, frs, mark_eq, ↓reduceIte, Nat.reduceEqDiff, ite_tt, ite_ff, eq_self, and_true, true_and, and_self, implies_true, Bool.true_eq_false, Bool.false_eq_true, decide_true, decide_false, decide_eq_true_eq, decide_eq_false_iff_not, ne_eq, not_true_eq_false, not_false_eq_true, Bool.not_eq_true', Bool.not_eq_false', beq_self_eq_true, Bool.not_true, Bool.not_false, List.getElem?_toArray, List.getElem?_cons_zero, List.getElem?_cons_succ, kp]
  exact ⟨x, ts, d, w, rfl, hg, ht1, suiteO_S (show suiteO.rel V fp x d from l.at (i := 2) rfl), rdl_sl (l.at (i := 0) rfl), l.ext⟩

end Go.Proofs.Ytjiioedohbbceaa

