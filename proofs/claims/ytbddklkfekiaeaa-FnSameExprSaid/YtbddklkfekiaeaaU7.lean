/- Expressions: the program's reading of them. -/
import Derived.Test.YtbddklkfekiaeaaU6
import Derived.Test.YtbddklkfekiaeaaU3
set_option maxHeartbeats 4000000
set_option synthInstance.maxHeartbeats 400000
set_option synthInstance.maxSize 4096
set_option linter.unusedSimpArgs false
set_option linter.unusedVariables false
namespace Go.Proofs.Ytbddklkfekiaeaa

set_option maxRecDepth 100000

/-- What comes of a text that is read. -/
def Got2 (A V : View) (d : List Value) (s' : ByteArray) (ok : Bool) : Option (Ex × Bs) → Prop
  | some (e, r) => ok = true ∧ s' = tx r ∧ ∃ fp, Led A [exI fp e d] V
  | none => ok = false ∧ Ext A V
theorem Got2.ext {A V : View} {d : List Value} {s' : ByteArray} {ok : Bool} {p : Option (Ex × Bs)} (h : Got2 A V d s' ok p) : Ext A V := by
  cases p with
  | none => exact h.2
  | some er => obtain ⟨_, _, _, l⟩ := h; exact l.ext

def ResI (A : View) (s : ByteArray) (p : Option (Ex × Bs)) (r : Value) (V : View) : Prop := ∃ d s' ok, r = .tuple #[.agg d.toArray, .string s', .bool ok] ∧ Two d ∧ s'.size ≤ s.size ∧ Got2 A V d s' ok p

def callI (A : View) (s : ByteArray) (R : Value → View → Prop) : Lv → Prop
  | .fac => ACalls Try.prog 112 #[.string s] A R
  | .con => ACalls Try.prog 96 #[.string s, .string conS] A R
  | .dis => ACalls Try.prog 96 #[.string s, .string disS] A R

def ImplOk (n : Nat) (l : Lv) : Prop := ∀ (A : View) (s : ByteArray), s.size ≤ 60 → 3 * s.size + l.n < n → callI A s (ResI A s (parse n l s.data.toList)) l

theorem buEx0 : Try.prog.built 64 [] = some #[.string ⟨#[]⟩, .slice none 0 0] := by rw [bt64]; rfl
theorem buEx1 (s : ByteArray) : Try.prog.built 64 [(0, .string s)] = some #[.string s, .slice none 0 0] := by rw [bt64]; rfl
theorem tx_list (r : Bs) : (tx r).data.toList = r := by
  show r.toArray.toList = r
  simp
theorem agg2 {d : List Value} (h : Two d) : (Value.agg d.toArray).cells.size = 2 ∧ (Value.agg d.toArray).cells.toList.all (·.oneCell') = true := by
  refine ⟨?_, ?_⟩
  · show d.toArray.size = 2
    simp [h.1]
  · show d.toArray.toList.all (·.oneCell') = true
    rw [List.toList_toArray, List.all_eq_true]
    exact h.2
theorem cutP_yes {s w : ByteArray} (h : w.data.toList.isPrefixOf s.data.toList = true) : cutP s w = tx (s.data.toList.drop w.size) := by unfold cutP; rw [if_pos h]
theorem cutP_no {s w : ByteArray} (h : w.data.toList.isPrefixOf s.data.toList = false) : cutP s w = s := by unfold cutP; rw [if_neg (by rw [h]; decide)]

def mkA (at1 : Bool) (w : ByteArray) : Ex := if at1 then .mod w else .mark w
def wdA (at1 : Bool) (w : ByteArray) : ByteArray := if at1 then atS w else w
theorem atomP_nm {s : ByteArray} {at1 : Bool} (h : atW.isPrefixOf s.data.toList = at1) : atomP s.data.toList = (if nmOk (tx (wordAt (cutP s ⟨#[64]⟩) 0)) then some (mkA at1 (tx (wordAt (cutP s ⟨#[64]⟩) 0)), (cutP s ⟨#[64]⟩).data.toList.drop (wordAt (cutP s ⟨#[64]⟩) 0).length) else none) ∧ (cutP s ⟨#[64]⟩).size ≤ s.size := by
  have hd := wordAt_drop (cutP s ⟨#[64]⟩) 0
  rw [Nat.zero_add] at hd
  rw [hd]
  unfold wordAt atomP
  rw [List.drop_zero, h]
  cases at1 with
  | true =>
    rw [cutP_yes h, tx_list, if_pos rfl]
    exact ⟨rfl, by rw [tx_size, List.length_drop, toList_len]; omega⟩
  | false =>
    rw [cutP_no h, if_neg (by decide)]
    exact ⟨rfl, Nat.le_refl _⟩
theorem led_atom {A V : View} {L : List It} {at1 : Bool} {w : ByteArray} (l : Led A L V) (h : nmOk w = true) : Led A (exI [] (mkA at1 w) [.string (wdA at1 w), .slice none 0 0] :: L) V := by
  cases at1 with
  | true => exact led_mod l h
  | false => exact led_word l h

theorem impl_factor_step (n : Nat) (ihd : ImplOk n .dis) (ihf : ImplOk n .fac) : ImplOk (n + 1) .fac := by
  intro A s ht hn
  show ACalls Try.prog 112 #[.string s] A (ResI A s (facP (parse n .dis) (parse n .fac) s.data.toList))
  have hn : 3 * s.size + 0 < n + 1 := hn
  have hsl := toList_len s
  refine acalls Try.func112 rfl (by kernel_rfl) ?_
  simp (disch := omega) only [↓stq, amv_at, vls, inf, frs, mark_eq, ↓reduceIte, Nat.reduceEqDiff, ite_tt, ite_ff, eq_self, and_true, true_and, and_self, implies_true, Bool.true_eq_false, Bool.false_eq_true, decide_true, decide_false, decide_eq_true_eq, decide_eq_false_iff_not, ne_eq, not_true_eq_false, not_false_eq_true, Bool.not_eq_true', Bool.not_eq_false', beq_self_eq_true, Bool.not_true, Bool.not_false, List.getElem?_toArray, List.getElem?_cons_zero, List.getElem?_cons_succ]
  refine led_alloc zc64 (Led.nil A) fun q2 V _ l => ?_
  simp (disch := omega) only [↓stq, amv_at, vls, inf, frs, mark_eq, ↓reduceIte, Nat.reduceEqDiff, ite_tt, ite_ff, eq_self, and_true, true_and, and_self, implies_true, Bool.true_eq_false, Bool.false_eq_true, decide_true, decide_false, decide_eq_true_eq, decide_eq_false_iff_not, ne_eq, not_true_eq_false, not_false_eq_true, Bool.not_eq_true', Bool.not_eq_false', beq_self_eq_true, Bool.not_true, Bool.not_false, List.getElem?_toArray, List.getElem?_cons_zero, List.getElem?_cons_succ, List.getElem_toArray, List.getElem_cons_zero, List.getElem_cons_succ]
  refine (strings_cutPrefix_c V s ⟨#[110, 111, 116, 32]⟩).mono ?_
  rintro _ V ⟨rfl, rfl⟩
  unfold facP
  cases hp1 : notW.isPrefixOf s.data.toList with
  | true =>
    have hle := pre_len hp1
    have h4 : notW.length = 4 := rfl
    rw [show (⟨#[110, 111, 116, 32]⟩ : ByteArray).data.toList.isPrefixOf s.data.toList = true from hp1, cutP_yes (show (⟨#[110, 111, 116, 32]⟩ : ByteArray).data.toList.isPrefixOf s.data.toList = true from hp1), if_pos rfl]
    have hz : (tx (s.data.toList.drop 4)).size = s.size - 4 := by rw [tx_size, List.length_drop, hsl]
    simp (disch := omega) only [↓stq, amv_at, vls, inf, frs, mark_eq, ↓reduceIte, Nat.reduceEqDiff, ite_tt, ite_ff, eq_self, and_true, true_and, and_self, implies_true, Bool.true_eq_false, Bool.false_eq_true, decide_true, decide_false, decide_eq_true_eq, decide_eq_false_iff_not, ne_eq, not_true_eq_false, not_false_eq_true, Bool.not_eq_true', Bool.not_eq_false', beq_self_eq_true, Bool.not_true, Bool.not_false, List.getElem?_toArray, List.getElem?_cons_zero, List.getElem?_cons_succ, List.getElem_toArray, List.getElem_cons_zero, List.getElem_cons_succ]
    refine (show ACalls Try.prog 112 #[.string (tx (s.data.toList.drop 4))] V (ResI V _ (parse n .fac (tx (s.data.toList.drop 4)).data.toList)) from ihf V (tx (s.data.toList.drop 4)) (by omega) (by show 3 * _ + 0 < n; omega)).mono ?_
    rintro _ V2 ⟨d, s', ok, rfl, hd, hs', hg⟩
    rw [tx_list] at hg
    have hM : ∃ M, Led A (bx q2 ⟨64, [.string ⟨#[]⟩, .slice none 0 0], 2, true⟩ :: M) V2 ∧ ∀ bl t room W c, Led A (bx bl ⟨t, d, room, true⟩ :: M) W → Got2 A W [.string notS, .slice (some ⟨bl, 0, none⟩) 1 c] s' ok (match parse n .fac (s.data.toList.drop 4) with
        | some (e, r) => some (.neg e, r)
        | none => none) := by
      cases hq : parse n .fac (s.data.toList.drop 4) with
      | none =>
        rw [hq] at hg
        exact ⟨[], l.step hg.2, fun bl t room W c lw => ⟨hg.1, lw.ext⟩⟩
      | some er =>
        obtain ⟨e, r⟩ := er
        rw [hq] at hg
        obtain ⟨h1, h2, fp, l2⟩ := hg
        exact ⟨[exI fp e d], (l.append l2).perm (List.Perm.swap ..), fun bl t room W c lw => ⟨h1, h2, _, led_neg lw⟩⟩
    obtain ⟨M, l, hM⟩ := hM
    simp (disch := omega) only [↓stq, amv_at, vls, inf, frs, mark_eq, ↓reduceIte, Nat.reduceEqDiff, ite_tt, ite_ff, eq_self, and_true, true_and, and_self, implies_true, Bool.true_eq_false, Bool.false_eq_true, decide_true, decide_false, decide_eq_true_eq, decide_eq_false_iff_not, ne_eq, not_true_eq_false, not_false_eq_true, Bool.not_eq_true', Bool.not_eq_false', beq_self_eq_true, Bool.not_true, Bool.not_false, List.getElem?_toArray, List.getElem?_cons_zero, List.getElem?_cons_succ, List.getElem_toArray, List.getElem_cons_zero, List.getElem_cons_succ]
    refine led_alloc zc64 l fun q7 V3 he3 l => ?_
    simp (disch := omega) only [↓stq, amv_at, vls, inf, frs, mark_eq, ↓reduceIte, Nat.reduceEqDiff, ite_tt, ite_ff, eq_self, and_true, true_and, and_self, implies_true, Bool.true_eq_false, Bool.false_eq_true, decide_true, decide_false, decide_eq_true_eq, decide_eq_false_iff_not, ne_eq, not_true_eq_false, not_false_eq_true, Bool.not_eq_true', Bool.not_eq_false', beq_self_eq_true, Bool.not_true, Bool.not_false, List.getElem?_toArray, List.getElem?_cons_zero, List.getElem?_cons_succ, List.getElem_toArray, List.getElem_cons_zero, List.getElem_cons_succ]
    refine led_storeAll l 0 rfl sz64 hd.1 rfl hd.2 fun V4 l => ?_
    have k7 : V4.part ⟨q7, 0, none⟩ 2 = some d := l.partn (i := 0) rfl hd.1 hd.2
    simp (disch := omega) only [↓stq, amv_at, vls, inf, frs, mark_eq, ↓reduceIte, Nat.reduceEqDiff, ite_tt, ite_ff, eq_self, and_true, true_and, and_self, implies_true, Bool.true_eq_false, Bool.false_eq_true, decide_true, decide_false, decide_eq_true_eq, decide_eq_false_iff_not, ne_eq, not_true_eq_false, not_false_eq_true, Bool.not_eq_true', Bool.not_eq_false', beq_self_eq_true, Bool.not_true, Bool.not_false, List.getElem?_toArray, List.getElem?_cons_zero, List.getElem?_cons_succ, List.getElem_toArray, List.getElem_cons_zero, List.getElem_cons_succ, k7]
    refine led_lit li62 (by omega) rfl (fun p hp => by rcases List.mem_singleton.1 hp with rfl; exact agg2 hd) l fun bl V5 _ l => ?_
    simp (disch := omega) only [↓stq, amv_at, vls, inf, frs, mark_eq, ↓reduceIte, Nat.reduceEqDiff, ite_tt, ite_ff, eq_self, and_true, true_and, and_self, implies_true, Bool.true_eq_false, Bool.false_eq_true, decide_true, decide_false, decide_eq_true_eq, decide_eq_false_iff_not, ne_eq, not_true_eq_false, not_false_eq_true, Bool.not_eq_true', Bool.not_eq_false', beq_self_eq_true, Bool.not_true, Bool.not_false, List.getElem?_toArray, List.getElem?_cons_zero, List.getElem?_cons_succ, List.getElem_toArray, List.getElem_cons_zero, List.getElem_cons_succ]
    refine led_storeAll (d := [.string notS, .slice (some ⟨bl, 0, none⟩) 1 1]) l 2 rfl sz64 rfl rfl (two_of _ _ _ _).2 fun V6 l => ?_
    have k2 : V6.part ⟨q2, 0, none⟩ 2 = some [.string notS, .slice (some ⟨bl, 0, none⟩) 1 1] := l.part (i := 2) rfl rfl
    simp (disch := omega) only [↓stq, amv_at, vls, inf, frs, mark_eq, ↓reduceIte, Nat.reduceEqDiff, ite_tt, ite_ff, eq_self, and_true, true_and, and_self, implies_true, Bool.true_eq_false, Bool.false_eq_true, decide_true, decide_false, decide_eq_true_eq, decide_eq_false_iff_not, ne_eq, not_true_eq_false, not_false_eq_true, Bool.not_eq_true', Bool.not_eq_false', beq_self_eq_true, Bool.not_true, Bool.not_false, List.getElem?_toArray, List.getElem?_cons_zero, List.getElem?_cons_succ, List.getElem_toArray, List.getElem_cons_zero, List.getElem_cons_succ, k2]
    refine ⟨_, s', ok, rfl, two_of _ _ _ _, by omega, hM bl 64 (1 * 2) V6 1 ?_⟩
    have l2 : Led A (bx bl ⟨64, d ++ [], 1 * 2, true⟩ :: bx q7 ⟨64, d, 2, true⟩ :: bx q2 ⟨64, [.string notS, .slice (some ⟨bl, 0, none⟩) 1 1], 2, true⟩ :: M) V6 := l
    rw [List.append_nil] at l2
    exact l2.sub (.cons_cons _ (.cons _ (.cons _ (List.Sublist.refl _))))
  | false =>
    rw [show (⟨#[110, 111, 116, 32]⟩ : ByteArray).data.toList.isPrefixOf s.data.toList = false from hp1, cutP_no (show (⟨#[110, 111, 116, 32]⟩ : ByteArray).data.toList.isPrefixOf s.data.toList = false from hp1), if_neg (by decide)]
    simp (disch := omega) only [↓stq, amv_at, vls, inf, frs, mark_eq, ↓reduceIte, Nat.reduceEqDiff, ite_tt, ite_ff, eq_self, and_true, true_and, and_self, implies_true, Bool.true_eq_false, Bool.false_eq_true, decide_true, decide_false, decide_eq_true_eq, decide_eq_false_iff_not, ne_eq, not_true_eq_false, not_false_eq_true, Bool.not_eq_true', Bool.not_eq_false', beq_self_eq_true, Bool.not_true, Bool.not_false, List.getElem?_toArray, List.getElem?_cons_zero, List.getElem?_cons_succ, List.getElem_toArray, List.getElem_cons_zero, List.getElem_cons_succ]
    refine (strings_cutPrefix_c V s ⟨#[40]⟩).mono ?_
    rintro _ V ⟨rfl, rfl⟩
    cases hp2 : openW.isPrefixOf s.data.toList with
    | true =>
      have hle := pre_len hp2
      have h4 : openW.length = 1 := rfl
      rw [show (⟨#[40]⟩ : ByteArray).data.toList.isPrefixOf s.data.toList = true from hp2, cutP_yes (show (⟨#[40]⟩ : ByteArray).data.toList.isPrefixOf s.data.toList = true from hp2), if_pos rfl]
      have hz : (tx (s.data.toList.drop 1)).size = s.size - 1 := by rw [tx_size, List.length_drop, hsl]
      simp (disch := omega) only [↓stq, amv_at, vls, inf, frs, mark_eq, ↓reduceIte, Nat.reduceEqDiff, ite_tt, ite_ff, eq_self, and_true, true_and, and_self, implies_true, Bool.true_eq_false, Bool.false_eq_true, decide_true, decide_false, decide_eq_true_eq, decide_eq_false_iff_not, ne_eq, not_true_eq_false, not_false_eq_true, Bool.not_eq_true', Bool.not_eq_false', beq_self_eq_true, Bool.not_true, Bool.not_false, List.getElem?_toArray, List.getElem?_cons_zero, List.getElem?_cons_succ, List.getElem_toArray, List.getElem_cons_zero, List.getElem_cons_succ]
      refine (show ACalls Try.prog 96 #[.string (tx (s.data.toList.drop 1)), .string disS] V (ResI V _ (parse n .dis (tx (s.data.toList.drop 1)).data.toList)) from ihd V (tx (s.data.toList.drop 1)) (by omega) (by show 3 * _ + 2 < n; omega)).mono ?_
      rintro _ V2 ⟨d, s', ok, rfl, hd, hs', hg⟩
      rw [tx_list] at hg
      obtain ⟨pre, hpre⟩ : ∃ pre, closeW.isPrefixOf s'.data.toList = pre := ⟨_, rfl⟩
      have hcz : (cutP s' ⟨#[41]⟩).size ≤ s'.size := by
        unfold cutP
        split
        · rw [tx_size, List.length_drop, toList_len]; omega
        · exact Nat.le_refl _
      have hM : ∃ M, Led A (bx q2 ⟨64, [.string ⟨#[]⟩, .slice none 0 0], 2, true⟩ :: M) V2 ∧ ∀ W, Led A M W → Got2 A W d (cutP s' ⟨#[41]⟩) (ok && pre) (match parse n .dis (s.data.toList.drop 1) with
          | some (e, r) => if closeW.isPrefixOf r then some (e, r.drop 1) else none
          | none => none) := by
        cases hq : parse n .dis (s.data.toList.drop 1) with
        | none =>
          rw [hq] at hg
          obtain rfl : ok = false := hg.1
          exact ⟨[], l.step hg.2, fun W lw => ⟨rfl, lw.ext⟩⟩
        | some er =>
          obtain ⟨e, r⟩ := er
          rw [hq] at hg
          obtain ⟨rfl, rfl, fp, l2⟩ := hg
          rw [tx_list] at hpre
          refine ⟨[exI fp e d], (l.append l2).perm (List.Perm.swap ..), fun W lw => ?_⟩
          show Got2 A W d _ _ (if closeW.isPrefixOf r then some (e, r.drop 1) else none)
          cases pre with
          | true =>
            rw [if_pos hpre]
            refine ⟨rfl, ?_, fp, lw⟩
            rw [cutP_yes (by rw [tx_list]; exact hpre), tx_list]
            rfl
          | false =>
            rw [if_neg (by rw [hpre]; decide)]
            exact ⟨rfl, lw.ext⟩
      obtain ⟨M, l, hM⟩ := hM
      simp (disch := omega) only [↓stq, amv_at, vls, inf, frs, mark_eq, ↓reduceIte, Nat.reduceEqDiff, ite_tt, ite_ff, eq_self, and_true, true_and, and_self, implies_true, Bool.true_eq_false, Bool.false_eq_true, decide_true, decide_false, decide_eq_true_eq, decide_eq_false_iff_not, ne_eq, not_true_eq_false, not_false_eq_true, Bool.not_eq_true', Bool.not_eq_false', beq_self_eq_true, Bool.not_true, Bool.not_false, List.getElem?_toArray, List.getElem?_cons_zero, List.getElem?_cons_succ, List.getElem_toArray, List.getElem_cons_zero, List.getElem_cons_succ]
      refine led_alloc zc64 l fun q7 V3 he3 l => ?_
      simp (disch := omega) only [↓stq, amv_at, vls, inf, frs, mark_eq, ↓reduceIte, Nat.reduceEqDiff, ite_tt, ite_ff, eq_self, and_true, true_and, and_self, implies_true, Bool.true_eq_false, Bool.false_eq_true, decide_true, decide_false, decide_eq_true_eq, decide_eq_false_iff_not, ne_eq, not_true_eq_false, not_false_eq_true, Bool.not_eq_true', Bool.not_eq_false', beq_self_eq_true, Bool.not_true, Bool.not_false, List.getElem?_toArray, List.getElem?_cons_zero, List.getElem?_cons_succ, List.getElem_toArray, List.getElem_cons_zero, List.getElem_cons_succ]
      refine led_storeAll l 0 rfl sz64 hd.1 rfl hd.2 fun V4 l => ?_
      have k7 : V4.part ⟨q7, 0, none⟩ 2 = some d := l.partn (i := 0) rfl hd.1 hd.2
      simp (disch := omega) only [↓stq, amv_at, vls, inf, frs, mark_eq, ↓reduceIte, Nat.reduceEqDiff, ite_tt, ite_ff, eq_self, and_true, true_and, and_self, implies_true, Bool.true_eq_false, Bool.false_eq_true, decide_true, decide_false, decide_eq_true_eq, decide_eq_false_iff_not, ne_eq, not_true_eq_false, not_false_eq_true, Bool.not_eq_true', Bool.not_eq_false', beq_self_eq_true, Bool.not_true, Bool.not_false, List.getElem?_toArray, List.getElem?_cons_zero, List.getElem?_cons_succ, List.getElem_toArray, List.getElem_cons_zero, List.getElem_cons_succ]
      refine (strings_cutPrefix_c V4 s' ⟨#[41]⟩).mono ?_
      rintro _ V4 ⟨rfl, rfl⟩
      rw [show (⟨#[41]⟩ : ByteArray).data.toList.isPrefixOf s'.data.toList = pre from hpre]
      have fin : ∀ V5, Led A (bx q7 ⟨64, d, 2, true⟩ :: bx q2 ⟨64, d, 2, true⟩ :: M) V5 → ResI A s (match parse n .dis (s.data.toList.drop 1) with
          | some (e, r) => if closeW.isPrefixOf r then some (e, r.drop 1) else none
          | none => none) (.tuple #[.agg d.toArray, .string (cutP s' ⟨#[41]⟩), .bool (ok && pre)]) V5 := fun V5 l => ⟨d, _, _, rfl, hd, by omega, hM V5 (l.sub (.cons _ (.cons _ (List.Sublist.refl _))))⟩
      cases ok <;> simp (disch := omega) only [↓stq, amv_at, vls, inf, frs, mark_eq, ↓reduceIte, Nat.reduceEqDiff, ite_tt, ite_ff, eq_self, and_true, true_and, and_self, implies_true, Bool.true_eq_false, Bool.false_eq_true, decide_true, decide_false, decide_eq_true_eq, decide_eq_false_iff_not, ne_eq, not_true_eq_false, not_false_eq_true, Bool.not_eq_true', Bool.not_eq_false', beq_self_eq_true, Bool.not_true, Bool.not_false, List.getElem?_toArray, List.getElem?_cons_zero, List.getElem?_cons_succ, List.getElem_toArray, List.getElem_cons_zero, List.getElem_cons_succ, k7]
      all_goals
        refine led_storeAll l 1 rfl sz64 hd.1 rfl hd.2 fun V6 l => ?_
        have k2 : V6.part ⟨q2, 0, none⟩ 2 = some d := l.partn (i := 1) rfl hd.1 hd.2
        simp (disch := omega) only [↓stq, amv_at, vls, inf, frs, mark_eq, ↓reduceIte, Nat.reduceEqDiff, ite_tt, ite_ff, eq_self, and_true, true_and, and_self, implies_true, Bool.true_eq_false, Bool.false_eq_true, decide_true, decide_false, decide_eq_true_eq, decide_eq_false_iff_not, ne_eq, not_true_eq_false, not_false_eq_true, Bool.not_eq_true', Bool.not_eq_false', beq_self_eq_true, Bool.not_true, Bool.not_false, List.getElem?_toArray, List.getElem?_cons_zero, List.getElem?_cons_succ, List.getElem_toArray, List.getElem_cons_zero, List.getElem_cons_succ, k2]
        exact fin V6 l
    | false =>
      rw [show (⟨#[40]⟩ : ByteArray).data.toList.isPrefixOf s.data.toList = false from hp2, cutP_no (show (⟨#[40]⟩ : ByteArray).data.toList.isPrefixOf s.data.toList = false from hp2), if_neg (by decide)]
      simp (disch := omega) only [↓stq, amv_at, vls, inf, frs, mark_eq, ↓reduceIte, Nat.reduceEqDiff, ite_tt, ite_ff, eq_self, and_true, true_and, and_self, implies_true, Bool.true_eq_false, Bool.false_eq_true, decide_true, decide_false, decide_eq_true_eq, decide_eq_false_iff_not, ne_eq, not_true_eq_false, not_false_eq_true, Bool.not_eq_true', Bool.not_eq_false', beq_self_eq_true, Bool.not_true, Bool.not_false, List.getElem?_toArray, List.getElem?_cons_zero, List.getElem?_cons_succ, List.getElem_toArray, List.getElem_cons_zero, List.getElem_cons_succ]
      refine (strings_cutPrefix_c V s ⟨#[64]⟩).mono ?_
      rintro _ V ⟨rfl, rfl⟩
      obtain ⟨at1, hat⟩ : ∃ at1, atW.isPrefixOf s.data.toList = at1 := ⟨_, rfl⟩
      have hA := atomP_nm hat
      rw [show (⟨#[64]⟩ : ByteArray).data.toList.isPrefixOf s.data.toList = at1 from hat, hA.1]
      have hnz := hA.2
      clear hA ihd ihf
      generalize cutP s ⟨#[64]⟩ = nm at hnz ⊢
      simp (disch := omega) only [↓stq, amv_at, vls, inf, frs, mark_eq, ↓reduceIte, Nat.reduceEqDiff, ite_tt, ite_ff, eq_self, and_true, true_and, and_self, implies_true, Bool.true_eq_false, Bool.false_eq_true, decide_true, decide_false, decide_eq_true_eq, decide_eq_false_iff_not, ne_eq, not_true_eq_false, not_false_eq_true, Bool.not_eq_true', Bool.not_eq_false', beq_self_eq_true, Bool.not_true, Bool.not_false, List.getElem?_toArray, List.getElem?_cons_zero, List.getElem?_cons_succ, List.getElem_toArray, List.getElem_cons_zero, List.getElem_cons_succ]
      refine aloop (fun d fr W => ∃ k : Nat, k ≤ nm.size ∧ d = nm.size - k ∧ W = V ∧ fr 0 = .string s ∧ fr 2 = .pointer (some ⟨q2, 0, none⟩) ∧ fr 16 = .string nm ∧ fr 17 = .bool at1 ∧ fr 18 = .int .i64 k ∧ ((nm.data.toList.drop 0).take k).all lettr = true) nm.size ⟨0, by omega, by omega, rfl, by rfl, by rfl, by rfl, by rfl, by rfl, by simp⟩ ?_
      rintro d fr V ⟨k, hk, rfl, rfl, h0, h2, h16, h17, h18, hall⟩
      have fin : ∀ {P : Prop}, (0 + k = nm.size ∨ ∃ h : 0 + k < nm.size, lettr (nm.data.toList[0 + k]'(by rw [toList_len]; exact h)) = false) → (nm.extract 0 k = tx (wordAt nm 0) → (wordAt nm 0).length = k → P) → P := fun h hP => by
        obtain ⟨_, h2, h3⟩ := word_end hall (by omega) h
        rw [Nat.zero_add] at h3
        exact hP h3 h2
      simp (disch := omega) only [↓stq, amv_at, vls, inf, frs, mark_eq, ↓reduceIte, Nat.reduceEqDiff, ite_tt, ite_ff, eq_self, and_true, true_and, and_self, implies_true, Bool.true_eq_false, Bool.false_eq_true, decide_true, decide_false, decide_eq_true_eq, decide_eq_false_iff_not, ne_eq, not_true_eq_false, not_false_eq_true, Bool.not_eq_true', Bool.not_eq_false', beq_self_eq_true, Bool.not_true, Bool.not_false, List.getElem?_toArray, List.getElem?_cons_zero, List.getElem?_cons_succ, List.getElem_toArray, List.getElem_cons_zero, List.getElem_cons_succ, h0, h2, h16, h17, h18]
      refine ⟨fun e1 => ?_, fun e1 => ?_⟩
      · have hlt : k < nm.size := by omega
        have hlt0 : 0 + k < nm.size := by omega
        have hls := lettr_sbyte hlt
        have hls0 : lettr (nm.data.toList[0 + k]'(by rw [toList_len]; exact hlt0)) = (decide (97 ≤ sbyte nm k) && decide (sbyte nm k ≤ 122)) := by
          rw [← hls]
          congr 1
          congr 1
          omega
        simp (disch := omega) only [↓stq, amv_at, vls, inf, frs, mark_eq, ↓reduceIte, Nat.reduceEqDiff, ite_tt, ite_ff, eq_self, and_true, true_and, and_self, implies_true, Bool.true_eq_false, Bool.false_eq_true, decide_true, decide_false, decide_eq_true_eq, decide_eq_false_iff_not, ne_eq, not_true_eq_false, not_false_eq_true, Bool.not_eq_true', Bool.not_eq_false', beq_self_eq_true, Bool.not_true, Bool.not_false, List.getElem?_toArray, List.getElem?_cons_zero, List.getElem?_cons_succ, List.getElem_toArray, List.getElem_cons_zero, List.getElem_cons_succ, h0, h2, h16, h17, h18, e1]
        refine ⟨fun e2 => ?_, fun e2 => ?_⟩ <;> simp (disch := omega) only [↓stq, amv_at, vls, inf, frs, mark_eq, ↓reduceIte, Nat.reduceEqDiff, ite_tt, ite_ff, eq_self, and_true, true_and, and_self, implies_true, Bool.true_eq_false, Bool.false_eq_true, decide_true, decide_false, decide_eq_true_eq, decide_eq_false_iff_not, ne_eq, not_true_eq_false, not_false_eq_true, Bool.not_eq_true', Bool.not_eq_false', beq_self_eq_true, Bool.not_true, Bool.not_false, List.getElem?_toArray, List.getElem?_cons_zero, List.getElem?_cons_succ, List.getElem_toArray, List.getElem_cons_zero, List.getElem_cons_succ, h0, h2, h16, h17, h18, e1, e2]
        · refine ⟨fun e3 => ?_, fun e3 => ?_⟩
          · rw [decide_eq_true (by omega), decide_eq_true (by omega)] at hls0
            simp (disch := omega) only [↓stq, amv_at, vls, inf, frs, mark_eq, ↓reduceIte, Nat.reduceEqDiff, ite_tt, ite_ff, eq_self, and_true, true_and, and_self, implies_true, Bool.true_eq_false, Bool.false_eq_true, decide_true, decide_false, decide_eq_true_eq, decide_eq_false_iff_not, ne_eq, not_true_eq_false, not_false_eq_true, Bool.not_eq_true', Bool.not_eq_false', beq_self_eq_true, Bool.not_true, Bool.not_false, List.getElem?_toArray, List.getElem?_cons_zero, List.getElem?_cons_succ, List.getElem_toArray, List.getElem_cons_zero, List.getElem_cons_succ, h0, h2, h16, h17, h18]
            refine ⟨_, by omega, k + 1, by omega, rfl, rfl, ?_⟩
            exact all_take_drop hlt0 hall hls0
          · have hx : (0 + k = nm.size ∨ ∃ h : 0 + k < nm.size, lettr (nm.data.toList[0 + k]'(by rw [toList_len]; exact h)) = false) := .inr ⟨hlt0, by rw [hls0, decide_eq_false (show ¬ sbyte nm k ≤ 122 by omega), Bool.and_false]⟩
            simp (disch := omega) only [↓stq, amv_at, vls, inf, frs, mark_eq, ↓reduceIte, Nat.reduceEqDiff, ite_tt, ite_ff, eq_self, and_true, true_and, and_self, implies_true, Bool.true_eq_false, Bool.false_eq_true, decide_true, decide_false, decide_eq_true_eq, decide_eq_false_iff_not, ne_eq, not_true_eq_false, not_false_eq_true, Bool.not_eq_true', Bool.not_eq_false', beq_self_eq_true, Bool.not_true, Bool.not_false, List.getElem?_toArray, List.getElem?_cons_zero, List.getElem?_cons_succ, List.getElem_toArray, List.getElem_cons_zero, List.getElem_cons_succ, h0, h2, h16, h17, h18]
            refine fin hx fun hw hwl => ?_
            obtain ⟨w, hww⟩ : ∃ w, nm.extract 0 k = w := ⟨_, rfl⟩
            have hws : w.size = k := by rw [← hww, hw, tx_size, hwl]
            rw [hwl, ← hw, hww]
            simp (disch := omega) only [↓stq, amv_at, vls, inf, frs, mark_eq, ↓reduceIte, Nat.reduceEqDiff, ite_tt, ite_ff, eq_self, and_true, true_and, and_self, implies_true, Bool.true_eq_false, Bool.false_eq_true, decide_true, decide_false, decide_eq_true_eq, decide_eq_false_iff_not, ne_eq, not_true_eq_false, not_false_eq_true, Bool.not_eq_true', Bool.not_eq_false', beq_self_eq_true, Bool.not_true, Bool.not_false, List.getElem?_toArray, List.getElem?_cons_zero, List.getElem?_cons_succ, List.getElem_toArray, List.getElem_cons_zero, List.getElem_cons_succ, h0, h2, h16, h17, h18, hww]
            refine (impl_nameOk_c V w (by omega)).mono ?_
            rintro _ V ⟨rfl, rfl⟩
            simp (disch := omega) only [↓stq, amv_at, vls, inf, frs, mark_eq, ↓reduceIte, Nat.reduceEqDiff, ite_tt, ite_ff, eq_self, and_true, true_and, and_self, implies_true, Bool.true_eq_false, Bool.false_eq_true, decide_true, decide_false, decide_eq_true_eq, decide_eq_false_iff_not, ne_eq, not_true_eq_false, not_false_eq_true, Bool.not_eq_true', Bool.not_eq_false', beq_self_eq_true, Bool.not_true, Bool.not_false, List.getElem?_toArray, List.getElem?_cons_zero, List.getElem?_cons_succ, List.getElem_toArray, List.getElem_cons_zero, List.getElem_cons_succ, h0, h2, h16, h17, h18, hww]
            refine ⟨fun e4 => ?_, fun e4 => ?_⟩
            · simp (disch := omega) only [↓stq, amv_at, vls, inf, frs, mark_eq, ↓reduceIte, Nat.reduceEqDiff, ite_tt, ite_ff, eq_self, and_true, true_and, and_self, implies_true, Bool.true_eq_false, Bool.false_eq_true, decide_true, decide_false, decide_eq_true_eq, decide_eq_false_iff_not, ne_eq, not_true_eq_false, not_false_eq_true, Bool.not_eq_true', Bool.not_eq_false', beq_self_eq_true, Bool.not_true, Bool.not_false, List.getElem?_toArray, List.getElem?_cons_zero, List.getElem?_cons_succ, List.getElem_toArray, List.getElem_cons_zero, List.getElem_cons_succ, h0, h2, h16, h17, h18, buEx0, hww]
              refine led_storeAll (d := [.string ⟨#[]⟩, .slice none 0 0]) l 0 rfl sz64 rfl rfl (two_of _ _ _ _).2 fun V6 l => ?_
              have k2 : V6.part ⟨q2, 0, none⟩ 2 = some [.string ⟨#[]⟩, .slice none 0 0] := l.part (i := 0) rfl rfl
              simp (disch := omega) only [↓stq, amv_at, vls, inf, frs, mark_eq, ↓reduceIte, Nat.reduceEqDiff, ite_tt, ite_ff, eq_self, and_true, true_and, and_self, implies_true, Bool.true_eq_false, Bool.false_eq_true, decide_true, decide_false, decide_eq_true_eq, decide_eq_false_iff_not, ne_eq, not_true_eq_false, not_false_eq_true, Bool.not_eq_true', Bool.not_eq_false', beq_self_eq_true, Bool.not_true, Bool.not_false, List.getElem?_toArray, List.getElem?_cons_zero, List.getElem?_cons_succ, List.getElem_toArray, List.getElem_cons_zero, List.getElem_cons_succ, h0, h2, h16, h17, h18, k2, hww]
              rw [e4, if_neg (by decide)]
              exact ⟨_, s, false, rfl, two_of _ _ _ _, Nat.le_refl _, rfl, l.ext⟩
            · have hfin : ∀ V6, Led A [bx q2 ⟨64, [.string (wdA at1 w), .slice none 0 0], 2, true⟩] V6 → ResI A s (if nmOk w = true then some (mkA at1 w, nm.data.toList.drop k) else none) (.tuple #[.agg (List.toArray [.string (wdA at1 w), .slice none 0 0]), .string (nm.extract k nm.size), .bool true]) V6 := fun V6 l => by
                rw [e4, if_pos rfl]
                refine ⟨_, _, true, rfl, two_of _ _ _ _, ?_, rfl, extract_tx _ _, [], (led_atom l.tail e4)⟩
                rw [extract_tx, tx_size, List.length_drop, toList_len]
                omega
              cases at1
              · simp (disch := omega) only [↓stq, amv_at, vls, inf, frs, mark_eq, ↓reduceIte, Nat.reduceEqDiff, ite_tt, ite_ff, eq_self, and_true, true_and, and_self, implies_true, Bool.true_eq_false, Bool.false_eq_true, decide_true, decide_false, decide_eq_true_eq, decide_eq_false_iff_not, ne_eq, not_true_eq_false, not_false_eq_true, Bool.not_eq_true', Bool.not_eq_false', beq_self_eq_true, Bool.not_true, Bool.not_false, List.getElem?_toArray, List.getElem?_cons_zero, List.getElem?_cons_succ, List.getElem_toArray, List.getElem_cons_zero, List.getElem_cons_succ, h0, h2, h16, h17, h18, hww]
                refine adraw_items [.q 0, .q 1, .q 2, .q 3, .q 4, .c 5 [], .q 6, .q 7] (by kernel_rfl) (by kernel_rfl) ?_
                simp (disch := omega) only [↓stq, amv_at, ↓pln, plv, nilOk, Nat.reduceBEq, Bool.or_false, Bool.or_true, Bool.false_or, Bool.true_or, vls, inf, frs, mark_eq, ↓reduceIte, Nat.reduceEqDiff, ite_tt, ite_ff, eq_self, and_true, true_and, and_self, implies_true, Bool.true_eq_false, Bool.false_eq_true, decide_true, decide_false, decide_eq_true_eq, decide_eq_false_iff_not, ne_eq, not_true_eq_false, not_false_eq_true, Bool.not_eq_true', Bool.not_eq_false', beq_self_eq_true, Bool.not_true, Bool.not_false, List.getElem?_toArray, List.getElem?_cons_zero, List.getElem?_cons_succ, List.getElem_toArray, List.getElem_cons_zero, List.getElem_cons_succ, h0, h2, h16, h17, h18, buEx1, hww]
                refine led_storeAll (d := [.string w, .slice none 0 0]) l 0 rfl sz64 rfl rfl (two_of _ _ _ _).2 fun V6 l => ?_
                have k2 : V6.part ⟨q2, 0, none⟩ 2 = some [.string w, .slice none 0 0] := l.part (i := 0) rfl rfl
                simp (disch := omega) only [↓stq, amv_at, ↓pln, plv, nilOk, Nat.reduceBEq, Bool.or_false, Bool.or_true, Bool.false_or, Bool.true_or, vls, inf, frs, mark_eq, ↓reduceIte, Nat.reduceEqDiff, ite_tt, ite_ff, eq_self, and_true, true_and, and_self, implies_true, Bool.true_eq_false, Bool.false_eq_true, decide_true, decide_false, decide_eq_true_eq, decide_eq_false_iff_not, ne_eq, not_true_eq_false, not_false_eq_true, Bool.not_eq_true', Bool.not_eq_false', beq_self_eq_true, Bool.not_true, Bool.not_false, List.getElem?_toArray, List.getElem?_cons_zero, List.getElem?_cons_succ, List.getElem_toArray, List.getElem_cons_zero, List.getElem_cons_succ, h0, h2, h16, h17, h18, k2, hww]
                exact hfin V6 l
              · simp (disch := omega) only [↓stq, amv_at, vls, inf, frs, mark_eq, ↓reduceIte, Nat.reduceEqDiff, ite_tt, ite_ff, eq_self, and_true, true_and, and_self, implies_true, Bool.true_eq_false, Bool.false_eq_true, decide_true, decide_false, decide_eq_true_eq, decide_eq_false_iff_not, ne_eq, not_true_eq_false, not_false_eq_true, Bool.not_eq_true', Bool.not_eq_false', beq_self_eq_true, Bool.not_true, Bool.not_false, List.getElem?_toArray, List.getElem?_cons_zero, List.getElem?_cons_succ, List.getElem_toArray, List.getElem_cons_zero, List.getElem_cons_succ, h0, h2, h16, h17, h18, hww]
                refine adraw_items [.q 0, .q 1, .q 2, .q 3, .q 4, .q 5, .c 6 [], .q 7, .q 8] (by kernel_rfl) (by kernel_rfl) ?_
                simp (disch := omega) only [↓stq, amv_at, ↓pln, plv, nilOk, Nat.reduceBEq, Bool.or_false, Bool.or_true, Bool.false_or, Bool.true_or, vls, inf, frs, mark_eq, ↓reduceIte, Nat.reduceEqDiff, ite_tt, ite_ff, eq_self, and_true, true_and, and_self, implies_true, Bool.true_eq_false, Bool.false_eq_true, decide_true, decide_false, decide_eq_true_eq, decide_eq_false_iff_not, ne_eq, not_true_eq_false, not_false_eq_true, Bool.not_eq_true', Bool.not_eq_false', beq_self_eq_true, Bool.not_true, Bool.not_false, List.getElem?_toArray, List.getElem?_cons_zero, List.getElem?_cons_succ, List.getElem_toArray, List.getElem_cons_zero, List.getElem_cons_succ, h0, h2, h16, h17, h18, hww]
                rw [abin_cat _ _ _ (by show 1 + w.size ≤ _; omega)]
                simp (disch := omega) only [↓stq, amv_at, ↓pln, plv, nilOk, Nat.reduceBEq, Bool.or_false, Bool.or_true, Bool.false_or, Bool.true_or, vls, inf, frs, mark_eq, ↓reduceIte, Nat.reduceEqDiff, ite_tt, ite_ff, eq_self, and_true, true_and, and_self, implies_true, Bool.true_eq_false, Bool.false_eq_true, decide_true, decide_false, decide_eq_true_eq, decide_eq_false_iff_not, ne_eq, not_true_eq_false, not_false_eq_true, Bool.not_eq_true', Bool.not_eq_false', beq_self_eq_true, Bool.not_true, Bool.not_false, List.getElem?_toArray, List.getElem?_cons_zero, List.getElem?_cons_succ, List.getElem_toArray, List.getElem_cons_zero, List.getElem_cons_succ, h0, h2, h16, h17, h18, buEx1, hww]
                refine led_storeAll (d := [.string (atS w), .slice none 0 0]) l 0 rfl sz64 rfl rfl (two_of _ _ _ _).2 fun V6 l => ?_
                have k2 : V6.part ⟨q2, 0, none⟩ 2 = some [.string (atS w), .slice none 0 0] := l.part (i := 0) rfl rfl
                simp (disch := omega) only [↓stq, amv_at, ↓pln, plv, nilOk, Nat.reduceBEq, Bool.or_false, Bool.or_true, Bool.false_or, Bool.true_or, vls, inf, frs, mark_eq, ↓reduceIte, Nat.reduceEqDiff, ite_tt, ite_ff, eq_self, and_true, true_and, and_self, implies_true, Bool.true_eq_false, Bool.false_eq_true, decide_true, decide_false, decide_eq_true_eq, decide_eq_false_iff_not, ne_eq, not_true_eq_false, not_false_eq_true, Bool.not_eq_true', Bool.not_eq_false', beq_self_eq_true, Bool.not_true, Bool.not_false, List.getElem?_toArray, List.getElem?_cons_zero, List.getElem?_cons_succ, List.getElem_toArray, List.getElem_cons_zero, List.getElem_cons_succ, h0, h2, h16, h17, h18, k2, hww]
                exact hfin V6 l
        · have hx : (0 + k = nm.size ∨ ∃ h : 0 + k < nm.size, lettr (nm.data.toList[0 + k]'(by rw [toList_len]; exact h)) = false) := .inr ⟨hlt0, by rw [hls0, decide_eq_false (show ¬ 97 ≤ sbyte nm k by omega), Bool.false_and]⟩
          refine fin hx fun hw hwl => ?_
          obtain ⟨w, hww⟩ : ∃ w, nm.extract 0 k = w := ⟨_, rfl⟩
          have hws : w.size = k := by rw [← hww, hw, tx_size, hwl]
          rw [hwl, ← hw, hww]
          simp (disch := omega) only [↓stq, amv_at, vls, inf, frs, mark_eq, ↓reduceIte, Nat.reduceEqDiff, ite_tt, ite_ff, eq_self, and_true, true_and, and_self, implies_true, Bool.true_eq_false, Bool.false_eq_true, decide_true, decide_false, decide_eq_true_eq, decide_eq_false_iff_not, ne_eq, not_true_eq_false, not_false_eq_true, Bool.not_eq_true', Bool.not_eq_false', beq_self_eq_true, Bool.not_true, Bool.not_false, List.getElem?_toArray, List.getElem?_cons_zero, List.getElem?_cons_succ, List.getElem_toArray, List.getElem_cons_zero, List.getElem_cons_succ, h0, h2, h16, h17, h18, hww]
          refine (impl_nameOk_c V w (by omega)).mono ?_
          rintro _ V ⟨rfl, rfl⟩
          simp (disch := omega) only [↓stq, amv_at, vls, inf, frs, mark_eq, ↓reduceIte, Nat.reduceEqDiff, ite_tt, ite_ff, eq_self, and_true, true_and, and_self, implies_true, Bool.true_eq_false, Bool.false_eq_true, decide_true, decide_false, decide_eq_true_eq, decide_eq_false_iff_not, ne_eq, not_true_eq_false, not_false_eq_true, Bool.not_eq_true', Bool.not_eq_false', beq_self_eq_true, Bool.not_true, Bool.not_false, List.getElem?_toArray, List.getElem?_cons_zero, List.getElem?_cons_succ, List.getElem_toArray, List.getElem_cons_zero, List.getElem_cons_succ, h0, h2, h16, h17, h18, hww]
          refine ⟨fun e4 => ?_, fun e4 => ?_⟩
          · simp (disch := omega) only [↓stq, amv_at, vls, inf, frs, mark_eq, ↓reduceIte, Nat.reduceEqDiff, ite_tt, ite_ff, eq_self, and_true, true_and, and_self, implies_true, Bool.true_eq_false, Bool.false_eq_true, decide_true, decide_false, decide_eq_true_eq, decide_eq_false_iff_not, ne_eq, not_true_eq_false, not_false_eq_true, Bool.not_eq_true', Bool.not_eq_false', beq_self_eq_true, Bool.not_true, Bool.not_false, List.getElem?_toArray, List.getElem?_cons_zero, List.getElem?_cons_succ, List.getElem_toArray, List.getElem_cons_zero, List.getElem_cons_succ, h0, h2, h16, h17, h18, buEx0, hww]
            refine led_storeAll (d := [.string ⟨#[]⟩, .slice none 0 0]) l 0 rfl sz64 rfl rfl (two_of _ _ _ _).2 fun V6 l => ?_
            have k2 : V6.part ⟨q2, 0, none⟩ 2 = some [.string ⟨#[]⟩, .slice none 0 0] := l.part (i := 0) rfl rfl
            simp (disch := omega) only [↓stq, amv_at, vls, inf, frs, mark_eq, ↓reduceIte, Nat.reduceEqDiff, ite_tt, ite_ff, eq_self, and_true, true_and, and_self, implies_true, Bool.true_eq_false, Bool.false_eq_true, decide_true, decide_false, decide_eq_true_eq, decide_eq_false_iff_not, ne_eq, not_true_eq_false, not_false_eq_true, Bool.not_eq_true', Bool.not_eq_false', beq_self_eq_true, Bool.not_true, Bool.not_false, List.getElem?_toArray, List.getElem?_cons_zero, List.getElem?_cons_succ, List.getElem_toArray, List.getElem_cons_zero, List.getElem_cons_succ, h0, h2, h16, h17, h18, k2, hww]
            rw [e4, if_neg (by decide)]
            exact ⟨_, s, false, rfl, two_of _ _ _ _, Nat.le_refl _, rfl, l.ext⟩
          · have hfin : ∀ V6, Led A [bx q2 ⟨64, [.string (wdA at1 w), .slice none 0 0], 2, true⟩] V6 → ResI A s (if nmOk w = true then some (mkA at1 w, nm.data.toList.drop k) else none) (.tuple #[.agg (List.toArray [.string (wdA at1 w), .slice none 0 0]), .string (nm.extract k nm.size), .bool true]) V6 := fun V6 l => by
              rw [e4, if_pos rfl]
              refine ⟨_, _, true, rfl, two_of _ _ _ _, ?_, rfl, extract_tx _ _, [], (led_atom l.tail e4)⟩
              rw [extract_tx, tx_size, List.length_drop, toList_len]
              omega
            cases at1
            · simp (disch := omega) only [↓stq, amv_at, vls, inf, frs, mark_eq, ↓reduceIte, Nat.reduceEqDiff, ite_tt, ite_ff, eq_self, and_true, true_and, and_self, implies_true, Bool.true_eq_false, Bool.false_eq_true, decide_true, decide_false, decide_eq_true_eq, decide_eq_false_iff_not, ne_eq, not_true_eq_false, not_false_eq_true, Bool.not_eq_true', Bool.not_eq_false', beq_self_eq_true, Bool.not_true, Bool.not_false, List.getElem?_toArray, List.getElem?_cons_zero, List.getElem?_cons_succ, List.getElem_toArray, List.getElem_cons_zero, List.getElem_cons_succ, h0, h2, h16, h17, h18, hww]
              refine adraw_items [.q 0, .q 1, .q 2, .q 3, .q 4, .c 5 [], .q 6, .q 7] (by kernel_rfl) (by kernel_rfl) ?_
              simp (disch := omega) only [↓stq, amv_at, ↓pln, plv, nilOk, Nat.reduceBEq, Bool.or_false, Bool.or_true, Bool.false_or, Bool.true_or, vls, inf, frs, mark_eq, ↓reduceIte, Nat.reduceEqDiff, ite_tt, ite_ff, eq_self, and_true, true_and, and_self, implies_true, Bool.true_eq_false, Bool.false_eq_true, decide_true, decide_false, decide_eq_true_eq, decide_eq_false_iff_not, ne_eq, not_true_eq_false, not_false_eq_true, Bool.not_eq_true', Bool.not_eq_false', beq_self_eq_true, Bool.not_true, Bool.not_false, List.getElem?_toArray, List.getElem?_cons_zero, List.getElem?_cons_succ, List.getElem_toArray, List.getElem_cons_zero, List.getElem_cons_succ, h0, h2, h16, h17, h18, buEx1, hww]
              refine led_storeAll (d := [.string w, .slice none 0 0]) l 0 rfl sz64 rfl rfl (two_of _ _ _ _).2 fun V6 l => ?_
              have k2 : V6.part ⟨q2, 0, none⟩ 2 = some [.string w, .slice none 0 0] := l.part (i := 0) rfl rfl
              simp (disch := omega) only [↓stq, amv_at, ↓pln, plv, nilOk, Nat.reduceBEq, Bool.or_false, Bool.or_true, Bool.false_or, Bool.true_or, vls, inf, frs, mark_eq, ↓reduceIte, Nat.reduceEqDiff, ite_tt, ite_ff, eq_self, and_true, true_and, and_self, implies_true, Bool.true_eq_false, Bool.false_eq_true, decide_true, decide_false, decide_eq_true_eq, decide_eq_false_iff_not, ne_eq, not_true_eq_false, not_false_eq_true, Bool.not_eq_true', Bool.not_eq_false', beq_self_eq_true, Bool.not_true, Bool.not_false, List.getElem?_toArray, List.getElem?_cons_zero, List.getElem?_cons_succ, List.getElem_toArray, List.getElem_cons_zero, List.getElem_cons_succ, h0, h2, h16, h17, h18, k2, hww]
              exact hfin V6 l
            · simp (disch := omega) only [↓stq, amv_at, vls, inf, frs, mark_eq, ↓reduceIte, Nat.reduceEqDiff, ite_tt, ite_ff, eq_self, and_true, true_and, and_self, implies_true, Bool.true_eq_false, Bool.false_eq_true, decide_true, decide_false, decide_eq_true_eq, decide_eq_false_iff_not, ne_eq, not_true_eq_false, not_false_eq_true, Bool.not_eq_true', Bool.not_eq_false', beq_self_eq_true, Bool.not_true, Bool.not_false, List.getElem?_toArray, List.getElem?_cons_zero, List.getElem?_cons_succ, List.getElem_toArray, List.getElem_cons_zero, List.getElem_cons_succ, h0, h2, h16, h17, h18, hww]
              refine adraw_items [.q 0, .q 1, .q 2, .q 3, .q 4, .q 5, .c 6 [], .q 7, .q 8] (by kernel_rfl) (by kernel_rfl) ?_
              simp (disch := omega) only [↓stq, amv_at, ↓pln, plv, nilOk, Nat.reduceBEq, Bool.or_false, Bool.or_true, Bool.false_or, Bool.true_or, vls, inf, frs, mark_eq, ↓reduceIte, Nat.reduceEqDiff, ite_tt, ite_ff, eq_self, and_true, true_and, and_self, implies_true, Bool.true_eq_false, Bool.false_eq_true, decide_true, decide_false, decide_eq_true_eq, decide_eq_false_iff_not, ne_eq, not_true_eq_false, not_false_eq_true, Bool.not_eq_true', Bool.not_eq_false', beq_self_eq_true, Bool.not_true, Bool.not_false, List.getElem?_toArray, List.getElem?_cons_zero, List.getElem?_cons_succ, List.getElem_toArray, List.getElem_cons_zero, List.getElem_cons_succ, h0, h2, h16, h17, h18, hww]
              rw [abin_cat _ _ _ (by show 1 + w.size ≤ _; omega)]
              simp (disch := omega) only [↓stq, amv_at, ↓pln, plv, nilOk, Nat.reduceBEq, Bool.or_false, Bool.or_true, Bool.false_or, Bool.true_or, vls, inf, frs, mark_eq, ↓reduceIte, Nat.reduceEqDiff, ite_tt, ite_ff, eq_self, and_true, true_and, and_self, implies_true, Bool.true_eq_false, Bool.false_eq_true, decide_true, decide_false, decide_eq_true_eq, decide_eq_false_iff_not, ne_eq, not_true_eq_false, not_false_eq_true, Bool.not_eq_true', Bool.not_eq_false', beq_self_eq_true, Bool.not_true, Bool.not_false, List.getElem?_toArray, List.getElem?_cons_zero, List.getElem?_cons_succ, List.getElem_toArray, List.getElem_cons_zero, List.getElem_cons_succ, h0, h2, h16, h17, h18, buEx1, hww]
              refine led_storeAll (d := [.string (atS w), .slice none 0 0]) l 0 rfl sz64 rfl rfl (two_of _ _ _ _).2 fun V6 l => ?_
              have k2 : V6.part ⟨q2, 0, none⟩ 2 = some [.string (atS w), .slice none 0 0] := l.part (i := 0) rfl rfl
              simp (disch := omega) only [↓stq, amv_at, ↓pln, plv, nilOk, Nat.reduceBEq, Bool.or_false, Bool.or_true, Bool.false_or, Bool.true_or, vls, inf, frs, mark_eq, ↓reduceIte, Nat.reduceEqDiff, ite_tt, ite_ff, eq_self, and_true, true_and, and_self, implies_true, Bool.true_eq_false, Bool.false_eq_true, decide_true, decide_false, decide_eq_true_eq, decide_eq_false_iff_not, ne_eq, not_true_eq_false, not_false_eq_true, Bool.not_eq_true', Bool.not_eq_false', beq_self_eq_true, Bool.not_true, Bool.not_false, List.getElem?_toArray, List.getElem?_cons_zero, List.getElem?_cons_succ, List.getElem_toArray, List.getElem_cons_zero, List.getElem_cons_succ, h0, h2, h16, h17, h18, k2, hww]
              exact hfin V6 l
      · have hx : (0 + k = nm.size ∨ ∃ h : 0 + k < nm.size, lettr (nm.data.toList[0 + k]'(by rw [toList_len]; exact h)) = false) := .inl (by omega)
        simp (disch := omega) only [↓stq, amv_at, vls, inf, frs, mark_eq, ↓reduceIte, Nat.reduceEqDiff, ite_tt, ite_ff, eq_self, and_true, true_and, and_self, implies_true, Bool.true_eq_false, Bool.false_eq_true, decide_true, decide_false, decide_eq_true_eq, decide_eq_false_iff_not, ne_eq, not_true_eq_false, not_false_eq_true, Bool.not_eq_true', Bool.not_eq_false', beq_self_eq_true, Bool.not_true, Bool.not_false, List.getElem?_toArray, List.getElem?_cons_zero, List.getElem?_cons_succ, List.getElem_toArray, List.getElem_cons_zero, List.getElem_cons_succ, h0, h2, h16, h17, h18, e1]
        refine fin hx fun hw hwl => ?_
        obtain ⟨w, hww⟩ : ∃ w, nm.extract 0 k = w := ⟨_, rfl⟩
        have hws : w.size = k := by rw [← hww, hw, tx_size, hwl]
        rw [hwl, ← hw, hww]
        simp (disch := omega) only [↓stq, amv_at, vls, inf, frs, mark_eq, ↓reduceIte, Nat.reduceEqDiff, ite_tt, ite_ff, eq_self, and_true, true_and, and_self, implies_true, Bool.true_eq_false, Bool.false_eq_true, decide_true, decide_false, decide_eq_true_eq, decide_eq_false_iff_not, ne_eq, not_true_eq_false, not_false_eq_true, Bool.not_eq_true', Bool.not_eq_false', beq_self_eq_true, Bool.not_true, Bool.not_false, List.getElem?_toArray, List.getElem?_cons_zero, List.getElem?_cons_succ, List.getElem_toArray, List.getElem_cons_zero, List.getElem_cons_succ, h0, h2, h16, h17, h18, hww]
        refine (impl_nameOk_c V w (by omega)).mono ?_
        rintro _ V ⟨rfl, rfl⟩
        simp (disch := omega) only [↓stq, amv_at, vls, inf, frs, mark_eq, ↓reduceIte, Nat.reduceEqDiff, ite_tt, ite_ff, eq_self, and_true, true_and, and_self, implies_true, Bool.true_eq_false, Bool.false_eq_true, decide_true, decide_false, decide_eq_true_eq, decide_eq_false_iff_not, ne_eq, not_true_eq_false, not_false_eq_true, Bool.not_eq_true', Bool.not_eq_false', beq_self_eq_true, Bool.not_true, Bool.not_false, List.getElem?_toArray, List.getElem?_cons_zero, List.getElem?_cons_succ, List.getElem_toArray, List.getElem_cons_zero, List.getElem_cons_succ, h0, h2, h16, h17, h18, hww]
        refine ⟨fun e4 => ?_, fun e4 => ?_⟩
        · simp (disch := omega) only [↓stq, amv_at, vls, inf, frs, mark_eq, ↓reduceIte, Nat.reduceEqDiff, ite_tt, ite_ff, eq_self, and_true, true_and, and_self, implies_true, Bool.true_eq_false, Bool.false_eq_true, decide_true, decide_false, decide_eq_true_eq, decide_eq_false_iff_not, ne_eq, not_true_eq_false, not_false_eq_true, Bool.not_eq_true', Bool.not_eq_false', beq_self_eq_true, Bool.not_true, Bool.not_false, List.getElem?_toArray, List.getElem?_cons_zero, List.getElem?_cons_succ, List.getElem_toArray, List.getElem_cons_zero, List.getElem_cons_succ, h0, h2, h16, h17, h18, buEx0, hww]
          refine led_storeAll (d := [.string ⟨#[]⟩, .slice none 0 0]) l 0 rfl sz64 rfl rfl (two_of _ _ _ _).2 fun V6 l => ?_
          have k2 : V6.part ⟨q2, 0, none⟩ 2 = some [.string ⟨#[]⟩, .slice none 0 0] := l.part (i := 0) rfl rfl
          simp (disch := omega) only [↓stq, amv_at, vls, inf, frs, mark_eq, ↓reduceIte, Nat.reduceEqDiff, ite_tt, ite_ff, eq_self, and_true, true_and, and_self, implies_true, Bool.true_eq_false, Bool.false_eq_true, decide_true, decide_false, decide_eq_true_eq, decide_eq_false_iff_not, ne_eq, not_true_eq_false, not_false_eq_true, Bool.not_eq_true', Bool.not_eq_false', beq_self_eq_true, Bool.not_true, Bool.not_false, List.getElem?_toArray, List.getElem?_cons_zero, List.getElem?_cons_succ, List.getElem_toArray, List.getElem_cons_zero, List.getElem_cons_succ, h0, h2, h16, h17, h18, k2, hww]
          rw [e4, if_neg (by decide)]
          exact ⟨_, s, false, rfl, two_of _ _ _ _, Nat.le_refl _, rfl, l.ext⟩
        · have hfin : ∀ V6, Led A [bx q2 ⟨64, [.string (wdA at1 w), .slice none 0 0], 2, true⟩] V6 → ResI A s (if nmOk w = true then some (mkA at1 w, nm.data.toList.drop k) else none) (.tuple #[.agg (List.toArray [.string (wdA at1 w), .slice none 0 0]), .string (nm.extract k nm.size), .bool true]) V6 := fun V6 l => by
            rw [e4, if_pos rfl]
            refine ⟨_, _, true, rfl, two_of _ _ _ _, ?_, rfl, extract_tx _ _, [], (led_atom l.tail e4)⟩
            rw [extract_tx, tx_size, List.length_drop, toList_len]
            omega
          cases at1
          · simp (disch := omega) only [↓stq, amv_at, vls, inf, frs, mark_eq, ↓reduceIte, Nat.reduceEqDiff, ite_tt, ite_ff, eq_self, and_true, true_and, and_self, implies_true, Bool.true_eq_false, Bool.false_eq_true, decide_true, decide_false, decide_eq_true_eq, decide_eq_false_iff_not, ne_eq, not_true_eq_false, not_false_eq_true, Bool.not_eq_true', Bool.not_eq_false', beq_self_eq_true, Bool.not_true, Bool.not_false, List.getElem?_toArray, List.getElem?_cons_zero, List.getElem?_cons_succ, List.getElem_toArray, List.getElem_cons_zero, List.getElem_cons_succ, h0, h2, h16, h17, h18, hww]
            refine adraw_items [.q 0, .q 1, .q 2, .q 3, .q 4, .c 5 [], .q 6, .q 7] (by kernel_rfl) (by kernel_rfl) ?_
            simp (disch := omega) only [↓stq, amv_at, ↓pln, plv, nilOk, Nat.reduceBEq, Bool.or_false, Bool.or_true, Bool.false_or, Bool.true_or, vls, inf, frs, mark_eq, ↓reduceIte, Nat.reduceEqDiff, ite_tt, ite_ff, eq_self, and_true, true_and, and_self, implies_true, Bool.true_eq_false, Bool.false_eq_true, decide_true, decide_false, decide_eq_true_eq, decide_eq_false_iff_not, ne_eq, not_true_eq_false, not_false_eq_true, Bool.not_eq_true', Bool.not_eq_false', beq_self_eq_true, Bool.not_true, Bool.not_false, List.getElem?_toArray, List.getElem?_cons_zero, List.getElem?_cons_succ, List.getElem_toArray, List.getElem_cons_zero, List.getElem_cons_succ, h0, h2, h16, h17, h18, buEx1, hww]
            refine led_storeAll (d := [.string w, .slice none 0 0]) l 0 rfl sz64 rfl rfl (two_of _ _ _ _).2 fun V6 l => ?_
            have k2 : V6.part ⟨q2, 0, none⟩ 2 = some [.string w, .slice none 0 0] := l.part (i := 0) rfl rfl
            simp (disch := omega) only [↓stq, amv_at, ↓pln, plv, nilOk, Nat.reduceBEq, Bool.or_false, Bool.or_true, Bool.false_or, Bool.true_or, vls, inf, frs, mark_eq, ↓reduceIte, Nat.reduceEqDiff, ite_tt, ite_ff, eq_self, and_true, true_and, and_self, implies_true, Bool.true_eq_false, Bool.false_eq_true, decide_true, decide_false, decide_eq_true_eq, decide_eq_false_iff_not, ne_eq, not_true_eq_false, not_false_eq_true, Bool.not_eq_true', Bool.not_eq_false', beq_self_eq_true, Bool.not_true, Bool.not_false, List.getElem?_toArray, List.getElem?_cons_zero, List.getElem?_cons_succ, List.getElem_toArray, List.getElem_cons_zero, List.getElem_cons_succ, h0, h2, h16, h17, h18, k2, hww]
            exact hfin V6 l
          · simp (disch := omega) only [↓stq, amv_at, vls, inf, frs, mark_eq, ↓reduceIte, Nat.reduceEqDiff, ite_tt, ite_ff, eq_self, and_true, true_and, and_self, implies_true, Bool.true_eq_false, Bool.false_eq_true, decide_true, decide_false, decide_eq_true_eq, decide_eq_false_iff_not, ne_eq, not_true_eq_false, not_false_eq_true, Bool.not_eq_true', Bool.not_eq_false', beq_self_eq_true, Bool.not_true, Bool.not_false, List.getElem?_toArray, List.getElem?_cons_zero, List.getElem?_cons_succ, List.getElem_toArray, List.getElem_cons_zero, List.getElem_cons_succ, h0, h2, h16, h17, h18, hww]
            refine adraw_items [.q 0, .q 1, .q 2, .q 3, .q 4, .q 5, .c 6 [], .q 7, .q 8] (by kernel_rfl) (by kernel_rfl) ?_
            simp (disch := omega) only [↓stq, amv_at, ↓pln, plv, nilOk, Nat.reduceBEq, Bool.or_false, Bool.or_true, Bool.false_or, Bool.true_or, vls, inf, frs, mark_eq, ↓reduceIte, Nat.reduceEqDiff, ite_tt, ite_ff, eq_self, and_true, true_and, and_self, implies_true, Bool.true_eq_false, Bool.false_eq_true, decide_true, decide_false, decide_eq_true_eq, decide_eq_false_iff_not, ne_eq, not_true_eq_false, not_false_eq_true, Bool.not_eq_true', Bool.not_eq_false', beq_self_eq_true, Bool.not_true, Bool.not_false, List.getElem?_toArray, List.getElem?_cons_zero, List.getElem?_cons_succ, List.getElem_toArray, List.getElem_cons_zero, List.getElem_cons_succ, h0, h2, h16, h17, h18, hww]
            rw [abin_cat _ _ _ (by show 1 + w.size ≤ _; omega)]
            simp (disch := omega) only [↓stq, amv_at, ↓pln, plv, nilOk, Nat.reduceBEq, Bool.or_false, Bool.or_true, Bool.false_or, Bool.true_or, vls, inf, frs, mark_eq, ↓reduceIte, Nat.reduceEqDiff, ite_tt, ite_ff, eq_self, and_true, true_and, and_self, implies_true, Bool.true_eq_false, Bool.false_eq_true, decide_true, decide_false, decide_eq_true_eq, decide_eq_false_iff_not, ne_eq, not_true_eq_false, not_false_eq_true, Bool.not_eq_true', Bool.not_eq_false', beq_self_eq_true, Bool.not_true, Bool.not_false, List.getElem?_toArray, List.getElem?_cons_zero, List.getElem?_cons_succ, List.getElem_toArray, List.getElem_cons_zero, List.getElem_cons_succ, h0, h2, h16, h17, h18, buEx1, hww]
            refine led_storeAll (d := [.string (atS w), .slice none 0 0]) l 0 rfl sz64 rfl rfl (two_of _ _ _ _).2 fun V6 l => ?_
            have k2 : V6.part ⟨q2, 0, none⟩ 2 = some [.string (atS w), .slice none 0 0] := l.part (i := 0) rfl rfl
            simp (disch := omega) only [↓stq, amv_at, ↓pln, plv, nilOk, Nat.reduceBEq, Bool.or_false, Bool.or_true, Bool.false_or, Bool.true_or, vls, inf, frs, mark_eq, ↓reduceIte, Nat.reduceEqDiff, ite_tt, ite_ff, eq_self, and_true, true_and, and_self, implies_true, Bool.true_eq_false, Bool.false_eq_true, decide_true, decide_false, decide_eq_true_eq, decide_eq_false_iff_not, ne_eq, not_true_eq_false, not_false_eq_true, Bool.not_eq_true', Bool.not_eq_false', beq_self_eq_true, Bool.not_true, Bool.not_false, List.getElem?_toArray, List.getElem?_cons_zero, List.getElem?_cons_succ, List.getElem_toArray, List.getElem_cons_zero, List.getElem_cons_succ, h0, h2, h16, h17, h18, k2, hww]
            exact hfin V6 l

end Go.Proofs.Ytbddklkfekiaeaa

