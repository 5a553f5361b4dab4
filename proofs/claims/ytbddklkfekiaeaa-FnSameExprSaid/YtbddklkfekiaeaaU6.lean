/- Expressions: what the program reads of them. -/
import Derived.Test.YtbddklkfekiaeaaU2
import Derived.Test.YtbddklkfekiaeaaZT
set_option maxHeartbeats 4000000
set_option synthInstance.maxHeartbeats 400000
set_option synthInstance.maxSize 4096
set_option linter.unusedSimpArgs false
set_option linter.unusedVariables false
namespace Go.Proofs.Ytbddklkfekiaeaa

set_option maxRecDepth 100000

def notS : ByteArray := ⟨#[110, 111, 116]⟩
def conS : ByteArray := ⟨#[97, 110, 100]⟩
def disS : ByteArray := ⟨#[111, 114]⟩
def atS (w : ByteArray) : ByteArray := ⟨#[64]⟩ ++ w

/-- An expression in memory. -/
inductive ExR (V : View) : Ex → List Value → Prop where
  | mark {w : ByteArray} : nmOk w = true → ExR V (.mark w) [.string w, .slice none 0 0]
  | mod {w : ByteArray} : nmOk w = true → ExR V (.mod w) [.string (atS w), .slice none 0 0]
  | neg {e : Ex} {d : List Value} {b c : Nat} : ExR V e d → V.part ⟨b, 0, none⟩ 2 = some d → ExR V (.neg e) [.string notS, .slice (some ⟨b, 0, none⟩) 1 c]
  | con {e1 e2 : Ex} {d1 d2 : List Value} {b c : Nat} : ExR V e1 d1 → ExR V e2 d2 → V.part ⟨b, 0, none⟩ 2 = some d1 → V.part ⟨b, 0 + 2, none⟩ 2 = some d2 → ExR V (.con e1 e2) [.string conS, .slice (some ⟨b, 0, none⟩) 2 c]
  | dis {e1 e2 : Ex} {d1 d2 : List Value} {b c : Nat} : ExR V e1 d1 → ExR V e2 d2 → V.part ⟨b, 0, none⟩ 2 = some d1 → V.part ⟨b, 0 + 2, none⟩ 2 = some d2 → ExR V (.dis e1 e2) [.string disS, .slice (some ⟨b, 0, none⟩) 2 c]
theorem ExR.mono {V W : View} (he : Ext V W) {e : Ex} {d : List Value} (h : ExR V e d) : ExR W e d := by
  induction h with
  | mark h => exact .mark h
  | mod h => exact .mod h
  | neg _ h ih => exact .neg ih (he.part h)
  | con _ _ h1 h2 i1 i2 => exact .con i1 i2 (he.part h1) (he.part h2)
  | dis _ _ h1 h2 i1 i2 => exact .dis i1 i2 (he.part h1) (he.part h2)

/-- Two cells. -/
def Two (d : List Value) : Prop := d.length = 2 ∧ ∀ v ∈ d, v.oneCell' = true
theorem two_of (w : ByteArray) (a : Option Addr) (n c : Nat) : Two [.string w, .slice a n c] := ⟨rfl, by simp [Value.oneCell']⟩
theorem ExR.two {V : View} {e : Ex} {d : List Value} (h : ExR V e d) : Two d := by
  cases h <;> exact two_of _ _ _ _

theorem exI_stay {fp : List Nat} {e : Ex} {d : List Value} {V W : View} (h : (∀ b, b ∈ fp → ∃ k, V b = some k) ∧ ExR (V.only fp) e d) (hs : ∀ b k, b ∈ fp → V b = some k → W b = some k) : (∀ b, b ∈ fp → ∃ k, W b = some k) ∧ ExR (W.only fp) e d := by
  refine ⟨fun b hb => ?_, h.2.mono fun b k hk => ?_⟩
  · obtain ⟨k, hk⟩ := h.1 b hb
    exact ⟨k, hs b k hb hk⟩
  · unfold View.only at hk
    split at hk
    · rename_i hb
      exact View.only_of hb (hs b k hb hk)
    · cases hk
/-- An expression of one's own. -/
def exI (fp : List Nat) (e : Ex) (d : List Value) : It := ⟨fp, fun V => (∀ b, b ∈ fp → ∃ k, V b = some k) ∧ ExR (V.only fp) e d, fun h hs => exI_stay h hs, fun h => h.1⟩
theorem exI_r {V : View} {fp : List Nat} {e : Ex} {d : List Value} (h : (exI fp e d).φ V) : ExR V e d := h.2.mono (View.only_ext V fp)
theorem only_part {V : View} {fp : List Nat} {b o n : Nat} {d : List Value} (hb : b ∈ fp) (h : V.part ⟨b, o, none⟩ n = some d) : (V.only fp).part ⟨b, o, none⟩ n = some d := by
  unfold View.part at h ⊢
  have : (V.only fp) b = V b := by unfold View.only; rw [if_pos hb]
  rw [show (⟨b, o, none⟩ : Addr).block = b from rfl] at h ⊢
  rw [this]
  exact h
theorem only_sub {V : View} {fp fq : List Nat} (h : ∀ b, b ∈ fp → b ∈ fq) : Ext (V.only fp) (V.only fq) := fun b k hk => by
  unfold View.only at hk
  split at hk
  · rename_i hb
    exact View.only_of (h b hb) hk
  · cases hk
theorem led_word {A V : View} {L : List It} {w : ByteArray} (l : Led A L V) (h : nmOk w = true) : Led A (exI [] (.mark w) [.string w, .slice none 0 0] :: L) V :=
  l.cons (Ext.refl _) (exI [] (.mark w) [.string w, .slice none 0 0]) ⟨fun b hb => (List.not_mem_nil hb).elim, .mark h⟩ (fun b hb => (List.not_mem_nil hb).elim) List.nodup_nil
theorem led_mod {A V : View} {L : List It} {w : ByteArray} (l : Led A L V) (h : nmOk w = true) : Led A (exI [] (.mod w) [.string (atS w), .slice none 0 0] :: L) V :=
  l.cons (Ext.refl _) (exI [] (.mod w) [.string (atS w), .slice none 0 0]) ⟨fun b hb => (List.not_mem_nil hb).elim, .mod h⟩ (fun b hb => (List.not_mem_nil hb).elim) List.nodup_nil
theorem part2 {V : View} {b room : Nat} {t : TypeId} {d : List Value} (hd : Two d) (h : V b = some ⟨t, d, room, true⟩) : V.part ⟨b, 0, none⟩ 2 = some d := by
  have := part_at (off := 0) (n := 2) h (by show 0 + 2 ≤ d.length; rw [hd.1]; omega) (by show ∀ v ∈ (d.drop 0).take 2, _; rw [List.drop_zero, List.take_of_length_le (by rw [hd.1]; omega)]; exact hd.2)
  rw [this]
  show some ((d.drop 0).take 2) = _
  rw [List.drop_zero, List.take_of_length_le (by rw [hd.1]; omega)]
theorem part4 {V : View} {b room : Nat} {t : TypeId} {d1 d2 : List Value} (h1 : Two d1) (h2 : Two d2) (h : V b = some ⟨t, d1 ++ d2, room, true⟩) : V.part ⟨b, 0, none⟩ 2 = some d1 ∧ V.part ⟨b, 0 + 2, none⟩ 2 = some d2 := by
  have e1 : ((d1 ++ d2).drop 0).take 2 = d1 := by rw [List.drop_zero, List.take_append_of_le_length (by rw [h1.1]; omega), List.take_of_length_le (by rw [h1.1]; omega)]
  have e2 : ((d1 ++ d2).drop (0 + 2)).take 2 = d2 := by rw [List.drop_append_of_le_length (by rw [h1.1]; omega), List.drop_of_length_le (by rw [h1.1]; omega), List.nil_append, List.take_of_length_le (by rw [h2.1]; omega)]
  have hl : (d1 ++ d2).length = 4 := by rw [List.length_append, h1.1, h2.1]
  constructor
  · rw [part_at (off := 0) (n := 2) h (by show 0 + 2 ≤ (d1 ++ d2).length; omega) (by show ∀ v ∈ ((d1 ++ d2).drop 0).take 2, _; rw [e1]; exact h1.2)]
    show some (((d1 ++ d2).drop 0).take 2) = _
    rw [e1]
  · rw [part_at (off := 0 + 2) (n := 2) h (by show 0 + 2 + 2 ≤ (d1 ++ d2).length; omega) (by show ∀ v ∈ ((d1 ++ d2).drop (0 + 2)).take 2, _; rw [e2]; exact h2.2)]
    show some (((d1 ++ d2).drop (0 + 2)).take 2) = _
    rw [e2]
theorem led_neg {A V : View} {L : List It} {bl c : Nat} {t : TypeId} {room : Nat} {fp : List Nat} {e : Ex} {d : List Value} (l : Led A (bx bl ⟨t, d, room, true⟩ :: exI fp e d :: L) V) : Led A (exI (fp ++ [bl]) (.neg e) [.string notS, .slice (some ⟨bl, 0, none⟩) 1 c] :: L) V := by
  have h1 : V bl = some ⟨t, d, room, true⟩ := l.at (i := 0) rfl
  have h2 : (exI fp e d).φ V := l.at (i := 1) rfl
  refine l.join2 rfl ⟨fun b hb => ?_, .neg (h2.2.mono (only_sub fun b hb => List.mem_append_left _ hb)) (only_part (List.mem_append_right _ (List.mem_singleton.2 rfl)) (part2 h2.2.two h1))⟩
  rcases List.mem_append.1 hb with hb | hb
  · exact h2.1 b hb
  · rw [List.mem_singleton.1 hb]; exact ⟨_, h1⟩

theorem led_con {A V : View} {L : List It} {bl c : Nat} {t : TypeId} {room : Nat} {f1 f2 : List Nat} {e1 e2 : Ex} {d1 d2 : List Value} (l : Led A (bx bl ⟨t, d1 ++ d2, room, true⟩ :: exI f2 e2 d2 :: exI f1 e1 d1 :: L) V) : Led A (exI (f1 ++ (f2 ++ [bl])) (.con e1 e2) [.string conS, .slice (some ⟨bl, 0, none⟩) 2 c] :: L) V := by
  have h1 : V bl = some ⟨t, d1 ++ d2, room, true⟩ := l.at (i := 0) rfl
  have h2 : (exI f2 e2 d2).φ V := l.at (i := 1) rfl
  have h3 : (exI f1 e1 d1).φ V := l.at (i := 2) rfl
  have l2 : Led A (rdl strS (f2 ++ [bl]) (.slice none 0 0) [] :: exI f1 e1 d1 :: L) V := l.join2 rfl ⟨fun b hb => by
    rcases List.mem_append.1 hb with hb | hb
    · exact h2.1 b hb
    · rw [List.mem_singleton.1 hb]; exact ⟨_, h1⟩, Sl.nil _ _⟩
  have hp := part4 h3.2.two h2.2.two h1
  have hm : bl ∈ f1 ++ (f2 ++ [bl]) := List.mem_append_right _ (List.mem_append_right _ (List.mem_singleton.2 rfl))
  refine l2.join2 rfl ⟨fun b hb => ?_, .con (h3.2.mono (only_sub fun b hb => List.mem_append_left _ hb)) (h2.2.mono (only_sub fun b hb => List.mem_append_right _ (List.mem_append_left _ hb))) (only_part hm hp.1) (only_part hm hp.2)⟩
  rcases List.mem_append.1 hb with hb | hb
  · exact h3.1 b hb
  · rcases List.mem_append.1 hb with hb | hb
    · exact h2.1 b hb
    · rw [List.mem_singleton.1 hb]; exact ⟨_, h1⟩

theorem led_dis {A V : View} {L : List It} {bl c : Nat} {t : TypeId} {room : Nat} {f1 f2 : List Nat} {e1 e2 : Ex} {d1 d2 : List Value} (l : Led A (bx bl ⟨t, d1 ++ d2, room, true⟩ :: exI f2 e2 d2 :: exI f1 e1 d1 :: L) V) : Led A (exI (f1 ++ (f2 ++ [bl])) (.dis e1 e2) [.string disS, .slice (some ⟨bl, 0, none⟩) 2 c] :: L) V := by
  have h1 : V bl = some ⟨t, d1 ++ d2, room, true⟩ := l.at (i := 0) rfl
  have h2 : (exI f2 e2 d2).φ V := l.at (i := 1) rfl
  have h3 : (exI f1 e1 d1).φ V := l.at (i := 2) rfl
  have l2 : Led A (rdl strS (f2 ++ [bl]) (.slice none 0 0) [] :: exI f1 e1 d1 :: L) V := l.join2 rfl ⟨fun b hb => by
    rcases List.mem_append.1 hb with hb | hb
    · exact h2.1 b hb
    · rw [List.mem_singleton.1 hb]; exact ⟨_, h1⟩, Sl.nil _ _⟩
  have hp := part4 h3.2.two h2.2.two h1
  have hm : bl ∈ f1 ++ (f2 ++ [bl]) := List.mem_append_right _ (List.mem_append_right _ (List.mem_singleton.2 rfl))
  refine l2.join2 rfl ⟨fun b hb => ?_, .dis (h3.2.mono (only_sub fun b hb => List.mem_append_left _ hb)) (h2.2.mono (only_sub fun b hb => List.mem_append_right _ (List.mem_append_left _ hb))) (only_part hm hp.1) (only_part hm hp.2)⟩
  rcases List.mem_append.1 hb with hb | hb
  · exact h3.1 b hb
  · rcases List.mem_append.1 hb with hb | hb
    · exact h2.1 b hb
    · rw [List.mem_singleton.1 hb]; exact ⟨_, h1⟩

def cutP (s w : ByteArray) : ByteArray := if w.data.toList.isPrefixOf s.data.toList then tx (s.data.toList.drop w.size) else s
theorem lib_hasPrefix_c (A : View) (s w : ByteArray) : ACalls Try.prog 126 #[.string s, .string w] A fun r V => r = .bool (w.data.toList.isPrefixOf s.data.toList) ∧ V = A := by
  have hp := pre_iff (t := s) (w := w) (i := 0) (Nat.zero_le _)
  rw [List.drop_zero, Nat.zero_add] at hp
  refine acalls Try.func126 rfl (by kernel_rfl) ?_
  simp (disch := omega) only [↓stq, amv_at, vls, inf, frs, mark_eq, ↓reduceIte, Nat.reduceEqDiff, ite_tt, ite_ff, eq_self, and_true, true_and, and_self, implies_true, Bool.true_eq_false, Bool.false_eq_true, decide_true, decide_false, decide_eq_true_eq, decide_eq_false_iff_not, ne_eq, not_true_eq_false, not_false_eq_true, Bool.not_eq_true', Bool.not_eq_false', beq_self_eq_true, Bool.not_true, Bool.not_false, List.getElem?_toArray, List.getElem?_cons_zero, List.getElem?_cons_succ]
  refine ⟨fun e1 => ?_, fun e1 => ?_⟩ <;> simp (disch := omega) only [↓stq, amv_at, vls, inf, frs, mark_eq, ↓reduceIte, Nat.reduceEqDiff, ite_tt, ite_ff, eq_self, and_true, true_and, and_self, implies_true, Bool.true_eq_false, Bool.false_eq_true, decide_true, decide_false, decide_eq_true_eq, decide_eq_false_iff_not, ne_eq, not_true_eq_false, not_false_eq_true, Bool.not_eq_true', Bool.not_eq_false', beq_self_eq_true, Bool.not_true, Bool.not_false, List.getElem?_toArray, List.getElem?_cons_zero, List.getElem?_cons_succ, e1]
  · congr 1
    rw [Bool.eq_iff_iff, decide_eq_true_eq, ← hp]
    exact ⟨fun h => ⟨by omega, h⟩, fun h => h.2⟩
  · cases hq : w.data.toList.isPrefixOf s.data.toList with
    | false => rfl
    | true => have := (hp.2 hq).1; omega
theorem strings_cutPrefix_c (A : View) (s w : ByteArray) : ACalls Try.prog 114 #[.string s, .string w] A fun r V => r = .tuple #[.string (cutP s w), .bool (w.data.toList.isPrefixOf s.data.toList)] ∧ V = A := by
  have key : ACalls Try.prog 123 #[.string s, .string w] A fun r V => r = .tuple #[.string (cutP s w), .bool (w.data.toList.isPrefixOf s.data.toList)] ∧ V = A := by
    refine acalls Try.func123 rfl (by kernel_rfl) ?_
    simp (disch := omega) only [↓stq, amv_at, vls, inf, frs, mark_eq, ↓reduceIte, Nat.reduceEqDiff, ite_tt, ite_ff, eq_self, and_true, true_and, and_self, implies_true, Bool.true_eq_false, Bool.false_eq_true, decide_true, decide_false, decide_eq_true_eq, decide_eq_false_iff_not, ne_eq, not_true_eq_false, not_false_eq_true, Bool.not_eq_true', Bool.not_eq_false', beq_self_eq_true, Bool.not_true, Bool.not_false, List.getElem?_toArray, List.getElem?_cons_zero, List.getElem?_cons_succ]
    refine (lib_hasPrefix_c A s w).mono ?_
    rintro _ A ⟨rfl, rfl⟩
    simp (disch := omega) only [↓stq, amv_at, vls, inf, frs, mark_eq, ↓reduceIte, Nat.reduceEqDiff, ite_tt, ite_ff, eq_self, and_true, true_and, and_self, implies_true, Bool.true_eq_false, Bool.false_eq_true, decide_true, decide_false, decide_eq_true_eq, decide_eq_false_iff_not, ne_eq, not_true_eq_false, not_false_eq_true, Bool.not_eq_true', Bool.not_eq_false', beq_self_eq_true, Bool.not_true, Bool.not_false, List.getElem?_toArray, List.getElem?_cons_zero, List.getElem?_cons_succ]
    unfold cutP
    refine ⟨fun e1 => ?_, fun e1 => ?_⟩
    · simp (disch := omega) only [↓stq, amv_at, vls, inf, frs, mark_eq, ↓reduceIte, Nat.reduceEqDiff, ite_tt, ite_ff, eq_self, and_true, true_and, and_self, implies_true, Bool.true_eq_false, Bool.false_eq_true, decide_true, decide_false, decide_eq_true_eq, decide_eq_false_iff_not, ne_eq, not_true_eq_false, not_false_eq_true, Bool.not_eq_true', Bool.not_eq_false', beq_self_eq_true, Bool.not_true, Bool.not_false, List.getElem?_toArray, List.getElem?_cons_zero, List.getElem?_cons_succ]
      rw [e1]
      rfl
    · have hl := pre_len e1
      rw [toList_len, toList_len] at hl
      simp (disch := omega) only [↓stq, amv_at, vls, inf, frs, mark_eq, ↓reduceIte, Nat.reduceEqDiff, ite_tt, ite_ff, eq_self, and_true, true_and, and_self, implies_true, Bool.true_eq_false, Bool.false_eq_true, decide_true, decide_false, decide_eq_true_eq, decide_eq_false_iff_not, ne_eq, not_true_eq_false, not_false_eq_true, Bool.not_eq_true', Bool.not_eq_false', beq_self_eq_true, Bool.not_true, Bool.not_false, List.getElem?_toArray, List.getElem?_cons_zero, List.getElem?_cons_succ]
      rw [e1, if_pos rfl, extract_tx]
  refine acalls Try.func114 rfl (by kernel_rfl) ?_
  simp (disch := omega) only [↓stq, amv_at, vls, inf, frs, mark_eq, ↓reduceIte, Nat.reduceEqDiff, ite_tt, ite_ff, eq_self, and_true, true_and, and_self, implies_true, Bool.true_eq_false, Bool.false_eq_true, decide_true, decide_false, decide_eq_true_eq, decide_eq_false_iff_not, ne_eq, not_true_eq_false, not_false_eq_true, Bool.not_eq_true', Bool.not_eq_false', beq_self_eq_true, Bool.not_true, Bool.not_false, List.getElem?_toArray, List.getElem?_cons_zero, List.getElem?_cons_succ]
  refine key.mono ?_
  rintro _ A ⟨rfl, rfl⟩
  simp (disch := omega) only [↓stq, amv_at, vls, inf, frs, mark_eq, ↓reduceIte, Nat.reduceEqDiff, ite_tt, ite_ff, eq_self, and_true, true_and, and_self, implies_true, Bool.true_eq_false, Bool.false_eq_true, decide_true, decide_false, decide_eq_true_eq, decide_eq_false_iff_not, ne_eq, not_true_eq_false, not_false_eq_true, Bool.not_eq_true', Bool.not_eq_false', beq_self_eq_true, Bool.not_true, Bool.not_false, List.getElem?_toArray, List.getElem?_cons_zero, List.getElem?_cons_succ]

end Go.Proofs.Ytbddklkfekiaeaa

