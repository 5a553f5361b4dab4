/- Generators: marks, needs. -/
import Derived.Test.YtbddklkfekiaeaaZ1
import Derived.Test.YtbddklkfekiaeaaQ1
set_option maxHeartbeats 4000000
set_option synthInstance.maxHeartbeats 400000
set_option synthInstance.maxSize 4096
set_option linter.unusedSimpArgs false
set_option linter.unusedVariables false
namespace Go.Proofs.Ytbddklkfekiaeaa

set_option maxRecDepth 100000

theorem newReader_c (B A : View) (v : Value) (bs : List UInt8) (h : Sl byteS B v bs) : ACalls Try.prog 50 #[v] A fun r V => ∃ q sl, r = .pointer (some ⟨q, 0, none⟩) ∧ Bts B sl ∧ Led A [rdr q sl 0] V := by
  obtain ⟨a, c, rfl, hc, hl⟩ := h.slice
  refine acalls Try.func50 rfl (by kernel_rfl) ?_
  simp (disch := omega) only [↓stq, amv_at, vls, inf, frs, mark_eq, ↓reduceIte, Nat.reduceEqDiff, ite_tt, ite_ff, eq_self, and_true, true_and, and_self, implies_true, Bool.true_eq_false, Bool.false_eq_true, decide_true, decide_false, decide_eq_true_eq, decide_eq_false_iff_not, ne_eq, not_true_eq_false, not_false_eq_true, Bool.not_eq_true', Bool.not_eq_false', beq_self_eq_true, Bool.not_true, Bool.not_false, List.getElem?_toArray, List.getElem?_cons_zero, List.getElem?_cons_succ]
  refine ⟨fun e => ?_, fun e => ?_⟩ <;> simp (disch := omega) only [↓stq, amv_at, vls, inf, frs, mark_eq, ↓reduceIte, Nat.reduceEqDiff, ite_tt, ite_ff, eq_self, and_true, true_and, and_self, implies_true, Bool.true_eq_false, Bool.false_eq_true, decide_true, decide_false, decide_eq_true_eq, decide_eq_false_iff_not, ne_eq, not_true_eq_false, not_false_eq_true, Bool.not_eq_true', Bool.not_eq_false', beq_self_eq_true, Bool.not_true, Bool.not_false, List.getElem?_toArray, List.getElem?_cons_zero, List.getElem?_cons_succ]
  · refine led_box (Led.nil A) rfl fun q V he l => ?_
    simp (disch := omega) only [↓stq, amv_at, vls, inf, frs, mark_eq, ↓reduceIte, Nat.reduceEqDiff, ite_tt, ite_ff, eq_self, and_true, true_and, and_self, implies_true, Bool.true_eq_false, Bool.false_eq_true, decide_true, decide_false, decide_eq_true_eq, decide_eq_false_iff_not, ne_eq, not_true_eq_false, not_false_eq_true, Bool.not_eq_true', Bool.not_eq_false', beq_self_eq_true, Bool.not_true, Bool.not_false, List.getElem?_toArray, List.getElem?_cons_zero, List.getElem?_cons_succ]
    exact ⟨q, _, rfl, ⟨_, _, _, bs.take 2000, rfl, by rw [List.length_take]; omega, by rw [List.length_take]; omega, h.take (k := 2000) (by omega) 1⟩, l.upd (i := 0) (jt := rdr q _ 0) rfl rfl (Only.refl _ _) ⟨0, by omega, by omega, l.at (i := 0) rfl⟩⟩
  · refine led_box (Led.nil A) rfl fun q V he l => ?_
    simp (disch := omega) only [↓stq, amv_at, vls, inf, frs, mark_eq, ↓reduceIte, Nat.reduceEqDiff, ite_tt, ite_ff, eq_self, and_true, true_and, and_self, implies_true, Bool.true_eq_false, Bool.false_eq_true, decide_true, decide_false, decide_eq_true_eq, decide_eq_false_iff_not, ne_eq, not_true_eq_false, not_false_eq_true, Bool.not_eq_true', Bool.not_eq_false', beq_self_eq_true, Bool.not_true, Bool.not_false, List.getElem?_toArray, List.getElem?_cons_zero, List.getElem?_cons_succ]
    exact ⟨q, _, rfl, ⟨_, _, _, bs, rfl, rfl, by omega, h⟩, l.upd (i := 0) (jt := rdr q _ 0) rfl rfl (Only.refl _ _) ⟨0, by omega, by omega, l.at (i := 0) rfl⟩⟩

/-- A literal, read. -/
theorem lit_sl {α : Type} {S : Shape α} {V : View} {b : Nat} {e : TypeId} {xs : List α} {cells : List Value} {room : Nat} {c : Nat} (hb : V b = some ⟨e, cells, room, true⟩) (hc : xs.length ≤ c) (hl : xs.length ≤ 140737488355328) (hx : Elems S V xs cells) : Sl S V (.slice (some ⟨b, 0, none⟩) xs.length c) xs := by
  refine ⟨hl, _, c, rfl, hc, fun _ => ⟨_, cells, rfl, ?_, hx⟩⟩
  rw [part_at hb (by simp [hx.len]) (fun v hv => hx.one v (List.mem_of_mem_drop (List.mem_of_mem_take hv)))]
  simp [List.take_of_length_le, hx.len]

theorem ofLit_c {xs : List ByteArray} {n room c : Nat} {e : TypeId} {b : Nat} {cells : List Value} (B A : View) (L : List It) (q : Nat) (sl : Value) (N : Nat) (hb : Bts B sl) (hN : N ≤ 1000000000) (hcl : cells = xs.map Value.string) (hn : n = xs.length) (hc : n ≤ c) (hz : ∀ x, x ∈ xs → x.size ≤ 100) (h0 : 0 < n) (hl : n ≤ 1000) (l : Led B (bx b ⟨e, cells, room, true⟩ :: rdr q sl N :: L) A) : ACalls Try.prog 86 #[.pointer (some ⟨q, 0, none⟩), .slice (some ⟨b, 0, none⟩) n c] A fun r V => ∃ s : ByteArray, r = .string s ∧ s ∈ xs ∧ Led B (rdr q sl (N + 1) :: L) V := by
  subst hn; subst hcl
  have key : ∀ V, V b = some ⟨e, xs.map Value.string, room, true⟩ → Sl strS V (.slice (some ⟨b, 0, none⟩) xs.length c) xs := fun V hV => lit_sl hV hc (by omega) (elems_str _ fun x hx => by have := hz x hx; omega)
  refine (of_c B A (bx b ⟨e, xs.map Value.string, room, true⟩ :: L) q sl N _ xs hb hN (fun V l => key V (l.at (i := 1) rfl)) (key A (l.at (i := 0) rfl)) h0 (l.perm (List.Perm.swap ..))).mono ?_
  rintro _ V ⟨i, hi, rfl, l⟩
  exact ⟨_, rfl, List.getElem_mem hi, l.sub (.cons_cons _ (.cons _ (List.Sublist.refl _)))⟩
theorem oneLit_c {xs : List Int} {n room c : Nat} {e : TypeId} {b : Nat} {cells : List Value} (B A : View) (L : List It) (q : Nat) (sl : Value) (N : Nat) (hb : Bts B sl) (hN : N ≤ 1000000000) (hcl : cells = xs.map (Value.int .i64)) (hn : n = xs.length) (hc : n ≤ c) (hz : ∀ x, x ∈ xs → -9223372036854775808 ≤ x ∧ x < 9223372036854775808) (h0 : 0 < n) (hl : n ≤ 1000) (l : Led B (bx b ⟨e, cells, room, true⟩ :: rdr q sl N :: L) A) : ACalls Try.prog 107 #[.pointer (some ⟨q, 0, none⟩), .slice (some ⟨b, 0, none⟩) n c] A fun r V => ∃ s : Int, r = .int .i64 s ∧ s ∈ xs ∧ Led B (rdr q sl (N + 1) :: L) V := by
  subst hn; subst hcl
  have key : ∀ V, V b = some ⟨e, xs.map (Value.int .i64), room, true⟩ → Sl intS V (.slice (some ⟨b, 0, none⟩) xs.length c) xs := fun V hV => lit_sl hV hc (by omega) (elems_int _ hz)
  refine (one_c B A (bx b ⟨e, xs.map (Value.int .i64), room, true⟩ :: L) q sl N _ xs hb hN (fun V l => key V (l.at (i := 1) rfl)) (key A (l.at (i := 0) rfl)) h0 (l.perm (List.Perm.swap ..))).mono ?_
  rintro _ V ⟨i, hi, rfl, l⟩
  exact ⟨_, rfl, List.getElem_mem hi, l.sub (.cons_cons _ (.cons _ (List.Sublist.refl _)))⟩

theorem aModule_c (B A : View) (L : List It) (q : Nat) (sl : Value) (N : Nat) (hb : Bts B sl) (hN : N ≤ 1000000000) (l : Led B (rdr q sl N :: L) A) : ACalls Try.prog 108 #[.pointer (some ⟨q, 0, none⟩)] A fun r V => ∃ s : ByteArray, r = .string s ∧ s.size ≤ 100 ∧ Led B (rdr q sl (N + 1) :: L) V := by
  refine acalls Try.func108 rfl (by kernel_rfl) ?_
  simp (disch := omega) only [↓stq, amv_at, vls, inf, frs, mark_eq, ↓reduceIte, Nat.reduceEqDiff, ite_tt, ite_ff, eq_self, and_true, true_and, and_self, implies_true, Bool.true_eq_false, Bool.false_eq_true, decide_true, decide_false, decide_eq_true_eq, decide_eq_false_iff_not, ne_eq, not_true_eq_false, not_false_eq_true, Bool.not_eq_true', Bool.not_eq_false', beq_self_eq_true, Bool.not_true, Bool.not_false, List.getElem?_toArray, List.getElem?_cons_zero, List.getElem?_cons_succ]
  refine led_lit li25 (by omega) rfl (by simp [Value.cells, Value.oneCell']) l fun bl V _ l => ?_
  simp (disch := omega) only [↓stq, amv_at, vls, inf, frs, mark_eq, ↓reduceIte, Nat.reduceEqDiff, ite_tt, ite_ff, eq_self, and_true, true_and, and_self, implies_true, Bool.true_eq_false, Bool.false_eq_true, decide_true, decide_false, decide_eq_true_eq, decide_eq_false_iff_not, ne_eq, not_true_eq_false, not_false_eq_true, Bool.not_eq_true', Bool.not_eq_false', beq_self_eq_true, Bool.not_true, Bool.not_false, List.getElem?_toArray, List.getElem?_cons_zero, List.getElem?_cons_succ]
  refine (ofLit_c (n := 4) (c := 4) (xs := [_, _, _, _]) B V L q sl N hb hN rfl rfl (by omega) (by decide) (by omega) (by omega) l).mono ?_
  rintro _ V ⟨s, rfl, hs, l⟩
  simp (disch := omega) only [↓stq, amv_at, vls, inf, frs, mark_eq, ↓reduceIte, Nat.reduceEqDiff, ite_tt, ite_ff, eq_self, and_true, true_and, and_self, implies_true, Bool.true_eq_false, Bool.false_eq_true, decide_true, decide_false, decide_eq_true_eq, decide_eq_false_iff_not, ne_eq, not_true_eq_false, not_false_eq_true, Bool.not_eq_true', Bool.not_eq_false', beq_self_eq_true, Bool.not_true, Bool.not_false, List.getElem?_toArray, List.getElem?_cons_zero, List.getElem?_cons_succ]
  exact ⟨s, rfl, by revert s; decide, l⟩

def addT (xs : List ByteArray) (n : ByteArray) : List ByteArray := if n ∈ xs then xs else xs ++ [n]
theorem addText_c (B A : View) (L : List It) (fp : List Nat) (w : Value) (xs : List ByteArray) (n : ByteArray) (hz : n.size ≤ 140737488355328) (hl : xs.length ≤ 16777215) (l : Led B (osl 9 strO fp w xs :: L) A) : ACalls Try.prog 71 #[w, .string n] A fun r V => ∃ fp', Led B (osl 9 strO fp' r (addT xs n) :: L) V := by
  have hS : Sl strS A w xs := OSl.toS (show OSl 9 strO A fp w xs from l.at (i := 0) rfl)
  obtain ⟨a, c, rfl, _, _⟩ := hS.slice
  refine acalls Try.func71 rfl (by kernel_rfl) ?_
  simp (disch := omega) only [↓stq, amv_at, vls, inf, frs, mark_eq, ↓reduceIte, Nat.reduceEqDiff, ite_tt, ite_ff, eq_self, and_true, true_and, and_self, implies_true, Bool.true_eq_false, Bool.false_eq_true, decide_true, decide_false, decide_eq_true_eq, decide_eq_false_iff_not, ne_eq, not_true_eq_false, not_false_eq_true, Bool.not_eq_true', Bool.not_eq_false', beq_self_eq_true, Bool.not_true, Bool.not_false, List.getElem?_toArray, List.getElem?_cons_zero, List.getElem?_cons_succ]
  refine (spec_hasText_c A _ xs n hS).mono ?_
  rintro _ A ⟨rfl, rfl⟩
  simp (disch := omega) only [↓stq, amv_at, vls, inf, frs, mark_eq, ↓reduceIte, Nat.reduceEqDiff, ite_tt, ite_ff, eq_self, and_true, true_and, and_self, implies_true, Bool.true_eq_false, Bool.false_eq_true, decide_true, decide_false, decide_eq_true_eq, decide_eq_false_iff_not, ne_eq, not_true_eq_false, not_false_eq_true, Bool.not_eq_true', Bool.not_eq_false', beq_self_eq_true, Bool.not_true, Bool.not_false, List.getElem?_toArray, List.getElem?_cons_zero, List.getElem?_cons_succ]
  refine ⟨fun e => ?_, fun e => ?_⟩ <;> simp (disch := omega) only [↓stq, amv_at, vls, inf, frs, mark_eq, ↓reduceIte, Nat.reduceEqDiff, ite_tt, ite_ff, eq_self, and_true, true_and, and_self, implies_true, Bool.true_eq_false, Bool.false_eq_true, decide_true, decide_false, decide_eq_true_eq, decide_eq_false_iff_not, ne_eq, not_true_eq_false, not_false_eq_true, Bool.not_eq_true', Bool.not_eq_false', beq_self_eq_true, Bool.not_true, Bool.not_false, List.getElem?_toArray, List.getElem?_cons_zero, List.getElem?_cons_succ]
  · rw [addT, if_pos e]
    exact ⟨fp, l⟩
  · rw [addT, if_neg e]
    refine led_lit li25 (by omega) rfl (fun p hp => by rcases List.mem_singleton.1 hp with rfl; exact ⟨rfl, rfl⟩) l fun bl V3 _ l => ?_
    simp (disch := omega) only [↓stq, amv_at, vls, inf, frs, mark_eq, ↓reduceIte, Nat.reduceEqDiff, ite_tt, ite_ff, eq_self, and_true, true_and, and_self, implies_true, Bool.true_eq_false, Bool.false_eq_true, decide_true, decide_false, decide_eq_true_eq, decide_eq_false_iff_not, ne_eq, not_true_eq_false, not_false_eq_true, Bool.not_eq_true', Bool.not_eq_false', beq_self_eq_true, Bool.not_true, Bool.not_false, List.getElem?_toArray, List.getElem?_cons_zero, List.getElem?_cons_succ]
    refine led_app (O := strO) ap25_25 (by decide) l (i := 1) rfl (l.src1 (S := strS) (j := 0) rfl ⟨rfl, hz⟩) (by rw [List.length_singleton]; omega) fun fp2 w2 V4 _ l => ?_
    simp (disch := omega) only [↓stq, amv_at, vls, inf, frs, mark_eq, ↓reduceIte, Nat.reduceEqDiff, ite_tt, ite_ff, eq_self, and_true, true_and, and_self, implies_true, Bool.true_eq_false, Bool.false_eq_true, decide_true, decide_false, decide_eq_true_eq, decide_eq_false_iff_not, ne_eq, not_true_eq_false, not_false_eq_true, Bool.not_eq_true', Bool.not_eq_false', beq_self_eq_true, Bool.not_true, Bool.not_false, List.getElem?_toArray, List.getElem?_cons_zero, List.getElem?_cons_succ]
    exact ⟨fp2, l.tail⟩

theorem sortedTexts_c (A : View) (v : Value) (xs : List ByteArray) (h : Sl strS A v xs) (hsm : xs.length ≤ 1000000) : ACalls Try.prog 121 #[v] A fun r V => ∃ ys, NewSl 9 strO A r V ys ∧ ys.length ≤ xs.length ∧ ∀ y, y ∈ ys → y ∈ xs := by
  obtain ⟨a, c, rfl, hc, hl⟩ := h.slice
  refine acalls Try.func121 rfl (by kernel_rfl) ?_
  simp (disch := omega) only [↓stq, amv_at, vls, inf, frs, mark_eq, ↓reduceIte, Nat.reduceEqDiff, ite_tt, ite_ff, eq_self, and_true, true_and, and_self, implies_true, Bool.true_eq_false, Bool.false_eq_true, decide_true, decide_false, decide_eq_true_eq, decide_eq_false_iff_not, ne_eq, not_true_eq_false, not_false_eq_true, Bool.not_eq_true', Bool.not_eq_false', beq_self_eq_true, Bool.not_true, Bool.not_false, List.getElem?_toArray, List.getElem?_cons_zero, List.getElem?_cons_succ]
  refine led_lit0 (O := strO) li25 (Led.nil A) fun b V _ l => ?_
  simp (disch := omega) only [↓stq, amv_at, vls, inf, frs, mark_eq, ↓reduceIte, Nat.reduceEqDiff, ite_tt, ite_ff, eq_self, and_true, true_and, and_self, implies_true, Bool.true_eq_false, Bool.false_eq_true, decide_true, decide_false, decide_eq_true_eq, decide_eq_false_iff_not, ne_eq, not_true_eq_false, not_false_eq_true, Bool.not_eq_true', Bool.not_eq_false', beq_self_eq_true, Bool.not_true, Bool.not_false, List.getElem?_toArray, List.getElem?_cons_zero, List.getElem?_cons_succ]
  refine aloop (fun d fr V => ∃ (i : Nat) (fp : List Nat) (w : Value) (ys : List ByteArray), i ≤ xs.length ∧ d = xs.length - i ∧ Led A [osl 9 strO fp w ys] V ∧ fr 0 = .slice a xs.length c ∧ fr 3 = w ∧ fr 4 = .int .i64 i ∧ ys.length ≤ i ∧ ∀ y, y ∈ ys → y ∈ xs) xs.length ⟨0, _, _, [], by omega, by omega, l, by rfl, by rfl, by rfl, by simp, by simp⟩ ?_
  clear l
  rintro d fr V ⟨i, fp, w, ys, hi, rfl, l, h0, h3, h4, hyl, hy⟩
  simp (disch := omega) only [↓stq, amv_at, vls, inf, frs, mark_eq, ↓reduceIte, Nat.reduceEqDiff, ite_tt, ite_ff, eq_self, and_true, true_and, and_self, implies_true, Bool.true_eq_false, Bool.false_eq_true, decide_true, decide_false, decide_eq_true_eq, decide_eq_false_iff_not, ne_eq, not_true_eq_false, not_false_eq_true, Bool.not_eq_true', Bool.not_eq_false', beq_self_eq_true, Bool.not_true, Bool.not_false, List.getElem?_toArray, List.getElem?_cons_zero, List.getElem?_cons_succ, h0, h3, h4]
  refine ⟨fun e => ?_, fun e => ?_⟩
  · have hlt : i < xs.length := by omega
    have hS : Sl strS V w ys := OSl.toS (show OSl 9 strO V fp w ys from l.at (i := 0) rfl)
    obtain ⟨aw, cw, rfl, hcw, _⟩ := hS.slice
    obtain ⟨ad, rfl, kk, zk⟩ := (h.mono l.ext).str hlt
    simp (disch := omega) only [↓stq, amv_at, vls, inf, frs, mark_eq, ↓reduceIte, Nat.reduceEqDiff, ite_tt, ite_ff, eq_self, and_true, true_and, and_self, implies_true, Bool.true_eq_false, Bool.false_eq_true, decide_true, decide_false, decide_eq_true_eq, decide_eq_false_iff_not, ne_eq, not_true_eq_false, not_false_eq_true, Bool.not_eq_true', Bool.not_eq_false', beq_self_eq_true, Bool.not_true, Bool.not_false, List.getElem?_toArray, List.getElem?_cons_zero, List.getElem?_cons_succ, h0, h3, h4]
    refine aloop (fun d fr V' => ∃ j : Nat, j ≤ ys.length ∧ d = ys.length - j ∧ V' = V ∧ fr 0 = .slice (some ad) xs.length c ∧ fr 3 = .slice aw ys.length cw ∧ fr 4 = .int .i64 i ∧ fr 5 = .int .i64 j) ys.length ⟨0, by omega, by omega, rfl, h0, h3, h4, by rfl⟩ ?_
    clear h0 h3 h4
    rintro d fr V ⟨j, hj, rfl, rfl, h0, h3, h4, h5⟩
    simp (disch := omega) only [↓stq, amv_at, vls, inf, frs, mark_eq, ↓reduceIte, Nat.reduceEqDiff, ite_tt, ite_ff, eq_self, and_true, true_and, and_self, implies_true, Bool.true_eq_false, Bool.false_eq_true, decide_true, decide_false, decide_eq_true_eq, decide_eq_false_iff_not, ne_eq, not_true_eq_false, not_false_eq_true, Bool.not_eq_true', Bool.not_eq_false', beq_self_eq_true, Bool.not_true, Bool.not_false, List.getElem?_toArray, List.getElem?_cons_zero, List.getElem?_cons_succ, h0, h3, h4, h5]
    refine adraw_items [.q 0, .q 1, .q 2, .q 3, .q 4, .q 5, .q 6, .q 7, .l 8 false, .q 9, .q 10, .q 11, .l 12 false, .q 13, .q 14] (by kernel_rfl) (by kernel_rfl) ?_
    simp (disch := omega) only [↓stq, amv_at, ↓pln, plv, nilOk, Nat.reduceBEq, Bool.or_false, Bool.or_true, Bool.false_or, Bool.true_or, vls, inf, frs, mark_eq, ↓reduceIte, Nat.reduceEqDiff, ite_tt, ite_ff, eq_self, and_true, true_and, and_self, implies_true, Bool.true_eq_false, Bool.false_eq_true, decide_true, decide_false, decide_eq_true_eq, decide_eq_false_iff_not, ne_eq, not_true_eq_false, not_false_eq_true, Bool.not_eq_true', Bool.not_eq_false', beq_self_eq_true, Bool.not_true, Bool.not_false, List.getElem?_toArray, List.getElem?_cons_zero, List.getElem?_cons_succ, h0, h3, h4, h5]
    have hins : ∀ z, z ∈ ys.take j ++ [xs[i]] ++ ys.drop j → z ∈ xs := fun z hz => by
      rcases List.mem_append.1 hz with hz | hz
      · rcases List.mem_append.1 hz with hz | hz
        · exact hy z (List.mem_of_mem_take hz)
        · rw [List.mem_singleton.1 hz]; exact List.getElem_mem hlt
      · exact hy z (List.mem_of_mem_drop hz)
    refine ⟨fun e1 => ?_, fun e1 => ?_⟩
    · obtain ⟨ad2, rfl, kk2, _⟩ := hS.str (i := j) (by omega)
      simp (disch := omega) only [↓stq, amv_at, ↓pln, plv, nilOk, Nat.reduceBEq, Bool.or_false, Bool.or_true, Bool.false_or, Bool.true_or, vls, inf, frs, mark_eq, ↓reduceIte, Nat.reduceEqDiff, ite_tt, ite_ff, eq_self, and_true, true_and, and_self, implies_true, Bool.true_eq_false, Bool.false_eq_true, decide_true, decide_false, decide_eq_true_eq, decide_eq_false_iff_not, ne_eq, not_true_eq_false, not_false_eq_true, Bool.not_eq_true', Bool.not_eq_false', beq_self_eq_true, Bool.not_true, Bool.not_false, List.getElem?_toArray, List.getElem?_cons_zero, List.getElem?_cons_succ, h0, h3, h4, h5, kk, kk2, e1, abin_lts]
      refine ⟨fun e2 => ?_, fun e2 => ?_⟩ <;> simp (disch := omega) only [↓stq, amv_at, vls, inf, frs, mark_eq, ↓reduceIte, Nat.reduceEqDiff, ite_tt, ite_ff, eq_self, and_true, true_and, and_self, implies_true, Bool.true_eq_false, Bool.false_eq_true, decide_true, decide_false, decide_eq_true_eq, decide_eq_false_iff_not, ne_eq, not_true_eq_false, not_false_eq_true, Bool.not_eq_true', Bool.not_eq_false', beq_self_eq_true, Bool.not_true, Bool.not_false, List.getElem?_toArray, List.getElem?_cons_zero, List.getElem?_cons_succ, h0, h3, h4, h5]
      · exact ⟨_, by omega, j + 1, by omega, rfl, rfl⟩
      · refine adraw_items [.q 0, .q 1, .q 2, .q 3, .q 4, .q 5, .q 6, .q 7, .l 8 false, .q 9, .q 10, .q 11, .l 12 false, .q 13, .q 14] (by kernel_rfl) (by kernel_rfl) ?_
        have e3 : ¬ (j : Int) = ys.length := by omega
        simp (disch := omega) only [↓stq, amv_at, ↓pln, plv, nilOk, Nat.reduceBEq, Bool.or_false, Bool.or_true, Bool.false_or, Bool.true_or, vls, inf, frs, mark_eq, ↓reduceIte, Nat.reduceEqDiff, ite_tt, ite_ff, eq_self, and_true, true_and, and_self, implies_true, Bool.true_eq_false, Bool.false_eq_true, decide_true, decide_false, decide_eq_true_eq, decide_eq_false_iff_not, ne_eq, not_true_eq_false, not_false_eq_true, Bool.not_eq_true', Bool.not_eq_false', beq_self_eq_true, Bool.not_true, Bool.not_false, List.getElem?_toArray, List.getElem?_cons_zero, List.getElem?_cons_succ, h0, h3, h4, h5, kk, kk2, e3]
        refine ⟨fun e4 => ?_, fun e4 => ?_⟩
        · simp (disch := omega) only [↓stq, amv_at, vls, inf, frs, mark_eq, ↓reduceIte, Nat.reduceEqDiff, ite_tt, ite_ff, eq_self, and_true, true_and, and_self, implies_true, Bool.true_eq_false, Bool.false_eq_true, decide_true, decide_false, decide_eq_true_eq, decide_eq_false_iff_not, ne_eq, not_true_eq_false, not_false_eq_true, Bool.not_eq_true', Bool.not_eq_false', beq_self_eq_true, Bool.not_true, Bool.not_false, List.getElem?_toArray, List.getElem?_cons_zero, List.getElem?_cons_succ, h0, h3, h4, h5]
          refine adraw_items [.q 1, .q 2, .q 3, .q 5, .q 6, .q 7, .l 8 true, .q 11, .q 12, .q 13, .c 0 [], .c 4 [8], .c 9 [], .c 10 [], .c 14 [], .q 15] (by kernel_rfl) (by kernel_rfl) ?_
          simp (disch := omega) only [↓stq, amv_at, ↓pln, plv, nilOk, Nat.reduceBEq, Bool.or_false, Bool.or_true, Bool.false_or, Bool.true_or, vls, inf, frs, mark_eq, ↓reduceIte, Nat.reduceEqDiff, ite_tt, ite_ff, eq_self, and_true, true_and, and_self, implies_true, Bool.true_eq_false, Bool.false_eq_true, decide_true, decide_false, decide_eq_true_eq, decide_eq_false_iff_not, ne_eq, not_true_eq_false, not_false_eq_true, Bool.not_eq_true', Bool.not_eq_false', beq_self_eq_true, Bool.not_true, Bool.not_false, List.getElem?_toArray, List.getElem?_cons_zero, List.getElem?_cons_succ, h0, h3, h4, h5, kk]
          refine led_lit0 (O := strO) li25 l fun b1 V1 he l => ?_
          have kk := he.cell kk
          simp (disch := omega) only [↓stq, amv_at, ↓pln, plv, nilOk, Nat.reduceBEq, Bool.or_false, Bool.or_true, Bool.false_or, Bool.true_or, vls, inf, frs, mark_eq, ↓reduceIte, Nat.reduceEqDiff, ite_tt, ite_ff, eq_self, and_true, true_and, and_self, implies_true, Bool.true_eq_false, Bool.false_eq_true, decide_true, decide_false, decide_eq_true_eq, decide_eq_false_iff_not, ne_eq, not_true_eq_false, not_false_eq_true, Bool.not_eq_true', Bool.not_eq_false', beq_self_eq_true, Bool.not_true, Bool.not_false, List.getElem?_toArray, List.getElem?_cons_zero, List.getElem?_cons_succ, h0, h3, h4, h5, kk, false_implies]
          refine led_app (O := strO) ap25_25 (by decide) l (i := 0) rfl (Sl.srcOf ((OSl.toS (show OSl 9 strO V1 fp _ ys from l.at (i := 1) rfl)).take hj 1)) (by rw [List.length_nil, List.length_take]; omega) fun f1 w1 V2 _ l => ?_
          rw [List.nil_append] at l
          obtain ⟨_, hq, kk, _⟩ := (h.mono l.ext).str hlt
          obtain rfl := Option.some.inj hq
          simp (disch := omega) only [↓stq, amv_at, ↓pln, plv, nilOk, Nat.reduceBEq, Bool.or_false, Bool.or_true, Bool.false_or, Bool.true_or, vls, inf, frs, mark_eq, ↓reduceIte, Nat.reduceEqDiff, ite_tt, ite_ff, eq_self, and_true, true_and, and_self, implies_true, Bool.true_eq_false, Bool.false_eq_true, decide_true, decide_false, decide_eq_true_eq, decide_eq_false_iff_not, ne_eq, not_true_eq_false, not_false_eq_true, Bool.not_eq_true', Bool.not_eq_false', beq_self_eq_true, Bool.not_true, Bool.not_false, List.getElem?_toArray, List.getElem?_cons_zero, List.getElem?_cons_succ, h0, h3, h4, h5, kk, false_implies]
          refine led_lit li25 (by omega) rfl (fun p hp => by rcases List.mem_singleton.1 hp with rfl; exact ⟨rfl, rfl⟩) l fun bl V3 he l => ?_
          have kk := he.cell kk
          simp (disch := omega) only [↓stq, amv_at, ↓pln, plv, nilOk, Nat.reduceBEq, Bool.or_false, Bool.or_true, Bool.false_or, Bool.true_or, vls, inf, frs, mark_eq, ↓reduceIte, Nat.reduceEqDiff, ite_tt, ite_ff, eq_self, and_true, true_and, and_self, implies_true, Bool.true_eq_false, Bool.false_eq_true, decide_true, decide_false, decide_eq_true_eq, decide_eq_false_iff_not, ne_eq, not_true_eq_false, not_false_eq_true, Bool.not_eq_true', Bool.not_eq_false', beq_self_eq_true, Bool.not_true, Bool.not_false, List.getElem?_toArray, List.getElem?_cons_zero, List.getElem?_cons_succ, h0, h3, h4, h5, kk, false_implies]
          refine led_app (O := strO) ap25_25 (by decide) l (i := 1) rfl (l.src1 (S := strS) (j := 0) rfl ⟨rfl, zk⟩) (by rw [List.length_singleton, List.length_take]; omega) fun f2 w2 V4 _ l => ?_
          obtain ⟨_, hq, kk, _⟩ := (h.mono l.ext).str hlt
          obtain rfl := Option.some.inj hq
          simp (disch := omega) only [↓stq, amv_at, ↓pln, plv, nilOk, Nat.reduceBEq, Bool.or_false, Bool.or_true, Bool.false_or, Bool.true_or, vls, inf, frs, mark_eq, ↓reduceIte, Nat.reduceEqDiff, ite_tt, ite_ff, eq_self, and_true, true_and, and_self, implies_true, Bool.true_eq_false, Bool.false_eq_true, decide_true, decide_false, decide_eq_true_eq, decide_eq_false_iff_not, ne_eq, not_true_eq_false, not_false_eq_true, Bool.not_eq_true', Bool.not_eq_false', beq_self_eq_true, Bool.not_true, Bool.not_false, List.getElem?_toArray, List.getElem?_cons_zero, List.getElem?_cons_succ, h0, h3, h4, h5, kk, false_implies]
          refine led_app (O := strO) ap25_25 (by decide) l (i := 1) rfl (Sl.srcOf ((OSl.toS (show OSl 9 strO V4 fp _ ys from l.at (i := 2) rfl)).drop (k := j) hj)) (by rw [List.length_append, List.length_singleton, List.length_take, List.length_drop]; omega) fun f3 w3 V5 _ l => ?_
          obtain ⟨_, hq, kk, _⟩ := (h.mono l.ext).str hlt
          obtain rfl := Option.some.inj hq
          simp (disch := omega) only [↓stq, amv_at, ↓pln, plv, nilOk, Nat.reduceBEq, Bool.or_false, Bool.or_true, Bool.false_or, Bool.true_or, vls, inf, frs, mark_eq, ↓reduceIte, Nat.reduceEqDiff, ite_tt, ite_ff, eq_self, and_true, true_and, and_self, implies_true, Bool.true_eq_false, Bool.false_eq_true, decide_true, decide_false, decide_eq_true_eq, decide_eq_false_iff_not, ne_eq, not_true_eq_false, not_false_eq_true, Bool.not_eq_true', Bool.not_eq_false', beq_self_eq_true, Bool.not_true, Bool.not_false, List.getElem?_toArray, List.getElem?_cons_zero, List.getElem?_cons_succ, h0, h3, h4, h5, kk, false_implies]
          exact ⟨_, by omega, i + 1, f3, w3, _, by omega, rfl, l.sub (.cons _ (.cons_cons _ (.cons _ .slnil))), rfl, rfl, by rw [List.length_append, List.length_append, List.length_singleton, List.length_take, List.length_drop]; omega, hins⟩
        · simp (disch := omega) only [↓stq, amv_at, vls, inf, frs, mark_eq, ↓reduceIte, Nat.reduceEqDiff, ite_tt, ite_ff, eq_self, and_true, true_and, and_self, implies_true, Bool.true_eq_false, Bool.false_eq_true, decide_true, decide_false, decide_eq_true_eq, decide_eq_false_iff_not, ne_eq, not_true_eq_false, not_false_eq_true, Bool.not_eq_true', Bool.not_eq_false', beq_self_eq_true, Bool.not_true, Bool.not_false, List.getElem?_toArray, List.getElem?_cons_zero, List.getElem?_cons_succ, h0, h3, h4, h5]
          exact ⟨_, by omega, i + 1, fp, _, ys, by omega, rfl, l, rfl, rfl, by omega, hy⟩
    · simp (disch := omega) only [↓stq, amv_at, ↓pln, plv, nilOk, Nat.reduceBEq, Bool.or_false, Bool.or_true, Bool.false_or, Bool.true_or, vls, inf, frs, mark_eq, ↓reduceIte, Nat.reduceEqDiff, ite_tt, ite_ff, eq_self, and_true, true_and, and_self, implies_true, Bool.true_eq_false, Bool.false_eq_true, decide_true, decide_false, decide_eq_true_eq, decide_eq_false_iff_not, ne_eq, not_true_eq_false, not_false_eq_true, Bool.not_eq_true', Bool.not_eq_false', beq_self_eq_true, Bool.not_true, Bool.not_false, List.getElem?_toArray, List.getElem?_cons_zero, List.getElem?_cons_succ, h0, h3, h4, h5, kk, e1]
      refine adraw_items [.q 0, .q 1, .q 2, .q 3, .q 4, .q 5, .q 6, .q 7, .l 8 false, .q 9, .q 10, .q 11, .l 12 false, .q 13, .q 14] (by kernel_rfl) (by kernel_rfl) ?_
      have e3 : (j : Int) = ys.length := by omega
      simp (disch := omega) only [↓stq, amv_at, ↓pln, plv, nilOk, Nat.reduceBEq, Bool.or_false, Bool.or_true, Bool.false_or, Bool.true_or, vls, inf, frs, mark_eq, ↓reduceIte, Nat.reduceEqDiff, ite_tt, ite_ff, eq_self, and_true, true_and, and_self, implies_true, Bool.true_eq_false, Bool.false_eq_true, decide_true, decide_false, decide_eq_true_eq, decide_eq_false_iff_not, ne_eq, not_true_eq_false, not_false_eq_true, Bool.not_eq_true', Bool.not_eq_false', beq_self_eq_true, Bool.not_true, Bool.not_false, List.getElem?_toArray, List.getElem?_cons_zero, List.getElem?_cons_succ, h0, h3, h4, h5, kk, e3]
      simp (disch := omega) only [↓stq, amv_at, vls, inf, frs, mark_eq, ↓reduceIte, Nat.reduceEqDiff, ite_tt, ite_ff, eq_self, and_true, true_and, and_self, implies_true, Bool.true_eq_false, Bool.false_eq_true, decide_true, decide_false, decide_eq_true_eq, decide_eq_false_iff_not, ne_eq, not_true_eq_false, not_false_eq_true, Bool.not_eq_true', Bool.not_eq_false', beq_self_eq_true, Bool.not_true, Bool.not_false, List.getElem?_toArray, List.getElem?_cons_zero, List.getElem?_cons_succ, h0, h3, h4, h5]
      refine adraw_items [.q 1, .q 2, .q 3, .q 5, .q 6, .q 7, .l 8 true, .q 11, .q 12, .q 13, .c 0 [], .c 4 [8], .c 9 [], .c 10 [], .c 14 [], .q 15] (by kernel_rfl) (by kernel_rfl) ?_
      simp (disch := omega) only [↓stq, amv_at, ↓pln, plv, nilOk, Nat.reduceBEq, Bool.or_false, Bool.or_true, Bool.false_or, Bool.true_or, vls, inf, frs, mark_eq, ↓reduceIte, Nat.reduceEqDiff, ite_tt, ite_ff, eq_self, and_true, true_and, and_self, implies_true, Bool.true_eq_false, Bool.false_eq_true, decide_true, decide_false, decide_eq_true_eq, decide_eq_false_iff_not, ne_eq, not_true_eq_false, not_false_eq_true, Bool.not_eq_true', Bool.not_eq_false', beq_self_eq_true, Bool.not_true, Bool.not_false, List.getElem?_toArray, List.getElem?_cons_zero, List.getElem?_cons_succ, h0, h3, h4, h5, kk]
      refine led_lit0 (O := strO) li25 l fun b1 V1 he l => ?_
      have kk := he.cell kk
      simp (disch := omega) only [↓stq, amv_at, ↓pln, plv, nilOk, Nat.reduceBEq, Bool.or_false, Bool.or_true, Bool.false_or, Bool.true_or, vls, inf, frs, mark_eq, ↓reduceIte, Nat.reduceEqDiff, ite_tt, ite_ff, eq_self, and_true, true_and, and_self, implies_true, Bool.true_eq_false, Bool.false_eq_true, decide_true, decide_false, decide_eq_true_eq, decide_eq_false_iff_not, ne_eq, not_true_eq_false, not_false_eq_true, Bool.not_eq_true', Bool.not_eq_false', beq_self_eq_true, Bool.not_true, Bool.not_false, List.getElem?_toArray, List.getElem?_cons_zero, List.getElem?_cons_succ, h0, h3, h4, h5, kk, false_implies]
      refine led_app (O := strO) ap25_25 (by decide) l (i := 0) rfl (Sl.srcOf ((OSl.toS (show OSl 9 strO V1 fp _ ys from l.at (i := 1) rfl)).take hj 1)) (by rw [List.length_nil, List.length_take]; omega) fun f1 w1 V2 _ l => ?_
      rw [List.nil_append] at l
      obtain ⟨_, hq, kk, _⟩ := (h.mono l.ext).str hlt
      obtain rfl := Option.some.inj hq
      simp (disch := omega) only [↓stq, amv_at, ↓pln, plv, nilOk, Nat.reduceBEq, Bool.or_false, Bool.or_true, Bool.false_or, Bool.true_or, vls, inf, frs, mark_eq, ↓reduceIte, Nat.reduceEqDiff, ite_tt, ite_ff, eq_self, and_true, true_and, and_self, implies_true, Bool.true_eq_false, Bool.false_eq_true, decide_true, decide_false, decide_eq_true_eq, decide_eq_false_iff_not, ne_eq, not_true_eq_false, not_false_eq_true, Bool.not_eq_true', Bool.not_eq_false', beq_self_eq_true, Bool.not_true, Bool.not_false, List.getElem?_toArray, List.getElem?_cons_zero, List.getElem?_cons_succ, h0, h3, h4, h5, kk, false_implies]
      refine led_lit li25 (by omega) rfl (fun p hp => by rcases List.mem_singleton.1 hp with rfl; exact ⟨rfl, rfl⟩) l fun bl V3 he l => ?_
      have kk := he.cell kk
      simp (disch := omega) only [↓stq, amv_at, ↓pln, plv, nilOk, Nat.reduceBEq, Bool.or_false, Bool.or_true, Bool.false_or, Bool.true_or, vls, inf, frs, mark_eq, ↓reduceIte, Nat.reduceEqDiff, ite_tt, ite_ff, eq_self, and_true, true_and, and_self, implies_true, Bool.true_eq_false, Bool.false_eq_true, decide_true, decide_false, decide_eq_true_eq, decide_eq_false_iff_not, ne_eq, not_true_eq_false, not_false_eq_true, Bool.not_eq_true', Bool.not_eq_false', beq_self_eq_true, Bool.not_true, Bool.not_false, List.getElem?_toArray, List.getElem?_cons_zero, List.getElem?_cons_succ, h0, h3, h4, h5, kk, false_implies]
      refine led_app (O := strO) ap25_25 (by decide) l (i := 1) rfl (l.src1 (S := strS) (j := 0) rfl ⟨rfl, zk⟩) (by rw [List.length_singleton, List.length_take]; omega) fun f2 w2 V4 _ l => ?_
      obtain ⟨_, hq, kk, _⟩ := (h.mono l.ext).str hlt
      obtain rfl := Option.some.inj hq
      simp (disch := omega) only [↓stq, amv_at, ↓pln, plv, nilOk, Nat.reduceBEq, Bool.or_false, Bool.or_true, Bool.false_or, Bool.true_or, vls, inf, frs, mark_eq, ↓reduceIte, Nat.reduceEqDiff, ite_tt, ite_ff, eq_self, and_true, true_and, and_self, implies_true, Bool.true_eq_false, Bool.false_eq_true, decide_true, decide_false, decide_eq_true_eq, decide_eq_false_iff_not, ne_eq, not_true_eq_false, not_false_eq_true, Bool.not_eq_true', Bool.not_eq_false', beq_self_eq_true, Bool.not_true, Bool.not_false, List.getElem?_toArray, List.getElem?_cons_zero, List.getElem?_cons_succ, h0, h3, h4, h5, kk, false_implies]
      refine led_app (O := strO) ap25_25 (by decide) l (i := 1) rfl (Sl.srcOf ((OSl.toS (show OSl 9 strO V4 fp _ ys from l.at (i := 2) rfl)).drop (k := j) hj)) (by rw [List.length_append, List.length_singleton, List.length_take, List.length_drop]; omega) fun f3 w3 V5 _ l => ?_
      obtain ⟨_, hq, kk, _⟩ := (h.mono l.ext).str hlt
      obtain rfl := Option.some.inj hq
      simp (disch := omega) only [↓stq, amv_at, ↓pln, plv, nilOk, Nat.reduceBEq, Bool.or_false, Bool.or_true, Bool.false_or, Bool.true_or, vls, inf, frs, mark_eq, ↓reduceIte, Nat.reduceEqDiff, ite_tt, ite_ff, eq_self, and_true, true_and, and_self, implies_true, Bool.true_eq_false, Bool.false_eq_true, decide_true, decide_false, decide_eq_true_eq, decide_eq_false_iff_not, ne_eq, not_true_eq_false, not_false_eq_true, Bool.not_eq_true', Bool.not_eq_false', beq_self_eq_true, Bool.not_true, Bool.not_false, List.getElem?_toArray, List.getElem?_cons_zero, List.getElem?_cons_succ, h0, h3, h4, h5, kk, false_implies]
      exact ⟨_, by omega, i + 1, f3, w3, _, by omega, rfl, l.sub (.cons _ (.cons_cons _ (.cons _ .slnil))), rfl, rfl, by rw [List.length_append, List.length_append, List.length_singleton, List.length_take, List.length_drop]; omega, hins⟩
  · have hyl2 := hyl
    simp (disch := omega) only [↓stq, amv_at, vls, inf, frs, mark_eq, ↓reduceIte, Nat.reduceEqDiff, ite_tt, ite_ff, eq_self, and_true, true_and, and_self, implies_true, Bool.true_eq_false, Bool.false_eq_true, decide_true, decide_false, decide_eq_true_eq, decide_eq_false_iff_not, ne_eq, not_true_eq_false, not_false_eq_true, Bool.not_eq_true', Bool.not_eq_false', beq_self_eq_true, Bool.not_true, Bool.not_false, List.getElem?_toArray, List.getElem?_cons_zero, List.getElem?_cons_succ, h0, h3, h4]
    exact ⟨ys, ⟨fp, l⟩, by omega, hy⟩

theorem someMarks_c (B A : View) (L : List It) (q : Nat) (sl : Value) (N : Nat) (hb : Bts B sl) (hN : N ≤ 900000000) (l : Led B (rdr q sl N :: L) A) : ACalls Try.prog 109 #[.pointer (some ⟨q, 0, none⟩)] A fun r V => ∃ fp ys, ys.length ≤ 3 ∧ (∀ y, y ∈ ys → y.size ≤ 100) ∧ Led B (osl 9 strO fp r ys :: rdr q sl (N + 4) :: L) V := by
  refine acalls Try.func109 rfl (by kernel_rfl) ?_
  simp (disch := omega) only [↓stq, amv_at, vls, inf, frs, mark_eq, ↓reduceIte, Nat.reduceEqDiff, ite_tt, ite_ff, eq_self, and_true, true_and, and_self, implies_true, Bool.true_eq_false, Bool.false_eq_true, decide_true, decide_false, decide_eq_true_eq, decide_eq_false_iff_not, ne_eq, not_true_eq_false, not_false_eq_true, Bool.not_eq_true', Bool.not_eq_false', beq_self_eq_true, Bool.not_true, Bool.not_false, List.getElem?_toArray, List.getElem?_cons_zero, List.getElem?_cons_succ]
  refine led_lit0 (O := strO) li25 l fun b V _ l => ?_
  simp (disch := omega) only [↓stq, amv_at, vls, inf, frs, mark_eq, ↓reduceIte, Nat.reduceEqDiff, ite_tt, ite_ff, eq_self, and_true, true_and, and_self, implies_true, Bool.true_eq_false, Bool.false_eq_true, decide_true, decide_false, decide_eq_true_eq, decide_eq_false_iff_not, ne_eq, not_true_eq_false, not_false_eq_true, Bool.not_eq_true', Bool.not_eq_false', beq_self_eq_true, Bool.not_true, Bool.not_false, List.getElem?_toArray, List.getElem?_cons_zero, List.getElem?_cons_succ]
  refine led_lit li101 (by omega) rfl (by simp [Value.cells, Value.oneCell']) l fun bl V _ l => ?_
  simp (disch := omega) only [↓stq, amv_at, vls, inf, frs, mark_eq, ↓reduceIte, Nat.reduceEqDiff, ite_tt, ite_ff, eq_self, and_true, true_and, and_self, implies_true, Bool.true_eq_false, Bool.false_eq_true, decide_true, decide_false, decide_eq_true_eq, decide_eq_false_iff_not, ne_eq, not_true_eq_false, not_false_eq_true, Bool.not_eq_true', Bool.not_eq_false', beq_self_eq_true, Bool.not_true, Bool.not_false, List.getElem?_toArray, List.getElem?_cons_zero, List.getElem?_cons_succ]
  refine (oneLit_c (n := 5) (c := 5) (xs := [_, _, _, _, _]) B V (osl 9 strO [b] _ [] :: L) q sl N hb (by omega) rfl rfl (by omega) (by decide) (by omega) (by omega) (l.perm ((List.Perm.swap ..).cons _))).mono ?_
  rintro _ V ⟨s, rfl, hs, l⟩
  have hs3 : 0 ≤ s ∧ s ≤ 3 := by revert s; decide
  obtain ⟨n, rfl⟩ := Int.eq_ofNat_of_zero_le hs3.1
  simp (disch := omega) only [↓stq, amv_at, vls, inf, frs, mark_eq, ↓reduceIte, Nat.reduceEqDiff, ite_tt, ite_ff, eq_self, and_true, true_and, and_self, implies_true, Bool.true_eq_false, Bool.false_eq_true, decide_true, decide_false, decide_eq_true_eq, decide_eq_false_iff_not, ne_eq, not_true_eq_false, not_false_eq_true, Bool.not_eq_true', Bool.not_eq_false', beq_self_eq_true, Bool.not_true, Bool.not_false, List.getElem?_toArray, List.getElem?_cons_zero, List.getElem?_cons_succ]
  refine aloop (fun d fr V => ∃ (k : Nat) (fp : List Nat) (w : Value) (ys : List ByteArray), d = k ∧ k + ys.length = n ∧ Led B (osl 9 strO fp w ys :: rdr q sl (N + 1 + ys.length) :: L) V ∧ fr 0 = .pointer (some ⟨q, 0, none⟩) ∧ fr 3 = w ∧ fr 4 = .int .i64 k ∧ ∀ y, y ∈ ys → y.size ≤ 100) n ⟨n, _, _, [], rfl, by simp, l.perm (List.Perm.swap ..), by rfl, by rfl, by rfl, by simp⟩ ?_
  clear l
  rintro k fr V ⟨_, fp, w, ys, rfl, hk, l, h0, h3, h4, hy⟩
  simp (disch := omega) only [↓stq, amv_at, vls, inf, frs, mark_eq, ↓reduceIte, Nat.reduceEqDiff, ite_tt, ite_ff, eq_self, and_true, true_and, and_self, implies_true, Bool.true_eq_false, Bool.false_eq_true, decide_true, decide_false, decide_eq_true_eq, decide_eq_false_iff_not, ne_eq, not_true_eq_false, not_false_eq_true, Bool.not_eq_true', Bool.not_eq_false', beq_self_eq_true, Bool.not_true, Bool.not_false, List.getElem?_toArray, List.getElem?_cons_zero, List.getElem?_cons_succ, h0, h3, h4]
  refine ⟨fun e => ?_, fun e => ?_⟩ <;> simp (disch := omega) only [↓stq, amv_at, vls, inf, frs, mark_eq, ↓reduceIte, Nat.reduceEqDiff, ite_tt, ite_ff, eq_self, and_true, true_and, and_self, implies_true, Bool.true_eq_false, Bool.false_eq_true, decide_true, decide_false, decide_eq_true_eq, decide_eq_false_iff_not, ne_eq, not_true_eq_false, not_false_eq_true, Bool.not_eq_true', Bool.not_eq_false', beq_self_eq_true, Bool.not_true, Bool.not_false, List.getElem?_toArray, List.getElem?_cons_zero, List.getElem?_cons_succ, h0, h3, h4]
  · refine led_lit li25 (by omega) rfl (by simp [Value.cells, Value.oneCell']) l fun bl V _ l => ?_
    simp (disch := omega) only [↓stq, amv_at, vls, inf, frs, mark_eq, ↓reduceIte, Nat.reduceEqDiff, ite_tt, ite_ff, eq_self, and_true, true_and, and_self, implies_true, Bool.true_eq_false, Bool.false_eq_true, decide_true, decide_false, decide_eq_true_eq, decide_eq_false_iff_not, ne_eq, not_true_eq_false, not_false_eq_true, Bool.not_eq_true', Bool.not_eq_false', beq_self_eq_true, Bool.not_true, Bool.not_false, List.getElem?_toArray, List.getElem?_cons_zero, List.getElem?_cons_succ, h0, h3, h4]
    refine (ofLit_c (n := 6) (c := 6) (xs := [_, _, _, _, _, _]) B V (osl 9 strO fp w ys :: L) q sl (N + 1 + ys.length) hb (by omega) rfl rfl (by omega) (by decide) (by omega) (by omega) (l.perm ((List.Perm.swap ..).cons _))).mono ?_
    rintro _ V ⟨s, rfl, hs, l⟩
    have hsz : s.size ≤ 100 := by revert s; decide
    simp (disch := omega) only [↓stq, amv_at, vls, inf, frs, mark_eq, ↓reduceIte, Nat.reduceEqDiff, ite_tt, ite_ff, eq_self, and_true, true_and, and_self, implies_true, Bool.true_eq_false, Bool.false_eq_true, decide_true, decide_false, decide_eq_true_eq, decide_eq_false_iff_not, ne_eq, not_true_eq_false, not_false_eq_true, Bool.not_eq_true', Bool.not_eq_false', beq_self_eq_true, Bool.not_true, Bool.not_false, List.getElem?_toArray, List.getElem?_cons_zero, List.getElem?_cons_succ, h0, h3, h4]
    refine led_lit li25 (by omega) rfl (fun p hp => by rcases List.mem_singleton.1 hp with rfl; exact ⟨rfl, rfl⟩) l fun bl V3 _ l => ?_
    simp (disch := omega) only [↓stq, amv_at, vls, inf, frs, mark_eq, ↓reduceIte, Nat.reduceEqDiff, ite_tt, ite_ff, eq_self, and_true, true_and, and_self, implies_true, Bool.true_eq_false, Bool.false_eq_true, decide_true, decide_false, decide_eq_true_eq, decide_eq_false_iff_not, ne_eq, not_true_eq_false, not_false_eq_true, Bool.not_eq_true', Bool.not_eq_false', beq_self_eq_true, Bool.not_true, Bool.not_false, List.getElem?_toArray, List.getElem?_cons_zero, List.getElem?_cons_succ, h0, h3, h4]
    refine led_app (O := strO) ap25_25 (by decide) l (i := 2) rfl (l.src1 (S := strS) (j := 0) rfl ⟨rfl, by omega⟩) (by rw [List.length_singleton]; omega) fun fp2 w2 V4 _ l => ?_
    simp (disch := omega) only [↓stq, amv_at, vls, inf, frs, mark_eq, ↓reduceIte, Nat.reduceEqDiff, ite_tt, ite_ff, eq_self, and_true, true_and, and_self, implies_true, Bool.true_eq_false, Bool.false_eq_true, decide_true, decide_false, decide_eq_true_eq, decide_eq_false_iff_not, ne_eq, not_true_eq_false, not_false_eq_true, Bool.not_eq_true', Bool.not_eq_false', beq_self_eq_true, Bool.not_true, Bool.not_false, List.getElem?_toArray, List.getElem?_cons_zero, List.getElem?_cons_succ, h0, h3, h4]
    refine ⟨k - 1, by omega, k - 1, fp2, _, ys ++ [s], rfl, by rw [List.length_append, List.length_singleton]; omega, ?_, rfl, by congr 1; omega, fun y hy2 => ?_⟩
    · rw [List.length_append, List.length_singleton]
      exact (l.tail).perm (List.Perm.swap ..)
    · rcases List.mem_append.1 hy2 with hy2 | hy2
      · exact hy y hy2
      · rw [List.mem_singleton.1 hy2]; exact hsz
  · refine (sortedTexts_c V _ ys (OSl.toS (show OSl 9 strO V fp _ ys from l.at (i := 0) rfl)) (by omega)).mono ?_
    rintro r V2 ⟨zs, ⟨fq, l2⟩, hz1, hz2⟩
    simp (disch := omega) only [↓stq, amv_at, vls, inf, frs, mark_eq, ↓reduceIte, Nat.reduceEqDiff, ite_tt, ite_ff, eq_self, and_true, true_and, and_self, implies_true, Bool.true_eq_false, Bool.false_eq_true, decide_true, decide_false, decide_eq_true_eq, decide_eq_false_iff_not, ne_eq, not_true_eq_false, not_false_eq_true, Bool.not_eq_true', Bool.not_eq_false', beq_self_eq_true, Bool.not_true, Bool.not_false, List.getElem?_toArray, List.getElem?_cons_zero, List.getElem?_cons_succ, h0, h3, h4]
    exact ⟨fq, zs, by omega, fun y hy2 => hy y (hz2 y hy2), ((((rdr_more (l.tail) (M := N + 4) (by omega)).append l2)))⟩

theorem someNeeds_c (B A : View) (L : List It) (q : Nat) (sl : Value) (N : Nat) (v : Value) (xs : List ByteArray) (hb : Bts B sl) (hN : N ≤ 900000000) (hx : ∀ V, Led B L V → Sl strS V v xs) (l : Led B (rdr q sl N :: L) A) : ACalls Try.prog 110 #[.pointer (some ⟨q, 0, none⟩), v] A fun r V => ∃ fp ys, ys.length ≤ 3 ∧ (∀ y, y ∈ ys → y ∈ xs) ∧ Led B (osl 9 strO fp r ys :: rdr q sl (N + 4) :: L) V := by
  obtain ⟨a, c, rfl, _, hle⟩ := (hx A l.tail).slice
  refine acalls Try.func110 rfl (by kernel_rfl) ?_
  simp (disch := omega) only [↓stq, amv_at, vls, inf, frs, mark_eq, ↓reduceIte, Nat.reduceEqDiff, ite_tt, ite_ff, eq_self, and_true, true_and, and_self, implies_true, Bool.true_eq_false, Bool.false_eq_true, decide_true, decide_false, decide_eq_true_eq, decide_eq_false_iff_not, ne_eq, not_true_eq_false, not_false_eq_true, Bool.not_eq_true', Bool.not_eq_false', beq_self_eq_true, Bool.not_true, Bool.not_false, List.getElem?_toArray, List.getElem?_cons_zero, List.getElem?_cons_succ]
  refine led_lit0 (O := strO) li25 l fun b V _ l => ?_
  simp (disch := omega) only [↓stq, amv_at, vls, inf, frs, mark_eq, ↓reduceIte, Nat.reduceEqDiff, ite_tt, ite_ff, eq_self, and_true, true_and, and_self, implies_true, Bool.true_eq_false, Bool.false_eq_true, decide_true, decide_false, decide_eq_true_eq, decide_eq_false_iff_not, ne_eq, not_true_eq_false, not_false_eq_true, Bool.not_eq_true', Bool.not_eq_false', beq_self_eq_true, Bool.not_true, Bool.not_false, List.getElem?_toArray, List.getElem?_cons_zero, List.getElem?_cons_succ]
  refine ⟨fun e1 => ?_, fun e1 => ?_⟩ <;> simp (disch := omega) only [↓stq, amv_at, vls, inf, frs, mark_eq, ↓reduceIte, Nat.reduceEqDiff, ite_tt, ite_ff, eq_self, and_true, true_and, and_self, implies_true, Bool.true_eq_false, Bool.false_eq_true, decide_true, decide_false, decide_eq_true_eq, decide_eq_false_iff_not, ne_eq, not_true_eq_false, not_false_eq_true, Bool.not_eq_true', Bool.not_eq_false', beq_self_eq_true, Bool.not_true, Bool.not_false, List.getElem?_toArray, List.getElem?_cons_zero, List.getElem?_cons_succ]
  · exact ⟨_, [], by simp, by simp, (rdr_more (l.perm (List.Perm.swap ..)) (M := N + 4) (by omega)).perm (List.Perm.swap ..)⟩
  refine led_lit li101 (by omega) rfl (by simp [Value.cells, Value.oneCell']) l fun bl V _ l => ?_
  simp (disch := omega) only [↓stq, amv_at, vls, inf, frs, mark_eq, ↓reduceIte, Nat.reduceEqDiff, ite_tt, ite_ff, eq_self, and_true, true_and, and_self, implies_true, Bool.true_eq_false, Bool.false_eq_true, decide_true, decide_false, decide_eq_true_eq, decide_eq_false_iff_not, ne_eq, not_true_eq_false, not_false_eq_true, Bool.not_eq_true', Bool.not_eq_false', beq_self_eq_true, Bool.not_true, Bool.not_false, List.getElem?_toArray, List.getElem?_cons_zero, List.getElem?_cons_succ]
  refine (oneLit_c (n := 5) (c := 5) (xs := [_, _, _, _, _]) B V (osl 9 strO [b] _ [] :: L) q sl N hb (by omega) rfl rfl (by omega) (by decide) (by omega) (by omega) (l.perm ((List.Perm.swap ..).cons _))).mono ?_
  rintro _ V ⟨s, rfl, hs, l⟩
  have hs3 : 0 ≤ s ∧ s ≤ 3 := by revert s; decide
  obtain ⟨n, rfl⟩ := Int.eq_ofNat_of_zero_le hs3.1
  simp (disch := omega) only [↓stq, amv_at, vls, inf, frs, mark_eq, ↓reduceIte, Nat.reduceEqDiff, ite_tt, ite_ff, eq_self, and_true, true_and, and_self, implies_true, Bool.true_eq_false, Bool.false_eq_true, decide_true, decide_false, decide_eq_true_eq, decide_eq_false_iff_not, ne_eq, not_true_eq_false, not_false_eq_true, Bool.not_eq_true', Bool.not_eq_false', beq_self_eq_true, Bool.not_true, Bool.not_false, List.getElem?_toArray, List.getElem?_cons_zero, List.getElem?_cons_succ]
  refine aloop (fun d fr V => ∃ (k : Nat) (fp : List Nat) (w : Value) (ys : List ByteArray), d = k ∧ k ≤ n ∧ ys.length + k ≤ n ∧ Led B (osl 9 strO fp w ys :: rdr q sl (N + 1 + (n - k)) :: L) V ∧ fr 0 = .pointer (some ⟨q, 0, none⟩) ∧ fr 1 = .slice a xs.length c ∧ fr 5 = w ∧ fr 6 = .int .i64 k ∧ ∀ y, y ∈ ys → y ∈ xs) n ⟨n, _, _, [], rfl, by omega, by simp, by rw [Nat.sub_self]; exact l.perm (List.Perm.swap ..), by rfl, by rfl, by rfl, by rfl, by simp⟩ ?_
  clear l
  rintro k fr V ⟨_, fp, w, ys, rfl, hkn, hk, l, h0, h1, h5, h6, hy⟩
  simp (disch := omega) only [↓stq, amv_at, vls, inf, frs, mark_eq, ↓reduceIte, Nat.reduceEqDiff, ite_tt, ite_ff, eq_self, and_true, true_and, and_self, implies_true, Bool.true_eq_false, Bool.false_eq_true, decide_true, decide_false, decide_eq_true_eq, decide_eq_false_iff_not, ne_eq, not_true_eq_false, not_false_eq_true, Bool.not_eq_true', Bool.not_eq_false', beq_self_eq_true, Bool.not_true, Bool.not_false, List.getElem?_toArray, List.getElem?_cons_zero, List.getElem?_cons_succ, h0, h1, h5, h6]
  refine ⟨fun e => ?_, fun e => ?_⟩ <;> simp (disch := omega) only [↓stq, amv_at, vls, inf, frs, mark_eq, ↓reduceIte, Nat.reduceEqDiff, ite_tt, ite_ff, eq_self, and_true, true_and, and_self, implies_true, Bool.true_eq_false, Bool.false_eq_true, decide_true, decide_false, decide_eq_true_eq, decide_eq_false_iff_not, ne_eq, not_true_eq_false, not_false_eq_true, Bool.not_eq_true', Bool.not_eq_false', beq_self_eq_true, Bool.not_true, Bool.not_false, List.getElem?_toArray, List.getElem?_cons_zero, List.getElem?_cons_succ, h0, h1, h5, h6]
  · refine (pick_c B V (osl 9 strO fp w ys :: L) q sl (N + 1 + (n - k)) xs.length hb (by omega) ⟨by omega, by omega⟩ (l.perm (List.Perm.swap ..))).mono ?_
    rintro _ V ⟨i, rfl, hi0, hi1, l⟩
    obtain ⟨i, rfl⟩ := Int.eq_ofNat_of_zero_le hi0
    have hil : i < xs.length := by omega
    obtain ⟨ad, hq, kk, zk⟩ := (hx V l.tail.tail).str hil
    subst hq
    simp (disch := omega) only [↓stq, amv_at, vls, inf, frs, mark_eq, ↓reduceIte, Nat.reduceEqDiff, ite_tt, ite_ff, eq_self, and_true, true_and, and_self, implies_true, Bool.true_eq_false, Bool.false_eq_true, decide_true, decide_false, decide_eq_true_eq, decide_eq_false_iff_not, ne_eq, not_true_eq_false, not_false_eq_true, Bool.not_eq_true', Bool.not_eq_false', beq_self_eq_true, Bool.not_true, Bool.not_false, List.getElem?_toArray, List.getElem?_cons_zero, List.getElem?_cons_succ, h0, h1, h5, h6, kk]
    refine (addText_c B V (rdr q sl (N + 1 + (n - k) + 1) :: L) fp w ys xs[i] zk (by omega) (l.perm (List.Perm.swap ..))).mono ?_
    rintro r V ⟨fp2, l⟩
    simp (disch := omega) only [↓stq, amv_at, vls, inf, frs, mark_eq, ↓reduceIte, Nat.reduceEqDiff, ite_tt, ite_ff, eq_self, and_true, true_and, and_self, implies_true, Bool.true_eq_false, Bool.false_eq_true, decide_true, decide_false, decide_eq_true_eq, decide_eq_false_iff_not, ne_eq, not_true_eq_false, not_false_eq_true, Bool.not_eq_true', Bool.not_eq_false', beq_self_eq_true, Bool.not_true, Bool.not_false, List.getElem?_toArray, List.getElem?_cons_zero, List.getElem?_cons_succ, h0, h1, h5, h6]
    have hal : (addT ys xs[i]).length ≤ ys.length + 1 := by
      unfold addT
      split
      · omega
      · rw [List.length_append, List.length_singleton]; omega
    refine ⟨k - 1, by omega, k - 1, fp2, r, addT ys xs[i], rfl, by omega, by omega, ?_, rfl, by congr 1; omega, fun y hy2 => ?_⟩
    · rw [show n - (k - 1) = n - k + 1 by omega]
      exact l
    · unfold addT at hy2
      split at hy2
      · exact hy y hy2
      · rcases List.mem_append.1 hy2 with hy2 | hy2
        · exact hy y hy2
        · rw [List.mem_singleton.1 hy2]; exact List.getElem_mem hil
  · exact ⟨fp, ys, by omega, hy, (rdr_more (l.perm (List.Perm.swap ..)) (M := N + 4) (by omega)).perm (List.Perm.swap ..)⟩

end Go.Proofs.Ytbddklkfekiaeaa

