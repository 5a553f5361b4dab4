/- Generators: marks, needs. -/
import Derived.Test.YtbbhhdcimmofoaaZ1
import Derived.Test.YtbbhhdcimmofoaaQ1
set_option maxHeartbeats 4000000
set_option synthInstance.maxHeartbeats 400000
set_option synthInstance.maxSize 4096
set_option linter.unusedSimpArgs false
set_option linter.unusedVariables false
namespace Go.Proofs.Ytbbhhdcimmofoaa

set_option maxRecDepth 100000

theorem newReader_c (B A : View) (v : Value) (bs : List UInt8) (h : Sl byteS B v bs) : ACalls Try.prog 40 #[v] A fun r V => ∃ q sl, r = .pointer (some ⟨q, 0, none⟩) ∧ Bts B sl ∧ Led A [rdr q sl 0] V := by
  obtain ⟨a, c, rfl, hc, hl⟩ := h.slice
  refine acalls Try.func40 rfl (by kernel_rfl) ?_
  simp (disch := omega) only [↓stq, amv_at, vls, inf, frs, mark_eq, ↓reduceIte, Nat.reduceEqDiff, ite_tt, ite_ff, eq_self, and_true, true_and, and_self, implies_true, Bool.true_eq_false, Bool.false_eq_true, decide_true, decide_false, decide_eq_true_eq, decide_eq_false_iff_not, ne_eq, not_true_eq_false, not_false_eq_true, Bool.not_eq_true', Bool.not_eq_false', beq_self_eq_true, Bool.not_true, Bool.not_false, List.getElem?_toArray, List.getElem?_cons_zero, List.getElem?_cons_succ]
  refine ⟨fun e => ?_, fun e => ?_⟩ <;> simp (disch := omega) only [↓stq, amv_at, vls, inf, frs, mark_eq, ↓reduceIte, Nat.reduceEqDiff, ite_tt, ite_ff, eq_self, and_true, true_and, and_self, implies_true, Bool.true_eq_false, Bool.false_eq_true, decide_true, decide_false, decide_eq_true_eq, decide_eq_false_iff_not, ne_eq, not_true_eq_false, not_false_eq_true, Bool.not_eq_true', Bool.not_eq_false', beq_self_eq_true, Bool.not_true, Bool.not_false, List.getElem?_toArray, List.getElem?_cons_zero, List.getElem?_cons_succ]
  · refine led_box (Led.nil A) rfl fun q V he l => ?_
    simp (disch := omega) only [↓stq, amv_at, vls, inf, frs, mark_eq, ↓reduceIte, Nat.reduceEqDiff, ite_tt, ite_ff, eq_self, and_true, true_and, and_self, implies_true, Bool.true_eq_false, Bool.false_eq_true, decide_true, decide_false, decide_eq_true_eq, decide_eq_false_iff_not, ne_eq, not_true_eq_false, not_false_eq_true, Bool.not_eq_true', Bool.not_eq_false', beq_self_eq_true, Bool.not_true, Bool.not_false, List.getElem?_toArray, List.getElem?_cons_zero, List.getElem?_cons_succ]
    exact ⟨q, _, rfl, ⟨_, _, _, bs.take 2000, rfl, by rw [List.length_take]; omega, by rw [List.length_take]; omega, h.take (k := 2000) (by omega) 1⟩, l.upd (i := 0) (jt := rdr q _ 0) rfl rfl (Only.refl _ _) ⟨0, by omega, by omega, l.at (i := 0) rfl⟩⟩
  · refine led_box (Led.nil A) rfl fun q V he l => ?_
    simp (disch := omega) only [↓stq, amv_at, vls, inf, frs, mark_eq, ↓reduceIte, Nat.reduceEqDiff, ite_tt, ite_ff, eq_self, and_true, true_and, and_self, implies_true, Bool.true_eq_false, Bool.false_eq_true, decide_true, decide_false, decide_eq_true_eq, decide_eq_false_iff_not, ne_eq, not_true_eq_false, not_false_eq_true, Bool.not_eq_true', Bool.not_eq_false', beq_self_eq_true, Bool.not_true, Bool.not_false, List.getElem?_toArray, List.getElem?_cons_zero, List.getElem?_cons_succ]
    exact ⟨q, _, rfl, ⟨_, _, _, bs, rfl, rfl, by omega, h⟩, l.upd (i := 0) (jt := rdr q _ 0) rfl rfl (Only.refl _ _) ⟨0, by omega, by omega, l.at (i := 0) rfl⟩⟩

/-- A literal, read. -/
theorem lit_sl {α : Type} {S : Shape α} {V : View} {b : Nat} {e : TypeId} {xs : List α} {cells : List Value} {room : Nat} {c : Nat} (hb : V b = some ⟨e, cells, room, true⟩) (hc : xs.length ≤ c) (hl : xs.length ≤ 140737488355328) (hx : Elems S V xs cells) : Sl S V (.slice (some ⟨b, 0, none⟩) xs.length c) xs := by
  refine ⟨hl, _, c, rfl, hc, fun _ => ⟨_, cells, rfl, ?_, hx⟩⟩
  rw [part_at hb (by simp [hx.len]) (fun v hv => hx.one v (List.mem_of_mem_drop (List.mem_of_mem_take hv)))]
  simp [List.take_of_length_le, hx.len]

theorem ofLit_c {xs : List ByteArray} {n room c : Nat} {e : TypeId} {b : Nat} {cells : List Value} (B A : View) (L : List It) (q : Nat) (sl : Value) (N : Nat) (hb : Bts B sl) (hN : N ≤ 1000000000) (hcl : cells = xs.map Value.string) (hn : n = xs.length) (hc : n ≤ c) (hz : ∀ x, x ∈ xs → x.size ≤ 100) (h0 : 0 < n) (hl : n ≤ 1000) (l : Led B (bx b ⟨e, cells, room, true⟩ :: rdr q sl N :: L) A) : ACalls Try.prog 87 #[.pointer (some ⟨q, 0, none⟩), .slice (some ⟨b, 0, none⟩) n c] A fun r V => ∃ s : ByteArray, r = .string s ∧ s ∈ xs ∧ Led B (rdr q sl (N + 1) :: L) V := by
  subst hn; subst hcl
  have key : ∀ V, V b = some ⟨e, xs.map Value.string, room, true⟩ → Sl strS V (.slice (some ⟨b, 0, none⟩) xs.length c) xs := fun V hV => lit_sl hV hc (by omega) (elems_str _ fun x hx => by have := hz x hx; omega)
  refine (of_c B A (bx b ⟨e, xs.map Value.string, room, true⟩ :: L) q sl N _ xs hb hN (fun V l => key V (l.at (i := 1) rfl)) (key A (l.at (i := 0) rfl)) h0 (l.perm (List.Perm.swap ..))).mono ?_
  rintro _ V ⟨i, hi, rfl, l⟩
  exact ⟨_, rfl, List.getElem_mem hi, l.sub (.cons_cons _ (.cons _ (List.Sublist.refl _)))⟩
theorem oneLit_c {xs : List Int} {n room c : Nat} {e : TypeId} {b : Nat} {cells : List Value} (B A : View) (L : List It) (q : Nat) (sl : Value) (N : Nat) (hb : Bts B sl) (hN : N ≤ 1000000000) (hcl : cells = xs.map (Value.int .i64)) (hn : n = xs.length) (hc : n ≤ c) (hz : ∀ x, x ∈ xs → -9223372036854775808 ≤ x ∧ x < 9223372036854775808) (h0 : 0 < n) (hl : n ≤ 1000) (l : Led B (bx b ⟨e, cells, room, true⟩ :: rdr q sl N :: L) A) : ACalls Try.prog 65 #[.pointer (some ⟨q, 0, none⟩), .slice (some ⟨b, 0, none⟩) n c] A fun r V => ∃ s : Int, r = .int .i64 s ∧ s ∈ xs ∧ Led B (rdr q sl (N + 1) :: L) V := by
  subst hn; subst hcl
  have key : ∀ V, V b = some ⟨e, xs.map (Value.int .i64), room, true⟩ → Sl intS V (.slice (some ⟨b, 0, none⟩) xs.length c) xs := fun V hV => lit_sl hV hc (by omega) (elems_int _ hz)
  refine (one_c B A (bx b ⟨e, xs.map (Value.int .i64), room, true⟩ :: L) q sl N _ xs hb hN (fun V l => key V (l.at (i := 1) rfl)) (key A (l.at (i := 0) rfl)) h0 (l.perm (List.Perm.swap ..))).mono ?_
  rintro _ V ⟨i, hi, rfl, l⟩
  exact ⟨_, rfl, List.getElem_mem hi, l.sub (.cons_cons _ (.cons _ (List.Sublist.refl _)))⟩

theorem aModule_c (B A : View) (L : List It) (q : Nat) (sl : Value) (N : Nat) (hb : Bts B sl) (hN : N ≤ 1000000000) (l : Led B (rdr q sl N :: L) A) : ACalls Try.prog 98 #[.pointer (some ⟨q, 0, none⟩)] A fun r V => ∃ s : ByteArray, r = .string s ∧ s.size ≤ 100 ∧ Led B (rdr q sl (N + 1) :: L) V := by
  refine acalls Try.func98 rfl (by kernel_rfl) ?_
  simp (disch := omega) only [↓stq, amv_at, vls, inf, frs, mark_eq, ↓reduceIte, Nat.reduceEqDiff, ite_tt, ite_ff, eq_self, and_true, true_and, and_self, implies_true, Bool.true_eq_false, Bool.false_eq_true, decide_true, decide_false, decide_eq_true_eq, decide_eq_false_iff_not, ne_eq, not_true_eq_false, not_false_eq_true, Bool.not_eq_true', Bool.not_eq_false', beq_self_eq_true, Bool.not_true, Bool.not_false, List.getElem?_toArray, List.getElem?_cons_zero, List.getElem?_cons_succ]
  refine led_lit li24 (by omega) rfl (by simp [Value.cells, Value.oneCell']) l fun bl V _ l => ?_
  simp (disch := omega) only [↓stq, amv_at, vls, inf, frs, mark_eq, ↓reduceIte, Nat.reduceEqDiff, ite_tt, ite_ff, eq_self, and_true, true_and, and_self, implies_true, Bool.true_eq_false, Bool.false_eq_true, decide_true, decide_false, decide_eq_true_eq, decide_eq_false_iff_not, ne_eq, not_true_eq_false, not_false_eq_true, Bool.not_eq_true', Bool.not_eq_false', beq_self_eq_true, Bool.not_true, Bool.not_false, List.getElem?_toArray, List.getElem?_cons_zero, List.getElem?_cons_succ]
  refine (ofLit_c (n := 4) (c := 4) (xs := [_, _, _, _]) B V L q sl N hb hN rfl rfl (by omega) (by decide) (by omega) (by omega) l).mono ?_
  rintro _ V ⟨s, rfl, hs, l⟩
  simp (disch := omega) only [↓stq, amv_at, vls, inf, frs, mark_eq, ↓reduceIte, Nat.reduceEqDiff, ite_tt, ite_ff, eq_self, and_true, true_and, and_self, implies_true, Bool.true_eq_false, Bool.false_eq_true, decide_true, decide_false, decide_eq_true_eq, decide_eq_false_iff_not, ne_eq, not_true_eq_false, not_false_eq_true, Bool.not_eq_true', Bool.not_eq_false', beq_self_eq_true, Bool.not_true, Bool.not_false, List.getElem?_toArray, List.getElem?_cons_zero, List.getElem?_cons_succ]
  exact ⟨s, rfl, by revert s; decide, l⟩

def addT (xs : List ByteArray) (n : ByteArray) : List ByteArray := if n ∈ xs then xs else xs ++ [n]
theorem addText_c (B A : View) (L : List It) (fp : List Nat) (w : Value) (xs : List ByteArray) (n : ByteArray) (hz : n.size ≤ 140737488355328) (hl : xs.length ≤ 16777215) (l : Led B (osl 9 strO fp w xs :: L) A) : ACalls Try.prog 70 #[w, .string n] A fun r V => ∃ fp', Led B (osl 9 strO fp' r (addT xs n) :: L) V := by
  have hS : Sl strS A w xs := OSl.toS (show OSl 9 strO A fp w xs from l.at (i := 0) rfl)
  obtain ⟨a, c, rfl, _, _⟩ := hS.slice
  refine acalls Try.func70 rfl (by kernel_rfl) ?_
  simp (disch := omega) only [↓stq, amv_at, vls, inf, frs, mark_eq, ↓reduceIte, Nat.reduceEqDiff, ite_tt, ite_ff, eq_self, and_true, true_and, and_self, implies_true, Bool.true_eq_false, Bool.false_eq_true, decide_true, decide_false, decide_eq_true_eq, decide_eq_false_iff_not, ne_eq, not_true_eq_false, not_false_eq_true, Bool.not_eq_true', Bool.not_eq_false', beq_self_eq_true, Bool.not_true, Bool.not_false, List.getElem?_toArray, List.getElem?_cons_zero, List.getElem?_cons_succ]
  refine (spec_hasText_c A _ xs n hS).mono ?_
  rintro _ A ⟨rfl, rfl⟩
  simp (disch := omega) only [↓stq, amv_at, vls, inf, frs, mark_eq, ↓reduceIte, Nat.reduceEqDiff, ite_tt, ite_ff, eq_self, and_true, true_and, and_self, implies_true, Bool.true_eq_false, Bool.false_eq_true, decide_true, decide_false, decide_eq_true_eq, decide_eq_false_iff_not, ne_eq, not_true_eq_false, not_false_eq_true, Bool.not_eq_true', Bool.not_eq_false', beq_self_eq_true, Bool.not_true, Bool.not_false, List.getElem?_toArray, List.getElem?_cons_zero, List.getElem?_cons_succ]
  refine ⟨fun e => ?_, fun e => ?_⟩ <;> simp (disch := omega) only [↓stq, amv_at, vls, inf, frs, mark_eq, ↓reduceIte, Nat.reduceEqDiff, ite_tt, ite_ff, eq_self, and_true, true_and, and_self, implies_true, Bool.true_eq_false, Bool.false_eq_true, decide_true, decide_false, decide_eq_true_eq, decide_eq_false_iff_not, ne_eq, not_true_eq_false, not_false_eq_true, Bool.not_eq_true', Bool.not_eq_false', beq_self_eq_true, Bool.not_true, Bool.not_false, List.getElem?_toArray, List.getElem?_cons_zero, List.getElem?_cons_succ]
  · rw [addT, if_pos e]
    exact ⟨fp, l⟩
  · rw [addT, if_neg e]
    refine led_lit li24 (by omega) rfl (fun p hp => by rcases List.mem_singleton.1 hp with rfl; exact ⟨rfl, rfl⟩) l fun bl V3 _ l => ?_
    simp (disch := omega) only [↓stq, amv_at, vls, inf, frs, mark_eq, ↓reduceIte, Nat.reduceEqDiff, ite_tt, ite_ff, eq_self, and_true, true_and, and_self, implies_true, Bool.true_eq_false, Bool.false_eq_true, decide_true, decide_false, decide_eq_true_eq, decide_eq_false_iff_not, ne_eq, not_true_eq_false, not_false_eq_true, Bool.not_eq_true', Bool.not_eq_false', beq_self_eq_true, Bool.not_true, Bool.not_false, List.getElem?_toArray, List.getElem?_cons_zero, List.getElem?_cons_succ]
    refine led_app (O := strO) ap24_24 (by decide) l (i := 1) rfl (l.src1 (S := strS) (j := 0) rfl ⟨rfl, hz⟩) (by rw [List.length_singleton]; omega) fun fp2 w2 V4 _ l => ?_
    simp (disch := omega) only [↓stq, amv_at, vls, inf, frs, mark_eq, ↓reduceIte, Nat.reduceEqDiff, ite_tt, ite_ff, eq_self, and_true, true_and, and_self, implies_true, Bool.true_eq_false, Bool.false_eq_true, decide_true, decide_false, decide_eq_true_eq, decide_eq_false_iff_not, ne_eq, not_true_eq_false, not_false_eq_true, Bool.not_eq_true', Bool.not_eq_false', beq_self_eq_true, Bool.not_true, Bool.not_false, List.getElem?_toArray, List.getElem?_cons_zero, List.getElem?_cons_succ]
    exact ⟨fp2, l.tail⟩

end Go.Proofs.Ytbbhhdcimmofoaa

