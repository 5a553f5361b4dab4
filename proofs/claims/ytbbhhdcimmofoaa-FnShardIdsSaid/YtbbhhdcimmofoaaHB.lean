/- Generators: ids, orders, causes. -/
import Derived.Test.YtbbhhdcimmofoaaZ3
import Derived.Test.YtbbhhdcimmofoaaQ6
set_option maxHeartbeats 4000000
set_option synthInstance.maxHeartbeats 400000
set_option synthInstance.maxSize 4096
set_option linter.unusedSimpArgs false
set_option linter.unusedVariables false
namespace Go.Proofs.Ytbbhhdcimmofoaa

set_option maxRecDepth 100000

theorem addT_len (xs : List ByteArray) (n : ByteArray) : (addT xs n).length ≤ xs.length + 1 := by
  unfold addT
  split
  · omega
  · rw [List.length_append, List.length_singleton]; omega
theorem addT_mem {xs : List ByteArray} {n y : ByteArray} (h : y ∈ addT xs n) : y ∈ xs ∨ y = n := by
  unfold addT at h
  split at h
  · exact .inl h
  · rcases List.mem_append.1 h with h | h
    · exact .inl h
    · exact .inr (List.mem_singleton.1 h)

theorem anId_c (B A : View) (L : List It) (q : Nat) (sl : Value) (N : Nat) (hb : Bts B sl) (hN : N ≤ 900000000) (l : Led B (rdr q sl N :: L) A) : ACalls Try.prog 88 #[.pointer (some ⟨q, 0, none⟩)] A fun r V => ∃ s : ByteArray, r = .string s ∧ s.size ≤ 300 ∧ Led B (rdr q sl (N + 2) :: L) V := by
  refine acalls Try.func88 rfl (by kernel_rfl) ?_
  simp (disch := omega) only [↓stq, amv_at, vls, inf, frs, mark_eq, ↓reduceIte, Nat.reduceEqDiff, ite_tt, ite_ff, eq_self, and_true, true_and, and_self, implies_true, Bool.true_eq_false, Bool.false_eq_true, decide_true, decide_false, decide_eq_true_eq, decide_eq_false_iff_not, ne_eq, not_true_eq_false, not_false_eq_true, Bool.not_eq_true', Bool.not_eq_false', beq_self_eq_true, Bool.not_true, Bool.not_false, List.getElem?_toArray, List.getElem?_cons_zero, List.getElem?_cons_succ]
  refine (aModule_c B A L q sl N hb (by omega) l).mono ?_
  rintro _ V ⟨s1, rfl, hz1, l⟩
  have hp : (s1 ++ (⟨#[46]⟩ : ByteArray)).size = s1.size + 1 := by rw [ByteArray.size_append]; rfl
  simp (disch := omega) only [↓stq, amv_at, vls, inf, frs, mark_eq, ↓reduceIte, Nat.reduceEqDiff, ite_tt, ite_ff, eq_self, and_true, true_and, and_self, implies_true, Bool.true_eq_false, Bool.false_eq_true, decide_true, decide_false, decide_eq_true_eq, decide_eq_false_iff_not, ne_eq, not_true_eq_false, not_false_eq_true, Bool.not_eq_true', Bool.not_eq_false', beq_self_eq_true, Bool.not_true, Bool.not_false, List.getElem?_toArray, List.getElem?_cons_zero, List.getElem?_cons_succ]
  rw [abin_cat _ _ _ (by show _ + 1 ≤ _; omega)]
  simp (disch := omega) only [↓stq, amv_at, vls, inf, frs, mark_eq, ↓reduceIte, Nat.reduceEqDiff, ite_tt, ite_ff, eq_self, and_true, true_and, and_self, implies_true, Bool.true_eq_false, Bool.false_eq_true, decide_true, decide_false, decide_eq_true_eq, decide_eq_false_iff_not, ne_eq, not_true_eq_false, not_false_eq_true, Bool.not_eq_true', Bool.not_eq_false', beq_self_eq_true, Bool.not_true, Bool.not_false, List.getElem?_toArray, List.getElem?_cons_zero, List.getElem?_cons_succ]
  refine led_lit li24 (by omega) rfl (by simp [Value.cells, Value.oneCell']) l fun bl V _ l => ?_
  simp (disch := omega) only [↓stq, amv_at, vls, inf, frs, mark_eq, ↓reduceIte, Nat.reduceEqDiff, ite_tt, ite_ff, eq_self, and_true, true_and, and_self, implies_true, Bool.true_eq_false, Bool.false_eq_true, decide_true, decide_false, decide_eq_true_eq, decide_eq_false_iff_not, ne_eq, not_true_eq_false, not_false_eq_true, Bool.not_eq_true', Bool.not_eq_false', beq_self_eq_true, Bool.not_true, Bool.not_false, List.getElem?_toArray, List.getElem?_cons_zero, List.getElem?_cons_succ]
  refine (ofLit_c (n := 5) (c := 5) (xs := [_, _, _, _, _]) B V L q sl _ hb (by omega) rfl rfl (by omega) (by decide) (by omega) (by omega) l).mono ?_
  rintro _ V ⟨s2, rfl, hs2, l⟩
  have hz2 : s2.size ≤ 100 := by revert s2; decide
  simp (disch := omega) only [↓stq, amv_at, vls, inf, frs, mark_eq, ↓reduceIte, Nat.reduceEqDiff, ite_tt, ite_ff, eq_self, and_true, true_and, and_self, implies_true, Bool.true_eq_false, Bool.false_eq_true, decide_true, decide_false, decide_eq_true_eq, decide_eq_false_iff_not, ne_eq, not_true_eq_false, not_false_eq_true, Bool.not_eq_true', Bool.not_eq_false', beq_self_eq_true, Bool.not_true, Bool.not_false, List.getElem?_toArray, List.getElem?_cons_zero, List.getElem?_cons_succ]
  exact ⟨_, rfl, by rw [ByteArray.size_append, hp]; omega, l⟩

theorem ofLit2_c {xs : List ByteArray} {n room c : Nat} {e : TypeId} {b : Nat} {cells : List Value} (B A : View) (L : List It) (q : Nat) (sl : Value) (N : Nat) (hb : Bts B sl) (hN : N ≤ 1000000000) (hcl : cells = xs.map Value.string) (hn : n = xs.length) (hc : n ≤ c) (hz : ∀ x, x ∈ xs → x.size ≤ 1000000) (h0 : 0 < n) (hl : n ≤ 1000) (l : Led B (bx b ⟨e, cells, room, true⟩ :: rdr q sl N :: L) A) : ACalls Try.prog 87 #[.pointer (some ⟨q, 0, none⟩), .slice (some ⟨b, 0, none⟩) n c] A fun r V => ∃ s : ByteArray, r = .string s ∧ s ∈ xs ∧ Led B (rdr q sl (N + 1) :: L) V := by
  subst hn; subst hcl
  have key : ∀ V, V b = some ⟨e, xs.map Value.string, room, true⟩ → Sl strS V (.slice (some ⟨b, 0, none⟩) xs.length c) xs := fun V hV => lit_sl hV hc (by omega) (elems_str _ fun x hx => by have := hz x hx; omega)
  refine (of_c B A (bx b ⟨e, xs.map Value.string, room, true⟩ :: L) q sl N _ xs hb hN (fun V l => key V (l.at (i := 1) rfl)) (key A (l.at (i := 0) rfl)) h0 (l.perm (List.Perm.swap ..))).mono ?_
  rintro _ V ⟨i, hi, rfl, l⟩
  exact ⟨_, rfl, List.getElem_mem hi, l.sub (.cons_cons _ (.cons _ (List.Sublist.refl _)))⟩

theorem someOrder_c (B A : View) (L : List It) (q : Nat) (sl : Value) (N : Nat) (hb : Bts B sl) (hN : N ≤ 800000000) (l : Led B (rdr q sl N :: L) A) : ACalls Try.prog 69 #[.pointer (some ⟨q, 0, none⟩)] A fun r V => ∃ fp ys, ys.length ≤ 9 ∧ (∀ y, y ∈ ys → y.size ≤ 300) ∧ Led B (osl 9 strO fp r ys :: rdr q sl (N + 50) :: L) V := by
  refine acalls Try.func69 rfl (by kernel_rfl) ?_
  simp (disch := omega) only [↓stq, amv_at, vls, inf, frs, mark_eq, ↓reduceIte, Nat.reduceEqDiff, ite_tt, ite_ff, eq_self, and_true, true_and, and_self, implies_true, Bool.true_eq_false, Bool.false_eq_true, decide_true, decide_false, decide_eq_true_eq, decide_eq_false_iff_not, ne_eq, not_true_eq_false, not_false_eq_true, Bool.not_eq_true', Bool.not_eq_false', beq_self_eq_true, Bool.not_true, Bool.not_false, List.getElem?_toArray, List.getElem?_cons_zero, List.getElem?_cons_succ]
  refine led_lit0 (O := strO) li24 l fun b V _ l => ?_
  simp (disch := omega) only [↓stq, amv_at, vls, inf, frs, mark_eq, ↓reduceIte, Nat.reduceEqDiff, ite_tt, ite_ff, eq_self, and_true, true_and, and_self, implies_true, Bool.true_eq_false, Bool.false_eq_true, decide_true, decide_false, decide_eq_true_eq, decide_eq_false_iff_not, ne_eq, not_true_eq_false, not_false_eq_true, Bool.not_eq_true', Bool.not_eq_false', beq_self_eq_true, Bool.not_true, Bool.not_false, List.getElem?_toArray, List.getElem?_cons_zero, List.getElem?_cons_succ]
  refine led_lit li61 (by omega) rfl (by simp [Value.cells, Value.oneCell']) l fun bl V _ l => ?_
  simp (disch := omega) only [↓stq, amv_at, vls, inf, frs, mark_eq, ↓reduceIte, Nat.reduceEqDiff, ite_tt, ite_ff, eq_self, and_true, true_and, and_self, implies_true, Bool.true_eq_false, Bool.false_eq_true, decide_true, decide_false, decide_eq_true_eq, decide_eq_false_iff_not, ne_eq, not_true_eq_false, not_false_eq_true, Bool.not_eq_true', Bool.not_eq_false', beq_self_eq_true, Bool.not_true, Bool.not_false, List.getElem?_toArray, List.getElem?_cons_zero, List.getElem?_cons_succ]
  refine (oneLit_c (n := 7) (c := 7) (xs := [_, _, _, _, _, _, _]) B V (osl 9 strO [b] _ [] :: L) q sl N hb (by omega) rfl rfl (by omega) (by decide) (by omega) (by omega) (l.perm ((List.Perm.swap ..).cons _))).mono ?_
  rintro _ V ⟨s, rfl, hs, l⟩
  have hs3 : 0 ≤ s ∧ s ≤ 8 := by revert s; decide
  obtain ⟨n, rfl⟩ := Int.eq_ofNat_of_zero_le hs3.1
  simp (disch := omega) only [↓stq, amv_at, vls, inf, frs, mark_eq, ↓reduceIte, Nat.reduceEqDiff, ite_tt, ite_ff, eq_self, and_true, true_and, and_self, implies_true, Bool.true_eq_false, Bool.false_eq_true, decide_true, decide_false, decide_eq_true_eq, decide_eq_false_iff_not, ne_eq, not_true_eq_false, not_false_eq_true, Bool.not_eq_true', Bool.not_eq_false', beq_self_eq_true, Bool.not_true, Bool.not_false, List.getElem?_toArray, List.getElem?_cons_zero, List.getElem?_cons_succ]
  refine aloop (fun d fr V => ∃ (k : Nat) (fp : List Nat) (w : Value) (ys : List ByteArray), d = k ∧ k ≤ n ∧ ys.length + k ≤ n ∧ Led B (osl 9 strO fp w ys :: rdr q sl (N + 1 + 2 * (n - k)) :: L) V ∧ fr 0 = .pointer (some ⟨q, 0, none⟩) ∧ fr 3 = w ∧ fr 4 = .int .i64 k ∧ ∀ y, y ∈ ys → y.size ≤ 300) n ⟨n, _, _, [], rfl, by omega, by simp, by rw [Nat.sub_self]; exact l.perm (List.Perm.swap ..), by rfl, by rfl, by rfl, by simp⟩ ?_
  clear l
  rintro k fr V ⟨_, fp, w, ys, rfl, hkn, hk, l, h0, h3, h4, hy⟩
  simp (disch := omega) only [↓stq, amv_at, vls, inf, frs, mark_eq, ↓reduceIte, Nat.reduceEqDiff, ite_tt, ite_ff, eq_self, and_true, true_and, and_self, implies_true, Bool.true_eq_false, Bool.false_eq_true, decide_true, decide_false, decide_eq_true_eq, decide_eq_false_iff_not, ne_eq, not_true_eq_false, not_false_eq_true, Bool.not_eq_true', Bool.not_eq_false', beq_self_eq_true, Bool.not_true, Bool.not_false, List.getElem?_toArray, List.getElem?_cons_zero, List.getElem?_cons_succ, h0, h3, h4]
  refine ⟨fun e => ?_, fun e => ?_⟩ <;> simp (disch := omega) only [↓stq, amv_at, vls, inf, frs, mark_eq, ↓reduceIte, Nat.reduceEqDiff, ite_tt, ite_ff, eq_self, and_true, true_and, and_self, implies_true, Bool.true_eq_false, Bool.false_eq_true, decide_true, decide_false, decide_eq_true_eq, decide_eq_false_iff_not, ne_eq, not_true_eq_false, not_false_eq_true, Bool.not_eq_true', Bool.not_eq_false', beq_self_eq_true, Bool.not_true, Bool.not_false, List.getElem?_toArray, List.getElem?_cons_zero, List.getElem?_cons_succ, h0, h3, h4]
  · refine (anId_c B V (osl 9 strO fp w ys :: L) q sl _ hb (by omega) (l.perm (List.Perm.swap ..))).mono ?_
    rintro _ V ⟨s, rfl, hz, l⟩
    simp (disch := omega) only [↓stq, amv_at, vls, inf, frs, mark_eq, ↓reduceIte, Nat.reduceEqDiff, ite_tt, ite_ff, eq_self, and_true, true_and, and_self, implies_true, Bool.true_eq_false, Bool.false_eq_true, decide_true, decide_false, decide_eq_true_eq, decide_eq_false_iff_not, ne_eq, not_true_eq_false, not_false_eq_true, Bool.not_eq_true', Bool.not_eq_false', beq_self_eq_true, Bool.not_true, Bool.not_false, List.getElem?_toArray, List.getElem?_cons_zero, List.getElem?_cons_succ, h0, h3, h4]
    refine (addText_c B V (rdr q sl _ :: L) fp w ys s (by omega) (by omega) (l.perm (List.Perm.swap ..))).mono ?_
    rintro r V ⟨fp2, l⟩
    simp (disch := omega) only [↓stq, amv_at, vls, inf, frs, mark_eq, ↓reduceIte, Nat.reduceEqDiff, ite_tt, ite_ff, eq_self, and_true, true_and, and_self, implies_true, Bool.true_eq_false, Bool.false_eq_true, decide_true, decide_false, decide_eq_true_eq, decide_eq_false_iff_not, ne_eq, not_true_eq_false, not_false_eq_true, Bool.not_eq_true', Bool.not_eq_false', beq_self_eq_true, Bool.not_true, Bool.not_false, List.getElem?_toArray, List.getElem?_cons_zero, List.getElem?_cons_succ, h0, h3, h4]
    have hal := addT_len ys s
    refine ⟨k - 1, by omega, k - 1, fp2, r, addT ys s, rfl, by omega, by omega, (rdr_more (l.perm (List.Perm.swap ..)) (M := N + 1 + 2 * (n - (k - 1))) (by omega)).perm (List.Perm.swap ..), rfl, by congr 1; omega, fun y hy2 => ?_⟩
    rcases addT_mem hy2 with h | rfl
    · exact hy y h
    · exact hz
  · obtain ⟨aw, cw, rfl, _, _⟩ := (OSl.toS (show OSl 9 strO V fp w ys from l.at (i := 0) rfl)).slice
    simp (disch := omega) only [↓stq, amv_at, vls, inf, frs, mark_eq, ↓reduceIte, Nat.reduceEqDiff, ite_tt, ite_ff, eq_self, and_true, true_and, and_self, implies_true, Bool.true_eq_false, Bool.false_eq_true, decide_true, decide_false, decide_eq_true_eq, decide_eq_false_iff_not, ne_eq, not_true_eq_false, not_false_eq_true, Bool.not_eq_true', Bool.not_eq_false', beq_self_eq_true, Bool.not_true, Bool.not_false, List.getElem?_toArray, List.getElem?_cons_zero, List.getElem?_cons_succ, h0, h3, h4]
    have fin : ∀ V, Led B (rdr q sl (N + 1 + 2 * (n - k) + 1) :: osl 9 strO fp (.slice aw ys.length cw) ys :: L) V → ∃ fp2 ys2, ys2.length ≤ 9 ∧ (∀ y, y ∈ ys2 → y.size ≤ 300) ∧ Led B (osl 9 strO fp2 (.slice aw ys.length cw) ys2 :: rdr q sl (N + 50) :: L) V := fun V l => ⟨fp, ys, by omega, hy, (rdr_more l (M := N + 50) (by omega)).perm (List.Perm.swap ..)⟩
    refine ⟨fun e1 => ?_, fun e1 => ?_⟩ <;> simp (disch := omega) only [↓stq, amv_at, vls, inf, frs, mark_eq, ↓reduceIte, Nat.reduceEqDiff, ite_tt, ite_ff, eq_self, and_true, true_and, and_self, implies_true, Bool.true_eq_false, Bool.false_eq_true, decide_true, decide_false, decide_eq_true_eq, decide_eq_false_iff_not, ne_eq, not_true_eq_false, not_false_eq_true, Bool.not_eq_true', Bool.not_eq_false', beq_self_eq_true, Bool.not_true, Bool.not_false, List.getElem?_toArray, List.getElem?_cons_zero, List.getElem?_cons_succ, h0, h3, h4, e1]
    · refine (pick_c B V _ q sl _ 20 hb (by omega) ⟨by omega, by omega⟩ (l.perm (List.Perm.swap ..))).mono ?_
      rintro _ V ⟨u, rfl, _, _, l⟩
      simp (disch := omega) only [↓stq, amv_at, vls, inf, frs, mark_eq, ↓reduceIte, Nat.reduceEqDiff, ite_tt, ite_ff, eq_self, and_true, true_and, and_self, implies_true, Bool.true_eq_false, Bool.false_eq_true, decide_true, decide_false, decide_eq_true_eq, decide_eq_false_iff_not, ne_eq, not_true_eq_false, not_false_eq_true, Bool.not_eq_true', Bool.not_eq_false', beq_self_eq_true, Bool.not_true, Bool.not_false, List.getElem?_toArray, List.getElem?_cons_zero, List.getElem?_cons_succ, h0, h3, h4, e1]
      refine ⟨fun e2 => ?_, fun e2 => ?_⟩ <;> simp (disch := omega) only [↓stq, amv_at, vls, inf, frs, mark_eq, ↓reduceIte, Nat.reduceEqDiff, ite_tt, ite_ff, eq_self, and_true, true_and, and_self, implies_true, Bool.true_eq_false, Bool.false_eq_true, decide_true, decide_false, decide_eq_true_eq, decide_eq_false_iff_not, ne_eq, not_true_eq_false, not_false_eq_true, Bool.not_eq_true', Bool.not_eq_false', beq_self_eq_true, Bool.not_true, Bool.not_false, List.getElem?_toArray, List.getElem?_cons_zero, List.getElem?_cons_succ, h0, h3, h4]
      · obtain ⟨ad, rfl, kk, zk⟩ := (OSl.toS (show OSl 9 strO V fp _ ys from l.at (i := 1) rfl)).str (i := 0) (by omega)
        have hz0 := hy _ (List.getElem_mem (show 0 < ys.length by omega))
        simp (disch := omega) only [↓stq, amv_at, vls, inf, frs, mark_eq, ↓reduceIte, Nat.reduceEqDiff, ite_tt, ite_ff, eq_self, and_true, true_and, and_self, implies_true, Bool.true_eq_false, Bool.false_eq_true, decide_true, decide_false, decide_eq_true_eq, decide_eq_false_iff_not, ne_eq, not_true_eq_false, not_false_eq_true, Bool.not_eq_true', Bool.not_eq_false', beq_self_eq_true, Bool.not_true, Bool.not_false, List.getElem?_toArray, List.getElem?_cons_zero, List.getElem?_cons_succ, h0, h3, h4, kk, Int.toNat_zero]
        refine led_lit li24 (by omega) rfl (by simp [Value.cells, Value.oneCell']) l fun bl V _ l => ?_
        simp (disch := omega) only [↓stq, amv_at, vls, inf, frs, mark_eq, ↓reduceIte, Nat.reduceEqDiff, ite_tt, ite_ff, eq_self, and_true, true_and, and_self, implies_true, Bool.true_eq_false, Bool.false_eq_true, decide_true, decide_false, decide_eq_true_eq, decide_eq_false_iff_not, ne_eq, not_true_eq_false, not_false_eq_true, Bool.not_eq_true', Bool.not_eq_false', beq_self_eq_true, Bool.not_true, Bool.not_false, List.getElem?_toArray, List.getElem?_cons_zero, List.getElem?_cons_succ, h0, h3, h4]
        refine (ofLit2_c (n := 3) (c := 3) (xs := [_, _, _]) B V (osl 9 strO fp _ ys :: L) q sl _ hb (by omega) rfl rfl (by omega) (fun x hx => ?_) (by omega) (by omega) l).mono ?_
        · simp only [List.mem_cons, List.not_mem_nil, or_false] at hx
          rcases hx with rfl | rfl | rfl
          · omega
          · decide
          · decide
        rintro _ V ⟨s, rfl, hs, l⟩
        have hsz : s.size ≤ 300 := by
          simp only [List.mem_cons, List.not_mem_nil, or_false] at hs
          rcases hs with rfl | rfl | rfl
          · omega
          · decide
          · decide
        simp (disch := omega) only [↓stq, amv_at, vls, inf, frs, mark_eq, ↓reduceIte, Nat.reduceEqDiff, ite_tt, ite_ff, eq_self, and_true, true_and, and_self, implies_true, Bool.true_eq_false, Bool.false_eq_true, decide_true, decide_false, decide_eq_true_eq, decide_eq_false_iff_not, ne_eq, not_true_eq_false, not_false_eq_true, Bool.not_eq_true', Bool.not_eq_false', beq_self_eq_true, Bool.not_true, Bool.not_false, List.getElem?_toArray, List.getElem?_cons_zero, List.getElem?_cons_succ, h0, h3, h4]
        refine led_lit li24 (by omega) rfl (fun p hp => by rcases List.mem_singleton.1 hp with rfl; exact ⟨rfl, rfl⟩) l fun bl V3 _ l => ?_
        simp (disch := omega) only [↓stq, amv_at, vls, inf, frs, mark_eq, ↓reduceIte, Nat.reduceEqDiff, ite_tt, ite_ff, eq_self, and_true, true_and, and_self, implies_true, Bool.true_eq_false, Bool.false_eq_true, decide_true, decide_false, decide_eq_true_eq, decide_eq_false_iff_not, ne_eq, not_true_eq_false, not_false_eq_true, Bool.not_eq_true', Bool.not_eq_false', beq_self_eq_true, Bool.not_true, Bool.not_false, List.getElem?_toArray, List.getElem?_cons_zero, List.getElem?_cons_succ, h0, h3, h4]
        refine led_app (O := strO) ap24_24 (by decide) l (i := 2) rfl (l.src1 (S := strS) (j := 0) rfl ⟨rfl, by omega⟩) (by rw [List.length_singleton]; omega) fun fp2 w2 V4 _ l => ?_
        simp (disch := omega) only [↓stq, amv_at, vls, inf, frs, mark_eq, ↓reduceIte, Nat.reduceEqDiff, ite_tt, ite_ff, eq_self, and_true, true_and, and_self, implies_true, Bool.true_eq_false, Bool.false_eq_true, decide_true, decide_false, decide_eq_true_eq, decide_eq_false_iff_not, ne_eq, not_true_eq_false, not_false_eq_true, Bool.not_eq_true', Bool.not_eq_false', beq_self_eq_true, Bool.not_true, Bool.not_false, List.getElem?_toArray, List.getElem?_cons_zero, List.getElem?_cons_succ, h0, h3, h4]
        refine ⟨fp2, ys ++ [s], by rw [List.length_append, List.length_singleton]; omega, fun y hy2 => ?_, (rdr_more (show Led B (rdr q sl _ :: osl 9 strO fp2 w2 (ys ++ [s]) :: L) V4 from l.tail) (M := N + 50) (by omega)).perm (List.Perm.swap ..)⟩
        rcases List.mem_append.1 hy2 with hy2 | hy2
        · exact hy y hy2
        · rw [List.mem_singleton.1 hy2]; exact hsz
      · exact fin V l
    · exact fin V (rdr_more (l.perm (List.Perm.swap ..)) (by omega))

end Go.Proofs.Ytbbhhdcimmofoaa

