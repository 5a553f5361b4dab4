/- The reader of the generators. -/
import Derived.Test.YtbddklkfekiaeaaZ0
set_option maxHeartbeats 4000000
set_option synthInstance.maxHeartbeats 400000
set_option synthInstance.maxSize 4096
set_option linter.unusedSimpArgs false
set_option linter.unusedVariables false
namespace Go.Proofs.Ytbddklkfekiaeaa

set_option maxRecDepth 100000

/-- The reader: its bytes, and a place up to a bound. -/
def rdr (q : Nat) (sl : Value) (N : Nat) : It := ⟨[q], fun V => ∃ p : Int, 0 ≤ p ∧ p ≤ N ∧ V q = some ⟨86, [sl, .int .i64 p], 2, true⟩, fun ⟨p, h1, h2, h3⟩ hs => ⟨p, h1, h2, hs q _ (List.mem_singleton.2 rfl) h3⟩, fun ⟨p, h1, h2, h3⟩ b hb => by rw [List.mem_singleton.1 hb]; exact ⟨_, h3⟩⟩
theorem rdr_more {A V : View} {L : List It} {q : Nat} {sl : Value} {N M : Nat} (h : Led A (rdr q sl N :: L) V) (hm : N ≤ M) : Led A (rdr q sl M :: L) V := by
  obtain ⟨p, h1, h2, h3⟩ := (show (rdr q sl N).φ V from h.at (i := 0) rfl)
  exact h.upd (i := 0) rfl rfl (Only.refl _ _) (show (rdr q sl M).φ V from ⟨p, h1, by omega, h3⟩)
/-- The bytes that are read. -/
def Bts (B : View) (sl : Value) : Prop := ∃ a n c bs, sl = .slice a n c ∧ n = bs.length ∧ bs.length ≤ 2000 ∧ Sl byteS B sl bs
theorem Bts.mono {A B : View} {sl : Value} (h : Bts A sl) (he : Ext A B) : Bts B sl := let ⟨a, n, c, bs, h1, h2, h3, h4⟩ := h; ⟨a, n, c, bs, h1, h2, h3, h4.mono he⟩

theorem Sl.byt {A : View} {a : Option Addr} {n c : Nat} {bs : List UInt8} (h : Sl byteS A (.slice a n c) bs) {i : Nat} (hi : i < bs.length) : ∃ ad : Addr, a = some ad ∧ A.cell (ad.add i) = some (.int .u8 (bs[i]).toNat) := by
  obtain ⟨ad, d, rfl, hd, _, hc⟩ := h.at hi
  have hd : d = [.int .u8 (bs[i]).toNat] := hd
  subst hd
  have := hc 0 _ rfl
  refine ⟨ad, rfl, ?_⟩
  simpa [add_at, byteS, Addr.add] using this

theorem cv_u8 {A : View} {K : Value → View → Prop} (n : Int) : aconv Try.prog 5 3 (.int .u8 n) A K = K (.int .i64 (IntKind.i64.wrap n)) A := aconv_int (s := .u8) (by kernel_rfl) (by kernel_rfl) .u8 n
theorem tmod_cast (a b : Nat) : (a : Int).tmod b = ((a % b : Nat) : Int) := Eq.trans rfl rfl
theorem tmod_cast2 (a b : Nat) : ((a : Int) * 7 + 3).tmod b = (((a * 7 + 3) % b : Nat) : Int) := by
  rw [show (a : Int) * 7 + 3 = ((a * 7 + 3 : Nat) : Int) by omega]; rfl
theorem tdiv_cast (a b : Nat) : (a : Int).tdiv b = ((a / b : Nat) : Int) := Eq.trans rfl rfl

theorem pick_c (B A : View) (L : List It) (q : Nat) (sl : Value) (N : Nat) (m : Int) (hb : Bts B sl) (hN : N ≤ 1000000000) (hm : -9223372036854775808 ≤ m ∧ m < 9223372036854775808) (l : Led B (rdr q sl N :: L) A) : ACalls Try.prog 67 #[.pointer (some ⟨q, 0, none⟩), .int .i64 m] A fun r V => ∃ v : Int, r = .int .i64 v ∧ 0 ≤ v ∧ (v < m ∨ v = 0) ∧ Led B (rdr q sl (N + 1) :: L) V := by
  obtain ⟨a, _, c, bs, rfl, rfl, hbl, hb⟩ := hb
  obtain ⟨p, hp0, hpN, hq⟩ := (show (rdr q _ N).φ A from l.at (i := 0) rfl)
  obtain ⟨k, rfl⟩ := Int.eq_ofNat_of_zero_le hp0
  replace l := l.upd (i := 0) (jt := bx q ⟨86, [.slice a bs.length c, .int .i64 k], 2, true⟩) rfl rfl (Only.refl _ _) hq
  refine acalls Try.func67 rfl (by kernel_rfl) ?_
  simp (disch := omega) only [↓stq, amv_at, vls, inf, frs, mark_eq, ↓reduceIte, Nat.reduceEqDiff, ite_tt, ite_ff, eq_self, and_true, true_and, and_self, implies_true, Bool.true_eq_false, Bool.false_eq_true, decide_true, decide_false, decide_eq_true_eq, decide_eq_false_iff_not, ne_eq, not_true_eq_false, not_false_eq_true, Bool.not_eq_true', Bool.not_eq_false', beq_self_eq_true, Bool.not_true, Bool.not_false, List.getElem?_toArray, List.getElem?_cons_zero, List.getElem?_cons_succ]
  have r1 := l.cell (i := 0) rfl (o := 1) rfl rfl
  simp (disch := omega) only [↓stq, amv_at, vls, inf, frs, mark_eq, ↓reduceIte, Nat.reduceEqDiff, ite_tt, ite_ff, eq_self, and_true, true_and, and_self, implies_true, Bool.true_eq_false, Bool.false_eq_true, decide_true, decide_false, decide_eq_true_eq, decide_eq_false_iff_not, ne_eq, not_true_eq_false, not_false_eq_true, Bool.not_eq_true', Bool.not_eq_false', beq_self_eq_true, Bool.not_true, Bool.not_false, List.getElem?_toArray, List.getElem?_cons_zero, List.getElem?_cons_succ, ↓aop_nilV, anilV_ptr, add_at, r1]
  refine led_store l 0 rfl sz3 (by rfl) (by rfl) (by rfl) fun V l => ?_
  have l2 : Led B (bx q ⟨86, [.slice a bs.length c, .int .i64 ((k : Int) + 1)], 2, true⟩ :: L) V := l
  have r0 := l2.cell (i := 0) rfl (o := 0) rfl rfl
  have r1 := l2.cell (i := 0) rfl (o := 1) rfl rfl
  have lf := l2.upd (i := 0) (jt := rdr q (.slice a bs.length c) (N + 1)) rfl rfl (Only.refl _ _) ⟨(k : Int) + 1, by omega, by omega, l2.at (i := 0) rfl⟩
  simp (disch := omega) only [↓stq, amv_at, vls, inf, frs, mark_eq, ↓reduceIte, Nat.reduceEqDiff, ite_tt, ite_ff, eq_self, and_true, true_and, and_self, implies_true, Bool.true_eq_false, Bool.false_eq_true, decide_true, decide_false, decide_eq_true_eq, decide_eq_false_iff_not, ne_eq, not_true_eq_false, not_false_eq_true, Bool.not_eq_true', Bool.not_eq_false', beq_self_eq_true, Bool.not_true, Bool.not_false, List.getElem?_toArray, List.getElem?_cons_zero, List.getElem?_cons_succ, ↓aop_nilV, anilV_ptr, add_at, r0, r1]
  have fin : ∀ x : Int, 0 ≤ x → 1 ≤ m → ∃ v : Int, Value.int .i64 (x.tmod m) = .int .i64 v ∧ 0 ≤ v ∧ (v < m ∨ v = 0) ∧ Led B (rdr q (.slice a bs.length c) (N + 1) :: L) V := fun x hx hm1 => ⟨_, rfl, Int.tmod_nonneg _ hx, .inl (Int.tmod_lt_of_pos _ (by omega)), lf⟩
  refine ⟨fun e1 => ?_, fun e1 => ?_⟩ <;> simp (disch := omega) only [↓stq, amv_at, vls, inf, frs, mark_eq, ↓reduceIte, Nat.reduceEqDiff, ite_tt, ite_ff, eq_self, and_true, true_and, and_self, implies_true, Bool.true_eq_false, Bool.false_eq_true, decide_true, decide_false, decide_eq_true_eq, decide_eq_false_iff_not, ne_eq, not_true_eq_false, not_false_eq_true, Bool.not_eq_true', Bool.not_eq_false', beq_self_eq_true, Bool.not_true, Bool.not_false, List.getElem?_toArray, List.getElem?_cons_zero, List.getElem?_cons_succ, ↓aop_nilV, anilV_ptr, add_at, r0, r1, e1]
  · refine ⟨fun e2 => ?_, fun e2 => ?_⟩
    · simp (disch := omega) only [↓stq, amv_at, vls, inf, frs, mark_eq, ↓reduceIte, Nat.reduceEqDiff, ite_tt, ite_ff, eq_self, and_true, true_and, and_self, implies_true, Bool.true_eq_false, Bool.false_eq_true, decide_true, decide_false, decide_eq_true_eq, decide_eq_false_iff_not, ne_eq, not_true_eq_false, not_false_eq_true, Bool.not_eq_true', Bool.not_eq_false', beq_self_eq_true, Bool.not_true, Bool.not_false, List.getElem?_toArray, List.getElem?_cons_zero, List.getElem?_cons_succ]
      exact ⟨0, rfl, by omega, .inr rfl, lf⟩
    · refine awp_fr 0 1 4 (.pointer (some ⟨q, 0, none⟩)) (.int .i64 m) (.int .i64 0) (by rfl) (by rfl) (by rfl) fun fr h0 h1 h4 => ?_
      simp (disch := omega) only [↓stq, amv_at, vls, inf, frs, mark_eq, ↓reduceIte, Nat.reduceEqDiff, ite_tt, ite_ff, eq_self, and_true, true_and, and_self, implies_true, Bool.true_eq_false, Bool.false_eq_true, decide_true, decide_false, decide_eq_true_eq, decide_eq_false_iff_not, ne_eq, not_true_eq_false, not_false_eq_true, Bool.not_eq_true', Bool.not_eq_false', beq_self_eq_true, Bool.not_true, Bool.not_false, List.getElem?_toArray, List.getElem?_cons_zero, List.getElem?_cons_succ, h0, h1, h4, ↓aop_nilV, anilV_ptr, add_at, r0, r1, Int.add_sub_cancel]
      refine ⟨fun e3 => ?_, fun e3 => ?_⟩
      · obtain ⟨ad, rfl, kk⟩ := (hb.mono l2.ext).byt (i := k) (by omega)
        have hb0 : (0 : Int) ≤ (bs[k].toNat : Int) ∧ (bs[k].toNat : Int) < 256 := ⟨by omega, by have := bs[k].toNat_lt; omega⟩
        refine awp_fr 0 1 5 (.pointer (some ⟨q, 0, none⟩)) (.int .i64 m) (.int .i64 k) (by simp (disch := omega) only [↓stq, amv_at, vls, inf, frs, mark_eq, ↓reduceIte, Nat.reduceEqDiff, ite_tt, ite_ff, eq_self, and_true, true_and, and_self, implies_true, Bool.true_eq_false, Bool.false_eq_true, decide_true, decide_false, decide_eq_true_eq, decide_eq_false_iff_not, ne_eq, not_true_eq_false, not_false_eq_true, Bool.not_eq_true', Bool.not_eq_false', beq_self_eq_true, Bool.not_true, Bool.not_false, List.getElem?_toArray, List.getElem?_cons_zero, List.getElem?_cons_succ, h0, h1, h4, Int.add_sub_cancel]) (by simp (disch := omega) only [↓stq, amv_at, vls, inf, frs, mark_eq, ↓reduceIte, Nat.reduceEqDiff, ite_tt, ite_ff, eq_self, and_true, true_and, and_self, implies_true, Bool.true_eq_false, Bool.false_eq_true, decide_true, decide_false, decide_eq_true_eq, decide_eq_false_iff_not, ne_eq, not_true_eq_false, not_false_eq_true, Bool.not_eq_true', Bool.not_eq_false', beq_self_eq_true, Bool.not_true, Bool.not_false, List.getElem?_toArray, List.getElem?_cons_zero, List.getElem?_cons_succ, h0, h1, h4, Int.add_sub_cancel]) (by simp (disch := omega) only [↓stq, amv_at, vls, inf, frs, mark_eq, ↓reduceIte, Nat.reduceEqDiff, ite_tt, ite_ff, eq_self, and_true, true_and, and_self, implies_true, Bool.true_eq_false, Bool.false_eq_true, decide_true, decide_false, decide_eq_true_eq, decide_eq_false_iff_not, ne_eq, not_true_eq_false, not_false_eq_true, Bool.not_eq_true', Bool.not_eq_false', beq_self_eq_true, Bool.not_true, Bool.not_false, List.getElem?_toArray, List.getElem?_cons_zero, List.getElem?_cons_succ, h0, h1, h4, Int.add_sub_cancel]) fun fr h0 h1 h5 => ?_
        simp (disch := omega) only [↓stq, amv_at, vls, inf, frs, mark_eq, ↓reduceIte, Nat.reduceEqDiff, ite_tt, ite_ff, eq_self, and_true, true_and, and_self, implies_true, Bool.true_eq_false, Bool.false_eq_true, decide_true, decide_false, decide_eq_true_eq, decide_eq_false_iff_not, ne_eq, not_true_eq_false, not_false_eq_true, Bool.not_eq_true', Bool.not_eq_false', beq_self_eq_true, Bool.not_true, Bool.not_false, List.getElem?_toArray, List.getElem?_cons_zero, List.getElem?_cons_succ, h0, h1, h5, ↓aop_nilV, anilV_ptr, add_at, r0, r1, kk, abin_rem, cv_u8]
        exact fin _ hb0.1 (by omega)
      · obtain ⟨ad, rfl, kk1⟩ := (hb.mono l2.ext).byt (i := k % bs.length) (Nat.mod_lt _ (by omega))
        obtain ⟨_, hq2, kk2⟩ := (hb.mono l2.ext).byt (i := (k * 7 + 3) % bs.length) (Nat.mod_lt _ (by omega))
        obtain rfl := Option.some.inj hq2
        have hm1 : k % bs.length < bs.length := Nat.mod_lt _ (by omega)
        have hm2 : (k * 7 + 3) % bs.length < bs.length := Nat.mod_lt _ (by omega)
        have hb1 : (0 : Int) ≤ ((bs[k % bs.length]).toNat : Int) ∧ ((bs[k % bs.length]).toNat : Int) < 256 := ⟨by omega, by have := (bs[k % bs.length]).toNat_lt; omega⟩
        have hb2 : (0 : Int) ≤ ((bs[(k * 7 + 3) % bs.length]).toNat : Int) ∧ ((bs[(k * 7 + 3) % bs.length]).toNat : Int) < 256 := ⟨by omega, by have := (bs[(k * 7 + 3) % bs.length]).toNat_lt; omega⟩
        generalize ((bs[k % bs.length]).toNat : Int) = y1 at kk1 hb1
        generalize ((bs[(k * 7 + 3) % bs.length]).toNat : Int) = y2 at kk2 hb2
        have hd : ((k / bs.length : Nat) : Int) ≤ k := by have := Nat.div_le_self k bs.length; omega
        generalize hi1 : k % bs.length = i1 at kk1 hm1
        generalize hi2 : (k * 7 + 3) % bs.length = i2 at kk2 hm2
        generalize hi3 : k / bs.length = i3 at hd
        refine awp_fr 0 1 5 (.pointer (some ⟨q, 0, none⟩)) (.int .i64 m) (.int .i64 k) (by simp (disch := omega) only [↓stq, amv_at, vls, inf, frs, mark_eq, ↓reduceIte, Nat.reduceEqDiff, ite_tt, ite_ff, eq_self, and_true, true_and, and_self, implies_true, Bool.true_eq_false, Bool.false_eq_true, decide_true, decide_false, decide_eq_true_eq, decide_eq_false_iff_not, ne_eq, not_true_eq_false, not_false_eq_true, Bool.not_eq_true', Bool.not_eq_false', beq_self_eq_true, Bool.not_true, Bool.not_false, List.getElem?_toArray, List.getElem?_cons_zero, List.getElem?_cons_succ, h0, h1, h4, Int.add_sub_cancel]) (by simp (disch := omega) only [↓stq, amv_at, vls, inf, frs, mark_eq, ↓reduceIte, Nat.reduceEqDiff, ite_tt, ite_ff, eq_self, and_true, true_and, and_self, implies_true, Bool.true_eq_false, Bool.false_eq_true, decide_true, decide_false, decide_eq_true_eq, decide_eq_false_iff_not, ne_eq, not_true_eq_false, not_false_eq_true, Bool.not_eq_true', Bool.not_eq_false', beq_self_eq_true, Bool.not_true, Bool.not_false, List.getElem?_toArray, List.getElem?_cons_zero, List.getElem?_cons_succ, h0, h1, h4, Int.add_sub_cancel]) (by simp (disch := omega) only [↓stq, amv_at, vls, inf, frs, mark_eq, ↓reduceIte, Nat.reduceEqDiff, ite_tt, ite_ff, eq_self, and_true, true_and, and_self, implies_true, Bool.true_eq_false, Bool.false_eq_true, decide_true, decide_false, decide_eq_true_eq, decide_eq_false_iff_not, ne_eq, not_true_eq_false, not_false_eq_true, Bool.not_eq_true', Bool.not_eq_false', beq_self_eq_true, Bool.not_true, Bool.not_false, List.getElem?_toArray, List.getElem?_cons_zero, List.getElem?_cons_succ, h0, h1, h4, Int.add_sub_cancel]) fun fr h0 h1 h5 => ?_
        simp (disch := omega) only [↓stq, amv_at, vls, inf, frs, mark_eq, ↓reduceIte, Nat.reduceEqDiff, ite_tt, ite_ff, eq_self, and_true, true_and, and_self, implies_true, Bool.true_eq_false, Bool.false_eq_true, decide_true, decide_false, decide_eq_true_eq, decide_eq_false_iff_not, ne_eq, not_true_eq_false, not_false_eq_true, Bool.not_eq_true', Bool.not_eq_false', beq_self_eq_true, Bool.not_true, Bool.not_false, List.getElem?_toArray, List.getElem?_cons_zero, List.getElem?_cons_succ, h0, h1, h5]
        refine adraw_itemsF [.q 0, .q 1, .q 2, .l 3 false, .q 4, .q 5, .q 6, .q 7, .l 8 false, .q 9, .q 10, .q 11, .l 12 false, .q 13, .q 14, .q 15, .q 16, .q 17, .l 18 false, .q 19, .q 20, .q 21, .q 22, .q 23, .q 24, .l 25 false, .q 26, .q 27, .q 28, .l 29 false, .q 30, .q 31, .q 32, .q 33, .q 34, .q 35, .q 36, .q 37, .q 38, .q 39, .l 40 false, .q 41, .q 42, .q 43, .q 44, .q 45] (by kernel_rfl) (by kernel_rfl) ?_
        refine bseq_chunk (fun fr => fr 0 = .pointer (some ⟨q, 0, none⟩) ∧ fr 1 = .int .i64 m ∧ fr 5 = .int .i64 k ∧ fr 61 = .int .i64 (y1 * 131)) ?_ [.q 0, .q 1, .q 2, .l 3 false, .q 4, .q 5, .q 6, .q 7, .l 8 false, .q 9, .q 10, .q 11, .l 12 false, .q 13, .q 14] _ rfl ?_
        rotate_left
        · simp (disch := omega) only [↓stq, amv_at, ↓pln, plv, nilOk, Nat.reduceBEq, Bool.or_false, Bool.or_true, Bool.false_or, Bool.true_or, vls, inf, frs, mark_eq, ↓reduceIte, Nat.reduceEqDiff, ite_tt, ite_ff, eq_self, and_true, true_and, and_self, implies_true, Bool.true_eq_false, Bool.false_eq_true, decide_true, decide_false, decide_eq_true_eq, decide_eq_false_iff_not, ne_eq, not_true_eq_false, not_false_eq_true, Bool.not_eq_true', Bool.not_eq_false', beq_self_eq_true, Bool.not_true, Bool.not_false, List.getElem?_toArray, List.getElem?_cons_zero, List.getElem?_cons_succ, h0, h1, h5, ↓aop_nilV, anilV_ptr, add_at, r0, r1, Int.add_sub_cancel, abin_rem, abin_quo, tmod_cast, tmod_cast2, tdiv_cast, hi1, hi2, hi3, cv_u8, kk1, kk2]
        clear h0 h1 h5
        rintro fr ⟨h0, h1, h5, h61⟩
        refine bseq_chunk (fun fr => fr 0 = .pointer (some ⟨q, 0, none⟩) ∧ fr 1 = .int .i64 m ∧ fr 5 = .int .i64 k ∧ fr 79 = .int .i64 (y1 * 131 + y2 * 1117)) ?_ [.q 15, .q 16, .q 17, .l 18 false, .q 19, .q 20, .q 21, .q 22, .q 23, .q 24, .l 25 false, .q 26, .q 27, .q 28, .l 29 false, .q 30, .q 31, .q 32] _ rfl ?_
        rotate_left
        · simp (disch := omega) only [↓stq, amv_at, ↓pln, plv, nilOk, Nat.reduceBEq, Bool.or_false, Bool.or_true, Bool.false_or, Bool.true_or, vls, inf, frs, mark_eq, ↓reduceIte, Nat.reduceEqDiff, ite_tt, ite_ff, eq_self, and_true, true_and, and_self, implies_true, Bool.true_eq_false, Bool.false_eq_true, decide_true, decide_false, decide_eq_true_eq, decide_eq_false_iff_not, ne_eq, not_true_eq_false, not_false_eq_true, Bool.not_eq_true', Bool.not_eq_false', beq_self_eq_true, Bool.not_true, Bool.not_false, List.getElem?_toArray, List.getElem?_cons_zero, List.getElem?_cons_succ, h0, h1, h5, h61, ↓aop_nilV, anilV_ptr, add_at, r0, r1, Int.add_sub_cancel, abin_rem, abin_quo, tmod_cast, tmod_cast2, tdiv_cast, hi1, hi2, hi3, cv_u8, kk1, kk2]
        clear h0 h1 h5 h61
        rintro fr ⟨h0, h1, h5, h79⟩
        refine bseq_chunk (L2 := []) (fun fr => fr 0 = .pointer (some ⟨q, 0, none⟩) ∧ fr 1 = .int .i64 m ∧ fr 6 = .int .i64 (y1 * 131 + y2 * 1117 + (k : Int) * 29 + (i3 : Int) * 53)) ?_ [.q 33, .q 34, .q 35, .q 36, .q 37, .q 38, .q 39, .l 40 false, .q 41, .q 42, .q 43, .q 44, .q 45] _ rfl ?_
        rotate_left
        · simp (disch := omega) only [↓stq, amv_at, ↓pln, plv, nilOk, Nat.reduceBEq, Bool.or_false, Bool.or_true, Bool.false_or, Bool.true_or, vls, inf, frs, mark_eq, ↓reduceIte, Nat.reduceEqDiff, ite_tt, ite_ff, eq_self, and_true, true_and, and_self, implies_true, Bool.true_eq_false, Bool.false_eq_true, decide_true, decide_false, decide_eq_true_eq, decide_eq_false_iff_not, ne_eq, not_true_eq_false, not_false_eq_true, Bool.not_eq_true', Bool.not_eq_false', beq_self_eq_true, Bool.not_true, Bool.not_false, List.getElem?_toArray, List.getElem?_cons_zero, List.getElem?_cons_succ, h0, h1, h5, h79, ↓aop_nilV, anilV_ptr, add_at, r0, r1, Int.add_sub_cancel, abin_rem, abin_quo, tmod_cast, tmod_cast2, tdiv_cast, hi1, hi2, hi3, cv_u8, kk1, kk2]
        clear h0 h1 h5 h79
        rintro fr ⟨h0, h1, h6⟩
        rw [bseq_nil]
        have hX : 0 ≤ (y1 * 131 + y2 * 1117 + (k : Int) * 29 + (i3 : Int) * 53) ∧ (y1 * 131 + y2 * 1117 + (k : Int) * 29 + (i3 : Int) * 53) < 4611686018427387904 := by omega
        generalize (y1 * 131 + y2 * 1117 + (k : Int) * 29 + (i3 : Int) * 53) = X at hX h6
        have hT : 0 ≤ X.tdiv 64 ∧ X.tdiv 64 ≤ X := ⟨Int.tdiv_nonneg hX.1 (by decide), by rw [Int.tdiv_eq_ediv_of_nonneg hX.1]; omega⟩
        generalize hTe : X.tdiv 64 = T at hT
        obtain ⟨Z, hZ, hxr⟩ := abin_xor_ex (P := Try.prog) (a := X) (b := T) (by omega) (by omega)
        simp (disch := omega) only [↓stq, amv_at, vls, inf, frs, mark_eq, ↓reduceIte, Nat.reduceEqDiff, ite_tt, ite_ff, eq_self, and_true, true_and, and_self, implies_true, Bool.true_eq_false, Bool.false_eq_true, decide_true, decide_false, decide_eq_true_eq, decide_eq_false_iff_not, ne_eq, not_true_eq_false, not_false_eq_true, Bool.not_eq_true', Bool.not_eq_false', beq_self_eq_true, Bool.not_true, Bool.not_false, List.getElem?_toArray, List.getElem?_cons_zero, List.getElem?_cons_succ, h0, h1, h6, abin_quo, hTe, hxr]
        rw [abin_rem _ _ _ _ _ _ (by omega)]
        simp (disch := omega) only [↓stq, amv_at, vls, inf, frs, mark_eq, ↓reduceIte, Nat.reduceEqDiff, ite_tt, ite_ff, eq_self, and_true, true_and, and_self, implies_true, Bool.true_eq_false, Bool.false_eq_true, decide_true, decide_false, decide_eq_true_eq, decide_eq_false_iff_not, ne_eq, not_true_eq_false, not_false_eq_true, Bool.not_eq_true', Bool.not_eq_false', beq_self_eq_true, Bool.not_true, Bool.not_false, List.getElem?_toArray, List.getElem?_cons_zero, List.getElem?_cons_succ, h0, h1, h6]
        exact fin _ (by omega) (by omega)
  · exact ⟨0, rfl, by omega, .inr rfl, lf⟩

/-- One of some numbers up to a bound. -/
theorem rdr_pos {N : Nat} (h : N ≤ 1000000000) : N ≤ 1000000000 := h

theorem of_c (B A : View) (L : List It) (q : Nat) (sl : Value) (N : Nat) (v : Value) (xs : List ByteArray) (hb : Bts B sl) (hN : N ≤ 1000000000) (hx : ∀ V, Led B (rdr q sl (N + 1) :: L) V → Sl strS V v xs) (h0 : Sl strS A v xs) (hl : 0 < xs.length) (l : Led B (rdr q sl N :: L) A) : ACalls Try.prog 86 #[.pointer (some ⟨q, 0, none⟩), v] A fun r V => ∃ i : Nat, ∃ h : i < xs.length, r = .string xs[i] ∧ Led B (rdr q sl (N + 1) :: L) V := by
  obtain ⟨a, c, rfl, _, hle⟩ := h0.slice
  refine acalls Try.func86 rfl (by kernel_rfl) ?_
  simp (disch := omega) only [↓stq, amv_at, vls, inf, frs, mark_eq, ↓reduceIte, Nat.reduceEqDiff, ite_tt, ite_ff, eq_self, and_true, true_and, and_self, implies_true, Bool.true_eq_false, Bool.false_eq_true, decide_true, decide_false, decide_eq_true_eq, decide_eq_false_iff_not, ne_eq, not_true_eq_false, not_false_eq_true, Bool.not_eq_true', Bool.not_eq_false', beq_self_eq_true, Bool.not_true, Bool.not_false, List.getElem?_toArray, List.getElem?_cons_zero, List.getElem?_cons_succ]
  refine (pick_c B A L q sl N xs.length hb hN ⟨by omega, by omega⟩ l).mono ?_
  rintro _ V ⟨i, rfl, hi0, hi1, l⟩
  obtain ⟨i, rfl⟩ := Int.eq_ofNat_of_zero_le hi0
  obtain ⟨ad, rfl, kk, _⟩ := (hx V l).str (i := i) (by omega)
  simp (disch := omega) only [↓stq, amv_at, vls, inf, frs, mark_eq, ↓reduceIte, Nat.reduceEqDiff, ite_tt, ite_ff, eq_self, and_true, true_and, and_self, implies_true, Bool.true_eq_false, Bool.false_eq_true, decide_true, decide_false, decide_eq_true_eq, decide_eq_false_iff_not, ne_eq, not_true_eq_false, not_false_eq_true, Bool.not_eq_true', Bool.not_eq_false', beq_self_eq_true, Bool.not_true, Bool.not_false, List.getElem?_toArray, List.getElem?_cons_zero, List.getElem?_cons_succ, kk]
  exact ⟨i, by omega, rfl, l⟩

theorem one_c (B A : View) (L : List It) (q : Nat) (sl : Value) (N : Nat) (v : Value) (xs : List Int) (hb : Bts B sl) (hN : N ≤ 1000000000) (hx : ∀ V, Led B (rdr q sl (N + 1) :: L) V → Sl intS V v xs) (h0 : Sl intS A v xs) (hl : 0 < xs.length) (l : Led B (rdr q sl N :: L) A) : ACalls Try.prog 107 #[.pointer (some ⟨q, 0, none⟩), v] A fun r V => ∃ i : Nat, ∃ h : i < xs.length, r = .int .i64 xs[i] ∧ Led B (rdr q sl (N + 1) :: L) V := by
  obtain ⟨a, c, rfl, _, hle⟩ := h0.slice
  refine acalls Try.func107 rfl (by kernel_rfl) ?_
  simp (disch := omega) only [↓stq, amv_at, vls, inf, frs, mark_eq, ↓reduceIte, Nat.reduceEqDiff, ite_tt, ite_ff, eq_self, and_true, true_and, and_self, implies_true, Bool.true_eq_false, Bool.false_eq_true, decide_true, decide_false, decide_eq_true_eq, decide_eq_false_iff_not, ne_eq, not_true_eq_false, not_false_eq_true, Bool.not_eq_true', Bool.not_eq_false', beq_self_eq_true, Bool.not_true, Bool.not_false, List.getElem?_toArray, List.getElem?_cons_zero, List.getElem?_cons_succ]
  refine (pick_c B A L q sl N xs.length hb hN ⟨by omega, by omega⟩ l).mono ?_
  rintro _ V ⟨i, rfl, hi0, hi1, l⟩
  obtain ⟨i, rfl⟩ := Int.eq_ofNat_of_zero_le hi0
  obtain ⟨ad, rfl, kk⟩ := (hx V l).int (i := i) (by omega)
  simp (disch := omega) only [↓stq, amv_at, vls, inf, frs, mark_eq, ↓reduceIte, Nat.reduceEqDiff, ite_tt, ite_ff, eq_self, and_true, true_and, and_self, implies_true, Bool.true_eq_false, Bool.false_eq_true, decide_true, decide_false, decide_eq_true_eq, decide_eq_false_iff_not, ne_eq, not_true_eq_false, not_false_eq_true, Bool.not_eq_true', Bool.not_eq_false', beq_self_eq_true, Bool.not_true, Bool.not_false, List.getElem?_toArray, List.getElem?_cons_zero, List.getElem?_cons_succ, kk]
  exact ⟨i, by omega, rfl, l⟩

end Go.Proofs.Ytbddklkfekiaeaa

