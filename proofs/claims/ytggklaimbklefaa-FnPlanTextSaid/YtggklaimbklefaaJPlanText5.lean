/- Part 5 of the proof: its texts, one behind the other. -/
import Derived.Test.YtggklaimbklefaaJPlanText2
import Derived.Test.YtggklaimbklefaaJPlanText4
import Derived.Test.YtggklaimbklefaaJPlanText3
import Derived.Test.YtggklaimbklefaaJPlanText1
import Derived.Laws.StructEq

/- The reader of the generators. -/
set_option maxHeartbeats 4000000
set_option synthInstance.maxHeartbeats 400000
set_option synthInstance.maxSize 4096
set_option linter.unusedSimpArgs false
set_option linter.unusedVariables false
namespace Go.Proofs.Ytggklaimbklefaa

set_option maxRecDepth 100000

/-- The reader: its bytes, and a place up to a bound. -/
def rdr (q : Nat) (sl : Value) (N : Nat) : It := ⟨[q], fun V => ∃ p : Int, 0 ≤ p ∧ p ≤ N ∧ V q = some ⟨83, [sl, .int .i64 p], 2, true⟩, fun ⟨p, h1, h2, h3⟩ hs => ⟨p, h1, h2, hs q _ (List.mem_singleton.2 rfl) h3⟩, fun ⟨p, h1, h2, h3⟩ b hb => by rw [List.mem_singleton.1 hb]; exact ⟨_, h3⟩⟩
theorem rdr_more {A V : View} {L : List It} {q : Nat} {sl : Value} {N M : Nat} (h : Led A (rdr q sl N :: L) V) (hm : N ≤ M) : Led A (rdr q sl M :: L) V := by
  obtain ⟨p, h1, h2, h3⟩ := (show (rdr q sl N).φ V from h.at (i := 0) rfl)
  exact h.upd (i := 0) rfl rfl (Only.refl _ _) (show (rdr q sl M).φ V from ⟨p, h1, by omega, h3⟩)
/-- The bytes that are read. -/
def Bts (B : View) (sl : Value) : Prop := ∃ a n c bs, sl = .slice a n c ∧ n = bs.length ∧ bs.length ≤ 2000 ∧ Sl byteS B sl bs
theorem Bts.mono {A B : View} {sl : Value} (h : Bts A sl) (he : Ext A B) : Bts B sl := let ⟨a, n, c, bs, h1, h2, h3, h4⟩ := h; ⟨a, n, c, bs, h1, h2, h3, h4.mono he⟩

theorem Sl.byt {A : View} {a : Option Addr} {n c : Nat} {bs : List UInt8} (h : Sl byteS A (.slice a n c) bs) {i : Nat} (hi : i < bs.length) : ∃ ad : Addr, a = some ad ∧ A.cell (ad.add i) = some (.int .u8 (bs[i]).toNat) := by
  obtain ⟨ad, d, rfl, hd, _, hc⟩ := h.at hi
  have hd : d = [.int .u8 (bs[i]).toNat] := hd
  subst hd
  have := hc 0 _ rfl
  refine ⟨ad, rfl, ?_⟩
  simpa [add_at, byteS, Addr.add] using this

theorem cv_u8 {A : View} {K : Value → View → Prop} (n : Int) : aconv Try.prog 5 3 (.int .u8 n) A K = K (.int .i64 (IntKind.i64.wrap n)) A := aconv_int (s := .u8) (by kernel_rfl) (by kernel_rfl) .u8 n
theorem tmod_cast (a b : Nat) : (a : Int).tmod b = ((a % b : Nat) : Int) := Eq.trans rfl rfl
theorem tmod_cast2 (a b : Nat) : ((a : Int) * 7 + 3).tmod b = (((a * 7 + 3) % b : Nat) : Int) := by
  rw [show (a : Int) * 7 + 3 = ((a * 7 + 3 : Nat) : Int) by omega]; rfl
theorem tdiv_cast (a b : Nat) : (a : Int).tdiv b = ((a / b : Nat) : Int) := Eq.trans rfl rfl

theorem pick_c (B A : View) (L : List It) (q : Nat) (sl : Value) (N : Nat) (m : Int) (hb : Bts B sl) (hN : N ≤ 1000000000) (hm : -9223372036854775808 ≤ m ∧ m < 9223372036854775808) (l : Led B (rdr q sl N :: L) A) : ACalls Try.prog 22 #[.pointer (some ⟨q, 0, none⟩), .int .i64 m] A fun r V => ∃ v : Int, r = .int .i64 v ∧ 0 ≤ v ∧ (v < m ∨ v = 0) ∧ Led B (rdr q sl (N + 1) :: L) V := by
  obtain ⟨a, _, c, bs, rfl, rfl, hbl, hb⟩ := hb
  obtain ⟨p, hp0, hpN, hq⟩ := (show (rdr q _ N).φ A from l.at (i := 0) rfl)
  obtain ⟨k, rfl⟩ := Int.eq_ofNat_of_zero_le hp0
  replace l := l.upd (i := 0) (jt := bx q ⟨83, [.slice a bs.length c, .int .i64 k], 2, true⟩) rfl rfl (Only.refl _ _) hq
  refine acalls Try.func22 rfl (by kernel_rfl) ?_
  simp (disch := omega) only [↓stq, amv_at, vls, inf, frs, mark_eq, ↓reduceIte, Nat.reduceEqDiff, ite_tt, ite_ff, eq_self, and_true, true_and, and_self, implies_true, Bool.true_eq_false, Bool.false_eq_true, decide_true, decide_false, decide_eq_true_eq, decide_eq_false_iff_not, ne_eq, not_true_eq_false, not_false_eq_true, Bool.not_eq_true', Bool.not_eq_false', beq_self_eq_true, Bool.not_true, Bool.not_false, List.getElem?_toArray, List.getElem?_cons_zero, List.getElem?_cons_succ]
  have r1 := l.cell (i := 0) rfl (o := 1) rfl rfl
  simp (disch := omega) only [↓stq, amv_at, vls, inf, frs, mark_eq, ↓reduceIte, Nat.reduceEqDiff, ite_tt, ite_ff, eq_self, and_true, true_and, and_self, implies_true, Bool.true_eq_false, Bool.false_eq_true, decide_true, decide_false, decide_eq_true_eq, decide_eq_false_iff_not, ne_eq, not_true_eq_false, not_false_eq_true, Bool.not_eq_true', Bool.not_eq_false', beq_self_eq_true, Bool.not_true, Bool.not_false, List.getElem?_toArray, List.getElem?_cons_zero, List.getElem?_cons_succ, ↓aop_nilV, anilV_ptr, add_at, r1]
  refine led_store l 0 rfl sz3 (by rfl) (by rfl) (by rfl) fun V l => ?_
  have l2 : Led B (bx q ⟨83, [.slice a bs.length c, .int .i64 ((k : Int) + 1)], 2, true⟩ :: L) V := l
  have r0 := l2.cell (i := 0) rfl (o := 0) rfl rfl
  have r1 := l2.cell (i := 0) rfl (o := 1) rfl rfl
  have lf := l2.upd (i := 0) (jt := rdr q (.slice a bs.length c) (N + 1)) rfl rfl (Only.refl _ _) ⟨(k : Int) + 1, by omega, by omega, l2.at (i := 0) rfl⟩
  simp (disch := omega) only [↓stq, amv_at, vls, inf, frs, mark_eq, ↓reduceIte, Nat.reduceEqDiff, ite_tt, ite_ff, eq_self, and_true, true_and, and_self, implies_true, Bool.true_eq_false, Bool.false_eq_true, decide_true, decide_false, decide_eq_true_eq, decide_eq_false_iff_not, ne_eq, not_true_eq_false, not_false_eq_true, Bool.not_eq_true', Bool.not_eq_false', beq_self_eq_true, Bool.not_true, Bool.not_false, List.getElem?_toArray, List.getElem?_cons_zero, List.getElem?_cons_succ, ↓aop_nilV, anilV_ptr, add_at, r0, r1]
  have fin : ∀ x : Int, 0 ≤ x → 1 ≤ m → ∃ v : Int, Value.int .i64 (x.tmod m) = .int .i64 v ∧ 0 ≤ v ∧ (v < m ∨ v = 0) ∧ Led B (rdr q (.slice a bs.length c) (N + 1) :: L) V := fun x hx hm1 => ⟨_, rfl, Int.tmod_nonneg _ hx, .inl (Int.tmod_lt_of_pos _ (by omega)), lf⟩
  refine ⟨fun e1 => ?_, fun e1 => ?_⟩ <;> simp (disch := omega) only [↓stq, amv_at, vls, inf, frs, mark_eq, ↓reduceIte, Nat.reduceEqDiff, ite_tt, ite_ff, eq_self, and_true, true_and, and_self, implies_true, Bool.true_eq_false, Bool.false_eq_true, decide_true, decide_false, decide_eq_true_eq, decide_eq_false_iff_not, ne_eq, not_true_eq_false, not_false_eq_true, Bool.not_eq_true', Bool.not_eq_false', beq_self_eq_true, Bool.not_true, Bool.not_false, List.getElem?_toArray, List.getElem?_cons_zero, List.getElem?_cons_succ, ↓aop_nilV, anilV_ptr, add_at, r0, r1, e1]
  · refine ⟨fun e2 => ?_, fun e2 => ?_⟩
    · simp (disch := omega) only [↓stq, amv_at, vls, inf, frs, mark_eq, ↓reduceIte, Nat.reduceEqDiff, ite_tt, ite_ff, eq_self, and_true, true_and, and_self, implies_true, Bool.true_eq_false, Bool.false_eq_true, decide_true, decide_false, decide_eq_true_eq, decide_eq_false_iff_not, ne_eq, not_true_eq_false, not_false_eq_true, Bool.not_eq_true', Bool.not_eq_false', beq_self_eq_true, Bool.not_true, Bool.not_false, List.getElem?_toArray, List.getElem?_cons_zero, List.getElem?_cons_succ]
      exact ⟨0, rfl, by omega, .inr rfl, lf⟩
    · refine awp_fr 0 1 4 (.pointer (some ⟨q, 0, none⟩)) (.int .i64 m) (.int .i64 0) (by rfl) (by rfl) (by rfl) fun fr h0 h1 h4 => ?_
      simp (disch := omega) only [↓stq, amv_at, vls, inf, frs, mark_eq, ↓reduceIte, Nat.reduceEqDiff, ite_tt, ite_ff, eq_self, and_true, true_and, and_self, implies_true, Bool.true_eq_false, Bool.false_eq_true, decide_true, decide_false, decide_eq_true_eq, decide_eq_false_iff_not, ne_eq, not_true_eq_false, not_false_eq_true, Bool.not_eq_true', Bool.not_eq_false', beq_self_eq_true, Bool.not_true, Bool.not_false, List.getElem?_toArray, List.getElem?_cons_zero, List.getElem?_cons_succ, h0, h1, h4, ↓aop_nilV, anilV_ptr, add_at, r0, r1, Int.add_sub_cancel]
      refine ⟨fun e3 => ?_, fun e3 => ?_⟩
      · obtain ⟨ad, rfl, kk⟩ := (hb.mono l2.ext).byt (i := k) (by omega)
        have hb0 : (0 : Int) ≤ (bs[k].toNat : Int) ∧ (bs[k].toNat : Int) < 256 := ⟨by omega, by have := bs[k].toNat_lt; omega⟩
        refine awp_fr 0 1 5 (.pointer (some ⟨q, 0, none⟩)) (.int .i64 m) (.int .i64 k) (by simp (disch := omega) only [↓stq, amv_at, vls, inf, frs, mark_eq, ↓reduceIte, Nat.reduceEqDiff, ite_tt, ite_ff, eq_self, and_true, true_and, and_self, implies_true, Bool.true_eq_false, Bool.false_eq_true, decide_true, decide_false, decide_eq_true_eq, decide_eq_false_iff_not, ne_eq, not_true_eq_false, not_false_eq_true, Bool.not_eq_true', Bool.not_eq_false', beq_self_eq_true, Bool.not_true, Bool.not_false, List.getElem?_toArray, List.getElem?_cons_zero, List.getElem?_cons_succ, h0, h1, h4, Int.add_sub_cancel]) (by simp (disch := omega) only [↓stq, amv_at, vls, inf, frs, mark_eq, ↓reduceIte, Nat.reduceEqDiff, ite_tt, ite_ff, eq_self, and_true, true_and, and_self, implies_true, Bool.true_eq_false, Bool.false_eq_true, decide_true, decide_false, decide_eq_true_eq, decide_eq_false_iff_not, ne_eq, not_true_eq_false, not_false_eq_true, Bool.not_eq_true', Bool.not_eq_false', beq_self_eq_true, Bool.not_true, Bool.not_false, List.getElem?_toArray, List.getElem?_cons_zero, List.getElem?_cons_succ, h0, h1, h4, Int.add_sub_cancel]) (by simp (disch := omega) only [↓stq, amv_at, vls, inf, frs, mark_eq, ↓reduceIte, Nat.reduceEqDiff, ite_tt, ite_ff, eq_self, and_true, true_and, and_self, implies_true, Bool.true_eq_false, Bool.false_eq_true, decide_true, decide_false, decide_eq_true_eq, decide_eq_false_iff_not, ne_eq, not_true_eq_false, not_false_eq_true, Bool.not_eq_true', Bool.not_eq_false', beq_self_eq_true, Bool.not_true, Bool.not_false, List.getElem?_toArray, List.getElem?_cons_zero, List.getElem?_cons_succ, h0, h1, h4, Int.add_sub_cancel]) fun fr h0 h1 h5 => ?_
        simp (disch := omega) only [↓stq, amv_at, vls, inf, frs, mark_eq, ↓reduceIte, Nat.reduceEqDiff, ite_tt, ite_ff, eq_self, and_true, true_and, and_self, implies_true, Bool.true_eq_false, Bool.false_eq_true, decide_true, decide_false, decide_eq_true_eq, decide_eq_false_iff_not, ne_eq, not_true_eq_false, not_false_eq_true, Bool.not_eq_true', Bool.not_eq_false', beq_self_eq_true, Bool.not_true, Bool.not_false, List.getElem?_toArray, List.getElem?_cons_zero, List.getElem?_cons_succ, h0, h1, h5, ↓aop_nilV, anilV_ptr, add_at, r0, r1, kk, abin_rem, cv_u8]
        exact fin _ hb0.1 (by omega)
      · obtain ⟨ad, rfl, kk1⟩ := (hb.mono l2.ext).byt (i := k % bs.length) (Nat.mod_lt _ (by omega))
        obtain ⟨_, hq2, kk2⟩ := (hb.mono l2.ext).byt (i := (k * 7 + 3) % bs.length) (Nat.mod_lt _ (by omega))
        obtain rfl := Option.some.inj hq2
        have hm1 : k % bs.length < bs.length := Nat.mod_lt _ (by omega)
        have hm2 : (k * 7 + 3) % bs.length < bs.length := Nat.mod_lt _ (by omega)
        have hb1 : (0 : Int) ≤ ((bs[k % bs.length]).toNat : Int) ∧ ((bs[k % bs.length]).toNat : Int) < 256 := ⟨by omega, by have := (bs[k % bs.length]).toNat_lt; omega⟩
        have hb2 : (0 : Int) ≤ ((bs[(k * 7 + 3) % bs.length]).toNat : Int) ∧ ((bs[(k * 7 + 3) % bs.length]).toNat : Int) < 256 := ⟨by omega, by have := (bs[(k * 7 + 3) % bs.length]).toNat_lt; omega⟩
        generalize ((bs[k % bs.length]).toNat : Int) = y1 at kk1 hb1
        generalize ((bs[(k * 7 + 3) % bs.length]).toNat : Int) = y2 at kk2 hb2
        have hd : ((k / bs.length : Nat) : Int) ≤ k := by have := Nat.div_le_self k bs.length; omega
        generalize hi1 : k % bs.length = i1 at kk1 hm1
        generalize hi2 : (k * 7 + 3) % bs.length = i2 at kk2 hm2
        generalize hi3 : k / bs.length = i3 at hd
        refine awp_fr 0 1 5 (.pointer (some ⟨q, 0, none⟩)) (.int .i64 m) (.int .i64 k) (by simp (disch := omega) only [↓stq, amv_at, vls, inf, frs, mark_eq, ↓reduceIte, Nat.reduceEqDiff, ite_tt, ite_ff, eq_self, and_true, true_and, and_self, implies_true, Bool.true_eq_false, Bool.false_eq_true, decide_true, decide_false, decide_eq_true_eq, decide_eq_false_iff_not, ne_eq, not_true_eq_false, not_false_eq_true, Bool.not_eq_true', Bool.not_eq_false', beq_self_eq_true, Bool.not_true, Bool.not_false, List.getElem?_toArray, List.getElem?_cons_zero, List.getElem?_cons_succ, h0, h1, h4, Int.add_sub_cancel]) (by simp (disch := omega) only [↓stq, amv_at, vls, inf, frs, mark_eq, ↓reduceIte, Nat.reduceEqDiff, ite_tt, ite_ff, eq_self, and_true, true_and, and_self, implies_true, Bool.true_eq_false, Bool.false_eq_true, decide_true, decide_false, decide_eq_true_eq, decide_eq_false_iff_not, ne_eq, not_true_eq_false, not_false_eq_true, Bool.not_eq_true', Bool.not_eq_false', beq_self_eq_true, Bool.not_true, Bool.not_false, List.getElem?_toArray, List.getElem?_cons_zero, List.getElem?_cons_succ, h0, h1, h4, Int.add_sub_cancel]) (by simp (disch := omega) only [↓stq, amv_at, vls, inf, frs, mark_eq, ↓reduceIte, Nat.reduceEqDiff, ite_tt, ite_ff, eq_self, and_true, true_and, and_self, implies_true, Bool.true_eq_false, Bool.false_eq_true, decide_true, decide_false, decide_eq_true_eq, decide_eq_false_iff_not, ne_eq, not_true_eq_false, not_false_eq_true, Bool.not_eq_true', Bool.not_eq_false', beq_self_eq_true, Bool.not_true, Bool.not_false, List.getElem?_toArray, List.getElem?_cons_zero, List.getElem?_cons_succ, h0, h1, h4, Int.add_sub_cancel]) fun fr h0 h1 h5 => ?_
        simp (disch := omega) only [↓stq, amv_at, vls, inf, frs, mark_eq, ↓reduceIte, Nat.reduceEqDiff, ite_tt, ite_ff, eq_self, and_true, true_and, and_self, implies_true, Bool.true_eq_false, Bool.false_eq_true, decide_true, decide_false, decide_eq_true_eq, decide_eq_false_iff_not, ne_eq, not_true_eq_false, not_false_eq_true, Bool.not_eq_true', Bool.not_eq_false', beq_self_eq_true, Bool.not_true, Bool.not_false, List.getElem?_toArray, List.getElem?_cons_zero, List.getElem?_cons_succ, h0, h1, h5]
        refine adraw_itemsF [.q 0, .q 1, .q 2, .l 3 false, .q 4, .q 5, .q 6, .q 7, .l 8 false, .q 9, .q 10, .q 11, .l 12 false, .q 13, .q 14, .q 15, .q 16, .q 17, .l 18 false, .q 19, .q 20, .q 21, .q 22, .q 23, .q 24, .l 25 false, .q 26, .q 27, .q 28, .l 29 false, .q 30, .q 31, .q 32, .q 33, .q 34, .q 35, .q 36, .q 37, .q 38, .q 39, .l 40 false, .q 41, .q 42, .q 43, .q 44, .q 45] (by kernel_rfl) (by kernel_rfl) ?_
        refine bseq_chunk (fun fr => fr 0 = .pointer (some ⟨q, 0, none⟩) ∧ fr 1 = .int .i64 m ∧ fr 5 = .int .i64 k ∧ fr 61 = .int .i64 (y1 * 131)) ?_ [.q 0, .q 1, .q 2, .l 3 false, .q 4, .q 5, .q 6, .q 7, .l 8 false, .q 9, .q 10, .q 11, .l 12 false, .q 13, .q 14] _ rfl ?_
        rotate_left
        · simp (disch := omega) only [↓stq, amv_at, ↓pln, plv, nilOk, Nat.reduceBEq, Bool.or_false, Bool.or_true, Bool.false_or, Bool.true_or, vls, inf, frs, mark_eq, ↓reduceIte, Nat.reduceEqDiff, ite_tt, ite_ff, eq_self, and_true, true_and, and_self, implies_true, Bool.true_eq_false, Bool.false_eq_true, decide_true, decide_false, decide_eq_true_eq, decide_eq_false_iff_not, ne_eq, not_true_eq_false, not_false_eq_true, Bool.not_eq_true', Bool.not_eq_false', beq_self_eq_true, Bool.not_true, Bool.not_false, List.getElem?_toArray, List.getElem?_cons_zero, List.getElem?_cons_succ, h0, h1, h5, ↓aop_nilV, anilV_ptr, add_at, r0, r1, Int.add_sub_cancel, abin_rem, abin_quo, tmod_cast, tmod_cast2, tdiv_cast, hi1, hi2, hi3, cv_u8, kk1, kk2]
        clear h0 h1 h5
        rintro fr ⟨h0, h1, h5, h61⟩
        refine bseq_chunk (fun fr => fr 0 = .pointer (some ⟨q, 0, none⟩) ∧ fr 1 = .int .i64 m ∧ fr 5 = .int .i64 k ∧ fr 79 = .int .i64 (y1 * 131 + y2 * 1117)) ?_ [.q 15, .q 16, .q 17, .l 18 false, .q 19, .q 20, .q 21, .q 22, .q 23, .q 24, .l 25 false, .q 26, .q 27, .q 28, .l 29 false, .q 30, .q 31, .q 32] _ rfl ?_
        rotate_left
        · simp (disch := omega) only [↓stq, amv_at, ↓pln, plv, nilOk, Nat.reduceBEq, Bool.or_false, Bool.or_true, Bool.false_or, Bool.true_or, vls, inf, frs, mark_eq, ↓reduceIte, Nat.reduceEqDiff, ite_tt, ite_ff, eq_self, and_true, true_and, and_self, implies_true, Bool.true_eq_false, Bool.false_eq_true, decide_true, decide_false, decide_eq_true_eq, decide_eq_false_iff_not, ne_eq, not_true_eq_false, not_false_eq_true, Bool.not_eq_true', Bool.not_eq_false', beq_self_eq_true, Bool.not_true, Bool.not_false, List.getElem?_toArray, List.getElem?_cons_zero, List.getElem?_cons_succ, h0, h1, h5, h61, ↓aop_nilV, anilV_ptr, add_at, r0, r1, Int.add_sub_cancel, abin_rem, abin_quo, tmod_cast, tmod_cast2, tdiv_cast, hi1, hi2, hi3, cv_u8, kk1, kk2]
        clear h0 h1 h5 h61
        rintro fr ⟨h0, h1, h5, h79⟩
        refine bseq_chunk (L2 := []) (fun fr => fr 0 = .pointer (some ⟨q, 0, none⟩) ∧ fr 1 = .int .i64 m ∧ fr 6 = .int .i64 (y1 * 131 + y2 * 1117 + (k : Int) * 29 + (i3 : Int) * 53)) ?_ [.q 33, .q 34, .q 35, .q 36, .q 37, .q 38, .q 39, .l 40 false, .q 41, .q 42, .q 43, .q 44, .q 45] _ rfl ?_
        rotate_left
        · simp (disch := omega) only [↓stq, amv_at, ↓pln, plv, nilOk, Nat.reduceBEq, Bool.or_false, Bool.or_true, Bool.false_or, Bool.true_or, vls, inf, frs, mark_eq, ↓reduceIte, Nat.reduceEqDiff, ite_tt, ite_ff, eq_self, and_true, true_and, and_self, implies_true, Bool.true_eq_false, Bool.false_eq_true, decide_true, decide_false, decide_eq_true_eq, decide_eq_false_iff_not, ne_eq, not_true_eq_false, not_false_eq_true, Bool.not_eq_true', Bool.not_eq_false', beq_self_eq_true, Bool.not_true, Bool.not_false, List.getElem?_toArray, List.getElem?_cons_zero, List.getElem?_cons_succ, h0, h1, h5, h79, ↓aop_nilV, anilV_ptr, add_at, r0, r1, Int.add_sub_cancel, abin_rem, abin_quo, tmod_cast, tmod_cast2, tdiv_cast, hi1, hi2, hi3, cv_u8, kk1, kk2]
        clear h0 h1 h5 h79
        rintro fr ⟨h0, h1, h6⟩
        rw [bseq_nil]
        have hX : 0 ≤ (y1 * 131 + y2 * 1117 + (k : Int) * 29 + (i3 : Int) * 53) ∧ (y1 * 131 + y2 * 1117 + (k : Int) * 29 + (i3 : Int) * 53) < 4611686018427387904 := by omega
        generalize (y1 * 131 + y2 * 1117 + (k : Int) * 29 + (i3 : Int) * 53) = X at hX h6
        have hT : 0 ≤ X.tdiv 64 ∧ X.tdiv 64 ≤ X := ⟨Int.tdiv_nonneg hX.1 (by decide), by rw [Int.tdiv_eq_ediv_of_nonneg hX.1]; omega⟩
        generalize hTe : X.tdiv 64 = T at hT
        obtain ⟨Z, hZ, hxr⟩ := abin_xor_ex (P := Try.prog) (a := X) (b := T) (by omega) (by omega)
        simp (disch := omega) only [↓stq, amv_at, vls, inf, frs, mark_eq, ↓reduceIte, Nat.reduceEqDiff, ite_tt, ite_ff, eq_self, and_true, true_and, and_self, implies_true, Bool.true_eq_false, Bool.false_eq_true, decide_true, decide_false, decide_eq_true_eq, decide_eq_false_iff_not, ne_eq, not_true_eq_false, not_false_eq_true, Bool.not_eq_true', Bool.not_eq_false', beq_self_eq_true, Bool.not_true, Bool.not_false, List.getElem?_toArray, List.getElem?_cons_zero, List.getElem?_cons_succ, h0, h1, h6, abin_quo, hTe, hxr]
        rw [abin_rem _ _ _ _ _ _ (by omega)]
        simp (disch := omega) only [↓stq, amv_at, vls, inf, frs, mark_eq, ↓reduceIte, Nat.reduceEqDiff, ite_tt, ite_ff, eq_self, and_true, true_and, and_self, implies_true, Bool.true_eq_false, Bool.false_eq_true, decide_true, decide_false, decide_eq_true_eq, decide_eq_false_iff_not, ne_eq, not_true_eq_false, not_false_eq_true, Bool.not_eq_true', Bool.not_eq_false', beq_self_eq_true, Bool.not_true, Bool.not_false, List.getElem?_toArray, List.getElem?_cons_zero, List.getElem?_cons_succ, h0, h1, h6]
        exact fin _ (by omega) (by omega)
  · exact ⟨0, rfl, by omega, .inr rfl, lf⟩

/-- One of some numbers up to a bound. -/
theorem rdr_pos {N : Nat} (h : N ≤ 1000000000) : N ≤ 1000000000 := h

theorem of_c (B A : View) (L : List It) (q : Nat) (sl : Value) (N : Nat) (v : Value) (xs : List ByteArray) (hb : Bts B sl) (hN : N ≤ 1000000000) (hx : ∀ V, Led B (rdr q sl (N + 1) :: L) V → Sl strS V v xs) (h0 : Sl strS A v xs) (hl : 0 < xs.length) (l : Led B (rdr q sl N :: L) A) : ACalls Try.prog 57 #[.pointer (some ⟨q, 0, none⟩), v] A fun r V => ∃ i : Nat, ∃ h : i < xs.length, r = .string xs[i] ∧ Led B (rdr q sl (N + 1) :: L) V := by
  obtain ⟨a, c, rfl, _, hle⟩ := h0.slice
  refine acalls Try.func57 rfl (by kernel_rfl) ?_
  simp (disch := omega) only [↓stq, amv_at, vls, inf, frs, mark_eq, ↓reduceIte, Nat.reduceEqDiff, ite_tt, ite_ff, eq_self, and_true, true_and, and_self, implies_true, Bool.true_eq_false, Bool.false_eq_true, decide_true, decide_false, decide_eq_true_eq, decide_eq_false_iff_not, ne_eq, not_true_eq_false, not_false_eq_true, Bool.not_eq_true', Bool.not_eq_false', beq_self_eq_true, Bool.not_true, Bool.not_false, List.getElem?_toArray, List.getElem?_cons_zero, List.getElem?_cons_succ]
  refine (pick_c B A L q sl N xs.length hb hN ⟨by omega, by omega⟩ l).mono ?_
  rintro _ V ⟨i, rfl, hi0, hi1, l⟩
  obtain ⟨i, rfl⟩ := Int.eq_ofNat_of_zero_le hi0
  obtain ⟨ad, rfl, kk, _⟩ := (hx V l).str (i := i) (by omega)
  simp (disch := omega) only [↓stq, amv_at, vls, inf, frs, mark_eq, ↓reduceIte, Nat.reduceEqDiff, ite_tt, ite_ff, eq_self, and_true, true_and, and_self, implies_true, Bool.true_eq_false, Bool.false_eq_true, decide_true, decide_false, decide_eq_true_eq, decide_eq_false_iff_not, ne_eq, not_true_eq_false, not_false_eq_true, Bool.not_eq_true', Bool.not_eq_false', beq_self_eq_true, Bool.not_true, Bool.not_false, List.getElem?_toArray, List.getElem?_cons_zero, List.getElem?_cons_succ, kk]
  exact ⟨i, by omega, rfl, l⟩

theorem one_c (B A : View) (L : List It) (q : Nat) (sl : Value) (N : Nat) (v : Value) (xs : List Int) (hb : Bts B sl) (hN : N ≤ 1000000000) (hx : ∀ V, Led B (rdr q sl (N + 1) :: L) V → Sl intS V v xs) (h0 : Sl intS A v xs) (hl : 0 < xs.length) (l : Led B (rdr q sl N :: L) A) : ACalls Try.prog 53 #[.pointer (some ⟨q, 0, none⟩), v] A fun r V => ∃ i : Nat, ∃ h : i < xs.length, r = .int .i64 xs[i] ∧ Led B (rdr q sl (N + 1) :: L) V := by
  obtain ⟨a, c, rfl, _, hle⟩ := h0.slice
  refine acalls Try.func53 rfl (by kernel_rfl) ?_
  simp (disch := omega) only [↓stq, amv_at, vls, inf, frs, mark_eq, ↓reduceIte, Nat.reduceEqDiff, ite_tt, ite_ff, eq_self, and_true, true_and, and_self, implies_true, Bool.true_eq_false, Bool.false_eq_true, decide_true, decide_false, decide_eq_true_eq, decide_eq_false_iff_not, ne_eq, not_true_eq_false, not_false_eq_true, Bool.not_eq_true', Bool.not_eq_false', beq_self_eq_true, Bool.not_true, Bool.not_false, List.getElem?_toArray, List.getElem?_cons_zero, List.getElem?_cons_succ]
  refine (pick_c B A L q sl N xs.length hb hN ⟨by omega, by omega⟩ l).mono ?_
  rintro _ V ⟨i, rfl, hi0, hi1, l⟩
  obtain ⟨i, rfl⟩ := Int.eq_ofNat_of_zero_le hi0
  obtain ⟨ad, rfl, kk⟩ := (hx V l).int (i := i) (by omega)
  simp (disch := omega) only [↓stq, amv_at, vls, inf, frs, mark_eq, ↓reduceIte, Nat.reduceEqDiff, ite_tt, ite_ff, eq_self, and_true, true_and, and_self, implies_true, Bool.true_eq_false, Bool.false_eq_true, decide_true, decide_false, decide_eq_true_eq, decide_eq_false_iff_not, ne_eq, not_true_eq_false, not_false_eq_true, Bool.not_eq_true', Bool.not_eq_false', beq_self_eq_true, Bool.not_true, Bool.not_false, List.getElem?_toArray, List.getElem?_cons_zero, List.getElem?_cons_succ, kk]
  exact ⟨i, by omega, rfl, l⟩

end Go.Proofs.Ytggklaimbklefaa

/- Generators: marks, needs. -/
set_option maxHeartbeats 4000000
set_option synthInstance.maxHeartbeats 400000
set_option synthInstance.maxSize 4096
set_option linter.unusedSimpArgs false
set_option linter.unusedVariables false
namespace Go.Proofs.Ytggklaimbklefaa

set_option maxRecDepth 100000

theorem newReader_c (B A : View) (v : Value) (bs : List UInt8) (h : Sl byteS B v bs) : ACalls Try.prog 19 #[v] A fun r V => ∃ q sl, r = .pointer (some ⟨q, 0, none⟩) ∧ Bts B sl ∧ Led A [rdr q sl 0] V := by
  obtain ⟨a, c, rfl, hc, hl⟩ := h.slice
  refine acalls Try.func19 rfl (by kernel_rfl) ?_
  simp (disch := omega) only [↓stq, amv_at, vls, inf, frs, mark_eq, ↓reduceIte, Nat.reduceEqDiff, ite_tt, ite_ff, eq_self, and_true, true_and, and_self, implies_true, Bool.true_eq_false, Bool.false_eq_true, decide_true, decide_false, decide_eq_true_eq, decide_eq_false_iff_not, ne_eq, not_true_eq_false, not_false_eq_true, Bool.not_eq_true', Bool.not_eq_false', beq_self_eq_true, Bool.not_true, Bool.not_false, List.getElem?_toArray, List.getElem?_cons_zero, List.getElem?_cons_succ]
  refine ⟨fun e => ?_, fun e => ?_⟩ <;> simp (disch := omega) only [↓stq, amv_at, vls, inf, frs, mark_eq, ↓reduceIte, Nat.reduceEqDiff, ite_tt, ite_ff, eq_self, and_true, true_and, and_self, implies_true, Bool.true_eq_false, Bool.false_eq_true, decide_true, decide_false, decide_eq_true_eq, decide_eq_false_iff_not, ne_eq, not_true_eq_false, not_false_eq_true, Bool.not_eq_true', Bool.not_eq_false', beq_self_eq_true, Bool.not_true, Bool.not_false, List.getElem?_toArray, List.getElem?_cons_zero, List.getElem?_cons_succ]
  · refine led_box (Led.nil A) rfl fun q V he l => ?_
    simp (disch := omega) only [↓stq, amv_at, vls, inf, frs, mark_eq, ↓reduceIte, Nat.reduceEqDiff, ite_tt, ite_ff, eq_self, and_true, true_and, and_self, implies_true, Bool.true_eq_false, Bool.false_eq_true, decide_true, decide_false, decide_eq_true_eq, decide_eq_false_iff_not, ne_eq, not_true_eq_false, not_false_eq_true, Bool.not_eq_true', Bool.not_eq_false', beq_self_eq_true, Bool.not_true, Bool.not_false, List.getElem?_toArray, List.getElem?_cons_zero, List.getElem?_cons_succ]
    exact ⟨q, _, rfl, ⟨_, _, _, bs.take 2000, rfl, by rw [List.length_take]; omega, by rw [List.length_take]; omega, h.take (k := 2000) (by omega) 1⟩, l.upd (i := 0) (jt := rdr q _ 0) rfl rfl (Only.refl _ _) ⟨0, by omega, by omega, l.at (i := 0) rfl⟩⟩
  · refine led_box (Led.nil A) rfl fun q V he l => ?_
    simp (disch := omega) only [↓stq, amv_at, vls, inf, frs, mark_eq, ↓reduceIte, Nat.reduceEqDiff, ite_tt, ite_ff, eq_self, and_true, true_and, and_self, implies_true, Bool.true_eq_false, Bool.false_eq_true, decide_true, decide_false, decide_eq_true_eq, decide_eq_false_iff_not, ne_eq, not_true_eq_false, not_false_eq_true, Bool.not_eq_true', Bool.not_eq_false', beq_self_eq_true, Bool.not_true, Bool.not_false, List.getElem?_toArray, List.getElem?_cons_zero, List.getElem?_cons_succ]
    exact ⟨q, _, rfl, ⟨_, _, _, bs, rfl, rfl, by omega, h⟩, l.upd (i := 0) (jt := rdr q _ 0) rfl rfl (Only.refl _ _) ⟨0, by omega, by omega, l.at (i := 0) rfl⟩⟩

/-- A literal, read. -/
theorem lit_sl {α : Type} {S : Shape α} {V : View} {b : Nat} {e : TypeId} {xs : List α} {cells : List Value} {room : Nat} {c : Nat} (hb : V b = some ⟨e, cells, room, true⟩) (hc : xs.length ≤ c) (hl : xs.length ≤ 140737488355328) (hx : Elems S V xs cells) : Sl S V (.slice (some ⟨b, 0, none⟩) xs.length c) xs := by
  refine ⟨hl, _, c, rfl, hc, fun _ => ⟨_, cells, rfl, ?_, hx⟩⟩
  rw [part_at hb (by simp [hx.len]) (fun v hv => hx.one v (List.mem_of_mem_drop (List.mem_of_mem_take hv)))]
  simp [List.take_of_length_le, hx.len]

theorem ofLit_c {xs : List ByteArray} {n room c : Nat} {e : TypeId} {b : Nat} {cells : List Value} (B A : View) (L : List It) (q : Nat) (sl : Value) (N : Nat) (hb : Bts B sl) (hN : N ≤ 1000000000) (hcl : cells = xs.map Value.string) (hn : n = xs.length) (hc : n ≤ c) (hz : ∀ x, x ∈ xs → x.size ≤ 100) (h0 : 0 < n) (hl : n ≤ 1000) (l : Led B (bx b ⟨e, cells, room, true⟩ :: rdr q sl N :: L) A) : ACalls Try.prog 57 #[.pointer (some ⟨q, 0, none⟩), .slice (some ⟨b, 0, none⟩) n c] A fun r V => ∃ s : ByteArray, r = .string s ∧ s ∈ xs ∧ Led B (rdr q sl (N + 1) :: L) V := by
  subst hn; subst hcl
  have key : ∀ V, V b = some ⟨e, xs.map Value.string, room, true⟩ → Sl strS V (.slice (some ⟨b, 0, none⟩) xs.length c) xs := fun V hV => lit_sl hV hc (by omega) (elems_str _ fun x hx => by have := hz x hx; omega)
  refine (of_c B A (bx b ⟨e, xs.map Value.string, room, true⟩ :: L) q sl N _ xs hb hN (fun V l => key V (l.at (i := 1) rfl)) (key A (l.at (i := 0) rfl)) h0 (l.perm (List.Perm.swap ..))).mono ?_
  rintro _ V ⟨i, hi, rfl, l⟩
  exact ⟨_, rfl, List.getElem_mem hi, l.sub (.cons_cons _ (.cons _ (List.Sublist.refl _)))⟩
theorem oneLit_c {xs : List Int} {n room c : Nat} {e : TypeId} {b : Nat} {cells : List Value} (B A : View) (L : List It) (q : Nat) (sl : Value) (N : Nat) (hb : Bts B sl) (hN : N ≤ 1000000000) (hcl : cells = xs.map (Value.int .i64)) (hn : n = xs.length) (hc : n ≤ c) (hz : ∀ x, x ∈ xs → -9223372036854775808 ≤ x ∧ x < 9223372036854775808) (h0 : 0 < n) (hl : n ≤ 1000) (l : Led B (bx b ⟨e, cells, room, true⟩ :: rdr q sl N :: L) A) : ACalls Try.prog 53 #[.pointer (some ⟨q, 0, none⟩), .slice (some ⟨b, 0, none⟩) n c] A fun r V => ∃ s : Int, r = .int .i64 s ∧ s ∈ xs ∧ Led B (rdr q sl (N + 1) :: L) V := by
  subst hn; subst hcl
  have key : ∀ V, V b = some ⟨e, xs.map (Value.int .i64), room, true⟩ → Sl intS V (.slice (some ⟨b, 0, none⟩) xs.length c) xs := fun V hV => lit_sl hV hc (by omega) (elems_int _ hz)
  refine (one_c B A (bx b ⟨e, xs.map (Value.int .i64), room, true⟩ :: L) q sl N _ xs hb hN (fun V l => key V (l.at (i := 1) rfl)) (key A (l.at (i := 0) rfl)) h0 (l.perm (List.Perm.swap ..))).mono ?_
  rintro _ V ⟨i, hi, rfl, l⟩
  exact ⟨_, rfl, List.getElem_mem hi, l.sub (.cons_cons _ (.cons _ (List.Sublist.refl _)))⟩

theorem aModule_c (B A : View) (L : List It) (q : Nat) (sl : Value) (N : Nat) (hb : Bts B sl) (hN : N ≤ 1000000000) (l : Led B (rdr q sl N :: L) A) : ACalls Try.prog 78 #[.pointer (some ⟨q, 0, none⟩)] A fun r V => ∃ s : ByteArray, r = .string s ∧ s.size ≤ 100 ∧ Led B (rdr q sl (N + 1) :: L) V := by
  refine acalls Try.func78 rfl (by kernel_rfl) ?_
  simp (disch := omega) only [↓stq, amv_at, vls, inf, frs, mark_eq, ↓reduceIte, Nat.reduceEqDiff, ite_tt, ite_ff, eq_self, and_true, true_and, and_self, implies_true, Bool.true_eq_false, Bool.false_eq_true, decide_true, decide_false, decide_eq_true_eq, decide_eq_false_iff_not, ne_eq, not_true_eq_false, not_false_eq_true, Bool.not_eq_true', Bool.not_eq_false', beq_self_eq_true, Bool.not_true, Bool.not_false, List.getElem?_toArray, List.getElem?_cons_zero, List.getElem?_cons_succ]
  refine led_lit li54 (by omega) rfl (by simp [Value.cells, Value.oneCell']) l fun bl V _ l => ?_
  simp (disch := omega) only [↓stq, amv_at, vls, inf, frs, mark_eq, ↓reduceIte, Nat.reduceEqDiff, ite_tt, ite_ff, eq_self, and_true, true_and, and_self, implies_true, Bool.true_eq_false, Bool.false_eq_true, decide_true, decide_false, decide_eq_true_eq, decide_eq_false_iff_not, ne_eq, not_true_eq_false, not_false_eq_true, Bool.not_eq_true', Bool.not_eq_false', beq_self_eq_true, Bool.not_true, Bool.not_false, List.getElem?_toArray, List.getElem?_cons_zero, List.getElem?_cons_succ]
  refine (ofLit_c (n := 4) (c := 4) (xs := [_, _, _, _]) B V L q sl N hb hN rfl rfl (by omega) (by decide) (by omega) (by omega) l).mono ?_
  rintro _ V ⟨s, rfl, hs, l⟩
  simp (disch := omega) only [↓stq, amv_at, vls, inf, frs, mark_eq, ↓reduceIte, Nat.reduceEqDiff, ite_tt, ite_ff, eq_self, and_true, true_and, and_self, implies_true, Bool.true_eq_false, Bool.false_eq_true, decide_true, decide_false, decide_eq_true_eq, decide_eq_false_iff_not, ne_eq, not_true_eq_false, not_false_eq_true, Bool.not_eq_true', Bool.not_eq_false', beq_self_eq_true, Bool.not_true, Bool.not_false, List.getElem?_toArray, List.getElem?_cons_zero, List.getElem?_cons_succ]
  exact ⟨s, rfl, by revert s; decide, l⟩

def addT (xs : List ByteArray) (n : ByteArray) : List ByteArray := if n ∈ xs then xs else xs ++ [n]
theorem addText_c (B A : View) (L : List It) (fp : List Nat) (w : Value) (xs : List ByteArray) (n : ByteArray) (hz : n.size ≤ 140737488355328) (hl : xs.length ≤ 16777215) (l : Led B (osl 9 strO fp w xs :: L) A) : ACalls Try.prog 77 #[w, .string n] A fun r V => ∃ fp', Led B (osl 9 strO fp' r (addT xs n) :: L) V := by
  have hS : Sl strS A w xs := OSl.toS (show OSl 9 strO A fp w xs from l.at (i := 0) rfl)
  obtain ⟨a, c, rfl, _, _⟩ := hS.slice
  refine acalls Try.func77 rfl (by kernel_rfl) ?_
  simp (disch := omega) only [↓stq, amv_at, vls, inf, frs, mark_eq, ↓reduceIte, Nat.reduceEqDiff, ite_tt, ite_ff, eq_self, and_true, true_and, and_self, implies_true, Bool.true_eq_false, Bool.false_eq_true, decide_true, decide_false, decide_eq_true_eq, decide_eq_false_iff_not, ne_eq, not_true_eq_false, not_false_eq_true, Bool.not_eq_true', Bool.not_eq_false', beq_self_eq_true, Bool.not_true, Bool.not_false, List.getElem?_toArray, List.getElem?_cons_zero, List.getElem?_cons_succ]
  refine (spec_hasText_c A _ xs n hS).mono ?_
  rintro _ A ⟨rfl, rfl⟩
  simp (disch := omega) only [↓stq, amv_at, vls, inf, frs, mark_eq, ↓reduceIte, Nat.reduceEqDiff, ite_tt, ite_ff, eq_self, and_true, true_and, and_self, implies_true, Bool.true_eq_false, Bool.false_eq_true, decide_true, decide_false, decide_eq_true_eq, decide_eq_false_iff_not, ne_eq, not_true_eq_false, not_false_eq_true, Bool.not_eq_true', Bool.not_eq_false', beq_self_eq_true, Bool.not_true, Bool.not_false, List.getElem?_toArray, List.getElem?_cons_zero, List.getElem?_cons_succ]
  refine ⟨fun e => ?_, fun e => ?_⟩ <;> simp (disch := omega) only [↓stq, amv_at, vls, inf, frs, mark_eq, ↓reduceIte, Nat.reduceEqDiff, ite_tt, ite_ff, eq_self, and_true, true_and, and_self, implies_true, Bool.true_eq_false, Bool.false_eq_true, decide_true, decide_false, decide_eq_true_eq, decide_eq_false_iff_not, ne_eq, not_true_eq_false, not_false_eq_true, Bool.not_eq_true', Bool.not_eq_false', beq_self_eq_true, Bool.not_true, Bool.not_false, List.getElem?_toArray, List.getElem?_cons_zero, List.getElem?_cons_succ]
  · rw [addT, if_pos e]
    exact ⟨fp, l⟩
  · rw [addT, if_neg e]
    refine led_lit li54 (by omega) rfl (fun p hp => by rcases List.mem_singleton.1 hp with rfl; exact ⟨rfl, rfl⟩) l fun bl V3 _ l => ?_
    simp (disch := omega) only [↓stq, amv_at, vls, inf, frs, mark_eq, ↓reduceIte, Nat.reduceEqDiff, ite_tt, ite_ff, eq_self, and_true, true_and, and_self, implies_true, Bool.true_eq_false, Bool.false_eq_true, decide_true, decide_false, decide_eq_true_eq, decide_eq_false_iff_not, ne_eq, not_true_eq_false, not_false_eq_true, Bool.not_eq_true', Bool.not_eq_false', beq_self_eq_true, Bool.not_true, Bool.not_false, List.getElem?_toArray, List.getElem?_cons_zero, List.getElem?_cons_succ]
    refine led_app (O := strO) ap54_54 (by decide) l (i := 1) rfl (l.src1 (S := strS) (j := 0) rfl ⟨rfl, hz⟩) (by rw [List.length_singleton]; omega) fun fp2 w2 V4 _ l => ?_
    simp (disch := omega) only [↓stq, amv_at, vls, inf, frs, mark_eq, ↓reduceIte, Nat.reduceEqDiff, ite_tt, ite_ff, eq_self, and_true, true_and, and_self, implies_true, Bool.true_eq_false, Bool.false_eq_true, decide_true, decide_false, decide_eq_true_eq, decide_eq_false_iff_not, ne_eq, not_true_eq_false, not_false_eq_true, Bool.not_eq_true', Bool.not_eq_false', beq_self_eq_true, Bool.not_true, Bool.not_false, List.getElem?_toArray, List.getElem?_cons_zero, List.getElem?_cons_succ]
    exact ⟨fp2, l.tail⟩

theorem sortedTexts_c (A : View) (v : Value) (xs : List ByteArray) (h : Sl strS A v xs) (hsm : xs.length ≤ 1000000) : ACalls Try.prog 98 #[v] A fun r V => ∃ ys, NewSl 9 strO A r V ys ∧ ys.length ≤ xs.length ∧ ∀ y, y ∈ ys → y ∈ xs := by
  obtain ⟨a, c, rfl, hc, hl⟩ := h.slice
  refine acalls Try.func98 rfl (by kernel_rfl) ?_
  simp (disch := omega) only [↓stq, amv_at, vls, inf, frs, mark_eq, ↓reduceIte, Nat.reduceEqDiff, ite_tt, ite_ff, eq_self, and_true, true_and, and_self, implies_true, Bool.true_eq_false, Bool.false_eq_true, decide_true, decide_false, decide_eq_true_eq, decide_eq_false_iff_not, ne_eq, not_true_eq_false, not_false_eq_true, Bool.not_eq_true', Bool.not_eq_false', beq_self_eq_true, Bool.not_true, Bool.not_false, List.getElem?_toArray, List.getElem?_cons_zero, List.getElem?_cons_succ]
  refine led_lit0 (O := strO) li54 (Led.nil A) fun b V _ l => ?_
  simp (disch := omega) only [↓stq, amv_at, vls, inf, frs, mark_eq, ↓reduceIte, Nat.reduceEqDiff, ite_tt, ite_ff, eq_self, and_true, true_and, and_self, implies_true, Bool.true_eq_false, Bool.false_eq_true, decide_true, decide_false, decide_eq_true_eq, decide_eq_false_iff_not, ne_eq, not_true_eq_false, not_false_eq_true, Bool.not_eq_true', Bool.not_eq_false', beq_self_eq_true, Bool.not_true, Bool.not_false, List.getElem?_toArray, List.getElem?_cons_zero, List.getElem?_cons_succ]
  refine aloop (fun d fr V => ∃ (i : Nat) (fp : List Nat) (w : Value) (ys : List ByteArray), i ≤ xs.length ∧ d = xs.length - i ∧ Led A [osl 9 strO fp w ys] V ∧ fr 0 = .slice a xs.length c ∧ fr 3 = w ∧ fr 4 = .int .i64 i ∧ ys.length ≤ i ∧ ∀ y, y ∈ ys → y ∈ xs) xs.length ⟨0, _, _, [], by omega, by omega, l, by rfl, by rfl, by rfl, by simp, by simp⟩ ?_
  clear l
  rintro d fr V ⟨i, fp, w, ys, hi, rfl, l, h0, h3, h4, hyl, hy⟩
  simp (disch := omega) only [↓stq, amv_at, vls, inf, frs, mark_eq, ↓reduceIte, Nat.reduceEqDiff, ite_tt, ite_ff, eq_self, and_true, true_and, and_self, implies_true, Bool.true_eq_false, Bool.false_eq_true, decide_true, decide_false, decide_eq_true_eq, decide_eq_false_iff_not, ne_eq, not_true_eq_false, not_false_eq_true, Bool.not_eq_true', Bool.not_eq_false', beq_self_eq_true, Bool.not_true, Bool.not_false, List.getElem?_toArray, List.getElem?_cons_zero, List.getElem?_cons_succ, h0, h3, h4]
  refine ⟨fun e => ?_, fun e => ?_⟩
  · have hlt : i < xs.length := by omega
    have hS : Sl strS V w ys := OSl.toS (show OSl 9 strO V fp w ys from l.at (i := 0) rfl)
    obtain ⟨aw, cw, rfl, hcw, _⟩ := hS.slice
    obtain ⟨ad, rfl, kk, zk⟩ := (h.mono l.ext).str hlt
    simp (disch := omega) only [↓stq, amv_at, vls, inf, frs, mark_eq, ↓reduceIte, Nat.reduceEqDiff, ite_tt, ite_ff, eq_self, and_true, true_and, and_self, implies_true, Bool.true_eq_false, Bool.false_eq_true, decide_true, decide_false, decide_eq_true_eq, decide_eq_false_iff_not, ne_eq, not_true_eq_false, not_false_eq_true, Bool.not_eq_true', Bool.not_eq_false', beq_self_eq_true, Bool.not_true, Bool.not_false, List.getElem?_toArray, List.getElem?_cons_zero, List.getElem?_cons_succ, h0, h3, h4]
    refine aloop (fun d fr V' => ∃ j : Nat, j ≤ ys.length ∧ d = ys.length - j ∧ V' = V ∧ fr 0 = .slice (some ad) xs.length c ∧ fr 3 = .slice aw ys.length cw ∧ fr 4 = .int .i64 i ∧ fr 5 = .int .i64 j) ys.length ⟨0, by omega, by omega, rfl, h0, h3, h4, by rfl⟩ ?_
    clear h0 h3 h4
    rintro d fr V ⟨j, hj, rfl, rfl, h0, h3, h4, h5⟩
    simp (disch := omega) only [↓stq, amv_at, vls, inf, frs, mark_eq, ↓reduceIte, Nat.reduceEqDiff, ite_tt, ite_ff, eq_self, and_true, true_and, and_self, implies_true, Bool.true_eq_false, Bool.false_eq_true, decide_true, decide_false, decide_eq_true_eq, decide_eq_false_iff_not, ne_eq, not_true_eq_false, not_false_eq_true, Bool.not_eq_true', Bool.not_eq_false', beq_self_eq_true, Bool.not_true, Bool.not_false, List.getElem?_toArray, List.getElem?_cons_zero, List.getElem?_cons_succ, h0, h3, h4, h5]
    refine adraw_items [.q 0, .q 1, .q 2, .q 3, .q 4, .q 5, .q 6, .q 7, .l 8 false, .q 9, .q 10, .q 11, .l 12 false, .q 13, .q 14] (by kernel_rfl) (by kernel_rfl) ?_
    simp (disch := omega) only [↓stq, amv_at, ↓pln, plv, nilOk, Nat.reduceBEq, Bool.or_false, Bool.or_true, Bool.false_or, Bool.true_or, vls, inf, frs, mark_eq, ↓reduceIte, Nat.reduceEqDiff, ite_tt, ite_ff, eq_self, and_true, true_and, and_self, implies_true, Bool.true_eq_false, Bool.false_eq_true, decide_true, decide_false, decide_eq_true_eq, decide_eq_false_iff_not, ne_eq, not_true_eq_false, not_false_eq_true, Bool.not_eq_true', Bool.not_eq_false', beq_self_eq_true, Bool.not_true, Bool.not_false, List.getElem?_toArray, List.getElem?_cons_zero, List.getElem?_cons_succ, h0, h3, h4, h5]
    have hins : ∀ z, z ∈ ys.take j ++ [xs[i]] ++ ys.drop j → z ∈ xs := fun z hz => by
      rcases List.mem_append.1 hz with hz | hz
      · rcases List.mem_append.1 hz with hz | hz
        · exact hy z (List.mem_of_mem_take hz)
        · rw [List.mem_singleton.1 hz]; exact List.getElem_mem hlt
      · exact hy z (List.mem_of_mem_drop hz)
    refine ⟨fun e1 => ?_, fun e1 => ?_⟩
    · obtain ⟨ad2, rfl, kk2, _⟩ := hS.str (i := j) (by omega)
      simp (disch := omega) only [↓stq, amv_at, ↓pln, plv, nilOk, Nat.reduceBEq, Bool.or_false, Bool.or_true, Bool.false_or, Bool.true_or, vls, inf, frs, mark_eq, ↓reduceIte, Nat.reduceEqDiff, ite_tt, ite_ff, eq_self, and_true, true_and, and_self, implies_true, Bool.true_eq_false, Bool.false_eq_true, decide_true, decide_false, decide_eq_true_eq, decide_eq_false_iff_not, ne_eq, not_true_eq_false, not_false_eq_true, Bool.not_eq_true', Bool.not_eq_false', beq_self_eq_true, Bool.not_true, Bool.not_false, List.getElem?_toArray, List.getElem?_cons_zero, List.getElem?_cons_succ, h0, h3, h4, h5, kk, kk2, e1, abin_lts]
      refine ⟨fun e2 => ?_, fun e2 => ?_⟩ <;> simp (disch := omega) only [↓stq, amv_at, vls, inf, frs, mark_eq, ↓reduceIte, Nat.reduceEqDiff, ite_tt, ite_ff, eq_self, and_true, true_and, and_self, implies_true, Bool.true_eq_false, Bool.false_eq_true, decide_true, decide_false, decide_eq_true_eq, decide_eq_false_iff_not, ne_eq, not_true_eq_false, not_false_eq_true, Bool.not_eq_true', Bool.not_eq_false', beq_self_eq_true, Bool.not_true, Bool.not_false, List.getElem?_toArray, List.getElem?_cons_zero, List.getElem?_cons_succ, h0, h3, h4, h5]
      · exact ⟨_, by omega, j + 1, by omega, rfl, rfl⟩
      · refine adraw_items [.q 0, .q 1, .q 2, .q 3, .q 4, .q 5, .q 6, .q 7, .l 8 false, .q 9, .q 10, .q 11, .l 12 false, .q 13, .q 14] (by kernel_rfl) (by kernel_rfl) ?_
        have e3 : ¬ (j : Int) = ys.length := by omega
        simp (disch := omega) only [↓stq, amv_at, ↓pln, plv, nilOk, Nat.reduceBEq, Bool.or_false, Bool.or_true, Bool.false_or, Bool.true_or, vls, inf, frs, mark_eq, ↓reduceIte, Nat.reduceEqDiff, ite_tt, ite_ff, eq_self, and_true, true_and, and_self, implies_true, Bool.true_eq_false, Bool.false_eq_true, decide_true, decide_false, decide_eq_true_eq, decide_eq_false_iff_not, ne_eq, not_true_eq_false, not_false_eq_true, Bool.not_eq_true', Bool.not_eq_false', beq_self_eq_true, Bool.not_true, Bool.not_false, List.getElem?_toArray, List.getElem?_cons_zero, List.getElem?_cons_succ, h0, h3, h4, h5, kk, kk2, e3]
        refine ⟨fun e4 => ?_, fun e4 => ?_⟩
        · simp (disch := omega) only [↓stq, amv_at, vls, inf, frs, mark_eq, ↓reduceIte, Nat.reduceEqDiff, ite_tt, ite_ff, eq_self, and_true, true_and, and_self, implies_true, Bool.true_eq_false, Bool.false_eq_true, decide_true, decide_false, decide_eq_true_eq, decide_eq_false_iff_not, ne_eq, not_true_eq_false, not_false_eq_true, Bool.not_eq_true', Bool.not_eq_false', beq_self_eq_true, Bool.not_true, Bool.not_false, List.getElem?_toArray, List.getElem?_cons_zero, List.getElem?_cons_succ, h0, h3, h4, h5]
          refine adraw_items [.q 1, .q 2, .q 3, .q 5, .q 6, .q 7, .l 8 true, .q 11, .q 12, .q 13, .c 0 [], .c 4 [8], .c 9 [], .c 10 [], .c 14 [], .q 15] (by kernel_rfl) (by kernel_rfl) ?_
          simp (disch := omega) only [↓stq, amv_at, ↓pln, plv, nilOk, Nat.reduceBEq, Bool.or_false, Bool.or_true, Bool.false_or, Bool.true_or, vls, inf, frs, mark_eq, ↓reduceIte, Nat.reduceEqDiff, ite_tt, ite_ff, eq_self, and_true, true_and, and_self, implies_true, Bool.true_eq_false, Bool.false_eq_true, decide_true, decide_false, decide_eq_true_eq, decide_eq_false_iff_not, ne_eq, not_true_eq_false, not_false_eq_true, Bool.not_eq_true', Bool.not_eq_false', beq_self_eq_true, Bool.not_true, Bool.not_false, List.getElem?_toArray, List.getElem?_cons_zero, List.getElem?_cons_succ, h0, h3, h4, h5, kk]
          refine led_lit0 (O := strO) li54 l fun b1 V1 he l => ?_
          have kk := he.cell kk
          simp (disch := omega) only [↓stq, amv_at, ↓pln, plv, nilOk, Nat.reduceBEq, Bool.or_false, Bool.or_true, Bool.false_or, Bool.true_or, vls, inf, frs, mark_eq, ↓reduceIte, Nat.reduceEqDiff, ite_tt, ite_ff, eq_self, and_true, true_and, and_self, implies_true, Bool.true_eq_false, Bool.false_eq_true, decide_true, decide_false, decide_eq_true_eq, decide_eq_false_iff_not, ne_eq, not_true_eq_false, not_false_eq_true, Bool.not_eq_true', Bool.not_eq_false', beq_self_eq_true, Bool.not_true, Bool.not_false, List.getElem?_toArray, List.getElem?_cons_zero, List.getElem?_cons_succ, h0, h3, h4, h5, kk, false_implies]
          refine led_app (O := strO) ap54_54 (by decide) l (i := 0) rfl (Sl.srcOf ((OSl.toS (show OSl 9 strO V1 fp _ ys from l.at (i := 1) rfl)).take hj 1)) (by rw [List.length_nil, List.length_take]; omega) fun f1 w1 V2 _ l => ?_
          rw [List.nil_append] at l
          obtain ⟨_, hq, kk, _⟩ := (h.mono l.ext).str hlt
          obtain rfl := Option.some.inj hq
          simp (disch := omega) only [↓stq, amv_at, ↓pln, plv, nilOk, Nat.reduceBEq, Bool.or_false, Bool.or_true, Bool.false_or, Bool.true_or, vls, inf, frs, mark_eq, ↓reduceIte, Nat.reduceEqDiff, ite_tt, ite_ff, eq_self, and_true, true_and, and_self, implies_true, Bool.true_eq_false, Bool.false_eq_true, decide_true, decide_false, decide_eq_true_eq, decide_eq_false_iff_not, ne_eq, not_true_eq_false, not_false_eq_true, Bool.not_eq_true', Bool.not_eq_false', beq_self_eq_true, Bool.not_true, Bool.not_false, List.getElem?_toArray, List.getElem?_cons_zero, List.getElem?_cons_succ, h0, h3, h4, h5, kk, false_implies]
          refine led_lit li54 (by omega) rfl (fun p hp => by rcases List.mem_singleton.1 hp with rfl; exact ⟨rfl, rfl⟩) l fun bl V3 he l => ?_
          have kk := he.cell kk
          simp (disch := omega) only [↓stq, amv_at, ↓pln, plv, nilOk, Nat.reduceBEq, Bool.or_false, Bool.or_true, Bool.false_or, Bool.true_or, vls, inf, frs, mark_eq, ↓reduceIte, Nat.reduceEqDiff, ite_tt, ite_ff, eq_self, and_true, true_and, and_self, implies_true, Bool.true_eq_false, Bool.false_eq_true, decide_true, decide_false, decide_eq_true_eq, decide_eq_false_iff_not, ne_eq, not_true_eq_false, not_false_eq_true, Bool.not_eq_true', Bool.not_eq_false', beq_self_eq_true, Bool.not_true, Bool.not_false, List.getElem?_toArray, List.getElem?_cons_zero, List.getElem?_cons_succ, h0, h3, h4, h5, kk, false_implies]
          refine led_app (O := strO) ap54_54 (by decide) l (i := 1) rfl (l.src1 (S := strS) (j := 0) rfl ⟨rfl, zk⟩) (by rw [List.length_singleton, List.length_take]; omega) fun f2 w2 V4 _ l => ?_
          obtain ⟨_, hq, kk, _⟩ := (h.mono l.ext).str hlt
          obtain rfl := Option.some.inj hq
          simp (disch := omega) only [↓stq, amv_at, ↓pln, plv, nilOk, Nat.reduceBEq, Bool.or_false, Bool.or_true, Bool.false_or, Bool.true_or, vls, inf, frs, mark_eq, ↓reduceIte, Nat.reduceEqDiff, ite_tt, ite_ff, eq_self, and_true, true_and, and_self, implies_true, Bool.true_eq_false, Bool.false_eq_true, decide_true, decide_false, decide_eq_true_eq, decide_eq_false_iff_not, ne_eq, not_true_eq_false, not_false_eq_true, Bool.not_eq_true', Bool.not_eq_false', beq_self_eq_true, Bool.not_true, Bool.not_false, List.getElem?_toArray, List.getElem?_cons_zero, List.getElem?_cons_succ, h0, h3, h4, h5, kk, false_implies]
          refine led_app (O := strO) ap54_54 (by decide) l (i := 1) rfl (Sl.srcOf ((OSl.toS (show OSl 9 strO V4 fp _ ys from l.at (i := 2) rfl)).drop (k := j) hj)) (by rw [List.length_append, List.length_singleton, List.length_take, List.length_drop]; omega) fun f3 w3 V5 _ l => ?_
          obtain ⟨_, hq, kk, _⟩ := (h.mono l.ext).str hlt
          obtain rfl := Option.some.inj hq
          simp (disch := omega) only [↓stq, amv_at, ↓pln, plv, nilOk, Nat.reduceBEq, Bool.or_false, Bool.or_true, Bool.false_or, Bool.true_or, vls, inf, frs, mark_eq, ↓reduceIte, Nat.reduceEqDiff, ite_tt, ite_ff, eq_self, and_true, true_and, and_self, implies_true, Bool.true_eq_false, Bool.false_eq_true, decide_true, decide_false, decide_eq_true_eq, decide_eq_false_iff_not, ne_eq, not_true_eq_false, not_false_eq_true, Bool.not_eq_true', Bool.not_eq_false', beq_self_eq_true, Bool.not_true, Bool.not_false, List.getElem?_toArray, List.getElem?_cons_zero, List.getElem?_cons_succ, h0, h3, h4, h5, kk, false_implies]
          exact ⟨_, by omega, i + 1, f3, w3, _, by omega, rfl, l.sub (.cons _ (.cons_cons _ (.cons _ .slnil))), rfl, rfl, by rw [List.length_append, List.length_append, List.length_singleton, List.length_take, List.length_drop]; omega, hins⟩
        · simp (disch := omega) only [↓stq, amv_at, vls, inf, frs, mark_eq, ↓reduceIte, Nat.reduceEqDiff, ite_tt, ite_ff, eq_self, and_true, true_and, and_self, implies_true, Bool.true_eq_false, Bool.false_eq_true, decide_true, decide_false, decide_eq_true_eq, decide_eq_false_iff_not, ne_eq, not_true_eq_false, not_false_eq_true, Bool.not_eq_true', Bool.not_eq_false', beq_self_eq_true, Bool.not_true, Bool.not_false, List.getElem?_toArray, List.getElem?_cons_zero, List.getElem?_cons_succ, h0, h3, h4, h5]
          exact ⟨_, by omega, i + 1, fp, _, ys, by omega, rfl, l, rfl, rfl, by omega, hy⟩
    · simp (disch := omega) only [↓stq, amv_at, ↓pln, plv, nilOk, Nat.reduceBEq, Bool.or_false, Bool.or_true, Bool.false_or, Bool.true_or, vls, inf, frs, mark_eq, ↓reduceIte, Nat.reduceEqDiff, ite_tt, ite_ff, eq_self, and_true, true_and, and_self, implies_true, Bool.true_eq_false, Bool.false_eq_true, decide_true, decide_false, decide_eq_true_eq, decide_eq_false_iff_not, ne_eq, not_true_eq_false, not_false_eq_true, Bool.not_eq_true', Bool.not_eq_false', beq_self_eq_true, Bool.not_true, Bool.not_false, List.getElem?_toArray, List.getElem?_cons_zero, List.getElem?_cons_succ, h0, h3, h4, h5, kk, e1]
      refine adraw_items [.q 0, .q 1, .q 2, .q 3, .q 4, .q 5, .q 6, .q 7, .l 8 false, .q 9, .q 10, .q 11, .l 12 false, .q 13, .q 14] (by kernel_rfl) (by kernel_rfl) ?_
      have e3 : (j : Int) = ys.length := by omega
      simp (disch := omega) only [↓stq, amv_at, ↓pln, plv, nilOk, Nat.reduceBEq, Bool.or_false, Bool.or_true, Bool.false_or, Bool.true_or, vls, inf, frs, mark_eq, ↓reduceIte, Nat.reduceEqDiff, ite_tt, ite_ff, eq_self, and_true, true_and, and_self, implies_true, Bool.true_eq_false, Bool.false_eq_true, decide_true, decide_false, decide_eq_true_eq, decide_eq_false_iff_not, ne_eq, not_true_eq_false, not_false_eq_true, Bool.not_eq_true', Bool.not_eq_false', beq_self_eq_true, Bool.not_true, Bool.not_false, List.getElem?_toArray, List.getElem?_cons_zero, List.getElem?_cons_succ, h0, h3, h4, h5, kk, e3]
      simp (disch := omega) only [↓stq, amv_at, vls, inf, frs, mark_eq, ↓reduceIte, Nat.reduceEqDiff, ite_tt, ite_ff, eq_self, and_true, true_and, and_self, implies_true, Bool.true_eq_false, Bool.false_eq_true, decide_true, decide_false, decide_eq_true_eq, decide_eq_false_iff_not, ne_eq, not_true_eq_false, not_false_eq_true, Bool.not_eq_true', Bool.not_eq_false', beq_self_eq_true, Bool.not_true, Bool.not_false, List.getElem?_toArray, List.getElem?_cons_zero, List.getElem?_cons_succ, h0, h3, h4, h5]
      refine adraw_items [.q 1, .q 2, .q 3, .q 5, .q 6, .q 7, .l 8 true, .q 11, .q 12, .q 13, .c 0 [], .c 4 [8], .c 9 [], .c 10 [], .c 14 [], .q 15] (by kernel_rfl) (by kernel_rfl) ?_
      simp (disch := omega) only [↓stq, amv_at, ↓pln, plv, nilOk, Nat.reduceBEq, Bool.or_false, Bool.or_true, Bool.false_or, Bool.true_or, vls, inf, frs, mark_eq, ↓reduceIte, Nat.reduceEqDiff, ite_tt, ite_ff, eq_self, and_true, true_and, and_self, implies_true, Bool.true_eq_false, Bool.false_eq_true, decide_true, decide_false, decide_eq_true_eq, decide_eq_false_iff_not, ne_eq, not_true_eq_false, not_false_eq_true, Bool.not_eq_true', Bool.not_eq_false', beq_self_eq_true, Bool.not_true, Bool.not_false, List.getElem?_toArray, List.getElem?_cons_zero, List.getElem?_cons_succ, h0, h3, h4, h5, kk]
      refine led_lit0 (O := strO) li54 l fun b1 V1 he l => ?_
      have kk := he.cell kk
      simp (disch := omega) only [↓stq, amv_at, ↓pln, plv, nilOk, Nat.reduceBEq, Bool.or_false, Bool.or_true, Bool.false_or, Bool.true_or, vls, inf, frs, mark_eq, ↓reduceIte, Nat.reduceEqDiff, ite_tt, ite_ff, eq_self, and_true, true_and, and_self, implies_true, Bool.true_eq_false, Bool.false_eq_true, decide_true, decide_false, decide_eq_true_eq, decide_eq_false_iff_not, ne_eq, not_true_eq_false, not_false_eq_true, Bool.not_eq_true', Bool.not_eq_false', beq_self_eq_true, Bool.not_true, Bool.not_false, List.getElem?_toArray, List.getElem?_cons_zero, List.getElem?_cons_succ, h0, h3, h4, h5, kk, false_implies]
      refine led_app (O := strO) ap54_54 (by decide) l (i := 0) rfl (Sl.srcOf ((OSl.toS (show OSl 9 strO V1 fp _ ys from l.at (i := 1) rfl)).take hj 1)) (by rw [List.length_nil, List.length_take]; omega) fun f1 w1 V2 _ l => ?_
      rw [List.nil_append] at l
      obtain ⟨_, hq, kk, _⟩ := (h.mono l.ext).str hlt
      obtain rfl := Option.some.inj hq
      simp (disch := omega) only [↓stq, amv_at, ↓pln, plv, nilOk, Nat.reduceBEq, Bool.or_false, Bool.or_true, Bool.false_or, Bool.true_or, vls, inf, frs, mark_eq, ↓reduceIte, Nat.reduceEqDiff, ite_tt, ite_ff, eq_self, and_true, true_and, and_self, implies_true, Bool.true_eq_false, Bool.false_eq_true, decide_true, decide_false, decide_eq_true_eq, decide_eq_false_iff_not, ne_eq, not_true_eq_false, not_false_eq_true, Bool.not_eq_true', Bool.not_eq_false', beq_self_eq_true, Bool.not_true, Bool.not_false, List.getElem?_toArray, List.getElem?_cons_zero, List.getElem?_cons_succ, h0, h3, h4, h5, kk, false_implies]
      refine led_lit li54 (by omega) rfl (fun p hp => by rcases List.mem_singleton.1 hp with rfl; exact ⟨rfl, rfl⟩) l fun bl V3 he l => ?_
      have kk := he.cell kk
      simp (disch := omega) only [↓stq, amv_at, ↓pln, plv, nilOk, Nat.reduceBEq, Bool.or_false, Bool.or_true, Bool.false_or, Bool.true_or, vls, inf, frs, mark_eq, ↓reduceIte, Nat.reduceEqDiff, ite_tt, ite_ff, eq_self, and_true, true_and, and_self, implies_true, Bool.true_eq_false, Bool.false_eq_true, decide_true, decide_false, decide_eq_true_eq, decide_eq_false_iff_not, ne_eq, not_true_eq_false, not_false_eq_true, Bool.not_eq_true', Bool.not_eq_false', beq_self_eq_true, Bool.not_true, Bool.not_false, List.getElem?_toArray, List.getElem?_cons_zero, List.getElem?_cons_succ, h0, h3, h4, h5, kk, false_implies]
      refine led_app (O := strO) ap54_54 (by decide) l (i := 1) rfl (l.src1 (S := strS) (j := 0) rfl ⟨rfl, zk⟩) (by rw [List.length_singleton, List.length_take]; omega) fun f2 w2 V4 _ l => ?_
      obtain ⟨_, hq, kk, _⟩ := (h.mono l.ext).str hlt
      obtain rfl := Option.some.inj hq
      simp (disch := omega) only [↓stq, amv_at, ↓pln, plv, nilOk, Nat.reduceBEq, Bool.or_false, Bool.or_true, Bool.false_or, Bool.true_or, vls, inf, frs, mark_eq, ↓reduceIte, Nat.reduceEqDiff, ite_tt, ite_ff, eq_self, and_true, true_and, and_self, implies_true, Bool.true_eq_false, Bool.false_eq_true, decide_true, decide_false, decide_eq_true_eq, decide_eq_false_iff_not, ne_eq, not_true_eq_false, not_false_eq_true, Bool.not_eq_true', Bool.not_eq_false', beq_self_eq_true, Bool.not_true, Bool.not_false, List.getElem?_toArray, List.getElem?_cons_zero, List.getElem?_cons_succ, h0, h3, h4, h5, kk, false_implies]
      refine led_app (O := strO) ap54_54 (by decide) l (i := 1) rfl (Sl.srcOf ((OSl.toS (show OSl 9 strO V4 fp _ ys from l.at (i := 2) rfl)).drop (k := j) hj)) (by rw [List.length_append, List.length_singleton, List.length_take, List.length_drop]; omega) fun f3 w3 V5 _ l => ?_
      obtain ⟨_, hq, kk, _⟩ := (h.mono l.ext).str hlt
      obtain rfl := Option.some.inj hq
      simp (disch := omega) only [↓stq, amv_at, ↓pln, plv, nilOk, Nat.reduceBEq, Bool.or_false, Bool.or_true, Bool.false_or, Bool.true_or, vls, inf, frs, mark_eq, ↓reduceIte, Nat.reduceEqDiff, ite_tt, ite_ff, eq_self, and_true, true_and, and_self, implies_true, Bool.true_eq_false, Bool.false_eq_true, decide_true, decide_false, decide_eq_true_eq, decide_eq_false_iff_not, ne_eq, not_true_eq_false, not_false_eq_true, Bool.not_eq_true', Bool.not_eq_false', beq_self_eq_true, Bool.not_true, Bool.not_false, List.getElem?_toArray, List.getElem?_cons_zero, List.getElem?_cons_succ, h0, h3, h4, h5, kk, false_implies]
      exact ⟨_, by omega, i + 1, f3, w3, _, by omega, rfl, l.sub (.cons _ (.cons_cons _ (.cons _ .slnil))), rfl, rfl, by rw [List.length_append, List.length_append, List.length_singleton, List.length_take, List.length_drop]; omega, hins⟩
  · have hyl2 := hyl
    simp (disch := omega) only [↓stq, amv_at, vls, inf, frs, mark_eq, ↓reduceIte, Nat.reduceEqDiff, ite_tt, ite_ff, eq_self, and_true, true_and, and_self, implies_true, Bool.true_eq_false, Bool.false_eq_true, decide_true, decide_false, decide_eq_true_eq, decide_eq_false_iff_not, ne_eq, not_true_eq_false, not_false_eq_true, Bool.not_eq_true', Bool.not_eq_false', beq_self_eq_true, Bool.not_true, Bool.not_false, List.getElem?_toArray, List.getElem?_cons_zero, List.getElem?_cons_succ, h0, h3, h4]
    exact ⟨ys, ⟨fp, l⟩, by omega, hy⟩

theorem someMarks_c (B A : View) (L : List It) (q : Nat) (sl : Value) (N : Nat) (hb : Bts B sl) (hN : N ≤ 900000000) (l : Led B (rdr q sl N :: L) A) : ACalls Try.prog 79 #[.pointer (some ⟨q, 0, none⟩)] A fun r V => ∃ fp ys, ys.length ≤ 3 ∧ (∀ y, y ∈ ys → y.size ≤ 100) ∧ Led B (osl 9 strO fp r ys :: rdr q sl (N + 4) :: L) V := by
  refine acalls Try.func79 rfl (by kernel_rfl) ?_
  simp (disch := omega) only [↓stq, amv_at, vls, inf, frs, mark_eq, ↓reduceIte, Nat.reduceEqDiff, ite_tt, ite_ff, eq_self, and_true, true_and, and_self, implies_true, Bool.true_eq_false, Bool.false_eq_true, decide_true, decide_false, decide_eq_true_eq, decide_eq_false_iff_not, ne_eq, not_true_eq_false, not_false_eq_true, Bool.not_eq_true', Bool.not_eq_false', beq_self_eq_true, Bool.not_true, Bool.not_false, List.getElem?_toArray, List.getElem?_cons_zero, List.getElem?_cons_succ]
  refine led_lit0 (O := strO) li54 l fun b V _ l => ?_
  simp (disch := omega) only [↓stq, amv_at, vls, inf, frs, mark_eq, ↓reduceIte, Nat.reduceEqDiff, ite_tt, ite_ff, eq_self, and_true, true_and, and_self, implies_true, Bool.true_eq_false, Bool.false_eq_true, decide_true, decide_false, decide_eq_true_eq, decide_eq_false_iff_not, ne_eq, not_true_eq_false, not_false_eq_true, Bool.not_eq_true', Bool.not_eq_false', beq_self_eq_true, Bool.not_true, Bool.not_false, List.getElem?_toArray, List.getElem?_cons_zero, List.getElem?_cons_succ]
  refine led_lit li90 (by omega) rfl (by simp [Value.cells, Value.oneCell']) l fun bl V _ l => ?_
  simp (disch := omega) only [↓stq, amv_at, vls, inf, frs, mark_eq, ↓reduceIte, Nat.reduceEqDiff, ite_tt, ite_ff, eq_self, and_true, true_and, and_self, implies_true, Bool.true_eq_false, Bool.false_eq_true, decide_true, decide_false, decide_eq_true_eq, decide_eq_false_iff_not, ne_eq, not_true_eq_false, not_false_eq_true, Bool.not_eq_true', Bool.not_eq_false', beq_self_eq_true, Bool.not_true, Bool.not_false, List.getElem?_toArray, List.getElem?_cons_zero, List.getElem?_cons_succ]
  refine (oneLit_c (n := 5) (c := 5) (xs := [_, _, _, _, _]) B V (osl 9 strO [b] _ [] :: L) q sl N hb (by omega) rfl rfl (by omega) (by decide) (by omega) (by omega) (l.perm ((List.Perm.swap ..).cons _))).mono ?_
  rintro _ V ⟨s, rfl, hs, l⟩
  have hs3 : 0 ≤ s ∧ s ≤ 3 := by revert s; decide
  obtain ⟨n, rfl⟩ := Int.eq_ofNat_of_zero_le hs3.1
  simp (disch := omega) only [↓stq, amv_at, vls, inf, frs, mark_eq, ↓reduceIte, Nat.reduceEqDiff, ite_tt, ite_ff, eq_self, and_true, true_and, and_self, implies_true, Bool.true_eq_false, Bool.false_eq_true, decide_true, decide_false, decide_eq_true_eq, decide_eq_false_iff_not, ne_eq, not_true_eq_false, not_false_eq_true, Bool.not_eq_true', Bool.not_eq_false', beq_self_eq_true, Bool.not_true, Bool.not_false, List.getElem?_toArray, List.getElem?_cons_zero, List.getElem?_cons_succ]
  refine aloop (fun d fr V => ∃ (k : Nat) (fp : List Nat) (w : Value) (ys : List ByteArray), d = k ∧ k + ys.length = n ∧ Led B (osl 9 strO fp w ys :: rdr q sl (N + 1 + ys.length) :: L) V ∧ fr 0 = .pointer (some ⟨q, 0, none⟩) ∧ fr 3 = w ∧ fr 4 = .int .i64 k ∧ ∀ y, y ∈ ys → y.size ≤ 100) n ⟨n, _, _, [], rfl, by simp, l.perm (List.Perm.swap ..), by rfl, by rfl, by rfl, by simp⟩ ?_
  clear l
  rintro k fr V ⟨_, fp, w, ys, rfl, hk, l, h0, h3, h4, hy⟩
  simp (disch := omega) only [↓stq, amv_at, vls, inf, frs, mark_eq, ↓reduceIte, Nat.reduceEqDiff, ite_tt, ite_ff, eq_self, and_true, true_and, and_self, implies_true, Bool.true_eq_false, Bool.false_eq_true, decide_true, decide_false, decide_eq_true_eq, decide_eq_false_iff_not, ne_eq, not_true_eq_false, not_false_eq_true, Bool.not_eq_true', Bool.not_eq_false', beq_self_eq_true, Bool.not_true, Bool.not_false, List.getElem?_toArray, List.getElem?_cons_zero, List.getElem?_cons_succ, h0, h3, h4]
  refine ⟨fun e => ?_, fun e => ?_⟩ <;> simp (disch := omega) only [↓stq, amv_at, vls, inf, frs, mark_eq, ↓reduceIte, Nat.reduceEqDiff, ite_tt, ite_ff, eq_self, and_true, true_and, and_self, implies_true, Bool.true_eq_false, Bool.false_eq_true, decide_true, decide_false, decide_eq_true_eq, decide_eq_false_iff_not, ne_eq, not_true_eq_false, not_false_eq_true, Bool.not_eq_true', Bool.not_eq_false', beq_self_eq_true, Bool.not_true, Bool.not_false, List.getElem?_toArray, List.getElem?_cons_zero, List.getElem?_cons_succ, h0, h3, h4]
  · refine led_lit li54 (by omega) rfl (by simp [Value.cells, Value.oneCell']) l fun bl V _ l => ?_
    simp (disch := omega) only [↓stq, amv_at, vls, inf, frs, mark_eq, ↓reduceIte, Nat.reduceEqDiff, ite_tt, ite_ff, eq_self, and_true, true_and, and_self, implies_true, Bool.true_eq_false, Bool.false_eq_true, decide_true, decide_false, decide_eq_true_eq, decide_eq_false_iff_not, ne_eq, not_true_eq_false, not_false_eq_true, Bool.not_eq_true', Bool.not_eq_false', beq_self_eq_true, Bool.not_true, Bool.not_false, List.getElem?_toArray, List.getElem?_cons_zero, List.getElem?_cons_succ, h0, h3, h4]
    refine (ofLit_c (n := 6) (c := 6) (xs := [_, _, _, _, _, _]) B V (osl 9 strO fp w ys :: L) q sl (N + 1 + ys.length) hb (by omega) rfl rfl (by omega) (by decide) (by omega) (by omega) (l.perm ((List.Perm.swap ..).cons _))).mono ?_
    rintro _ V ⟨s, rfl, hs, l⟩
    have hsz : s.size ≤ 100 := by revert s; decide
    simp (disch := omega) only [↓stq, amv_at, vls, inf, frs, mark_eq, ↓reduceIte, Nat.reduceEqDiff, ite_tt, ite_ff, eq_self, and_true, true_and, and_self, implies_true, Bool.true_eq_false, Bool.false_eq_true, decide_true, decide_false, decide_eq_true_eq, decide_eq_false_iff_not, ne_eq, not_true_eq_false, not_false_eq_true, Bool.not_eq_true', Bool.not_eq_false', beq_self_eq_true, Bool.not_true, Bool.not_false, List.getElem?_toArray, List.getElem?_cons_zero, List.getElem?_cons_succ, h0, h3, h4]
    refine led_lit li54 (by omega) rfl (fun p hp => by rcases List.mem_singleton.1 hp with rfl; exact ⟨rfl, rfl⟩) l fun bl V3 _ l => ?_
    simp (disch := omega) only [↓stq, amv_at, vls, inf, frs, mark_eq, ↓reduceIte, Nat.reduceEqDiff, ite_tt, ite_ff, eq_self, and_true, true_and, and_self, implies_true, Bool.true_eq_false, Bool.false_eq_true, decide_true, decide_false, decide_eq_true_eq, decide_eq_false_iff_not, ne_eq, not_true_eq_false, not_false_eq_true, Bool.not_eq_true', Bool.not_eq_false', beq_self_eq_true, Bool.not_true, Bool.not_false, List.getElem?_toArray, List.getElem?_cons_zero, List.getElem?_cons_succ, h0, h3, h4]
    refine led_app (O := strO) ap54_54 (by decide) l (i := 2) rfl (l.src1 (S := strS) (j := 0) rfl ⟨rfl, by omega⟩) (by rw [List.length_singleton]; omega) fun fp2 w2 V4 _ l => ?_
    simp (disch := omega) only [↓stq, amv_at, vls, inf, frs, mark_eq, ↓reduceIte, Nat.reduceEqDiff, ite_tt, ite_ff, eq_self, and_true, true_and, and_self, implies_true, Bool.true_eq_false, Bool.false_eq_true, decide_true, decide_false, decide_eq_true_eq, decide_eq_false_iff_not, ne_eq, not_true_eq_false, not_false_eq_true, Bool.not_eq_true', Bool.not_eq_false', beq_self_eq_true, Bool.not_true, Bool.not_false, List.getElem?_toArray, List.getElem?_cons_zero, List.getElem?_cons_succ, h0, h3, h4]
    refine ⟨k - 1, by omega, k - 1, fp2, _, ys ++ [s], rfl, by rw [List.length_append, List.length_singleton]; omega, ?_, rfl, by congr 1; omega, fun y hy2 => ?_⟩
    · rw [List.length_append, List.length_singleton]
      exact (l.tail).perm (List.Perm.swap ..)
    · rcases List.mem_append.1 hy2 with hy2 | hy2
      · exact hy y hy2
      · rw [List.mem_singleton.1 hy2]; exact hsz
  · refine (sortedTexts_c V _ ys (OSl.toS (show OSl 9 strO V fp _ ys from l.at (i := 0) rfl)) (by omega)).mono ?_
    rintro r V2 ⟨zs, ⟨fq, l2⟩, hz1, hz2⟩
    simp (disch := omega) only [↓stq, amv_at, vls, inf, frs, mark_eq, ↓reduceIte, Nat.reduceEqDiff, ite_tt, ite_ff, eq_self, and_true, true_and, and_self, implies_true, Bool.true_eq_false, Bool.false_eq_true, decide_true, decide_false, decide_eq_true_eq, decide_eq_false_iff_not, ne_eq, not_true_eq_false, not_false_eq_true, Bool.not_eq_true', Bool.not_eq_false', beq_self_eq_true, Bool.not_true, Bool.not_false, List.getElem?_toArray, List.getElem?_cons_zero, List.getElem?_cons_succ, h0, h3, h4]
    exact ⟨fq, zs, by omega, fun y hy2 => hy y (hz2 y hy2), ((((rdr_more (l.tail) (M := N + 4) (by omega)).append l2)))⟩

theorem someNeeds_c (B A : View) (L : List It) (q : Nat) (sl : Value) (N : Nat) (v : Value) (xs : List ByteArray) (hb : Bts B sl) (hN : N ≤ 900000000) (hx : ∀ V, Led B L V → Sl strS V v xs) (l : Led B (rdr q sl N :: L) A) : ACalls Try.prog 54 #[.pointer (some ⟨q, 0, none⟩), v] A fun r V => ∃ fp ys, ys.length ≤ 3 ∧ (∀ y, y ∈ ys → y ∈ xs) ∧ Led B (osl 9 strO fp r ys :: rdr q sl (N + 4) :: L) V := by
  obtain ⟨a, c, rfl, _, hle⟩ := (hx A l.tail).slice
  refine acalls Try.func54 rfl (by kernel_rfl) ?_
  simp (disch := omega) only [↓stq, amv_at, vls, inf, frs, mark_eq, ↓reduceIte, Nat.reduceEqDiff, ite_tt, ite_ff, eq_self, and_true, true_and, and_self, implies_true, Bool.true_eq_false, Bool.false_eq_true, decide_true, decide_false, decide_eq_true_eq, decide_eq_false_iff_not, ne_eq, not_true_eq_false, not_false_eq_true, Bool.not_eq_true', Bool.not_eq_false', beq_self_eq_true, Bool.not_true, Bool.not_false, List.getElem?_toArray, List.getElem?_cons_zero, List.getElem?_cons_succ]
  refine led_lit0 (O := strO) li54 l fun b V _ l => ?_
  simp (disch := omega) only [↓stq, amv_at, vls, inf, frs, mark_eq, ↓reduceIte, Nat.reduceEqDiff, ite_tt, ite_ff, eq_self, and_true, true_and, and_self, implies_true, Bool.true_eq_false, Bool.false_eq_true, decide_true, decide_false, decide_eq_true_eq, decide_eq_false_iff_not, ne_eq, not_true_eq_false, not_false_eq_true, Bool.not_eq_true', Bool.not_eq_false', beq_self_eq_true, Bool.not_true, Bool.not_false, List.getElem?_toArray, List.getElem?_cons_zero, List.getElem?_cons_succ]
  refine ⟨fun e1 => ?_, fun e1 => ?_⟩ <;> simp (disch := omega) only [↓stq, amv_at, vls, inf, frs, mark_eq, ↓reduceIte, Nat.reduceEqDiff, ite_tt, ite_ff, eq_self, and_true, true_and, and_self, implies_true, Bool.true_eq_false, Bool.false_eq_true, decide_true, decide_false, decide_eq_true_eq, decide_eq_false_iff_not, ne_eq, not_true_eq_false, not_false_eq_true, Bool.not_eq_true', Bool.not_eq_false', beq_self_eq_true, Bool.not_true, Bool.not_false, List.getElem?_toArray, List.getElem?_cons_zero, List.getElem?_cons_succ]
  · exact ⟨_, [], by simp, by simp, (rdr_more (l.perm (List.Perm.swap ..)) (M := N + 4) (by omega)).perm (List.Perm.swap ..)⟩
  refine led_lit li90 (by omega) rfl (by simp [Value.cells, Value.oneCell']) l fun bl V _ l => ?_
  simp (disch := omega) only [↓stq, amv_at, vls, inf, frs, mark_eq, ↓reduceIte, Nat.reduceEqDiff, ite_tt, ite_ff, eq_self, and_true, true_and, and_self, implies_true, Bool.true_eq_false, Bool.false_eq_true, decide_true, decide_false, decide_eq_true_eq, decide_eq_false_iff_not, ne_eq, not_true_eq_false, not_false_eq_true, Bool.not_eq_true', Bool.not_eq_false', beq_self_eq_true, Bool.not_true, Bool.not_false, List.getElem?_toArray, List.getElem?_cons_zero, List.getElem?_cons_succ]
  refine (oneLit_c (n := 5) (c := 5) (xs := [_, _, _, _, _]) B V (osl 9 strO [b] _ [] :: L) q sl N hb (by omega) rfl rfl (by omega) (by decide) (by omega) (by omega) (l.perm ((List.Perm.swap ..).cons _))).mono ?_
  rintro _ V ⟨s, rfl, hs, l⟩
  have hs3 : 0 ≤ s ∧ s ≤ 3 := by revert s; decide
  obtain ⟨n, rfl⟩ := Int.eq_ofNat_of_zero_le hs3.1
  simp (disch := omega) only [↓stq, amv_at, vls, inf, frs, mark_eq, ↓reduceIte, Nat.reduceEqDiff, ite_tt, ite_ff, eq_self, and_true, true_and, and_self, implies_true, Bool.true_eq_false, Bool.false_eq_true, decide_true, decide_false, decide_eq_true_eq, decide_eq_false_iff_not, ne_eq, not_true_eq_false, not_false_eq_true, Bool.not_eq_true', Bool.not_eq_false', beq_self_eq_true, Bool.not_true, Bool.not_false, List.getElem?_toArray, List.getElem?_cons_zero, List.getElem?_cons_succ]
  refine aloop (fun d fr V => ∃ (k : Nat) (fp : List Nat) (w : Value) (ys : List ByteArray), d = k ∧ k ≤ n ∧ ys.length + k ≤ n ∧ Led B (osl 9 strO fp w ys :: rdr q sl (N + 1 + (n - k)) :: L) V ∧ fr 0 = .pointer (some ⟨q, 0, none⟩) ∧ fr 1 = .slice a xs.length c ∧ fr 5 = w ∧ fr 6 = .int .i64 k ∧ ∀ y, y ∈ ys → y ∈ xs) n ⟨n, _, _, [], rfl, by omega, by simp, by rw [Nat.sub_self]; exact l.perm (List.Perm.swap ..), by rfl, by rfl, by rfl, by rfl, by simp⟩ ?_
  clear l
  rintro k fr V ⟨_, fp, w, ys, rfl, hkn, hk, l, h0, h1, h5, h6, hy⟩
  simp (disch := omega) only [↓stq, amv_at, vls, inf, frs, mark_eq, ↓reduceIte, Nat.reduceEqDiff, ite_tt, ite_ff, eq_self, and_true, true_and, and_self, implies_true, Bool.true_eq_false, Bool.false_eq_true, decide_true, decide_false, decide_eq_true_eq, decide_eq_false_iff_not, ne_eq, not_true_eq_false, not_false_eq_true, Bool.not_eq_true', Bool.not_eq_false', beq_self_eq_true, Bool.not_true, Bool.not_false, List.getElem?_toArray, List.getElem?_cons_zero, List.getElem?_cons_succ, h0, h1, h5, h6]
  refine ⟨fun e => ?_, fun e => ?_⟩ <;> simp (disch := omega) only [↓stq, amv_at, vls, inf, frs, mark_eq, ↓reduceIte, Nat.reduceEqDiff, ite_tt, ite_ff, eq_self, and_true, true_and, and_self, implies_true, Bool.true_eq_false, Bool.false_eq_true, decide_true, decide_false, decide_eq_true_eq, decide_eq_false_iff_not, ne_eq, not_true_eq_false, not_false_eq_true, Bool.not_eq_true', Bool.not_eq_false', beq_self_eq_true, Bool.not_true, Bool.not_false, List.getElem?_toArray, List.getElem?_cons_zero, List.getElem?_cons_succ, h0, h1, h5, h6]
  · refine (pick_c B V (osl 9 strO fp w ys :: L) q sl (N + 1 + (n - k)) xs.length hb (by omega) ⟨by omega, by omega⟩ (l.perm (List.Perm.swap ..))).mono ?_
    rintro _ V ⟨i, rfl, hi0, hi1, l⟩
    obtain ⟨i, rfl⟩ := Int.eq_ofNat_of_zero_le hi0
    have hil : i < xs.length := by omega
    obtain ⟨ad, hq, kk, zk⟩ := (hx V l.tail.tail).str hil
    subst hq
    simp (disch := omega) only [↓stq, amv_at, vls, inf, frs, mark_eq, ↓reduceIte, Nat.reduceEqDiff, ite_tt, ite_ff, eq_self, and_true, true_and, and_self, implies_true, Bool.true_eq_false, Bool.false_eq_true, decide_true, decide_false, decide_eq_true_eq, decide_eq_false_iff_not, ne_eq, not_true_eq_false, not_false_eq_true, Bool.not_eq_true', Bool.not_eq_false', beq_self_eq_true, Bool.not_true, Bool.not_false, List.getElem?_toArray, List.getElem?_cons_zero, List.getElem?_cons_succ, h0, h1, h5, h6, kk]
    refine (addText_c B V (rdr q sl (N + 1 + (n - k) + 1) :: L) fp w ys xs[i] zk (by omega) (l.perm (List.Perm.swap ..))).mono ?_
    rintro r V ⟨fp2, l⟩
    simp (disch := omega) only [↓stq, amv_at, vls, inf, frs, mark_eq, ↓reduceIte, Nat.reduceEqDiff, ite_tt, ite_ff, eq_self, and_true, true_and, and_self, implies_true, Bool.true_eq_false, Bool.false_eq_true, decide_true, decide_false, decide_eq_true_eq, decide_eq_false_iff_not, ne_eq, not_true_eq_false, not_false_eq_true, Bool.not_eq_true', Bool.not_eq_false', beq_self_eq_true, Bool.not_true, Bool.not_false, List.getElem?_toArray, List.getElem?_cons_zero, List.getElem?_cons_succ, h0, h1, h5, h6]
    have hal : (addT ys xs[i]).length ≤ ys.length + 1 := by
      unfold addT
      split
      · omega
      · rw [List.length_append, List.length_singleton]; omega
    refine ⟨k - 1, by omega, k - 1, fp2, r, addT ys xs[i], rfl, by omega, by omega, ?_, rfl, by congr 1; omega, fun y hy2 => ?_⟩
    · rw [show n - (k - 1) = n - k + 1 by omega]
      exact l
    · unfold addT at hy2
      split at hy2
      · exact hy y hy2
      · rcases List.mem_append.1 hy2 with hy2 | hy2
        · exact hy y hy2
        · rw [List.mem_singleton.1 hy2]; exact List.getElem_mem hil
  · exact ⟨fp, ys, by omega, hy, (rdr_more (l.perm (List.Perm.swap ..)) (M := N + 4) (by omega)).perm (List.Perm.swap ..)⟩

end Go.Proofs.Ytggklaimbklefaa

/- Generators: tests. -/
set_option maxHeartbeats 4000000
set_option synthInstance.maxHeartbeats 400000
set_option synthInstance.maxSize 4096
set_option linter.unusedSimpArgs false
set_option linter.unusedVariables false
namespace Go.Proofs.Ytggklaimbklefaa

set_option maxRecDepth 100000

theorem lit_osl {V : View} {b c room : Nat} {cells : List Value} {ns : List ByteArray} (hb : V b = some ⟨9, cells, room, true⟩) (hr : room = c * 1) (hcl : cells = ns.map Value.string) (hc : ns.length ≤ c) (hl : ns.length ≤ 1000) (hz : ∀ x, x ∈ ns → x.size ≤ 100) : OSl 9 strO V [b] (.slice (some ⟨b, 0, none⟩) ns.length c) ns := by
  subst hr; subst hcl
  exact ⟨by omega, .inr ⟨b, c, _, [], rfl, hc, rfl, hb, OElems.flatE (A := V) (elems_str _ fun x hx => by have := hz x hx; omega)⟩⟩

def genT (t : TestD) : Prop := t.1.size ≤ 100 ∧ t.2.1.size ≤ 100 ∧ t.2.2.1.length ≤ 3 ∧ t.2.2.2.1.length ≤ 3
theorem goodTests_c (B A : View) (L : List It) (q : Nat) (sl : Value) (N : Nat) (v : Value) (xs : List ByteArray) (hb : Bts B sl) (hN : N ≤ 800000000) (hx : ∀ V, Led B L V → Sl strS V v xs) (l : Led B (rdr q sl N :: L) A) : ACalls Try.prog 56 #[.pointer (some ⟨q, 0, none⟩), v] A fun r V => ∃ fp ts, ts.length ≤ 10 ∧ (∀ t, t ∈ ts → genT t) ∧ Led B (osl 78 testO fp r ts :: rdr q sl (N + 101) :: L) V := by
  obtain ⟨a, c, rfl, _, hle⟩ := (hx A l.tail).slice
  refine acalls Try.func56 rfl (by kernel_rfl) ?_
  simp (disch := omega) only [↓stq, amv_at, vls, inf, frs, mark_eq, ↓reduceIte, Nat.reduceEqDiff, ite_tt, ite_ff, eq_self, and_true, true_and, and_self, implies_true, Bool.true_eq_false, Bool.false_eq_true, decide_true, decide_false, decide_eq_true_eq, decide_eq_false_iff_not, ne_eq, not_true_eq_false, not_false_eq_true, Bool.not_eq_true', Bool.not_eq_false', beq_self_eq_true, Bool.not_true, Bool.not_false, List.getElem?_toArray, List.getElem?_cons_zero, List.getElem?_cons_succ]
  refine led_lit0 (O := testO) li39 l fun b V _ l => ?_
  simp (disch := omega) only [↓stq, amv_at, vls, inf, frs, mark_eq, ↓reduceIte, Nat.reduceEqDiff, ite_tt, ite_ff, eq_self, and_true, true_and, and_self, implies_true, Bool.true_eq_false, Bool.false_eq_true, decide_true, decide_false, decide_eq_true_eq, decide_eq_false_iff_not, ne_eq, not_true_eq_false, not_false_eq_true, Bool.not_eq_true', Bool.not_eq_false', beq_self_eq_true, Bool.not_true, Bool.not_false, List.getElem?_toArray, List.getElem?_cons_zero, List.getElem?_cons_succ]
  refine led_lit li90 (by omega) rfl (by simp [Value.cells, Value.oneCell']) l fun bl V _ l => ?_
  simp (disch := omega) only [↓stq, amv_at, vls, inf, frs, mark_eq, ↓reduceIte, Nat.reduceEqDiff, ite_tt, ite_ff, eq_self, and_true, true_and, and_self, implies_true, Bool.true_eq_false, Bool.false_eq_true, decide_true, decide_false, decide_eq_true_eq, decide_eq_false_iff_not, ne_eq, not_true_eq_false, not_false_eq_true, Bool.not_eq_true', Bool.not_eq_false', beq_self_eq_true, Bool.not_true, Bool.not_false, List.getElem?_toArray, List.getElem?_cons_zero, List.getElem?_cons_succ]
  refine (oneLit_c (n := 8) (c := 8) (xs := [_, _, _, _, _, _, _, _]) B V (osl 78 testO [b] _ [] :: L) q sl N hb (by omega) rfl rfl (by omega) (by decide) (by omega) (by omega) (l.perm ((List.Perm.swap ..).cons _))).mono ?_
  rintro _ V ⟨s, rfl, hs, l⟩
  have hs3 : 0 ≤ s ∧ s ≤ 10 := by revert s; decide
  obtain ⟨n, rfl⟩ := Int.eq_ofNat_of_zero_le hs3.1
  simp (disch := omega) only [↓stq, amv_at, vls, inf, frs, mark_eq, ↓reduceIte, Nat.reduceEqDiff, ite_tt, ite_ff, eq_self, and_true, true_and, and_self, implies_true, Bool.true_eq_false, Bool.false_eq_true, decide_true, decide_false, decide_eq_true_eq, decide_eq_false_iff_not, ne_eq, not_true_eq_false, not_false_eq_true, Bool.not_eq_true', Bool.not_eq_false', beq_self_eq_true, Bool.not_true, Bool.not_false, List.getElem?_toArray, List.getElem?_cons_zero, List.getElem?_cons_succ]
  refine aloop (fun d fr V => ∃ (k : Nat) (fp : List Nat) (w : Value) (ts : List TestD), d = k ∧ k ≤ n ∧ ts.length + k ≤ n ∧ Led B (osl 78 testO fp w ts :: rdr q sl (N + 1 + 10 * (n - k)) :: L) V ∧ fr 0 = .pointer (some ⟨q, 0, none⟩) ∧ fr 1 = .slice a xs.length c ∧ fr 5 = w ∧ fr 6 = .int .i64 k ∧ ∀ t, t ∈ ts → genT t) n ⟨n, _, _, [], rfl, by omega, by simp, by rw [Nat.sub_self]; exact l.perm (List.Perm.swap ..), by rfl, by rfl, by rfl, by rfl, by simp⟩ ?_
  clear l
  rintro k fr V ⟨_, fp, w, ts, rfl, hkn, hk, l, h0, h1, h5, h6, hy⟩
  simp (disch := omega) only [↓stq, amv_at, vls, inf, frs, mark_eq, ↓reduceIte, Nat.reduceEqDiff, ite_tt, ite_ff, eq_self, and_true, true_and, and_self, implies_true, Bool.true_eq_false, Bool.false_eq_true, decide_true, decide_false, decide_eq_true_eq, decide_eq_false_iff_not, ne_eq, not_true_eq_false, not_false_eq_true, Bool.not_eq_true', Bool.not_eq_false', beq_self_eq_true, Bool.not_true, Bool.not_false, List.getElem?_toArray, List.getElem?_cons_zero, List.getElem?_cons_succ, h0, h1, h5, h6]
  refine ⟨fun e => ?_, fun e => ?_⟩ <;> simp (disch := omega) only [↓stq, amv_at, vls, inf, frs, mark_eq, ↓reduceIte, Nat.reduceEqDiff, ite_tt, ite_ff, eq_self, and_true, true_and, and_self, implies_true, Bool.true_eq_false, Bool.false_eq_true, decide_true, decide_false, decide_eq_true_eq, decide_eq_false_iff_not, ne_eq, not_true_eq_false, not_false_eq_true, Bool.not_eq_true', Bool.not_eq_false', beq_self_eq_true, Bool.not_true, Bool.not_false, List.getElem?_toArray, List.getElem?_cons_zero, List.getElem?_cons_succ, h0, h1, h5, h6]
  · refine (aModule_c B V (osl 78 testO fp w ts :: L) q sl _ hb (by omega) (l.perm (List.Perm.swap ..))).mono ?_
    rintro _ V ⟨s1, rfl, hz1, l⟩
    simp (disch := omega) only [↓stq, amv_at, vls, inf, frs, mark_eq, ↓reduceIte, Nat.reduceEqDiff, ite_tt, ite_ff, eq_self, and_true, true_and, and_self, implies_true, Bool.true_eq_false, Bool.false_eq_true, decide_true, decide_false, decide_eq_true_eq, decide_eq_false_iff_not, ne_eq, not_true_eq_false, not_false_eq_true, Bool.not_eq_true', Bool.not_eq_false', beq_self_eq_true, Bool.not_true, Bool.not_false, List.getElem?_toArray, List.getElem?_cons_zero, List.getElem?_cons_succ, h0, h1, h5, h6]
    refine led_lit li54 (by omega) rfl (by simp [Value.cells, Value.oneCell']) l fun bl V _ l => ?_
    simp (disch := omega) only [↓stq, amv_at, vls, inf, frs, mark_eq, ↓reduceIte, Nat.reduceEqDiff, ite_tt, ite_ff, eq_self, and_true, true_and, and_self, implies_true, Bool.true_eq_false, Bool.false_eq_true, decide_true, decide_false, decide_eq_true_eq, decide_eq_false_iff_not, ne_eq, not_true_eq_false, not_false_eq_true, Bool.not_eq_true', Bool.not_eq_false', beq_self_eq_true, Bool.not_true, Bool.not_false, List.getElem?_toArray, List.getElem?_cons_zero, List.getElem?_cons_succ, h0, h1, h5, h6]
    refine (ofLit_c (n := 5) (c := 5) (xs := [_, _, _, _, _]) B V (osl 78 testO fp w ts :: L) q sl _ hb (by omega) rfl rfl (by omega) (by decide) (by omega) (by omega) l).mono ?_
    rintro _ V ⟨s2, rfl, hs2, l⟩
    have hz2 : s2.size ≤ 100 := by revert s2; decide
    simp (disch := omega) only [↓stq, amv_at, vls, inf, frs, mark_eq, ↓reduceIte, Nat.reduceEqDiff, ite_tt, ite_ff, eq_self, and_true, true_and, and_self, implies_true, Bool.true_eq_false, Bool.false_eq_true, decide_true, decide_false, decide_eq_true_eq, decide_eq_false_iff_not, ne_eq, not_true_eq_false, not_false_eq_true, Bool.not_eq_true', Bool.not_eq_false', beq_self_eq_true, Bool.not_true, Bool.not_false, List.getElem?_toArray, List.getElem?_cons_zero, List.getElem?_cons_succ, h0, h1, h5, h6]
    refine (someMarks_c B V (osl 78 testO fp w ts :: L) q sl _ hb (by omega) l).mono ?_
    rintro r1 V ⟨fm, ms, hm1, hm2, l⟩
    obtain ⟨am, cm, rfl, _, _⟩ := (OSl.toS (show OSl 9 strO V fm r1 ms from l.at (i := 0) rfl)).slice
    simp (disch := omega) only [↓stq, amv_at, vls, inf, frs, mark_eq, ↓reduceIte, Nat.reduceEqDiff, ite_tt, ite_ff, eq_self, and_true, true_and, and_self, implies_true, Bool.true_eq_false, Bool.false_eq_true, decide_true, decide_false, decide_eq_true_eq, decide_eq_false_iff_not, ne_eq, not_true_eq_false, not_false_eq_true, Bool.not_eq_true', Bool.not_eq_false', beq_self_eq_true, Bool.not_true, Bool.not_false, List.getElem?_toArray, List.getElem?_cons_zero, List.getElem?_cons_succ, h0, h1, h5, h6]
    refine (someNeeds_c B V (osl 9 strO fm _ ms :: osl 78 testO fp w ts :: L) q sl _ _ xs hb (by omega) (fun V l => hx V l.tail.tail) (l.perm (List.Perm.swap ..))).mono ?_
    rintro r2 V ⟨fn, ns, hn1, hn2, l⟩
    obtain ⟨an, cn, rfl, _, _⟩ := (OSl.toS (show OSl 9 strO V fn r2 ns from l.at (i := 0) rfl)).slice
    simp (disch := omega) only [↓stq, amv_at, vls, inf, frs, mark_eq, ↓reduceIte, Nat.reduceEqDiff, ite_tt, ite_ff, eq_self, and_true, true_and, and_self, implies_true, Bool.true_eq_false, Bool.false_eq_true, decide_true, decide_false, decide_eq_true_eq, decide_eq_false_iff_not, ne_eq, not_true_eq_false, not_false_eq_true, Bool.not_eq_true', Bool.not_eq_false', beq_self_eq_true, Bool.not_true, Bool.not_false, List.getElem?_toArray, List.getElem?_cons_zero, List.getElem?_cons_succ, h0, h1, h5, h6]
    refine led_alloc zc78 l fun q7 V _ l => ?_
    simp (disch := omega) only [↓stq, amv_at, vls, inf, frs, mark_eq, ↓reduceIte, Nat.reduceEqDiff, ite_tt, ite_ff, eq_self, and_true, true_and, and_self, implies_true, Bool.true_eq_false, Bool.false_eq_true, decide_true, decide_false, decide_eq_true_eq, decide_eq_false_iff_not, ne_eq, not_true_eq_false, not_false_eq_true, Bool.not_eq_true', Bool.not_eq_false', beq_self_eq_true, Bool.not_true, Bool.not_false, List.getElem?_toArray, List.getElem?_cons_zero, List.getElem?_cons_succ, h0, h1, h5, h6]
    refine led_storeAll l 0 rfl sz78 rfl rfl (by simp [Value.oneCell']) fun V l => ?_
    have kt : V.part ⟨q7, 0, none⟩ 4 = some [.string s1, .string s2, .slice am ms.length cm, .slice an ns.length cn] := l.part (i := 0) rfl rfl
    simp (disch := omega) only [↓stq, amv_at, vls, inf, frs, mark_eq, ↓reduceIte, Nat.reduceEqDiff, ite_tt, ite_ff, eq_self, and_true, true_and, and_self, implies_true, Bool.true_eq_false, Bool.false_eq_true, decide_true, decide_false, decide_eq_true_eq, decide_eq_false_iff_not, ne_eq, not_true_eq_false, not_false_eq_true, Bool.not_eq_true', Bool.not_eq_false', beq_self_eq_true, Bool.not_true, Bool.not_false, List.getElem?_toArray, List.getElem?_cons_zero, List.getElem?_cons_succ, h0, h1, h5, h6, kt]
    have hgt : genT (s1, s2, ms, ns, ()) := ⟨hz1, hz2, hm1, hn1⟩
    refine (spec_idOf_c V _ (s1, s2, ms, ns, ()) (testS_mk (x := (s1, s2, ms, ns, ())) (by show s1.size ≤ _; omega) (by show s2.size ≤ _; omega) (OSl.toS (l.at (i := 3) rfl)) (OSl.toS (l.at (i := 1) rfl)))).mono ?_
    rintro _ V2 ⟨rfl, he2⟩
    replace l := l.step he2
    have kt := he2.part kt
    simp (disch := omega) only [↓stq, amv_at, vls, inf, frs, mark_eq, ↓reduceIte, Nat.reduceEqDiff, ite_tt, ite_ff, eq_self, and_true, true_and, and_self, implies_true, Bool.true_eq_false, Bool.false_eq_true, decide_true, decide_false, decide_eq_true_eq, decide_eq_false_iff_not, ne_eq, not_true_eq_false, not_false_eq_true, Bool.not_eq_true', Bool.not_eq_false', beq_self_eq_true, Bool.not_true, Bool.not_false, List.getElem?_toArray, List.getElem?_cons_zero, List.getElem?_cons_succ, h0, h1, h5, h6]
    refine (spec_findTest_c V2 _ ts _ (OSl.toS (l.at (i := 4) rfl))).mono ?_
    rintro _ V3 ⟨rfl, he3⟩
    replace l := l.step he3
    have kt := he3.part kt
    simp (disch := omega) only [↓stq, amv_at, vls, inf, frs, mark_eq, ↓reduceIte, Nat.reduceEqDiff, ite_tt, ite_ff, eq_self, and_true, true_and, and_self, implies_true, Bool.true_eq_false, Bool.false_eq_true, decide_true, decide_false, decide_eq_true_eq, decide_eq_false_iff_not, ne_eq, not_true_eq_false, not_false_eq_true, Bool.not_eq_true', Bool.not_eq_false', beq_self_eq_true, Bool.not_true, Bool.not_false, List.getElem?_toArray, List.getElem?_cons_zero, List.getElem?_cons_succ, h0, h1, h5, h6]
    have lr : Led B (osl 9 strO fn (.slice an ns.length cn) ns :: osl 9 strO fm (.slice am ms.length cm) ms :: rdr q sl (N + 1 + 10 * (n - k) + 1 + 1 + 4 + 4) :: osl 78 testO fp w ts :: L) V3 := l.tail.perm ((List.Perm.swap ..).cons _)
    refine ⟨fun e1 => ?_, fun e1 => ?_⟩ <;> simp (disch := omega) only [↓stq, amv_at, vls, inf, frs, mark_eq, ↓reduceIte, Nat.reduceEqDiff, ite_tt, ite_ff, eq_self, and_true, true_and, and_self, implies_true, Bool.true_eq_false, Bool.false_eq_true, decide_true, decide_false, decide_eq_true_eq, decide_eq_false_iff_not, ne_eq, not_true_eq_false, not_false_eq_true, Bool.not_eq_true', Bool.not_eq_false', beq_self_eq_true, Bool.not_true, Bool.not_false, List.getElem?_toArray, List.getElem?_cons_zero, List.getElem?_cons_succ, h0, h1, h5, h6, kt]
    · have lj := lr.join2 (jt := oc testO (fm ++ fn) (s1, s2, ms, ns, ()) _) rfl (show testO.rel V3 (fm ++ fn) (s1, s2, ms, ns, ()) _ from testO_mk (x := (s1, s2, ms, ns, ())) (by show s1.size ≤ _; omega) (by show s2.size ≤ _; omega) (lr.at (i := 1) rfl) (lr.at (i := 0) rfl))
      refine led_lit li39 (by omega) rfl (fun p hp => by rcases List.mem_singleton.1 hp with rfl; exact ⟨rfl, rfl⟩) lj fun bl V4 _ l => ?_
      simp (disch := omega) only [↓stq, amv_at, vls, inf, frs, mark_eq, ↓reduceIte, Nat.reduceEqDiff, ite_tt, ite_ff, eq_self, and_true, true_and, and_self, implies_true, Bool.true_eq_false, Bool.false_eq_true, decide_true, decide_false, decide_eq_true_eq, decide_eq_false_iff_not, ne_eq, not_true_eq_false, not_false_eq_true, Bool.not_eq_true', Bool.not_eq_false', beq_self_eq_true, Bool.not_true, Bool.not_false, List.getElem?_toArray, List.getElem?_cons_zero, List.getElem?_cons_succ, h0, h1, h5, h6]
      refine led_appO (O := testO) ap39_39 (by decide) l (i := 1) rfl (by omega) fun fp' w' V12 _ l => ?_
      simp (disch := omega) only [↓stq, amv_at, vls, inf, frs, mark_eq, ↓reduceIte, Nat.reduceEqDiff, ite_tt, ite_ff, eq_self, and_true, true_and, and_self, implies_true, Bool.true_eq_false, Bool.false_eq_true, decide_true, decide_false, decide_eq_true_eq, decide_eq_false_iff_not, ne_eq, not_true_eq_false, not_false_eq_true, Bool.not_eq_true', Bool.not_eq_false', beq_self_eq_true, Bool.not_true, Bool.not_false, List.getElem?_toArray, List.getElem?_cons_zero, List.getElem?_cons_succ, h0, h1, h5, h6]
      refine ⟨k - 1, by omega, k - 1, fp', w', ts ++ [(s1, s2, ms, ns, ())], rfl, by omega, by rw [List.length_append, List.length_singleton]; omega, ?_, rfl, by congr 1; omega, fun t ht => ?_⟩
      · exact (rdr_more l (M := N + 1 + 10 * (n - (k - 1))) (by omega)).perm (List.Perm.swap ..)
      · rcases List.mem_append.1 ht with ht | ht
        · exact hy t ht
        · rw [List.mem_singleton.1 ht]; exact hgt
    · refine ⟨k - 1, by omega, k - 1, fp, w, ts, rfl, by omega, by omega, ?_, rfl, by congr 1; omega, hy⟩
      exact (rdr_more lr.tail.tail (M := N + 1 + 10 * (n - (k - 1))) (by omega)).perm (List.Perm.swap ..)
  · exact ⟨fp, ts, by omega, hy, (rdr_more (l.perm (List.Perm.swap ..)) (M := N + 101) (by omega)).perm (List.Perm.swap ..)⟩

/-- What is known of some blocks alone. -/
def View.only (V : View) (fp : List Nat) : View := fun b => if b ∈ fp then V b else none
theorem View.only_ext (V : View) (fp : List Nat) : Ext (V.only fp) V := fun b k h => by
  unfold View.only at h
  split at h
  · exact h
  · cases h
theorem View.only_of {V : View} {fp : List Nat} {b : Nat} {k : Blk} (hb : b ∈ fp) (h : V b = some k) : (V.only fp) b = some k := by
  unfold View.only
  rw [if_pos hb]; exact h
theorem rdl_stay {α : Type} {S : Shape α} {fp : List Nat} {v : Value} {xs : List α} {V W : View} (h : (∀ b, b ∈ fp → ∃ k, V b = some k) ∧ Sl S (V.only fp) v xs) (hs : ∀ b k, b ∈ fp → V b = some k → W b = some k) : (∀ b, b ∈ fp → ∃ k, W b = some k) ∧ Sl S (W.only fp) v xs := by
  refine ⟨fun b hb => ?_, h.2.mono fun b k hk => ?_⟩
  · obtain ⟨k, hk⟩ := h.1 b hb
    exact ⟨k, hs b k hb hk⟩
  · unfold View.only at hk
    split at hk
    · rename_i hb
      exact View.only_of hb (hs b k hb hk)
    · cases hk
/-- Data that is read, in blocks of one's own. -/
def rdl {α : Type} (S : Shape α) (fp : List Nat) (v : Value) (xs : List α) : It := ⟨fp, fun V => (∀ b, b ∈ fp → ∃ k, V b = some k) ∧ Sl S (V.only fp) v xs, fun h hs => rdl_stay h hs, fun h => h.1⟩
theorem rdl_sl {α : Type} {S : Shape α} {fp : List Nat} {v : Value} {xs : List α} {V : View} (h : (rdl S fp v xs).φ V) : Sl S V v xs := h.2.mono (View.only_ext V fp)
theorem osl_rdl {α : Type} {O : OwnS α} {e : TypeId} {fp : List Nat} {v : Value} {xs : List α} {V : View} (h : OSl e O V fp v xs) : (rdl O.S fp v xs).φ V :=
  ⟨fun b hb => h.has b hb, OSl.toS (h.stay fun b k hb hk => View.only_of hb hk)⟩
theorem keepI_stay {fp : List Nat} {B0 V W : View} (h0 : ∀ b k, B0 b = some k → b ∈ fp) (h : (∀ b, b ∈ fp → ∃ k, V b = some k) ∧ Ext B0 V) (hs : ∀ b k, b ∈ fp → V b = some k → W b = some k) : (∀ b, b ∈ fp → ∃ k, W b = some k) ∧ Ext B0 W := by
  refine ⟨fun b hb => ?_, fun b k hk => hs b k (h0 b k hk) (h.2 b k hk)⟩
  obtain ⟨k, hk⟩ := h.1 b hb
  exact ⟨k, hs b k hb hk⟩
/-- Blocks that are kept. -/
def keepI (fp : List Nat) (B0 : View) (h0 : ∀ b k, B0 b = some k → b ∈ fp) : It := ⟨fp, fun V => (∀ b, b ∈ fp → ∃ k, V b = some k) ∧ Ext B0 V, fun h hs => keepI_stay h0 h hs, fun h => h.1⟩

end Go.Proofs.Ytggklaimbklefaa

/- Generators: suites. -/
set_option maxHeartbeats 4000000
set_option synthInstance.maxHeartbeats 400000
set_option synthInstance.maxSize 4096
set_option linter.unusedSimpArgs false
set_option linter.unusedVariables false
namespace Go.Proofs.Ytggklaimbklefaa

set_option maxRecDepth 100000

def genF (f : FixtureD) : Prop := f.1.size ≤ 100 ∧ f.2.2.1.length ≤ 3
structure GenS (x : SuiteD) : Prop where
  l0 : x.1.length ≤ 6
  l1 : x.2.1.length ≤ 10
  s0 : ∀ f, f ∈ x.1 → genF f
  s1 : ∀ t, t ∈ x.2.1 → genT t
theorem GenS.small {x : SuiteD} (h : GenS x) : Small x := ⟨by have := h.l0; omega, by have := h.l1; omega, fun f hf => by have := (h.s0 f hf).2; show _ ≤ _; omega, fun t ht => by have h1 := (h.s1 t ht).2.2; exact ⟨by omega, by omega⟩⟩

theorem fAt_lt0 {xs : List FixtureD} {name : ByteArray} (h : 0 ≤ fAt xs name) : ∃ k : Nat, fAt xs name = k ∧ (fAt xs name).toNat = k ∧ k < xs.length := by
  obtain ⟨k, h1, h2, _⟩ := idxI_lt h
  exact ⟨k, h1, by show (idxI _ xs).toNat = k; rw [h1]; rfl, h2⟩
theorem map_take_snoc {α β : Type} (f : α → β) (xs : List α) (x : α) : (xs ++ [x]).map f = xs.map f ++ [f x] := by rw [List.map_append]; rfl

theorem goodSuite_c (B A : View) (L : List It) (q : Nat) (sl : Value) (N : Nat) (hb : Bts B sl) (hN : N ≤ 700000000) (l : Led B (rdr q sl N :: L) A) : ACalls Try.prog 21 #[.pointer (some ⟨q, 0, none⟩)] A fun r V => ∃ fp x cells, r = .agg cells.toArray ∧ GenS x ∧ Led B (oc suiteO fp x cells :: rdr q sl (N + 200) :: L) V := by
  refine acalls Try.func21 rfl (by kernel_rfl) ?_
  simp (disch := omega) only [↓stq, amv_at, vls, inf, frs, mark_eq, ↓reduceIte, Nat.reduceEqDiff, ite_tt, ite_ff, eq_self, and_true, true_and, and_self, implies_true, Bool.true_eq_false, Bool.false_eq_true, decide_true, decide_false, decide_eq_true_eq, decide_eq_false_iff_not, ne_eq, not_true_eq_false, not_false_eq_true, Bool.not_eq_true', Bool.not_eq_false', beq_self_eq_true, Bool.not_true, Bool.not_false, List.getElem?_toArray, List.getElem?_cons_zero, List.getElem?_cons_succ]
  refine led_alloc zc41 l fun q2 V _ l => ?_
  simp (disch := omega) only [↓stq, amv_at, vls, inf, frs, mark_eq, ↓reduceIte, Nat.reduceEqDiff, ite_tt, ite_ff, eq_self, and_true, true_and, and_self, implies_true, Bool.true_eq_false, Bool.false_eq_true, decide_true, decide_false, decide_eq_true_eq, decide_eq_false_iff_not, ne_eq, not_true_eq_false, not_false_eq_true, Bool.not_eq_true', Bool.not_eq_false', beq_self_eq_true, Bool.not_true, Bool.not_false, List.getElem?_toArray, List.getElem?_cons_zero, List.getElem?_cons_succ]
  refine led_lit li54 (by omega) rfl (by simp [Value.cells, Value.oneCell']) l fun bn V _ l => ?_
  simp (disch := omega) only [↓stq, amv_at, vls, inf, frs, mark_eq, ↓reduceIte, Nat.reduceEqDiff, ite_tt, ite_ff, eq_self, and_true, true_and, and_self, implies_true, Bool.true_eq_false, Bool.false_eq_true, decide_true, decide_false, decide_eq_true_eq, decide_eq_false_iff_not, ne_eq, not_true_eq_false, not_false_eq_true, Bool.not_eq_true', Bool.not_eq_false', beq_self_eq_true, Bool.not_true, Bool.not_false, List.getElem?_toArray, List.getElem?_cons_zero, List.getElem?_cons_succ, bu0S]
  refine led_alloc zc41 l fun q4 V _ l => ?_
  simp (disch := omega) only [↓stq, amv_at, vls, inf, frs, mark_eq, ↓reduceIte, Nat.reduceEqDiff, ite_tt, ite_ff, eq_self, and_true, true_and, and_self, implies_true, Bool.true_eq_false, Bool.false_eq_true, decide_true, decide_false, decide_eq_true_eq, decide_eq_false_iff_not, ne_eq, not_true_eq_false, not_false_eq_true, Bool.not_eq_true', Bool.not_eq_false', beq_self_eq_true, Bool.not_true, Bool.not_false, List.getElem?_toArray, List.getElem?_cons_zero, List.getElem?_cons_succ]
  refine led_storeAll (d := [.slice none 0 0, .slice none 0 0]) l 0 rfl sz41 rfl rfl (by simp [Value.oneCell']) fun V l => ?_
  simp (disch := omega) only [↓stq, amv_at, vls, inf, frs, mark_eq, ↓reduceIte, Nat.reduceEqDiff, ite_tt, ite_ff, eq_self, and_true, true_and, and_self, implies_true, Bool.true_eq_false, Bool.false_eq_true, decide_true, decide_false, decide_eq_true_eq, decide_eq_false_iff_not, ne_eq, not_true_eq_false, not_false_eq_true, Bool.not_eq_true', Bool.not_eq_false', beq_self_eq_true, Bool.not_true, Bool.not_false, List.getElem?_toArray, List.getElem?_cons_zero, List.getElem?_cons_succ]
  refine led_lit li90 (by omega) rfl (by simp [Value.cells, Value.oneCell']) l fun bl V _ l => ?_
  simp (disch := omega) only [↓stq, amv_at, vls, inf, frs, mark_eq, ↓reduceIte, Nat.reduceEqDiff, ite_tt, ite_ff, eq_self, and_true, true_and, and_self, implies_true, Bool.true_eq_false, Bool.false_eq_true, decide_true, decide_false, decide_eq_true_eq, decide_eq_false_iff_not, ne_eq, not_true_eq_false, not_false_eq_true, Bool.not_eq_true', Bool.not_eq_false', beq_self_eq_true, Bool.not_true, Bool.not_false, List.getElem?_toArray, List.getElem?_cons_zero, List.getElem?_cons_succ]
  refine (oneLit_c (n := 7) (c := 7) (xs := [_, _, _, _, _, _, _]) B V _ q sl N hb (by omega) rfl rfl (by omega) (by decide) (by omega) (by omega) (l.perm ((List.Perm.trans (List.Perm.swap ..) ((List.Perm.trans (List.Perm.swap ..) ((List.Perm.swap ..).cons _)).cons _)).cons _))).mono ?_
  rintro _ V ⟨s, rfl, hs, l⟩
  have hs3 : 0 ≤ s ∧ s ≤ 6 := by revert s; decide
  obtain ⟨n, rfl⟩ := Int.eq_ofNat_of_zero_le hs3.1
  obtain ⟨ns, hns⟩ : ∃ ns : List ByteArray, ns = [⟨#[100, 98]⟩, ⟨#[116, 109, 112]⟩, ⟨#[110, 101, 116]⟩, ⟨#[117, 115, 101, 114]⟩, ⟨#[108, 111, 103]⟩, ⟨#[97, 112, 112]⟩] := ⟨_, rfl⟩
  have hnl : ns.length = 6 := by rw [hns]; rfl
  have hnz : ∀ x, x ∈ ns → x.size ≤ 100 := by rw [hns]; decide
  replace l := l.upd (i := 2) (jt := osl 9 strO [bn] (.slice (some ⟨bn, 0, none⟩) ns.length 6) ns) rfl rfl (Only.refl _ _) (lit_osl (c := 6) (l.at (i := 2) rfl) rfl (by rw [hns]; rfl) (by omega) (by omega) hnz)
  rw [hnl] at l
  clear hns
  simp (disch := omega) only [↓stq, amv_at, vls, inf, frs, mark_eq, ↓reduceIte, Nat.reduceEqDiff, ite_tt, ite_ff, eq_self, and_true, true_and, and_self, implies_true, Bool.true_eq_false, Bool.false_eq_true, decide_true, decide_false, decide_eq_true_eq, decide_eq_false_iff_not, ne_eq, not_true_eq_false, not_false_eq_true, Bool.not_eq_true', Bool.not_eq_false', beq_self_eq_true, Bool.not_true, Bool.not_false, List.getElem?_toArray, List.getElem?_cons_zero, List.getElem?_cons_succ]
  refine led_lit0 (O := strO) li54 l fun bu V _ l => ?_
  simp (disch := omega) only [↓stq, amv_at, vls, inf, frs, mark_eq, ↓reduceIte, Nat.reduceEqDiff, ite_tt, ite_ff, eq_self, and_true, true_and, and_self, implies_true, Bool.true_eq_false, Bool.false_eq_true, decide_true, decide_false, decide_eq_true_eq, decide_eq_false_iff_not, ne_eq, not_true_eq_false, not_false_eq_true, Bool.not_eq_true', Bool.not_eq_false', beq_self_eq_true, Bool.not_true, Bool.not_false, List.getElem?_toArray, List.getElem?_cons_zero, List.getElem?_cons_succ]
  have l0 : Led B (osl 9 strO [bu] (.slice (some ⟨bu, 0, none⟩) 0 0) (([] : List FixtureD).map fun f : FixtureD => f.1) :: rdr q sl (N + 1) :: bx q4 ⟨41, [.slice none 0 0, .slice none 0 0], 2, true⟩ :: osl 75 fixtureO [] (.slice none 0 0) [] :: osl 9 strO [bn] (.slice (some ⟨bn, 0, none⟩) 6 6) ns :: bx q2 ⟨41, [.slice none 0 0, .slice none 0 0], 2, true⟩ :: L) V := (Led.nilO 75 fixtureO l).perm ((((List.Perm.swap ..).trans ((List.Perm.swap ..).cons _)).trans (((List.Perm.swap ..).cons _).cons _)).symm)
  clear l
  refine aloop (fun d fr V => ∃ (i : Nat) (fu : List Nat) (wu : Value) (fp : List Nat) (w : Value) (fs : List FixtureD), i ≤ n ∧ d = n - i ∧ Led B (osl 9 strO fu wu (fs.map fun f : FixtureD => f.1) :: rdr q sl (N + 1 + 6 * i) :: bx q4 ⟨41, [w, .slice none 0 0], 2, true⟩ :: osl 75 fixtureO fp w fs :: osl 9 strO [bn] (.slice (some ⟨bn, 0, none⟩) 6 6) ns :: bx q2 ⟨41, [.slice none 0 0, .slice none 0 0], 2, true⟩ :: L) V ∧ fr 0 = .pointer (some ⟨q, 0, none⟩) ∧ fr 2 = .pointer (some ⟨q2, 0, none⟩) ∧ fr 3 = .slice (some ⟨bn, 0, none⟩) 6 6 ∧ fr 4 = .pointer (some ⟨q4, 0, none⟩) ∧ fr 5 = .int .i64 n ∧ fr 6 = wu ∧ fr 7 = .int .i64 i ∧ fs.length = i ∧ ∀ f, f ∈ fs → genF f) n ⟨0, _, _, _, _, [], by omega, by omega, l0, by rfl, by rfl, by rfl, by rfl, by rfl, by rfl, by rfl, rfl, by simp⟩ ?_
  clear l0
  rintro d fr V ⟨i, fu, wu, fp, w, fs, hi, rfl, l, h0, h2, h3, h4, h5, h6, h7, hfl, hgf⟩
  simp (disch := omega) only [↓stq, amv_at, vls, inf, frs, mark_eq, ↓reduceIte, Nat.reduceEqDiff, ite_tt, ite_ff, eq_self, and_true, true_and, and_self, implies_true, Bool.true_eq_false, Bool.false_eq_true, decide_true, decide_false, decide_eq_true_eq, decide_eq_false_iff_not, ne_eq, not_true_eq_false, not_false_eq_true, Bool.not_eq_true', Bool.not_eq_false', beq_self_eq_true, Bool.not_true, Bool.not_false, List.getElem?_toArray, List.getElem?_cons_zero, List.getElem?_cons_succ, h0, h2, h3, h4, h5, h6, h7]
  refine ⟨fun e => ?_, fun e => ?_⟩
  · have hlt : i < ns.length := by omega
    have hnS : ∀ V', OSl 9 strO V' [bn] (.slice (some ⟨bn, 0, none⟩) 6 6) ns → V'.cell ((⟨bn, 0, none⟩ : Addr).add i) = some (.string ns[i]) := fun V' hV => by
      have hs2 : Sl strS V' (.slice (some ⟨bn, 0, none⟩) 6 6) ns := OSl.toS hV
      rw [show (6 : Nat) = ns.length from hnl.symm] at hs2
      obtain ⟨ad, hq, kk, _⟩ := hs2.str hlt
      obtain rfl := Option.some.inj hq
      exact kk
    have kk := hnS V (l.at (i := 4) rfl)
    obtain ⟨au, cu, rfl, _, _⟩ := (OSl.toS (show OSl 9 strO V fu wu _ from l.at (i := 0) rfl)).slice
    simp (disch := omega) only [↓stq, amv_at, vls, inf, frs, mark_eq, ↓reduceIte, Nat.reduceEqDiff, ite_tt, ite_ff, eq_self, and_true, true_and, and_self, implies_true, Bool.true_eq_false, Bool.false_eq_true, decide_true, decide_false, decide_eq_true_eq, decide_eq_false_iff_not, ne_eq, not_true_eq_false, not_false_eq_true, Bool.not_eq_true', Bool.not_eq_false', beq_self_eq_true, Bool.not_true, Bool.not_false, List.getElem?_toArray, List.getElem?_cons_zero, List.getElem?_cons_succ, h0, h2, h3, h4, h5, h6, h7]
    refine adraw_items [.q 0, .q 1, .q 2, .l 3 true, .q 4, .q 6, .q 7, .q 9, .c 5 [3], .c 8 [3], .c 10 [3], .q 11, .q 12, .c 13 [], .c 14 []] (by kernel_rfl) (by kernel_rfl) ?_
    simp (disch := omega) only [↓stq, amv_at, ↓pln, plv, nilOk, Nat.reduceBEq, Bool.or_false, Bool.or_true, Bool.false_or, Bool.true_or, vls, inf, frs, mark_eq, ↓reduceIte, Nat.reduceEqDiff, ite_tt, ite_ff, eq_self, and_true, true_and, and_self, implies_true, Bool.true_eq_false, Bool.false_eq_true, decide_true, decide_false, decide_eq_true_eq, decide_eq_false_iff_not, ne_eq, not_true_eq_false, not_false_eq_true, Bool.not_eq_true', Bool.not_eq_false', beq_self_eq_true, Bool.not_true, Bool.not_false, List.getElem?_toArray, List.getElem?_cons_zero, List.getElem?_cons_succ, h0, h2, h3, h4, h5, h6, h7, kk]
    refine (pick_c B V _ q sl _ 3 hb (by omega) ⟨by omega, by omega⟩ (l.perm (List.Perm.swap ..))).mono ?_
    rintro _ V ⟨sc, rfl, hsc0, hsc1, l⟩
    have kk := hnS V (l.at (i := 4) rfl)
    simp (disch := omega) only [↓stq, amv_at, ↓pln, plv, nilOk, Nat.reduceBEq, Bool.or_false, Bool.or_true, Bool.false_or, Bool.true_or, vls, inf, frs, mark_eq, ↓reduceIte, Nat.reduceEqDiff, ite_tt, ite_ff, eq_self, and_true, true_and, and_self, implies_true, Bool.true_eq_false, Bool.false_eq_true, decide_true, decide_false, decide_eq_true_eq, decide_eq_false_iff_not, ne_eq, not_true_eq_false, not_false_eq_true, Bool.not_eq_true', Bool.not_eq_false', beq_self_eq_true, Bool.not_true, Bool.not_false, List.getElem?_toArray, List.getElem?_cons_zero, List.getElem?_cons_succ, h0, h2, h3, h4, h5, h6, h7, kk, false_implies]
    refine (someNeeds_c B V _ q sl _ _ (fs.map fun f : FixtureD => f.1) hb (by omega) (fun V l => OSl.toS (l.at (i := 0) rfl)) l).mono ?_
    rintro r2 V ⟨fn, nd, hn1, hn2, l⟩
    obtain ⟨an, cn, rfl, _, _⟩ := (OSl.toS (show OSl 9 strO V fn r2 nd from l.at (i := 0) rfl)).slice
    have kk := hnS V (l.at (i := 5) rfl)
    simp (disch := omega) only [↓stq, amv_at, ↓pln, plv, nilOk, Nat.reduceBEq, Bool.or_false, Bool.or_true, Bool.false_or, Bool.true_or, vls, inf, frs, mark_eq, ↓reduceIte, Nat.reduceEqDiff, ite_tt, ite_ff, eq_self, and_true, true_and, and_self, implies_true, Bool.true_eq_false, Bool.false_eq_true, decide_true, decide_false, decide_eq_true_eq, decide_eq_false_iff_not, ne_eq, not_true_eq_false, not_false_eq_true, Bool.not_eq_true', Bool.not_eq_false', beq_self_eq_true, Bool.not_true, Bool.not_false, List.getElem?_toArray, List.getElem?_cons_zero, List.getElem?_cons_succ, h0, h2, h3, h4, h5, h6, h7, kk, false_implies]
    refine (pick_c B V _ q sl _ 6 hb (by omega) ⟨by omega, by omega⟩ (l.perm (List.Perm.swap ..))).mono ?_
    rintro _ V ⟨au2, rfl, hau0, hau1, l⟩
    have kk := hnS V (l.at (i := 5) rfl)
    simp (disch := omega) only [↓stq, amv_at, ↓pln, plv, nilOk, Nat.reduceBEq, Bool.or_false, Bool.or_true, Bool.false_or, Bool.true_or, vls, inf, frs, mark_eq, ↓reduceIte, Nat.reduceEqDiff, ite_tt, ite_ff, eq_self, and_true, true_and, and_self, implies_true, Bool.true_eq_false, Bool.false_eq_true, decide_true, decide_false, decide_eq_true_eq, decide_eq_false_iff_not, ne_eq, not_true_eq_false, not_false_eq_true, Bool.not_eq_true', Bool.not_eq_false', beq_self_eq_true, Bool.not_true, Bool.not_false, List.getElem?_toArray, List.getElem?_cons_zero, List.getElem?_cons_succ, h0, h2, h3, h4, h5, h6, h7, kk, false_implies]
    refine led_alloc zc75 l fun q8 V _ l => ?_
    have kk := hnS V (l.at (i := 6) rfl)
    simp (disch := omega) only [↓stq, amv_at, ↓pln, plv, nilOk, Nat.reduceBEq, Bool.or_false, Bool.or_true, Bool.false_or, Bool.true_or, vls, inf, frs, mark_eq, ↓reduceIte, Nat.reduceEqDiff, ite_tt, ite_ff, eq_self, and_true, true_and, and_self, implies_true, Bool.true_eq_false, Bool.false_eq_true, decide_true, decide_false, decide_eq_true_eq, decide_eq_false_iff_not, ne_eq, not_true_eq_false, not_false_eq_true, Bool.not_eq_true', Bool.not_eq_false', beq_self_eq_true, Bool.not_true, Bool.not_false, List.getElem?_toArray, List.getElem?_cons_zero, List.getElem?_cons_succ, h0, h2, h3, h4, h5, h6, h7, kk, false_implies]
    generalize hbb : decide (au2 = 0) = ab
    refine led_storeAll l 0 rfl sz75 rfl rfl (by simp [Value.oneCell']) fun V l => ?_
    have kk := hnS V (l.at (i := 6) rfl)
    simp (disch := omega) only [↓stq, amv_at, ↓pln, plv, nilOk, Nat.reduceBEq, Bool.or_false, Bool.or_true, Bool.false_or, Bool.true_or, vls, inf, frs, mark_eq, ↓reduceIte, Nat.reduceEqDiff, ite_tt, ite_ff, eq_self, and_true, true_and, and_self, implies_true, Bool.true_eq_false, Bool.false_eq_true, decide_true, decide_false, decide_eq_true_eq, decide_eq_false_iff_not, ne_eq, not_true_eq_false, not_false_eq_true, Bool.not_eq_true', Bool.not_eq_false', beq_self_eq_true, Bool.not_true, Bool.not_false, List.getElem?_toArray, List.getElem?_cons_zero, List.getElem?_cons_succ, h0, h2, h3, h4, h5, h6, h7, kk, false_implies]
    have hnz1 := hnz _ (List.getElem_mem hlt)
    generalize hnm : ns[i] = nm at l hnz1 kk
    obtain ⟨aw, cw, rfl, _, _⟩ := (OSl.toS (show OSl 75 fixtureO V fp w fs from l.at (i := 5) rfl)).slice
    simp (disch := omega) only [↓stq, amv_at, vls, inf, frs, mark_eq, ↓reduceIte, Nat.reduceEqDiff, ite_tt, ite_ff, eq_self, and_true, true_and, and_self, implies_true, Bool.true_eq_false, Bool.false_eq_true, decide_true, decide_false, decide_eq_true_eq, decide_eq_false_iff_not, ne_eq, not_true_eq_false, not_false_eq_true, Bool.not_eq_true', Bool.not_eq_false', beq_self_eq_true, Bool.not_true, Bool.not_false, List.getElem?_toArray, List.getElem?_cons_zero, List.getElem?_cons_succ, h0, h2, h3, h4, h5, h6, h7]
    refine aloop (fun d fr V => ∃ (k : Nat) (sc : Int), k ≤ nd.length ∧ d = nd.length - k ∧ (-9223372036854775808 ≤ sc ∧ sc < 9223372036854775808) ∧ Led B (bx q8 ⟨75, [.string nm, .int .i64 sc, .slice an nd.length cn, .bool ab], 4, true⟩ :: rdr q sl (N + 1 + 6 * i + 1 + 4 + 1) :: osl 9 strO fn (.slice an nd.length cn) nd :: osl 9 strO fu (.slice au (fs.map fun f : FixtureD => f.1).length cu) (fs.map fun f : FixtureD => f.1) :: bx q4 ⟨41, [.slice aw fs.length cw, .slice none 0 0], 2, true⟩ :: osl 75 fixtureO fp (.slice aw fs.length cw) fs :: osl 9 strO [bn] (.slice (some ⟨bn, 0, none⟩) 6 6) ns :: bx q2 ⟨41, [.slice none 0 0, .slice none 0 0], 2, true⟩ :: L) V ∧ fr 0 = .pointer (some ⟨q, 0, none⟩) ∧ fr 2 = .pointer (some ⟨q2, 0, none⟩) ∧ fr 3 = .slice (some ⟨bn, 0, none⟩) 6 6 ∧ fr 4 = .pointer (some ⟨q4, 0, none⟩) ∧ fr 5 = .int .i64 n ∧ fr 6 = .slice au (fs.map fun f : FixtureD => f.1).length cu ∧ fr 7 = .int .i64 i ∧ fr 8 = .pointer (some ⟨q8, 0, none⟩) ∧ fr 9 = .int .i64 k) nd.length ⟨0, sc, by omega, by omega, by omega, l, h0, h2, h3, h4, h5, h6, h7, by rfl, by rfl⟩ ?_
    clear l h0 h2 h3 h4 h5 h6 h7 kk hsc0 hsc1
    rintro d fr V ⟨k, sc, hk, rfl, hsr, l, h0, h2, h3, h4, h5, h6, h7, h8, h9⟩
    have m1 := l.cell (i := 0) rfl (o := 1) rfl rfl
    have m2 := l.cell (i := 0) rfl (o := 2) rfl rfl
    have w0 := l.cell (i := 4) rfl (o := 0) rfl rfl
    have hfS : Sl fixtureS V (.slice aw fs.length cw) fs := OSl.toS (show OSl 75 fixtureO V fp _ fs from l.at (i := 5) rfl)
    simp (disch := omega) only [↓stq, amv_at, vls, inf, frs, mark_eq, ↓reduceIte, Nat.reduceEqDiff, ite_tt, ite_ff, eq_self, and_true, true_and, and_self, implies_true, Bool.true_eq_false, Bool.false_eq_true, decide_true, decide_false, decide_eq_true_eq, decide_eq_false_iff_not, ne_eq, not_true_eq_false, not_false_eq_true, Bool.not_eq_true', Bool.not_eq_false', beq_self_eq_true, Bool.not_true, Bool.not_false, List.getElem?_toArray, List.getElem?_cons_zero, List.getElem?_cons_succ, h0, h2, h3, h4, h5, h6, h7, h8, h9, add_at, m2]
    refine ⟨fun e1 => ?_, fun e1 => ?_⟩
    · have hltk : k < nd.length := by omega
      obtain ⟨ad, rfl, kk, zk⟩ := (OSl.toS (show OSl 9 strO V fn _ nd from l.at (i := 2) rfl)).str hltk
      simp (disch := omega) only [↓stq, amv_at, vls, inf, frs, mark_eq, ↓reduceIte, Nat.reduceEqDiff, ite_tt, ite_ff, eq_self, and_true, true_and, and_self, implies_true, Bool.true_eq_false, Bool.false_eq_true, decide_true, decide_false, decide_eq_true_eq, decide_eq_false_iff_not, ne_eq, not_true_eq_false, not_false_eq_true, Bool.not_eq_true', Bool.not_eq_false', beq_self_eq_true, Bool.not_true, Bool.not_false, List.getElem?_toArray, List.getElem?_cons_zero, List.getElem?_cons_succ, h0, h2, h3, h4, h5, h6, h7, h8, h9]
      refine adraw_items [.q 0, .l 1 false, .q 2, .l 3 false, .q 4, .q 5, .l 6 false, .c 7 [], .q 8] (by kernel_rfl) (by kernel_rfl) ?_
      simp (disch := omega) only [↓stq, amv_at, ↓pln, plv, nilOk, Nat.reduceBEq, Bool.or_false, Bool.or_true, Bool.false_or, Bool.true_or, vls, inf, frs, mark_eq, ↓reduceIte, Nat.reduceEqDiff, ite_tt, ite_ff, eq_self, and_true, true_and, and_self, implies_true, Bool.true_eq_false, Bool.false_eq_true, decide_true, decide_false, decide_eq_true_eq, decide_eq_false_iff_not, ne_eq, not_true_eq_false, not_false_eq_true, Bool.not_eq_true', Bool.not_eq_false', beq_self_eq_true, Bool.not_true, Bool.not_false, List.getElem?_toArray, List.getElem?_cons_zero, List.getElem?_cons_succ, h0, h2, h3, h4, h5, h6, h7, h8, h9, add_at, w0, m2, kk]
      refine (spec_fixtureAt_c V _ fs nd[k] hfS).mono ?_
      rintro _ V ⟨rfl, rfl⟩
      obtain ⟨j, hj, _, hjl⟩ := fAt_lt0 (xs := fs) (name := nd[k]) (fAt_in.2 (hn2 _ (List.getElem_mem hltk)))
      rw [hj]
      obtain ⟨ad2, u2, rfl, hclA, y1, y2, _⟩ := hfS.fixture hjl
      have s1 := View.part_cell hclA (j := 1) rfl
      simp (disch := omega) only [↓stq, amv_at, ↓pln, plv, nilOk, Nat.reduceBEq, Bool.or_false, Bool.or_true, Bool.false_or, Bool.true_or, vls, inf, frs, mark_eq, ↓reduceIte, Nat.reduceEqDiff, ite_tt, ite_ff, eq_self, and_true, true_and, and_self, implies_true, Bool.true_eq_false, Bool.false_eq_true, decide_true, decide_false, decide_eq_true_eq, decide_eq_false_iff_not, ne_eq, not_true_eq_false, not_false_eq_true, Bool.not_eq_true', Bool.not_eq_false', beq_self_eq_true, Bool.not_true, Bool.not_false, List.getElem?_toArray, List.getElem?_cons_zero, List.getElem?_cons_succ, h0, h2, h3, h4, h5, h6, h7, h8, h9, add_at, w0, m2, kk]
      refine adraw_items [.q 0, .l 1 false, .q 2, .l 3 false, .q 4, .q 5, .q 6, .l 7 false, .q 8, .q 9, .c 10 []] (by kernel_rfl) (by kernel_rfl) ?_
      simp (disch := omega) only [↓stq, amv_at, ↓pln, plv, nilOk, Nat.reduceBEq, Bool.or_false, Bool.or_true, Bool.false_or, Bool.true_or, vls, inf, frs, mark_eq, ↓reduceIte, Nat.reduceEqDiff, ite_tt, ite_ff, eq_self, and_true, true_and, and_self, implies_true, Bool.true_eq_false, Bool.false_eq_true, decide_true, decide_false, decide_eq_true_eq, decide_eq_false_iff_not, ne_eq, not_true_eq_false, not_false_eq_true, Bool.not_eq_true', Bool.not_eq_false', beq_self_eq_true, Bool.not_true, Bool.not_false, List.getElem?_toArray, List.getElem?_cons_zero, List.getElem?_cons_succ, h0, h2, h3, h4, h5, h6, h7, h8, h9, add_at, w0, m1, s1]
      have hmin : -9223372036854775808 ≤ (if (fs[j]).2.1 < sc then (fs[j]).2.1 else sc) ∧ (if (fs[j]).2.1 < sc then (fs[j]).2.1 else sc) < 9223372036854775808 := by
        split
        · exact y2
        · exact hsr
      generalize (if (fs[j]).2.1 < sc then (fs[j]).2.1 else sc) = sc2 at hmin
      refine led_store l 0 rfl sz3 (by rfl) (by rfl) (by rfl) fun V l => ?_
      have m1 := l.cell (i := 0) rfl (o := 1) rfl rfl
      have w0 := l.cell (i := 4) rfl (o := 0) rfl rfl
      simp (disch := omega) only [↓stq, amv_at, ↓pln, plv, nilOk, Nat.reduceBEq, Bool.or_false, Bool.or_true, Bool.false_or, Bool.true_or, vls, inf, frs, mark_eq, ↓reduceIte, Nat.reduceEqDiff, ite_tt, ite_ff, eq_self, and_true, true_and, and_self, implies_true, Bool.true_eq_false, Bool.false_eq_true, decide_true, decide_false, decide_eq_true_eq, decide_eq_false_iff_not, ne_eq, not_true_eq_false, not_false_eq_true, Bool.not_eq_true', Bool.not_eq_false', beq_self_eq_true, Bool.not_true, Bool.not_false, List.getElem?_toArray, List.getElem?_cons_zero, List.getElem?_cons_succ, h0, h2, h3, h4, h5, h6, h7, h8, h9, add_at, w0, m1, false_implies]
      exact ⟨_, by omega, k + 1, sc2, by omega, rfl, hmin, l, rfl⟩
    · have kt : V.part ⟨q8, 0, none⟩ 4 = some _ := l.part (i := 0) rfl rfl
      simp (disch := omega) only [↓stq, amv_at, vls, inf, frs, mark_eq, ↓reduceIte, Nat.reduceEqDiff, ite_tt, ite_ff, eq_self, and_true, true_and, and_self, implies_true, Bool.true_eq_false, Bool.false_eq_true, decide_true, decide_false, decide_eq_true_eq, decide_eq_false_iff_not, ne_eq, not_true_eq_false, not_false_eq_true, Bool.not_eq_true', Bool.not_eq_false', beq_self_eq_true, Bool.not_true, Bool.not_false, List.getElem?_toArray, List.getElem?_cons_zero, List.getElem?_cons_succ, h0, h2, h3, h4, h5, h6, h7, h8, h9, add_at, w0, kt]
      obtain ⟨f, hf⟩ : ∃ f : FixtureD, f = (nm, sc, nd, ab, ()) := ⟨_, rfl⟩
      have hgF : genF f := by rw [hf]; exact ⟨hnz1, hn1⟩
      have hfn : f.1 = nm := by rw [hf]
      have lo := (l.perm ((List.Perm.swap ..).trans ((List.Perm.swap ..).cons _))).upd (i := 0) (jt := oc fixtureO fn f [.string nm, .int .i64 sc, .slice an nd.length cn, .bool ab]) rfl rfl (Only.refl _ _) (show fixtureO.rel V fn f _ from by rw [hf]; exact fixtureO_mk (x := (nm, sc, nd, ab, ())) (by show nm.size ≤ _; omega) hsr (l.at (i := 2) rfl))
      refine led_lit li38 (by omega) rfl (fun p hp => by rcases List.mem_singleton.1 hp with rfl; exact ⟨rfl, rfl⟩) lo fun bl V4 _ l => ?_
      simp (disch := omega) only [↓stq, amv_at, vls, inf, frs, mark_eq, ↓reduceIte, Nat.reduceEqDiff, ite_tt, ite_ff, eq_self, and_true, true_and, and_self, implies_true, Bool.true_eq_false, Bool.false_eq_true, decide_true, decide_false, decide_eq_true_eq, decide_eq_false_iff_not, ne_eq, not_true_eq_false, not_false_eq_true, Bool.not_eq_true', Bool.not_eq_false', beq_self_eq_true, Bool.not_true, Bool.not_false, List.getElem?_toArray, List.getElem?_cons_zero, List.getElem?_cons_succ, h0, h2, h3, h4, h5, h6, h7, h8, h9]
      refine led_appO (O := fixtureO) ap38_38 (by decide) l (i := 4) rfl (by omega) fun fp' w' V5 _ l => ?_
      obtain ⟨aw', cw', rfl, _, _⟩ := (OSl.toS (show OSl 75 fixtureO V5 fp' w' _ from l.at (i := 4) rfl)).slice
      simp (disch := omega) only [↓stq, amv_at, vls, inf, frs, mark_eq, ↓reduceIte, Nat.reduceEqDiff, ite_tt, ite_ff, eq_self, and_true, true_and, and_self, implies_true, Bool.true_eq_false, Bool.false_eq_true, decide_true, decide_false, decide_eq_true_eq, decide_eq_false_iff_not, ne_eq, not_true_eq_false, not_false_eq_true, Bool.not_eq_true', Bool.not_eq_false', beq_self_eq_true, Bool.not_true, Bool.not_false, List.getElem?_toArray, List.getElem?_cons_zero, List.getElem?_cons_succ, h0, h2, h3, h4, h5, h6, h7, h8, h9, add_at]
      refine led_store l 3 rfl sz38 (by rfl) (by rfl) (by rfl) fun V6 l => ?_
      have m0 := l.cell (i := 0) rfl (o := 0) rfl rfl
      simp (disch := omega) only [↓stq, amv_at, vls, inf, frs, mark_eq, ↓reduceIte, Nat.reduceEqDiff, ite_tt, ite_ff, eq_self, and_true, true_and, and_self, implies_true, Bool.true_eq_false, Bool.false_eq_true, decide_true, decide_false, decide_eq_true_eq, decide_eq_false_iff_not, ne_eq, not_true_eq_false, not_false_eq_true, Bool.not_eq_true', Bool.not_eq_false', beq_self_eq_true, Bool.not_true, Bool.not_false, List.getElem?_toArray, List.getElem?_cons_zero, List.getElem?_cons_succ, h0, h2, h3, h4, h5, h6, h7, h8, h9, add_at, m0]
      refine led_lit li54 (by omega) rfl (fun p hp => by rcases List.mem_singleton.1 hp with rfl; exact ⟨rfl, rfl⟩) l fun bl V7 _ l => ?_
      simp (disch := omega) only [↓stq, amv_at, vls, inf, frs, mark_eq, ↓reduceIte, Nat.reduceEqDiff, ite_tt, ite_ff, eq_self, and_true, true_and, and_self, implies_true, Bool.true_eq_false, Bool.false_eq_true, decide_true, decide_false, decide_eq_true_eq, decide_eq_false_iff_not, ne_eq, not_true_eq_false, not_false_eq_true, Bool.not_eq_true', Bool.not_eq_false', beq_self_eq_true, Bool.not_true, Bool.not_false, List.getElem?_toArray, List.getElem?_cons_zero, List.getElem?_cons_succ, h0, h2, h3, h4, h5, h6, h7, h8, h9]
      refine led_app (O := strO) ap54_54 (by decide) l (i := 3) rfl (l.src1 (S := strS) (j := 0) rfl ⟨rfl, by omega⟩) (by rw [List.length_singleton, List.length_map]; omega) fun fp2 w2 V8 _ l => ?_
      simp (disch := omega) only [↓stq, amv_at, vls, inf, frs, mark_eq, ↓reduceIte, Nat.reduceEqDiff, ite_tt, ite_ff, eq_self, and_true, true_and, and_self, implies_true, Bool.true_eq_false, Bool.false_eq_true, decide_true, decide_false, decide_eq_true_eq, decide_eq_false_iff_not, ne_eq, not_true_eq_false, not_false_eq_true, Bool.not_eq_true', Bool.not_eq_false', beq_self_eq_true, Bool.not_true, Bool.not_false, List.getElem?_toArray, List.getElem?_cons_zero, List.getElem?_cons_succ, h0, h2, h3, h4, h5, h6, h7, h8, h9]
      refine ⟨_, by omega, i + 1, fp2, w2, fp', .slice aw' (fs ++ [f]).length cw', fs ++ [f], by omega, rfl, ?_, rfl, rfl, by rw [List.length_append, List.length_singleton]; omega, fun g hg => ?_⟩
      · rw [map_take_snoc, hfn]
        exact l.tail.tail.perm (List.Perm.swap ..)
      · rcases List.mem_append.1 hg with hg | hg
        · exact hgf g hg
        · rw [List.mem_singleton.1 hg]; exact hgF
  · have hfl6 : fs.length ≤ 6 := by omega
    simp (disch := omega) only [↓stq, amv_at, vls, inf, frs, mark_eq, ↓reduceIte, Nat.reduceEqDiff, ite_tt, ite_ff, eq_self, and_true, true_and, and_self, implies_true, Bool.true_eq_false, Bool.false_eq_true, decide_true, decide_false, decide_eq_true_eq, decide_eq_false_iff_not, ne_eq, not_true_eq_false, not_false_eq_true, Bool.not_eq_true', Bool.not_eq_false', beq_self_eq_true, Bool.not_true, Bool.not_false, List.getElem?_toArray, List.getElem?_cons_zero, List.getElem?_cons_succ, h0, h2, h3, h4, h5, h6, h7]
    refine (goodTests_c B V _ q sl _ wu (fs.map fun f : FixtureD => f.1) hb (by omega) (fun V l => OSl.toS (l.at (i := 0) rfl)) (l.perm (List.Perm.swap ..))).mono ?_
    rintro r V ⟨ft, ts, ht1, ht2, l⟩
    obtain ⟨at1, ct1, rfl, _, _⟩ := (OSl.toS (show OSl 78 testO V ft r ts from l.at (i := 0) rfl)).slice
    obtain ⟨aw, cw, rfl, _, _⟩ := (OSl.toS (show OSl 75 fixtureO V fp w fs from l.at (i := 4) rfl)).slice
    simp (disch := omega) only [↓stq, amv_at, vls, inf, frs, mark_eq, ↓reduceIte, Nat.reduceEqDiff, ite_tt, ite_ff, eq_self, and_true, true_and, and_self, implies_true, Bool.true_eq_false, Bool.false_eq_true, decide_true, decide_false, decide_eq_true_eq, decide_eq_false_iff_not, ne_eq, not_true_eq_false, not_false_eq_true, Bool.not_eq_true', Bool.not_eq_false', beq_self_eq_true, Bool.not_true, Bool.not_false, List.getElem?_toArray, List.getElem?_cons_zero, List.getElem?_cons_succ, h0, h2, h3, h4, h5, h6, h7, add_at]
    refine led_store l 3 rfl sz39 (by rfl) (by rfl) (by rfl) fun V l => ?_
    have kp : V.part ⟨q4, 0, none⟩ 2 = some [.slice aw fs.length cw, .slice at1 ts.length ct1] := l.part (i := 3) rfl rfl
    simp (disch := omega) only [↓stq, amv_at, vls, inf, frs, mark_eq, ↓reduceIte, Nat.reduceEqDiff, ite_tt, ite_ff, eq_self, and_true, true_and, and_self, implies_true, Bool.true_eq_false, Bool.false_eq_true, decide_true, decide_false, decide_eq_true_eq, decide_eq_false_iff_not, ne_eq, not_true_eq_false, not_false_eq_true, Bool.not_eq_true', Bool.not_eq_false', beq_self_eq_true, Bool.not_true, Bool.not_false, List.getElem?_toArray, List.getElem?_cons_zero, List.getElem?_cons_succ, h0, h2, h3, h4, h5, h6, h7, kp]
    refine led_storeAll (d := [.slice aw fs.length cw, .slice at1 ts.length ct1]) l 6 rfl sz41 rfl rfl (by simp [Value.oneCell']) fun V l => ?_
    have kp : V.part ⟨q2, 0, none⟩ 2 = some [.slice aw fs.length cw, .slice at1 ts.length ct1] := l.part (i := 6) rfl rfl
    simp (disch := omega) only [↓stq, amv_at, vls, inf, frs, mark_eq, ↓reduceIte, Nat.reduceEqDiff, ite_tt, ite_ff, eq_self, and_true, true_and, and_self, implies_true, Bool.true_eq_false, Bool.false_eq_true, decide_true, decide_false, decide_eq_true_eq, decide_eq_false_iff_not, ne_eq, not_true_eq_false, not_false_eq_true, Bool.not_eq_true', Bool.not_eq_false', beq_self_eq_true, Bool.not_true, Bool.not_false, List.getElem?_toArray, List.getElem?_cons_zero, List.getElem?_cons_succ, h0, h2, h3, h4, h5, h6, h7, kp]
    have l2 : Led B (osl 78 testO ft (.slice at1 ts.length ct1) ts :: osl 75 fixtureO fp (.slice aw fs.length cw) fs :: rdr q sl (N + 1 + 6 * i + 101) :: L) V := (l.sub (M := osl 78 testO ft (.slice at1 ts.length ct1) ts :: rdr q sl (N + 1 + 6 * i + 101) :: osl 75 fixtureO fp (.slice aw fs.length cw) fs :: L) (.cons_cons _ (.cons_cons _ (.cons _ (.cons _ (.cons_cons _ (.cons _ (.cons _ (List.Sublist.refl L))))))))).perm ((List.Perm.swap ..).cons _)
    have l3 := l2.join2 (jt := oc suiteO (fp ++ ft) (fs, ts, ()) [.slice aw fs.length cw, .slice at1 ts.length ct1]) rfl (suiteO_mk (x := (fs, ts, ())) (l2.at (i := 1) rfl) (l2.at (i := 0) rfl))
    exact ⟨_, (fs, ts, ()), _, rfl, ⟨hfl6, ht1, hgf, ht2⟩, (rdr_more (l3.perm (List.Perm.swap ..)) (M := N + 200) (by omega)).perm (List.Perm.swap ..)⟩

end Go.Proofs.Ytggklaimbklefaa

/- Generators: suites that may be invalid. -/
set_option maxHeartbeats 4000000
set_option synthInstance.maxHeartbeats 400000
set_option synthInstance.maxSize 4096
set_option linter.unusedSimpArgs false
set_option linter.unusedVariables false
namespace Go.Proofs.Ytggklaimbklefaa

set_option maxRecDepth 100000

theorem someSuite_c (B A : View) (L : List It) (q : Nat) (sl : Value) (N : Nat) (hb : Bts B sl) (hN : N ≤ 600000000) (l : Led B (rdr q sl N :: L) A) : ACalls Try.prog 84 #[.pointer (some ⟨q, 0, none⟩)] A fun r V => ∃ fp x cells, r = .agg cells.toArray ∧ GenS x ∧ Led B (oc suiteO fp x cells :: rdr q sl (N + 300) :: L) V := by
  refine acalls Try.func84 rfl (by kernel_rfl) ?_
  simp (disch := omega) only [↓stq, amv_at, vls, inf, frs, mark_eq, ↓reduceIte, Nat.reduceEqDiff, ite_tt, ite_ff, eq_self, and_true, true_and, and_self, implies_true, Bool.true_eq_false, Bool.false_eq_true, decide_true, decide_false, decide_eq_true_eq, decide_eq_false_iff_not, ne_eq, not_true_eq_false, not_false_eq_true, Bool.not_eq_true', Bool.not_eq_false', beq_self_eq_true, Bool.not_true, Bool.not_false, List.getElem?_toArray, List.getElem?_cons_zero, List.getElem?_cons_succ]
  refine led_alloc zc41 l fun q2 V _ l => ?_
  simp (disch := omega) only [↓stq, amv_at, vls, inf, frs, mark_eq, ↓reduceIte, Nat.reduceEqDiff, ite_tt, ite_ff, eq_self, and_true, true_and, and_self, implies_true, Bool.true_eq_false, Bool.false_eq_true, decide_true, decide_false, decide_eq_true_eq, decide_eq_false_iff_not, ne_eq, not_true_eq_false, not_false_eq_true, Bool.not_eq_true', Bool.not_eq_false', beq_self_eq_true, Bool.not_true, Bool.not_false, List.getElem?_toArray, List.getElem?_cons_zero, List.getElem?_cons_succ]
  refine (goodSuite_c B V _ q sl N hb (by omega) (l.perm (List.Perm.swap ..))).mono ?_
  rintro r V ⟨fp, x, cells, rfl, hg, l⟩
  obtain ⟨ff0, uu0, ff1, uu1, rfl, rfl, o0, o1⟩ := suiteO_open (show suiteO.rel V fp x cells from l.at (i := 0) rfl)
  obtain ⟨a0, c0, rfl, _, _⟩ := o0.toS.slice
  obtain ⟨a1, c1, rfl, _, _⟩ := o1.toS.slice
  have hl0 := hg.l0
  replace l := l.split2 (it1 := osl 75 fixtureO ff0 _ x.1) (it2 := osl 78 testO ff1 _ x.2.1) rfl o0 o1
  simp (disch := omega) only [↓stq, amv_at, vls, inf, frs, mark_eq, ↓reduceIte, Nat.reduceEqDiff, ite_tt, ite_ff, eq_self, and_true, true_and, and_self, implies_true, Bool.true_eq_false, Bool.false_eq_true, decide_true, decide_false, decide_eq_true_eq, decide_eq_false_iff_not, ne_eq, not_true_eq_false, not_false_eq_true, Bool.not_eq_true', Bool.not_eq_false', beq_self_eq_true, Bool.not_true, Bool.not_false, List.getElem?_toArray, List.getElem?_cons_zero, List.getElem?_cons_succ]
  refine led_alloc zc41 l fun q3 V _ l => ?_
  simp (disch := omega) only [↓stq, amv_at, vls, inf, frs, mark_eq, ↓reduceIte, Nat.reduceEqDiff, ite_tt, ite_ff, eq_self, and_true, true_and, and_self, implies_true, Bool.true_eq_false, Bool.false_eq_true, decide_true, decide_false, decide_eq_true_eq, decide_eq_false_iff_not, ne_eq, not_true_eq_false, not_false_eq_true, Bool.not_eq_true', Bool.not_eq_false', beq_self_eq_true, Bool.not_true, Bool.not_false, List.getElem?_toArray, List.getElem?_cons_zero, List.getElem?_cons_succ]
  refine led_storeAll l 0 rfl sz41 rfl rfl (by simp [Value.oneCell']) fun V l => ?_
  have w0 := l.cell (i := 0) rfl (o := 0) rfl rfl
  have fin : ∀ (V : View) (fs : List FixtureD) (f0 : List Nat) (M : Nat) (a : Option Addr) (c : Nat), fs.length = x.1.length → M ≤ N + 300 → (∀ f, f ∈ fs → genF f) → Led B (rdr q sl M :: bx q3 ⟨41, [.slice a x.1.length c, .slice a1 x.2.1.length c1], 2, true⟩ :: osl 75 fixtureO f0 (.slice a x.1.length c) fs :: osl 78 testO ff1 (.slice a1 x.2.1.length c1) x.2.1 :: bx q2 ⟨41, [.slice a x.1.length c, .slice a1 x.2.1.length c1], 2, true⟩ :: L) V → ∃ fp y cells, Value.agg #[.slice a x.1.length c, .slice a1 x.2.1.length c1] = .agg cells.toArray ∧ GenS y ∧ Led B (oc suiteO fp y cells :: rdr q sl (N + 300) :: L) V := fun V fs f0 M a c hlen hM hgf l => by
    have l2 : Led B (osl 78 testO ff1 (.slice a1 x.2.1.length c1) x.2.1 :: osl 75 fixtureO f0 (.slice a x.1.length c) fs :: rdr q sl M :: L) V := (l.sub (M := rdr q sl M :: osl 75 fixtureO f0 (.slice a x.1.length c) fs :: osl 78 testO ff1 (.slice a1 x.2.1.length c1) x.2.1 :: L) (.cons_cons _ (.cons _ (.cons_cons _ (.cons_cons _ (.cons _ (List.Sublist.refl L))))))).perm (((List.Perm.swap ..).trans ((List.Perm.swap ..).cons _)).trans (List.Perm.swap ..)).symm.symm
    have l3 := l2.join2 (jt := oc suiteO (f0 ++ ff1) (fs, x.2.1, ()) [.slice a x.1.length c, .slice a1 x.2.1.length c1]) rfl (suiteO_mk (x := (fs, x.2.1, ())) (l2.at (i := 1) rfl) (l2.at (i := 0) rfl))
    exact ⟨_, (fs, x.2.1, ()), _, rfl, ⟨by show fs.length ≤ 6; omega, hg.l1, hgf, hg.s1⟩, (rdr_more (l3.perm (List.Perm.swap ..)) (M := N + 300) hM).perm (List.Perm.swap ..)⟩
  simp (disch := omega) only [↓stq, amv_at, vls, inf, frs, mark_eq, ↓reduceIte, Nat.reduceEqDiff, ite_tt, ite_ff, eq_self, and_true, true_and, and_self, implies_true, Bool.true_eq_false, Bool.false_eq_true, decide_true, decide_false, decide_eq_true_eq, decide_eq_false_iff_not, ne_eq, not_true_eq_false, not_false_eq_true, Bool.not_eq_true', Bool.not_eq_false', beq_self_eq_true, Bool.not_true, Bool.not_false, List.getElem?_toArray, List.getElem?_cons_zero, List.getElem?_cons_succ, add_at, w0]
  refine ⟨fun e => ?_, fun e => ?_⟩ <;> simp (disch := omega) only [↓stq, amv_at, vls, inf, frs, mark_eq, ↓reduceIte, Nat.reduceEqDiff, ite_tt, ite_ff, eq_self, and_true, true_and, and_self, implies_true, Bool.true_eq_false, Bool.false_eq_true, decide_true, decide_false, decide_eq_true_eq, decide_eq_false_iff_not, ne_eq, not_true_eq_false, not_false_eq_true, Bool.not_eq_true', Bool.not_eq_false', beq_self_eq_true, Bool.not_true, Bool.not_false, List.getElem?_toArray, List.getElem?_cons_zero, List.getElem?_cons_succ, add_at, w0]
  · have l2 : Led B (rdr q sl (N + 200) :: bx q3 ⟨41, [.slice a0 x.1.length c0, .slice a1 x.2.1.length c1], 2, true⟩ :: osl 75 fixtureO ff0 (.slice a0 x.1.length c0) x.1 :: osl 78 testO ff1 (.slice a1 x.2.1.length c1) x.2.1 :: bx q2 ⟨41, [.slice none 0 0, .slice none 0 0], 2, true⟩ :: L) V := l.front 3 (by simp)
    refine (pick_c B V _ q sl _ x.1.length hb (by omega) ⟨by omega, by omega⟩ l2).mono ?_
    rintro _ V ⟨k, rfl, hk0, hk1, l⟩
    obtain ⟨k, rfl⟩ := Int.eq_ofNat_of_zero_le hk0
    have hkl : k < x.1.length := by omega
    simp (disch := omega) only [↓stq, amv_at, vls, inf, frs, mark_eq, ↓reduceIte, Nat.reduceEqDiff, ite_tt, ite_ff, eq_self, and_true, true_and, and_self, implies_true, Bool.true_eq_false, Bool.false_eq_true, decide_true, decide_false, decide_eq_true_eq, decide_eq_false_iff_not, ne_eq, not_true_eq_false, not_false_eq_true, Bool.not_eq_true', Bool.not_eq_false', beq_self_eq_true, Bool.not_true, Bool.not_false, List.getElem?_toArray, List.getElem?_cons_zero, List.getElem?_cons_succ]
    refine (pick_c B V _ q sl _ 24 hb (by omega) ⟨by omega, by omega⟩ l).mono ?_
    rintro _ V ⟨u, rfl, hu0, hu1, l⟩
    simp (disch := omega) only [↓stq, amv_at, vls, inf, frs, mark_eq, ↓reduceIte, Nat.reduceEqDiff, ite_tt, ite_ff, eq_self, and_true, true_and, and_self, implies_true, Bool.true_eq_false, Bool.false_eq_true, decide_true, decide_false, decide_eq_true_eq, decide_eq_false_iff_not, ne_eq, not_true_eq_false, not_false_eq_true, Bool.not_eq_true', Bool.not_eq_false', beq_self_eq_true, Bool.not_true, Bool.not_false, List.getElem?_toArray, List.getElem?_cons_zero, List.getElem?_cons_succ]
    refine ⟨fun eu => ?_, fun eu => ?_⟩
    · obtain ⟨b, cb, d1, d2, d3, f1, f2, f3, hv, hcb, hd1, lo⟩ := (l.perm ((List.Perm.swap ..).trans ((List.Perm.swap ..).cons _))).openAt hkl
      injection hv with hv1 hv2 hv3
      subst hv1; subst hv3
      obtain ⟨gf, gu, rfl, rfl, z1, z2, og⟩ := fixtureO_open (show fixtureO.rel V f2 x.1[k] d2 from lo.at (i := 1) rfl)
      replace lo := lo.upd (i := 1) (jt := osl 9 strO gf gu (x.1[k]).2.2.1) rfl rfl (Only.refl _ _) og
      replace hd1 : d1.length = k * 4 := hd1
      have hgk := hg.s0 _ (List.getElem_mem hkl)
      replace l : Led B (rdr q sl (N + 200 + 1 + 1) :: bx b ⟨75, d1 ++ ([.string (x.1[k]).1, .int .i64 (x.1[k]).2.1, gu, .bool (x.1[k]).2.2.2.1] ++ d3), c0 * 4, true⟩ :: osl 9 strO gf gu (x.1[k]).2.2.1 :: oel fixtureO f1 (x.1.take k) d1 :: oel fixtureO f3 (x.1.drop (k + 1)) d3 :: bx q3 ⟨41, [.slice (some ⟨b, 0, none⟩) x.1.length c0, .slice a1 x.2.1.length c1], 2, true⟩ :: osl 78 testO ff1 (.slice a1 x.2.1.length c1) x.2.1 :: bx q2 ⟨41, [.slice none 0 0, .slice none 0 0], 2, true⟩ :: L) V := lo.front 4 (by simp)
      clear lo
      have w0 := l.cell (i := 5) rfl (o := 0) rfl rfl
      simp (disch := omega) only [↓stq, amv_at, vls, inf, frs, mark_eq, ↓reduceIte, Nat.reduceEqDiff, ite_tt, ite_ff, eq_self, and_true, true_and, and_self, implies_true, Bool.true_eq_false, Bool.false_eq_true, decide_true, decide_false, decide_eq_true_eq, decide_eq_false_iff_not, ne_eq, not_true_eq_false, not_false_eq_true, Bool.not_eq_true', Bool.not_eq_false', beq_self_eq_true, Bool.not_true, Bool.not_false, List.getElem?_toArray, List.getElem?_cons_zero, List.getElem?_cons_succ]
      refine adraw_items [.q 0, .l 1 true, .q 2, .q 3, .c 4 [], .c 5 [1], .q 6, .q 7, .c 8 []] (by kernel_rfl) (by kernel_rfl) ?_
      simp (disch := omega) only [↓stq, amv_at, ↓pln, plv, nilOk, Nat.reduceBEq, Bool.or_false, Bool.or_true, Bool.false_or, Bool.true_or, vls, inf, frs, mark_eq, ↓reduceIte, Nat.reduceEqDiff, ite_tt, ite_ff, eq_self, and_true, true_and, and_self, implies_true, Bool.true_eq_false, Bool.false_eq_true, decide_true, decide_false, decide_eq_true_eq, decide_eq_false_iff_not, ne_eq, not_true_eq_false, not_false_eq_true, Bool.not_eq_true', Bool.not_eq_false', beq_self_eq_true, Bool.not_true, Bool.not_false, List.getElem?_toArray, List.getElem?_cons_zero, List.getElem?_cons_succ, add_at, w0]
      refine led_lit li90 (by omega) rfl (by simp [Value.cells, Value.oneCell']) l fun bl V _ l => ?_
      have w0 := l.cell (i := 6) rfl (o := 0) rfl rfl
      simp (disch := omega) only [↓stq, amv_at, ↓pln, plv, nilOk, Nat.reduceBEq, Bool.or_false, Bool.or_true, Bool.false_or, Bool.true_or, vls, inf, frs, mark_eq, ↓reduceIte, Nat.reduceEqDiff, ite_tt, ite_ff, eq_self, and_true, true_and, and_self, implies_true, Bool.true_eq_false, Bool.false_eq_true, decide_true, decide_false, decide_eq_true_eq, decide_eq_false_iff_not, ne_eq, not_true_eq_false, not_false_eq_true, Bool.not_eq_true', Bool.not_eq_false', beq_self_eq_true, Bool.not_true, Bool.not_false, List.getElem?_toArray, List.getElem?_cons_zero, List.getElem?_cons_succ, add_at, w0, false_implies]
      refine (oneLit_c (n := 3) (c := 3) (xs := [_, _, _]) B V _ q sl _ hb (by omega) rfl rfl (by omega) (by decide) (by omega) (by omega) l).mono ?_
      rintro _ V ⟨s, rfl, hs, l⟩
      have hsr : -9223372036854775808 ≤ s ∧ s < 9223372036854775808 := by revert s; decide
      have w0 := l.cell (i := 5) rfl (o := 0) rfl rfl
      simp (disch := omega) only [↓stq, amv_at, ↓pln, plv, nilOk, Nat.reduceBEq, Bool.or_false, Bool.or_true, Bool.false_or, Bool.true_or, vls, inf, frs, mark_eq, ↓reduceIte, Nat.reduceEqDiff, ite_tt, ite_ff, eq_self, and_true, true_and, and_self, implies_true, Bool.true_eq_false, Bool.false_eq_true, decide_true, decide_false, decide_eq_true_eq, decide_eq_false_iff_not, ne_eq, not_true_eq_false, not_false_eq_true, Bool.not_eq_true', Bool.not_eq_false', beq_self_eq_true, Bool.not_true, Bool.not_false, List.getElem?_toArray, List.getElem?_cons_zero, List.getElem?_cons_succ, add_at, w0, false_implies]
      refine led_mid l 1 rfl sz3 (j := 1) (d' := [.string (x.1[k]).1, .int .i64 s, gu, .bool (x.1[k]).2.2.2.1]) (by omega) ⟨rfl, rfl⟩ ⟨by simp, rfl⟩ fun W _ l => ?_
      have w0 := l.cell (i := 5) rfl (o := 0) rfl rfl
      simp (disch := omega) only [↓stq, amv_at, ↓pln, plv, nilOk, Nat.reduceBEq, Bool.or_false, Bool.or_true, Bool.false_or, Bool.true_or, vls, inf, frs, mark_eq, ↓reduceIte, Nat.reduceEqDiff, ite_tt, ite_ff, eq_self, and_true, true_and, and_self, implies_true, Bool.true_eq_false, Bool.false_eq_true, decide_true, decide_false, decide_eq_true_eq, decide_eq_false_iff_not, ne_eq, not_true_eq_false, not_false_eq_true, Bool.not_eq_true', Bool.not_eq_false', beq_self_eq_true, Bool.not_true, Bool.not_false, List.getElem?_toArray, List.getElem?_cons_zero, List.getElem?_cons_succ, add_at, w0, false_implies]
      have l9 : Led B (bx b ⟨75, d1 ++ ([.string (x.1[k]).1, .int .i64 s, gu, .bool (x.1[k]).2.2.2.1] ++ d3), c0 * 4, true⟩ :: oc fixtureO gf ((x.1[k]).1, s, (x.1[k]).2.2.1, (x.1[k]).2.2.2.1, ()) [.string (x.1[k]).1, .int .i64 s, gu, .bool (x.1[k]).2.2.2.1] :: oel fixtureO f1 (x.1.take k) d1 :: oel fixtureO f3 (x.1.drop (k + 1)) d3 :: rdr q sl (N + 200 + 1 + 1 + 1) :: bx q3 ⟨41, [.slice (some ⟨b, 0, none⟩) x.1.length c0, .slice a1 x.2.1.length c1], 2, true⟩ :: osl 78 testO ff1 (.slice a1 x.2.1.length c1) x.2.1 :: bx q2 ⟨41, [.slice none 0 0, .slice none 0 0], 2, true⟩ :: L) W := (l.upd (i := 2) (jt := oc fixtureO gf ((x.1[k]).1, s, (x.1[k]).2.2.1, (x.1[k]).2.2.2.1, ()) [.string (x.1[k]).1, .int .i64 s, gu, .bool (x.1[k]).2.2.2.1]) rfl rfl (Only.refl _ _) (show fixtureO.rel W gf ((x.1[k]).1, s, (x.1[k]).2.2.1, (x.1[k]).2.2.2.1, ()) _ from fixtureO_mk (x := ((x.1[k]).1, s, (x.1[k]).2.2.1, (x.1[k]).2.2.2.1, ())) z1 hsr (l.at (i := 2) rfl))).perm (List.perm_middle (l₁ := [_, _, _, _]))
      have l := (Led.closeAt (O := fixtureO) l9 hkl hcb (by omega)).perm (((List.Perm.swap ..).trans ((List.Perm.swap ..).cons _)).symm)
      have kp : W.part ⟨q3, 0, none⟩ 2 = some [.slice (some ⟨b, 0, none⟩) x.1.length c0, .slice a1 x.2.1.length c1] := l.part (i := 1) rfl rfl
      simp (disch := omega) only [↓stq, amv_at, vls, inf, frs, mark_eq, ↓reduceIte, Nat.reduceEqDiff, ite_tt, ite_ff, eq_self, and_true, true_and, and_self, implies_true, Bool.true_eq_false, Bool.false_eq_true, decide_true, decide_false, decide_eq_true_eq, decide_eq_false_iff_not, ne_eq, not_true_eq_false, not_false_eq_true, Bool.not_eq_true', Bool.not_eq_false', beq_self_eq_true, Bool.not_true, Bool.not_false, List.getElem?_toArray, List.getElem?_cons_zero, List.getElem?_cons_succ, kp]
      refine led_storeAll (d := [.slice (some ⟨b, 0, none⟩) x.1.length c0, .slice a1 x.2.1.length c1]) l 4 rfl sz41 rfl rfl (by simp [Value.oneCell']) fun V l => ?_
      have kp : V.part ⟨q2, 0, none⟩ 2 = some [.slice (some ⟨b, 0, none⟩) x.1.length c0, .slice a1 x.2.1.length c1] := l.part (i := 4) rfl rfl
      simp (disch := omega) only [↓stq, amv_at, vls, inf, frs, mark_eq, ↓reduceIte, Nat.reduceEqDiff, ite_tt, ite_ff, eq_self, and_true, true_and, and_self, implies_true, Bool.true_eq_false, Bool.false_eq_true, decide_true, decide_false, decide_eq_true_eq, decide_eq_false_iff_not, ne_eq, not_true_eq_false, not_false_eq_true, Bool.not_eq_true', Bool.not_eq_false', beq_self_eq_true, Bool.not_true, Bool.not_false, List.getElem?_toArray, List.getElem?_cons_zero, List.getElem?_cons_succ, kp]
      exact fin V (x.1.set k ((x.1[k]).1, s, (x.1[k]).2.2.1, (x.1[k]).2.2.2.1, ())) _ _ _ _ (by rw [List.length_set]) (by omega) (fun g hg2 => by
        rcases List.mem_or_eq_of_mem_set hg2 with hg2 | rfl
        · exact hg.s0 g hg2
        · exact hgk) l
    · simp (disch := omega) only [↓stq, amv_at, vls, inf, frs, mark_eq, ↓reduceIte, Nat.reduceEqDiff, ite_tt, ite_ff, eq_self, and_true, true_and, and_self, implies_true, Bool.true_eq_false, Bool.false_eq_true, decide_true, decide_false, decide_eq_true_eq, decide_eq_false_iff_not, ne_eq, not_true_eq_false, not_false_eq_true, Bool.not_eq_true', Bool.not_eq_false', beq_self_eq_true, Bool.not_true, Bool.not_false, List.getElem?_toArray, List.getElem?_cons_zero, List.getElem?_cons_succ]
      refine ⟨fun eu => ?_, fun eu => ?_⟩
      · obtain ⟨b, cb, d1, d2, d3, f1, f2, f3, hv, hcb, hd1, lo⟩ := (l.perm ((List.Perm.swap ..).trans ((List.Perm.swap ..).cons _))).openAt hkl
        injection hv with hv1 hv2 hv3
        subst hv1; subst hv3
        obtain ⟨gf, gu, rfl, rfl, z1, z2, og⟩ := fixtureO_open (show fixtureO.rel V f2 x.1[k] d2 from lo.at (i := 1) rfl)
        replace lo := lo.upd (i := 1) (jt := osl 9 strO gf gu (x.1[k]).2.2.1) rfl rfl (Only.refl _ _) og
        replace hd1 : d1.length = k * 4 := hd1
        have hgk := hg.s0 _ (List.getElem_mem hkl)
        replace l : Led B (rdr q sl (N + 200 + 1 + 1) :: bx b ⟨75, d1 ++ ([.string (x.1[k]).1, .int .i64 (x.1[k]).2.1, gu, .bool (x.1[k]).2.2.2.1] ++ d3), c0 * 4, true⟩ :: osl 9 strO gf gu (x.1[k]).2.2.1 :: oel fixtureO f1 (x.1.take k) d1 :: oel fixtureO f3 (x.1.drop (k + 1)) d3 :: bx q3 ⟨41, [.slice (some ⟨b, 0, none⟩) x.1.length c0, .slice a1 x.2.1.length c1], 2, true⟩ :: osl 78 testO ff1 (.slice a1 x.2.1.length c1) x.2.1 :: bx q2 ⟨41, [.slice none 0 0, .slice none 0 0], 2, true⟩ :: L) V := lo.front 4 (by simp)
        clear lo
        have w0 := l.cell (i := 5) rfl (o := 0) rfl rfl
        simp (disch := omega) only [↓stq, amv_at, vls, inf, frs, mark_eq, ↓reduceIte, Nat.reduceEqDiff, ite_tt, ite_ff, eq_self, and_true, true_and, and_self, implies_true, Bool.true_eq_false, Bool.false_eq_true, decide_true, decide_false, decide_eq_true_eq, decide_eq_false_iff_not, ne_eq, not_true_eq_false, not_false_eq_true, Bool.not_eq_true', Bool.not_eq_false', beq_self_eq_true, Bool.not_true, Bool.not_false, List.getElem?_toArray, List.getElem?_cons_zero, List.getElem?_cons_succ]
        refine adraw_items [.q 0, .l 1 true, .q 2, .q 3, .c 4 [], .c 5 [1], .c 6 [], .q 7, .q 8, .c 9 []] (by kernel_rfl) (by kernel_rfl) ?_
        simp (disch := omega) only [↓stq, amv_at, ↓pln, plv, nilOk, Nat.reduceBEq, Bool.or_false, Bool.or_true, Bool.false_or, Bool.true_or, vls, inf, frs, mark_eq, ↓reduceIte, Nat.reduceEqDiff, ite_tt, ite_ff, eq_self, and_true, true_and, and_self, implies_true, Bool.true_eq_false, Bool.false_eq_true, decide_true, decide_false, decide_eq_true_eq, decide_eq_false_iff_not, ne_eq, not_true_eq_false, not_false_eq_true, Bool.not_eq_true', Bool.not_eq_false', beq_self_eq_true, Bool.not_true, Bool.not_false, List.getElem?_toArray, List.getElem?_cons_zero, List.getElem?_cons_succ, add_at, w0]
        refine led_lit li54 (by omega) rfl (by simp [Value.cells, Value.oneCell']) l fun bl V _ l => ?_
        have w0 := l.cell (i := 6) rfl (o := 0) rfl rfl
        simp (disch := omega) only [↓stq, amv_at, ↓pln, plv, nilOk, Nat.reduceBEq, Bool.or_false, Bool.or_true, Bool.false_or, Bool.true_or, vls, inf, frs, mark_eq, ↓reduceIte, Nat.reduceEqDiff, ite_tt, ite_ff, eq_self, and_true, true_and, and_self, implies_true, Bool.true_eq_false, Bool.false_eq_true, decide_true, decide_false, decide_eq_true_eq, decide_eq_false_iff_not, ne_eq, not_true_eq_false, not_false_eq_true, Bool.not_eq_true', Bool.not_eq_false', beq_self_eq_true, Bool.not_true, Bool.not_false, List.getElem?_toArray, List.getElem?_cons_zero, List.getElem?_cons_succ, add_at, w0, false_implies]
        refine (ofLit_c (n := 4) (c := 4) (xs := [_, _, _, _]) B V _ q sl _ hb (by omega) rfl rfl (by omega) (by decide) (by omega) (by omega) l).mono ?_
        rintro _ V ⟨s, rfl, hs, l⟩
        have hsz : s.size ≤ 100 := by revert s; decide
        have w0 := l.cell (i := 5) rfl (o := 0) rfl rfl
        simp (disch := omega) only [↓stq, amv_at, ↓pln, plv, nilOk, Nat.reduceBEq, Bool.or_false, Bool.or_true, Bool.false_or, Bool.true_or, vls, inf, frs, mark_eq, ↓reduceIte, Nat.reduceEqDiff, ite_tt, ite_ff, eq_self, and_true, true_and, and_self, implies_true, Bool.true_eq_false, Bool.false_eq_true, decide_true, decide_false, decide_eq_true_eq, decide_eq_false_iff_not, ne_eq, not_true_eq_false, not_false_eq_true, Bool.not_eq_true', Bool.not_eq_false', beq_self_eq_true, Bool.not_true, Bool.not_false, List.getElem?_toArray, List.getElem?_cons_zero, List.getElem?_cons_succ, add_at, w0, false_implies]
        refine led_lit li54 (by omega) rfl (by simp [Value.cells, Value.oneCell']) l fun bl V _ l => ?_
        have w0 := l.cell (i := 6) rfl (o := 0) rfl rfl
        simp (disch := omega) only [↓stq, amv_at, ↓pln, plv, nilOk, Nat.reduceBEq, Bool.or_false, Bool.or_true, Bool.false_or, Bool.true_or, vls, inf, frs, mark_eq, ↓reduceIte, Nat.reduceEqDiff, ite_tt, ite_ff, eq_self, and_true, true_and, and_self, implies_true, Bool.true_eq_false, Bool.false_eq_true, decide_true, decide_false, decide_eq_true_eq, decide_eq_false_iff_not, ne_eq, not_true_eq_false, not_false_eq_true, Bool.not_eq_true', Bool.not_eq_false', beq_self_eq_true, Bool.not_true, Bool.not_false, List.getElem?_toArray, List.getElem?_cons_zero, List.getElem?_cons_succ, add_at, w0, false_implies]
        refine led_mid l 2 rfl sz54 (j := 2) (d' := [.string (x.1[k]).1, .int .i64 (x.1[k]).2.1, .slice (some ⟨bl, 0, none⟩) 1 1, .bool (x.1[k]).2.2.2.1]) (by omega) ⟨rfl, rfl⟩ ⟨by simp, rfl⟩ fun W _ l => ?_
        have w0 := l.cell (i := 6) rfl (o := 0) rfl rfl
        simp (disch := omega) only [↓stq, amv_at, ↓pln, plv, nilOk, Nat.reduceBEq, Bool.or_false, Bool.or_true, Bool.false_or, Bool.true_or, vls, inf, frs, mark_eq, ↓reduceIte, Nat.reduceEqDiff, ite_tt, ite_ff, eq_self, and_true, true_and, and_self, implies_true, Bool.true_eq_false, Bool.false_eq_true, decide_true, decide_false, decide_eq_true_eq, decide_eq_false_iff_not, ne_eq, not_true_eq_false, not_false_eq_true, Bool.not_eq_true', Bool.not_eq_false', beq_self_eq_true, Bool.not_true, Bool.not_false, List.getElem?_toArray, List.getElem?_cons_zero, List.getElem?_cons_succ, add_at, w0, false_implies]
        replace l := (l.upd (i := 0) (jt := oc fixtureO [bl] ((x.1[k]).1, (x.1[k]).2.1, [s], (x.1[k]).2.2.2.1, ()) [.string (x.1[k]).1, .int .i64 (x.1[k]).2.1, .slice (some ⟨bl, 0, none⟩) 1 1, .bool (x.1[k]).2.2.2.1]) rfl rfl (Only.refl _ _) (show fixtureO.rel W [bl] ((x.1[k]).1, (x.1[k]).2.1, [s], (x.1[k]).2.2.2.1, ()) _ from fixtureO_mk (x := ((x.1[k]).1, (x.1[k]).2.1, [s], (x.1[k]).2.2.2.1, ())) z1 z2 (lit_osl (ns := [s]) (c := 1) (l.at (i := 0) rfl) rfl rfl (by simp) (by simp) (fun y hy => by rw [List.mem_singleton.1 hy]; exact hsz)))).sub (.cons_cons _ (.cons_cons _ (.cons_cons _ (.cons _ (List.Sublist.refl _)))))
        replace l := l.perm (((List.Perm.swap ..).cons _).trans (List.Perm.swap ..))
        have l9 : Led B (bx b ⟨75, d1 ++ ([.string (x.1[k]).1, .int .i64 (x.1[k]).2.1, .slice (some ⟨bl, 0, none⟩) 1 1, .bool (x.1[k]).2.2.2.1] ++ d3), c0 * 4, true⟩ :: oc fixtureO [bl] ((x.1[k]).1, (x.1[k]).2.1, [s], (x.1[k]).2.2.2.1, ()) [.string (x.1[k]).1, .int .i64 (x.1[k]).2.1, .slice (some ⟨bl, 0, none⟩) 1 1, .bool (x.1[k]).2.2.2.1] :: oel fixtureO f1 (x.1.take k) d1 :: oel fixtureO f3 (x.1.drop (k + 1)) d3 :: rdr q sl (N + 200 + 1 + 1 + 1) :: bx q3 ⟨41, [.slice (some ⟨b, 0, none⟩) x.1.length c0, .slice a1 x.2.1.length c1], 2, true⟩ :: osl 78 testO ff1 (.slice a1 x.2.1.length c1) x.2.1 :: bx q2 ⟨41, [.slice none 0 0, .slice none 0 0], 2, true⟩ :: L) W := l.perm (List.perm_middle (l₁ := [_, _, _, _]))
        have l := (Led.closeAt (O := fixtureO) l9 hkl hcb (by omega)).perm (((List.Perm.swap ..).trans ((List.Perm.swap ..).cons _)).symm)
        have kp : W.part ⟨q3, 0, none⟩ 2 = some [.slice (some ⟨b, 0, none⟩) x.1.length c0, .slice a1 x.2.1.length c1] := l.part (i := 1) rfl rfl
        simp (disch := omega) only [↓stq, amv_at, vls, inf, frs, mark_eq, ↓reduceIte, Nat.reduceEqDiff, ite_tt, ite_ff, eq_self, and_true, true_and, and_self, implies_true, Bool.true_eq_false, Bool.false_eq_true, decide_true, decide_false, decide_eq_true_eq, decide_eq_false_iff_not, ne_eq, not_true_eq_false, not_false_eq_true, Bool.not_eq_true', Bool.not_eq_false', beq_self_eq_true, Bool.not_true, Bool.not_false, List.getElem?_toArray, List.getElem?_cons_zero, List.getElem?_cons_succ, kp]
        refine led_storeAll (d := [.slice (some ⟨b, 0, none⟩) x.1.length c0, .slice a1 x.2.1.length c1]) l 4 rfl sz41 rfl rfl (by simp [Value.oneCell']) fun V l => ?_
        have kp : V.part ⟨q2, 0, none⟩ 2 = some [.slice (some ⟨b, 0, none⟩) x.1.length c0, .slice a1 x.2.1.length c1] := l.part (i := 4) rfl rfl
        simp (disch := omega) only [↓stq, amv_at, vls, inf, frs, mark_eq, ↓reduceIte, Nat.reduceEqDiff, ite_tt, ite_ff, eq_self, and_true, true_and, and_self, implies_true, Bool.true_eq_false, Bool.false_eq_true, decide_true, decide_false, decide_eq_true_eq, decide_eq_false_iff_not, ne_eq, not_true_eq_false, not_false_eq_true, Bool.not_eq_true', Bool.not_eq_false', beq_self_eq_true, Bool.not_true, Bool.not_false, List.getElem?_toArray, List.getElem?_cons_zero, List.getElem?_cons_succ, kp]
        exact fin V (x.1.set k ((x.1[k]).1, (x.1[k]).2.1, [s], (x.1[k]).2.2.2.1, ())) _ _ _ _ (by rw [List.length_set]) (by omega) (fun g hg2 => by
          rcases List.mem_or_eq_of_mem_set hg2 with hg2 | rfl
          · exact hg.s0 g hg2
          · exact ⟨hgk.1, by show [s].length ≤ 3; simp⟩) l
      · simp (disch := omega) only [↓stq, amv_at, vls, inf, frs, mark_eq, ↓reduceIte, Nat.reduceEqDiff, ite_tt, ite_ff, eq_self, and_true, true_and, and_self, implies_true, Bool.true_eq_false, Bool.false_eq_true, decide_true, decide_false, decide_eq_true_eq, decide_eq_false_iff_not, ne_eq, not_true_eq_false, not_false_eq_true, Bool.not_eq_true', Bool.not_eq_false', beq_self_eq_true, Bool.not_true, Bool.not_false, List.getElem?_toArray, List.getElem?_cons_zero, List.getElem?_cons_succ]
        refine ⟨fun eu => ?_, fun eu => ?_⟩
        · obtain ⟨b, cb, d1, d2, d3, f1, f2, f3, hv, hcb, hd1, lo⟩ := (l.perm ((List.Perm.swap ..).trans ((List.Perm.swap ..).cons _))).openAt hkl
          injection hv with hv1 hv2 hv3
          subst hv1; subst hv3
          obtain ⟨gf, gu, rfl, rfl, z1, z2, og⟩ := fixtureO_open (show fixtureO.rel V f2 x.1[k] d2 from lo.at (i := 1) rfl)
          replace lo := lo.upd (i := 1) (jt := osl 9 strO gf gu (x.1[k]).2.2.1) rfl rfl (Only.refl _ _) og
          replace hd1 : d1.length = k * 4 := hd1
          have hgk := hg.s0 _ (List.getElem_mem hkl)
          replace l : Led B (rdr q sl (N + 200 + 1 + 1) :: bx b ⟨75, d1 ++ ([.string (x.1[k]).1, .int .i64 (x.1[k]).2.1, gu, .bool (x.1[k]).2.2.2.1] ++ d3), c0 * 4, true⟩ :: osl 9 strO gf gu (x.1[k]).2.2.1 :: oel fixtureO f1 (x.1.take k) d1 :: oel fixtureO f3 (x.1.drop (k + 1)) d3 :: bx q3 ⟨41, [.slice (some ⟨b, 0, none⟩) x.1.length c0, .slice a1 x.2.1.length c1], 2, true⟩ :: osl 78 testO ff1 (.slice a1 x.2.1.length c1) x.2.1 :: bx q2 ⟨41, [.slice none 0 0, .slice none 0 0], 2, true⟩ :: L) V := lo.front 4 (by simp)
          clear lo
          have w0 := l.cell (i := 5) rfl (o := 0) rfl rfl
          simp (disch := omega) only [↓stq, amv_at, vls, inf, frs, mark_eq, ↓reduceIte, Nat.reduceEqDiff, ite_tt, ite_ff, eq_self, and_true, true_and, and_self, implies_true, Bool.true_eq_false, Bool.false_eq_true, decide_true, decide_false, decide_eq_true_eq, decide_eq_false_iff_not, ne_eq, not_true_eq_false, not_false_eq_true, Bool.not_eq_true', Bool.not_eq_false', beq_self_eq_true, Bool.not_true, Bool.not_false, List.getElem?_toArray, List.getElem?_cons_zero, List.getElem?_cons_succ]
          refine adraw_items [.q 0, .l 1 true, .q 2, .q 3, .c 4 [], .c 5 [1], .q 6, .q 7, .c 8 []] (by kernel_rfl) (by kernel_rfl) ?_
          simp (disch := omega) only [↓stq, amv_at, ↓pln, plv, nilOk, Nat.reduceBEq, Bool.or_false, Bool.or_true, Bool.false_or, Bool.true_or, vls, inf, frs, mark_eq, ↓reduceIte, Nat.reduceEqDiff, ite_tt, ite_ff, eq_self, and_true, true_and, and_self, implies_true, Bool.true_eq_false, Bool.false_eq_true, decide_true, decide_false, decide_eq_true_eq, decide_eq_false_iff_not, ne_eq, not_true_eq_false, not_false_eq_true, Bool.not_eq_true', Bool.not_eq_false', beq_self_eq_true, Bool.not_true, Bool.not_false, List.getElem?_toArray, List.getElem?_cons_zero, List.getElem?_cons_succ, add_at, w0]
          refine led_lit li54 (by omega) rfl (by simp [Value.cells, Value.oneCell']) l fun bl V _ l => ?_
          have w0 := l.cell (i := 6) rfl (o := 0) rfl rfl
          simp (disch := omega) only [↓stq, amv_at, ↓pln, plv, nilOk, Nat.reduceBEq, Bool.or_false, Bool.or_true, Bool.false_or, Bool.true_or, vls, inf, frs, mark_eq, ↓reduceIte, Nat.reduceEqDiff, ite_tt, ite_ff, eq_self, and_true, true_and, and_self, implies_true, Bool.true_eq_false, Bool.false_eq_true, decide_true, decide_false, decide_eq_true_eq, decide_eq_false_iff_not, ne_eq, not_true_eq_false, not_false_eq_true, Bool.not_eq_true', Bool.not_eq_false', beq_self_eq_true, Bool.not_true, Bool.not_false, List.getElem?_toArray, List.getElem?_cons_zero, List.getElem?_cons_succ, add_at, w0, false_implies]
          refine (ofLit_c (n := 3) (c := 3) (xs := [_, _, _]) B V _ q sl _ hb (by omega) rfl rfl (by omega) (by decide) (by omega) (by omega) l).mono ?_
          rintro _ V ⟨s, rfl, hs, l⟩
          have hsz : s.size ≤ 100 := by revert s; decide
          have w0 := l.cell (i := 5) rfl (o := 0) rfl rfl
          simp (disch := omega) only [↓stq, amv_at, ↓pln, plv, nilOk, Nat.reduceBEq, Bool.or_false, Bool.or_true, Bool.false_or, Bool.true_or, vls, inf, frs, mark_eq, ↓reduceIte, Nat.reduceEqDiff, ite_tt, ite_ff, eq_self, and_true, true_and, and_self, implies_true, Bool.true_eq_false, Bool.false_eq_true, decide_true, decide_false, decide_eq_true_eq, decide_eq_false_iff_not, ne_eq, not_true_eq_false, not_false_eq_true, Bool.not_eq_true', Bool.not_eq_false', beq_self_eq_true, Bool.not_true, Bool.not_false, List.getElem?_toArray, List.getElem?_cons_zero, List.getElem?_cons_succ, add_at, w0, false_implies]
          refine led_mid l 1 rfl sz9 (j := 0) (d' := [.string s, .int .i64 (x.1[k]).2.1, gu, .bool (x.1[k]).2.2.2.1]) (by omega) ⟨rfl, rfl⟩ ⟨by simp, rfl⟩ fun W _ l => ?_
          have w0 := l.cell (i := 5) rfl (o := 0) rfl rfl
          simp (disch := omega) only [↓stq, amv_at, ↓pln, plv, nilOk, Nat.reduceBEq, Bool.or_false, Bool.or_true, Bool.false_or, Bool.true_or, vls, inf, frs, mark_eq, ↓reduceIte, Nat.reduceEqDiff, ite_tt, ite_ff, eq_self, and_true, true_and, and_self, implies_true, Bool.true_eq_false, Bool.false_eq_true, decide_true, decide_false, decide_eq_true_eq, decide_eq_false_iff_not, ne_eq, not_true_eq_false, not_false_eq_true, Bool.not_eq_true', Bool.not_eq_false', beq_self_eq_true, Bool.not_true, Bool.not_false, List.getElem?_toArray, List.getElem?_cons_zero, List.getElem?_cons_succ, add_at, w0, false_implies]
          have l9 : Led B (bx b ⟨75, d1 ++ ([.string s, .int .i64 (x.1[k]).2.1, gu, .bool (x.1[k]).2.2.2.1] ++ d3), c0 * 4, true⟩ :: oc fixtureO gf (s, (x.1[k]).2.1, (x.1[k]).2.2.1, (x.1[k]).2.2.2.1, ()) [.string s, .int .i64 (x.1[k]).2.1, gu, .bool (x.1[k]).2.2.2.1] :: oel fixtureO f1 (x.1.take k) d1 :: oel fixtureO f3 (x.1.drop (k + 1)) d3 :: rdr q sl (N + 200 + 1 + 1 + 1) :: bx q3 ⟨41, [.slice (some ⟨b, 0, none⟩) x.1.length c0, .slice a1 x.2.1.length c1], 2, true⟩ :: osl 78 testO ff1 (.slice a1 x.2.1.length c1) x.2.1 :: bx q2 ⟨41, [.slice none 0 0, .slice none 0 0], 2, true⟩ :: L) W := (l.upd (i := 2) (jt := oc fixtureO gf (s, (x.1[k]).2.1, (x.1[k]).2.2.1, (x.1[k]).2.2.2.1, ()) [.string s, .int .i64 (x.1[k]).2.1, gu, .bool (x.1[k]).2.2.2.1]) rfl rfl (Only.refl _ _) (show fixtureO.rel W gf (s, (x.1[k]).2.1, (x.1[k]).2.2.1, (x.1[k]).2.2.2.1, ()) _ from fixtureO_mk (x := (s, (x.1[k]).2.1, (x.1[k]).2.2.1, (x.1[k]).2.2.2.1, ())) (by show s.size ≤ _; omega) z2 (l.at (i := 2) rfl))).perm (List.perm_middle (l₁ := [_, _, _, _]))
          have l := (Led.closeAt (O := fixtureO) l9 hkl hcb (by omega)).perm (((List.Perm.swap ..).trans ((List.Perm.swap ..).cons _)).symm)
          have kp : W.part ⟨q3, 0, none⟩ 2 = some [.slice (some ⟨b, 0, none⟩) x.1.length c0, .slice a1 x.2.1.length c1] := l.part (i := 1) rfl rfl
          simp (disch := omega) only [↓stq, amv_at, vls, inf, frs, mark_eq, ↓reduceIte, Nat.reduceEqDiff, ite_tt, ite_ff, eq_self, and_true, true_and, and_self, implies_true, Bool.true_eq_false, Bool.false_eq_true, decide_true, decide_false, decide_eq_true_eq, decide_eq_false_iff_not, ne_eq, not_true_eq_false, not_false_eq_true, Bool.not_eq_true', Bool.not_eq_false', beq_self_eq_true, Bool.not_true, Bool.not_false, List.getElem?_toArray, List.getElem?_cons_zero, List.getElem?_cons_succ, kp]
          refine led_storeAll (d := [.slice (some ⟨b, 0, none⟩) x.1.length c0, .slice a1 x.2.1.length c1]) l 4 rfl sz41 rfl rfl (by simp [Value.oneCell']) fun V l => ?_
          have kp : V.part ⟨q2, 0, none⟩ 2 = some [.slice (some ⟨b, 0, none⟩) x.1.length c0, .slice a1 x.2.1.length c1] := l.part (i := 4) rfl rfl
          simp (disch := omega) only [↓stq, amv_at, vls, inf, frs, mark_eq, ↓reduceIte, Nat.reduceEqDiff, ite_tt, ite_ff, eq_self, and_true, true_and, and_self, implies_true, Bool.true_eq_false, Bool.false_eq_true, decide_true, decide_false, decide_eq_true_eq, decide_eq_false_iff_not, ne_eq, not_true_eq_false, not_false_eq_true, Bool.not_eq_true', Bool.not_eq_false', beq_self_eq_true, Bool.not_true, Bool.not_false, List.getElem?_toArray, List.getElem?_cons_zero, List.getElem?_cons_succ, kp]
          exact fin V (x.1.set k (s, (x.1[k]).2.1, (x.1[k]).2.2.1, (x.1[k]).2.2.2.1, ())) _ _ _ _ (by rw [List.length_set]) (by omega) (fun g hg2 => by
            rcases List.mem_or_eq_of_mem_set hg2 with hg2 | rfl
            · exact hg.s0 g hg2
            · exact ⟨hsz, hgk.2⟩) l
        · have kp : V.part ⟨q3, 0, none⟩ 2 = some [.slice a0 x.1.length c0, .slice a1 x.2.1.length c1] := l.part (i := 1) rfl rfl
          simp (disch := omega) only [↓stq, amv_at, vls, inf, frs, mark_eq, ↓reduceIte, Nat.reduceEqDiff, ite_tt, ite_ff, eq_self, and_true, true_and, and_self, implies_true, Bool.true_eq_false, Bool.false_eq_true, decide_true, decide_false, decide_eq_true_eq, decide_eq_false_iff_not, ne_eq, not_true_eq_false, not_false_eq_true, Bool.not_eq_true', Bool.not_eq_false', beq_self_eq_true, Bool.not_true, Bool.not_false, List.getElem?_toArray, List.getElem?_cons_zero, List.getElem?_cons_succ, kp]
          refine led_storeAll (d := [.slice a0 x.1.length c0, .slice a1 x.2.1.length c1]) l 4 rfl sz41 rfl rfl (by simp [Value.oneCell']) fun V l => ?_
          have kp : V.part ⟨q2, 0, none⟩ 2 = some [.slice a0 x.1.length c0, .slice a1 x.2.1.length c1] := l.part (i := 4) rfl rfl
          simp (disch := omega) only [↓stq, amv_at, vls, inf, frs, mark_eq, ↓reduceIte, Nat.reduceEqDiff, ite_tt, ite_ff, eq_self, and_true, true_and, and_self, implies_true, Bool.true_eq_false, Bool.false_eq_true, decide_true, decide_false, decide_eq_true_eq, decide_eq_false_iff_not, ne_eq, not_true_eq_false, not_false_eq_true, Bool.not_eq_true', Bool.not_eq_false', beq_self_eq_true, Bool.not_true, Bool.not_false, List.getElem?_toArray, List.getElem?_cons_zero, List.getElem?_cons_succ, kp]
          exact fin V x.1 _ _ _ _ rfl (by omega) hg.s0 l
  · have l2 : Led B (rdr q sl (N + 200) :: bx q3 ⟨41, [.slice a0 x.1.length c0, .slice a1 x.2.1.length c1], 2, true⟩ :: osl 75 fixtureO ff0 (.slice a0 x.1.length c0) x.1 :: osl 78 testO ff1 (.slice a1 x.2.1.length c1) x.2.1 :: bx q2 ⟨41, [.slice none 0 0, .slice none 0 0], 2, true⟩ :: L) V := l.front 3 (by simp)
    replace l := l2
    have kp : V.part ⟨q3, 0, none⟩ 2 = some [.slice a0 x.1.length c0, .slice a1 x.2.1.length c1] := l.part (i := 1) rfl rfl
    simp (disch := omega) only [↓stq, amv_at, vls, inf, frs, mark_eq, ↓reduceIte, Nat.reduceEqDiff, ite_tt, ite_ff, eq_self, and_true, true_and, and_self, implies_true, Bool.true_eq_false, Bool.false_eq_true, decide_true, decide_false, decide_eq_true_eq, decide_eq_false_iff_not, ne_eq, not_true_eq_false, not_false_eq_true, Bool.not_eq_true', Bool.not_eq_false', beq_self_eq_true, Bool.not_true, Bool.not_false, List.getElem?_toArray, List.getElem?_cons_zero, List.getElem?_cons_succ, kp]
    refine led_storeAll (d := [.slice a0 x.1.length c0, .slice a1 x.2.1.length c1]) l 4 rfl sz41 rfl rfl (by simp [Value.oneCell']) fun V l => ?_
    have kp : V.part ⟨q2, 0, none⟩ 2 = some [.slice a0 x.1.length c0, .slice a1 x.2.1.length c1] := l.part (i := 4) rfl rfl
    simp (disch := omega) only [↓stq, amv_at, vls, inf, frs, mark_eq, ↓reduceIte, Nat.reduceEqDiff, ite_tt, ite_ff, eq_self, and_true, true_and, and_self, implies_true, Bool.true_eq_false, Bool.false_eq_true, decide_true, decide_false, decide_eq_true_eq, decide_eq_false_iff_not, ne_eq, not_true_eq_false, not_false_eq_true, Bool.not_eq_true', Bool.not_eq_false', beq_self_eq_true, Bool.not_true, Bool.not_false, List.getElem?_toArray, List.getElem?_cons_zero, List.getElem?_cons_succ, kp]
    exact fin V x.1 _ _ _ _ rfl (by omega) hg.s0 l

end Go.Proofs.Ytggklaimbklefaa

/- Structs held against each other. -/
set_option maxHeartbeats 4000000
set_option synthInstance.maxHeartbeats 400000
set_option synthInstance.maxSize 4096
set_option linter.unusedSimpArgs false
set_option linter.unusedVariables false
namespace Go.Proofs.Ytggklaimbklefaa

section
variable {P : Program} {A : View}

theorem sawp_bind' {α β : Type} (s : Sem α) (f : α → Sem β) (K : β → View → Prop) : sawp P (s >>= f) K A = sawp P s (fun a A => sawp P (f a) K A) A := sawp_bind ..
theorem sawp_pure' {α : Type} (a : α) (K : α → View → Prop) : sawp P (pure a : Sem α) K A = K a A := rfl

theorem sawp_struct {d : Nat} {t : TypeId} {xs ys : Array Value} {K : Bool → View → Prop} (ht : P.underlying t = some (.struct (P.fieldsOf t))) (hp : P.stoodInHeld t = false) : sawp P (Op.equalIn (d + 1) t (.agg xs) (.agg ys)) K A = sawp P (Op.eqFields d xs ys (P.fieldsOf t).toList) K A := by
  unfold Op.equalIn
  rw [sawp_underlying ht]
  dsimp only
  rw [sawp_bind']
  show sawp P (if P.stoodInHeld t = true then _ else _) K A = _
  rw [hp, if_neg (by decide), sawp_bind', ← Array.forIn_toList]
  generalize (P.fieldsOf t).toList = fs
  clear ht hp
  induction fs generalizing A with
  | nil => rfl
  | cons f fs ih =>
    rw [List.forIn_cons, sawp_bind']
    unfold Op.eqFields
    split
    · rw [sawp_bind', sawp_bind']
      congr 1
      funext a A
      rw [sawp_bind', sawp_bind']
      congr 1
      funext b A
      rw [sawp_bind', sawp_bind']
      congr 1
      funext c A
      cases c with
      | false => rfl
      | true => exact ih
    · exact ih

theorem sawp_scal {d : Nat} {t : TypeId} {K : Bool → View → Prop} :
    (∀ k k' a b, P.underlying t = some (.int k') → sawp P (Op.equalIn (d + 1) t (.int k a) (.int k b)) K A = K (decide (a = b)) A) ∧
    (∀ a b : ByteArray, P.underlying t = some .string → sawp P (Op.equalIn (d + 1) t (.string a) (.string b)) K A = K (decide (a = b)) A) := by
  constructor
  · intro k k' a b h
    unfold Op.equalIn
    rw [sawp_underlying h]
    dsimp only
    rw [if_pos rfl, sawp_pure']
    rfl
  · intro a b h
    unfold Op.equalIn
    rw [sawp_underlying h]
    dsimp only
    rw [sawp_pure']
    congr 1
    rw [Bool.eq_iff_iff, beq_iff_eq, decide_eq_true_eq]

theorem sawp_isAgg {t : TypeId} {d : TypeDesc} {K : Bool → View → Prop} (h : P.underlying t = some d) (hd : isAggD d = false) : sawp P (isAgg t) K A = K false A := by
  unfold isAgg
  rw [sawp_underlying h]
  cases d <;> first | rfl | cases hd
theorem sawp_part {t : TypeId} {d : TypeDesc} {cs : Array Value} {off : Nat} {v : Value} {K : Value → View → Prop} (h : P.underlying t = some d) (hd : isAggD d = false) (hv : cs[off]? = some v) : sawp P (part t cs off) K A = K v A := by
  unfold part
  rw [sawp_bind', sawp_isAgg h hd, if_neg (by decide), hv]
  rfl

/-- Two structs of numbers and texts, field by field. -/
def eqL (P : Program) (xs ys : Array Value) : List Field → Option Bool
  | [] => some true
  | f :: fs => if f.name = "_" then none else match P.underlying f.type, xs[f.offset]?, ys[f.offset]? with
    | some (.int _), some (.int k a), some (.int k' b) => if k = k' then (eqL P xs ys fs).map (decide (a = b) && ·) else none
    | some .string, some (.string a), some (.string b) => (eqL P xs ys fs).map (decide (a = b) && ·)
    | _, _, _ => none
theorem sawp_eqL {d : Nat} {xs ys : Array Value} {K : Bool → View → Prop} : ∀ (fs : List Field) (r : Bool), eqL P xs ys fs = some r → sawp P (Op.eqFields (d + 1) xs ys fs) K A = K r A
  | [], r, h => by
    injection h with h
    subst h
    rfl
  | f :: fs, r, h => by
    unfold eqL at h
    unfold Op.eqFields
    split at h
    · cases h
    · rename_i hn
      rw [if_pos hn]
      split at h
      · rename_i ki k a k' b h1 h2 h3
        split at h
        · rename_i hk
          subst hk
          cases hq : eqL P xs ys fs with
          | none => rw [hq] at h; cases h
          | some r' =>
            rw [hq] at h
            injection h with h
            rw [sawp_bind', sawp_part h1 rfl h2, sawp_bind', sawp_part h1 rfl h3, sawp_bind', (sawp_scal (d := d)).1 k ki a b h1, ← h]
            cases decide (a = b) with
            | false => rfl
            | true => exact sawp_eqL fs r' hq
        · cases h
      · rename_i a b h1 h2 h3
        cases hq : eqL P xs ys fs with
        | none => rw [hq] at h; cases h
        | some r' =>
          rw [hq] at h
          injection h with h
          rw [sawp_bind', sawp_part h1 rfl h2, sawp_bind', sawp_part h1 rfl h3, sawp_bind', (sawp_scal (d := d)).2 a b h1, ← h]
          cases decide (a = b) with
          | false => rfl
          | true => exact sawp_eqL fs r' hq
      · cases h

/-- Structs of numbers and texts, held against each other. -/
theorem abin_neStruct {t : TypeId} {xs ys : Array Value} {K : Value → View → Prop} (ht : P.underlying t = some (.struct (P.fieldsOf t))) (hp : P.stoodInHeld t = false) (hg : P.eqGuardType P.depth t = false) {r : Bool} (hr : eqL P xs ys (P.fieldsOf t).toList = some r) (x y : Operand) :
    abin P .neq t x y (.agg xs) (.agg ys) A K = K (.bool (!r)) A ∧ abin P .eql t x y (.agg xs) (.agg ys) A K = K (.bool r) A := by
  constructor
  all_goals
    unfold abin
    rw [sawp_bind']
    unfold eqGuard
    dsimp only
    rw [if_neg (by decide), sawp_bind']
    show sawp P (if (!P.eqGuardType P.depth t) = true then _ else _) _ A = _
    rw [hg, if_pos (show (!false) = true from rfl), sawp_pure']
    show sawp P (Op.equalIn (9999 + 1) t (.agg xs) (.agg ys) >>= _) K A = _
    rw [sawp_bind', sawp_struct ht hp, sawp_eqL _ r hr]
    rfl

end

theorem nePb (a a' : Int) (b b' c c' : ByteArray) {A : View} {K : Value → View → Prop} (x y : Operand) : abin Try.prog .neq 121 x y (.agg #[.int .i64 a, .string b, .string c]) (.agg #[.int .i64 a', .string b', .string c']) A K = K (.bool (!(decide (a = a') && (decide (b = b') && (decide (c = c') && true))))) A :=
  (abin_neStruct (by kernel_rfl) (by kernel_rfl) (by kernel_rfl) (by kernel_rfl) x y).1

theorem neEv (a a' : Int) (b b' : ByteArray) {A : View} {K : Value → View → Prop} (x y : Operand) : abin Try.prog .neq 56 x y (.agg #[.int .i64 a, .string b]) (.agg #[.int .i64 a', .string b']) A K = K (.bool (!(decide (a = a') && (decide (b = b') && true)))) A :=
  (abin_neStruct (by kernel_rfl) (by kernel_rfl) (by kernel_rfl) (by kernel_rfl) x y).1

end Go.Proofs.Ytggklaimbklefaa

/- Plans: what is live, events; the reference's plan. -/
set_option maxHeartbeats 4000000
set_option synthInstance.maxHeartbeats 400000
set_option synthInstance.maxSize 4096
set_option linter.unusedSimpArgs false
set_option linter.unusedVariables false
namespace Go.Proofs.Ytggklaimbklefaa

set_option maxRecDepth 100000

/-! ### closures, in plain words -/
def preR (x : SuiteD) (t : TestD) : List ByteArray := (x.1.filter fun f => f.2.2.2.1).map (·.1) ++ t.2.2.2.1
def rawR (fs : List FixtureD) (ns : List ByteArray) : List ByteArray := ns.foldl (fun l a => rchF fs (fuel fs) a [] l) []
def bucket (fs : List FixtureD) (l : List ByteArray) (s : Int) : List ByteArray := l.filter fun a => decide (scopeAt fs a = s)
def cloR (fs : List FixtureD) (ns : List ByteArray) : List ByteArray := bucket fs (rawR fs ns) 2 ++ (bucket fs (rawR fs ns) 1 ++ bucket fs (rawR fs ns) 0)
theorem rawR_snoc (fs : List FixtureD) (ns : List ByteArray) (a : ByteArray) : rawR fs (ns ++ [a]) = rchF fs (fuel fs) a [] (rawR fs ns) := by
  unfold rawR
  rw [List.foldl_append]
  rfl
theorem rawR_names (fs : List FixtureD) (ns : List ByteArray) : Names fs (rawR fs ns) := by
  rw [← List.reverse_reverse ns]
  induction ns.reverse with
  | nil => exact ⟨List.nodup_nil, fun x hx => by cases hx⟩
  | cons a az ih => rw [List.reverse_cons, rawR_snoc]; exact rchF_names _ _ _ _ ih
theorem names_nil (fs : List FixtureD) : Names fs [] := ⟨List.nodup_nil, fun x hx => by cases hx⟩
theorem bucket_mem {fs : List FixtureD} {l : List ByteArray} {s : Int} {a : ByteArray} : a ∈ bucket fs l s ↔ a ∈ l ∧ scopeAt fs a = s := by
  unfold bucket
  rw [List.mem_filter, decide_eq_true_eq]
theorem bucket_snoc {fs : List FixtureD} {l : List ByteArray} {s : Int} {a : ByteArray} : bucket fs (l ++ [a]) s = bucket fs l s ++ (if scopeAt fs a = s then [a] else []) := by
  unfold bucket
  rw [List.filter_append, List.filter_cons]
  by_cases h : scopeAt fs a = s
  · rw [if_pos (decide_eq_true h), if_pos h]; rfl
  · rw [if_neg (by rw [decide_eq_false h]; decide), if_neg h]; rfl
theorem bucket_take {fs : List FixtureD} {l : List ByteArray} {s : Int} {i : Nat} (h : i < l.length) : bucket fs (l.take (i + 1)) s = bucket fs (l.take i) s ++ (if scopeAt fs l[i] = s then [l[i]] else []) := by
  rw [List.take_succ_eq_append_getElem h, bucket_snoc]
theorem auto_take {fs : List FixtureD} {i : Nat} (h : i < fs.length) : ((fs.take (i + 1)).filter fun f => f.2.2.2.1).map (·.1) = ((fs.take i).filter fun f => f.2.2.2.1).map (·.1) ++ (if (fs[i]).2.2.2.1 = true then [(fs[i]).1] else []) := by
  rw [List.take_succ_eq_append_getElem h, List.filter_append, List.map_append, List.filter_cons]
  by_cases hq : (fs[i]).2.2.2.1 = true
  · rw [if_pos hq, if_pos hq]; rfl
  · rw [if_neg hq, if_neg hq]; rfl

def outsR (fs : List FixtureD) (l : List ByteArray) : Nat → List ByteArray
  | 0 => []
  | k + 1 => outsR fs l k ++ bucket fs l (2 - (k : Int))
theorem outsR_end (fs : List FixtureD) (l : List ByteArray) : outsR fs l 3 = bucket fs l 2 ++ (bucket fs l 1 ++ bucket fs l 0) := by
  show (([] ++ bucket fs l 2) ++ bucket fs l 1) ++ bucket fs l 0 = _
  simp
theorem bucket_len (fs : List FixtureD) (l : List ByteArray) (s : Int) : (bucket fs l s).length ≤ l.length := List.length_filter_le ..
theorem outsR_len (fs : List FixtureD) (l : List ByteArray) : ∀ k, (outsR fs l k).length ≤ k * l.length
  | 0 => by simp [outsR]
  | k + 1 => by
    have := outsR_len fs l k
    have := bucket_len fs l (2 - (k : Int))
    rw [outsR, List.length_append, Nat.succ_mul]
    omega

theorem spec_closure_c (A : View) (d d' : List Value) (x : SuiteD) (t : TestD) (hx : suiteS.rel A x d) (ht : testS.rel A t d') (hsm : x.1.length ≤ 1048576) : ACalls Try.prog 50 #[.agg d.toArray, .agg d'.toArray] A fun r V => NewSl 9 strO A r V (cloR x.1 (preR x t)) := by
  obtain ⟨u0, u1, rfl, g0, g1⟩ := suiteS_open hx
  obtain ⟨a0, c0, rfl, _, _⟩ := g0.slice
  obtain ⟨a1, c1, rfl, _, _⟩ := g1.slice
  obtain ⟨v2, v3, rfl, z1, z2, f2, f3⟩ := testS_open ht
  obtain ⟨a2, c2, rfl, _, _⟩ := f2.slice
  obtain ⟨a3, c3, rfl, _, _⟩ := f3.slice
  have hSx : ∀ V, Ext A V → suiteS.rel V x [.slice a0 x.1.length c0, .slice a1 x.2.1.length c1] := fun V he => suiteS_mk (g0.mono he) (g1.mono he)
  have hx0 := hSx A (Ext.refl A)
  refine acalls Try.func50 rfl (by kernel_rfl) ?_
  simp (disch := omega) only [↓stq, amv_at, vls, inf, frs, mark_eq, ↓reduceIte, Nat.reduceEqDiff, ite_tt, ite_ff, eq_self, and_true, true_and, and_self, implies_true, Bool.true_eq_false, Bool.false_eq_true, decide_true, decide_false, decide_eq_true_eq, decide_eq_false_iff_not, ne_eq, not_true_eq_false, not_false_eq_true, Bool.not_eq_true', Bool.not_eq_false', beq_self_eq_true, Bool.not_true, Bool.not_false, List.getElem?_toArray, List.getElem?_cons_zero, List.getElem?_cons_succ]
  refine led_box (Led.nil A) rfl fun q2 V _ l => ?_
  simp (disch := omega) only [↓stq, amv_at, vls, inf, frs, mark_eq, ↓reduceIte, Nat.reduceEqDiff, ite_tt, ite_ff, eq_self, and_true, true_and, and_self, implies_true, Bool.true_eq_false, Bool.false_eq_true, decide_true, decide_false, decide_eq_true_eq, decide_eq_false_iff_not, ne_eq, not_true_eq_false, not_false_eq_true, Bool.not_eq_true', Bool.not_eq_false', beq_self_eq_true, Bool.not_true, Bool.not_false, List.getElem?_toArray, List.getElem?_cons_zero, List.getElem?_cons_succ]
  refine led_box l rfl fun q3 V _ l => ?_
  simp (disch := omega) only [↓stq, amv_at, vls, inf, frs, mark_eq, ↓reduceIte, Nat.reduceEqDiff, ite_tt, ite_ff, eq_self, and_true, true_and, and_self, implies_true, Bool.true_eq_false, Bool.false_eq_true, decide_true, decide_false, decide_eq_true_eq, decide_eq_false_iff_not, ne_eq, not_true_eq_false, not_false_eq_true, Bool.not_eq_true', Bool.not_eq_false', beq_self_eq_true, Bool.not_true, Bool.not_false, List.getElem?_toArray, List.getElem?_cons_zero, List.getElem?_cons_succ]
  refine led_lit0 (O := strO) li54 l fun b V _ l => ?_
  simp (disch := omega) only [↓stq, amv_at, vls, inf, frs, mark_eq, ↓reduceIte, Nat.reduceEqDiff, ite_tt, ite_ff, eq_self, and_true, true_and, and_self, implies_true, Bool.true_eq_false, Bool.false_eq_true, decide_true, decide_false, decide_eq_true_eq, decide_eq_false_iff_not, ne_eq, not_true_eq_false, not_false_eq_true, Bool.not_eq_true', Bool.not_eq_false', beq_self_eq_true, Bool.not_true, Bool.not_false, List.getElem?_toArray, List.getElem?_cons_zero, List.getElem?_cons_succ]
  refine aloop (fun d fr V => ∃ (i : Nat) (fp : List Nat) (w : Value), i ≤ x.1.length ∧ d = x.1.length - i ∧ Led A [osl 9 strO fp w (rawR x.1 (((x.1.take i).filter fun f => f.2.2.2.1).map (·.1))), bx q3 ⟨78, [.string t.1, .string t.2.1, .slice a2 t.2.2.1.length c2, .slice a3 t.2.2.2.1.length c3], 4, true⟩, bx q2 ⟨41, [.slice a0 x.1.length c0, .slice a1 x.2.1.length c1], 2, true⟩] V ∧ fr 2 = .pointer (some ⟨q2, 0, none⟩) ∧ fr 3 = .pointer (some ⟨q3, 0, none⟩) ∧ fr 5 = w ∧ fr 6 = .int .i64 i) x.1.length ⟨0, _, _, by omega, by omega, l, by rfl, by rfl, by rfl, by rfl⟩ ?_
  clear l
  rintro d fr V ⟨i, fp, w, hi, rfl, l, h2, h3, h5, h6⟩
  have k0 := l.cell (i := 2) rfl (o := 0) rfl rfl
  simp (disch := omega) only [↓stq, amv_at, vls, inf, frs, mark_eq, ↓reduceIte, Nat.reduceEqDiff, ite_tt, ite_ff, eq_self, and_true, true_and, and_self, implies_true, Bool.true_eq_false, Bool.false_eq_true, decide_true, decide_false, decide_eq_true_eq, decide_eq_false_iff_not, ne_eq, not_true_eq_false, not_false_eq_true, Bool.not_eq_true', Bool.not_eq_false', beq_self_eq_true, Bool.not_true, Bool.not_false, List.getElem?_toArray, List.getElem?_cons_zero, List.getElem?_cons_succ, h2, h3, h5, h6, add_at, k0]
  refine ⟨fun e1 => ?_, fun e1 => ?_⟩
  · have hlt : i < x.1.length := by omega
    have htk := auto_take hlt
    obtain ⟨ad, u2, rfl, hclA, y1, y2, _⟩ := g0.fixture hlt
    have hcl := l.ext.part hclA
    have s3 := View.part_cell hcl (j := 3) rfl
    have s0 := View.part_cell hcl (j := 0) rfl
    simp (disch := omega) only [↓stq, amv_at, vls, inf, frs, mark_eq, ↓reduceIte, Nat.reduceEqDiff, ite_tt, ite_ff, eq_self, and_true, true_and, and_self, implies_true, Bool.true_eq_false, Bool.false_eq_true, decide_true, decide_false, decide_eq_true_eq, decide_eq_false_iff_not, ne_eq, not_true_eq_false, not_false_eq_true, Bool.not_eq_true', Bool.not_eq_false', beq_self_eq_true, Bool.not_true, Bool.not_false, List.getElem?_toArray, List.getElem?_cons_zero, List.getElem?_cons_succ, h2, h3, h5, h6, add_at, k0, s3]
    have hN := rawR_names x.1 (((x.1.take i).filter fun f => f.2.2.2.1).map (·.1))
    refine ⟨fun e2 => ?_, fun e2 => ?_⟩ <;> simp (disch := omega) only [↓stq, amv_at, vls, inf, frs, mark_eq, ↓reduceIte, Nat.reduceEqDiff, ite_tt, ite_ff, eq_self, and_true, true_and, and_self, implies_true, Bool.true_eq_false, Bool.false_eq_true, decide_true, decide_false, decide_eq_true_eq, decide_eq_false_iff_not, ne_eq, not_true_eq_false, not_false_eq_true, Bool.not_eq_true', Bool.not_eq_false', beq_self_eq_true, Bool.not_true, Bool.not_false, List.getElem?_toArray, List.getElem?_cons_zero, List.getElem?_cons_succ, h2, h3, h5, h6, add_at, k0, s3]
    · refine adraw_items [.l 0 false, .q 1, .l 2 false, .q 3, .q 4, .q 5, .l 6 false, .q 8, .c 7 [], .c 9 [], .q 10] (by kernel_rfl) (by kernel_rfl) ?_
      have kp : V.part ⟨q2, 0, none⟩ 2 = some [.slice (some ad) x.1.length c0, .slice a1 x.2.1.length c1] := l.part (i := 2) rfl rfl
      simp (disch := omega) only [↓stq, amv_at, ↓pln, plv, nilOk, Nat.reduceBEq, Bool.or_false, Bool.or_true, Bool.false_or, Bool.true_or, vls, inf, frs, mark_eq, ↓reduceIte, Nat.reduceEqDiff, ite_tt, ite_ff, eq_self, and_true, true_and, and_self, implies_true, Bool.true_eq_false, Bool.false_eq_true, decide_true, decide_false, decide_eq_true_eq, decide_eq_false_iff_not, ne_eq, not_true_eq_false, not_false_eq_true, Bool.not_eq_true', Bool.not_eq_false', beq_self_eq_true, Bool.not_true, Bool.not_false, List.getElem?_toArray, List.getElem?_cons_zero, List.getElem?_cons_succ, h2, h3, h5, h6, add_at, k0, kp, s0]
      refine led_lit0 (O := strO) li54 l fun bo V _ l => ?_
      have k0 := l.cell (i := 3) rfl (o := 0) rfl rfl
      have kp : V.part ⟨q2, 0, none⟩ 2 = some [.slice (some ad) x.1.length c0, .slice a1 x.2.1.length c1] := l.part (i := 3) rfl rfl
      have s0 := View.part_cell (l.ext.part hclA) (j := 0) rfl
      simp (disch := omega) only [↓stq, amv_at, ↓pln, plv, nilOk, Nat.reduceBEq, Bool.or_false, Bool.or_true, Bool.false_or, Bool.true_or, vls, inf, frs, mark_eq, ↓reduceIte, Nat.reduceEqDiff, ite_tt, ite_ff, eq_self, and_true, true_and, and_self, implies_true, Bool.true_eq_false, Bool.false_eq_true, decide_true, decide_false, decide_eq_true_eq, decide_eq_false_iff_not, ne_eq, not_true_eq_false, not_false_eq_true, Bool.not_eq_true', Bool.not_eq_false', beq_self_eq_true, Bool.not_true, Bool.not_false, List.getElem?_toArray, List.getElem?_cons_zero, List.getElem?_cons_succ, h2, h3, h5, h6, add_at, k0, kp, s0, false_implies]
      refine (spec_reach_c A _ x hx0 hsm (fuel x.1) V _ (x.1[i]).1 _ [] fp w _ y1 (fun V fp w out l => Sl.empty ..) (fuel_ok _) (names_nil _) hN l.tail).mono ?_
      rintro r V2 ⟨fp2, l⟩
      have k0 := l.cell (i := 2) rfl (o := 0) rfl rfl
      have kp : V2.part ⟨q2, 0, none⟩ 2 = some [.slice (some ad) x.1.length c0, .slice a1 x.2.1.length c1] := l.part (i := 2) rfl rfl
      have s0 := View.part_cell (l.ext.part hclA) (j := 0) rfl
      simp (disch := omega) only [↓stq, amv_at, ↓pln, plv, nilOk, Nat.reduceBEq, Bool.or_false, Bool.or_true, Bool.false_or, Bool.true_or, vls, inf, frs, mark_eq, ↓reduceIte, Nat.reduceEqDiff, ite_tt, ite_ff, eq_self, and_true, true_and, and_self, implies_true, Bool.true_eq_false, Bool.false_eq_true, decide_true, decide_false, decide_eq_true_eq, decide_eq_false_iff_not, ne_eq, not_true_eq_false, not_false_eq_true, Bool.not_eq_true', Bool.not_eq_false', beq_self_eq_true, Bool.not_true, Bool.not_false, List.getElem?_toArray, List.getElem?_cons_zero, List.getElem?_cons_succ, h2, h3, h5, h6, add_at, k0, kp, s0, false_implies]
      rw [if_pos e2] at htk
      exact ⟨_, by omega, i + 1, fp2, r, by omega, rfl, by rw [htk, rawR_snoc]; exact l, rfl, rfl⟩
    · rw [if_neg (by simpa using e2), List.append_nil] at htk
      exact ⟨_, by omega, i + 1, fp, w, by omega, rfl, by rw [htk]; exact l, rfl, rfl⟩
  have hie : i = x.1.length := by omega
  subst hie
  rw [List.take_length] at l
  generalize hau : (x.1.filter fun f => f.2.2.2.1).map (·.1) = autos at l
  · simp (disch := omega) only [↓stq, amv_at, vls, inf, frs, mark_eq, ↓reduceIte, Nat.reduceEqDiff, ite_tt, ite_ff, eq_self, and_true, true_and, and_self, implies_true, Bool.true_eq_false, Bool.false_eq_true, decide_true, decide_false, decide_eq_true_eq, decide_eq_false_iff_not, ne_eq, not_true_eq_false, not_false_eq_true, Bool.not_eq_true', Bool.not_eq_false', beq_self_eq_true, Bool.not_true, Bool.not_false, List.getElem?_toArray, List.getElem?_cons_zero, List.getElem?_cons_succ, h2, h3, h5, h6]
    refine aloop (fun d fr V => ∃ (i : Nat) (fp : List Nat) (w : Value), i ≤ t.2.2.2.1.length ∧ d = t.2.2.2.1.length - i ∧ Led A [osl 9 strO fp w (rawR x.1 (autos ++ t.2.2.2.1.take i)), bx q3 ⟨78, [.string t.1, .string t.2.1, .slice a2 t.2.2.1.length c2, .slice a3 t.2.2.2.1.length c3], 4, true⟩, bx q2 ⟨41, [.slice a0 x.1.length c0, .slice a1 x.2.1.length c1], 2, true⟩] V ∧ fr 2 = .pointer (some ⟨q2, 0, none⟩) ∧ fr 3 = .pointer (some ⟨q3, 0, none⟩) ∧ fr 5 = w ∧ fr 7 = .int .i64 i) t.2.2.2.1.length ⟨0, _, _, by omega, by omega, by rw [List.take_zero, List.append_nil]; exact l, h2, h3, h5, by rfl⟩ ?_
    clear l k0 h2 h3 h5 h6
    rintro d fr V ⟨i, fp, w, hi, rfl, l, h2, h3, h5, h7⟩
    have n3 := l.cell (i := 1) rfl (o := 3) rfl rfl
    simp (disch := omega) only [↓stq, amv_at, vls, inf, frs, mark_eq, ↓reduceIte, Nat.reduceEqDiff, ite_tt, ite_ff, eq_self, and_true, true_and, and_self, implies_true, Bool.true_eq_false, Bool.false_eq_true, decide_true, decide_false, decide_eq_true_eq, decide_eq_false_iff_not, ne_eq, not_true_eq_false, not_false_eq_true, Bool.not_eq_true', Bool.not_eq_false', beq_self_eq_true, Bool.not_true, Bool.not_false, List.getElem?_toArray, List.getElem?_cons_zero, List.getElem?_cons_succ, h2, h3, h5, h7, add_at, n3]
    refine ⟨fun e2 => ?_, fun e2 => ?_⟩
    · have hlt : i < t.2.2.2.1.length := by omega
      have hN := rawR_names x.1 (autos ++ t.2.2.2.1.take i)
      obtain ⟨ad, rfl, kk, zk⟩ := (f3.mono l.ext).str hlt
      have htk : autos ++ t.2.2.2.1.take (i + 1) = (autos ++ t.2.2.2.1.take i) ++ [(t.2.2.2.1)[i]] := by rw [List.take_succ_eq_append_getElem hlt, List.append_assoc]
      simp (disch := omega) only [↓stq, amv_at, vls, inf, frs, mark_eq, ↓reduceIte, Nat.reduceEqDiff, ite_tt, ite_ff, eq_self, and_true, true_and, and_self, implies_true, Bool.true_eq_false, Bool.false_eq_true, decide_true, decide_false, decide_eq_true_eq, decide_eq_false_iff_not, ne_eq, not_true_eq_false, not_false_eq_true, Bool.not_eq_true', Bool.not_eq_false', beq_self_eq_true, Bool.not_true, Bool.not_false, List.getElem?_toArray, List.getElem?_cons_zero, List.getElem?_cons_succ, h2, h3, h5, h7]
      refine adraw_items [.l 0 false, .q 1, .l 2 false, .q 3, .q 4, .l 5 false, .q 7, .c 6 [], .c 8 [], .q 9] (by kernel_rfl) (by kernel_rfl) ?_
      have kp : V.part ⟨q2, 0, none⟩ 2 = some [.slice a0 x.1.length c0, .slice a1 x.2.1.length c1] := l.part (i := 2) rfl rfl
      simp (disch := omega) only [↓stq, amv_at, ↓pln, plv, nilOk, Nat.reduceBEq, Bool.or_false, Bool.or_true, Bool.false_or, Bool.true_or, vls, inf, frs, mark_eq, ↓reduceIte, Nat.reduceEqDiff, ite_tt, ite_ff, eq_self, and_true, true_and, and_self, implies_true, Bool.true_eq_false, Bool.false_eq_true, decide_true, decide_false, decide_eq_true_eq, decide_eq_false_iff_not, ne_eq, not_true_eq_false, not_false_eq_true, Bool.not_eq_true', Bool.not_eq_false', beq_self_eq_true, Bool.not_true, Bool.not_false, List.getElem?_toArray, List.getElem?_cons_zero, List.getElem?_cons_succ, h2, h3, h5, h7, add_at, n3, kp, kk]
      refine led_lit0 (O := strO) li54 l fun bo V _ l => ?_
      have n3 := l.cell (i := 2) rfl (o := 3) rfl rfl
      have kp : V.part ⟨q2, 0, none⟩ 2 = some [.slice a0 x.1.length c0, .slice a1 x.2.1.length c1] := l.part (i := 3) rfl rfl
      obtain ⟨_, hq, kk, _⟩ := (f3.mono l.ext).str hlt
      obtain rfl := Option.some.inj hq
      simp (disch := omega) only [↓stq, amv_at, ↓pln, plv, nilOk, Nat.reduceBEq, Bool.or_false, Bool.or_true, Bool.false_or, Bool.true_or, vls, inf, frs, mark_eq, ↓reduceIte, Nat.reduceEqDiff, ite_tt, ite_ff, eq_self, and_true, true_and, and_self, implies_true, Bool.true_eq_false, Bool.false_eq_true, decide_true, decide_false, decide_eq_true_eq, decide_eq_false_iff_not, ne_eq, not_true_eq_false, not_false_eq_true, Bool.not_eq_true', Bool.not_eq_false', beq_self_eq_true, Bool.not_true, Bool.not_false, List.getElem?_toArray, List.getElem?_cons_zero, List.getElem?_cons_succ, h2, h3, h5, h7, add_at, n3, kp, kk, false_implies]
      refine (spec_reach_c A _ x hx0 hsm (fuel x.1) V _ _ _ [] fp w _ zk (fun V fp w out l => Sl.empty ..) (fuel_ok _) (names_nil _) hN l.tail).mono ?_
      rintro r V2 ⟨fp2, l⟩
      have n3 := l.cell (i := 1) rfl (o := 3) rfl rfl
      have kp : V2.part ⟨q2, 0, none⟩ 2 = some [.slice a0 x.1.length c0, .slice a1 x.2.1.length c1] := l.part (i := 2) rfl rfl
      obtain ⟨_, hq, kk, _⟩ := (f3.mono l.ext).str hlt
      obtain rfl := Option.some.inj hq
      simp (disch := omega) only [↓stq, amv_at, ↓pln, plv, nilOk, Nat.reduceBEq, Bool.or_false, Bool.or_true, Bool.false_or, Bool.true_or, vls, inf, frs, mark_eq, ↓reduceIte, Nat.reduceEqDiff, ite_tt, ite_ff, eq_self, and_true, true_and, and_self, implies_true, Bool.true_eq_false, Bool.false_eq_true, decide_true, decide_false, decide_eq_true_eq, decide_eq_false_iff_not, ne_eq, not_true_eq_false, not_false_eq_true, Bool.not_eq_true', Bool.not_eq_false', beq_self_eq_true, Bool.not_true, Bool.not_false, List.getElem?_toArray, List.getElem?_cons_zero, List.getElem?_cons_succ, h2, h3, h5, h7, add_at, n3, kp, kk, false_implies]
      exact ⟨_, by omega, i + 1, fp2, r, by omega, rfl, by rw [htk, rawR_snoc]; exact l, rfl, rfl⟩
    have hie : i = t.2.2.2.1.length := by omega
    rw [hie, List.take_length] at l
    have hpre : autos ++ t.2.2.2.1 = preR x t := by rw [← hau]; rfl
    rw [hpre] at l
    unfold cloR
    have hN := rawR_names x.1 (preR x t)
    generalize rawR x.1 (preR x t) = raw at l hN ⊢
    have hNl := hN.len
    obtain ⟨aw, cw, rfl, _, _⟩ := (OSl.toS (show OSl 9 strO V fp w raw from l.at (i := 0) rfl)).slice
    · simp (disch := omega) only [↓stq, amv_at, vls, inf, frs, mark_eq, ↓reduceIte, Nat.reduceEqDiff, ite_tt, ite_ff, eq_self, and_true, true_and, and_self, implies_true, Bool.true_eq_false, Bool.false_eq_true, decide_true, decide_false, decide_eq_true_eq, decide_eq_false_iff_not, ne_eq, not_true_eq_false, not_false_eq_true, Bool.not_eq_true', Bool.not_eq_false', beq_self_eq_true, Bool.not_true, Bool.not_false, List.getElem?_toArray, List.getElem?_cons_zero, List.getElem?_cons_succ, h2, h3, h5, h7]
      refine led_lit0 (O := strO) li54 l fun b8 V _ l => ?_
      simp (disch := omega) only [↓stq, amv_at, vls, inf, frs, mark_eq, ↓reduceIte, Nat.reduceEqDiff, ite_tt, ite_ff, eq_self, and_true, true_and, and_self, implies_true, Bool.true_eq_false, Bool.false_eq_true, decide_true, decide_false, decide_eq_true_eq, decide_eq_false_iff_not, ne_eq, not_true_eq_false, not_false_eq_true, Bool.not_eq_true', Bool.not_eq_false', beq_self_eq_true, Bool.not_true, Bool.not_false, List.getElem?_toArray, List.getElem?_cons_zero, List.getElem?_cons_succ, h2, h3, h5, h7]
      refine aloop (fun d fr V => ∃ (k : Nat) (fo : List Nat) (wo : Value), k ≤ 3 ∧ d = 3 - k ∧ Led A [osl 9 strO fo wo (outsR x.1 raw k), osl 9 strO fp (.slice aw raw.length cw) raw, bx q3 ⟨78, [.string t.1, .string t.2.1, .slice a2 t.2.2.1.length c2, .slice a3 t.2.2.2.1.length c3], 4, true⟩, bx q2 ⟨41, [.slice a0 x.1.length c0, .slice a1 x.2.1.length c1], 2, true⟩] V ∧ fr 2 = .pointer (some ⟨q2, 0, none⟩) ∧ fr 5 = .slice aw raw.length cw ∧ fr 8 = wo ∧ fr 9 = .int .i64 (2 - (k : Int))) 3 ⟨0, _, _, by omega, by omega, l, h2, h5, by rfl, by rfl⟩ ?_
      clear l h2 h3 h5 h7 n3
      rintro d fr V ⟨k, fo, wo, hk, rfl, l, h2, h5, h8, h9⟩
      simp (disch := omega) only [↓stq, amv_at, vls, inf, frs, mark_eq, ↓reduceIte, Nat.reduceEqDiff, ite_tt, ite_ff, eq_self, and_true, true_and, and_self, implies_true, Bool.true_eq_false, Bool.false_eq_true, decide_true, decide_false, decide_eq_true_eq, decide_eq_false_iff_not, ne_eq, not_true_eq_false, not_false_eq_true, Bool.not_eq_true', Bool.not_eq_false', beq_self_eq_true, Bool.not_true, Bool.not_false, List.getElem?_toArray, List.getElem?_cons_zero, List.getElem?_cons_succ, h2, h5, h8, h9]
      refine ⟨fun e3 => ?_, fun e3 => ?_⟩
      · have hk3 : k < 3 := by omega
        simp (disch := omega) only [↓stq, amv_at, vls, inf, frs, mark_eq, ↓reduceIte, Nat.reduceEqDiff, ite_tt, ite_ff, eq_self, and_true, true_and, and_self, implies_true, Bool.true_eq_false, Bool.false_eq_true, decide_true, decide_false, decide_eq_true_eq, decide_eq_false_iff_not, ne_eq, not_true_eq_false, not_false_eq_true, Bool.not_eq_true', Bool.not_eq_false', beq_self_eq_true, Bool.not_true, Bool.not_false, List.getElem?_toArray, List.getElem?_cons_zero, List.getElem?_cons_succ, h2, h5, h8, h9]
        refine aloop (fun d fr V => ∃ (i : Nat) (fo : List Nat) (wo : Value), i ≤ raw.length ∧ d = raw.length - i ∧ Led A [osl 9 strO fo wo (outsR x.1 raw k ++ bucket x.1 (raw.take i) (2 - (k : Int))), osl 9 strO fp (.slice aw raw.length cw) raw, bx q3 ⟨78, [.string t.1, .string t.2.1, .slice a2 t.2.2.1.length c2, .slice a3 t.2.2.2.1.length c3], 4, true⟩, bx q2 ⟨41, [.slice a0 x.1.length c0, .slice a1 x.2.1.length c1], 2, true⟩] V ∧ fr 2 = .pointer (some ⟨q2, 0, none⟩) ∧ fr 5 = .slice aw raw.length cw ∧ fr 8 = wo ∧ fr 9 = .int .i64 (2 - (k : Int)) ∧ fr 10 = .int .i64 i) raw.length ⟨0, _, _, by omega, by omega, by rw [List.take_zero]; show Led A [osl _ _ _ _ (_ ++ []), _, _, _] _; rw [List.append_nil]; exact l, h2, h5, h8, h9, by rfl⟩ ?_
        clear l h2 h5 h8 h9
        rintro d fr V ⟨i, fo, wo, hi, rfl, l, h2, h5, h8, h9, h10⟩
        simp (disch := omega) only [↓stq, amv_at, vls, inf, frs, mark_eq, ↓reduceIte, Nat.reduceEqDiff, ite_tt, ite_ff, eq_self, and_true, true_and, and_self, implies_true, Bool.true_eq_false, Bool.false_eq_true, decide_true, decide_false, decide_eq_true_eq, decide_eq_false_iff_not, ne_eq, not_true_eq_false, not_false_eq_true, Bool.not_eq_true', Bool.not_eq_false', beq_self_eq_true, Bool.not_true, Bool.not_false, List.getElem?_toArray, List.getElem?_cons_zero, List.getElem?_cons_succ, h2, h5, h8, h9, h10]
        refine ⟨fun e4 => ?_, fun e4 => ?_⟩
        · have hlt : i < raw.length := by omega
          have hF := hN.2 _ (List.getElem_mem hlt)
          obtain ⟨j, hj, hjl, _, hsc, _⟩ := scope_idx (fs := x.1) (a := raw[i]) (hasF_idx.1 hF)
          obtain ⟨adj, uj, rfl, hclA, _, _, _⟩ := g0.fixture hjl
          have hcl := l.ext.part hclA
          have s1 := View.part_cell hcl (j := 1) rfl
          obtain ⟨adr, hq, kr, zr⟩ := (OSl.toS (show OSl 9 strO V fp _ raw from l.at (i := 1) rfl)).str hlt
          subst hq
          have k0 := l.cell (i := 3) rfl (o := 0) rfl rfl
          have hbt := bucket_take (fs := x.1) (s := 2 - (k : Int)) hlt
          have hb1 := outsR_len x.1 raw k
          have hb2 := bucket_len x.1 (raw.take i) (2 - (k : Int))
          rw [List.length_take] at hb2
          have hb3 : k * raw.length ≤ 3 * raw.length := Nat.mul_le_mul_right _ hk
          simp (disch := omega) only [↓stq, amv_at, vls, inf, frs, mark_eq, ↓reduceIte, Nat.reduceEqDiff, ite_tt, ite_ff, eq_self, and_true, true_and, and_self, implies_true, Bool.true_eq_false, Bool.false_eq_true, decide_true, decide_false, decide_eq_true_eq, decide_eq_false_iff_not, ne_eq, not_true_eq_false, not_false_eq_true, Bool.not_eq_true', Bool.not_eq_false', beq_self_eq_true, Bool.not_true, Bool.not_false, List.getElem?_toArray, List.getElem?_cons_zero, List.getElem?_cons_succ, h2, h5, h8, h9, h10]
          refine adraw_items [.q 0, .l 1 true, .q 2, .l 3 false, .q 4, .q 5, .q 6, .l 7 false, .q 12, .c 8 [1], .q 9, .q 10, .l 11 false, .q 13] (by kernel_rfl) (by kernel_rfl) ?_
          simp (disch := omega) only [↓stq, amv_at, ↓pln, plv, nilOk, Nat.reduceBEq, Bool.or_false, Bool.or_true, Bool.false_or, Bool.true_or, vls, inf, frs, mark_eq, ↓reduceIte, Nat.reduceEqDiff, ite_tt, ite_ff, eq_self, and_true, true_and, and_self, implies_true, Bool.true_eq_false, Bool.false_eq_true, decide_true, decide_false, decide_eq_true_eq, decide_eq_false_iff_not, ne_eq, not_true_eq_false, not_false_eq_true, Bool.not_eq_true', Bool.not_eq_false', beq_self_eq_true, Bool.not_true, Bool.not_false, List.getElem?_toArray, List.getElem?_cons_zero, List.getElem?_cons_succ, h2, h5, h8, h9, h10, add_at, k0, kr]
          refine (spec_fixtureAt_c V _ x.1 raw[i] (g0.mono l.ext)).mono ?_
          rintro _ V ⟨rfl, rfl⟩
          rw [hj]
          simp (disch := omega) only [↓stq, amv_at, ↓pln, plv, nilOk, Nat.reduceBEq, Bool.or_false, Bool.or_true, Bool.false_or, Bool.true_or, vls, inf, frs, mark_eq, ↓reduceIte, Nat.reduceEqDiff, ite_tt, ite_ff, eq_self, and_true, true_and, and_self, implies_true, Bool.true_eq_false, Bool.false_eq_true, decide_true, decide_false, decide_eq_true_eq, decide_eq_false_iff_not, ne_eq, not_true_eq_false, not_false_eq_true, Bool.not_eq_true', Bool.not_eq_false', beq_self_eq_true, Bool.not_true, Bool.not_false, List.getElem?_toArray, List.getElem?_cons_zero, List.getElem?_cons_succ, h2, h5, h8, h9, h10, add_at, k0, kr, s1]
          rw [← hsc]
          refine ⟨fun e5 => ?_, fun e5 => ?_⟩ <;> simp (disch := omega) only [↓stq, amv_at, vls, inf, frs, mark_eq, ↓reduceIte, Nat.reduceEqDiff, ite_tt, ite_ff, eq_self, and_true, true_and, and_self, implies_true, Bool.true_eq_false, Bool.false_eq_true, decide_true, decide_false, decide_eq_true_eq, decide_eq_false_iff_not, ne_eq, not_true_eq_false, not_false_eq_true, Bool.not_eq_true', Bool.not_eq_false', beq_self_eq_true, Bool.not_true, Bool.not_false, List.getElem?_toArray, List.getElem?_cons_zero, List.getElem?_cons_succ, h2, h5, h8, h9, h10, kr]
          · refine led_lit li54 (by omega) rfl (by simp [Value.cells, Value.oneCell']) l fun bl V _ l => ?_
            simp (disch := omega) only [↓stq, amv_at, vls, inf, frs, mark_eq, ↓reduceIte, Nat.reduceEqDiff, ite_tt, ite_ff, eq_self, and_true, true_and, and_self, implies_true, Bool.true_eq_false, Bool.false_eq_true, decide_true, decide_false, decide_eq_true_eq, decide_eq_false_iff_not, ne_eq, not_true_eq_false, not_false_eq_true, Bool.not_eq_true', Bool.not_eq_false', beq_self_eq_true, Bool.not_true, Bool.not_false, List.getElem?_toArray, List.getElem?_cons_zero, List.getElem?_cons_succ, h2, h5, h8, h9, h10]
            refine led_app (O := strO) ap54_54 (by decide) l (i := 1) rfl (l.src1 (S := strS) (j := 0) rfl ⟨rfl, zr⟩) (by rw [List.length_singleton, List.length_append]; omega) fun fp2 w2 V4 _ l => ?_
            simp (disch := omega) only [↓stq, amv_at, vls, inf, frs, mark_eq, ↓reduceIte, Nat.reduceEqDiff, ite_tt, ite_ff, eq_self, and_true, true_and, and_self, implies_true, Bool.true_eq_false, Bool.false_eq_true, decide_true, decide_false, decide_eq_true_eq, decide_eq_false_iff_not, ne_eq, not_true_eq_false, not_false_eq_true, Bool.not_eq_true', Bool.not_eq_false', beq_self_eq_true, Bool.not_true, Bool.not_false, List.getElem?_toArray, List.getElem?_cons_zero, List.getElem?_cons_succ, h2, h5, h8, h9, h10]
            rw [if_pos e5] at hbt
            exact ⟨_, by omega, i + 1, fp2, w2, by omega, rfl, by rw [hbt, ← List.append_assoc]; exact l.tail, rfl, rfl⟩
          · rw [if_neg e5, List.append_nil] at hbt
            exact ⟨_, by omega, i + 1, fo, wo, by omega, rfl, by rw [hbt]; exact l, rfl, rfl⟩
        · have hie : i = raw.length := by omega
          rw [hie, List.take_length] at l
          simp (disch := omega) only [↓stq, amv_at, vls, inf, frs, mark_eq, ↓reduceIte, Nat.reduceEqDiff, ite_tt, ite_ff, eq_self, and_true, true_and, and_self, implies_true, Bool.true_eq_false, Bool.false_eq_true, decide_true, decide_false, decide_eq_true_eq, decide_eq_false_iff_not, ne_eq, not_true_eq_false, not_false_eq_true, Bool.not_eq_true', Bool.not_eq_false', beq_self_eq_true, Bool.not_true, Bool.not_false, List.getElem?_toArray, List.getElem?_cons_zero, List.getElem?_cons_succ, h2, h5, h8, h9, h10]
          exact ⟨_, by omega, k + 1, fo, wo, by omega, rfl, l, rfl, congrArg (Value.int .i64) (by omega)⟩
      · have hk3 : k = 3 := by omega
        subst hk3
        rw [outsR_end] at l
        simp (disch := omega) only [↓stq, amv_at, vls, inf, frs, mark_eq, ↓reduceIte, Nat.reduceEqDiff, ite_tt, ite_ff, eq_self, and_true, true_and, and_self, implies_true, Bool.true_eq_false, Bool.false_eq_true, decide_true, decide_false, decide_eq_true_eq, decide_eq_false_iff_not, ne_eq, not_true_eq_false, not_false_eq_true, Bool.not_eq_true', Bool.not_eq_false', beq_self_eq_true, Bool.not_true, Bool.not_false, List.getElem?_toArray, List.getElem?_cons_zero, List.getElem?_cons_succ, h2, h5, h8, h9]
        exact NewSl.of l (i := 0) rfl

/-! ### events -/
instance : Flat eventO := inferInstanceAs (Flat (consO intO (consO strO unitO)))
theorem cloR_len {fs : List FixtureD} {n : Nat} (hl : fs.length ≤ n) (ns : List ByteArray) : (cloR fs ns).length ≤ 3 * n := by
  have h1 := (rawR_names fs ns).len
  have h2 := bucket_len fs (rawR fs ns)
  have := h2 0
  have := h2 1
  have := h2 2
  unfold cloR
  rw [List.length_append, List.length_append]
  omega
theorem cloR_has {fs : List FixtureD} {ns : List ByteArray} : ∀ a, a ∈ cloR fs ns → hasF fs a := fun a ha => by
  have hN := (rawR_names fs ns).2
  unfold cloR at ha
  rcases List.mem_append.1 ha with ha | ha
  · exact hN a (bucket_mem.1 ha).1
  · rcases List.mem_append.1 ha with ha | ha <;> exact hN a (bucket_mem.1 ha).1
theorem nil_lit {V : View} : (⟨56, ([] : List Value), 0, true⟩ : Blk) = ⟨56, [], 0, true⟩ := rfl

theorem spec_liveScope_c (A : View) (d : List Value) (x : SuiteD) (v : Value) (ls : List ByteArray) (s : Int) (hx : suiteS.rel A x d) (h : Sl strS A v ls) (hF : ∀ a, a ∈ ls → hasF x.1 a) (hl : ls.length ≤ 1048576) : ACalls Try.prog 47 #[.agg d.toArray, v, .int .i64 s] A fun r V => NewSl 9 strO A r V (bucket x.1 ls s) := by
  obtain ⟨u0, u1, rfl, g0, g1⟩ := suiteS_open hx
  obtain ⟨a0, c0, rfl, _, _⟩ := g0.slice
  obtain ⟨a1, c1, rfl, _, _⟩ := g1.slice
  obtain ⟨al, cl, rfl, _, _⟩ := h.slice
  refine acalls Try.func47 rfl (by kernel_rfl) ?_
  simp (disch := omega) only [↓stq, amv_at, vls, inf, frs, mark_eq, ↓reduceIte, Nat.reduceEqDiff, ite_tt, ite_ff, eq_self, and_true, true_and, and_self, implies_true, Bool.true_eq_false, Bool.false_eq_true, decide_true, decide_false, decide_eq_true_eq, decide_eq_false_iff_not, ne_eq, not_true_eq_false, not_false_eq_true, Bool.not_eq_true', Bool.not_eq_false', beq_self_eq_true, Bool.not_true, Bool.not_false, List.getElem?_toArray, List.getElem?_cons_zero, List.getElem?_cons_succ]
  refine led_box (Led.nil A) rfl fun q V _ l => ?_
  simp (disch := omega) only [↓stq, amv_at, vls, inf, frs, mark_eq, ↓reduceIte, Nat.reduceEqDiff, ite_tt, ite_ff, eq_self, and_true, true_and, and_self, implies_true, Bool.true_eq_false, Bool.false_eq_true, decide_true, decide_false, decide_eq_true_eq, decide_eq_false_iff_not, ne_eq, not_true_eq_false, not_false_eq_true, Bool.not_eq_true', Bool.not_eq_false', beq_self_eq_true, Bool.not_true, Bool.not_false, List.getElem?_toArray, List.getElem?_cons_zero, List.getElem?_cons_succ]
  refine led_lit0 (O := strO) li54 l fun b V _ l => ?_
  simp (disch := omega) only [↓stq, amv_at, vls, inf, frs, mark_eq, ↓reduceIte, Nat.reduceEqDiff, ite_tt, ite_ff, eq_self, and_true, true_and, and_self, implies_true, Bool.true_eq_false, Bool.false_eq_true, decide_true, decide_false, decide_eq_true_eq, decide_eq_false_iff_not, ne_eq, not_true_eq_false, not_false_eq_true, Bool.not_eq_true', Bool.not_eq_false', beq_self_eq_true, Bool.not_true, Bool.not_false, List.getElem?_toArray, List.getElem?_cons_zero, List.getElem?_cons_succ]
  refine aloop (fun d fr V => ∃ (i : Nat) (fp : List Nat) (w : Value), i ≤ ls.length ∧ d = ls.length - i ∧ Led A [osl 9 strO fp w (bucket x.1 (ls.take i) s), bx q ⟨41, [.slice a0 x.1.length c0, .slice a1 x.2.1.length c1], 2, true⟩] V ∧ fr 1 = .slice al ls.length cl ∧ fr 2 = .int .i64 s ∧ fr 3 = .pointer (some ⟨q, 0, none⟩) ∧ fr 7 = w ∧ fr 8 = .int .i64 i) ls.length ⟨0, _, _, by omega, by omega, l, by rfl, by rfl, by rfl, by rfl, by rfl⟩ ?_
  clear l
  rintro d fr V ⟨i, fp, w, hi, rfl, l, h1, h2, h3, h7, h8⟩
  simp (disch := omega) only [↓stq, amv_at, vls, inf, frs, mark_eq, ↓reduceIte, Nat.reduceEqDiff, ite_tt, ite_ff, eq_self, and_true, true_and, and_self, implies_true, Bool.true_eq_false, Bool.false_eq_true, decide_true, decide_false, decide_eq_true_eq, decide_eq_false_iff_not, ne_eq, not_true_eq_false, not_false_eq_true, Bool.not_eq_true', Bool.not_eq_false', beq_self_eq_true, Bool.not_true, Bool.not_false, List.getElem?_toArray, List.getElem?_cons_zero, List.getElem?_cons_succ, h1, h2, h3, h7, h8]
  refine ⟨fun e1 => ?_, fun e1 => ?_⟩
  · have hlt : i < ls.length := by omega
    obtain ⟨j, hj, hjl, _, hsc, _⟩ := scope_idx (fs := x.1) (a := ls[i]) (hasF_idx.1 (hF _ (List.getElem_mem hlt)))
    obtain ⟨adj, uj, rfl, hclA, _, _, _⟩ := g0.fixture hjl
    have s1 := View.part_cell (l.ext.part hclA) (j := 1) rfl
    obtain ⟨adr, hq, kr, zr⟩ := (h.mono l.ext).str hlt
    subst hq
    have k0 := l.cell (i := 1) rfl (o := 0) rfl rfl
    have hbt := bucket_take (fs := x.1) (s := s) hlt
    have hb2 := bucket_len x.1 (ls.take i) s
    rw [List.length_take] at hb2
    simp (disch := omega) only [↓stq, amv_at, vls, inf, frs, mark_eq, ↓reduceIte, Nat.reduceEqDiff, ite_tt, ite_ff, eq_self, and_true, true_and, and_self, implies_true, Bool.true_eq_false, Bool.false_eq_true, decide_true, decide_false, decide_eq_true_eq, decide_eq_false_iff_not, ne_eq, not_true_eq_false, not_false_eq_true, Bool.not_eq_true', Bool.not_eq_false', beq_self_eq_true, Bool.not_true, Bool.not_false, List.getElem?_toArray, List.getElem?_cons_zero, List.getElem?_cons_succ, h1, h2, h3, h7, h8]
    refine adraw_items [.q 0, .l 1 true, .q 2, .l 3 false, .q 4, .q 5, .q 6, .l 7 false, .q 12, .c 8 [1], .q 9, .q 10, .l 11 false, .q 13] (by kernel_rfl) (by kernel_rfl) ?_
    simp (disch := omega) only [↓stq, amv_at, ↓pln, plv, nilOk, Nat.reduceBEq, Bool.or_false, Bool.or_true, Bool.false_or, Bool.true_or, vls, inf, frs, mark_eq, ↓reduceIte, Nat.reduceEqDiff, ite_tt, ite_ff, eq_self, and_true, true_and, and_self, implies_true, Bool.true_eq_false, Bool.false_eq_true, decide_true, decide_false, decide_eq_true_eq, decide_eq_false_iff_not, ne_eq, not_true_eq_false, not_false_eq_true, Bool.not_eq_true', Bool.not_eq_false', beq_self_eq_true, Bool.not_true, Bool.not_false, List.getElem?_toArray, List.getElem?_cons_zero, List.getElem?_cons_succ, h1, h2, h3, h7, h8, add_at, k0, kr]
    refine (spec_fixtureAt_c V _ x.1 ls[i] (g0.mono l.ext)).mono ?_
    rintro _ V ⟨rfl, rfl⟩
    rw [hj]
    simp (disch := omega) only [↓stq, amv_at, ↓pln, plv, nilOk, Nat.reduceBEq, Bool.or_false, Bool.or_true, Bool.false_or, Bool.true_or, vls, inf, frs, mark_eq, ↓reduceIte, Nat.reduceEqDiff, ite_tt, ite_ff, eq_self, and_true, true_and, and_self, implies_true, Bool.true_eq_false, Bool.false_eq_true, decide_true, decide_false, decide_eq_true_eq, decide_eq_false_iff_not, ne_eq, not_true_eq_false, not_false_eq_true, Bool.not_eq_true', Bool.not_eq_false', beq_self_eq_true, Bool.not_true, Bool.not_false, List.getElem?_toArray, List.getElem?_cons_zero, List.getElem?_cons_succ, h1, h2, h3, h7, h8, add_at, k0, kr, s1]
    rw [← hsc]
    refine ⟨fun e5 => ?_, fun e5 => ?_⟩ <;> simp (disch := omega) only [↓stq, amv_at, vls, inf, frs, mark_eq, ↓reduceIte, Nat.reduceEqDiff, ite_tt, ite_ff, eq_self, and_true, true_and, and_self, implies_true, Bool.true_eq_false, Bool.false_eq_true, decide_true, decide_false, decide_eq_true_eq, decide_eq_false_iff_not, ne_eq, not_true_eq_false, not_false_eq_true, Bool.not_eq_true', Bool.not_eq_false', beq_self_eq_true, Bool.not_true, Bool.not_false, List.getElem?_toArray, List.getElem?_cons_zero, List.getElem?_cons_succ, h1, h2, h3, h7, h8, kr]
    · refine led_lit li54 (by omega) rfl (by simp [Value.cells, Value.oneCell']) l fun bl V _ l => ?_
      simp (disch := omega) only [↓stq, amv_at, vls, inf, frs, mark_eq, ↓reduceIte, Nat.reduceEqDiff, ite_tt, ite_ff, eq_self, and_true, true_and, and_self, implies_true, Bool.true_eq_false, Bool.false_eq_true, decide_true, decide_false, decide_eq_true_eq, decide_eq_false_iff_not, ne_eq, not_true_eq_false, not_false_eq_true, Bool.not_eq_true', Bool.not_eq_false', beq_self_eq_true, Bool.not_true, Bool.not_false, List.getElem?_toArray, List.getElem?_cons_zero, List.getElem?_cons_succ, h1, h2, h3, h7, h8]
      refine led_app (O := strO) ap54_54 (by decide) l (i := 1) rfl (l.src1 (S := strS) (j := 0) rfl ⟨rfl, zr⟩) (by rw [List.length_singleton]; omega) fun fp2 w2 V4 _ l => ?_
      simp (disch := omega) only [↓stq, amv_at, vls, inf, frs, mark_eq, ↓reduceIte, Nat.reduceEqDiff, ite_tt, ite_ff, eq_self, and_true, true_and, and_self, implies_true, Bool.true_eq_false, Bool.false_eq_true, decide_true, decide_false, decide_eq_true_eq, decide_eq_false_iff_not, ne_eq, not_true_eq_false, not_false_eq_true, Bool.not_eq_true', Bool.not_eq_false', beq_self_eq_true, Bool.not_true, Bool.not_false, List.getElem?_toArray, List.getElem?_cons_zero, List.getElem?_cons_succ, h1, h2, h3, h7, h8]
      rw [if_pos e5] at hbt
      exact ⟨_, by omega, i + 1, fp2, w2, by omega, rfl, by rw [hbt]; exact l.tail, rfl, rfl⟩
    · rw [if_neg e5, List.append_nil] at hbt
      exact ⟨_, by omega, i + 1, fp, w, by omega, rfl, by rw [hbt]; exact l, rfl, rfl⟩
  · simp (disch := omega) only [↓stq, amv_at, vls, inf, frs, mark_eq, ↓reduceIte, Nat.reduceEqDiff, ite_tt, ite_ff, eq_self, and_true, true_and, and_self, implies_true, Bool.true_eq_false, Bool.false_eq_true, decide_true, decide_false, decide_eq_true_eq, decide_eq_false_iff_not, ne_eq, not_true_eq_false, not_false_eq_true, Bool.not_eq_true', Bool.not_eq_false', beq_self_eq_true, Bool.not_true, Bool.not_false, List.getElem?_toArray, List.getElem?_cons_zero, List.getElem?_cons_succ, h1, h2, h3, h7, h8]
    rw [List.take_of_length_le (by omega)] at l
    exact NewSl.of l (i := 0) rfl

theorem spec_without_c (A : View) (v u : Value) (ls ms : List ByteArray) (h : Sl strS A v ls) (h' : Sl strS A u ms) (hl : ls.length ≤ 1048576) : ACalls Try.prog 49 #[v, u] A fun r V => NewSl 9 strO A r V (ls.filter fun a => decide (a ∉ ms)) := by
  obtain ⟨al, cl, rfl, _, _⟩ := h.slice
  obtain ⟨am, cm, rfl, _, _⟩ := h'.slice
  refine acalls Try.func49 rfl (by kernel_rfl) ?_
  simp (disch := omega) only [↓stq, amv_at, vls, inf, frs, mark_eq, ↓reduceIte, Nat.reduceEqDiff, ite_tt, ite_ff, eq_self, and_true, true_and, and_self, implies_true, Bool.true_eq_false, Bool.false_eq_true, decide_true, decide_false, decide_eq_true_eq, decide_eq_false_iff_not, ne_eq, not_true_eq_false, not_false_eq_true, Bool.not_eq_true', Bool.not_eq_false', beq_self_eq_true, Bool.not_true, Bool.not_false, List.getElem?_toArray, List.getElem?_cons_zero, List.getElem?_cons_succ]
  refine led_lit0 (O := strO) li54 (Led.nil A) fun b V _ l => ?_
  simp (disch := omega) only [↓stq, amv_at, vls, inf, frs, mark_eq, ↓reduceIte, Nat.reduceEqDiff, ite_tt, ite_ff, eq_self, and_true, true_and, and_self, implies_true, Bool.true_eq_false, Bool.false_eq_true, decide_true, decide_false, decide_eq_true_eq, decide_eq_false_iff_not, ne_eq, not_true_eq_false, not_false_eq_true, Bool.not_eq_true', Bool.not_eq_false', beq_self_eq_true, Bool.not_true, Bool.not_false, List.getElem?_toArray, List.getElem?_cons_zero, List.getElem?_cons_succ]
  refine aloop (fun d fr V => ∃ (i : Nat) (fp : List Nat) (w : Value), i ≤ ls.length ∧ d = ls.length - i ∧ Led A [osl 9 strO fp w ((ls.take i).filter fun a => decide (a ∉ ms))] V ∧ fr 0 = .slice al ls.length cl ∧ fr 1 = .slice am ms.length cm ∧ fr 5 = w ∧ fr 6 = .int .i64 i) ls.length ⟨0, _, _, by omega, by omega, l, by rfl, by rfl, by rfl, by rfl⟩ ?_
  clear l
  rintro d fr V ⟨i, fp, w, hi, rfl, l, h0, h1, h5, h6⟩
  simp (disch := omega) only [↓stq, amv_at, vls, inf, frs, mark_eq, ↓reduceIte, Nat.reduceEqDiff, ite_tt, ite_ff, eq_self, and_true, true_and, and_self, implies_true, Bool.true_eq_false, Bool.false_eq_true, decide_true, decide_false, decide_eq_true_eq, decide_eq_false_iff_not, ne_eq, not_true_eq_false, not_false_eq_true, Bool.not_eq_true', Bool.not_eq_false', beq_self_eq_true, Bool.not_true, Bool.not_false, List.getElem?_toArray, List.getElem?_cons_zero, List.getElem?_cons_succ, h0, h1, h5, h6]
  refine ⟨fun e1 => ?_, fun e1 => ?_⟩
  · have hlt : i < ls.length := by omega
    have hb2 : ((ls.take i).filter fun a => decide (a ∉ ms)).length ≤ (ls.take i).length := List.length_filter_le ..
    rw [List.length_take] at hb2
    have htk : (ls.take (i + 1)).filter (fun a => decide (a ∉ ms)) = (ls.take i).filter (fun a => decide (a ∉ ms)) ++ (if ls[i] ∉ ms then [ls[i]] else []) := by
      rw [List.take_succ_eq_append_getElem hlt, List.filter_append, List.filter_cons]
      by_cases hq : ls[i] ∉ ms
      · rw [if_pos (decide_eq_true hq), if_pos hq]; rfl
      · rw [if_neg (by rw [decide_eq_false hq]; decide), if_neg hq]; rfl
    obtain ⟨adr, rfl, kr, zr⟩ := (h.mono l.ext).str hlt
    simp (disch := omega) only [↓stq, amv_at, vls, inf, frs, mark_eq, ↓reduceIte, Nat.reduceEqDiff, ite_tt, ite_ff, eq_self, and_true, true_and, and_self, implies_true, Bool.true_eq_false, Bool.false_eq_true, decide_true, decide_false, decide_eq_true_eq, decide_eq_false_iff_not, ne_eq, not_true_eq_false, not_false_eq_true, Bool.not_eq_true', Bool.not_eq_false', beq_self_eq_true, Bool.not_true, Bool.not_false, List.getElem?_toArray, List.getElem?_cons_zero, List.getElem?_cons_succ, h0, h1, h5, h6, kr]
    refine (spec_hasText_c V _ ms ls[i] (h'.mono l.ext)).mono ?_
    rintro _ V ⟨rfl, rfl⟩
    simp (disch := omega) only [↓stq, amv_at, vls, inf, frs, mark_eq, ↓reduceIte, Nat.reduceEqDiff, ite_tt, ite_ff, eq_self, and_true, true_and, and_self, implies_true, Bool.true_eq_false, Bool.false_eq_true, decide_true, decide_false, decide_eq_true_eq, decide_eq_false_iff_not, ne_eq, not_true_eq_false, not_false_eq_true, Bool.not_eq_true', Bool.not_eq_false', beq_self_eq_true, Bool.not_true, Bool.not_false, List.getElem?_toArray, List.getElem?_cons_zero, List.getElem?_cons_succ, h0, h1, h5, h6]
    refine ⟨fun e5 => ?_, fun e5 => ?_⟩ <;> simp (disch := omega) only [↓stq, amv_at, vls, inf, frs, mark_eq, ↓reduceIte, Nat.reduceEqDiff, ite_tt, ite_ff, eq_self, and_true, true_and, and_self, implies_true, Bool.true_eq_false, Bool.false_eq_true, decide_true, decide_false, decide_eq_true_eq, decide_eq_false_iff_not, ne_eq, not_true_eq_false, not_false_eq_true, Bool.not_eq_true', Bool.not_eq_false', beq_self_eq_true, Bool.not_true, Bool.not_false, List.getElem?_toArray, List.getElem?_cons_zero, List.getElem?_cons_succ, h0, h1, h5, h6, kr]
    · refine led_lit li54 (by omega) rfl (by simp [Value.cells, Value.oneCell']) l fun bl V _ l => ?_
      simp (disch := omega) only [↓stq, amv_at, vls, inf, frs, mark_eq, ↓reduceIte, Nat.reduceEqDiff, ite_tt, ite_ff, eq_self, and_true, true_and, and_self, implies_true, Bool.true_eq_false, Bool.false_eq_true, decide_true, decide_false, decide_eq_true_eq, decide_eq_false_iff_not, ne_eq, not_true_eq_false, not_false_eq_true, Bool.not_eq_true', Bool.not_eq_false', beq_self_eq_true, Bool.not_true, Bool.not_false, List.getElem?_toArray, List.getElem?_cons_zero, List.getElem?_cons_succ, h0, h1, h5, h6]
      refine led_app (O := strO) ap54_54 (by decide) l (i := 1) rfl (l.src1 (S := strS) (j := 0) rfl ⟨rfl, zr⟩) (by rw [List.length_singleton]; omega) fun fp2 w2 V4 _ l => ?_
      simp (disch := omega) only [↓stq, amv_at, vls, inf, frs, mark_eq, ↓reduceIte, Nat.reduceEqDiff, ite_tt, ite_ff, eq_self, and_true, true_and, and_self, implies_true, Bool.true_eq_false, Bool.false_eq_true, decide_true, decide_false, decide_eq_true_eq, decide_eq_false_iff_not, ne_eq, not_true_eq_false, not_false_eq_true, Bool.not_eq_true', Bool.not_eq_false', beq_self_eq_true, Bool.not_true, Bool.not_false, List.getElem?_toArray, List.getElem?_cons_zero, List.getElem?_cons_succ, h0, h1, h5, h6]
      rw [if_pos e5] at htk
      exact ⟨_, by omega, i + 1, fp2, w2, by omega, rfl, by rw [htk]; exact l.tail, rfl, rfl⟩
    · rw [if_neg (by simpa using e5), List.append_nil] at htk
      exact ⟨_, by omega, i + 1, fp, w, by omega, rfl, by rw [htk]; exact l, rfl, rfl⟩
  · simp (disch := omega) only [↓stq, amv_at, vls, inf, frs, mark_eq, ↓reduceIte, Nat.reduceEqDiff, ite_tt, ite_ff, eq_self, and_true, true_and, and_self, implies_true, Bool.true_eq_false, Bool.false_eq_true, decide_true, decide_false, decide_eq_true_eq, decide_eq_false_iff_not, ne_eq, not_true_eq_false, not_false_eq_true, Bool.not_eq_true', Bool.not_eq_false', beq_self_eq_true, Bool.not_true, Bool.not_false, List.getElem?_toArray, List.getElem?_cons_zero, List.getElem?_cons_succ, h0, h1, h5, h6]
    rw [List.take_of_length_le (by omega)] at l
    exact NewSl.of l (i := 0) rfl

def downR (ls : List ByteArray) : List EventD := ls.reverse.map fun n => (1, n, ())
theorem spec_downs_c (A : View) (v : Value) (ls : List ByteArray) (h : Sl strS A v ls) (hl : ls.length ≤ 1048576) : ACalls Try.prog 48 #[v] A fun r V => NewSl 56 eventO A r V (downR ls) := by
  obtain ⟨al, cl, rfl, _, _⟩ := h.slice
  refine acalls Try.func48 rfl (by kernel_rfl) ?_
  simp (disch := omega) only [↓stq, amv_at, vls, inf, frs, mark_eq, ↓reduceIte, Nat.reduceEqDiff, ite_tt, ite_ff, eq_self, and_true, true_and, and_self, implies_true, Bool.true_eq_false, Bool.false_eq_true, decide_true, decide_false, decide_eq_true_eq, decide_eq_false_iff_not, ne_eq, not_true_eq_false, not_false_eq_true, Bool.not_eq_true', Bool.not_eq_false', beq_self_eq_true, Bool.not_true, Bool.not_false, List.getElem?_toArray, List.getElem?_cons_zero, List.getElem?_cons_succ]
  refine led_lit0 (O := eventO) li24 (Led.nil A) fun b V _ l => ?_
  simp (disch := omega) only [↓stq, amv_at, vls, inf, frs, mark_eq, ↓reduceIte, Nat.reduceEqDiff, ite_tt, ite_ff, eq_self, and_true, true_and, and_self, implies_true, Bool.true_eq_false, Bool.false_eq_true, decide_true, decide_false, decide_eq_true_eq, decide_eq_false_iff_not, ne_eq, not_true_eq_false, not_false_eq_true, Bool.not_eq_true', Bool.not_eq_false', beq_self_eq_true, Bool.not_true, Bool.not_false, List.getElem?_toArray, List.getElem?_cons_zero, List.getElem?_cons_succ]
  refine aloop (fun d fr V => ∃ (i : Nat) (fp : List Nat) (w : Value), i ≤ ls.length ∧ d = i ∧ Led A [osl 56 eventO fp w (downR (ls.drop i))] V ∧ fr 0 = .slice al ls.length cl ∧ fr 3 = w ∧ fr 4 = .int .i64 ((i : Int) - 1)) ls.length ⟨ls.length, _, _, by omega, rfl, by rw [List.drop_length]; exact l, by rfl, by rfl, by rfl⟩ ?_
  clear l
  rintro d fr V ⟨i, fp, w, hi, rfl, l, h0, h3, h4⟩
  simp (disch := omega) only [↓stq, amv_at, vls, inf, frs, mark_eq, ↓reduceIte, Nat.reduceEqDiff, ite_tt, ite_ff, eq_self, and_true, true_and, and_self, implies_true, Bool.true_eq_false, Bool.false_eq_true, decide_true, decide_false, decide_eq_true_eq, decide_eq_false_iff_not, ne_eq, not_true_eq_false, not_false_eq_true, Bool.not_eq_true', Bool.not_eq_false', beq_self_eq_true, Bool.not_true, Bool.not_false, List.getElem?_toArray, List.getElem?_cons_zero, List.getElem?_cons_succ, h0, h3, h4]
  refine ⟨fun e1 => ?_, fun e1 => ?_⟩
  · obtain ⟨i, rfl⟩ : ∃ i, d = i + 1 := ⟨d - 1, by omega⟩
    have hlt : i < ls.length := by omega
    have hdd : (((i + 1 : Nat) : Int) - 1).toNat = i := by omega
    have hdr : downR (ls.drop i) = downR (ls.drop (i + 1)) ++ [(1, ls[i], ())] := by
      unfold downR
      rw [List.drop_eq_getElem_cons hlt, List.reverse_cons, List.map_append]; rfl
    have hbl : (downR (ls.drop (i + 1))).length ≤ ls.length := by
      unfold downR
      rw [List.length_map, List.length_reverse, List.length_drop]; omega
    obtain ⟨adr, rfl, kr, zr⟩ := (h.mono l.ext).str hlt
    simp (disch := omega) only [↓stq, amv_at, vls, inf, frs, mark_eq, ↓reduceIte, Nat.reduceEqDiff, ite_tt, ite_ff, eq_self, and_true, true_and, and_self, implies_true, Bool.true_eq_false, Bool.false_eq_true, decide_true, decide_false, decide_eq_true_eq, decide_eq_false_iff_not, ne_eq, not_true_eq_false, not_false_eq_true, Bool.not_eq_true', Bool.not_eq_false', beq_self_eq_true, Bool.not_true, Bool.not_false, List.getElem?_toArray, List.getElem?_cons_zero, List.getElem?_cons_succ, h0, h3, h4, hdd, kr]
    refine led_lit li24 (by omega) rfl (fun p hp => by rcases List.mem_singleton.1 hp with rfl; exact ⟨rfl, rfl⟩) l fun bl V _ l => ?_
    simp (disch := omega) only [↓stq, amv_at, vls, inf, frs, mark_eq, ↓reduceIte, Nat.reduceEqDiff, ite_tt, ite_ff, eq_self, and_true, true_and, and_self, implies_true, Bool.true_eq_false, Bool.false_eq_true, decide_true, decide_false, decide_eq_true_eq, decide_eq_false_iff_not, ne_eq, not_true_eq_false, not_false_eq_true, Bool.not_eq_true', Bool.not_eq_false', beq_self_eq_true, Bool.not_true, Bool.not_false, List.getElem?_toArray, List.getElem?_cons_zero, List.getElem?_cons_succ, h0, h3, h4]
    refine led_app (O := eventO) ap24_24 (by decide) l (i := 1) rfl (l.src1 (S := eventS) (j := 0) rfl (eventS_mk (x := (1, ls[i], ())) (by show (_ : Int) ≤ 1 ∧ (1 : Int) < _; omega) zr)) (by rw [List.length_singleton]; omega) fun fp2 w2 V4 _ l => ?_
    simp (disch := omega) only [↓stq, amv_at, vls, inf, frs, mark_eq, ↓reduceIte, Nat.reduceEqDiff, ite_tt, ite_ff, eq_self, and_true, true_and, and_self, implies_true, Bool.true_eq_false, Bool.false_eq_true, decide_true, decide_false, decide_eq_true_eq, decide_eq_false_iff_not, ne_eq, not_true_eq_false, not_false_eq_true, Bool.not_eq_true', Bool.not_eq_false', beq_self_eq_true, Bool.not_true, Bool.not_false, List.getElem?_toArray, List.getElem?_cons_zero, List.getElem?_cons_succ, h0, h3, h4]
    exact ⟨_, by omega, i, fp2, w2, by omega, rfl, by rw [hdr]; exact l.tail, rfl, congrArg (Value.int .i64) (by omega)⟩
  · simp (disch := omega) only [↓stq, amv_at, vls, inf, frs, mark_eq, ↓reduceIte, Nat.reduceEqDiff, ite_tt, ite_ff, eq_self, and_true, true_and, and_self, implies_true, Bool.true_eq_false, Bool.false_eq_true, decide_true, decide_false, decide_eq_true_eq, decide_eq_false_iff_not, ne_eq, not_true_eq_false, not_false_eq_true, Bool.not_eq_true', Bool.not_eq_false', beq_self_eq_true, Bool.not_true, Bool.not_false, List.getElem?_toArray, List.getElem?_cons_zero, List.getElem?_cons_succ, h0, h3, h4]
    obtain rfl : d = 0 := by omega
    exact NewSl.of l (i := 0) rfl

end Go.Proofs.Ytggklaimbklefaa

/- Texts of plans, parsed by the program. -/
set_option maxHeartbeats 4000000
set_option synthInstance.maxHeartbeats 400000
set_option synthInstance.maxSize 4096
set_option linter.unusedSimpArgs false
set_option linter.unusedVariables false
namespace Go.Proofs.Ytggklaimbklefaa

set_option maxRecDepth 100000

theorem evsL_len : ∀ (n : Nat) (l : List UInt8), l.length ≤ n → (evsL l).length ≤ l.length
  | 0, l, h => by
    rw [List.eq_nil_of_length_eq_zero (show l.length = 0 by omega)]
    simp [evsL_nil]
  | n + 1, l, h => by
    by_cases hl : l = []
    · subst hl; simp [evsL_nil]
    · rw [evsL_cons hl]
      have := dw_lt (c := 10) hl
      have := evsL_len n (dw 10 l) (by omega)
      simp only [List.length_cons]
      omega
/-- What is parsed. -/
def parsedR (l : List UInt8) : List EventD × Bool := if planB (evsL l) = Bt l then (evsL l, true) else ([], false)
theorem words_S {V : View} {b c room : Nat} {e : TypeId} (hb : V b = some ⟨e, [.string (wordE 0), .string (wordE 1), .string (wordE 2)], room, true⟩) (hc : 3 ≤ c) : Sl strS V (.slice (some ⟨b, 0, none⟩) 3 c) [wordE 0, wordE 1, wordE 2] :=
  lit_sl (xs := [wordE 0, wordE 1, wordE 2]) hb hc (by simp) (elems_str _ fun x hx => by
    have hz : x.size ≤ 4 := by
      rcases List.mem_cons.1 hx with rfl | hx
      · decide
      · rcases List.mem_cons.1 hx with rfl | hx
        · decide
        · rcases List.mem_singleton.1 hx with rfl
          decide
    omega)

theorem impl_ParsePlan_c (A : View) (s : List UInt8) (hs : s.length ≤ 140000) : ACalls Try.prog 7 #[.string (Bt s)] A fun r V => ∃ fp w, r = .tuple #[w, .bool (parsedR s).2] ∧ Led A [osl 56 eventO fp w (parsedR s).1] V := by
  refine acalls Try.func7 rfl (by kernel_rfl) ?_
  simp (disch := omega) only [↓stq, amv_at, vls, inf, frs, mark_eq, ↓reduceIte, Nat.reduceEqDiff, ite_tt, ite_ff, eq_self, and_true, true_and, and_self, implies_true, Bool.true_eq_false, Bool.false_eq_true, decide_true, decide_false, decide_eq_true_eq, decide_eq_false_iff_not, ne_eq, not_true_eq_false, not_false_eq_true, Bool.not_eq_true', Bool.not_eq_false', beq_self_eq_true, Bool.not_true, Bool.not_false, List.getElem?_toArray, List.getElem?_cons_zero, List.getElem?_cons_succ]
  refine led_lit0 (O := eventO) li24 (Led.nil A) fun b V _ l => ?_
  simp (disch := omega) only [↓stq, amv_at, vls, inf, frs, mark_eq, ↓reduceIte, Nat.reduceEqDiff, ite_tt, ite_ff, eq_self, and_true, true_and, and_self, implies_true, Bool.true_eq_false, Bool.false_eq_true, decide_true, decide_false, decide_eq_true_eq, decide_eq_false_iff_not, ne_eq, not_true_eq_false, not_false_eq_true, Bool.not_eq_true', Bool.not_eq_false', beq_self_eq_true, Bool.not_true, Bool.not_false, List.getElem?_toArray, List.getElem?_cons_zero, List.getElem?_cons_succ]
  refine aloop (fun d fr V => ∃ (m : List UInt8) (fp : List Nat) (w : Value) (out : List EventD), d = m.length ∧ m.length ≤ s.length ∧ out ++ evsL m = evsL s ∧ Led A [osl 56 eventO fp w out] V ∧ fr 0 = .string (Bt s) ∧ fr 4 = w ∧ fr 5 = .string (Bt m)) s.length ⟨s, [b], _, [], rfl, Nat.le_refl _, rfl, l, by rfl, by rfl, by rfl⟩ ?_
  clear l
  rintro d fr V ⟨m, fp, w, out, rfl, hm, hout, l, h0, h4, h5⟩
  have hol : out.length ≤ 140000 := by
    have h1 := congrArg List.length hout
    have h2 := evsL_len _ s (Nat.le_refl _)
    rw [List.length_append] at h1
    omega
  simp (disch := omega) only [↓stq, amv_at, vls, inf, frs, mark_eq, ↓reduceIte, Nat.reduceEqDiff, ite_tt, ite_ff, eq_self, and_true, true_and, and_self, implies_true, Bool.true_eq_false, Bool.false_eq_true, decide_true, decide_false, decide_eq_true_eq, decide_eq_false_iff_not, ne_eq, not_true_eq_false, not_false_eq_true, Bool.not_eq_true', Bool.not_eq_false', beq_self_eq_true, Bool.not_true, Bool.not_false, List.getElem?_toArray, List.getElem?_cons_zero, List.getElem?_cons_succ, h0, h4, h5]
  refine ⟨fun e => ?_, fun e => ?_⟩
  · have hne : m ≠ [] := by
      rintro rfl
      exact e rfl
    have hlt := dw_lt (c := 10) hne
    have htl := (tw_len 10 m).1
    rw [evsL_cons hne] at hout
    simp (disch := omega) only [↓stq, amv_at, vls, inf, frs, mark_eq, ↓reduceIte, Nat.reduceEqDiff, ite_tt, ite_ff, eq_self, and_true, true_and, and_self, implies_true, Bool.true_eq_false, Bool.false_eq_true, decide_true, decide_false, decide_eq_true_eq, decide_eq_false_iff_not, ne_eq, not_true_eq_false, not_false_eq_true, Bool.not_eq_true', Bool.not_eq_false', beq_self_eq_true, Bool.not_true, Bool.not_false, List.getElem?_toArray, List.getElem?_cons_zero, List.getElem?_cons_succ, h0, h4, h5]
    refine (lib_cutL_c V m 10 (by omega)).mono ?_
    rintro _ V2 ⟨b1, rfl, rfl⟩
    simp (disch := omega) only [↓stq, amv_at, vls, inf, frs, mark_eq, ↓reduceIte, Nat.reduceEqDiff, ite_tt, ite_ff, eq_self, and_true, true_and, and_self, implies_true, Bool.true_eq_false, Bool.false_eq_true, decide_true, decide_false, decide_eq_true_eq, decide_eq_false_iff_not, ne_eq, not_true_eq_false, not_false_eq_true, Bool.not_eq_true', Bool.not_eq_false', beq_self_eq_true, Bool.not_true, Bool.not_false, List.getElem?_toArray, List.getElem?_cons_zero, List.getElem?_cons_succ, h0, h4, h5]
    refine (lib_cutL_c V2 (tw 10 m) 32 (by omega)).mono ?_
    rintro _ V3 ⟨b2, rfl, rfl⟩
    simp (disch := omega) only [↓stq, amv_at, vls, inf, frs, mark_eq, ↓reduceIte, Nat.reduceEqDiff, ite_tt, ite_ff, eq_self, and_true, true_and, and_self, implies_true, Bool.true_eq_false, Bool.false_eq_true, decide_true, decide_false, decide_eq_true_eq, decide_eq_false_iff_not, ne_eq, not_true_eq_false, not_false_eq_true, Bool.not_eq_true', Bool.not_eq_false', beq_self_eq_true, Bool.not_true, Bool.not_false, List.getElem?_toArray, List.getElem?_cons_zero, List.getElem?_cons_succ, h0, h4, h5]
    refine led_lit li54 (by omega) rfl (by simp [Value.cells, Value.oneCell']) l fun b3 V _ l => ?_
    simp (disch := omega) only [↓stq, amv_at, vls, inf, frs, mark_eq, ↓reduceIte, Nat.reduceEqDiff, ite_tt, ite_ff, eq_self, and_true, true_and, and_self, implies_true, Bool.true_eq_false, Bool.false_eq_true, decide_true, decide_false, decide_eq_true_eq, decide_eq_false_iff_not, ne_eq, not_true_eq_false, not_false_eq_true, Bool.not_eq_true', Bool.not_eq_false', beq_self_eq_true, Bool.not_true, Bool.not_false, List.getElem?_toArray, List.getElem?_cons_zero, List.getElem?_cons_succ, h0, h4, h5]
    refine (index_str_c V _ _ (Bt (tw 32 (tw 10 m))) (words_S (e := 9) (room := 3 * 1) (c := 3) (l.at (i := 0) rfl) (by omega))).mono ?_
    rintro _ V4 ⟨rfl, rfl⟩
    simp (disch := omega) only [↓stq, amv_at, vls, inf, frs, mark_eq, ↓reduceIte, Nat.reduceEqDiff, ite_tt, ite_ff, eq_self, and_true, true_and, and_self, implies_true, Bool.true_eq_false, Bool.false_eq_true, decide_true, decide_false, decide_eq_true_eq, decide_eq_false_iff_not, ne_eq, not_true_eq_false, not_false_eq_true, Bool.not_eq_true', Bool.not_eq_false', beq_self_eq_true, Bool.not_true, Bool.not_false, List.getElem?_toArray, List.getElem?_cons_zero, List.getElem?_cons_succ, h0, h4, h5]
    refine led_lit li24 (by omega) rfl (fun p hp => by rcases List.mem_singleton.1 hp with rfl; exact ⟨rfl, rfl⟩) l fun b4 V _ l => ?_
    simp (disch := omega) only [↓stq, amv_at, vls, inf, frs, mark_eq, ↓reduceIte, Nat.reduceEqDiff, ite_tt, ite_ff, eq_self, and_true, true_and, and_self, implies_true, Bool.true_eq_false, Bool.false_eq_true, decide_true, decide_false, decide_eq_true_eq, decide_eq_false_iff_not, ne_eq, not_true_eq_false, not_false_eq_true, Bool.not_eq_true', Bool.not_eq_false', beq_self_eq_true, Bool.not_true, Bool.not_false, List.getElem?_toArray, List.getElem?_cons_zero, List.getElem?_cons_succ, h0, h4, h5]
    have hkr := kindW_range (Bt (tw 32 (tw 10 m)))
    have hel : eventS.rel V (evL (tw 10 m)) [.int .i64 (kindW (Bt (tw 32 (tw 10 m)))), .string (Bt (dw 32 (tw 10 m)))] := by
      refine eventS_mk (x := evL (tw 10 m)) ⟨?_, ?_⟩ ?_
      · show -9223372036854775808 ≤ kindW (Bt (tw 32 (tw 10 m)))
        omega
      · show kindW (Bt (tw 32 (tw 10 m))) < 9223372036854775808
        omega
      · show (Bt (dw 32 (tw 10 m))).size ≤ _
        rw [Bt_size]
        have := (tw_len 32 (tw 10 m)).1
        omega
    refine led_app (O := eventO) ap24_24 (by decide) l (i := 2) rfl (l.src1 (S := eventS) (j := 0) rfl hel) (by rw [List.length_singleton]; omega) fun fp2 w2 V5 _ l => ?_
    simp (disch := omega) only [↓stq, amv_at, vls, inf, frs, mark_eq, ↓reduceIte, Nat.reduceEqDiff, ite_tt, ite_ff, eq_self, and_true, true_and, and_self, implies_true, Bool.true_eq_false, Bool.false_eq_true, decide_true, decide_false, decide_eq_true_eq, decide_eq_false_iff_not, ne_eq, not_true_eq_false, not_false_eq_true, Bool.not_eq_true', Bool.not_eq_false', beq_self_eq_true, Bool.not_true, Bool.not_false, List.getElem?_toArray, List.getElem?_cons_zero, List.getElem?_cons_succ, h0, h4, h5]
    exact ⟨_, hlt, dw 10 m, fp2, w2, out ++ [evL (tw 10 m)], rfl, by omega, by rw [← hout]; simp, l.tail.tail, rfl, rfl⟩
  · have hme : m = [] := Bt_inj (m := []) (show Bt m = ⟨#[]⟩ by simpa using e)
    subst hme
    rw [evsL_nil, List.append_nil] at hout
    subst hout
    have hE : Sl eventS V w (evsL s) := OSl.toS (show OSl 56 eventO V fp w (evsL s) from l.at (i := 0) rfl)
    simp (disch := omega) only [↓stq, amv_at, vls, inf, frs, mark_eq, ↓reduceIte, Nat.reduceEqDiff, ite_tt, ite_ff, eq_self, and_true, true_and, and_self, implies_true, Bool.true_eq_false, Bool.false_eq_true, decide_true, decide_false, decide_eq_true_eq, decide_eq_false_iff_not, ne_eq, not_true_eq_false, not_false_eq_true, Bool.not_eq_true', Bool.not_eq_false', beq_self_eq_true, Bool.not_true, Bool.not_false, List.getElem?_toArray, List.getElem?_cons_zero, List.getElem?_cons_succ, h0, h4, h5]
    have hT := textE_evsF s.length s
    refine (impl_PlanText_c V w (evsL s) hE (by show (textE (evsF s.length s)).length ≤ _; omega)).mono ?_
    rintro _ V2 ⟨rfl, he⟩
    replace l := l.step he
    by_cases hp : planB (evsL s) = Bt s
    · simp (disch := omega) only [↓stq, amv_at, vls, inf, frs, mark_eq, ↓reduceIte, Nat.reduceEqDiff, ite_tt, ite_ff, eq_self, and_true, true_and, and_self, implies_true, Bool.true_eq_false, Bool.false_eq_true, decide_true, decide_false, decide_eq_true_eq, decide_eq_false_iff_not, ne_eq, not_true_eq_false, not_false_eq_true, Bool.not_eq_true', Bool.not_eq_false', beq_self_eq_true, Bool.not_true, Bool.not_false, List.getElem?_toArray, List.getElem?_cons_zero, List.getElem?_cons_succ, h0, h4, h5, hp]
      refine ⟨fp, w, ?_, ?_⟩
      · unfold parsedR; rw [if_pos hp]
      · unfold parsedR; rw [if_pos hp]; exact l
    · simp (disch := omega) only [↓stq, amv_at, vls, inf, frs, mark_eq, ↓reduceIte, Nat.reduceEqDiff, ite_tt, ite_ff, eq_self, and_true, true_and, and_self, implies_true, Bool.true_eq_false, Bool.false_eq_true, decide_true, decide_false, decide_eq_true_eq, decide_eq_false_iff_not, ne_eq, not_true_eq_false, not_false_eq_true, Bool.not_eq_true', Bool.not_eq_false', beq_self_eq_true, Bool.not_true, Bool.not_false, List.getElem?_toArray, List.getElem?_cons_zero, List.getElem?_cons_succ, h0, h4, h5, hp]
      refine ⟨[], .slice none 0 0, ?_, ?_⟩
      · unfold parsedR; rw [if_neg hp]
      · unfold parsedR; rw [if_neg hp]
        exact (l.nilO 56 eventO).sub (.cons_cons _ (List.nil_sublist _))

end Go.Proofs.Ytggklaimbklefaa

/- The laws' helpers on events and lines. -/
set_option maxHeartbeats 4000000
set_option synthInstance.maxHeartbeats 400000
set_option synthInstance.maxSize 4096
set_option linter.unusedSimpArgs false
set_option linter.unusedVariables false
namespace Go.Proofs.Ytggklaimbklefaa

set_option maxRecDepth 100000

theorem ev_sameT {x y : EventD} : (decide (x.1 = y.1) && (decide (x.2.1 = y.2.1) && true)) = decide (x = y) := by
  obtain ⟨a, b, _⟩ := x
  obtain ⟨a', b', _⟩ := y
  rw [Bool.eq_iff_iff]
  simp

theorem equalEvents_c (A : View) (v w : Value) (es fs : List EventD) (h : Sl eventS A v es) (h' : Sl eventS A w fs) : ACalls Try.prog 9 #[v, w] A fun r V => r = .bool (decide (es = fs)) ∧ Ext A V := by
  obtain ⟨a, c, rfl, _, hl⟩ := h.slice
  obtain ⟨a', c', rfl, _, hl'⟩ := h'.slice
  refine acalls Try.func9 rfl (by kernel_rfl) ?_
  simp (disch := omega) only [↓stq, amv_at, vls, inf, frs, mark_eq, ↓reduceIte, Nat.reduceEqDiff, ite_tt, ite_ff, eq_self, and_true, true_and, and_self, implies_true, Bool.true_eq_false, Bool.false_eq_true, decide_true, decide_false, decide_eq_true_eq, decide_eq_false_iff_not, ne_eq, not_true_eq_false, not_false_eq_true, Bool.not_eq_true', Bool.not_eq_false', beq_self_eq_true, Bool.not_true, Bool.not_false, List.getElem?_toArray, List.getElem?_cons_zero, List.getElem?_cons_succ]
  by_cases hlen : ¬ es.length = fs.length
  · have e0 : ((es.length : Int) = fs.length) = False := eq_false (by omega)
    have hne : decide (es = fs) = false := decide_eq_false fun h => hlen (by rw [h])
    rw [hne]
    simp (disch := omega) only [↓stq, amv_at, vls, inf, frs, mark_eq, ↓reduceIte, Nat.reduceEqDiff, ite_tt, ite_ff, eq_self, and_true, true_and, and_self, implies_true, Bool.true_eq_false, Bool.false_eq_true, decide_true, decide_false, decide_eq_true_eq, decide_eq_false_iff_not, ne_eq, not_true_eq_false, not_false_eq_true, Bool.not_eq_true', Bool.not_eq_false', beq_self_eq_true, Bool.not_true, Bool.not_false, List.getElem?_toArray, List.getElem?_cons_zero, List.getElem?_cons_succ, e0]
    exact Ext.refl _
  · replace hlen : es.length = fs.length := by omega
    have e0 : ((es.length : Int) = fs.length) = True := eq_true (by omega)
    simp (disch := omega) only [↓stq, amv_at, vls, inf, frs, mark_eq, ↓reduceIte, Nat.reduceEqDiff, ite_tt, ite_ff, eq_self, and_true, true_and, and_self, implies_true, Bool.true_eq_false, Bool.false_eq_true, decide_true, decide_false, decide_eq_true_eq, decide_eq_false_iff_not, ne_eq, not_true_eq_false, not_false_eq_true, Bool.not_eq_true', Bool.not_eq_false', beq_self_eq_true, Bool.not_true, Bool.not_false, List.getElem?_toArray, List.getElem?_cons_zero, List.getElem?_cons_succ, e0]
    refine aloop (fun d fr V => ∃ i : Nat, i ≤ es.length ∧ d = es.length - i ∧ Ext A V ∧ es.take i = fs.take i ∧ fr 0 = .slice a es.length c ∧ fr 1 = .slice a' fs.length c' ∧ fr 5 = .int .i64 i) es.length ⟨0, by omega, by omega, Ext.refl _, rfl, by rfl, by rfl, by rfl⟩ ?_
    rintro d fr V ⟨i, hi, rfl, he, htk, h0, h1, h5⟩
    simp (disch := omega) only [↓stq, amv_at, vls, inf, frs, mark_eq, ↓reduceIte, Nat.reduceEqDiff, ite_tt, ite_ff, eq_self, and_true, true_and, and_self, implies_true, Bool.true_eq_false, Bool.false_eq_true, decide_true, decide_false, decide_eq_true_eq, decide_eq_false_iff_not, ne_eq, not_true_eq_false, not_false_eq_true, Bool.not_eq_true', Bool.not_eq_false', beq_self_eq_true, Bool.not_true, Bool.not_false, List.getElem?_toArray, List.getElem?_cons_zero, List.getElem?_cons_succ, h0, h1, h5]
    refine ⟨fun e1 => ?_, fun e1 => ?_⟩
    · have hlt : i < es.length := by omega
      have hlt' : i < fs.length := by omega
      obtain ⟨ad, rfl, hc1, _, _⟩ := h.event hlt
      obtain ⟨ad', rfl, hc2, _, _⟩ := h'.event hlt'
      have k1 := he.part hc1
      have k2 := he.part hc2
      simp (disch := omega) only [↓stq, amv_at, vls, inf, frs, mark_eq, ↓reduceIte, Nat.reduceEqDiff, ite_tt, ite_ff, eq_self, and_true, true_and, and_self, implies_true, Bool.true_eq_false, Bool.false_eq_true, decide_true, decide_false, decide_eq_true_eq, decide_eq_false_iff_not, ne_eq, not_true_eq_false, not_false_eq_true, Bool.not_eq_true', Bool.not_eq_false', beq_self_eq_true, Bool.not_true, Bool.not_false, List.getElem?_toArray, List.getElem?_cons_zero, List.getElem?_cons_succ, h0, h1, h5]
      refine adraw_items [.q 0, .q 1, .q 2, .l 3 false, .q 4, .q 5, .q 6, .l 7 false, .q 8] (by kernel_rfl) (by kernel_rfl) ?_
      simp (disch := omega) only [↓stq, amv_at, ↓pln, plv, nilOk, Nat.reduceBEq, Bool.or_false, Bool.or_true, Bool.false_or, Bool.true_or, vls, inf, frs, mark_eq, ↓reduceIte, Nat.reduceEqDiff, ite_tt, ite_ff, eq_self, and_true, true_and, and_self, implies_true, Bool.true_eq_false, Bool.false_eq_true, decide_true, decide_false, decide_eq_true_eq, decide_eq_false_iff_not, ne_eq, not_true_eq_false, not_false_eq_true, Bool.not_eq_true', Bool.not_eq_false', beq_self_eq_true, Bool.not_true, Bool.not_false, List.getElem?_toArray, List.getElem?_cons_zero, List.getElem?_cons_succ, h0, h1, h5, k1, k2, neEv]
      rw [ev_sameT]
      by_cases hE : es[i] = fs[i]
      · simp (disch := omega) only [↓stq, amv_at, vls, inf, frs, mark_eq, ↓reduceIte, Nat.reduceEqDiff, ite_tt, ite_ff, eq_self, and_true, true_and, and_self, implies_true, Bool.true_eq_false, Bool.false_eq_true, decide_true, decide_false, decide_eq_true_eq, decide_eq_false_iff_not, ne_eq, not_true_eq_false, not_false_eq_true, Bool.not_eq_true', Bool.not_eq_false', beq_self_eq_true, Bool.not_true, Bool.not_false, List.getElem?_toArray, List.getElem?_cons_zero, List.getElem?_cons_succ, h0, h1, h5, hE]
        refine ⟨_, by omega, i + 1, by omega, rfl, he, ?_, rfl⟩
        rw [List.take_succ_eq_append_getElem hlt, List.take_succ_eq_append_getElem hlt', htk, hE]
      · have hne : decide (es = fs) = false := decide_eq_false fun h => hE (by subst h; rfl)
        rw [hne]
        simp (disch := omega) only [↓stq, amv_at, vls, inf, frs, mark_eq, ↓reduceIte, Nat.reduceEqDiff, ite_tt, ite_ff, eq_self, and_true, true_and, and_self, implies_true, Bool.true_eq_false, Bool.false_eq_true, decide_true, decide_false, decide_eq_true_eq, decide_eq_false_iff_not, ne_eq, not_true_eq_false, not_false_eq_true, Bool.not_eq_true', Bool.not_eq_false', beq_self_eq_true, Bool.not_true, Bool.not_false, List.getElem?_toArray, List.getElem?_cons_zero, List.getElem?_cons_succ, h0, h1, h5, hE]
        exact he
    · simp (disch := omega) only [↓stq, amv_at, vls, inf, frs, mark_eq, ↓reduceIte, Nat.reduceEqDiff, ite_tt, ite_ff, eq_self, and_true, true_and, and_self, implies_true, Bool.true_eq_false, Bool.false_eq_true, decide_true, decide_false, decide_eq_true_eq, decide_eq_false_iff_not, ne_eq, not_true_eq_false, not_false_eq_true, Bool.not_eq_true', Bool.not_eq_false', beq_self_eq_true, Bool.not_true, Bool.not_false, List.getElem?_toArray, List.getElem?_cons_zero, List.getElem?_cons_succ, h0, h1, h5]
      have hie : i = es.length := by omega
      subst hie
      rw [List.take_length, hlen, List.take_length] at htk
      exact ⟨by rw [decide_eq_true htk], he⟩

/-- How many lines end. -/
def nlN (l : List UInt8) : Nat := l.countP (· == 10)
theorem newlines_c (A : View) (s : ByteArray) (hs : s.size ≤ 140737488355328) : ACalls Try.prog 13 #[.string s] A fun r V => r = .int .i64 (nlN s.data.toList) ∧ V = A := by
  have hdl : s.data.toList.length = s.size := by rw [Array.length_toList]; rfl
  refine acalls Try.func13 rfl (by kernel_rfl) ?_
  simp (disch := omega) only [↓stq, amv_at, vls, inf, frs, mark_eq, ↓reduceIte, Nat.reduceEqDiff, ite_tt, ite_ff, eq_self, and_true, true_and, and_self, implies_true, Bool.true_eq_false, Bool.false_eq_true, decide_true, decide_false, decide_eq_true_eq, decide_eq_false_iff_not, ne_eq, not_true_eq_false, not_false_eq_true, Bool.not_eq_true', Bool.not_eq_false', beq_self_eq_true, Bool.not_true, Bool.not_false, List.getElem?_toArray, List.getElem?_cons_zero, List.getElem?_cons_succ]
  refine aloop (fun d fr V => ∃ i : Nat, i ≤ s.size ∧ d = s.size - i ∧ V = A ∧ fr 0 = .string s ∧ fr 3 = .int .i64 (nlN (s.data.toList.take i)) ∧ fr 4 = .int .i64 i) s.size ⟨0, by omega, by omega, rfl, by rfl, by rfl, by rfl⟩ ?_
  rintro d fr V ⟨i, hi, rfl, rfl, h0, h3, h4⟩
  have hcn : nlN (s.data.toList.take i) ≤ i := by
    have := List.countP_le_length (p := (· == (10 : UInt8))) (l := s.data.toList.take i)
    rw [List.length_take] at this
    unfold nlN
    omega
  simp (disch := omega) only [↓stq, amv_at, vls, inf, frs, mark_eq, ↓reduceIte, Nat.reduceEqDiff, ite_tt, ite_ff, eq_self, and_true, true_and, and_self, implies_true, Bool.true_eq_false, Bool.false_eq_true, decide_true, decide_false, decide_eq_true_eq, decide_eq_false_iff_not, ne_eq, not_true_eq_false, not_false_eq_true, Bool.not_eq_true', Bool.not_eq_false', beq_self_eq_true, Bool.not_true, Bool.not_false, List.getElem?_toArray, List.getElem?_cons_zero, List.getElem?_cons_succ, h0, h3, h4]
  refine ⟨fun e1 => ?_, fun e1 => ?_⟩
  · obtain ⟨b, hb, hv⟩ := sbyte_at (s := s) (i := i) (by omega)
    have htk : s.data.toList.take (i + 1) = s.data.toList.take i ++ [b] := by rw [List.take_add_one, hb]; rfl
    have hcs : nlN (s.data.toList.take (i + 1)) = nlN (s.data.toList.take i) + if b == 10 then 1 else 0 := by
      rw [htk]
      unfold nlN
      rw [List.countP_append, List.countP_singleton]
    simp (disch := omega) only [↓stq, amv_at, vls, inf, frs, mark_eq, ↓reduceIte, Nat.reduceEqDiff, ite_tt, ite_ff, eq_self, and_true, true_and, and_self, implies_true, Bool.true_eq_false, Bool.false_eq_true, decide_true, decide_false, decide_eq_true_eq, decide_eq_false_iff_not, ne_eq, not_true_eq_false, not_false_eq_true, Bool.not_eq_true', Bool.not_eq_false', beq_self_eq_true, Bool.not_true, Bool.not_false, List.getElem?_toArray, List.getElem?_cons_zero, List.getElem?_cons_succ, h0, h3, h4]
    rw [hv]
    by_cases h10 : b = 10
    · have e10 : ((b.toNat : Int) = 10) = True := by rw [h10]; exact eq_true rfl
      simp (disch := omega) only [↓stq, amv_at, vls, inf, frs, mark_eq, ↓reduceIte, Nat.reduceEqDiff, ite_tt, ite_ff, eq_self, and_true, true_and, and_self, implies_true, Bool.true_eq_false, Bool.false_eq_true, decide_true, decide_false, decide_eq_true_eq, decide_eq_false_iff_not, ne_eq, not_true_eq_false, not_false_eq_true, Bool.not_eq_true', Bool.not_eq_false', beq_self_eq_true, Bool.not_true, Bool.not_false, List.getElem?_toArray, List.getElem?_cons_zero, List.getElem?_cons_succ, h0, h3, h4, e10]
      refine ⟨_, by omega, i + 1, by omega, rfl, ?_⟩
      rw [hcs, h10]
      exact ⟨rfl, rfl⟩
    · have e10 : ((b.toNat : Int) = 10) = False := eq_false fun h => h10 (UInt8.toNat_inj.1 (by show b.toNat = 10; omega))
      simp (disch := omega) only [↓stq, amv_at, vls, inf, frs, mark_eq, ↓reduceIte, Nat.reduceEqDiff, ite_tt, ite_ff, eq_self, and_true, true_and, and_self, implies_true, Bool.true_eq_false, Bool.false_eq_true, decide_true, decide_false, decide_eq_true_eq, decide_eq_false_iff_not, ne_eq, not_true_eq_false, not_false_eq_true, Bool.not_eq_true', Bool.not_eq_false', beq_self_eq_true, Bool.not_true, Bool.not_false, List.getElem?_toArray, List.getElem?_cons_zero, List.getElem?_cons_succ, h0, h3, h4, e10]
      refine ⟨_, by omega, i + 1, by omega, rfl, ?_⟩
      rw [hcs, if_neg (by simpa using h10)]
      exact ⟨rfl, rfl⟩
  · simp (disch := omega) only [↓stq, amv_at, vls, inf, frs, mark_eq, ↓reduceIte, Nat.reduceEqDiff, ite_tt, ite_ff, eq_self, and_true, true_and, and_self, implies_true, Bool.true_eq_false, Bool.false_eq_true, decide_true, decide_false, decide_eq_true_eq, decide_eq_false_iff_not, ne_eq, not_true_eq_false, not_false_eq_true, Bool.not_eq_true', Bool.not_eq_false', beq_self_eq_true, Bool.not_true, Bool.not_false, List.getElem?_toArray, List.getElem?_cons_zero, List.getElem?_cons_succ, h0, h3, h4]
    have hie : i = s.size := by omega
    subst hie
    rw [← hdl, List.take_length]

theorem nlN_text : ∀ {es : List EventD}, es.all evOk = true → nlN (textE es) = es.length
  | [], _ => rfl
  | e :: es, h => by
    rw [List.all_cons, Bool.and_eq_true] at h
    have h1 : ∀ l : List UInt8, (10 : UInt8) ∉ l → nlN l = 0 := fun l hl => by
      unfold nlN
      rw [List.countP_eq_zero]
      intro b hb hx
      exact hl (by rw [← beq_iff_eq.1 hx]; exact hb)
    have h2 := h1 _ (wordE_bytes e.1).1
    have h3 := h1 _ (evOk_bytes h.1).1
    have h4 := nlN_text h.2
    have hc : textE (e :: es) = lineE e ++ textE es := rfl
    rw [hc]
    unfold lineE nlN at *
    simp only [List.countP_append, List.countP_cons, h2, h3, h4, List.length_cons, List.countP_nil]
    simp
    omega

end Go.Proofs.Ytggklaimbklefaa
