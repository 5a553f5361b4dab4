/- strings.Builder: what it writes and what it gives. -/
import Derived.Test.YtggklaimbklefaaDoorB2
set_option maxHeartbeats 4000000
set_option synthInstance.maxHeartbeats 400000
set_option synthInstance.maxSize 4096
set_option linter.unusedSimpArgs false
set_option linter.unusedVariables false
namespace Go.Proofs.YtggklaimbklefaaDoor

set_option maxRecDepth 100000

section
variable {A B V W : View} {L : List It} {K : Value → View → Prop}

theorem bytes_cat (bs cs : List UInt8) : Go.Lib.byteCells bs ++ Go.Lib.byteCells cs = Go.Lib.byteCells (bs ++ cs) := by simp [Go.Lib.byteCells]

/-- A text is appended to a buffer. -/
theorem buf_app {it : It} {fp : List Nat} {v : Value} {bs : List UInt8} {s : ByteArray} (hsm : bs.length + s.size ≤ 16777216) (l : Led B (it :: buf fp v bs :: L) V)
    (hk : ∀ fp' v' W, Led B (it :: buf fp' v' (bs ++ s.data.toList) :: L) W → K v' W) : aappend Tryd.prog #[50, 9] 50 #[v, .string s] V K := by
  have hT := ap50_9
  have hsrc : asrc V 1 (.string s) = some (s.size, Go.Lib.byteCells s.data.toList) := rfl
  have hdl : s.data.toList.length = s.size := by rw [Array.length_toList]; rfl
  have hB : Buf V fp v bs := l.at (i := 1) rfl
  rcases hB with ⟨rfl, rfl, rfl⟩ | ⟨g, c, rfl, hc, h0, rfl, hg⟩
  · by_cases hz : s.size = 0
    · have hn : s.data.toList = [] := List.eq_nil_of_length_eq_zero (by rw [hdl, hz])
      rw [hz] at hsrc
      refine aappend_nil0 hT hsrc (hk [] _ V ?_)
      rw [hn]
      exact l
    · refine app_nil hT hsrc (by omega) (by simp at hsm; omega) (by simp at hsm; omega) fun b' c' W hb' hle hext hw => ?_
      rw [Nat.mul_one] at hw
      refine hk [b'] _ W (l.swap (i := 1) (jt := buf [b'] _ ([] ++ s.data.toList)) rfl (Only.ext hext _) (.inr ⟨b', c', ?_, ?_, by omega, rfl, hw⟩) (fun x hx => ?_) (by simp [buf]))
      · rw [List.nil_append, hdl]
      · rw [List.nil_append, hdl]; exact hle
      · rw [List.mem_singleton.1 hx]; exact .inr hb'
  · have hlen : (Go.Lib.byteCells bs).length = bs.length * 1 := by rw [Go.Lib.byteCells_length, Nat.mul_one]
    by_cases hz : s.size = 0
    · have hn : s.data.toList = [] := List.eq_nil_of_length_eq_zero (by rw [hdl, hz])
      rw [hz, hn] at hsrc
      refine aappend_room hT hg rfl hsrc (by omega) (by rw [hlen]; omega) ?_
      refine hk [g] _ _ ?_
      rw [hn, List.append_nil]
      refine l.upd (i := 1) (jt := buf [g] _ bs) rfl rfl (Only.set _ (List.mem_singleton.2 rfl)) (.inr ⟨g, c, rfl, hc, h0, rfl, ?_⟩)
      rw [View.set_same]
      congr 2
      show (Go.Lib.byteCells bs).take (bs.length * 1) ++ [] ++ (Go.Lib.byteCells bs).drop ((bs.length + 0) * 1) = _
      rw [List.append_nil, Nat.add_zero, List.take_append_drop]
    · refine app_view hT (c := c) (by rw [Nat.mul_one]; exact hg) hlen hsrc (by omega) (by omega) fun b' c' W hb' hle ho hw => ?_
      rw [Nat.mul_one, bytes_cat] at hw
      refine hk [b'] _ W (l.swap (i := 1) (jt := buf [b'] _ (bs ++ s.data.toList)) rfl ho (.inr ⟨b', c', ?_, ?_, by omega, rfl, hw⟩) (fun x hx => ?_) (by simp [buf]))
      · rw [List.length_append, hdl]
      · rw [List.length_append, hdl]; exact hle
      · rw [List.mem_singleton.1 hx]
        rcases hb' with rfl | hb'
        · exact .inl (List.mem_singleton.2 rfl)
        · exact .inr hb'
end

theorem writeString_c (B A : View) (L : List It) (q : Nat) (fp : List Nat) (bs : List UInt8) (s : ByteArray) (hsm : bs.length + s.size ≤ 16777216) (l : Led B (wb q fp bs :: L) A) :
    ACalls Tryd.prog 27 #[.pointer (some ⟨q, 0, none⟩), .string s] A fun r V => r = .tuple #[.int .i64 s.size, .nilIface] ∧ ∃ fp', Led B (wb q fp' (bs ++ s.data.toList) :: L) V := by
  obtain ⟨p, v, hp, l⟩ := wb_open l
  refine acalls Tryd.func27 rfl (by kernel_rfl) ?_
  simp (disch := omega) only [↓stq, amv_at, vls, inf, frs, mark_eq, ↓reduceIte, Nat.reduceEqDiff, ite_tt, ite_ff, eq_self, and_true, true_and, and_self, implies_true, Bool.true_eq_false, Bool.false_eq_true, decide_true, decide_false, decide_eq_true_eq, decide_eq_false_iff_not, ne_eq, not_true_eq_false, not_false_eq_true, Bool.not_eq_true', Bool.not_eq_false', beq_self_eq_true, Bool.not_true, Bool.not_false, List.getElem?_toArray, List.getElem?_cons_zero, List.getElem?_cons_succ]
  refine (copyCheck_c B A _ q p v hp l).mono ?_
  rintro _ V l
  have kv := (show Buf V fp v bs from l.at (i := 1) rfl).one
  have k1 := l.cell (i := 0) rfl (o := 1) rfl kv.2.1
  simp (disch := omega) only [↓stq, amv_at, vls, inf, frs, mark_eq, ↓reduceIte, Nat.reduceEqDiff, ite_tt, ite_ff, eq_self, and_true, true_and, and_self, implies_true, Bool.true_eq_false, Bool.false_eq_true, decide_true, decide_false, decide_eq_true_eq, decide_eq_false_iff_not, ne_eq, not_true_eq_false, not_false_eq_true, Bool.not_eq_true', Bool.not_eq_false', beq_self_eq_true, Bool.not_true, Bool.not_false, List.getElem?_toArray, List.getElem?_cons_zero, List.getElem?_cons_succ, ↓aop_nilV, anilV_ptr, add_at, k1]
  refine buf_app hsm l fun fp' v' W l => ?_
  have kv' := (show Buf W fp' v' _ from l.at (i := 1) rfl).one
  simp (disch := omega) only [↓stq, amv_at, vls, inf, frs, mark_eq, ↓reduceIte, Nat.reduceEqDiff, ite_tt, ite_ff, eq_self, and_true, true_and, and_self, implies_true, Bool.true_eq_false, Bool.false_eq_true, decide_true, decide_false, decide_eq_true_eq, decide_eq_false_iff_not, ne_eq, not_true_eq_false, not_false_eq_true, Bool.not_eq_true', Bool.not_eq_false', beq_self_eq_true, Bool.not_true, Bool.not_false, List.getElem?_toArray, List.getElem?_cons_zero, List.getElem?_cons_succ, ↓aop_nilV, anilV_ptr, add_at]
  refine led_store l 0 rfl sz50 (by rw [kv'.1]; rfl) (by rfl) (by rw [kv'.1]; simpa using kv'.2.1) fun W2 l => ?_
  have e : [Value.pointer (some ⟨q, 0, none⟩), v].take 1 ++ v'.cells.toList ++ [Value.pointer (some ⟨q, 0, none⟩), v].drop (1 + 1) = [Value.pointer (some ⟨q, 0, none⟩), v'] := by rw [kv'.1]; rfl
  replace l : Led B (bx q ⟨52, [Value.pointer (some ⟨q, 0, none⟩), v].take 1 ++ v'.cells.toList ++ [Value.pointer (some ⟨q, 0, none⟩), v].drop (1 + 1), 2, true⟩ :: buf fp' v' (bs ++ s.data.toList) :: L) W2 := l
  rw [e] at l
  simp (disch := omega) only [↓stq, amv_at, vls, inf, frs, mark_eq, ↓reduceIte, Nat.reduceEqDiff, ite_tt, ite_ff, eq_self, and_true, true_and, and_self, implies_true, Bool.true_eq_false, Bool.false_eq_true, decide_true, decide_false, decide_eq_true_eq, decide_eq_false_iff_not, ne_eq, not_true_eq_false, not_false_eq_true, Bool.not_eq_true', Bool.not_eq_false', beq_self_eq_true, Bool.not_true, Bool.not_false, List.getElem?_toArray, List.getElem?_cons_zero, List.getElem?_cons_succ]
  exact ⟨fp', wb_close (.inr rfl) l⟩

theorem aop_sdata {P : Program} {A : View} {K : Value → View → Prop} (d : Option Tmp) (ty : TypeId) (ps : String) (af : Array Edge) (g : Option (Nat × Bool)) (ρ : Operand → Value) (xs : Array Operand) (ats : Array TypeId) :
    aop P ⟨d, .call ⟨.builtin .unsafeSliceData, xs, ats⟩, ty, ps, af, g⟩ ρ A K = abuiltin P .unsafeSliceData ats ty (xs.map fun | .const _ => true | _ => false) (xs.map ρ) A K := Eq.trans rfl rfl
theorem aop_ustr {P : Program} {A : View} {K : Value → View → Prop} (d : Option Tmp) (ty : TypeId) (ps : String) (af : Array Edge) (g : Option (Nat × Bool)) (ρ : Operand → Value) (xs : Array Operand) (ats : Array TypeId) :
    aop P ⟨d, .call ⟨.builtin .unsafeString, xs, ats⟩, ty, ps, af, g⟩ ρ A K = abuiltin P .unsafeString ats ty (xs.map fun | .const _ => true | _ => false) (xs.map ρ) A K := Eq.trans rfl rfl

/-- The text of a builder. -/
theorem string_c (B A : View) (L : List It) (q : Nat) (fp : List Nat) (bs : List UInt8) (hsm : bs.length ≤ 16777216) (l : Led B (wb q fp bs :: L) A) :
    ACalls Tryd.prog 28 #[.pointer (some ⟨q, 0, none⟩)] A fun r V => r = .string ⟨bs.toArray⟩ ∧ Led B L V := by
  obtain ⟨p, v, hp, l⟩ := wb_open l
  have hB : Buf A fp v bs := l.at (i := 1) rfl
  have k1 := l.cell (i := 0) rfl (o := 1) rfl hB.one.2.1
  refine acalls Tryd.func28 rfl (by kernel_rfl) ?_
  simp (disch := omega) only [↓stq, amv_at, vls, inf, frs, mark_eq, ↓reduceIte, Nat.reduceEqDiff, ite_tt, ite_ff, eq_self, and_true, true_and, and_self, implies_true, Bool.true_eq_false, Bool.false_eq_true, decide_true, decide_false, decide_eq_true_eq, decide_eq_false_iff_not, ne_eq, not_true_eq_false, not_false_eq_true, Bool.not_eq_true', Bool.not_eq_false', beq_self_eq_true, Bool.not_true, Bool.not_false, List.getElem?_toArray, List.getElem?_cons_zero, List.getElem?_cons_succ]
  refine adraw_items [.q 0, .q 1, .q 2, .l 3 false, .q 4, .q 5, .q 6, .q 7, .l 8 false, .q 9, .c 10 [], .q 11] (by kernel_rfl) (by kernel_rfl) ?_
  rcases hB with ⟨rfl, rfl, rfl⟩ | ⟨g, c, rfl, hc, h0, rfl, hg⟩
  · simp (disch := omega) only [↓stq, amv_at, ↓pln, plv, nilOk, Nat.reduceBEq, Bool.or_false, Bool.or_true, Bool.false_or, Bool.true_or, vls, inf, frs, mark_eq, ↓reduceIte, Nat.reduceEqDiff, ite_tt, ite_ff, eq_self, and_true, true_and, and_self, implies_true, Bool.true_eq_false, Bool.false_eq_true, decide_true, decide_false, decide_eq_true_eq, decide_eq_false_iff_not, ne_eq, not_true_eq_false, not_false_eq_true, Bool.not_eq_true', Bool.not_eq_false', beq_self_eq_true, Bool.not_true, Bool.not_false, List.getElem?_toArray, List.getElem?_cons_zero, List.getElem?_cons_succ, ↓aop_nilV, anilV_ptr, add_at, k1, ↓aop_sdata, ↓aop_ustr, abuiltin_sdata0, abuiltin_ustr0, List.length_nil, Int.ofNat_zero, Int.natCast_zero]
    exact l.tail.tail
  · simp (disch := omega) only [↓stq, amv_at, ↓pln, plv, nilOk, Nat.reduceBEq, Bool.or_false, Bool.or_true, Bool.false_or, Bool.true_or, vls, inf, frs, mark_eq, ↓reduceIte, Nat.reduceEqDiff, ite_tt, ite_ff, eq_self, and_true, true_and, and_self, implies_true, Bool.true_eq_false, Bool.false_eq_true, decide_true, decide_false, decide_eq_true_eq, decide_eq_false_iff_not, ne_eq, not_true_eq_false, not_false_eq_true, Bool.not_eq_true', Bool.not_eq_false', beq_self_eq_true, Bool.not_true, Bool.not_false, List.getElem?_toArray, List.getElem?_cons_zero, List.getElem?_cons_succ, ↓aop_nilV, anilV_ptr, add_at, k1, ↓aop_sdata, ↓aop_ustr, abuiltin_sdata _ _ _ _ _ _ (show c ≠ 0 by omega)]
    by_cases hn : bs = []
    · subst hn
      simp (disch := omega) only [↓stq, amv_at, ↓pln, plv, nilOk, Nat.reduceBEq, Bool.or_false, Bool.or_true, Bool.false_or, Bool.true_or, vls, inf, frs, mark_eq, ↓reduceIte, Nat.reduceEqDiff, ite_tt, ite_ff, eq_self, and_true, true_and, and_self, implies_true, Bool.true_eq_false, Bool.false_eq_true, decide_true, decide_false, decide_eq_true_eq, decide_eq_false_iff_not, ne_eq, not_true_eq_false, not_false_eq_true, Bool.not_eq_true', Bool.not_eq_false', beq_self_eq_true, Bool.not_true, Bool.not_false, List.getElem?_toArray, List.getElem?_cons_zero, List.getElem?_cons_succ, abuiltin_ustr0, List.length_nil, Int.ofNat_zero, Int.natCast_zero]
      exact l.tail.tail
    · simp (disch := omega) only [↓stq, amv_at, ↓pln, plv, nilOk, Nat.reduceBEq, Bool.or_false, Bool.or_true, Bool.false_or, Bool.true_or, vls, inf, frs, mark_eq, ↓reduceIte, Nat.reduceEqDiff, ite_tt, ite_ff, eq_self, and_true, true_and, and_self, implies_true, Bool.true_eq_false, Bool.false_eq_true, decide_true, decide_false, decide_eq_true_eq, decide_eq_false_iff_not, ne_eq, not_true_eq_false, not_false_eq_true, Bool.not_eq_true', Bool.not_eq_false', beq_self_eq_true, Bool.not_true, Bool.not_false, List.getElem?_toArray, List.getElem?_cons_zero, List.getElem?_cons_succ, abuiltin_ustr (P := Tryd.prog) _ (show Tryd.prog.underlying 61 = some (.pointer 5) by kernel_rfl) byte_cells hn hg hc (by omega)]
      exact (l.upd (i := 1) (jt := bx g _) rfl rfl (Only.set _ (List.mem_singleton.2 rfl)) (View.set_same ..)).tail.tail

end Go.Proofs.YtggklaimbklefaaDoor

