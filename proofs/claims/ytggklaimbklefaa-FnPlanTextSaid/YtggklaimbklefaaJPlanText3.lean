/- Part 3 of the proof: its texts, one behind the other. -/
import Derived.Test.YtggklaimbklefaaJPlanText2
import Derived.Lib.IndexLaws

/- strings.Builder: what it writes and what it gives. -/
set_option maxHeartbeats 4000000
set_option synthInstance.maxHeartbeats 400000
set_option synthInstance.maxSize 4096
set_option linter.unusedSimpArgs false
set_option linter.unusedVariables false
namespace Go.Proofs.Ytggklaimbklefaa

set_option maxRecDepth 100000

section
variable {A B V W : View} {L : List It} {K : Value → View → Prop}

theorem bytes_cat (bs cs : List UInt8) : Go.Lib.byteCells bs ++ Go.Lib.byteCells cs = Go.Lib.byteCells (bs ++ cs) := by simp [Go.Lib.byteCells]

/-- A text is appended to a buffer. -/
theorem buf_app {it : It} {fp : List Nat} {v : Value} {bs : List UInt8} {s : ByteArray} (hsm : bs.length + s.size ≤ 16777216) (l : Led B (it :: buf fp v bs :: L) V)
    (hk : ∀ fp' v' W, Led B (it :: buf fp' v' (bs ++ s.data.toList) :: L) W → K v' W) : aappend Try.prog #[22, 9] 22 #[v, .string s] V K := by
  have hT := ap22_9
  have hsrc : asrc V 1 (.string s) = some (s.size, Go.Lib.byteCells s.data.toList) := rfl
  have hdl : s.data.toList.length = s.size := by rw [Array.length_toList]; rfl
  have hB : Buf V fp v bs := l.at (i := 1) rfl
  rcases hB with ⟨rfl, rfl, rfl⟩ | ⟨g, c, rfl, hc, h0, rfl, hg⟩
  · by_cases hz : s.size = 0
    · have hn : s.data.toList = [] := List.eq_nil_of_length_eq_zero (by rw [hdl, hz])
      rw [hz] at hsrc
      refine aappend_nil0 hT hsrc (hk [] _ V ?_)
      rw [hn]
      exact l
    · refine app_nil hT hsrc (by omega) (by simp at hsm; omega) (by simp at hsm; omega) fun b' c' W hb' hle hext hw => ?_
      rw [Nat.mul_one] at hw
      refine hk [b'] _ W (l.swap (i := 1) (jt := buf [b'] _ ([] ++ s.data.toList)) rfl (Only.ext hext _) (.inr ⟨b', c', ?_, ?_, by omega, rfl, hw⟩) (fun x hx => ?_) (by simp [buf]))
      · rw [List.nil_append, hdl]
      · rw [List.nil_append, hdl]; exact hle
      · rw [List.mem_singleton.1 hx]; exact .inr hb'
  · have hlen : (Go.Lib.byteCells bs).length = bs.length * 1 := by rw [Go.Lib.byteCells_length, Nat.mul_one]
    by_cases hz : s.size = 0
    · have hn : s.data.toList = [] := List.eq_nil_of_length_eq_zero (by rw [hdl, hz])
      rw [hz, hn] at hsrc
      refine aappend_room hT hg rfl hsrc (by omega) (by rw [hlen]; omega) ?_
      refine hk [g] _ _ ?_
      rw [hn, List.append_nil]
      refine l.upd (i := 1) (jt := buf [g] _ bs) rfl rfl (Only.set _ (List.mem_singleton.2 rfl)) (.inr ⟨g, c, rfl, hc, h0, rfl, ?_⟩)
      rw [View.set_same]
      congr 2
      show (Go.Lib.byteCells bs).take (bs.length * 1) ++ [] ++ (Go.Lib.byteCells bs).drop ((bs.length + 0) * 1) = _
      rw [List.append_nil, Nat.add_zero, List.take_append_drop]
    · refine app_view hT (c := c) (by rw [Nat.mul_one]; exact hg) hlen hsrc (by omega) (by omega) fun b' c' W hb' hle ho hw => ?_
      rw [Nat.mul_one, bytes_cat] at hw
      refine hk [b'] _ W (l.swap (i := 1) (jt := buf [b'] _ (bs ++ s.data.toList)) rfl ho (.inr ⟨b', c', ?_, ?_, by omega, rfl, hw⟩) (fun x hx => ?_) (by simp [buf]))
      · rw [List.length_append, hdl]
      · rw [List.length_append, hdl]; exact hle
      · rw [List.mem_singleton.1 hx]
        rcases hb' with rfl | hb'
        · exact .inl (List.mem_singleton.2 rfl)
        · exact .inr hb'
end

theorem writeString_c (B A : View) (L : List It) (q : Nat) (fp : List Nat) (bs : List UInt8) (s : ByteArray) (hsm : bs.length + s.size ≤ 16777216) (l : Led B (wb q fp bs :: L) A) :
    ACalls Try.prog 31 #[.pointer (some ⟨q, 0, none⟩), .string s] A fun r V => r = .tuple #[.int .i64 s.size, .nilIface] ∧ ∃ fp', Led B (wb q fp' (bs ++ s.data.toList) :: L) V := by
  obtain ⟨p, v, hp, l⟩ := wb_open l
  refine acalls Try.func31 rfl (by kernel_rfl) ?_
  simp (disch := omega) only [↓stq, amv_at, vls, inf, frs, mark_eq, ↓reduceIte, Nat.reduceEqDiff, ite_tt, ite_ff, eq_self, and_true, true_and, and_self, implies_true, Bool.true_eq_false, Bool.false_eq_true, decide_true, decide_false, decide_eq_true_eq, decide_eq_false_iff_not, ne_eq, not_true_eq_false, not_false_eq_true, Bool.not_eq_true', Bool.not_eq_false', beq_self_eq_true, Bool.not_true, Bool.not_false, List.getElem?_toArray, List.getElem?_cons_zero, List.getElem?_cons_succ]
  refine (copyCheck_c B A _ q p v hp l).mono ?_
  rintro _ V l
  have kv := (show Buf V fp v bs from l.at (i := 1) rfl).one
  have k1 := l.cell (i := 0) rfl (o := 1) rfl kv.2.1
  simp (disch := omega) only [↓stq, amv_at, vls, inf, frs, mark_eq, ↓reduceIte, Nat.reduceEqDiff, ite_tt, ite_ff, eq_self, and_true, true_and, and_self, implies_true, Bool.true_eq_false, Bool.false_eq_true, decide_true, decide_false, decide_eq_true_eq, decide_eq_false_iff_not, ne_eq, not_true_eq_false, not_false_eq_true, Bool.not_eq_true', Bool.not_eq_false', beq_self_eq_true, Bool.not_true, Bool.not_false, List.getElem?_toArray, List.getElem?_cons_zero, List.getElem?_cons_succ, ↓aop_nilV, anilV_ptr, add_at, k1]
  refine buf_app hsm l fun fp' v' W l => ?_
  have kv' := (show Buf W fp' v' _ from l.at (i := 1) rfl).one
  simp (disch := omega) only [↓stq, amv_at, vls, inf, frs, mark_eq, ↓reduceIte, Nat.reduceEqDiff, ite_tt, ite_ff, eq_self, and_true, true_and, and_self, implies_true, Bool.true_eq_false, Bool.false_eq_true, decide_true, decide_false, decide_eq_true_eq, decide_eq_false_iff_not, ne_eq, not_true_eq_false, not_false_eq_true, Bool.not_eq_true', Bool.not_eq_false', beq_self_eq_true, Bool.not_true, Bool.not_false, List.getElem?_toArray, List.getElem?_cons_zero, List.getElem?_cons_succ, ↓aop_nilV, anilV_ptr, add_at]
  refine led_store l 0 rfl sz22 (by rw [kv'.1]; rfl) (by rfl) (by rw [kv'.1]; simpa using kv'.2.1) fun W2 l => ?_
  have e : [Value.pointer (some ⟨q, 0, none⟩), v].take 1 ++ v'.cells.toList ++ [Value.pointer (some ⟨q, 0, none⟩), v].drop (1 + 1) = [Value.pointer (some ⟨q, 0, none⟩), v'] := by rw [kv'.1]; rfl
  replace l : Led B (bx q ⟨62, [Value.pointer (some ⟨q, 0, none⟩), v].take 1 ++ v'.cells.toList ++ [Value.pointer (some ⟨q, 0, none⟩), v].drop (1 + 1), 2, true⟩ :: buf fp' v' (bs ++ s.data.toList) :: L) W2 := l
  rw [e] at l
  simp (disch := omega) only [↓stq, amv_at, vls, inf, frs, mark_eq, ↓reduceIte, Nat.reduceEqDiff, ite_tt, ite_ff, eq_self, and_true, true_and, and_self, implies_true, Bool.true_eq_false, Bool.false_eq_true, decide_true, decide_false, decide_eq_true_eq, decide_eq_false_iff_not, ne_eq, not_true_eq_false, not_false_eq_true, Bool.not_eq_true', Bool.not_eq_false', beq_self_eq_true, Bool.not_true, Bool.not_false, List.getElem?_toArray, List.getElem?_cons_zero, List.getElem?_cons_succ]
  exact ⟨fp', wb_close (.inr rfl) l⟩

theorem aop_sdata {P : Program} {A : View} {K : Value → View → Prop} (d : Option Tmp) (ty : TypeId) (ps : String) (af : Array Edge) (g : Option (Nat × Bool)) (ρ : Operand → Value) (xs : Array Operand) (ats : Array TypeId) :
    aop P ⟨d, .call ⟨.builtin .unsafeSliceData, xs, ats⟩, ty, ps, af, g⟩ ρ A K = abuiltin P .unsafeSliceData ats ty (xs.map fun | .const _ => true | _ => false) (xs.map ρ) A K := Eq.trans rfl rfl
theorem aop_ustr {P : Program} {A : View} {K : Value → View → Prop} (d : Option Tmp) (ty : TypeId) (ps : String) (af : Array Edge) (g : Option (Nat × Bool)) (ρ : Operand → Value) (xs : Array Operand) (ats : Array TypeId) :
    aop P ⟨d, .call ⟨.builtin .unsafeString, xs, ats⟩, ty, ps, af, g⟩ ρ A K = abuiltin P .unsafeString ats ty (xs.map fun | .const _ => true | _ => false) (xs.map ρ) A K := Eq.trans rfl rfl

/-- The text of a builder. -/
theorem string_c (B A : View) (L : List It) (q : Nat) (fp : List Nat) (bs : List UInt8) (hsm : bs.length ≤ 16777216) (l : Led B (wb q fp bs :: L) A) :
    ACalls Try.prog 33 #[.pointer (some ⟨q, 0, none⟩)] A fun r V => r = .string ⟨bs.toArray⟩ ∧ Led B L V := by
  obtain ⟨p, v, hp, l⟩ := wb_open l
  have hB : Buf A fp v bs := l.at (i := 1) rfl
  have k1 := l.cell (i := 0) rfl (o := 1) rfl hB.one.2.1
  refine acalls Try.func33 rfl (by kernel_rfl) ?_
  simp (disch := omega) only [↓stq, amv_at, vls, inf, frs, mark_eq, ↓reduceIte, Nat.reduceEqDiff, ite_tt, ite_ff, eq_self, and_true, true_and, and_self, implies_true, Bool.true_eq_false, Bool.false_eq_true, decide_true, decide_false, decide_eq_true_eq, decide_eq_false_iff_not, ne_eq, not_true_eq_false, not_false_eq_true, Bool.not_eq_true', Bool.not_eq_false', beq_self_eq_true, Bool.not_true, Bool.not_false, List.getElem?_toArray, List.getElem?_cons_zero, List.getElem?_cons_succ]
  refine adraw_items [.q 0, .q 1, .q 2, .l 3 false, .q 4, .q 5, .q 6, .q 7, .l 8 false, .q 9, .c 10 [], .q 11] (by kernel_rfl) (by kernel_rfl) ?_
  rcases hB with ⟨rfl, rfl, rfl⟩ | ⟨g, c, rfl, hc, h0, rfl, hg⟩
  · simp (disch := omega) only [↓stq, amv_at, ↓pln, plv, nilOk, Nat.reduceBEq, Bool.or_false, Bool.or_true, Bool.false_or, Bool.true_or, vls, inf, frs, mark_eq, ↓reduceIte, Nat.reduceEqDiff, ite_tt, ite_ff, eq_self, and_true, true_and, and_self, implies_true, Bool.true_eq_false, Bool.false_eq_true, decide_true, decide_false, decide_eq_true_eq, decide_eq_false_iff_not, ne_eq, not_true_eq_false, not_false_eq_true, Bool.not_eq_true', Bool.not_eq_false', beq_self_eq_true, Bool.not_true, Bool.not_false, List.getElem?_toArray, List.getElem?_cons_zero, List.getElem?_cons_succ, ↓aop_nilV, anilV_ptr, add_at, k1, ↓aop_sdata, ↓aop_ustr, abuiltin_sdata0, abuiltin_ustr0, List.length_nil, Int.ofNat_zero, Int.natCast_zero]
    exact l.tail.tail
  · simp (disch := omega) only [↓stq, amv_at, ↓pln, plv, nilOk, Nat.reduceBEq, Bool.or_false, Bool.or_true, Bool.false_or, Bool.true_or, vls, inf, frs, mark_eq, ↓reduceIte, Nat.reduceEqDiff, ite_tt, ite_ff, eq_self, and_true, true_and, and_self, implies_true, Bool.true_eq_false, Bool.false_eq_true, decide_true, decide_false, decide_eq_true_eq, decide_eq_false_iff_not, ne_eq, not_true_eq_false, not_false_eq_true, Bool.not_eq_true', Bool.not_eq_false', beq_self_eq_true, Bool.not_true, Bool.not_false, List.getElem?_toArray, List.getElem?_cons_zero, List.getElem?_cons_succ, ↓aop_nilV, anilV_ptr, add_at, k1, ↓aop_sdata, ↓aop_ustr, abuiltin_sdata _ _ _ _ _ _ (show c ≠ 0 by omega)]
    by_cases hn : bs = []
    · subst hn
      simp (disch := omega) only [↓stq, amv_at, ↓pln, plv, nilOk, Nat.reduceBEq, Bool.or_false, Bool.or_true, Bool.false_or, Bool.true_or, vls, inf, frs, mark_eq, ↓reduceIte, Nat.reduceEqDiff, ite_tt, ite_ff, eq_self, and_true, true_and, and_self, implies_true, Bool.true_eq_false, Bool.false_eq_true, decide_true, decide_false, decide_eq_true_eq, decide_eq_false_iff_not, ne_eq, not_true_eq_false, not_false_eq_true, Bool.not_eq_true', Bool.not_eq_false', beq_self_eq_true, Bool.not_true, Bool.not_false, List.getElem?_toArray, List.getElem?_cons_zero, List.getElem?_cons_succ, abuiltin_ustr0, List.length_nil, Int.ofNat_zero, Int.natCast_zero]
      exact l.tail.tail
    · simp (disch := omega) only [↓stq, amv_at, ↓pln, plv, nilOk, Nat.reduceBEq, Bool.or_false, Bool.or_true, Bool.false_or, Bool.true_or, vls, inf, frs, mark_eq, ↓reduceIte, Nat.reduceEqDiff, ite_tt, ite_ff, eq_self, and_true, true_and, and_self, implies_true, Bool.true_eq_false, Bool.false_eq_true, decide_true, decide_false, decide_eq_true_eq, decide_eq_false_iff_not, ne_eq, not_true_eq_false, not_false_eq_true, Bool.not_eq_true', Bool.not_eq_false', beq_self_eq_true, Bool.not_true, Bool.not_false, List.getElem?_toArray, List.getElem?_cons_zero, List.getElem?_cons_succ, abuiltin_ustr (P := Try.prog) _ (show Try.prog.underlying 94 = some (.pointer 5) by kernel_rfl) byte_cells hn hg hc (by omega)]
      exact (l.upd (i := 1) (jt := bx g _) rfl rfl (Only.set _ (List.mem_singleton.2 rfl)) (View.set_same ..)).tail.tail

end Go.Proofs.Ytggklaimbklefaa

/- The helpers of the laws for Event: counted, copied, compared, marked. -/
set_option maxHeartbeats 4000000
set_option synthInstance.maxHeartbeats 400000
set_option synthInstance.maxSize 4096
set_option linter.unusedSimpArgs false
set_option linter.unusedVariables false
namespace Go.Proofs.Ytggklaimbklefaa

set_option maxRecDepth 100000

abbrev EventD := Int × ByteArray × Unit

def eventS : Shape EventD := consS intS (consS strS unitS)

def eventO : OwnS EventD := consO intO (consO strO unitO)

def eventT : GT EventD := consT intT (consT strT unitT)

theorem eventS_open {A : View} {x : EventD} {d : List Value} (h : eventS.rel A x d) : d = [.int .i64 x.1, .string x.2.1] ∧ (-9223372036854775808 ≤ x.1 ∧ x.1 < 9223372036854775808) ∧ x.2.1.size ≤ 140737488355328 := by
  obtain ⟨_, _, rfl, ⟨rfl, hh0⟩, ⟨_, _, rfl, ⟨rfl, hh1⟩, rfl⟩⟩ := h
  exact ⟨rfl, hh0, hh1⟩

theorem eventS_mk {A : View} {x : EventD} (hh0 : (-9223372036854775808 ≤ x.1 ∧ x.1 < 9223372036854775808)) (hh1 : x.2.1.size ≤ 140737488355328) : eventS.rel A x [.int .i64 x.1, .string x.2.1] := ⟨_, _, rfl, ⟨rfl, hh0⟩, ⟨_, _, rfl, ⟨rfl, hh1⟩, rfl⟩⟩

theorem eventO_open {A : View} {fp : List Nat} {x : EventD} {d : List Value} (h : eventO.rel A fp x d) : [] = fp ∧ d = [.int .i64 x.1, .string x.2.1] ∧ (-9223372036854775808 ≤ x.1 ∧ x.1 < 9223372036854775808) ∧ x.2.1.size ≤ 140737488355328 := by
  obtain ⟨_, _, _, _, rfl, rfl, ⟨rfl, rfl, hh0⟩, ⟨_, _, _, _, rfl, rfl, ⟨rfl, rfl, hh1⟩, ⟨rfl, rfl⟩⟩⟩ := h
  exact ⟨by simp, rfl, hh0, hh1⟩

theorem eventO_mk {A : View} {x : EventD} (hh0 : (-9223372036854775808 ≤ x.1 ∧ x.1 < 9223372036854775808)) (hh1 : x.2.1.size ≤ 140737488355328) : eventO.rel A ([]) x [.int .i64 x.1, .string x.2.1] := ⟨[], [], [.int .i64 x.1], _, by simp, rfl, ⟨rfl, rfl, hh0⟩, ⟨[], [], [.string x.2.1], _, by simp, rfl, ⟨rfl, rfl, hh1⟩, ⟨rfl, rfl⟩⟩⟩

theorem eventO_S {A : View} {fp : List Nat} {x : EventD} {d : List Value} (h : eventO.rel A fp x d) : eventS.rel A x d := eventO.toS h

theorem eventT_w (x : EventD) : eventT.w x = 0 + (x.2.1.size + 0) := rfl

theorem eventT_cnt (x : EventD) : eventT.cnt x = 1 + (1 + 0) := rfl

theorem eventT_le (x : EventD) : eventT.cnt x ≤ 4 + 4 * eventT.w x := by
  rw [eventT_cnt, eventT_w]
  omega

theorem eventL_le : ∀ (xs : List EventD), cntL eventT xs ≤ 4 * (xs.length + wL eventT xs)
  | [] => by simp [cntL]
  | x :: xs => by
    have := eventT_le x
    have := eventL_le xs
    simp only [cntL, wL, List.length_cons]
    omega

theorem Sl.event {A : View} {a : Option Addr} {n c : Nat} {xs : List EventD} (h : Sl eventS A (.slice a n c) xs) {i : Nat} (hi : i < xs.length) : ∃ (ad : Addr) , a = some ad ∧ A.part (ad.add (i * 2)) 2 = some [.int .i64 (xs[i]).1, .string (xs[i]).2.1] ∧ (-9223372036854775808 ≤ (xs[i]).1 ∧ (xs[i]).1 < 9223372036854775808) ∧ (xs[i]).2.1.size ≤ 140737488355328 := by
  obtain ⟨ad, d, h1, h2, h3, _⟩ := h.at hi
  obtain ⟨rfl, hh0, hh1⟩ := eventS_open h2
  exact ⟨ad, h1, h3, hh0, hh1⟩

end Go.Proofs.Ytggklaimbklefaa

/- Texts of plans: what the program and the reference write. -/
set_option maxHeartbeats 4000000
set_option synthInstance.maxHeartbeats 400000
set_option synthInstance.maxSize 4096
set_option linter.unusedSimpArgs false
set_option linter.unusedVariables false
namespace Go.Proofs.Ytggklaimbklefaa

set_option maxRecDepth 100000

/-- An event of a right form. -/
def evOk (e : EventD) : Bool := (decide (e.1 = 0) && nmOk e.2.1) || (decide (e.1 = 1) && nmOk e.2.1) || (decide (e.1 = 2) && idB e.2.1)
/-- The word of a kind. -/
def wordE (k : Int) : ByteArray := if k = 0 then ⟨#[117, 112]⟩ else if k = 1 then ⟨#[100, 111, 119, 110]⟩ else ⟨#[116, 101, 115, 116]⟩
/-- The line of an event. -/
def lineE (e : EventD) : List UInt8 := (wordE e.1).data.toList ++ 32 :: (e.2.1.data.toList ++ [10])
def textE (es : List EventD) : List UInt8 := es.flatMap lineE
/-- The text of a plan. -/
def planB (es : List EventD) : ByteArray := if es.all evOk = true then ⟨(textE es).toArray⟩ else ⟨#[]⟩

theorem wordE_len (k : Int) : (wordE k).data.toList.length ≤ 4 := by
  unfold wordE
  split
  · decide
  · split <;> decide
theorem lineE_len (e : EventD) : (lineE e).length ≤ 6 + e.2.1.size := by
  have h1 : e.2.1.data.toList.length = e.2.1.size := by rw [Array.length_toList]; rfl
  have h2 := wordE_len e.1
  unfold lineE
  simp only [List.length_append, List.length_cons, List.length_nil, h1]
  omega
theorem textE_take {es : List EventD} {i : Nat} (hi : i < es.length) : textE (es.take (i + 1)) = textE (es.take i) ++ lineE es[i] := by
  unfold textE
  rw [List.take_succ_eq_append_getElem hi, List.flatMap_append]
  simp
theorem textE_le (es : List EventD) (i : Nat) : (textE (es.take i)).length ≤ (textE es).length := by
  conv => rhs; rw [← List.take_append_drop i es]
  unfold textE
  rw [List.flatMap_append, List.length_append]
  omega
theorem evOk_take {es : List EventD} {i : Nat} (hi : i < es.length) (h : (es.take i).all evOk = true) : (es.take (i + 1)).all evOk = evOk es[i] := by
  rw [List.take_succ_eq_append_getElem hi, List.all_append, h]
  simp
theorem planB_no {es : List EventD} {i : Nat} (hi : i < es.length) (h : evOk es[i] = false) : planB es = ⟨#[]⟩ := by
  unfold planB
  rw [if_neg]
  intro ha
  rw [List.all_eq_true.1 ha _ (List.getElem_mem hi)] at h
  cases h
theorem planB_yes {es : List EventD} (h : es.all evOk = true) : planB es = ⟨(textE es).toArray⟩ := by
  unfold planB
  rw [if_pos h]

theorem impl_PlanText_c (A : View) (v : Value) (es : List EventD) (h : Sl eventS A v es) (hsm : (textE es).length ≤ 1048576) : ACalls Try.prog 10 #[v] A fun r V => r = .string (planB es) ∧ Ext A V := by
  obtain ⟨a, c, rfl, _, _⟩ := h.slice
  refine acalls Try.func10 rfl (by kernel_rfl) ?_
  simp (disch := omega) only [↓stq, amv_at, vls, inf, frs, mark_eq, ↓reduceIte, Nat.reduceEqDiff, ite_tt, ite_ff, eq_self, and_true, true_and, and_self, implies_true, Bool.true_eq_false, Bool.false_eq_true, decide_true, decide_false, decide_eq_true_eq, decide_eq_false_iff_not, ne_eq, not_true_eq_false, not_false_eq_true, Bool.not_eq_true', Bool.not_eq_false', beq_self_eq_true, Bool.not_true, Bool.not_false, List.getElem?_toArray, List.getElem?_cons_zero, List.getElem?_cons_succ]
  refine led_alloc zc62 (Led.nil A) fun q V _ l => ?_
  simp (disch := omega) only [↓stq, amv_at, vls, inf, frs, mark_eq, ↓reduceIte, Nat.reduceEqDiff, ite_tt, ite_ff, eq_self, and_true, true_and, and_self, implies_true, Bool.true_eq_false, Bool.false_eq_true, decide_true, decide_false, decide_eq_true_eq, decide_eq_false_iff_not, ne_eq, not_true_eq_false, not_false_eq_true, Bool.not_eq_true', Bool.not_eq_false', beq_self_eq_true, Bool.not_true, Bool.not_false, List.getElem?_toArray, List.getElem?_cons_zero, List.getElem?_cons_succ]
  refine aloop (fun d fr V => ∃ (i : Nat) (fp : List Nat), i ≤ es.length ∧ d = es.length - i ∧ Led A [wb q fp (textE (es.take i))] V ∧ (es.take i).all evOk = true ∧ fr 3 = .pointer (some ⟨q, 0, none⟩) ∧ fr 6 = .slice a es.length c ∧ fr 7 = .int .i64 es.length ∧ fr 8 = .int .i64 i) es.length ⟨0, [], by omega, by omega, wb_new l, rfl, rfl, rfl, rfl, rfl⟩ ?_
  clear l
  rintro d fr V ⟨i, fp, hi, rfl, l, hall, h3, h6, h7, h8⟩
  simp (disch := omega) only [↓stq, amv_at, vls, inf, frs, mark_eq, ↓reduceIte, Nat.reduceEqDiff, ite_tt, ite_ff, eq_self, and_true, true_and, and_self, implies_true, Bool.true_eq_false, Bool.false_eq_true, decide_true, decide_false, decide_eq_true_eq, decide_eq_false_iff_not, ne_eq, not_true_eq_false, not_false_eq_true, Bool.not_eq_true', Bool.not_eq_false', beq_self_eq_true, Bool.not_true, Bool.not_false, List.getElem?_toArray, List.getElem?_cons_zero, List.getElem?_cons_succ, h3, h6, h7, h8]
  refine ⟨fun e1 => ?_, fun e1 => ?_⟩
  · have hlt : i < es.length := by omega
    obtain ⟨ad, rfl, hclA, z1, z2⟩ := h.event hlt
    have hcl := l.ext.part hclA
    have hnx := textE_take hlt
    have hle := textE_le es (i + 1)
    have hok := evOk_take hlt hall
    have hno := planB_no hlt
    rw [hnx, List.length_append] at hle
    have hL : (lineE es[i]).length = (wordE es[i].1).data.toList.length + (es[i].2.1.size + 2) := by
      have h1 : es[i].2.1.data.toList.length = es[i].2.1.size := by rw [Array.length_toList]; rfl
      unfold lineE
      simp only [List.length_append, List.length_cons, List.length_nil, h1]
    simp (disch := omega) only [↓stq, amv_at, vls, inf, frs, mark_eq, ↓reduceIte, Nat.reduceEqDiff, ite_tt, ite_ff, eq_self, and_true, true_and, and_self, implies_true, Bool.true_eq_false, Bool.false_eq_true, decide_true, decide_false, decide_eq_true_eq, decide_eq_false_iff_not, ne_eq, not_true_eq_false, not_false_eq_true, Bool.not_eq_true', Bool.not_eq_false', beq_self_eq_true, Bool.not_true, Bool.not_false, List.getElem?_toArray, List.getElem?_cons_zero, List.getElem?_cons_succ, h3, h6, h7, h8, hcl]
    refine led_alloc zc56 l fun q5 V _ l => ?_
    simp (disch := omega) only [↓stq, amv_at, vls, inf, frs, mark_eq, ↓reduceIte, Nat.reduceEqDiff, ite_tt, ite_ff, eq_self, and_true, true_and, and_self, implies_true, Bool.true_eq_false, Bool.false_eq_true, decide_true, decide_false, decide_eq_true_eq, decide_eq_false_iff_not, ne_eq, not_true_eq_false, not_false_eq_true, Bool.not_eq_true', Bool.not_eq_false', beq_self_eq_true, Bool.not_true, Bool.not_false, List.getElem?_toArray, List.getElem?_cons_zero, List.getElem?_cons_succ, h3, h6, h7, h8]
    refine led_storeAll l 0 rfl sz56 rfl rfl (by simp [Value.oneCell']) fun V l => ?_
    have m0 := l.cell (i := 0) rfl (o := 0) rfl rfl
    have m1 := l.cell (i := 0) rfl (o := 1) rfl rfl
    have hN : (⟨#[10]⟩ : ByteArray).size = 1 := rfl
    have hend : ∀ (w : ByteArray) (fp' : List Nat) (W : View), (wordE es[i].1).data.toList ++ [32] = w.data.toList → evOk es[i] = true → Led A (wb q fp' (textE (es.take i) ++ w.data.toList ++ (es[i].2.1 ++ ⟨#[10]⟩).data.toList) :: [bx q5 ⟨56, [.int .i64 es[i].1, .string es[i].2.1], 2, true⟩]) W → Led A [wb q fp' (textE (es.take (i + 1)))] W ∧ (es.take (i + 1)).all evOk = true := by
      intro w fp' W hw hev l
      refine ⟨?_, by rw [hok, hev]⟩
      have e : textE (es.take i) ++ w.data.toList ++ (es[i].2.1 ++ ⟨#[10]⟩).data.toList = textE (es.take (i + 1)) := by
        rw [hnx, ← hw]
        unfold lineE
        simp
      rw [e] at l
      exact l.sub (.cons_cons _ (List.nil_sublist _))
    by_cases k0 : es[i].1 = 0
    · have g0 : (es[i].1 = 0) = decide (((0 : Int)) = 0) := by rw [k0]; simp
      have g1 : (es[i].1 = 1) = decide (((0 : Int)) = 1) := by rw [k0]; simp
      have g2 : (es[i].1 = 2) = decide (((0 : Int)) = 2) := by rw [k0]; simp
      have hwl : ((⟨#[117, 112, 32]⟩ : ByteArray)).size = (wordE es[i].1).data.toList.length + 1 := by rw [k0]; rfl
      have hwe : (wordE es[i].1).data.toList ++ [32] = (⟨#[117, 112, 32]⟩ : ByteArray).data.toList := by rw [k0]; rfl
      have hdl : (⟨#[117, 112, 32]⟩ : ByteArray).data.toList.length = (wordE es[i].1).data.toList.length + 1 := hwl
      simp (disch := omega) only [↓stq, amv_at, vls, inf, frs, mark_eq, ↓reduceIte, Nat.reduceEqDiff, ite_tt, ite_ff, eq_self, and_true, true_and, and_self, implies_true, Bool.true_eq_false, Bool.false_eq_true, decide_true, decide_false, decide_eq_true_eq, decide_eq_false_iff_not, ne_eq, not_true_eq_false, not_false_eq_true, Bool.not_eq_true', Bool.not_eq_false', beq_self_eq_true, Bool.not_true, Bool.not_false, List.getElem?_toArray, List.getElem?_cons_zero, List.getElem?_cons_succ, h3, h6, h7, h8, add_at, m0, m1, g0, g1, g2, Int.reduceEq]
      refine (impl_nameOk_c V _ z2).mono ?_
      rintro _ V ⟨rfl, rfl⟩
      cases hn : nmOk es[i].2.1 with
      | false =>
        simp (disch := omega) only [↓stq, amv_at, vls, inf, frs, mark_eq, ↓reduceIte, Nat.reduceEqDiff, ite_tt, ite_ff, eq_self, and_true, true_and, and_self, implies_true, Bool.true_eq_false, Bool.false_eq_true, decide_true, decide_false, decide_eq_true_eq, decide_eq_false_iff_not, ne_eq, not_true_eq_false, not_false_eq_true, Bool.not_eq_true', Bool.not_eq_false', beq_self_eq_true, Bool.not_true, Bool.not_false, List.getElem?_toArray, List.getElem?_cons_zero, List.getElem?_cons_succ, h3, h6, h7, h8, add_at, m0, g0, g1, g2, Int.reduceEq]
        rw [hno (by unfold evOk; simp [k0, hn])]
        exact ⟨rfl, l.ext⟩
      | true =>
        simp (disch := omega) only [↓stq, amv_at, vls, inf, frs, mark_eq, ↓reduceIte, Nat.reduceEqDiff, ite_tt, ite_ff, eq_self, and_true, true_and, and_self, implies_true, Bool.true_eq_false, Bool.false_eq_true, decide_true, decide_false, decide_eq_true_eq, decide_eq_false_iff_not, ne_eq, not_true_eq_false, not_false_eq_true, Bool.not_eq_true', Bool.not_eq_false', beq_self_eq_true, Bool.not_true, Bool.not_false, List.getElem?_toArray, List.getElem?_cons_zero, List.getElem?_cons_succ, h3, h6, h7, h8]
        replace l := l.perm (List.Perm.swap ..)
        refine (writeString_c A V _ q fp _ _ (by omega) l).mono ?_
        rintro _ V ⟨rfl, fp2, l⟩
        have m1 := l.cell (i := 1) rfl (o := 1) rfl rfl
        simp (disch := omega) only [↓stq, amv_at, vls, inf, frs, mark_eq, ↓reduceIte, Nat.reduceEqDiff, ite_tt, ite_ff, eq_self, and_true, true_and, and_self, implies_true, Bool.true_eq_false, Bool.false_eq_true, decide_true, decide_false, decide_eq_true_eq, decide_eq_false_iff_not, ne_eq, not_true_eq_false, not_false_eq_true, Bool.not_eq_true', Bool.not_eq_false', beq_self_eq_true, Bool.not_true, Bool.not_false, List.getElem?_toArray, List.getElem?_cons_zero, List.getElem?_cons_succ, h3, h6, h7, h8, add_at, m1, hN]
        refine (writeString_c A V _ q fp2 _ _ (by rw [List.length_append, hdl, ByteArray.size_append, hN]; omega) l).mono ?_
        rintro _ V ⟨rfl, fp3, l⟩
        simp (disch := omega) only [↓stq, amv_at, vls, inf, frs, mark_eq, ↓reduceIte, Nat.reduceEqDiff, ite_tt, ite_ff, eq_self, and_true, true_and, and_self, implies_true, Bool.true_eq_false, Bool.false_eq_true, decide_true, decide_false, decide_eq_true_eq, decide_eq_false_iff_not, ne_eq, not_true_eq_false, not_false_eq_true, Bool.not_eq_true', Bool.not_eq_false', beq_self_eq_true, Bool.not_true, Bool.not_false, List.getElem?_toArray, List.getElem?_cons_zero, List.getElem?_cons_succ, h3, h6, h7, h8]
        obtain ⟨l1, l2⟩ := hend _ _ _ hwe (by unfold evOk; simp [k0, hn]) l
        exact ⟨_, by omega, i + 1, fp3, by omega, rfl, l1, l2, rfl⟩
    by_cases k1 : es[i].1 = 1
    · have g0 : (es[i].1 = 0) = decide (((1 : Int)) = 0) := by rw [k1]; simp
      have g1 : (es[i].1 = 1) = decide (((1 : Int)) = 1) := by rw [k1]; simp
      have g2 : (es[i].1 = 2) = decide (((1 : Int)) = 2) := by rw [k1]; simp
      have hwl : ((⟨#[100, 111, 119, 110, 32]⟩ : ByteArray)).size = (wordE es[i].1).data.toList.length + 1 := by rw [k1]; rfl
      have hwe : (wordE es[i].1).data.toList ++ [32] = (⟨#[100, 111, 119, 110, 32]⟩ : ByteArray).data.toList := by rw [k1]; rfl
      have hdl : (⟨#[100, 111, 119, 110, 32]⟩ : ByteArray).data.toList.length = (wordE es[i].1).data.toList.length + 1 := hwl
      simp (disch := omega) only [↓stq, amv_at, vls, inf, frs, mark_eq, ↓reduceIte, Nat.reduceEqDiff, ite_tt, ite_ff, eq_self, and_true, true_and, and_self, implies_true, Bool.true_eq_false, Bool.false_eq_true, decide_true, decide_false, decide_eq_true_eq, decide_eq_false_iff_not, ne_eq, not_true_eq_false, not_false_eq_true, Bool.not_eq_true', Bool.not_eq_false', beq_self_eq_true, Bool.not_true, Bool.not_false, List.getElem?_toArray, List.getElem?_cons_zero, List.getElem?_cons_succ, h3, h6, h7, h8, add_at, m0, m1, g0, g1, g2, Int.reduceEq]
      refine (impl_nameOk_c V _ z2).mono ?_
      rintro _ V ⟨rfl, rfl⟩
      cases hn : nmOk es[i].2.1 with
      | false =>
        simp (disch := omega) only [↓stq, amv_at, vls, inf, frs, mark_eq, ↓reduceIte, Nat.reduceEqDiff, ite_tt, ite_ff, eq_self, and_true, true_and, and_self, implies_true, Bool.true_eq_false, Bool.false_eq_true, decide_true, decide_false, decide_eq_true_eq, decide_eq_false_iff_not, ne_eq, not_true_eq_false, not_false_eq_true, Bool.not_eq_true', Bool.not_eq_false', beq_self_eq_true, Bool.not_true, Bool.not_false, List.getElem?_toArray, List.getElem?_cons_zero, List.getElem?_cons_succ, h3, h6, h7, h8, add_at, m0, g0, g1, g2, Int.reduceEq]
        rw [hno (by unfold evOk; simp [k1, hn])]
        exact ⟨rfl, l.ext⟩
      | true =>
        simp (disch := omega) only [↓stq, amv_at, vls, inf, frs, mark_eq, ↓reduceIte, Nat.reduceEqDiff, ite_tt, ite_ff, eq_self, and_true, true_and, and_self, implies_true, Bool.true_eq_false, Bool.false_eq_true, decide_true, decide_false, decide_eq_true_eq, decide_eq_false_iff_not, ne_eq, not_true_eq_false, not_false_eq_true, Bool.not_eq_true', Bool.not_eq_false', beq_self_eq_true, Bool.not_true, Bool.not_false, List.getElem?_toArray, List.getElem?_cons_zero, List.getElem?_cons_succ, h3, h6, h7, h8]
        replace l := l.perm (List.Perm.swap ..)
        refine (writeString_c A V _ q fp _ _ (by omega) l).mono ?_
        rintro _ V ⟨rfl, fp2, l⟩
        have m1 := l.cell (i := 1) rfl (o := 1) rfl rfl
        simp (disch := omega) only [↓stq, amv_at, vls, inf, frs, mark_eq, ↓reduceIte, Nat.reduceEqDiff, ite_tt, ite_ff, eq_self, and_true, true_and, and_self, implies_true, Bool.true_eq_false, Bool.false_eq_true, decide_true, decide_false, decide_eq_true_eq, decide_eq_false_iff_not, ne_eq, not_true_eq_false, not_false_eq_true, Bool.not_eq_true', Bool.not_eq_false', beq_self_eq_true, Bool.not_true, Bool.not_false, List.getElem?_toArray, List.getElem?_cons_zero, List.getElem?_cons_succ, h3, h6, h7, h8, add_at, m1, hN]
        refine (writeString_c A V _ q fp2 _ _ (by rw [List.length_append, hdl, ByteArray.size_append, hN]; omega) l).mono ?_
        rintro _ V ⟨rfl, fp3, l⟩
        simp (disch := omega) only [↓stq, amv_at, vls, inf, frs, mark_eq, ↓reduceIte, Nat.reduceEqDiff, ite_tt, ite_ff, eq_self, and_true, true_and, and_self, implies_true, Bool.true_eq_false, Bool.false_eq_true, decide_true, decide_false, decide_eq_true_eq, decide_eq_false_iff_not, ne_eq, not_true_eq_false, not_false_eq_true, Bool.not_eq_true', Bool.not_eq_false', beq_self_eq_true, Bool.not_true, Bool.not_false, List.getElem?_toArray, List.getElem?_cons_zero, List.getElem?_cons_succ, h3, h6, h7, h8]
        obtain ⟨l1, l2⟩ := hend _ _ _ hwe (by unfold evOk; simp [k1, hn]) l
        exact ⟨_, by omega, i + 1, fp3, by omega, rfl, l1, l2, rfl⟩
    by_cases k2 : es[i].1 = 2
    · have g0 : (es[i].1 = 0) = decide (((2 : Int)) = 0) := by rw [k2]; simp
      have g1 : (es[i].1 = 1) = decide (((2 : Int)) = 1) := by rw [k2]; simp
      have g2 : (es[i].1 = 2) = decide (((2 : Int)) = 2) := by rw [k2]; simp
      have hwl : ((⟨#[116, 101, 115, 116, 32]⟩ : ByteArray)).size = (wordE es[i].1).data.toList.length + 1 := by rw [k2]; rfl
      have hwe : (wordE es[i].1).data.toList ++ [32] = (⟨#[116, 101, 115, 116, 32]⟩ : ByteArray).data.toList := by rw [k2]; rfl
      have hdl : (⟨#[116, 101, 115, 116, 32]⟩ : ByteArray).data.toList.length = (wordE es[i].1).data.toList.length + 1 := hwl
      simp (disch := omega) only [↓stq, amv_at, vls, inf, frs, mark_eq, ↓reduceIte, Nat.reduceEqDiff, ite_tt, ite_ff, eq_self, and_true, true_and, and_self, implies_true, Bool.true_eq_false, Bool.false_eq_true, decide_true, decide_false, decide_eq_true_eq, decide_eq_false_iff_not, ne_eq, not_true_eq_false, not_false_eq_true, Bool.not_eq_true', Bool.not_eq_false', beq_self_eq_true, Bool.not_true, Bool.not_false, List.getElem?_toArray, List.getElem?_cons_zero, List.getElem?_cons_succ, h3, h6, h7, h8, add_at, m0, m1, g0, g1, g2, Int.reduceEq]
      refine (impl_idOk_c V _ z2).mono ?_
      rintro _ V ⟨rfl, rfl⟩
      cases hn : idB es[i].2.1 with
      | false =>
        simp (disch := omega) only [↓stq, amv_at, vls, inf, frs, mark_eq, ↓reduceIte, Nat.reduceEqDiff, ite_tt, ite_ff, eq_self, and_true, true_and, and_self, implies_true, Bool.true_eq_false, Bool.false_eq_true, decide_true, decide_false, decide_eq_true_eq, decide_eq_false_iff_not, ne_eq, not_true_eq_false, not_false_eq_true, Bool.not_eq_true', Bool.not_eq_false', beq_self_eq_true, Bool.not_true, Bool.not_false, List.getElem?_toArray, List.getElem?_cons_zero, List.getElem?_cons_succ, h3, h6, h7, h8, add_at, m0, g0, g1, g2, Int.reduceEq]
        rw [hno (by unfold evOk; simp [k2, hn])]
        exact ⟨rfl, l.ext⟩
      | true =>
        simp (disch := omega) only [↓stq, amv_at, vls, inf, frs, mark_eq, ↓reduceIte, Nat.reduceEqDiff, ite_tt, ite_ff, eq_self, and_true, true_and, and_self, implies_true, Bool.true_eq_false, Bool.false_eq_true, decide_true, decide_false, decide_eq_true_eq, decide_eq_false_iff_not, ne_eq, not_true_eq_false, not_false_eq_true, Bool.not_eq_true', Bool.not_eq_false', beq_self_eq_true, Bool.not_true, Bool.not_false, List.getElem?_toArray, List.getElem?_cons_zero, List.getElem?_cons_succ, h3, h6, h7, h8]
        replace l := l.perm (List.Perm.swap ..)
        refine (writeString_c A V _ q fp _ _ (by omega) l).mono ?_
        rintro _ V ⟨rfl, fp2, l⟩
        have m1 := l.cell (i := 1) rfl (o := 1) rfl rfl
        simp (disch := omega) only [↓stq, amv_at, vls, inf, frs, mark_eq, ↓reduceIte, Nat.reduceEqDiff, ite_tt, ite_ff, eq_self, and_true, true_and, and_self, implies_true, Bool.true_eq_false, Bool.false_eq_true, decide_true, decide_false, decide_eq_true_eq, decide_eq_false_iff_not, ne_eq, not_true_eq_false, not_false_eq_true, Bool.not_eq_true', Bool.not_eq_false', beq_self_eq_true, Bool.not_true, Bool.not_false, List.getElem?_toArray, List.getElem?_cons_zero, List.getElem?_cons_succ, h3, h6, h7, h8, add_at, m1, hN]
        refine (writeString_c A V _ q fp2 _ _ (by rw [List.length_append, hdl, ByteArray.size_append, hN]; omega) l).mono ?_
        rintro _ V ⟨rfl, fp3, l⟩
        simp (disch := omega) only [↓stq, amv_at, vls, inf, frs, mark_eq, ↓reduceIte, Nat.reduceEqDiff, ite_tt, ite_ff, eq_self, and_true, true_and, and_self, implies_true, Bool.true_eq_false, Bool.false_eq_true, decide_true, decide_false, decide_eq_true_eq, decide_eq_false_iff_not, ne_eq, not_true_eq_false, not_false_eq_true, Bool.not_eq_true', Bool.not_eq_false', beq_self_eq_true, Bool.not_true, Bool.not_false, List.getElem?_toArray, List.getElem?_cons_zero, List.getElem?_cons_succ, h3, h6, h7, h8]
        obtain ⟨l1, l2⟩ := hend _ _ _ hwe (by unfold evOk; simp [k2, hn]) l
        exact ⟨_, by omega, i + 1, fp3, by omega, rfl, l1, l2, rfl⟩
    simp (disch := omega) only [↓stq, amv_at, vls, inf, frs, mark_eq, ↓reduceIte, Nat.reduceEqDiff, ite_tt, ite_ff, eq_self, and_true, true_and, and_self, implies_true, Bool.true_eq_false, Bool.false_eq_true, decide_true, decide_false, decide_eq_true_eq, decide_eq_false_iff_not, ne_eq, not_true_eq_false, not_false_eq_true, Bool.not_eq_true', Bool.not_eq_false', beq_self_eq_true, Bool.not_true, Bool.not_false, List.getElem?_toArray, List.getElem?_cons_zero, List.getElem?_cons_succ, h3, h6, h7, h8, add_at, m0, eq_false k0, eq_false k1, eq_false k2]
    rw [hno (by unfold evOk; simp [k0, k1, k2])]
    exact ⟨rfl, l.ext⟩
  · simp (disch := omega) only [↓stq, amv_at, vls, inf, frs, mark_eq, ↓reduceIte, Nat.reduceEqDiff, ite_tt, ite_ff, eq_self, and_true, true_and, and_self, implies_true, Bool.true_eq_false, Bool.false_eq_true, decide_true, decide_false, decide_eq_true_eq, decide_eq_false_iff_not, ne_eq, not_true_eq_false, not_false_eq_true, Bool.not_eq_true', Bool.not_eq_false', beq_self_eq_true, Bool.not_true, Bool.not_false, List.getElem?_toArray, List.getElem?_cons_zero, List.getElem?_cons_succ, h3, h6, h7, h8]
    have hie : i = es.length := by omega
    subst hie
    rw [List.take_length] at hall l
    refine (string_c A V _ q fp _ (by omega) l).mono ?_
    rintro _ V ⟨rfl, l⟩
    simp (disch := omega) only [↓stq, amv_at, vls, inf, frs, mark_eq, ↓reduceIte, Nat.reduceEqDiff, ite_tt, ite_ff, eq_self, and_true, true_and, and_self, implies_true, Bool.true_eq_false, Bool.false_eq_true, decide_true, decide_false, decide_eq_true_eq, decide_eq_false_iff_not, ne_eq, not_true_eq_false, not_false_eq_true, Bool.not_eq_true', Bool.not_eq_false', beq_self_eq_true, Bool.not_true, Bool.not_false, List.getElem?_toArray, List.getElem?_cons_zero, List.getElem?_cons_succ, h3, h6, h7, h8]
    rw [planB_yes hall]
    exact ⟨rfl, l.ext⟩

theorem spec_validEvent_c (A : View) (e : EventD) (z2 : e.2.1.size ≤ 140737488355328) : ACalls Try.prog 29 #[.agg #[.int .i64 e.1, .string e.2.1]] A fun r V => r = .bool (evOk e) ∧ Ext A V := by
  refine acalls Try.func29 rfl (by kernel_rfl) ?_
  simp (disch := omega) only [↓stq, amv_at, vls, inf, frs, mark_eq, ↓reduceIte, Nat.reduceEqDiff, ite_tt, ite_ff, eq_self, and_true, true_and, and_self, implies_true, Bool.true_eq_false, Bool.false_eq_true, decide_true, decide_false, decide_eq_true_eq, decide_eq_false_iff_not, ne_eq, not_true_eq_false, not_false_eq_true, Bool.not_eq_true', Bool.not_eq_false', beq_self_eq_true, Bool.not_true, Bool.not_false, List.getElem?_toArray, List.getElem?_cons_zero, List.getElem?_cons_succ]
  refine led_box (cs := [.int .i64 e.1, .string e.2.1]) (Led.nil A) rfl fun q V _ l => ?_
  have m0 := l.cell (i := 0) rfl (o := 0) rfl rfl
  have m1 := l.cell (i := 0) rfl (o := 1) rfl rfl
  by_cases k0 : e.1 = 0
  · simp (disch := omega) only [↓stq, amv_at, vls, inf, frs, mark_eq, ↓reduceIte, Nat.reduceEqDiff, ite_tt, ite_ff, eq_self, and_true, true_and, and_self, implies_true, Bool.true_eq_false, Bool.false_eq_true, decide_true, decide_false, decide_eq_true_eq, decide_eq_false_iff_not, ne_eq, not_true_eq_false, not_false_eq_true, Bool.not_eq_true', Bool.not_eq_false', beq_self_eq_true, Bool.not_true, Bool.not_false, List.getElem?_toArray, List.getElem?_cons_zero, List.getElem?_cons_succ, add_at, m0, m1, eq_true k0]
    refine (spec_validName_c V _ z2).mono ?_
    rintro _ V ⟨rfl, rfl⟩
    simp (disch := omega) only [↓stq, amv_at, vls, inf, frs, mark_eq, ↓reduceIte, Nat.reduceEqDiff, ite_tt, ite_ff, eq_self, and_true, true_and, and_self, implies_true, Bool.true_eq_false, Bool.false_eq_true, decide_true, decide_false, decide_eq_true_eq, decide_eq_false_iff_not, ne_eq, not_true_eq_false, not_false_eq_true, Bool.not_eq_true', Bool.not_eq_false', beq_self_eq_true, Bool.not_true, Bool.not_false, List.getElem?_toArray, List.getElem?_cons_zero, List.getElem?_cons_succ]
    exact ⟨by unfold evOk; simp [k0], l.ext⟩
  by_cases k1 : e.1 = 1
  · simp (disch := omega) only [↓stq, amv_at, vls, inf, frs, mark_eq, ↓reduceIte, Nat.reduceEqDiff, ite_tt, ite_ff, eq_self, and_true, true_and, and_self, implies_true, Bool.true_eq_false, Bool.false_eq_true, decide_true, decide_false, decide_eq_true_eq, decide_eq_false_iff_not, ne_eq, not_true_eq_false, not_false_eq_true, Bool.not_eq_true', Bool.not_eq_false', beq_self_eq_true, Bool.not_true, Bool.not_false, List.getElem?_toArray, List.getElem?_cons_zero, List.getElem?_cons_succ, add_at, m0, m1, eq_false k0, eq_true k1]
    refine (spec_validName_c V _ z2).mono ?_
    rintro _ V ⟨rfl, rfl⟩
    simp (disch := omega) only [↓stq, amv_at, vls, inf, frs, mark_eq, ↓reduceIte, Nat.reduceEqDiff, ite_tt, ite_ff, eq_self, and_true, true_and, and_self, implies_true, Bool.true_eq_false, Bool.false_eq_true, decide_true, decide_false, decide_eq_true_eq, decide_eq_false_iff_not, ne_eq, not_true_eq_false, not_false_eq_true, Bool.not_eq_true', Bool.not_eq_false', beq_self_eq_true, Bool.not_true, Bool.not_false, List.getElem?_toArray, List.getElem?_cons_zero, List.getElem?_cons_succ]
    exact ⟨by unfold evOk; simp [k1], l.ext⟩
  by_cases k2 : e.1 = 2
  · simp (disch := omega) only [↓stq, amv_at, vls, inf, frs, mark_eq, ↓reduceIte, Nat.reduceEqDiff, ite_tt, ite_ff, eq_self, and_true, true_and, and_self, implies_true, Bool.true_eq_false, Bool.false_eq_true, decide_true, decide_false, decide_eq_true_eq, decide_eq_false_iff_not, ne_eq, not_true_eq_false, not_false_eq_true, Bool.not_eq_true', Bool.not_eq_false', beq_self_eq_true, Bool.not_true, Bool.not_false, List.getElem?_toArray, List.getElem?_cons_zero, List.getElem?_cons_succ, add_at, m0, m1, eq_false k0, eq_false k1, eq_true k2]
    refine (spec_validId_c V _ z2).mono ?_
    rintro _ V ⟨rfl, rfl⟩
    simp (disch := omega) only [↓stq, amv_at, vls, inf, frs, mark_eq, ↓reduceIte, Nat.reduceEqDiff, ite_tt, ite_ff, eq_self, and_true, true_and, and_self, implies_true, Bool.true_eq_false, Bool.false_eq_true, decide_true, decide_false, decide_eq_true_eq, decide_eq_false_iff_not, ne_eq, not_true_eq_false, not_false_eq_true, Bool.not_eq_true', Bool.not_eq_false', beq_self_eq_true, Bool.not_true, Bool.not_false, List.getElem?_toArray, List.getElem?_cons_zero, List.getElem?_cons_succ]
    exact ⟨by unfold evOk; simp [k2], l.ext⟩
  simp (disch := omega) only [↓stq, amv_at, vls, inf, frs, mark_eq, ↓reduceIte, Nat.reduceEqDiff, ite_tt, ite_ff, eq_self, and_true, true_and, and_self, implies_true, Bool.true_eq_false, Bool.false_eq_true, decide_true, decide_false, decide_eq_true_eq, decide_eq_false_iff_not, ne_eq, not_true_eq_false, not_false_eq_true, Bool.not_eq_true', Bool.not_eq_false', beq_self_eq_true, Bool.not_true, Bool.not_false, List.getElem?_toArray, List.getElem?_cons_zero, List.getElem?_cons_succ, add_at, m0, m1, eq_false k0, eq_false k1, eq_false k2]
  exact ⟨by unfold evOk; simp [k0, k1, k2], l.ext⟩

theorem spec_eventWords_c (A : View) : ACalls Try.prog 28 #[] A fun r V => ∃ b, r = .slice (some ⟨b, 0, none⟩) 3 3 ∧ Led A [bx b ⟨9, [.string (wordE 0), .string (wordE 1), .string (wordE 2)], 3, true⟩] V := by
  refine acalls Try.func28 rfl (by kernel_rfl) ?_
  simp (disch := omega) only [↓stq, amv_at, vls, inf, frs, mark_eq, ↓reduceIte, Nat.reduceEqDiff, ite_tt, ite_ff, eq_self, and_true, true_and, and_self, implies_true, Bool.true_eq_false, Bool.false_eq_true, decide_true, decide_false, decide_eq_true_eq, decide_eq_false_iff_not, ne_eq, not_true_eq_false, not_false_eq_true, Bool.not_eq_true', Bool.not_eq_false', beq_self_eq_true, Bool.not_true, Bool.not_false, List.getElem?_toArray, List.getElem?_cons_zero, List.getElem?_cons_succ]
  refine led_lit li54 (by omega) rfl (by simp [Value.cells, Value.oneCell']) (Led.nil A) fun b V _ l => ?_
  simp (disch := omega) only [↓stq, amv_at, vls, inf, frs, mark_eq, ↓reduceIte, Nat.reduceEqDiff, ite_tt, ite_ff, eq_self, and_true, true_and, and_self, implies_true, Bool.true_eq_false, Bool.false_eq_true, decide_true, decide_false, decide_eq_true_eq, decide_eq_false_iff_not, ne_eq, not_true_eq_false, not_false_eq_true, Bool.not_eq_true', Bool.not_eq_false', beq_self_eq_true, Bool.not_true, Bool.not_false, List.getElem?_toArray, List.getElem?_cons_zero, List.getElem?_cons_succ]
  exact ⟨b, rfl, l⟩

theorem evOk_kind {e : EventD} (h : evOk e = true) : e.1 = 0 ∨ e.1 = 1 ∨ e.1 = 2 := by
  unfold evOk at h
  simp at h
  omega

theorem spec_PlanText_c (A : View) (v : Value) (es : List EventD) (h : Sl eventS A v es) (hsm : (textE es).length ≤ 1048576) : ACalls Try.prog 12 #[v] A fun r V => r = .string (planB es) ∧ Ext A V := by
  obtain ⟨a, c, rfl, _, _⟩ := h.slice
  refine acalls Try.func12 rfl (by kernel_rfl) ?_
  simp (disch := omega) only [↓stq, amv_at, vls, inf, frs, mark_eq, ↓reduceIte, Nat.reduceEqDiff, ite_tt, ite_ff, eq_self, and_true, true_and, and_self, implies_true, Bool.true_eq_false, Bool.false_eq_true, decide_true, decide_false, decide_eq_true_eq, decide_eq_false_iff_not, ne_eq, not_true_eq_false, not_false_eq_true, Bool.not_eq_true', Bool.not_eq_false', beq_self_eq_true, Bool.not_true, Bool.not_false, List.getElem?_toArray, List.getElem?_cons_zero, List.getElem?_cons_succ]
  refine aloop (fun d fr V => ∃ (i : Nat), i ≤ es.length ∧ d = es.length - i ∧ Ext A V ∧ (es.take i).all evOk = true ∧ fr 0 = .slice a es.length c ∧ fr 3 = .string ⟨(textE (es.take i)).toArray⟩ ∧ fr 4 = .int .i64 i) es.length ⟨0, by omega, by omega, Ext.refl _, rfl, by rfl, by rfl, by rfl⟩ ?_
  rintro d fr V ⟨i, hi, rfl, he, hall, h0, h3, h4⟩
  simp (disch := omega) only [↓stq, amv_at, vls, inf, frs, mark_eq, ↓reduceIte, Nat.reduceEqDiff, ite_tt, ite_ff, eq_self, and_true, true_and, and_self, implies_true, Bool.true_eq_false, Bool.false_eq_true, decide_true, decide_false, decide_eq_true_eq, decide_eq_false_iff_not, ne_eq, not_true_eq_false, not_false_eq_true, Bool.not_eq_true', Bool.not_eq_false', beq_self_eq_true, Bool.not_true, Bool.not_false, List.getElem?_toArray, List.getElem?_cons_zero, List.getElem?_cons_succ, h0, h3, h4]
  refine ⟨fun e1 => ?_, fun e1 => ?_⟩
  · have hlt : i < es.length := by omega
    obtain ⟨ad, rfl, hclA, z1, z2⟩ := h.event hlt
    have hcl := he.part hclA
    have hnx := textE_take hlt
    have hle := textE_le es (i + 1)
    have hle0 := textE_le es i
    have hok := evOk_take hlt hall
    have hno := planB_no hlt
    simp (disch := omega) only [↓stq, amv_at, vls, inf, frs, mark_eq, ↓reduceIte, Nat.reduceEqDiff, ite_tt, ite_ff, eq_self, and_true, true_and, and_self, implies_true, Bool.true_eq_false, Bool.false_eq_true, decide_true, decide_false, decide_eq_true_eq, decide_eq_false_iff_not, ne_eq, not_true_eq_false, not_false_eq_true, Bool.not_eq_true', Bool.not_eq_false', beq_self_eq_true, Bool.not_true, Bool.not_false, List.getElem?_toArray, List.getElem?_cons_zero, List.getElem?_cons_succ, h0, h3, h4, hcl]
    refine (spec_validEvent_c V _ z2).mono ?_
    rintro _ V2 ⟨rfl, he2⟩
    cases hev : evOk es[i] with
    | false =>
      simp (disch := omega) only [↓stq, amv_at, vls, inf, frs, mark_eq, ↓reduceIte, Nat.reduceEqDiff, ite_tt, ite_ff, eq_self, and_true, true_and, and_self, implies_true, Bool.true_eq_false, Bool.false_eq_true, decide_true, decide_false, decide_eq_true_eq, decide_eq_false_iff_not, ne_eq, not_true_eq_false, not_false_eq_true, Bool.not_eq_true', Bool.not_eq_false', beq_self_eq_true, Bool.not_true, Bool.not_false, List.getElem?_toArray, List.getElem?_cons_zero, List.getElem?_cons_succ, h0, h3, h4]
      rw [hno hev]
      exact ⟨rfl, he.trans he2⟩
    | true =>
      simp (disch := omega) only [↓stq, amv_at, vls, inf, frs, mark_eq, ↓reduceIte, Nat.reduceEqDiff, ite_tt, ite_ff, eq_self, and_true, true_and, and_self, implies_true, Bool.true_eq_false, Bool.false_eq_true, decide_true, decide_false, decide_eq_true_eq, decide_eq_false_iff_not, ne_eq, not_true_eq_false, not_false_eq_true, Bool.not_eq_true', Bool.not_eq_false', beq_self_eq_true, Bool.not_true, Bool.not_false, List.getElem?_toArray, List.getElem?_cons_zero, List.getElem?_cons_succ, h0, h3, h4]
      refine adraw_items [.q 0, .q 2, .q 3, .q 4, .q 5, .l 6 true, .q 11, .q 12, .q 13, .q 14, .l 15 true, .c 1 [6, 15], .q 7, .l 8 false, .q 9, .q 10, .q 16, .q 17, .q 18] (by kernel_rfl) (by kernel_rfl) ?_
      have hcl := he2.part hcl
      have c0 := View.part_cell hcl (j := 0) rfl
      have c1 := View.part_cell hcl (j := 1) rfl
      have hN : (⟨#[10]⟩ : ByteArray).size = 1 := rfl
      have hP : (⟨#[32]⟩ : ByteArray).size = 1 := rfl
      have hS : (⟨(textE (es.take i)).toArray⟩ : ByteArray).size = (textE (es.take i)).length := by
        show (textE (es.take i)).toArray.size = _
        simp
      simp (disch := omega) only [↓stq, amv_at, ↓pln, plv, nilOk, Nat.reduceBEq, Bool.or_false, Bool.or_true, Bool.false_or, Bool.true_or, vls, inf, frs, mark_eq, ↓reduceIte, Nat.reduceEqDiff, ite_tt, ite_ff, eq_self, and_true, true_and, and_self, implies_true, Bool.true_eq_false, Bool.false_eq_true, decide_true, decide_false, decide_eq_true_eq, decide_eq_false_iff_not, ne_eq, not_true_eq_false, not_false_eq_true, Bool.not_eq_true', Bool.not_eq_false', beq_self_eq_true, Bool.not_true, Bool.not_false, List.getElem?_toArray, List.getElem?_cons_zero, List.getElem?_cons_succ, h0, h3, h4, c0, c1]
      refine (spec_eventWords_c V2).mono ?_
      rintro _ V3 ⟨b, rfl, l⟩
      have c0 := l.ext.cell c0
      have c1 := l.ext.cell c1
      by_cases k0 : es[i].1 = 0
      · have w := l.cell (i := 0) rfl (o := 0) rfl rfl
        have hW : (wordE 0).size ≤ 4 := wordE_len 0
        have e4 : es[i].1.toNat = 0 := by rw [k0]; rfl
        have s1 := ByteArray.size_append (a := ⟨(textE (es.take i)).toArray⟩) (b := wordE 0)
        have s2 := ByteArray.size_append (a := ⟨(textE (es.take i)).toArray⟩ ++ wordE 0) (b := ⟨#[32]⟩)
        have s3 := ByteArray.size_append (a := ⟨(textE (es.take i)).toArray⟩ ++ wordE 0 ++ ⟨#[32]⟩) (b := es[i].2.1)
        simp (disch := omega) only [↓stq, amv_at, ↓pln, plv, nilOk, Nat.reduceBEq, Bool.or_false, Bool.or_true, Bool.false_or, Bool.true_or, vls, inf, frs, mark_eq, ↓reduceIte, Nat.reduceEqDiff, ite_tt, ite_ff, eq_self, and_true, true_and, and_self, implies_true, Bool.true_eq_false, Bool.false_eq_true, decide_true, decide_false, decide_eq_true_eq, decide_eq_false_iff_not, ne_eq, not_true_eq_false, not_false_eq_true, Bool.not_eq_true', Bool.not_eq_false', beq_self_eq_true, Bool.not_true, Bool.not_false, List.getElem?_toArray, List.getElem?_cons_zero, List.getElem?_cons_succ, h0, h3, h4, c0, c1, e4, add_at, w]
        refine ⟨_, by omega, i + 1, by omega, rfl, (he.trans he2).trans l.ext, by rw [hok, hev], ?_, rfl⟩
        rw [hnx]
        unfold lineE
        rw [k0]
        congr 1
        apply ByteArray.ext
        simp
      by_cases k1 : es[i].1 = 1
      · have w := l.cell (i := 0) rfl (o := 1) rfl rfl
        have hW : (wordE 1).size ≤ 4 := wordE_len 1
        have e4 : es[i].1.toNat = 1 := by rw [k1]; rfl
        have s1 := ByteArray.size_append (a := ⟨(textE (es.take i)).toArray⟩) (b := wordE 1)
        have s2 := ByteArray.size_append (a := ⟨(textE (es.take i)).toArray⟩ ++ wordE 1) (b := ⟨#[32]⟩)
        have s3 := ByteArray.size_append (a := ⟨(textE (es.take i)).toArray⟩ ++ wordE 1 ++ ⟨#[32]⟩) (b := es[i].2.1)
        simp (disch := omega) only [↓stq, amv_at, ↓pln, plv, nilOk, Nat.reduceBEq, Bool.or_false, Bool.or_true, Bool.false_or, Bool.true_or, vls, inf, frs, mark_eq, ↓reduceIte, Nat.reduceEqDiff, ite_tt, ite_ff, eq_self, and_true, true_and, and_self, implies_true, Bool.true_eq_false, Bool.false_eq_true, decide_true, decide_false, decide_eq_true_eq, decide_eq_false_iff_not, ne_eq, not_true_eq_false, not_false_eq_true, Bool.not_eq_true', Bool.not_eq_false', beq_self_eq_true, Bool.not_true, Bool.not_false, List.getElem?_toArray, List.getElem?_cons_zero, List.getElem?_cons_succ, h0, h3, h4, c0, c1, e4, add_at, w]
        refine ⟨_, by omega, i + 1, by omega, rfl, (he.trans he2).trans l.ext, by rw [hok, hev], ?_, rfl⟩
        rw [hnx]
        unfold lineE
        rw [k1]
        congr 1
        apply ByteArray.ext
        simp
      by_cases k2 : es[i].1 = 2
      · have w := l.cell (i := 0) rfl (o := 2) rfl rfl
        have hW : (wordE 2).size ≤ 4 := wordE_len 2
        have e4 : es[i].1.toNat = 2 := by rw [k2]; rfl
        have s1 := ByteArray.size_append (a := ⟨(textE (es.take i)).toArray⟩) (b := wordE 2)
        have s2 := ByteArray.size_append (a := ⟨(textE (es.take i)).toArray⟩ ++ wordE 2) (b := ⟨#[32]⟩)
        have s3 := ByteArray.size_append (a := ⟨(textE (es.take i)).toArray⟩ ++ wordE 2 ++ ⟨#[32]⟩) (b := es[i].2.1)
        simp (disch := omega) only [↓stq, amv_at, ↓pln, plv, nilOk, Nat.reduceBEq, Bool.or_false, Bool.or_true, Bool.false_or, Bool.true_or, vls, inf, frs, mark_eq, ↓reduceIte, Nat.reduceEqDiff, ite_tt, ite_ff, eq_self, and_true, true_and, and_self, implies_true, Bool.true_eq_false, Bool.false_eq_true, decide_true, decide_false, decide_eq_true_eq, decide_eq_false_iff_not, ne_eq, not_true_eq_false, not_false_eq_true, Bool.not_eq_true', Bool.not_eq_false', beq_self_eq_true, Bool.not_true, Bool.not_false, List.getElem?_toArray, List.getElem?_cons_zero, List.getElem?_cons_succ, h0, h3, h4, c0, c1, e4, add_at, w]
        refine ⟨_, by omega, i + 1, by omega, rfl, (he.trans he2).trans l.ext, by rw [hok, hev], ?_, rfl⟩
        rw [hnx]
        unfold lineE
        rw [k2]
        congr 1
        apply ByteArray.ext
        simp
      exfalso
      have := evOk_kind hev
      omega
  · simp (disch := omega) only [↓stq, amv_at, vls, inf, frs, mark_eq, ↓reduceIte, Nat.reduceEqDiff, ite_tt, ite_ff, eq_self, and_true, true_and, and_self, implies_true, Bool.true_eq_false, Bool.false_eq_true, decide_true, decide_false, decide_eq_true_eq, decide_eq_false_iff_not, ne_eq, not_true_eq_false, not_false_eq_true, Bool.not_eq_true', Bool.not_eq_false', beq_self_eq_true, Bool.not_true, Bool.not_false, List.getElem?_toArray, List.getElem?_cons_zero, List.getElem?_cons_succ, h0, h3, h4]
    have hie : i = es.length := by omega
    subst hie
    rw [List.take_length] at hall
    rw [List.take_length, planB_yes hall]
    exact ⟨rfl, he⟩

end Go.Proofs.Ytggklaimbklefaa

/- Texts of plans, parsed: plain facts. -/
set_option maxHeartbeats 4000000
set_option synthInstance.maxHeartbeats 400000
set_option synthInstance.maxSize 4096
set_option linter.unusedSimpArgs false
set_option linter.unusedVariables false
namespace Go.Proofs.Ytggklaimbklefaa

set_option maxRecDepth 100000

/-- Bytes as a text. -/
def Bt (l : List UInt8) : ByteArray := ⟨l.toArray⟩
theorem Bt_list (l : List UInt8) : (Bt l).data.toList = l := by simp [Bt]
theorem Bt_of (s : ByteArray) : Bt s.data.toList = s := by
  apply ByteArray.ext
  simp [Bt]
theorem Bt_size (l : List UInt8) : (Bt l).size = l.length := by
  show l.toArray.size = _
  simp
theorem Bt_inj {l m : List UInt8} (h : Bt l = Bt m) : l = m := by rw [← Bt_list l, h, Bt_list]
theorem Bt_app (l m : List UInt8) : Bt l ++ Bt m = Bt (l ++ m) := by
  apply ByteArray.ext
  simp [Bt]
theorem Bt_extract (l : List UInt8) (i j : Nat) : (Bt l).extract i j = Bt ((l.take j).drop i) := by
  apply ByteArray.ext
  apply Array.toList_inj.1
  show (((Bt l).extract i j).data).toList = _
  rw [ByteArray.data_extract]
  simp [Bt, List.extract_eq_take_drop, List.drop_take]

/-- What stands ahead of a byte, and behind it. -/
def tw (c : UInt8) (l : List UInt8) : List UInt8 := l.takeWhile (· != c)
def dw (c : UInt8) (l : List UInt8) : List UInt8 := (l.dropWhile (· != c)).tail
theorem tw_eq (c : UInt8) (l : List UInt8) : tw c (c :: l) = [] ∧ dw c (c :: l) = l := by simp [tw, dw]
theorem tw_ne {c x : UInt8} (h : x ≠ c) (l : List UInt8) : tw c (x :: l) = x :: tw c l ∧ dw c (x :: l) = dw c l := by
  have hb : (x != c) = true := by rw [bne_iff_ne]; exact h
  unfold tw dw
  simp only [List.takeWhile, List.dropWhile, hb, and_self]
theorem tw_none {c : UInt8} : ∀ {l : List UInt8}, c ∉ l → tw c l = l ∧ dw c l = []
  | [], _ => ⟨rfl, rfl⟩
  | x :: l, h => by
    have hx : x ≠ c := by rintro rfl; exact h (List.mem_cons_self ..)
    obtain ⟨h1, h2⟩ := tw_none (l := l) fun hm => h (List.mem_cons_of_mem _ hm)
    rw [(tw_ne hx l).1, (tw_ne hx l).2, h1, h2]
    exact ⟨rfl, rfl⟩
theorem tw_app {c : UInt8} {a : List UInt8} (b : List UInt8) (h : c ∉ a) : tw c (a ++ c :: b) = a ∧ dw c (a ++ c :: b) = b := by
  induction a with
  | nil => exact tw_eq c b
  | cons x a ih =>
    have hx : x ≠ c := by rintro rfl; exact h (List.mem_cons_self ..)
    obtain ⟨h1, h2⟩ := ih fun hm => h (List.mem_cons_of_mem _ hm)
    rw [List.cons_append, (tw_ne hx _).1, (tw_ne hx _).2, h1, h2]
    exact ⟨rfl, rfl⟩
theorem tw_split {c : UInt8} {l : List UInt8} (h : c ∈ l) : l = tw c l ++ c :: dw c l ∧ c ∉ tw c l := by
  induction l with
  | nil => cases h
  | cons x l ih =>
    by_cases hx : x = c
    · subst hx
      rw [(tw_eq x l).1, (tw_eq x l).2]
      exact ⟨rfl, by simp⟩
    · have hm : c ∈ l := by
        rcases List.mem_cons.1 h with h | h
        · exact absurd h.symm hx
        · exact h
      obtain ⟨h1, h2⟩ := ih hm
      rw [(tw_ne hx _).1, (tw_ne hx _).2]
      refine ⟨by rw [List.cons_append, ← h1], ?_⟩
      rintro hmem
      rcases List.mem_cons.1 hmem with h | h
      · exact hx h.symm
      · exact h2 h
theorem tw_parts {c : UInt8} {l : List UInt8} (h : c ∈ l) : l.take (tw c l).length = tw c l ∧ l.drop ((tw c l).length + 1) = dw c l ∧ l[(tw c l).length]? = some c := by
  obtain ⟨h3, _⟩ := tw_split h
  generalize tw c l = a at h3
  generalize dw c l = b at h3
  subst h3
  refine ⟨List.take_left' rfl, ?_, ?_⟩
  · rw [← List.drop_drop, List.drop_left' rfl]
    rfl
  · rw [List.getElem?_append_right (Nat.le_refl _), Nat.sub_self]
    rfl
theorem tw_not (c : UInt8) (l : List UInt8) : c ∉ tw c l := fun h => by
  by_cases hc : c ∈ l
  · exact (tw_split hc).2 h
  · rw [(tw_none hc).1] at h
    exact hc h
theorem tw_len (c : UInt8) (l : List UInt8) : (tw c l).length + (dw c l).length ≤ l.length ∧ (l ≠ [] → (tw c l).length + (dw c l).length + 1 ≤ l.length ∨ dw c l = [] ∧ 0 < (tw c l).length) := by
  by_cases hc : c ∈ l
  · have h := congrArg List.length (tw_split hc).1
    rw [List.length_append, List.length_cons] at h
    exact ⟨by omega, fun _ => .inl (by omega)⟩
  · obtain ⟨h1, h2⟩ := tw_none hc
    rw [h1, h2]
    refine ⟨by simp, fun h => .inr ⟨rfl, ?_⟩⟩
    exact List.length_pos_iff.2 h

theorem ixb_mem {c : UInt8} {l : List UInt8} : 0 ≤ ixb (Bt l) c → c ∈ l ∧ (ixb (Bt l) c).toNat = (tw c l).length := by
  intro h
  unfold ixb at *
  rw [Bt_list] at *
  obtain ⟨o, ho⟩ := Int.eq_ofNat_of_zero_le h
  rw [ho]
  obtain ⟨h1, h2⟩ := Go.Lib.indexByte_some ho
  have hm : c ∈ l := List.mem_of_getElem? h1
  refine ⟨hm, ?_⟩
  obtain ⟨h3, h4⟩ := tw_split hm
  show o = _
  obtain ⟨h6, _, h5⟩ := tw_parts hm
  rcases Nat.lt_trichotomy o (tw c l).length with hlt | heq | hgt
  · exfalso
    refine h4 (List.mem_of_getElem? (i := o) ?_)
    rw [← h6, List.getElem?_take, if_pos hlt]
    exact h1
  · exact heq
  · exact absurd h5 (h2 _ hgt)
theorem ixb_no {c : UInt8} {l : List UInt8} (h : ¬ 0 ≤ ixb (Bt l) c) : c ∉ l := by
  intro hm
  have hr := ixb_range (Bt l) c
  have e : ixb (Bt l) c = -1 := by omega
  unfold ixb at e
  rw [Bt_list] at e
  obtain ⟨i, hi, he⟩ := List.mem_iff_getElem.1 hm
  exact Go.Lib.indexByte_none e i (by rw [List.getElem?_eq_getElem hi, he])

theorem lib_cutL_c (A : View) (l : List UInt8) (c : UInt8) (hs : l.length ≤ 140737488355328) : ACalls Try.prog 24 #[.string (Bt l), .string ⟨#[c]⟩] A fun r A' => ∃ b, r = .tuple #[.string (Bt (tw c l)), .string (Bt (dw c l)), .bool b] ∧ A' = A := by
  refine (lib_strCut_c A (Bt l) c (by rw [Bt_size]; exact hs)).mono ?_
  rintro r V ⟨rfl, rfl⟩
  split
  · rename_i h
    obtain ⟨h1, h2⟩ := ixb_mem h
    obtain ⟨h3, h4⟩ := tw_split h1
    refine ⟨true, ?_, rfl⟩
    rw [h2, Bt_extract, Bt_extract, Bt_size, List.take_length, List.drop_zero]
    rw [(tw_parts h1).1, (tw_parts h1).2.1]
  · rename_i h
    obtain ⟨h1, h2⟩ := tw_none (ixb_no h)
    rw [h1, h2]
    exact ⟨false, rfl, rfl⟩

/-- The kind that a word tells. -/
def kindW (w : ByteArray) : Int := idxI (w == ·) [wordE 0, wordE 1, wordE 2]
theorem kindW_word {k : Int} (h : k = 0 ∨ k = 1 ∨ k = 2) : kindW (wordE k) = k := by
  rcases h with rfl | rfl | rfl <;> decide
theorem kindW_inv {w : ByteArray} (h : 0 ≤ kindW w) : w = wordE (kindW w) := by
  obtain ⟨i, h1, h2, h3, _⟩ := idxI_lt (show 0 ≤ idxI (w == ·) [wordE 0, wordE 1, wordE 2] from h)
  have hk : kindW w = i := h1
  rw [hk]
  have h3 : w = [wordE 0, wordE 1, wordE 2][i] := by simpa using h3
  match i, h2 with
  | 0, _ => exact h3
  | 1, _ => exact h3
  | 2, _ => exact h3
theorem kindW_range (w : ByteArray) : -1 ≤ kindW w ∧ kindW w ≤ 2 := by
  have h := idxI_range (w == ·) [wordE 0, wordE 1, wordE 2]
  refine ⟨h.1, ?_⟩
  by_cases h2 : [wordE 0, wordE 1, wordE 2].any (w == ·) = true
  · have := h.2 h2
    have e : ([wordE 0, wordE 1, wordE 2] : List ByteArray).length = 3 := rfl
    rw [e] at this
    show idxI (w == ·) [wordE 0, wordE 1, wordE 2] ≤ 2
    omega
  · have h3 : ¬ 0 ≤ kindW w := by
      intro h4
      exact h2 ((idxI_ge _ _).mp h4)
    omega

/-- The event that a line tells. -/
def evL (w : List UInt8) : EventD := (kindW (Bt (tw 32 w)), Bt (dw 32 w), ())
/-- The events of a text, line by line. -/
def evsF : Nat → List UInt8 → List EventD
  | 0, _ => []
  | n + 1, l => if l = [] then [] else evL (tw 10 l) :: evsF n (dw 10 l)
def evsL (l : List UInt8) : List EventD := evsF l.length l
theorem dw_lt {c : UInt8} {l : List UInt8} (h : l ≠ []) : (dw c l).length < l.length := by
  rcases (tw_len c l).2 h with h1 | ⟨h1, h2⟩
  · omega
  · rw [h1]
    exact List.length_pos_iff.2 h
theorem evsF_more : ∀ (n : Nat) (l : List UInt8), l.length ≤ n → evsF n l = evsL l
  | n, l, h => by
    induction n using Nat.strongRecOn generalizing l with
    | ind n ih =>
      unfold evsL
      cases n with
      | zero =>
        have : l = [] := List.eq_nil_of_length_eq_zero (by omega)
        subst this
        rfl
      | succ n =>
        by_cases hl : l = []
        · subst hl
          rfl
        · have h1 := dw_lt (c := 10) hl
          cases hm : l.length with
          | zero => rw [List.eq_nil_of_length_eq_zero hm] at hl; exact absurd rfl hl
          | succ m =>
            unfold evsF
            rw [if_neg hl, if_neg hl]
            congr 1
            rw [ih n (by omega) _ (by omega), ih m (by omega) _ (by omega)]
theorem evsL_nil : evsL [] = [] := rfl
theorem evsL_cons {l : List UInt8} (h : l ≠ []) : evsL l = evL (tw 10 l) :: evsL (dw 10 l) := by
  have h1 := dw_lt (c := 10) h
  cases hm : l.length with
  | zero => rw [List.eq_nil_of_length_eq_zero hm] at h; exact absurd rfl h
  | succ m =>
    unfold evsL
    rw [hm]
    conv => lhs; unfold evsF
    rw [if_neg h, evsF_more m _ (by omega)]
    rfl

theorem nmOk_bytes {s : ByteArray} (h : nmOk s = true) : ∀ b ∈ s.data.toList, lettr b = true := by
  unfold nmOk at h
  rw [Bool.and_eq_true] at h
  exact List.all_eq_true.1 h.1
theorem idB_bytes {s : ByteArray} (h : idB s = true) : ∀ b ∈ s.data.toList, lettr b = true ∨ b = 46 := by
  have hs : Bt s.data.toList = s := Bt_of s
  generalize s.data.toList = l at hs
  subst hs
  unfold idB at h
  simp only [Bool.and_eq_true, decide_eq_true_eq] at h
  obtain ⟨⟨h1, h2⟩, h3⟩ := h
  obtain ⟨h4, h5⟩ := ixb_mem h1
  obtain ⟨h6, h7⟩ := tw_split h4
  rw [h5, Bt_extract, List.drop_zero] at h2
  rw [h5, Bt_extract, Bt_size, List.take_length] at h3
  rw [(tw_parts h4).1] at h2
  rw [(tw_parts h4).2.1] at h3
  have g2 := nmOk_bytes h2
  have g3 := nmOk_bytes h3
  rw [Bt_list] at g2 g3
  intro b hb
  rw [h6] at hb
  rcases List.mem_append.1 hb with hb | hb
  · exact .inl (g2 b hb)
  · rcases List.mem_cons.1 hb with hb | hb
    · exact .inr hb
    · exact .inl (g3 b hb)
theorem evOk_bytes {e : EventD} (h : evOk e = true) : (10 : UInt8) ∉ e.2.1.data.toList ∧ (32 : UInt8) ∉ e.2.1.data.toList := by
  have hb : ∀ b ∈ e.2.1.data.toList, lettr b = true ∨ b = 46 := by
    unfold evOk at h
    simp only [Bool.or_eq_true, Bool.and_eq_true] at h
    rcases h with (h | h) | h
    · exact fun b hb => .inl (nmOk_bytes h.2 b hb)
    · exact fun b hb => .inl (nmOk_bytes h.2 b hb)
    · exact idB_bytes h.2
  constructor
  · intro hm
    rcases hb _ hm with h | h
    · exact absurd h (by decide)
    · exact absurd h (by decide)
  · intro hm
    rcases hb _ hm with h | h
    · exact absurd h (by decide)
    · exact absurd h (by decide)
theorem wordE_bytes (k : Int) : (10 : UInt8) ∉ (wordE k).data.toList ∧ (32 : UInt8) ∉ (wordE k).data.toList := by
  unfold wordE
  split
  · decide
  · split <;> decide
theorem lineE_cut {e : EventD} (h : evOk e = true) (m : List UInt8) : tw 10 (lineE e ++ m) = (wordE e.1).data.toList ++ 32 :: e.2.1.data.toList ∧ dw 10 (lineE e ++ m) = m := by
  have hn : (10 : UInt8) ∉ (wordE e.1).data.toList ++ 32 :: e.2.1.data.toList := by
    intro hm
    rcases List.mem_append.1 hm with hm | hm
    · exact (wordE_bytes _).1 hm
    · rcases List.mem_cons.1 hm with hm | hm
      · exact absurd hm (by decide)
      · exact (evOk_bytes h).1 hm
  have e1 : lineE e ++ m = ((wordE e.1).data.toList ++ 32 :: e.2.1.data.toList) ++ 10 :: m := by
    unfold lineE
    simp
  rw [e1]
  exact tw_app m hn
theorem evL_line {e : EventD} (h : evOk e = true) : evL ((wordE e.1).data.toList ++ 32 :: e.2.1.data.toList) = e := by
  obtain ⟨h1, h2⟩ := tw_app (c := 32) (a := (wordE e.1).data.toList) e.2.1.data.toList (wordE_bytes _).2
  unfold evL
  rw [h1, h2, Bt_of, Bt_of, kindW_word (evOk_kind h)]
/-- The lines of a text are read back. -/
theorem evsL_text : ∀ {es : List EventD}, es.all evOk = true → evsL (textE es) = es
  | [], _ => rfl
  | e :: es, h => by
    rw [List.all_cons, Bool.and_eq_true] at h
    have hne : textE (e :: es) ≠ [] := by
      unfold textE lineE
      simp
    have hc : textE (e :: es) = lineE e ++ textE es := rfl
    rw [evsL_cons hne, hc, (lineE_cut h.1 _).1, (lineE_cut h.1 _).2, evL_line h.1, evsL_text h.2]
theorem textE_evsF : ∀ (n : Nat) (l : List UInt8), (textE (evsF n l)).length ≤ 7 * l.length
  | 0, l => by simp [evsF, textE]
  | n + 1, l => by
    unfold evsF
    split
    · simp [textE]
    · rename_i hl
      have h1 := textE_evsF n (dw 10 l)
      have h2 := lineE_len (evL (tw 10 l))
      have h3 : (evL (tw 10 l)).2.1.size ≤ (tw 10 l).length := by
        show (Bt (dw 32 (tw 10 l))).size ≤ _
        rw [Bt_size]
        have := (tw_len 32 (tw 10 l)).1
        omega
      have h4 : textE (evL (tw 10 l) :: evsF n (dw 10 l)) = lineE (evL (tw 10 l)) ++ textE (evsF n (dw 10 l)) := rfl
      rw [h4, List.length_append]
      rcases (tw_len 10 l).2 hl with h5 | ⟨h5, h6⟩
      · omega
      · have h7 := (tw_len 10 l).1
        have h8 : (dw 10 l).length = 0 := by rw [h5]; rfl
        omega

end Go.Proofs.Ytggklaimbklefaa

/- The helpers of the laws for Test: counted, copied, compared, marked. -/
set_option maxHeartbeats 4000000
set_option synthInstance.maxHeartbeats 400000
set_option synthInstance.maxSize 4096
set_option linter.unusedSimpArgs false
set_option linter.unusedVariables false
namespace Go.Proofs.Ytggklaimbklefaa

set_option maxRecDepth 100000

abbrev TestD := ByteArray × ByteArray × List ByteArray × List ByteArray × Unit

def testS : Shape TestD := consS strS (consS strS (consS (slS strS) (consS (slS strS) unitS)))

def testO : OwnS TestD := consO strO (consO strO (consO (slO 9 strO) (consO (slO 9 strO) unitO)))

def testT : GT TestD := consT strT (consT strT (consT (slT 9 strT) (consT (slT 9 strT) unitT)))

theorem testS_open {A : View} {x : TestD} {d : List Value} (h : testS.rel A x d) : ∃ uu2 uu3 : Value, d = [.string x.1, .string x.2.1, uu2, uu3] ∧ x.1.size ≤ 140737488355328 ∧ x.2.1.size ≤ 140737488355328 ∧ Sl strS A uu2 x.2.2.1 ∧ Sl strS A uu3 x.2.2.2.1 := by
  obtain ⟨_, _, rfl, ⟨rfl, hh0⟩, ⟨_, _, rfl, ⟨rfl, hh1⟩, ⟨_, _, rfl, ⟨uu2, rfl, hh2⟩, ⟨_, _, rfl, ⟨uu3, rfl, hh3⟩, rfl⟩⟩⟩⟩ := h
  exact ⟨uu2, uu3, rfl, hh0, hh1, hh2, hh3⟩

theorem testS_mk {A : View} {x : TestD} {uu2 uu3 : Value} (hh0 : x.1.size ≤ 140737488355328) (hh1 : x.2.1.size ≤ 140737488355328) (hh2 : Sl strS A uu2 x.2.2.1) (hh3 : Sl strS A uu3 x.2.2.2.1) : testS.rel A x [.string x.1, .string x.2.1, uu2, uu3] := ⟨_, _, rfl, ⟨rfl, hh0⟩, ⟨_, _, rfl, ⟨rfl, hh1⟩, ⟨_, _, rfl, ⟨_, rfl, hh2⟩, ⟨_, _, rfl, ⟨_, rfl, hh3⟩, rfl⟩⟩⟩⟩

theorem testO_open {A : View} {fp : List Nat} {x : TestD} {d : List Value} (h : testO.rel A fp x d) : ∃ (ff2 : List Nat) (uu2 : Value) (ff3 : List Nat) (uu3 : Value), ff2 ++ (ff3) = fp ∧ d = [.string x.1, .string x.2.1, uu2, uu3] ∧ x.1.size ≤ 140737488355328 ∧ x.2.1.size ≤ 140737488355328 ∧ OSl 9 strO A ff2 uu2 x.2.2.1 ∧ OSl 9 strO A ff3 uu3 x.2.2.2.1 := by
  obtain ⟨_, _, _, _, rfl, rfl, ⟨rfl, rfl, hh0⟩, ⟨_, _, _, _, rfl, rfl, ⟨rfl, rfl, hh1⟩, ⟨_, _, _, _, rfl, rfl, ⟨uu2, rfl, hh2⟩, ⟨_, _, _, _, rfl, rfl, ⟨uu3, rfl, hh3⟩, ⟨rfl, rfl⟩⟩⟩⟩⟩ := h
  exact ⟨_, uu2, _, uu3, by simp, rfl, hh0, hh1, hh2, hh3⟩

theorem testO_mk {A : View} {x : TestD} {ff2 ff3 : List Nat} {uu2 uu3 : Value} (hh0 : x.1.size ≤ 140737488355328) (hh1 : x.2.1.size ≤ 140737488355328) (hh2 : OSl 9 strO A ff2 uu2 x.2.2.1) (hh3 : OSl 9 strO A ff3 uu3 x.2.2.2.1) : testO.rel A (ff2 ++ (ff3)) x [.string x.1, .string x.2.1, uu2, uu3] := ⟨[], ff2 ++ ff3, [.string x.1], _, by simp, rfl, ⟨rfl, rfl, hh0⟩, ⟨[], ff2 ++ ff3, [.string x.2.1], _, by simp, rfl, ⟨rfl, rfl, hh1⟩, ⟨ff2, ff3, [uu2], _, by simp, rfl, ⟨_, rfl, hh2⟩, ⟨ff3, [], [uu3], _, by simp, rfl, ⟨_, rfl, hh3⟩, ⟨rfl, rfl⟩⟩⟩⟩⟩

theorem testO_S {A : View} {fp : List Nat} {x : TestD} {d : List Value} (h : testO.rel A fp x d) : testS.rel A x d := testO.toS h

theorem testT_w (x : TestD) : testT.w x = x.1.size + (x.2.1.size + ((x.2.2.1.length + wL strT x.2.2.1) + ((x.2.2.2.1.length + wL strT x.2.2.2.1) + 0))) := rfl

theorem testT_cnt (x : TestD) : testT.cnt x = 1 + (1 + (cntL strT x.2.2.1 + (cntL strT x.2.2.2.1 + 0))) := rfl

theorem testT_le (x : TestD) : testT.cnt x ≤ 4 + 4 * testT.w x := by
  rw [testT_cnt, testT_w]
  have e2 := cntL_str_le x.2.2.1
  have e3 := cntL_str_le x.2.2.2.1
  omega

theorem testL_le : ∀ (xs : List TestD), cntL testT xs ≤ 4 * (xs.length + wL testT xs)
  | [] => by simp [cntL]
  | x :: xs => by
    have := testT_le x
    have := testL_le xs
    simp only [cntL, wL, List.length_cons]
    omega

theorem Sl.test {A : View} {a : Option Addr} {n c : Nat} {xs : List TestD} (h : Sl testS A (.slice a n c) xs) {i : Nat} (hi : i < xs.length) : ∃ (ad : Addr) (uu2 uu3 : Value), a = some ad ∧ A.part (ad.add (i * 4)) 4 = some [.string (xs[i]).1, .string (xs[i]).2.1, uu2, uu3] ∧ (xs[i]).1.size ≤ 140737488355328 ∧ (xs[i]).2.1.size ≤ 140737488355328 ∧ Sl strS A uu2 (xs[i]).2.2.1 ∧ Sl strS A uu3 (xs[i]).2.2.2.1 := by
  obtain ⟨ad, d, h1, h2, h3, _⟩ := h.at hi
  obtain ⟨uu2, uu3, rfl, hh0, hh1, hh2, hh3⟩ := testS_open h2
  exact ⟨ad, uu2, uu3, h1, h3, hh0, hh1, hh2, hh3⟩

theorem szTest_c (A : View) (d : List Value) (x : TestD) (k : Int) (h : testS.rel A x d) (hk : 0 ≤ k ∧ k ≤ 1048576) : ACalls Try.prog 64 #[.agg d.toArray, .int .i64 k] A fun r A' => (∃ j : Int, r = .int .i64 j ∧ (j = -1 ∨ (0 ≤ j ∧ j + testT.w x = k))) ∧ Ext A A' := by
  obtain ⟨uu2, uu3, rfl, hh0, hh1, hh2, hh3⟩ := testS_open h
  obtain ⟨aa2, cc2, rfl, hc2, hl2⟩ := hh2.slice
  obtain ⟨aa3, cc3, rfl, hc3, hl3⟩ := hh3.slice
  have hw := testT_w x
  refine acalls Try.func64 rfl (by kernel_rfl) ?_
  simp (disch := omega) only [↓stp, vls, inf, frs, mark_eq, ↓reduceIte, Nat.reduceEqDiff, ite_tt, ite_ff, eq_self, and_true, true_and, and_self, implies_true, Bool.true_eq_false, Bool.false_eq_true, decide_true, decide_false, decide_eq_true_eq, decide_eq_false_iff_not, ne_eq, not_true_eq_false, not_false_eq_true, Bool.not_eq_true', Bool.not_eq_false', beq_self_eq_true, Bool.not_true, Bool.not_false, List.getElem?_toArray, List.getElem?_cons_zero, List.getElem?_cons_succ]
  refine led_box (Led.nil A) rfl fun b V _ l => ?_
  have b0 := l.cell (i := 0) rfl (o := 0) rfl rfl
  have b1 := l.cell (i := 0) rfl (o := 1) rfl rfl
  have b2 := l.cell (i := 0) rfl (o := 2) rfl rfl
  have b3 := l.cell (i := 0) rfl (o := 3) rfl rfl
  simp (disch := omega) only [↓stp, vls, inf, frs, mark_eq, ↓reduceIte, Nat.reduceEqDiff, ite_tt, ite_ff, eq_self, and_true, true_and, and_self, implies_true, Bool.true_eq_false, Bool.false_eq_true, decide_true, decide_false, decide_eq_true_eq, decide_eq_false_iff_not, ne_eq, not_true_eq_false, not_false_eq_true, Bool.not_eq_true', Bool.not_eq_false', beq_self_eq_true, Bool.not_true, Bool.not_false, List.getElem?_toArray, List.getElem?_cons_zero, List.getElem?_cons_succ, add_at, b0, b1, b2, b3]
  refine ⟨fun e => ?_, fun e => ?_⟩
  · simp (disch := omega) only [↓stp, vls, inf, frs, mark_eq, ↓reduceIte, Nat.reduceEqDiff, ite_tt, ite_ff, eq_self, and_true, true_and, and_self, implies_true, Bool.true_eq_false, Bool.false_eq_true, decide_true, decide_false, decide_eq_true_eq, decide_eq_false_iff_not, ne_eq, not_true_eq_false, not_false_eq_true, Bool.not_eq_true', Bool.not_eq_false', beq_self_eq_true, Bool.not_true, Bool.not_false, List.getElem?_toArray, List.getElem?_cons_zero, List.getElem?_cons_succ, add_at, b0, b1, b2, b3]
    exact ⟨⟨_, rfl, .inl rfl⟩, l.ext⟩
  simp (disch := omega) only [↓stp, vls, inf, frs, mark_eq, ↓reduceIte, Nat.reduceEqDiff, ite_tt, ite_ff, eq_self, and_true, true_and, and_self, implies_true, Bool.true_eq_false, Bool.false_eq_true, decide_true, decide_false, decide_eq_true_eq, decide_eq_false_iff_not, ne_eq, not_true_eq_false, not_false_eq_true, Bool.not_eq_true', Bool.not_eq_false', beq_self_eq_true, Bool.not_true, Bool.not_false, List.getElem?_toArray, List.getElem?_cons_zero, List.getElem?_cons_succ, add_at, b0, b1, b2, b3]
  refine ⟨fun e => ?_, fun e => ?_⟩
  · simp (disch := omega) only [↓stp, vls, inf, frs, mark_eq, ↓reduceIte, Nat.reduceEqDiff, ite_tt, ite_ff, eq_self, and_true, true_and, and_self, implies_true, Bool.true_eq_false, Bool.false_eq_true, decide_true, decide_false, decide_eq_true_eq, decide_eq_false_iff_not, ne_eq, not_true_eq_false, not_false_eq_true, Bool.not_eq_true', Bool.not_eq_false', beq_self_eq_true, Bool.not_true, Bool.not_false, List.getElem?_toArray, List.getElem?_cons_zero, List.getElem?_cons_succ, add_at, b0, b1, b2, b3]
    exact ⟨⟨_, rfl, .inl rfl⟩, l.ext⟩
  simp (disch := omega) only [↓stp, vls, inf, frs, mark_eq, ↓reduceIte, Nat.reduceEqDiff, ite_tt, ite_ff, eq_self, and_true, true_and, and_self, implies_true, Bool.true_eq_false, Bool.false_eq_true, decide_true, decide_false, decide_eq_true_eq, decide_eq_false_iff_not, ne_eq, not_true_eq_false, not_false_eq_true, Bool.not_eq_true', Bool.not_eq_false', beq_self_eq_true, Bool.not_true, Bool.not_false, List.getElem?_toArray, List.getElem?_cons_zero, List.getElem?_cons_succ, add_at, b0, b1, b2, b3]
  refine (szStringS_c V _ _ _ (hh2.mono l.ext) (by omega)).mono ?_
  rintro _ V ⟨⟨j2, rfl, hj2⟩, he⟩
  replace l := l.step he
  have b0 := l.cell (i := 0) rfl (o := 0) rfl rfl
  have b1 := l.cell (i := 0) rfl (o := 1) rfl rfl
  have b2 := l.cell (i := 0) rfl (o := 2) rfl rfl
  have b3 := l.cell (i := 0) rfl (o := 3) rfl rfl
  simp (disch := omega) only [↓stp, vls, inf, frs, mark_eq, ↓reduceIte, Nat.reduceEqDiff, ite_tt, ite_ff, eq_self, and_true, true_and, and_self, implies_true, Bool.true_eq_false, Bool.false_eq_true, decide_true, decide_false, decide_eq_true_eq, decide_eq_false_iff_not, ne_eq, not_true_eq_false, not_false_eq_true, Bool.not_eq_true', Bool.not_eq_false', beq_self_eq_true, Bool.not_true, Bool.not_false, List.getElem?_toArray, List.getElem?_cons_zero, List.getElem?_cons_succ, add_at, b0, b1, b2, b3]
  refine ⟨fun e => ?_, fun e => ?_⟩
  · simp (disch := omega) only [↓stp, vls, inf, frs, mark_eq, ↓reduceIte, Nat.reduceEqDiff, ite_tt, ite_ff, eq_self, and_true, true_and, and_self, implies_true, Bool.true_eq_false, Bool.false_eq_true, decide_true, decide_false, decide_eq_true_eq, decide_eq_false_iff_not, ne_eq, not_true_eq_false, not_false_eq_true, Bool.not_eq_true', Bool.not_eq_false', beq_self_eq_true, Bool.not_true, Bool.not_false, List.getElem?_toArray, List.getElem?_cons_zero, List.getElem?_cons_succ, add_at, b0, b1, b2, b3]
    exact ⟨⟨_, rfl, .inl rfl⟩, l.ext⟩
  replace hj2 := hj2.resolve_left (by omega)
  simp (disch := omega) only [↓stp, vls, inf, frs, mark_eq, ↓reduceIte, Nat.reduceEqDiff, ite_tt, ite_ff, eq_self, and_true, true_and, and_self, implies_true, Bool.true_eq_false, Bool.false_eq_true, decide_true, decide_false, decide_eq_true_eq, decide_eq_false_iff_not, ne_eq, not_true_eq_false, not_false_eq_true, Bool.not_eq_true', Bool.not_eq_false', beq_self_eq_true, Bool.not_true, Bool.not_false, List.getElem?_toArray, List.getElem?_cons_zero, List.getElem?_cons_succ, add_at, b0, b1, b2, b3]
  refine (szStringS_c V _ _ _ (hh3.mono l.ext) (by omega)).mono ?_
  rintro _ V ⟨⟨j3, rfl, hj3⟩, he⟩
  replace l := l.step he
  have b0 := l.cell (i := 0) rfl (o := 0) rfl rfl
  have b1 := l.cell (i := 0) rfl (o := 1) rfl rfl
  have b2 := l.cell (i := 0) rfl (o := 2) rfl rfl
  have b3 := l.cell (i := 0) rfl (o := 3) rfl rfl
  simp (disch := omega) only [↓stp, vls, inf, frs, mark_eq, ↓reduceIte, Nat.reduceEqDiff, ite_tt, ite_ff, eq_self, and_true, true_and, and_self, implies_true, Bool.true_eq_false, Bool.false_eq_true, decide_true, decide_false, decide_eq_true_eq, decide_eq_false_iff_not, ne_eq, not_true_eq_false, not_false_eq_true, Bool.not_eq_true', Bool.not_eq_false', beq_self_eq_true, Bool.not_true, Bool.not_false, List.getElem?_toArray, List.getElem?_cons_zero, List.getElem?_cons_succ, add_at, b0, b1, b2, b3]
  refine ⟨fun e => ?_, fun e => ?_⟩
  · simp (disch := omega) only [↓stp, vls, inf, frs, mark_eq, ↓reduceIte, Nat.reduceEqDiff, ite_tt, ite_ff, eq_self, and_true, true_and, and_self, implies_true, Bool.true_eq_false, Bool.false_eq_true, decide_true, decide_false, decide_eq_true_eq, decide_eq_false_iff_not, ne_eq, not_true_eq_false, not_false_eq_true, Bool.not_eq_true', Bool.not_eq_false', beq_self_eq_true, Bool.not_true, Bool.not_false, List.getElem?_toArray, List.getElem?_cons_zero, List.getElem?_cons_succ, add_at, b0, b1, b2, b3]
    exact ⟨⟨_, rfl, .inl rfl⟩, l.ext⟩
  replace hj3 := hj3.resolve_left (by omega)
  simp (disch := omega) only [↓stp, vls, inf, frs, mark_eq, ↓reduceIte, Nat.reduceEqDiff, ite_tt, ite_ff, eq_self, and_true, true_and, and_self, implies_true, Bool.true_eq_false, Bool.false_eq_true, decide_true, decide_false, decide_eq_true_eq, decide_eq_false_iff_not, ne_eq, not_true_eq_false, not_false_eq_true, Bool.not_eq_true', Bool.not_eq_false', beq_self_eq_true, Bool.not_true, Bool.not_false, List.getElem?_toArray, List.getElem?_cons_zero, List.getElem?_cons_succ, add_at, b0, b1, b2, b3]
  exact ⟨⟨_, rfl, .inr ⟨by omega, by omega⟩⟩, l.ext⟩

theorem toTest_c (A : View) (d : List Value) (x : TestD) (h : testS.rel A x d) (hw : testT.w x ≤ 1048576) : ACalls Try.prog 70 #[.agg d.toArray] A fun r A' => ∃ fp d', r = .agg d'.toArray ∧ testO.rel A' fp x d' ∧ Ext A A' ∧ (∀ b, b ∈ fp → A b = none) ∧ fp.Nodup := by
  obtain ⟨uu2, uu3, rfl, hh0, hh1, hh2, hh3⟩ := testS_open h
  obtain ⟨aa2, cc2, rfl, hc2, hl2⟩ := hh2.slice
  obtain ⟨aa3, cc3, rfl, hc3, hl3⟩ := hh3.slice
  rw [testT_w] at hw
  refine acalls Try.func70 rfl (by kernel_rfl) ?_
  simp (disch := omega) only [↓stp, vls, inf, frs, mark_eq, ↓reduceIte, Nat.reduceEqDiff, ite_tt, ite_ff, eq_self, and_true, true_and, and_self, implies_true, Bool.true_eq_false, Bool.false_eq_true, decide_true, decide_false, decide_eq_true_eq, decide_eq_false_iff_not, ne_eq, not_true_eq_false, not_false_eq_true, Bool.not_eq_true', Bool.not_eq_false', beq_self_eq_true, Bool.not_true, Bool.not_false, List.getElem?_toArray, List.getElem?_cons_zero, List.getElem?_cons_succ]
  refine led_box (Led.nil A) rfl fun q0 V _ l => ?_
  simp (disch := omega) only [↓stp, vls, inf, frs, mark_eq, ↓reduceIte, Nat.reduceEqDiff, ite_tt, ite_ff, eq_self, and_true, true_and, and_self, implies_true, Bool.true_eq_false, Bool.false_eq_true, decide_true, decide_false, decide_eq_true_eq, decide_eq_false_iff_not, ne_eq, not_true_eq_false, not_false_eq_true, Bool.not_eq_true', Bool.not_eq_false', beq_self_eq_true, Bool.not_true, Bool.not_false, List.getElem?_toArray, List.getElem?_cons_zero, List.getElem?_cons_succ]
  refine led_alloc zc78 l fun q1 V _ l => ?_
  simp (disch := omega) only [↓stp, vls, inf, frs, mark_eq, ↓reduceIte, Nat.reduceEqDiff, ite_tt, ite_ff, eq_self, and_true, true_and, and_self, implies_true, Bool.true_eq_false, Bool.false_eq_true, decide_true, decide_false, decide_eq_true_eq, decide_eq_false_iff_not, ne_eq, not_true_eq_false, not_false_eq_true, Bool.not_eq_true', Bool.not_eq_false', beq_self_eq_true, Bool.not_true, Bool.not_false, List.getElem?_toArray, List.getElem?_cons_zero, List.getElem?_cons_succ]
  refine led_alloc zc78 l fun q2 V _ l => ?_
  have b0 := l.cell (i := 2) rfl (o := 0) rfl rfl
  have b1 := l.cell (i := 2) rfl (o := 1) rfl rfl
  have b2 := l.cell (i := 2) rfl (o := 2) rfl rfl
  have b3 := l.cell (i := 2) rfl (o := 3) rfl rfl
  simp (disch := omega) only [↓stp, vls, inf, frs, mark_eq, ↓reduceIte, Nat.reduceEqDiff, ite_tt, ite_ff, eq_self, and_true, true_and, and_self, implies_true, Bool.true_eq_false, Bool.false_eq_true, decide_true, decide_false, decide_eq_true_eq, decide_eq_false_iff_not, ne_eq, not_true_eq_false, not_false_eq_true, Bool.not_eq_true', Bool.not_eq_false', beq_self_eq_true, Bool.not_true, Bool.not_false, List.getElem?_toArray, List.getElem?_cons_zero, List.getElem?_cons_succ, add_at, b0, b1, b2, b3]
  refine led_store l 0 rfl sz9 (by rfl) (by rfl) (by rfl) fun V l => ?_
  have b0 := l.cell (i := 2) rfl (o := 0) rfl rfl
  have b1 := l.cell (i := 2) rfl (o := 1) rfl rfl
  have b2 := l.cell (i := 2) rfl (o := 2) rfl rfl
  have b3 := l.cell (i := 2) rfl (o := 3) rfl rfl
  simp (disch := omega) only [↓stp, vls, inf, frs, mark_eq, ↓reduceIte, Nat.reduceEqDiff, ite_tt, ite_ff, eq_self, and_true, true_and, and_self, implies_true, Bool.true_eq_false, Bool.false_eq_true, decide_true, decide_false, decide_eq_true_eq, decide_eq_false_iff_not, ne_eq, not_true_eq_false, not_false_eq_true, Bool.not_eq_true', Bool.not_eq_false', beq_self_eq_true, Bool.not_true, Bool.not_false, List.getElem?_toArray, List.getElem?_cons_zero, List.getElem?_cons_succ, add_at, b0, b1, b2, b3]
  refine led_store l 0 rfl sz9 (by rfl) (by rfl) (by rfl) fun V l => ?_
  have b0 := l.cell (i := 2) rfl (o := 0) rfl rfl
  have b1 := l.cell (i := 2) rfl (o := 1) rfl rfl
  have b2 := l.cell (i := 2) rfl (o := 2) rfl rfl
  have b3 := l.cell (i := 2) rfl (o := 3) rfl rfl
  simp (disch := omega) only [↓stp, vls, inf, frs, mark_eq, ↓reduceIte, Nat.reduceEqDiff, ite_tt, ite_ff, eq_self, and_true, true_and, and_self, implies_true, Bool.true_eq_false, Bool.false_eq_true, decide_true, decide_false, decide_eq_true_eq, decide_eq_false_iff_not, ne_eq, not_true_eq_false, not_false_eq_true, Bool.not_eq_true', Bool.not_eq_false', beq_self_eq_true, Bool.not_true, Bool.not_false, List.getElem?_toArray, List.getElem?_cons_zero, List.getElem?_cons_succ, add_at, b0, b1, b2, b3]
  refine (toStringS_c V _ _ (hh2.mono l.ext) (by omega)).mono ?_
  rintro w2 V ⟨ff2, o2, he, hfr, hnd⟩
  obtain ⟨p2, r2, rfl, _, _⟩ := o2.toS.slice
  replace l := l.cons he (osl 9 strO ff2 _ _) o2 hfr hnd
  have b0 := l.cell (i := 3) rfl (o := 0) rfl rfl
  have b1 := l.cell (i := 3) rfl (o := 1) rfl rfl
  have b2 := l.cell (i := 3) rfl (o := 2) rfl rfl
  have b3 := l.cell (i := 3) rfl (o := 3) rfl rfl
  simp (disch := omega) only [↓stp, vls, inf, frs, mark_eq, ↓reduceIte, Nat.reduceEqDiff, ite_tt, ite_ff, eq_self, and_true, true_and, and_self, implies_true, Bool.true_eq_false, Bool.false_eq_true, decide_true, decide_false, decide_eq_true_eq, decide_eq_false_iff_not, ne_eq, not_true_eq_false, not_false_eq_true, Bool.not_eq_true', Bool.not_eq_false', beq_self_eq_true, Bool.not_true, Bool.not_false, List.getElem?_toArray, List.getElem?_cons_zero, List.getElem?_cons_succ, add_at, b0, b1, b2, b3]
  refine led_store l 1 rfl sz54 (by rfl) (by rfl) (by rfl) fun V l => ?_
  have b0 := l.cell (i := 3) rfl (o := 0) rfl rfl
  have b1 := l.cell (i := 3) rfl (o := 1) rfl rfl
  have b2 := l.cell (i := 3) rfl (o := 2) rfl rfl
  have b3 := l.cell (i := 3) rfl (o := 3) rfl rfl
  simp (disch := omega) only [↓stp, vls, inf, frs, mark_eq, ↓reduceIte, Nat.reduceEqDiff, ite_tt, ite_ff, eq_self, and_true, true_and, and_self, implies_true, Bool.true_eq_false, Bool.false_eq_true, decide_true, decide_false, decide_eq_true_eq, decide_eq_false_iff_not, ne_eq, not_true_eq_false, not_false_eq_true, Bool.not_eq_true', Bool.not_eq_false', beq_self_eq_true, Bool.not_true, Bool.not_false, List.getElem?_toArray, List.getElem?_cons_zero, List.getElem?_cons_succ, add_at, b0, b1, b2, b3]
  refine (toStringS_c V _ _ (hh3.mono l.ext) (by omega)).mono ?_
  rintro w3 V ⟨ff3, o3, he, hfr, hnd⟩
  obtain ⟨p3, r3, rfl, _, _⟩ := o3.toS.slice
  replace l := l.cons he (osl 9 strO ff3 _ _) o3 hfr hnd
  have b0 := l.cell (i := 4) rfl (o := 0) rfl rfl
  have b1 := l.cell (i := 4) rfl (o := 1) rfl rfl
  have b2 := l.cell (i := 4) rfl (o := 2) rfl rfl
  have b3 := l.cell (i := 4) rfl (o := 3) rfl rfl
  simp (disch := omega) only [↓stp, vls, inf, frs, mark_eq, ↓reduceIte, Nat.reduceEqDiff, ite_tt, ite_ff, eq_self, and_true, true_and, and_self, implies_true, Bool.true_eq_false, Bool.false_eq_true, decide_true, decide_false, decide_eq_true_eq, decide_eq_false_iff_not, ne_eq, not_true_eq_false, not_false_eq_true, Bool.not_eq_true', Bool.not_eq_false', beq_self_eq_true, Bool.not_true, Bool.not_false, List.getElem?_toArray, List.getElem?_cons_zero, List.getElem?_cons_succ, add_at, b0, b1, b2, b3]
  refine led_store l 2 rfl sz54 (by rfl) (by rfl) (by rfl) fun V l => ?_
  have hp : V.part ⟨q2, 0, none⟩ 4 = some [.string x.1, .string x.2.1, .slice p2 _ r2, .slice p3 _ r3] := l.part (i := 2) rfl rfl
  simp (disch := omega) only [↓stp, vls, inf, frs, mark_eq, ↓reduceIte, Nat.reduceEqDiff, ite_tt, ite_ff, eq_self, and_true, true_and, and_self, implies_true, Bool.true_eq_false, Bool.false_eq_true, decide_true, decide_false, decide_eq_true_eq, decide_eq_false_iff_not, ne_eq, not_true_eq_false, not_false_eq_true, Bool.not_eq_true', Bool.not_eq_false', beq_self_eq_true, Bool.not_true, Bool.not_false, List.getElem?_toArray, List.getElem?_cons_zero, List.getElem?_cons_succ, hp]
  refine led_store l 3 rfl sz78 (by rfl) (by rfl) (by rfl) fun V l => ?_
  have hp : V.part ⟨q1, 0, none⟩ 4 = some [.string x.1, .string x.2.1, .slice p2 _ r2, .slice p3 _ r3] := l.part (i := 3) rfl rfl
  simp (disch := omega) only [↓stp, vls, inf, frs, mark_eq, ↓reduceIte, Nat.reduceEqDiff, ite_tt, ite_ff, eq_self, and_true, true_and, and_self, implies_true, Bool.true_eq_false, Bool.false_eq_true, decide_true, decide_false, decide_eq_true_eq, decide_eq_false_iff_not, ne_eq, not_true_eq_false, not_false_eq_true, Bool.not_eq_true', Bool.not_eq_false', beq_self_eq_true, Bool.not_true, Bool.not_false, List.getElem?_toArray, List.getElem?_cons_zero, List.getElem?_cons_succ, hp]
  refine ⟨ff2 ++ (ff3), _, rfl, testO_mk hh0 hh1 (l.at (i := 1) rfl) (l.at (i := 0) rfl), l.ext, fun b hb => ?_, ?_⟩
  · simp only [List.mem_append] at hb
    rcases hb with hb | hb
    · exact l.fresh (i := 1) rfl b hb
    · exact l.fresh (i := 0) rfl b hb
  · refine List.nodup_append.2 ⟨l.nodup1 (i := 1) rfl, ?_, fun a ha b hb e => ?_⟩
    · exact l.nodup1 (i := 0) rfl
    · subst e
      exact l.dis (i := 1) (j := 0) rfl rfl (by decide) _ ha hb

theorem eqTest_c (A : View) (d d' : List Value) (x y : TestD) (h : testS.rel A x d) (h' : testS.rel A y d') : ACalls Try.prog 75 #[.agg d.toArray, .agg d'.toArray] A fun r A' => r = .bool (decide (x = y)) ∧ Ext A A' := by
  obtain ⟨uu2, uu3, rfl, hh0, hh1, hh2, hh3⟩ := testS_open h
  obtain ⟨aa2, cc2, rfl, hc2, hl2⟩ := hh2.slice
  obtain ⟨aa3, cc3, rfl, hc3, hl3⟩ := hh3.slice
  obtain ⟨v2, v3, rfl, g0, g1, g2, g3⟩ := testS_open h'
  obtain ⟨aa2q, cc2q, rfl, hc2q, hl2q⟩ := g2.slice
  obtain ⟨aa3q, cc3q, rfl, hc3q, hl3q⟩ := g3.slice
  refine acalls Try.func75 rfl (by kernel_rfl) ?_
  simp (disch := omega) only [↓stp, vls, inf, frs, mark_eq, ↓reduceIte, Nat.reduceEqDiff, ite_tt, ite_ff, eq_self, and_true, true_and, and_self, implies_true, Bool.true_eq_false, Bool.false_eq_true, decide_true, decide_false, decide_eq_true_eq, decide_eq_false_iff_not, ne_eq, not_true_eq_false, not_false_eq_true, Bool.not_eq_true', Bool.not_eq_false', beq_self_eq_true, Bool.not_true, Bool.not_false, List.getElem?_toArray, List.getElem?_cons_zero, List.getElem?_cons_succ]
  refine led_box (Led.nil A) rfl fun q0 V _ l => ?_
  simp (disch := omega) only [↓stp, vls, inf, frs, mark_eq, ↓reduceIte, Nat.reduceEqDiff, ite_tt, ite_ff, eq_self, and_true, true_and, and_self, implies_true, Bool.true_eq_false, Bool.false_eq_true, decide_true, decide_false, decide_eq_true_eq, decide_eq_false_iff_not, ne_eq, not_true_eq_false, not_false_eq_true, Bool.not_eq_true', Bool.not_eq_false', beq_self_eq_true, Bool.not_true, Bool.not_false, List.getElem?_toArray, List.getElem?_cons_zero, List.getElem?_cons_succ]
  refine led_box l rfl fun q1 V _ l => ?_
  have b0 := l.cell (i := 1) rfl (o := 0) rfl rfl
  have b1 := l.cell (i := 1) rfl (o := 1) rfl rfl
  have b2 := l.cell (i := 1) rfl (o := 2) rfl rfl
  have b3 := l.cell (i := 1) rfl (o := 3) rfl rfl
  have d0 := l.cell (i := 0) rfl (o := 0) rfl rfl
  have d1 := l.cell (i := 0) rfl (o := 1) rfl rfl
  have d2 := l.cell (i := 0) rfl (o := 2) rfl rfl
  have d3 := l.cell (i := 0) rfl (o := 3) rfl rfl
  simp (disch := omega) only [↓stp, vls, inf, frs, mark_eq, ↓reduceIte, Nat.reduceEqDiff, ite_tt, ite_ff, eq_self, and_true, true_and, and_self, implies_true, Bool.true_eq_false, Bool.false_eq_true, decide_true, decide_false, decide_eq_true_eq, decide_eq_false_iff_not, ne_eq, not_true_eq_false, not_false_eq_true, Bool.not_eq_true', Bool.not_eq_false', beq_self_eq_true, Bool.not_true, Bool.not_false, List.getElem?_toArray, List.getElem?_cons_zero, List.getElem?_cons_succ, add_at, b0, b1, b2, b3, d0, d1, d2, d3]
  refine ⟨fun e => ?_, fun e => ?_⟩
  · have hne : ¬ x = y := fun he => by rw [he] at e; simp at e
    simp (disch := omega) only [↓stp, vls, inf, frs, mark_eq, ↓reduceIte, Nat.reduceEqDiff, ite_tt, ite_ff, eq_self, and_true, true_and, and_self, implies_true, Bool.true_eq_false, Bool.false_eq_true, decide_true, decide_false, decide_eq_true_eq, decide_eq_false_iff_not, ne_eq, not_true_eq_false, not_false_eq_true, Bool.not_eq_true', Bool.not_eq_false', beq_self_eq_true, Bool.not_true, Bool.not_false, List.getElem?_toArray, List.getElem?_cons_zero, List.getElem?_cons_succ, hne]
    exact l.ext
  have e0 : x.1 = y.1 := by simpa using e
  simp (disch := omega) only [↓stp, vls, inf, frs, mark_eq, ↓reduceIte, Nat.reduceEqDiff, ite_tt, ite_ff, eq_self, and_true, true_and, and_self, implies_true, Bool.true_eq_false, Bool.false_eq_true, decide_true, decide_false, decide_eq_true_eq, decide_eq_false_iff_not, ne_eq, not_true_eq_false, not_false_eq_true, Bool.not_eq_true', Bool.not_eq_false', beq_self_eq_true, Bool.not_true, Bool.not_false, List.getElem?_toArray, List.getElem?_cons_zero, List.getElem?_cons_succ, add_at, b0, b1, b2, b3, d0, d1, d2, d3]
  refine ⟨fun e => ?_, fun e => ?_⟩
  · have hne : ¬ x = y := fun he => by rw [he] at e; simp at e
    simp (disch := omega) only [↓stp, vls, inf, frs, mark_eq, ↓reduceIte, Nat.reduceEqDiff, ite_tt, ite_ff, eq_self, and_true, true_and, and_self, implies_true, Bool.true_eq_false, Bool.false_eq_true, decide_true, decide_false, decide_eq_true_eq, decide_eq_false_iff_not, ne_eq, not_true_eq_false, not_false_eq_true, Bool.not_eq_true', Bool.not_eq_false', beq_self_eq_true, Bool.not_true, Bool.not_false, List.getElem?_toArray, List.getElem?_cons_zero, List.getElem?_cons_succ, hne]
    exact l.ext
  have e1 : x.2.1 = y.2.1 := by simpa using e
  simp (disch := omega) only [↓stp, vls, inf, frs, mark_eq, ↓reduceIte, Nat.reduceEqDiff, ite_tt, ite_ff, eq_self, and_true, true_and, and_self, implies_true, Bool.true_eq_false, Bool.false_eq_true, decide_true, decide_false, decide_eq_true_eq, decide_eq_false_iff_not, ne_eq, not_true_eq_false, not_false_eq_true, Bool.not_eq_true', Bool.not_eq_false', beq_self_eq_true, Bool.not_true, Bool.not_false, List.getElem?_toArray, List.getElem?_cons_zero, List.getElem?_cons_succ, add_at, b0, b1, b2, b3, d0, d1, d2, d3]
  refine (eqStringS_c V _ _ _ _ (hh2.mono l.ext) (g2.mono l.ext)).mono ?_
  rintro _ V ⟨rfl, he⟩
  replace l := l.step he
  have b0 := l.cell (i := 1) rfl (o := 0) rfl rfl
  have b1 := l.cell (i := 1) rfl (o := 1) rfl rfl
  have b2 := l.cell (i := 1) rfl (o := 2) rfl rfl
  have b3 := l.cell (i := 1) rfl (o := 3) rfl rfl
  have d0 := l.cell (i := 0) rfl (o := 0) rfl rfl
  have d1 := l.cell (i := 0) rfl (o := 1) rfl rfl
  have d2 := l.cell (i := 0) rfl (o := 2) rfl rfl
  have d3 := l.cell (i := 0) rfl (o := 3) rfl rfl
  simp (disch := omega) only [↓stp, vls, inf, frs, mark_eq, ↓reduceIte, Nat.reduceEqDiff, ite_tt, ite_ff, eq_self, and_true, true_and, and_self, implies_true, Bool.true_eq_false, Bool.false_eq_true, decide_true, decide_false, decide_eq_true_eq, decide_eq_false_iff_not, ne_eq, not_true_eq_false, not_false_eq_true, Bool.not_eq_true', Bool.not_eq_false', beq_self_eq_true, Bool.not_true, Bool.not_false, List.getElem?_toArray, List.getElem?_cons_zero, List.getElem?_cons_succ, add_at, b0, b1, b2, b3, d0, d1, d2, d3]
  refine ⟨fun e => ?_, fun e => ?_⟩
  · have hne : ¬ x = y := fun he => by rw [he] at e; simp at e
    simp (disch := omega) only [↓stp, vls, inf, frs, mark_eq, ↓reduceIte, Nat.reduceEqDiff, ite_tt, ite_ff, eq_self, and_true, true_and, and_self, implies_true, Bool.true_eq_false, Bool.false_eq_true, decide_true, decide_false, decide_eq_true_eq, decide_eq_false_iff_not, ne_eq, not_true_eq_false, not_false_eq_true, Bool.not_eq_true', Bool.not_eq_false', beq_self_eq_true, Bool.not_true, Bool.not_false, List.getElem?_toArray, List.getElem?_cons_zero, List.getElem?_cons_succ, hne]
    exact l.ext
  have e2 : x.2.2.1 = y.2.2.1 := by simpa using e
  simp (disch := omega) only [↓stp, vls, inf, frs, mark_eq, ↓reduceIte, Nat.reduceEqDiff, ite_tt, ite_ff, eq_self, and_true, true_and, and_self, implies_true, Bool.true_eq_false, Bool.false_eq_true, decide_true, decide_false, decide_eq_true_eq, decide_eq_false_iff_not, ne_eq, not_true_eq_false, not_false_eq_true, Bool.not_eq_true', Bool.not_eq_false', beq_self_eq_true, Bool.not_true, Bool.not_false, List.getElem?_toArray, List.getElem?_cons_zero, List.getElem?_cons_succ, add_at, b0, b1, b2, b3, d0, d1, d2, d3]
  refine (eqStringS_c V _ _ _ _ (hh3.mono l.ext) (g3.mono l.ext)).mono ?_
  rintro _ V ⟨rfl, he⟩
  replace l := l.step he
  have b0 := l.cell (i := 1) rfl (o := 0) rfl rfl
  have b1 := l.cell (i := 1) rfl (o := 1) rfl rfl
  have b2 := l.cell (i := 1) rfl (o := 2) rfl rfl
  have b3 := l.cell (i := 1) rfl (o := 3) rfl rfl
  have d0 := l.cell (i := 0) rfl (o := 0) rfl rfl
  have d1 := l.cell (i := 0) rfl (o := 1) rfl rfl
  have d2 := l.cell (i := 0) rfl (o := 2) rfl rfl
  have d3 := l.cell (i := 0) rfl (o := 3) rfl rfl
  simp (disch := omega) only [↓stp, vls, inf, frs, mark_eq, ↓reduceIte, Nat.reduceEqDiff, ite_tt, ite_ff, eq_self, and_true, true_and, and_self, implies_true, Bool.true_eq_false, Bool.false_eq_true, decide_true, decide_false, decide_eq_true_eq, decide_eq_false_iff_not, ne_eq, not_true_eq_false, not_false_eq_true, Bool.not_eq_true', Bool.not_eq_false', beq_self_eq_true, Bool.not_true, Bool.not_false, List.getElem?_toArray, List.getElem?_cons_zero, List.getElem?_cons_succ, add_at, b0, b1, b2, b3, d0, d1, d2, d3]
  refine ⟨fun e => ?_, fun e => ?_⟩
  · have hne : ¬ x = y := fun he => by rw [he] at e; simp at e
    simp (disch := omega) only [↓stp, vls, inf, frs, mark_eq, ↓reduceIte, Nat.reduceEqDiff, ite_tt, ite_ff, eq_self, and_true, true_and, and_self, implies_true, Bool.true_eq_false, Bool.false_eq_true, decide_true, decide_false, decide_eq_true_eq, decide_eq_false_iff_not, ne_eq, not_true_eq_false, not_false_eq_true, Bool.not_eq_true', Bool.not_eq_false', beq_self_eq_true, Bool.not_true, Bool.not_false, List.getElem?_toArray, List.getElem?_cons_zero, List.getElem?_cons_succ, hne]
    exact l.ext
  have e3 : x.2.2.2.1 = y.2.2.2.1 := by simpa using e
  have he : x = y := Prod.ext e0 (Prod.ext e1 (Prod.ext e2 (Prod.ext e3 (rfl))))
  simp (disch := omega) only [↓stp, vls, inf, frs, mark_eq, ↓reduceIte, Nat.reduceEqDiff, ite_tt, ite_ff, eq_self, and_true, true_and, and_self, implies_true, Bool.true_eq_false, Bool.false_eq_true, decide_true, decide_false, decide_eq_true_eq, decide_eq_false_iff_not, ne_eq, not_true_eq_false, not_false_eq_true, Bool.not_eq_true', Bool.not_eq_false', beq_self_eq_true, Bool.not_true, Bool.not_false, List.getElem?_toArray, List.getElem?_cons_zero, List.getElem?_cons_succ, he]
  exact l.ext

theorem szTestS_c (A : View) (v : Value) (xs : List TestD) (k : Int) (h : Sl testS A v xs) (hk : 0 ≤ k ∧ k ≤ 1048576) : ACalls Try.prog 36 #[v, .int .i64 k] A fun r A' => (∃ j : Int, r = .int .i64 j ∧ (j = -1 ∨ (0 ≤ j ∧ j + (xs.length + wL testT xs : Nat) = k))) ∧ Ext A A' := by
  obtain ⟨a, c, rfl, hc, hl⟩ := h.slice
  refine acalls Try.func36 rfl (by kernel_rfl) ?_
  simp (disch := omega) only [↓stp, vls, inf, frs, mark_eq, ↓reduceIte, Nat.reduceEqDiff, ite_tt, ite_ff, eq_self, and_true, true_and, and_self, implies_true, Bool.true_eq_false, Bool.false_eq_true, decide_true, decide_false, decide_eq_true_eq, decide_eq_false_iff_not, ne_eq, not_true_eq_false, not_false_eq_true, Bool.not_eq_true', Bool.not_eq_false', beq_self_eq_true, Bool.not_true, Bool.not_false, List.getElem?_toArray, List.getElem?_cons_zero, List.getElem?_cons_succ]
  refine ⟨fun e => ?_, fun e => ?_⟩
  · simp (disch := omega) only [↓stp, vls, inf, frs, mark_eq, ↓reduceIte, Nat.reduceEqDiff, ite_tt, ite_ff, eq_self, and_true, true_and, and_self, implies_true, Bool.true_eq_false, Bool.false_eq_true, decide_true, decide_false, decide_eq_true_eq, decide_eq_false_iff_not, ne_eq, not_true_eq_false, not_false_eq_true, Bool.not_eq_true', Bool.not_eq_false', beq_self_eq_true, Bool.not_true, Bool.not_false, List.getElem?_toArray, List.getElem?_cons_zero, List.getElem?_cons_succ, e]
    exact ⟨⟨_, rfl, .inl rfl⟩, Ext.refl _⟩
  · simp (disch := omega) only [↓stp, vls, inf, frs, mark_eq, ↓reduceIte, Nat.reduceEqDiff, ite_tt, ite_ff, eq_self, and_true, true_and, and_self, implies_true, Bool.true_eq_false, Bool.false_eq_true, decide_true, decide_false, decide_eq_true_eq, decide_eq_false_iff_not, ne_eq, not_true_eq_false, not_false_eq_true, Bool.not_eq_true', Bool.not_eq_false', beq_self_eq_true, Bool.not_true, Bool.not_false, List.getElem?_toArray, List.getElem?_cons_zero, List.getElem?_cons_succ]
    refine aloop (fun d fr A' => ∃ (i : Nat) (kk : Int), i ≤ xs.length ∧ d = xs.length - i ∧ Ext A A' ∧ fr 0 = .slice a xs.length c ∧ fr 1 = .int .i64 kk ∧ fr 5 = .int .i64 i ∧ 0 ≤ kk ∧ kk + (xs.length + wL testT (xs.take i) : Nat) = k) xs.length ⟨0, k - xs.length, by omega, by omega, Ext.refl _, rfl, by rfl, by rfl, by omega, by simp [wL]⟩ ?_
    rintro d fr A' ⟨i, kk, hi, rfl, he, h0, h1, h5, hk1, hk2⟩
    simp (disch := omega) only [↓stp, vls, inf, frs, mark_eq, ↓reduceIte, Nat.reduceEqDiff, ite_tt, ite_ff, eq_self, and_true, true_and, and_self, implies_true, Bool.true_eq_false, Bool.false_eq_true, decide_true, decide_false, decide_eq_true_eq, decide_eq_false_iff_not, ne_eq, not_true_eq_false, not_false_eq_true, Bool.not_eq_true', Bool.not_eq_false', beq_self_eq_true, Bool.not_true, Bool.not_false, List.getElem?_toArray, List.getElem?_cons_zero, List.getElem?_cons_succ, h0, h1, h5]
    refine ⟨fun e => ?_, fun e => ?_⟩
    · have hlt : i < xs.length := by omega
      obtain ⟨ad, d, rfl, hd, hp, _⟩ := (h.mono he).at hlt
      have hp : A'.part (ad.add (i * 4)) 4 = some d := hp
      simp (disch := omega) only [↓stp, vls, inf, frs, mark_eq, ↓reduceIte, Nat.reduceEqDiff, ite_tt, ite_ff, eq_self, and_true, true_and, and_self, implies_true, Bool.true_eq_false, Bool.false_eq_true, decide_true, decide_false, decide_eq_true_eq, decide_eq_false_iff_not, ne_eq, not_true_eq_false, not_false_eq_true, Bool.not_eq_true', Bool.not_eq_false', beq_self_eq_true, Bool.not_true, Bool.not_false, List.getElem?_toArray, List.getElem?_cons_zero, List.getElem?_cons_succ, h0, h1, h5, hp]
      refine (szTest_c A' d xs[i] kk hd (by omega)).mono ?_
      rintro _ A1 ⟨⟨j, rfl, hj⟩, he1⟩
      simp (disch := omega) only [↓stp, vls, inf, frs, mark_eq, ↓reduceIte, Nat.reduceEqDiff, ite_tt, ite_ff, eq_self, and_true, true_and, and_self, implies_true, Bool.true_eq_false, Bool.false_eq_true, decide_true, decide_false, decide_eq_true_eq, decide_eq_false_iff_not, ne_eq, not_true_eq_false, not_false_eq_true, Bool.not_eq_true', Bool.not_eq_false', beq_self_eq_true, Bool.not_true, Bool.not_false, List.getElem?_toArray, List.getElem?_cons_zero, List.getElem?_cons_succ, h0, h1, h5]
      refine ⟨fun e1 => ?_, fun e1 => ?_⟩ <;> simp (disch := omega) only [↓stp, vls, inf, frs, mark_eq, ↓reduceIte, Nat.reduceEqDiff, ite_tt, ite_ff, eq_self, and_true, true_and, and_self, implies_true, Bool.true_eq_false, Bool.false_eq_true, decide_true, decide_false, decide_eq_true_eq, decide_eq_false_iff_not, ne_eq, not_true_eq_false, not_false_eq_true, Bool.not_eq_true', Bool.not_eq_false', beq_self_eq_true, Bool.not_true, Bool.not_false, List.getElem?_toArray, List.getElem?_cons_zero, List.getElem?_cons_succ, h0, h1, h5]
      · exact ⟨⟨_, rfl, .inl rfl⟩, he.trans he1⟩
      · have hj := hj.resolve_left (by omega)
        have hw := wL_take testT xs hlt
        exact ⟨_, by omega, i + 1, _, by omega, rfl, he.trans he1, rfl, rfl, by omega, by omega⟩
    · simp (disch := omega) only [↓stp, vls, inf, frs, mark_eq, ↓reduceIte, Nat.reduceEqDiff, ite_tt, ite_ff, eq_self, and_true, true_and, and_self, implies_true, Bool.true_eq_false, Bool.false_eq_true, decide_true, decide_false, decide_eq_true_eq, decide_eq_false_iff_not, ne_eq, not_true_eq_false, not_false_eq_true, Bool.not_eq_true', Bool.not_eq_false', beq_self_eq_true, Bool.not_true, Bool.not_false, List.getElem?_toArray, List.getElem?_cons_zero, List.getElem?_cons_succ, h0, h1, h5]
      rw [List.take_of_length_le (by omega)] at hk2
      exact ⟨⟨_, rfl, .inr ⟨hk1, hk2⟩⟩, he⟩

theorem toTestS_c (A : View) (v : Value) (xs : List TestD) (h : Sl testS A v xs) (hw : xs.length + wL testT xs ≤ 1048576) : ACalls Try.prog 40 #[v] A fun r A' => ∃ fp, OSl 78 testO A' fp r xs ∧ Ext A A' ∧ (∀ b, b ∈ fp → A b = none) ∧ fp.Nodup := by
  obtain ⟨a, c, rfl, hc, hl⟩ := h.slice
  refine acalls Try.func40 rfl (by kernel_rfl) ?_
  simp (disch := omega) only [↓stp, vls, inf, frs, mark_eq, ↓reduceIte, Nat.reduceEqDiff, ite_tt, ite_ff, eq_self, and_true, true_and, and_self, implies_true, Bool.true_eq_false, Bool.false_eq_true, decide_true, decide_false, decide_eq_true_eq, decide_eq_false_iff_not, ne_eq, not_true_eq_false, not_false_eq_true, Bool.not_eq_true', Bool.not_eq_false', beq_self_eq_true, Bool.not_true, Bool.not_false, List.getElem?_toArray, List.getElem?_cons_zero, List.getElem?_cons_succ]
  refine amake_at mk39 (by omega) (by omega) fun b hb => ?_
  simp (disch := omega) only [↓stp, vls, inf, frs, mark_eq, ↓reduceIte, Nat.reduceEqDiff, ite_tt, ite_ff, eq_self, and_true, true_and, and_self, implies_true, Bool.true_eq_false, Bool.false_eq_true, decide_true, decide_false, decide_eq_true_eq, decide_eq_false_iff_not, ne_eq, not_true_eq_false, not_false_eq_true, Bool.not_eq_true', Bool.not_eq_false', beq_self_eq_true, Bool.not_true, Bool.not_false, List.getElem?_toArray, List.getElem?_cons_zero, List.getElem?_cons_succ]
  refine aloop (fun d fr A' => ∃ (i : Nat) (fp : List Nat) (done : List Value), i ≤ xs.length ∧ d = xs.length - i ∧ A' b = some ⟨78, done ++ (List.replicate (xs.length - i) [.string ⟨#[]⟩, .string ⟨#[]⟩, .slice none 0 0, .slice none 0 0]).flatten, xs.length * 4, true⟩ ∧ OElems testO A' fp (xs.take i) done ∧ Ext A A' ∧ (∀ x, x ∈ fp → A x = none ∧ x ≠ b) ∧ fp.Nodup ∧ fr 0 = .slice a xs.length c ∧ fr 3 = .slice (some ⟨b, 0, none⟩) xs.length xs.length ∧ fr 4 = .int .i64 i) xs.length ⟨0, [], [], by omega, by omega, by rw [View.set_same]; rfl, .nil, Ext.new hb _, by simp, List.nodup_nil, rfl, by rfl, by rfl⟩ ?_
  rintro d fr A' ⟨i, fp, done, hi, rfl, hA, hd, he, hfr, hnd, h0, h3, h4⟩
  simp (disch := omega) only [↓stp, vls, inf, frs, mark_eq, ↓reduceIte, Nat.reduceEqDiff, ite_tt, ite_ff, eq_self, and_true, true_and, and_self, implies_true, Bool.true_eq_false, Bool.false_eq_true, decide_true, decide_false, decide_eq_true_eq, decide_eq_false_iff_not, ne_eq, not_true_eq_false, not_false_eq_true, Bool.not_eq_true', Bool.not_eq_false', beq_self_eq_true, Bool.not_true, Bool.not_false, List.getElem?_toArray, List.getElem?_cons_zero, List.getElem?_cons_succ, h0, h3, h4]
  refine ⟨fun e => ?_, fun e => ?_⟩
  · have hlt : i < xs.length := by omega
    obtain ⟨ad, d, rfl, hdd, hp, _⟩ := (h.mono he).at hlt
    have hp : A'.part (ad.add (i * 4)) 4 = some d := hp
    simp (disch := omega) only [↓stp, vls, inf, frs, mark_eq, ↓reduceIte, Nat.reduceEqDiff, ite_tt, ite_ff, eq_self, and_true, true_and, and_self, implies_true, Bool.true_eq_false, Bool.false_eq_true, decide_true, decide_false, decide_eq_true_eq, decide_eq_false_iff_not, ne_eq, not_true_eq_false, not_false_eq_true, Bool.not_eq_true', Bool.not_eq_false', beq_self_eq_true, Bool.not_true, Bool.not_false, List.getElem?_toArray, List.getElem?_cons_zero, List.getElem?_cons_succ, h0, h3, h4, hp]
    refine (toTest_c A' d xs[i] hdd (by have := wL_mem testT (List.getElem_mem hlt); omega)).mono ?_
    rintro _ A1 ⟨fq, d', rfl, hw', he1, hfq, hndq⟩
    have hdl : done.length = i * 4 := by
      have := hd.len
      rw [List.length_take, Nat.min_eq_left hi] at this
      exact this
    have hz : (List.replicate (xs.length - i) ([.string ⟨#[]⟩, .string ⟨#[]⟩, .slice none 0 0, .slice none 0 0] : List Value)).flatten = [.string ⟨#[]⟩, .string ⟨#[]⟩, .slice none 0 0, .slice none 0 0] ++ (List.replicate (xs.length - (i + 1)) [.string ⟨#[]⟩, .string ⟨#[]⟩, .slice none 0 0, .slice none 0 0]).flatten := by
      rw [show xs.length - i = (xs.length - (i + 1)) + 1 by omega, List.replicate_succ]; rfl
    have hA1 := he1 _ _ hA
    have hbq : b ∉ fq := fun hm => by rw [hfq _ hm] at hA; cases hA
    have hsz : d'.toArray.size = 4 := by rw [List.size_toArray]; exact testS.len (testO_S hw')
    have hone : (Value.agg d'.toArray).cells.toList.all (·.oneCell') = true := List.all_eq_true.2 (testS.one (testO_S hw'))
    have hst := storev_at (P := Try.prog) (v := .agg d'.toArray) sz78 (hA1.trans (by rw [hz])) hsz rfl hone (o := 0 + i * 4) (by omega)
    simp (disch := omega) only [↓stp, vls, inf, frs, mark_eq, ↓reduceIte, Nat.reduceEqDiff, ite_tt, ite_ff, eq_self, and_true, true_and, and_self, implies_true, Bool.true_eq_false, Bool.false_eq_true, decide_true, decide_false, decide_eq_true_eq, decide_eq_false_iff_not, ne_eq, not_true_eq_false, not_false_eq_true, Bool.not_eq_true', Bool.not_eq_false', beq_self_eq_true, Bool.not_true, Bool.not_false, List.getElem?_toArray, List.getElem?_cons_zero, List.getElem?_cons_succ, astore_at, h0, h3, h4, add_at, hst]
    have hqfp : ∀ x, x ∈ fp → x ∉ fq := fun x hx hm => by
      obtain ⟨k, hk⟩ := hd.has x hx
      rw [hfq x hm] at hk; cases hk
    refine ⟨_, by omega, i + 1, fp ++ fq, done ++ d', by omega, rfl, ?_, ?_, (he.trans he1).setOld hb _, ?_, ?_, rfl⟩
    · rw [View.set_same, List.append_assoc]; rfl
    · rw [List.take_succ_eq_append_getElem hlt]
      refine OElems.append (hd.stay fun x k hx hk => ?_) (OElems.single (testO.stay hw' fun x k hx hk => ?_))
      · rw [View.set_ne _ _ (hfr x hx).2]
        exact he1 _ _ hk
      · rw [View.set_ne _ _ (fun e => hbq (by rw [← e]; exact hx))]
        exact hk
    · intro x hx
      rcases List.mem_append.1 hx with hx | hx
      · exact hfr x hx
      · exact ⟨he.none (hfq x hx), fun e => hbq (by rw [← e]; exact hx)⟩
    · exact List.nodup_append.2 ⟨hnd, hndq, fun x hx y hy e => hqfp x hx (by rw [e]; exact hy)⟩
  · simp (disch := omega) only [↓stp, vls, inf, frs, mark_eq, ↓reduceIte, Nat.reduceEqDiff, ite_tt, ite_ff, eq_self, and_true, true_and, and_self, implies_true, Bool.true_eq_false, Bool.false_eq_true, decide_true, decide_false, decide_eq_true_eq, decide_eq_false_iff_not, ne_eq, not_true_eq_false, not_false_eq_true, Bool.not_eq_true', Bool.not_eq_false', beq_self_eq_true, Bool.not_true, Bool.not_false, List.getElem?_toArray, List.getElem?_cons_zero, List.getElem?_cons_succ, h0, h3, h4]
    have hi' : i = xs.length := by omega
    subst hi'
    rw [List.take_length] at hd
    simp only [Nat.sub_self, List.replicate_zero, List.flatten_nil, List.append_nil] at hA
    refine ⟨b :: fp, ⟨by omega, .inr ⟨b, _, done, fp, rfl, Nat.le_refl _, rfl, hA, hd⟩⟩, he, ?_, List.nodup_cons.2 ⟨fun hm => (hfr b hm).2 rfl, hnd⟩⟩
    intro x hx
    rcases List.mem_cons.1 hx with rfl | hx
    · exact hb
    · exact (hfr x hx).1

theorem eqTestS_c (A : View) (v u : Value) (xs ys : List TestD) (h : Sl testS A v xs) (h' : Sl testS A u ys) : ACalls Try.prog 46 #[v, u] A fun r A' => r = .bool (decide (xs = ys)) ∧ Ext A A' := by
  obtain ⟨a, c, rfl, hc, hl⟩ := h.slice
  obtain ⟨a', c', rfl, hc', hl'⟩ := h'.slice
  refine acalls Try.func46 rfl (by kernel_rfl) ?_
  simp (disch := omega) only [↓stp, vls, inf, frs, mark_eq, ↓reduceIte, Nat.reduceEqDiff, ite_tt, ite_ff, eq_self, and_true, true_and, and_self, implies_true, Bool.true_eq_false, Bool.false_eq_true, decide_true, decide_false, decide_eq_true_eq, decide_eq_false_iff_not, ne_eq, not_true_eq_false, not_false_eq_true, Bool.not_eq_true', Bool.not_eq_false', beq_self_eq_true, Bool.not_true, Bool.not_false, List.getElem?_toArray, List.getElem?_cons_zero, List.getElem?_cons_succ]
  refine ⟨fun e => ?_, fun e => ?_⟩
  · simp (disch := omega) only [↓stp, vls, inf, frs, mark_eq, ↓reduceIte, Nat.reduceEqDiff, ite_tt, ite_ff, eq_self, and_true, true_and, and_self, implies_true, Bool.true_eq_false, Bool.false_eq_true, decide_true, decide_false, decide_eq_true_eq, decide_eq_false_iff_not, ne_eq, not_true_eq_false, not_false_eq_true, Bool.not_eq_true', Bool.not_eq_false', beq_self_eq_true, Bool.not_true, Bool.not_false, List.getElem?_toArray, List.getElem?_cons_zero, List.getElem?_cons_succ]
    have : xs ≠ ys := fun he => e (by rw [he])
    exact ⟨by simp [this], Ext.refl _⟩
  · have hlen : xs.length = ys.length := by omega
    simp (disch := omega) only [↓stp, vls, inf, frs, mark_eq, ↓reduceIte, Nat.reduceEqDiff, ite_tt, ite_ff, eq_self, and_true, true_and, and_self, implies_true, Bool.true_eq_false, Bool.false_eq_true, decide_true, decide_false, decide_eq_true_eq, decide_eq_false_iff_not, ne_eq, not_true_eq_false, not_false_eq_true, Bool.not_eq_true', Bool.not_eq_false', beq_self_eq_true, Bool.not_true, Bool.not_false, List.getElem?_toArray, List.getElem?_cons_zero, List.getElem?_cons_succ]
    refine aloop (fun d fr A' => ∃ i : Nat, i ≤ xs.length ∧ d = xs.length - i ∧ Ext A A' ∧ fr 0 = .slice a xs.length c ∧ fr 1 = .slice a' ys.length c' ∧ fr 5 = .int .i64 i ∧ xs.take i = ys.take i) xs.length ⟨0, by omega, by omega, Ext.refl _, rfl, by rfl, by rfl, by simp⟩ ?_
    rintro d fr A' ⟨i, hi, rfl, he, h0, h1, h5, hn⟩
    simp (disch := omega) only [↓stp, vls, inf, frs, mark_eq, ↓reduceIte, Nat.reduceEqDiff, ite_tt, ite_ff, eq_self, and_true, true_and, and_self, implies_true, Bool.true_eq_false, Bool.false_eq_true, decide_true, decide_false, decide_eq_true_eq, decide_eq_false_iff_not, ne_eq, not_true_eq_false, not_false_eq_true, Bool.not_eq_true', Bool.not_eq_false', beq_self_eq_true, Bool.not_true, Bool.not_false, List.getElem?_toArray, List.getElem?_cons_zero, List.getElem?_cons_succ, h0, h1, h5]
    refine ⟨fun e => ?_, fun e => ?_⟩
    · obtain ⟨ad, d, rfl, hd, hp, _⟩ := (h.mono he).at (i := i) (by omega)
      obtain ⟨ad', d', rfl, hd', hp', _⟩ := (h'.mono he).at (i := i) (by omega)
      have hp : A'.part (ad.add (i * 4)) 4 = some d := hp
      have hp' : A'.part (ad'.add (i * 4)) 4 = some d' := hp'
      simp (disch := omega) only [↓stp, vls, inf, frs, mark_eq, ↓reduceIte, Nat.reduceEqDiff, ite_tt, ite_ff, eq_self, and_true, true_and, and_self, implies_true, Bool.true_eq_false, Bool.false_eq_true, decide_true, decide_false, decide_eq_true_eq, decide_eq_false_iff_not, ne_eq, not_true_eq_false, not_false_eq_true, Bool.not_eq_true', Bool.not_eq_false', beq_self_eq_true, Bool.not_true, Bool.not_false, List.getElem?_toArray, List.getElem?_cons_zero, List.getElem?_cons_succ, h0, h1, h5]
      refine adraw_items [.q 0, .q 1, .q 2, .l 3 false, .q 4, .q 5, .q 6, .l 7 false, .c 8 [], .q 9] (by kernel_rfl) (by kernel_rfl) ?_
      simp (disch := omega) only [↓stp, ↓pln, plv, nilOk, Nat.reduceBEq, Bool.or_false, Bool.or_true, Bool.false_or, Bool.true_or, vls, inf, frs, mark_eq, ↓reduceIte, Nat.reduceEqDiff, ite_tt, ite_ff, eq_self, and_true, true_and, and_self, implies_true, Bool.true_eq_false, Bool.false_eq_true, decide_true, decide_false, decide_eq_true_eq, decide_eq_false_iff_not, ne_eq, not_true_eq_false, not_false_eq_true, Bool.not_eq_true', Bool.not_eq_false', beq_self_eq_true, Bool.not_true, Bool.not_false, List.getElem?_toArray, List.getElem?_cons_zero, List.getElem?_cons_succ, h0, h1, h5, hp, hp']
      refine (eqTest_c A' d d' xs[i] ys[i] hd hd').mono ?_
      rintro _ A1 ⟨rfl, he1⟩
      simp (disch := omega) only [↓stp, ↓pln, plv, nilOk, Nat.reduceBEq, Bool.or_false, Bool.or_true, Bool.false_or, Bool.true_or, vls, inf, frs, mark_eq, ↓reduceIte, Nat.reduceEqDiff, ite_tt, ite_ff, eq_self, and_true, true_and, and_self, implies_true, Bool.true_eq_false, Bool.false_eq_true, decide_true, decide_false, decide_eq_true_eq, decide_eq_false_iff_not, ne_eq, not_true_eq_false, not_false_eq_true, Bool.not_eq_true', Bool.not_eq_false', beq_self_eq_true, Bool.not_true, Bool.not_false, List.getElem?_toArray, List.getElem?_cons_zero, List.getElem?_cons_succ, h0, h1, h5]
      refine ⟨fun e1 => ?_, fun e1 => ?_⟩ <;> simp (disch := omega) only [↓stp, vls, inf, frs, mark_eq, ↓reduceIte, Nat.reduceEqDiff, ite_tt, ite_ff, eq_self, and_true, true_and, and_self, implies_true, Bool.true_eq_false, Bool.false_eq_true, decide_true, decide_false, decide_eq_true_eq, decide_eq_false_iff_not, ne_eq, not_true_eq_false, not_false_eq_true, Bool.not_eq_true', Bool.not_eq_false', beq_self_eq_true, Bool.not_true, Bool.not_false, List.getElem?_toArray, List.getElem?_cons_zero, List.getElem?_cons_succ, h0, h1, h5]
      · have : xs ≠ ys := fun he => e1 (by simp only [he])
        exact ⟨by simp [this], he.trans he1⟩
      · refine ⟨_, by omega, i + 1, by omega, rfl, he.trans he1, rfl, ?_⟩
        rw [List.take_succ_eq_append_getElem (by omega), List.take_succ_eq_append_getElem (by omega), hn]
        have : xs[i] = ys[i] := by simpa using e1
        rw [this]
    · rw [List.take_of_length_le (by omega), List.take_of_length_le (by omega)] at hn
      simp (disch := omega) only [↓stp, vls, inf, frs, mark_eq, ↓reduceIte, Nat.reduceEqDiff, ite_tt, ite_ff, eq_self, and_true, true_and, and_self, implies_true, Bool.true_eq_false, Bool.false_eq_true, decide_true, decide_false, decide_eq_true_eq, decide_eq_false_iff_not, ne_eq, not_true_eq_false, not_false_eq_true, Bool.not_eq_true', Bool.not_eq_false', beq_self_eq_true, Bool.not_true, Bool.not_false, List.getElem?_toArray, List.getElem?_cons_zero, List.getElem?_cons_succ, h0, h1, h5, hn]
      exact he

end Go.Proofs.Ytggklaimbklefaa

/- Valid names and tests. -/
set_option maxHeartbeats 4000000
set_option synthInstance.maxHeartbeats 400000
set_option synthInstance.maxSize 4096
set_option linter.unusedSimpArgs false
set_option linter.unusedVariables false
namespace Go.Proofs.Ytggklaimbklefaa

set_option maxRecDepth 100000

def namesB (xs : List ByteArray) (m : Int) : Bool := xs.all nmOk && decide xs.Nodup && decide ((xs.length : Int) ≤ m)

theorem namesB_len {xs : List ByteArray} {m : Int} (h : namesB xs m = true) : (xs.length : Int) ≤ m := by
  unfold namesB at h
  simp only [Bool.and_eq_true, decide_eq_true_eq] at h
  exact h.2

theorem impl_namesOk_c (A : View) (v : Value) (xs : List ByteArray) (m : Int) (h : Sl strS A v xs) : ACalls Try.prog 91 #[v, .int .i64 m] A fun r A' => r = .bool (namesB xs m) ∧ A' = A := by
  obtain ⟨a, c, rfl, hc, hl⟩ := h.slice
  refine acalls Try.func91 rfl (by kernel_rfl) ?_
  simp (disch := omega) only [↓stp, vls, inf, frs, mark_eq, ↓reduceIte, Nat.reduceEqDiff, ite_tt, ite_ff, eq_self, and_true, true_and, and_self, implies_true, Bool.true_eq_false, Bool.false_eq_true, decide_true, decide_false, decide_eq_true_eq, decide_eq_false_iff_not, ne_eq, not_true_eq_false, not_false_eq_true, Bool.not_eq_true', Bool.not_eq_false', beq_self_eq_true, Bool.not_true, Bool.not_false, List.getElem?_toArray, List.getElem?_cons_zero, List.getElem?_cons_succ]
  refine aloop (fun d fr A' => ∃ i : Nat, i ≤ xs.length ∧ d = xs.length - i ∧ A' = A ∧ fr 0 = .slice a xs.length c ∧ fr 1 = .int .i64 m ∧ fr 7 = .slice a xs.length c ∧ fr 8 = .int .i64 xs.length ∧ fr 9 = .int .i64 i ∧ (xs.take i).all nmOk = true ∧ (xs.take i).Nodup) xs.length ⟨0, by omega, by omega, rfl, rfl, rfl, by rfl, by rfl, by rfl, by simp, by simp⟩ ?_
  rintro d fr A ⟨i, hi, rfl, rfl, h0, h1, h7, h8, h9, hn, hn2⟩
  simp (disch := omega) only [↓stp, vls, inf, frs, mark_eq, ↓reduceIte, Nat.reduceEqDiff, ite_tt, ite_ff, eq_self, and_true, true_and, and_self, implies_true, Bool.true_eq_false, Bool.false_eq_true, decide_true, decide_false, decide_eq_true_eq, decide_eq_false_iff_not, ne_eq, not_true_eq_false, not_false_eq_true, Bool.not_eq_true', Bool.not_eq_false', beq_self_eq_true, Bool.not_true, Bool.not_false, List.getElem?_toArray, List.getElem?_cons_zero, List.getElem?_cons_succ, h0, h1, h7, h8, h9]
  refine ⟨fun e => ?_, fun e => ?_⟩
  · obtain ⟨ad, rfl, hcl, hsz⟩ := h.str (i := i) (by omega)
    simp (disch := omega) only [↓stp, vls, inf, frs, mark_eq, ↓reduceIte, Nat.reduceEqDiff, ite_tt, ite_ff, eq_self, and_true, true_and, and_self, implies_true, Bool.true_eq_false, Bool.false_eq_true, decide_true, decide_false, decide_eq_true_eq, decide_eq_false_iff_not, ne_eq, not_true_eq_false, not_false_eq_true, Bool.not_eq_true', Bool.not_eq_false', beq_self_eq_true, Bool.not_true, Bool.not_false, List.getElem?_toArray, List.getElem?_cons_zero, List.getElem?_cons_succ, h0, h1, h7, h8, h9, hcl]
    refine (impl_nameOk_c A _ hsz).mono ?_
    rintro _ A ⟨rfl, rfl⟩
    simp (disch := omega) only [↓stp, vls, inf, frs, mark_eq, ↓reduceIte, Nat.reduceEqDiff, ite_tt, ite_ff, eq_self, and_true, true_and, and_self, implies_true, Bool.true_eq_false, Bool.false_eq_true, decide_true, decide_false, decide_eq_true_eq, decide_eq_false_iff_not, ne_eq, not_true_eq_false, not_false_eq_true, Bool.not_eq_true', Bool.not_eq_false', beq_self_eq_true, Bool.not_true, Bool.not_false, List.getElem?_toArray, List.getElem?_cons_zero, List.getElem?_cons_succ, h0, h1, h7, h8, h9]
    refine ⟨fun e1 => ?_, fun e1 => ?_⟩ <;> simp (disch := omega) only [↓stp, vls, inf, frs, mark_eq, ↓reduceIte, Nat.reduceEqDiff, ite_tt, ite_ff, eq_self, and_true, true_and, and_self, implies_true, Bool.true_eq_false, Bool.false_eq_true, decide_true, decide_false, decide_eq_true_eq, decide_eq_false_iff_not, ne_eq, not_true_eq_false, not_false_eq_true, Bool.not_eq_true', Bool.not_eq_false', beq_self_eq_true, Bool.not_true, Bool.not_false, List.getElem?_toArray, List.getElem?_cons_zero, List.getElem?_cons_succ, h0, h1, h7, h8, h9, e1]
    · refine (contains_str_c A _ (xs.take i) _ (h.take (by omega) 1)).mono ?_
      rintro _ A ⟨rfl, rfl⟩
      simp (disch := omega) only [↓stp, vls, inf, frs, mark_eq, ↓reduceIte, Nat.reduceEqDiff, ite_tt, ite_ff, eq_self, and_true, true_and, and_self, implies_true, Bool.true_eq_false, Bool.false_eq_true, decide_true, decide_false, decide_eq_true_eq, decide_eq_false_iff_not, ne_eq, not_true_eq_false, not_false_eq_true, Bool.not_eq_true', Bool.not_eq_false', beq_self_eq_true, Bool.not_true, Bool.not_false, List.getElem?_toArray, List.getElem?_cons_zero, List.getElem?_cons_succ, h0, h1, h7, h8, h9, e1]
      refine ⟨fun e2 => ?_, fun e2 => ?_⟩ <;> simp (disch := omega) only [↓stp, vls, inf, frs, mark_eq, ↓reduceIte, Nat.reduceEqDiff, ite_tt, ite_ff, eq_self, and_true, true_and, and_self, implies_true, Bool.true_eq_false, Bool.false_eq_true, decide_true, decide_false, decide_eq_true_eq, decide_eq_false_iff_not, ne_eq, not_true_eq_false, not_false_eq_true, Bool.not_eq_true', Bool.not_eq_false', beq_self_eq_true, Bool.not_true, Bool.not_false, List.getElem?_toArray, List.getElem?_cons_zero, List.getElem?_cons_succ, h0, h1, h7, h8, h9]
      · simp [namesB, nodup_no (by omega) e2]
      · exact ⟨_, by omega, i + 1, by omega, rfl, rfl, all_take (by omega) hn e1, (nodup_take_succ (by omega)).2 ⟨hn2, e2⟩⟩
    · simp [namesB, all_no (p := nmOk) (by omega) e1]
  · simp (disch := omega) only [↓stp, vls, inf, frs, mark_eq, ↓reduceIte, Nat.reduceEqDiff, ite_tt, ite_ff, eq_self, and_true, true_and, and_self, implies_true, Bool.true_eq_false, Bool.false_eq_true, decide_true, decide_false, decide_eq_true_eq, decide_eq_false_iff_not, ne_eq, not_true_eq_false, not_false_eq_true, Bool.not_eq_true', Bool.not_eq_false', beq_self_eq_true, Bool.not_true, Bool.not_false, List.getElem?_toArray, List.getElem?_cons_zero, List.getElem?_cons_succ, h0, h1, h7, h8, h9]
    rw [List.take_of_length_le (by omega)] at hn hn2
    simp [namesB, hn, hn2]

theorem spec_validNames_c (A : View) (v : Value) (xs : List ByteArray) (m : Int) (h : Sl strS A v xs) : ACalls Try.prog 86 #[v, .int .i64 m] A fun r A' => r = .bool (namesB xs m) ∧ A' = A := by
  obtain ⟨a, c, rfl, hc, hl⟩ := h.slice
  refine acalls Try.func86 rfl (by kernel_rfl) ?_
  simp (disch := omega) only [↓stp, vls, inf, frs, mark_eq, ↓reduceIte, Nat.reduceEqDiff, ite_tt, ite_ff, eq_self, and_true, true_and, and_self, implies_true, Bool.true_eq_false, Bool.false_eq_true, decide_true, decide_false, decide_eq_true_eq, decide_eq_false_iff_not, ne_eq, not_true_eq_false, not_false_eq_true, Bool.not_eq_true', Bool.not_eq_false', beq_self_eq_true, Bool.not_true, Bool.not_false, List.getElem?_toArray, List.getElem?_cons_zero, List.getElem?_cons_succ]
  refine aloop (fun d fr A' => ∃ i : Nat, i ≤ xs.length ∧ d = xs.length - i ∧ A' = A ∧ fr 0 = .slice a xs.length c ∧ fr 1 = .int .i64 m ∧ fr 5 = .int .i64 i ∧ (xs.take i).all nmOk = true ∧ (xs.take i).Nodup) xs.length ⟨0, by omega, by omega, rfl, rfl, rfl, by rfl, by simp, by simp⟩ ?_
  rintro d fr A ⟨i, hi, rfl, rfl, h0, h1, h5, hn, hn2⟩
  simp (disch := omega) only [↓stp, vls, inf, frs, mark_eq, ↓reduceIte, Nat.reduceEqDiff, ite_tt, ite_ff, eq_self, and_true, true_and, and_self, implies_true, Bool.true_eq_false, Bool.false_eq_true, decide_true, decide_false, decide_eq_true_eq, decide_eq_false_iff_not, ne_eq, not_true_eq_false, not_false_eq_true, Bool.not_eq_true', Bool.not_eq_false', beq_self_eq_true, Bool.not_true, Bool.not_false, List.getElem?_toArray, List.getElem?_cons_zero, List.getElem?_cons_succ, h0, h1, h5]
  refine ⟨fun e => ?_, fun e => ?_⟩
  · obtain ⟨ad, rfl, hcl, hsz⟩ := h.str (i := i) (by omega)
    simp (disch := omega) only [↓stp, vls, inf, frs, mark_eq, ↓reduceIte, Nat.reduceEqDiff, ite_tt, ite_ff, eq_self, and_true, true_and, and_self, implies_true, Bool.true_eq_false, Bool.false_eq_true, decide_true, decide_false, decide_eq_true_eq, decide_eq_false_iff_not, ne_eq, not_true_eq_false, not_false_eq_true, Bool.not_eq_true', Bool.not_eq_false', beq_self_eq_true, Bool.not_true, Bool.not_false, List.getElem?_toArray, List.getElem?_cons_zero, List.getElem?_cons_succ, h0, h1, h5]
    refine adraw_items [.q 0, .q 1, .q 2, .l 3 false, .c 4 [], .q 5, .q 6, .q 7, .q 8, .q 9, .q 10, .q 11, .q 12, .l 13 false, .c 14 [], .q 15] (by kernel_rfl) (by kernel_rfl) ?_
    simp (disch := omega) only [↓stp, ↓pln, plv, nilOk, Nat.reduceBEq, Bool.or_false, Bool.or_true, Bool.false_or, Bool.true_or, vls, inf, frs, mark_eq, ↓reduceIte, Nat.reduceEqDiff, ite_tt, ite_ff, eq_self, and_true, true_and, and_self, implies_true, Bool.true_eq_false, Bool.false_eq_true, decide_true, decide_false, decide_eq_true_eq, decide_eq_false_iff_not, ne_eq, not_true_eq_false, not_false_eq_true, Bool.not_eq_true', Bool.not_eq_false', beq_self_eq_true, Bool.not_true, Bool.not_false, List.getElem?_toArray, List.getElem?_cons_zero, List.getElem?_cons_succ, h0, h1, h5, hcl]
    refine (spec_validName_c A _ hsz).mono ?_
    rintro _ A ⟨rfl, rfl⟩
    simp (disch := omega) only [↓stp, ↓pln, plv, nilOk, Nat.reduceBEq, Bool.or_false, Bool.or_true, Bool.false_or, Bool.true_or, vls, inf, frs, mark_eq, ↓reduceIte, Nat.reduceEqDiff, ite_tt, ite_ff, eq_self, and_true, true_and, and_self, implies_true, Bool.true_eq_false, Bool.false_eq_true, decide_true, decide_false, decide_eq_true_eq, decide_eq_false_iff_not, ne_eq, not_true_eq_false, not_false_eq_true, Bool.not_eq_true', Bool.not_eq_false', beq_self_eq_true, Bool.not_true, Bool.not_false, List.getElem?_toArray, List.getElem?_cons_zero, List.getElem?_cons_succ, h0, h1, h5, hcl]
    refine ⟨fun e1 => ?_, fun e1 => ?_⟩ <;> simp (disch := omega) only [↓stp, ↓pln, plv, nilOk, Nat.reduceBEq, Bool.or_false, Bool.or_true, Bool.false_or, Bool.true_or, vls, inf, frs, mark_eq, ↓reduceIte, Nat.reduceEqDiff, ite_tt, ite_ff, eq_self, and_true, true_and, and_self, implies_true, Bool.true_eq_false, Bool.false_eq_true, decide_true, decide_false, decide_eq_true_eq, decide_eq_false_iff_not, ne_eq, not_true_eq_false, not_false_eq_true, Bool.not_eq_true', Bool.not_eq_false', beq_self_eq_true, Bool.not_true, Bool.not_false, List.getElem?_toArray, List.getElem?_cons_zero, List.getElem?_cons_succ, h0, h1, h5, hcl, e1]
    · refine (spec_hasText_c A _ (xs.take i) _ (h.take (by omega) 1)).mono ?_
      rintro _ A ⟨rfl, rfl⟩
      simp (disch := omega) only [↓stp, ↓pln, plv, nilOk, Nat.reduceBEq, Bool.or_false, Bool.or_true, Bool.false_or, Bool.true_or, vls, inf, frs, mark_eq, ↓reduceIte, Nat.reduceEqDiff, ite_tt, ite_ff, eq_self, and_true, true_and, and_self, implies_true, Bool.true_eq_false, Bool.false_eq_true, decide_true, decide_false, decide_eq_true_eq, decide_eq_false_iff_not, ne_eq, not_true_eq_false, not_false_eq_true, Bool.not_eq_true', Bool.not_eq_false', beq_self_eq_true, Bool.not_true, Bool.not_false, List.getElem?_toArray, List.getElem?_cons_zero, List.getElem?_cons_succ, h0, h1, h5, e1]
      refine ⟨fun e2 => ?_, fun e2 => ?_⟩ <;> simp (disch := omega) only [↓stp, vls, inf, frs, mark_eq, ↓reduceIte, Nat.reduceEqDiff, ite_tt, ite_ff, eq_self, and_true, true_and, and_self, implies_true, Bool.true_eq_false, Bool.false_eq_true, decide_true, decide_false, decide_eq_true_eq, decide_eq_false_iff_not, ne_eq, not_true_eq_false, not_false_eq_true, Bool.not_eq_true', Bool.not_eq_false', beq_self_eq_true, Bool.not_true, Bool.not_false, List.getElem?_toArray, List.getElem?_cons_zero, List.getElem?_cons_succ, h0, h1, h5]
      · simp [namesB, nodup_no (by omega) e2]
      · exact ⟨_, by omega, i + 1, by omega, rfl, rfl, all_take (by omega) hn e1, (nodup_take_succ (by omega)).2 ⟨hn2, e2⟩⟩
    · simp [namesB, all_no (p := nmOk) (by omega) e1]
  · simp (disch := omega) only [↓stp, vls, inf, frs, mark_eq, ↓reduceIte, Nat.reduceEqDiff, ite_tt, ite_ff, eq_self, and_true, true_and, and_self, implies_true, Bool.true_eq_false, Bool.false_eq_true, decide_true, decide_false, decide_eq_true_eq, decide_eq_false_iff_not, ne_eq, not_true_eq_false, not_false_eq_true, Bool.not_eq_true', Bool.not_eq_false', beq_self_eq_true, Bool.not_true, Bool.not_false, List.getElem?_toArray, List.getElem?_cons_zero, List.getElem?_cons_succ, h0, h1, h5]
    rw [List.take_of_length_le (by omega)] at hn hn2
    simp [namesB, hn, hn2]

/-- No text stands before the one ahead of it. -/
def Asc (xs : List ByteArray) : Prop := ∀ i (h : i < xs.length), 0 < i → sLt xs[i] (xs[i - 1]'(by omega)) = false
noncomputable def ascB (xs : List ByteArray) : Bool := @decide (Asc xs) (Classical.propDecidable _)
theorem ascB_t {xs : List ByteArray} (h : Asc xs) : ascB xs = true := by unfold ascB; exact @decide_eq_true _ (Classical.propDecidable _) h
theorem ascB_f {xs : List ByteArray} (h : ¬ Asc xs) : ascB xs = false := by unfold ascB; exact @decide_eq_false _ (Classical.propDecidable _) h
theorem ascB_iff {xs : List ByteArray} : ascB xs = true ↔ Asc xs := ⟨fun h => Classical.byContradiction fun hn => Bool.noConfusion ((ascB_f hn).symm.trans h), ascB_t⟩

theorem lib_isNaN_c (A : View) (a : ByteArray) : ACalls Try.prog 115 #[.string a] A fun r A' => r = .bool false ∧ A' = A := by
  refine acalls Try.func115 rfl (by kernel_rfl) ?_
  simp (disch := omega) only [↓stp, vls, inf, frs, mark_eq, ↓reduceIte, Nat.reduceEqDiff, ite_tt, ite_ff, eq_self, and_true, true_and, and_self, implies_true, Bool.true_eq_false, Bool.false_eq_true, decide_true, decide_false, decide_eq_true_eq, decide_eq_false_iff_not, ne_eq, not_true_eq_false, not_false_eq_true, Bool.not_eq_true', Bool.not_eq_false', beq_self_eq_true, Bool.not_true, Bool.not_false, List.getElem?_toArray, List.getElem?_cons_zero, List.getElem?_cons_succ]

theorem lib_less_c (A : View) (a b : ByteArray) : ACalls Try.prog 114 #[.string a, .string b] A fun r A' => r = .bool (sLt a b) ∧ A' = A := by
  refine acalls Try.func114 rfl (by kernel_rfl) ?_
  simp (disch := omega) only [↓stp, vls, inf, frs, mark_eq, ↓reduceIte, Nat.reduceEqDiff, ite_tt, ite_ff, eq_self, and_true, true_and, and_self, implies_true, Bool.true_eq_false, Bool.false_eq_true, decide_true, decide_false, decide_eq_true_eq, decide_eq_false_iff_not, ne_eq, not_true_eq_false, not_false_eq_true, Bool.not_eq_true', Bool.not_eq_false', beq_self_eq_true, Bool.not_true, Bool.not_false, List.getElem?_toArray, List.getElem?_cons_zero, List.getElem?_cons_succ]
  refine (lib_isNaN_c A a).mono ?_
  rintro _ A ⟨rfl, rfl⟩
  simp (disch := omega) only [↓stp, vls, inf, frs, mark_eq, ↓reduceIte, Nat.reduceEqDiff, ite_tt, ite_ff, eq_self, and_true, true_and, and_self, implies_true, Bool.true_eq_false, Bool.false_eq_true, decide_true, decide_false, decide_eq_true_eq, decide_eq_false_iff_not, ne_eq, not_true_eq_false, not_false_eq_true, Bool.not_eq_true', Bool.not_eq_false', beq_self_eq_true, Bool.not_true, Bool.not_false, List.getElem?_toArray, List.getElem?_cons_zero, List.getElem?_cons_succ, abin_lts]

theorem isSorted_c (A : View) (v : Value) (xs : List ByteArray) (h : Sl strS A v xs) : ACalls Try.prog 112 #[v] A fun r A' => r = .bool (ascB xs) ∧ A' = A := by
  obtain ⟨a, c, rfl, hc, hl⟩ := h.slice
  refine acalls Try.func112 rfl (by kernel_rfl) ?_
  simp (disch := omega) only [↓stp, vls, inf, frs, mark_eq, ↓reduceIte, Nat.reduceEqDiff, ite_tt, ite_ff, eq_self, and_true, true_and, and_self, implies_true, Bool.true_eq_false, Bool.false_eq_true, decide_true, decide_false, decide_eq_true_eq, decide_eq_false_iff_not, ne_eq, not_true_eq_false, not_false_eq_true, Bool.not_eq_true', Bool.not_eq_false', beq_self_eq_true, Bool.not_true, Bool.not_false, List.getElem?_toArray, List.getElem?_cons_zero, List.getElem?_cons_succ]
  refine aloop (fun d fr A' => ∃ i : Int, -1 ≤ i ∧ i < xs.length ∧ d = (i + 1).toNat ∧ A' = A ∧ fr 0 = .slice a xs.length c ∧ fr 3 = .int .i64 i ∧ (∀ j (hj : j < xs.length), i < j → 0 < j → sLt xs[j] (xs[j - 1]'(by omega)) = false)) xs.length ⟨(xs.length : Int) - 1, by omega, by omega, by omega, rfl, rfl, by rfl, fun j hj h1 => by omega⟩ ?_
  rintro d fr A ⟨i, hi1, hi, rfl, rfl, h0, h3, hn⟩
  simp (disch := omega) only [↓stp, vls, inf, frs, mark_eq, ↓reduceIte, Nat.reduceEqDiff, ite_tt, ite_ff, eq_self, and_true, true_and, and_self, implies_true, Bool.true_eq_false, Bool.false_eq_true, decide_true, decide_false, decide_eq_true_eq, decide_eq_false_iff_not, ne_eq, not_true_eq_false, not_false_eq_true, Bool.not_eq_true', Bool.not_eq_false', beq_self_eq_true, Bool.not_true, Bool.not_false, List.getElem?_toArray, List.getElem?_cons_zero, List.getElem?_cons_succ, h0, h3]
  refine ⟨fun e => ?_, fun e => ?_⟩
  · obtain ⟨m, rfl⟩ : ∃ m : Nat, i = (m : Int) + 1 := ⟨(i - 1).toNat, by omega⟩
    obtain ⟨ad, rfl, k1, _⟩ := h.str (i := m + 1) (by omega)
    obtain ⟨ad', hq, k2, _⟩ := h.str (i := m) (by omega)
    obtain rfl := Option.some.inj hq
    have e1 : ((m : Int) + 1).toNat = m + 1 := by omega
    have e2 : ((m : Int) + 1 - 1).toNat = m := by omega
    simp (disch := omega) only [↓stp, vls, inf, frs, mark_eq, ↓reduceIte, Nat.reduceEqDiff, ite_tt, ite_ff, eq_self, and_true, true_and, and_self, implies_true, Bool.true_eq_false, Bool.false_eq_true, decide_true, decide_false, decide_eq_true_eq, decide_eq_false_iff_not, ne_eq, not_true_eq_false, not_false_eq_true, Bool.not_eq_true', Bool.not_eq_false', beq_self_eq_true, Bool.not_true, Bool.not_false, List.getElem?_toArray, List.getElem?_cons_zero, List.getElem?_cons_succ, h0, h3]
    refine adraw_items [.q 0, .q 1, .q 2, .l 3 false, .q 4, .q 5, .q 6, .q 7, .l 8 false, .c 9 []] (by kernel_rfl) (by kernel_rfl) ?_
    simp (disch := omega) only [↓stp, ↓pln, plv, nilOk, Nat.reduceBEq, Bool.or_false, Bool.or_true, Bool.false_or, Bool.true_or, vls, inf, frs, mark_eq, ↓reduceIte, Nat.reduceEqDiff, ite_tt, ite_ff, eq_self, and_true, true_and, and_self, implies_true, Bool.true_eq_false, Bool.false_eq_true, decide_true, decide_false, decide_eq_true_eq, decide_eq_false_iff_not, ne_eq, not_true_eq_false, not_false_eq_true, Bool.not_eq_true', Bool.not_eq_false', beq_self_eq_true, Bool.not_true, Bool.not_false, List.getElem?_toArray, List.getElem?_cons_zero, List.getElem?_cons_succ, h0, h3, e1, e2, k1, k2]
    refine (lib_less_c A _ _).mono ?_
    rintro _ A ⟨rfl, rfl⟩
    simp (disch := omega) only [↓stp, ↓pln, plv, nilOk, Nat.reduceBEq, Bool.or_false, Bool.or_true, Bool.false_or, Bool.true_or, vls, inf, frs, mark_eq, ↓reduceIte, Nat.reduceEqDiff, ite_tt, ite_ff, eq_self, and_true, true_and, and_self, implies_true, Bool.true_eq_false, Bool.false_eq_true, decide_true, decide_false, decide_eq_true_eq, decide_eq_false_iff_not, ne_eq, not_true_eq_false, not_false_eq_true, Bool.not_eq_true', Bool.not_eq_false', beq_self_eq_true, Bool.not_true, Bool.not_false, List.getElem?_toArray, List.getElem?_cons_zero, List.getElem?_cons_succ, h0, h3, k1, k2]
    refine ⟨fun e3 => ?_, fun e3 => ?_⟩ <;> simp (disch := omega) only [↓stp, vls, inf, frs, mark_eq, ↓reduceIte, Nat.reduceEqDiff, ite_tt, ite_ff, eq_self, and_true, true_and, and_self, implies_true, Bool.true_eq_false, Bool.false_eq_true, decide_true, decide_false, decide_eq_true_eq, decide_eq_false_iff_not, ne_eq, not_true_eq_false, not_false_eq_true, Bool.not_eq_true', Bool.not_eq_false', beq_self_eq_true, Bool.not_true, Bool.not_false, List.getElem?_toArray, List.getElem?_cons_zero, List.getElem?_cons_succ, h0, h3]
    · rw [ascB_f]
      intro hA
      have := hA (m + 1) (by omega) (by omega)
      simp only [Nat.add_sub_cancel] at this
      rw [this] at e3; cases e3
    · refine ⟨_, ?_, (m : Int), by omega, by omega, rfl, by rw [Int.add_sub_cancel], fun j hj h1 h2 => ?_⟩
      · omega
      · by_cases hjm : j = m + 1
        · subst hjm; exact e3
        · exact hn j hj (by omega) h2
  · simp (disch := omega) only [↓stp, vls, inf, frs, mark_eq, ↓reduceIte, Nat.reduceEqDiff, ite_tt, ite_ff, eq_self, and_true, true_and, and_self, implies_true, Bool.true_eq_false, Bool.false_eq_true, decide_true, decide_false, decide_eq_true_eq, decide_eq_false_iff_not, ne_eq, not_true_eq_false, not_false_eq_true, Bool.not_eq_true', Bool.not_eq_false', beq_self_eq_true, Bool.not_true, Bool.not_false, List.getElem?_toArray, List.getElem?_cons_zero, List.getElem?_cons_succ, h0, h3]
    rw [ascB_t fun j hj h2 => hn j hj (by omega) h2]

def AscS (xs : List ByteArray) : Prop := ∀ i (h : i < xs.length), 0 < i → (sLt xs[i] (xs[i - 1]'(by omega)) || decide (xs[i] = xs[i - 1]'(by omega))) = false
theorem ascS_iff {xs : List ByteArray} (hn : xs.Nodup) : AscS xs ↔ Asc xs := by
  constructor
  · intro h i hi h0
    have := h i hi h0
    rw [Bool.or_eq_false_iff] at this
    exact this.1
  · intro h i hi h0
    rw [Bool.or_eq_false_iff]
    refine ⟨h i hi h0, decide_eq_false fun he => ?_⟩
    exact List.pairwise_iff_getElem.1 hn (i - 1) i (by omega) hi (by omega) he.symm

theorem spec_ascending_c (A : View) (v : Value) (xs : List ByteArray) (h : Sl strS A v xs) : ACalls Try.prog 111 #[v] A fun r A' => r = .bool (@decide (AscS xs) (Classical.propDecidable _)) ∧ A' = A := by
  obtain ⟨a, c, rfl, hc, hl⟩ := h.slice
  refine acalls Try.func111 rfl (by kernel_rfl) ?_
  simp (disch := omega) only [↓stp, vls, inf, frs, mark_eq, ↓reduceIte, Nat.reduceEqDiff, ite_tt, ite_ff, eq_self, and_true, true_and, and_self, implies_true, Bool.true_eq_false, Bool.false_eq_true, decide_true, decide_false, decide_eq_true_eq, decide_eq_false_iff_not, ne_eq, not_true_eq_false, not_false_eq_true, Bool.not_eq_true', Bool.not_eq_false', beq_self_eq_true, Bool.not_true, Bool.not_false, List.getElem?_toArray, List.getElem?_cons_zero, List.getElem?_cons_succ]
  refine aloop (fun d fr A' => ∃ i : Nat, 1 ≤ i ∧ d = xs.length + 1 - i ∧ A' = A ∧ fr 0 = .slice a xs.length c ∧ fr 3 = .int .i64 i ∧ (i ≤ xs.length ∨ i = 1) ∧ (∀ j (hj : j < xs.length), j < i → 0 < j → (sLt xs[j] (xs[j - 1]'(by omega)) || decide (xs[j] = xs[j - 1]'(by omega))) = false)) xs.length ⟨1, by omega, by omega, rfl, rfl, by rfl, .inr rfl, fun j hj h1 => by omega⟩ ?_
  rintro d fr A ⟨i, hi1, rfl, rfl, h0, h3, hi, hn⟩
  simp (disch := omega) only [↓stp, vls, inf, frs, mark_eq, ↓reduceIte, Nat.reduceEqDiff, ite_tt, ite_ff, eq_self, and_true, true_and, and_self, implies_true, Bool.true_eq_false, Bool.false_eq_true, decide_true, decide_false, decide_eq_true_eq, decide_eq_false_iff_not, ne_eq, not_true_eq_false, not_false_eq_true, Bool.not_eq_true', Bool.not_eq_false', beq_self_eq_true, Bool.not_true, Bool.not_false, List.getElem?_toArray, List.getElem?_cons_zero, List.getElem?_cons_succ, h0, h3]
  refine ⟨fun e => ?_, fun e => ?_⟩
  · obtain ⟨ad, rfl, k1, _⟩ := h.str (i := i) (by omega)
    obtain ⟨ad', hq, k2, _⟩ := h.str (i := i - 1) (by omega)
    obtain rfl := Option.some.inj hq
    have e2 : ((i : Int) - 1).toNat = i - 1 := by omega
    simp (disch := omega) only [↓stp, vls, inf, frs, mark_eq, ↓reduceIte, Nat.reduceEqDiff, ite_tt, ite_ff, eq_self, and_true, true_and, and_self, implies_true, Bool.true_eq_false, Bool.false_eq_true, decide_true, decide_false, decide_eq_true_eq, decide_eq_false_iff_not, ne_eq, not_true_eq_false, not_false_eq_true, Bool.not_eq_true', Bool.not_eq_false', beq_self_eq_true, Bool.not_true, Bool.not_false, List.getElem?_toArray, List.getElem?_cons_zero, List.getElem?_cons_succ, h0, h3]
    refine adraw_items [.q 0, .q 1, .q 2, .l 3 false, .q 4, .q 5, .q 6, .q 7, .l 8 false, .q 9] (by kernel_rfl) (by kernel_rfl) ?_
    simp (disch := omega) only [↓stp, ↓pln, plv, nilOk, Nat.reduceBEq, Bool.or_false, Bool.or_true, Bool.false_or, Bool.true_or, vls, inf, frs, mark_eq, ↓reduceIte, Nat.reduceEqDiff, ite_tt, ite_ff, eq_self, and_true, true_and, and_self, implies_true, Bool.true_eq_false, Bool.false_eq_true, decide_true, decide_false, decide_eq_true_eq, decide_eq_false_iff_not, ne_eq, not_true_eq_false, not_false_eq_true, Bool.not_eq_true', Bool.not_eq_false', beq_self_eq_true, Bool.not_true, Bool.not_false, List.getElem?_toArray, List.getElem?_cons_zero, List.getElem?_cons_succ, h0, h3, e2, k1, k2, abin_les]
    refine ⟨fun e3 => ?_, fun e3 => ?_⟩ <;> simp (disch := omega) only [↓stp, vls, inf, frs, mark_eq, ↓reduceIte, Nat.reduceEqDiff, ite_tt, ite_ff, eq_self, and_true, true_and, and_self, implies_true, Bool.true_eq_false, Bool.false_eq_true, decide_true, decide_false, decide_eq_true_eq, decide_eq_false_iff_not, ne_eq, not_true_eq_false, not_false_eq_true, Bool.not_eq_true', Bool.not_eq_false', beq_self_eq_true, Bool.not_true, Bool.not_false, List.getElem?_toArray, List.getElem?_cons_zero, List.getElem?_cons_succ, h0, h3]
    · refine congrArg Value.bool (@decide_eq_false _ (Classical.propDecidable _) fun hA => ?_).symm
      rw [hA i (by omega) (by omega)] at e3
      cases e3
    · refine ⟨_, ?_, i + 1, by omega, rfl, rfl, .inl (by omega), fun j hj h1 h2 => ?_⟩
      · omega
      · by_cases hji : j = i
        · subst hji; exact e3
        · exact hn j hj (by omega) h2
  · simp (disch := omega) only [↓stp, vls, inf, frs, mark_eq, ↓reduceIte, Nat.reduceEqDiff, ite_tt, ite_ff, eq_self, and_true, true_and, and_self, implies_true, Bool.true_eq_false, Bool.false_eq_true, decide_true, decide_false, decide_eq_true_eq, decide_eq_false_iff_not, ne_eq, not_true_eq_false, not_false_eq_true, Bool.not_eq_true', Bool.not_eq_false', beq_self_eq_true, Bool.not_true, Bool.not_false, List.getElem?_toArray, List.getElem?_cons_zero, List.getElem?_cons_succ, h0, h3]
    refine congrArg Value.bool (@decide_eq_true _ (Classical.propDecidable _) fun j hj h2 => ?_).symm
    exact hn j hj (by omega) h2

end Go.Proofs.Ytggklaimbklefaa

/- Where a Test stands in a list. -/
set_option maxHeartbeats 4000000
set_option synthInstance.maxHeartbeats 400000
set_option synthInstance.maxSize 4096
set_option linter.unusedSimpArgs false
set_option linter.unusedVariables false
namespace Go.Proofs.Ytggklaimbklefaa

set_option maxRecDepth 100000

end Go.Proofs.Ytggklaimbklefaa

/- Valid tests. -/
set_option maxHeartbeats 4000000
set_option synthInstance.maxHeartbeats 400000
set_option synthInstance.maxSize 4096
set_option linter.unusedSimpArgs false
set_option linter.unusedVariables false
namespace Go.Proofs.Ytggklaimbklefaa

set_option maxRecDepth 100000

noncomputable def testB (x : TestD) : Bool := nmOk x.1 && nmOk x.2.1 && namesB x.2.2.1 3 && ascB x.2.2.1 && namesB x.2.2.2.1 4
/-- The id of a test. -/
def idD (x : TestD) : ByteArray := x.1 ++ ⟨#[46]⟩ ++ x.2.1
theorem idD_size (x : TestD) : (idD x).size = x.1.size + 1 + x.2.1.size := by
  unfold idD
  rw [ByteArray.size_append, ByteArray.size_append]; rfl
theorem nmOk_size {s : ByteArray} (h : nmOk s = true) : s.size ≤ 6 := by
  unfold nmOk at h
  simp only [Bool.and_eq_true, decide_eq_true_eq] at h
  omega
theorem testB_id {x : TestD} (h : testB x = true) : (idD x).size ≤ 13 := by
  unfold testB at h
  simp only [Bool.and_eq_true] at h
  have h1 := nmOk_size h.1.1.1.1
  have h2 := nmOk_size h.1.1.1.2
  rw [idD_size]
  omega
theorem namesB_nodup {xs : List ByteArray} {m : Int} (h : namesB xs m = true) : xs.Nodup := by
  unfold namesB at h
  simp only [Bool.and_eq_true, decide_eq_true_eq] at h
  exact h.1.2

theorem impl_testOk_c (A : View) (d : List Value) (x : TestD) (h : testS.rel A x d) : ACalls Try.prog 105 #[.agg d.toArray] A fun r A' => r = .bool (testB x) ∧ Ext A A' := by
  obtain ⟨u2, u3, rfl, z1, z2, g2, g3⟩ := testS_open h
  obtain ⟨a2, c2, rfl, _, _⟩ := g2.slice
  obtain ⟨a3, c3, rfl, _, _⟩ := g3.slice
  refine acalls Try.func105 rfl (by kernel_rfl) ?_
  simp (disch := omega) only [↓stp, vls, inf, frs, mark_eq, ↓reduceIte, Nat.reduceEqDiff, ite_tt, ite_ff, eq_self, and_true, true_and, and_self, implies_true, Bool.true_eq_false, Bool.false_eq_true, decide_true, decide_false, decide_eq_true_eq, decide_eq_false_iff_not, ne_eq, not_true_eq_false, not_false_eq_true, Bool.not_eq_true', Bool.not_eq_false', beq_self_eq_true, Bool.not_true, Bool.not_false, List.getElem?_toArray, List.getElem?_cons_zero, List.getElem?_cons_succ]
  refine led_box (Led.nil A) rfl fun q V he l => ?_
  have k0 := l.cell (i := 0) rfl (o := 0) rfl rfl
  have k1 := l.cell (i := 0) rfl (o := 1) rfl rfl
  have k2 := l.cell (i := 0) rfl (o := 2) rfl rfl
  have k3 := l.cell (i := 0) rfl (o := 3) rfl rfl
  simp (disch := omega) only [↓stp, vls, inf, frs, mark_eq, ↓reduceIte, Nat.reduceEqDiff, ite_tt, ite_ff, eq_self, and_true, true_and, and_self, implies_true, Bool.true_eq_false, Bool.false_eq_true, decide_true, decide_false, decide_eq_true_eq, decide_eq_false_iff_not, ne_eq, not_true_eq_false, not_false_eq_true, Bool.not_eq_true', Bool.not_eq_false', beq_self_eq_true, Bool.not_true, Bool.not_false, List.getElem?_toArray, List.getElem?_cons_zero, List.getElem?_cons_succ, add_at, k0]
  refine (impl_nameOk_c V _ z1).mono ?_
  rintro _ V ⟨rfl, rfl⟩
  simp (disch := omega) only [↓stp, vls, inf, frs, mark_eq, ↓reduceIte, Nat.reduceEqDiff, ite_tt, ite_ff, eq_self, and_true, true_and, and_self, implies_true, Bool.true_eq_false, Bool.false_eq_true, decide_true, decide_false, decide_eq_true_eq, decide_eq_false_iff_not, ne_eq, not_true_eq_false, not_false_eq_true, Bool.not_eq_true', Bool.not_eq_false', beq_self_eq_true, Bool.not_true, Bool.not_false, List.getElem?_toArray, List.getElem?_cons_zero, List.getElem?_cons_succ]
  unfold testB
  refine ⟨fun e1 => ?_, fun e1 => ?_⟩ <;> simp (disch := omega) only [↓stp, vls, inf, frs, mark_eq, ↓reduceIte, Nat.reduceEqDiff, ite_tt, ite_ff, eq_self, and_true, true_and, and_self, implies_true, Bool.true_eq_false, Bool.false_eq_true, decide_true, decide_false, decide_eq_true_eq, decide_eq_false_iff_not, ne_eq, not_true_eq_false, not_false_eq_true, Bool.not_eq_true', Bool.not_eq_false', beq_self_eq_true, Bool.not_true, Bool.not_false, List.getElem?_toArray, List.getElem?_cons_zero, List.getElem?_cons_succ, e1, add_at, k1]
  · refine (impl_nameOk_c V _ z2).mono ?_
    rintro _ V ⟨rfl, rfl⟩
    simp (disch := omega) only [↓stp, vls, inf, frs, mark_eq, ↓reduceIte, Nat.reduceEqDiff, ite_tt, ite_ff, eq_self, and_true, true_and, and_self, implies_true, Bool.true_eq_false, Bool.false_eq_true, decide_true, decide_false, decide_eq_true_eq, decide_eq_false_iff_not, ne_eq, not_true_eq_false, not_false_eq_true, Bool.not_eq_true', Bool.not_eq_false', beq_self_eq_true, Bool.not_true, Bool.not_false, List.getElem?_toArray, List.getElem?_cons_zero, List.getElem?_cons_succ, e1, Bool.true_and]
    refine ⟨fun e2 => ?_, fun e2 => ?_⟩ <;> simp (disch := omega) only [↓stp, vls, inf, frs, mark_eq, ↓reduceIte, Nat.reduceEqDiff, ite_tt, ite_ff, eq_self, and_true, true_and, and_self, implies_true, Bool.true_eq_false, Bool.false_eq_true, decide_true, decide_false, decide_eq_true_eq, decide_eq_false_iff_not, ne_eq, not_true_eq_false, not_false_eq_true, Bool.not_eq_true', Bool.not_eq_false', beq_self_eq_true, Bool.not_true, Bool.not_false, List.getElem?_toArray, List.getElem?_cons_zero, List.getElem?_cons_succ, e1, e2, add_at, k2, Bool.true_and, Bool.false_and]
    · refine (impl_namesOk_c V _ _ 3 (g2.mono he)).mono ?_
      rintro _ V ⟨rfl, rfl⟩
      simp (disch := omega) only [↓stp, vls, inf, frs, mark_eq, ↓reduceIte, Nat.reduceEqDiff, ite_tt, ite_ff, eq_self, and_true, true_and, and_self, implies_true, Bool.true_eq_false, Bool.false_eq_true, decide_true, decide_false, decide_eq_true_eq, decide_eq_false_iff_not, ne_eq, not_true_eq_false, not_false_eq_true, Bool.not_eq_true', Bool.not_eq_false', beq_self_eq_true, Bool.not_true, Bool.not_false, List.getElem?_toArray, List.getElem?_cons_zero, List.getElem?_cons_succ, e1, e2]
      refine ⟨fun e3 => ?_, fun e3 => ?_⟩ <;> simp (disch := omega) only [↓stp, vls, inf, frs, mark_eq, ↓reduceIte, Nat.reduceEqDiff, ite_tt, ite_ff, eq_self, and_true, true_and, and_self, implies_true, Bool.true_eq_false, Bool.false_eq_true, decide_true, decide_false, decide_eq_true_eq, decide_eq_false_iff_not, ne_eq, not_true_eq_false, not_false_eq_true, Bool.not_eq_true', Bool.not_eq_false', beq_self_eq_true, Bool.not_true, Bool.not_false, List.getElem?_toArray, List.getElem?_cons_zero, List.getElem?_cons_succ, e1, e2, e3, add_at, k2, Bool.true_and, Bool.false_and]
      · refine (isSorted_c V _ _ (g2.mono he)).mono ?_
        rintro _ V ⟨rfl, rfl⟩
        simp (disch := omega) only [↓stp, vls, inf, frs, mark_eq, ↓reduceIte, Nat.reduceEqDiff, ite_tt, ite_ff, eq_self, and_true, true_and, and_self, implies_true, Bool.true_eq_false, Bool.false_eq_true, decide_true, decide_false, decide_eq_true_eq, decide_eq_false_iff_not, ne_eq, not_true_eq_false, not_false_eq_true, Bool.not_eq_true', Bool.not_eq_false', beq_self_eq_true, Bool.not_true, Bool.not_false, List.getElem?_toArray, List.getElem?_cons_zero, List.getElem?_cons_succ, e1, e2, e3]
        refine ⟨fun e4 => ?_, fun e4 => ?_⟩ <;> simp (disch := omega) only [↓stp, vls, inf, frs, mark_eq, ↓reduceIte, Nat.reduceEqDiff, ite_tt, ite_ff, eq_self, and_true, true_and, and_self, implies_true, Bool.true_eq_false, Bool.false_eq_true, decide_true, decide_false, decide_eq_true_eq, decide_eq_false_iff_not, ne_eq, not_true_eq_false, not_false_eq_true, Bool.not_eq_true', Bool.not_eq_false', beq_self_eq_true, Bool.not_true, Bool.not_false, List.getElem?_toArray, List.getElem?_cons_zero, List.getElem?_cons_succ, e1, e2, e3, e4, add_at, k3, Bool.true_and, Bool.false_and]
        · refine (impl_namesOk_c V _ _ 4 (g3.mono he)).mono ?_
          rintro _ V ⟨rfl, rfl⟩
          simp (disch := omega) only [↓stp, vls, inf, frs, mark_eq, ↓reduceIte, Nat.reduceEqDiff, ite_tt, ite_ff, eq_self, and_true, true_and, and_self, implies_true, Bool.true_eq_false, Bool.false_eq_true, decide_true, decide_false, decide_eq_true_eq, decide_eq_false_iff_not, ne_eq, not_true_eq_false, not_false_eq_true, Bool.not_eq_true', Bool.not_eq_false', beq_self_eq_true, Bool.not_true, Bool.not_false, List.getElem?_toArray, List.getElem?_cons_zero, List.getElem?_cons_succ, e1, e2, e3, e4]
          exact ⟨rfl, he⟩
        · exact he
      · exact he
    · exact he
  · simp only [Bool.false_and]
    exact ⟨trivial, he⟩

theorem impl_idOf_c (A : View) (d : List Value) (x : TestD) (h : testS.rel A x d) : ACalls Try.prog 44 #[.agg d.toArray] A fun r A' => r = .string (idD x) ∧ Ext A A' := by
  obtain ⟨u2, u3, rfl, z1, z2, g2, g3⟩ := testS_open h
  obtain ⟨a2, c2, rfl, _, _⟩ := g2.slice
  obtain ⟨a3, c3, rfl, _, _⟩ := g3.slice
  refine acalls Try.func44 rfl (by kernel_rfl) ?_
  simp (disch := omega) only [↓stp, vls, inf, frs, mark_eq, ↓reduceIte, Nat.reduceEqDiff, ite_tt, ite_ff, eq_self, and_true, true_and, and_self, implies_true, Bool.true_eq_false, Bool.false_eq_true, decide_true, decide_false, decide_eq_true_eq, decide_eq_false_iff_not, ne_eq, not_true_eq_false, not_false_eq_true, Bool.not_eq_true', Bool.not_eq_false', beq_self_eq_true, Bool.not_true, Bool.not_false, List.getElem?_toArray, List.getElem?_cons_zero, List.getElem?_cons_succ]
  refine led_box (Led.nil A) rfl fun q V he l => ?_
  have k0 := l.cell (i := 0) rfl (o := 0) rfl rfl
  have k1 := l.cell (i := 0) rfl (o := 1) rfl rfl
  have hz : (x.1 ++ (⟨#[46]⟩ : ByteArray)).size = x.1.size + 1 := by rw [ByteArray.size_append]; rfl
  simp (disch := omega) only [↓stp, vls, inf, frs, mark_eq, ↓reduceIte, Nat.reduceEqDiff, ite_tt, ite_ff, eq_self, and_true, true_and, and_self, implies_true, Bool.true_eq_false, Bool.false_eq_true, decide_true, decide_false, decide_eq_true_eq, decide_eq_false_iff_not, ne_eq, not_true_eq_false, not_false_eq_true, Bool.not_eq_true', Bool.not_eq_false', beq_self_eq_true, Bool.not_true, Bool.not_false, List.getElem?_toArray, List.getElem?_cons_zero, List.getElem?_cons_succ, add_at, k0]
  rw [abin_cat _ _ _ (by show _ + 1 ≤ _; omega)]
  simp (disch := omega) only [↓stp, vls, inf, frs, mark_eq, ↓reduceIte, Nat.reduceEqDiff, ite_tt, ite_ff, eq_self, and_true, true_and, and_self, implies_true, Bool.true_eq_false, Bool.false_eq_true, decide_true, decide_false, decide_eq_true_eq, decide_eq_false_iff_not, ne_eq, not_true_eq_false, not_false_eq_true, Bool.not_eq_true', Bool.not_eq_false', beq_self_eq_true, Bool.not_true, Bool.not_false, List.getElem?_toArray, List.getElem?_cons_zero, List.getElem?_cons_succ, add_at, k1]
  exact ⟨rfl, he⟩

theorem spec_idOf_c (A : View) (d : List Value) (x : TestD) (h : testS.rel A x d) : ACalls Try.prog 52 #[.agg d.toArray] A fun r A' => r = .string (idD x) ∧ Ext A A' := by
  obtain ⟨u2, u3, rfl, z1, z2, g2, g3⟩ := testS_open h
  obtain ⟨a2, c2, rfl, _, _⟩ := g2.slice
  obtain ⟨a3, c3, rfl, _, _⟩ := g3.slice
  refine acalls Try.func52 rfl (by kernel_rfl) ?_
  simp (disch := omega) only [↓stp, vls, inf, frs, mark_eq, ↓reduceIte, Nat.reduceEqDiff, ite_tt, ite_ff, eq_self, and_true, true_and, and_self, implies_true, Bool.true_eq_false, Bool.false_eq_true, decide_true, decide_false, decide_eq_true_eq, decide_eq_false_iff_not, ne_eq, not_true_eq_false, not_false_eq_true, Bool.not_eq_true', Bool.not_eq_false', beq_self_eq_true, Bool.not_true, Bool.not_false, List.getElem?_toArray, List.getElem?_cons_zero, List.getElem?_cons_succ]
  refine led_box (Led.nil A) rfl fun q V he l => ?_
  have k0 := l.cell (i := 0) rfl (o := 0) rfl rfl
  have k1 := l.cell (i := 0) rfl (o := 1) rfl rfl
  have hz : (x.1 ++ (⟨#[46]⟩ : ByteArray)).size = x.1.size + 1 := by rw [ByteArray.size_append]; rfl
  simp (disch := omega) only [↓stp, vls, inf, frs, mark_eq, ↓reduceIte, Nat.reduceEqDiff, ite_tt, ite_ff, eq_self, and_true, true_and, and_self, implies_true, Bool.true_eq_false, Bool.false_eq_true, decide_true, decide_false, decide_eq_true_eq, decide_eq_false_iff_not, ne_eq, not_true_eq_false, not_false_eq_true, Bool.not_eq_true', Bool.not_eq_false', beq_self_eq_true, Bool.not_true, Bool.not_false, List.getElem?_toArray, List.getElem?_cons_zero, List.getElem?_cons_succ, add_at, k0]
  rw [abin_cat _ _ _ (by show _ + 1 ≤ _; omega)]
  simp (disch := omega) only [↓stp, vls, inf, frs, mark_eq, ↓reduceIte, Nat.reduceEqDiff, ite_tt, ite_ff, eq_self, and_true, true_and, and_self, implies_true, Bool.true_eq_false, Bool.false_eq_true, decide_true, decide_false, decide_eq_true_eq, decide_eq_false_iff_not, ne_eq, not_true_eq_false, not_false_eq_true, Bool.not_eq_true', Bool.not_eq_false', beq_self_eq_true, Bool.not_true, Bool.not_false, List.getElem?_toArray, List.getElem?_cons_zero, List.getElem?_cons_succ, add_at, k1]
  exact ⟨rfl, he⟩

noncomputable def testsB (xs : List TestD) : Bool := xs.all testB && decide (xs.map idD).Nodup && decide (xs.length ≤ 10)

theorem map_take2 {α β : Type} {f : α → β} {xs : List α} {i : Nat} : (xs.take i).map f = (xs.map f).take i := List.map_take

theorem spec_findTest_c (A : View) (v : Value) (xs : List TestD) (id : ByteArray) (h : Sl testS A v xs) : ACalls Try.prog 80 #[v, .string id] A fun r A' => r = .int .i64 (idxI (fun x => decide (idD x = id)) xs) ∧ Ext A A' := by
  obtain ⟨a, c, rfl, hc, hl⟩ := h.slice
  refine acalls Try.func80 rfl (by kernel_rfl) ?_
  simp (disch := omega) only [↓stp, vls, inf, frs, mark_eq, ↓reduceIte, Nat.reduceEqDiff, ite_tt, ite_ff, eq_self, and_true, true_and, and_self, implies_true, Bool.true_eq_false, Bool.false_eq_true, decide_true, decide_false, decide_eq_true_eq, decide_eq_false_iff_not, ne_eq, not_true_eq_false, not_false_eq_true, Bool.not_eq_true', Bool.not_eq_false', beq_self_eq_true, Bool.not_true, Bool.not_false, List.getElem?_toArray, List.getElem?_cons_zero, List.getElem?_cons_succ]
  refine aloop (fun d fr V => ∃ i : Nat, i ≤ xs.length ∧ d = xs.length - i ∧ Ext A V ∧ fr 0 = .slice a xs.length c ∧ fr 1 = .string id ∧ fr 5 = .int .i64 i ∧ (∀ j (hj : j < i) (hl : j < xs.length), decide (idD xs[j] = id) = false)) xs.length ⟨0, by omega, by omega, Ext.refl _, rfl, rfl, by rfl, by omega⟩ ?_
  rintro d fr V ⟨i, hi, rfl, he, h0, h1, h5, hn⟩
  simp (disch := omega) only [↓stp, vls, inf, frs, mark_eq, ↓reduceIte, Nat.reduceEqDiff, ite_tt, ite_ff, eq_self, and_true, true_and, and_self, implies_true, Bool.true_eq_false, Bool.false_eq_true, decide_true, decide_false, decide_eq_true_eq, decide_eq_false_iff_not, ne_eq, not_true_eq_false, not_false_eq_true, Bool.not_eq_true', Bool.not_eq_false', beq_self_eq_true, Bool.not_true, Bool.not_false, List.getElem?_toArray, List.getElem?_cons_zero, List.getElem?_cons_succ, h0, h1, h5]
  refine ⟨fun e => ?_, fun e => ?_⟩
  · have hlt : i < xs.length := by omega
    obtain ⟨ad, d, rfl, hd, hcl, _⟩ := (h.mono he).at hlt
    have hcl : V.part (ad.add (i * 4)) 4 = some d := hcl
    simp (disch := omega) only [↓stp, vls, inf, frs, mark_eq, ↓reduceIte, Nat.reduceEqDiff, ite_tt, ite_ff, eq_self, and_true, true_and, and_self, implies_true, Bool.true_eq_false, Bool.false_eq_true, decide_true, decide_false, decide_eq_true_eq, decide_eq_false_iff_not, ne_eq, not_true_eq_false, not_false_eq_true, Bool.not_eq_true', Bool.not_eq_false', beq_self_eq_true, Bool.not_true, Bool.not_false, List.getElem?_toArray, List.getElem?_cons_zero, List.getElem?_cons_succ, h0, h1, h5, hcl]
    refine (spec_idOf_c V d xs[i] hd).mono ?_
    rintro _ V2 ⟨rfl, he2⟩
    simp (disch := omega) only [↓stp, vls, inf, frs, mark_eq, ↓reduceIte, Nat.reduceEqDiff, ite_tt, ite_ff, eq_self, and_true, true_and, and_self, implies_true, Bool.true_eq_false, Bool.false_eq_true, decide_true, decide_false, decide_eq_true_eq, decide_eq_false_iff_not, ne_eq, not_true_eq_false, not_false_eq_true, Bool.not_eq_true', Bool.not_eq_false', beq_self_eq_true, Bool.not_true, Bool.not_false, List.getElem?_toArray, List.getElem?_cons_zero, List.getElem?_cons_succ, h0, h1, h5]
    refine ⟨fun e1 => ?_, fun e1 => ?_⟩ <;> simp (disch := omega) only [↓stp, vls, inf, frs, mark_eq, ↓reduceIte, Nat.reduceEqDiff, ite_tt, ite_ff, eq_self, and_true, true_and, and_self, implies_true, Bool.true_eq_false, Bool.false_eq_true, decide_true, decide_false, decide_eq_true_eq, decide_eq_false_iff_not, ne_eq, not_true_eq_false, not_false_eq_true, Bool.not_eq_true', Bool.not_eq_false', beq_self_eq_true, Bool.not_true, Bool.not_false, List.getElem?_toArray, List.getElem?_cons_zero, List.getElem?_cons_succ, h0, h1, h5]
    · rw [idxI_found hlt (fun j hj => hn j hj (by omega)) (decide_eq_true e1)]
      exact ⟨rfl, he.trans he2⟩
    · refine ⟨_, by omega, i + 1, by omega, rfl, he.trans he2, rfl, fun j hj hl => ?_⟩
      by_cases hji : j = i
      · subst hji; exact e1
      · exact of_decide_eq_false (hn j (by omega) hl)
  · simp (disch := omega) only [↓stp, vls, inf, frs, mark_eq, ↓reduceIte, Nat.reduceEqDiff, ite_tt, ite_ff, eq_self, and_true, true_and, and_self, implies_true, Bool.true_eq_false, Bool.false_eq_true, decide_true, decide_false, decide_eq_true_eq, decide_eq_false_iff_not, ne_eq, not_true_eq_false, not_false_eq_true, Bool.not_eq_true', Bool.not_eq_false', beq_self_eq_true, Bool.not_true, Bool.not_false, List.getElem?_toArray, List.getElem?_cons_zero, List.getElem?_cons_succ, h0, h1, h5]
    rw [idxI_none (fun j hj => hn j (by omega) hj)]
    exact ⟨rfl, he⟩

theorem spec_validTest_c (A : View) (d : List Value) (x : TestD) (h : testS.rel A x d) : ACalls Try.prog 103 #[.agg d.toArray] A fun r A' => r = .bool (testB x) ∧ Ext A A' := by
  obtain ⟨u2, u3, rfl, z1, z2, g2, g3⟩ := testS_open h
  obtain ⟨a2, c2, rfl, _, _⟩ := g2.slice
  obtain ⟨a3, c3, rfl, _, _⟩ := g3.slice
  refine acalls Try.func103 rfl (by kernel_rfl) ?_
  simp (disch := omega) only [↓stp, vls, inf, frs, mark_eq, ↓reduceIte, Nat.reduceEqDiff, ite_tt, ite_ff, eq_self, and_true, true_and, and_self, implies_true, Bool.true_eq_false, Bool.false_eq_true, decide_true, decide_false, decide_eq_true_eq, decide_eq_false_iff_not, ne_eq, not_true_eq_false, not_false_eq_true, Bool.not_eq_true', Bool.not_eq_false', beq_self_eq_true, Bool.not_true, Bool.not_false, List.getElem?_toArray, List.getElem?_cons_zero, List.getElem?_cons_succ]
  refine led_box (Led.nil A) rfl fun q V he l => ?_
  have k0 := l.cell (i := 0) rfl (o := 0) rfl rfl
  have k1 := l.cell (i := 0) rfl (o := 1) rfl rfl
  have k2 := l.cell (i := 0) rfl (o := 2) rfl rfl
  have k3 := l.cell (i := 0) rfl (o := 3) rfl rfl
  simp (disch := omega) only [↓stp, vls, inf, frs, mark_eq, ↓reduceIte, Nat.reduceEqDiff, ite_tt, ite_ff, eq_self, and_true, true_and, and_self, implies_true, Bool.true_eq_false, Bool.false_eq_true, decide_true, decide_false, decide_eq_true_eq, decide_eq_false_iff_not, ne_eq, not_true_eq_false, not_false_eq_true, Bool.not_eq_true', Bool.not_eq_false', beq_self_eq_true, Bool.not_true, Bool.not_false, List.getElem?_toArray, List.getElem?_cons_zero, List.getElem?_cons_succ, add_at, k0]
  refine (spec_validName_c V _ z1).mono ?_
  rintro _ V ⟨rfl, rfl⟩
  simp (disch := omega) only [↓stp, vls, inf, frs, mark_eq, ↓reduceIte, Nat.reduceEqDiff, ite_tt, ite_ff, eq_self, and_true, true_and, and_self, implies_true, Bool.true_eq_false, Bool.false_eq_true, decide_true, decide_false, decide_eq_true_eq, decide_eq_false_iff_not, ne_eq, not_true_eq_false, not_false_eq_true, Bool.not_eq_true', Bool.not_eq_false', beq_self_eq_true, Bool.not_true, Bool.not_false, List.getElem?_toArray, List.getElem?_cons_zero, List.getElem?_cons_succ]
  unfold testB
  refine ⟨fun e1 => ?_, fun e1 => ?_⟩ <;> simp (disch := omega) only [↓stp, vls, inf, frs, mark_eq, ↓reduceIte, Nat.reduceEqDiff, ite_tt, ite_ff, eq_self, and_true, true_and, and_self, implies_true, Bool.true_eq_false, Bool.false_eq_true, decide_true, decide_false, decide_eq_true_eq, decide_eq_false_iff_not, ne_eq, not_true_eq_false, not_false_eq_true, Bool.not_eq_true', Bool.not_eq_false', beq_self_eq_true, Bool.not_true, Bool.not_false, List.getElem?_toArray, List.getElem?_cons_zero, List.getElem?_cons_succ, e1, add_at, k1]
  · refine (spec_validName_c V _ z2).mono ?_
    rintro _ V ⟨rfl, rfl⟩
    simp (disch := omega) only [↓stp, vls, inf, frs, mark_eq, ↓reduceIte, Nat.reduceEqDiff, ite_tt, ite_ff, eq_self, and_true, true_and, and_self, implies_true, Bool.true_eq_false, Bool.false_eq_true, decide_true, decide_false, decide_eq_true_eq, decide_eq_false_iff_not, ne_eq, not_true_eq_false, not_false_eq_true, Bool.not_eq_true', Bool.not_eq_false', beq_self_eq_true, Bool.not_true, Bool.not_false, List.getElem?_toArray, List.getElem?_cons_zero, List.getElem?_cons_succ, e1, Bool.true_and]
    refine ⟨fun e2 => ?_, fun e2 => ?_⟩ <;> simp (disch := omega) only [↓stp, vls, inf, frs, mark_eq, ↓reduceIte, Nat.reduceEqDiff, ite_tt, ite_ff, eq_self, and_true, true_and, and_self, implies_true, Bool.true_eq_false, Bool.false_eq_true, decide_true, decide_false, decide_eq_true_eq, decide_eq_false_iff_not, ne_eq, not_true_eq_false, not_false_eq_true, Bool.not_eq_true', Bool.not_eq_false', beq_self_eq_true, Bool.not_true, Bool.not_false, List.getElem?_toArray, List.getElem?_cons_zero, List.getElem?_cons_succ, e1, e2, add_at, k2, Bool.true_and, Bool.false_and]
    · refine (spec_validNames_c V _ _ 3 (g2.mono he)).mono ?_
      rintro _ V ⟨rfl, rfl⟩
      simp (disch := omega) only [↓stp, vls, inf, frs, mark_eq, ↓reduceIte, Nat.reduceEqDiff, ite_tt, ite_ff, eq_self, and_true, true_and, and_self, implies_true, Bool.true_eq_false, Bool.false_eq_true, decide_true, decide_false, decide_eq_true_eq, decide_eq_false_iff_not, ne_eq, not_true_eq_false, not_false_eq_true, Bool.not_eq_true', Bool.not_eq_false', beq_self_eq_true, Bool.not_true, Bool.not_false, List.getElem?_toArray, List.getElem?_cons_zero, List.getElem?_cons_succ, e1, e2]
      refine ⟨fun e3 => ?_, fun e3 => ?_⟩ <;> simp (disch := omega) only [↓stp, vls, inf, frs, mark_eq, ↓reduceIte, Nat.reduceEqDiff, ite_tt, ite_ff, eq_self, and_true, true_and, and_self, implies_true, Bool.true_eq_false, Bool.false_eq_true, decide_true, decide_false, decide_eq_true_eq, decide_eq_false_iff_not, ne_eq, not_true_eq_false, not_false_eq_true, Bool.not_eq_true', Bool.not_eq_false', beq_self_eq_true, Bool.not_true, Bool.not_false, List.getElem?_toArray, List.getElem?_cons_zero, List.getElem?_cons_succ, e1, e2, e3, add_at, k2, Bool.true_and, Bool.false_and]
      · refine (spec_ascending_c V _ _ (g2.mono he)).mono ?_
        have hq : @decide (AscS x.2.2.1) (Classical.propDecidable _) = ascB x.2.2.1 := by
          unfold ascB
          congr 1
          exact propext (ascS_iff (namesB_nodup e3))
        rw [hq]
        rintro _ V ⟨rfl, rfl⟩
        simp (disch := omega) only [↓stp, vls, inf, frs, mark_eq, ↓reduceIte, Nat.reduceEqDiff, ite_tt, ite_ff, eq_self, and_true, true_and, and_self, implies_true, Bool.true_eq_false, Bool.false_eq_true, decide_true, decide_false, decide_eq_true_eq, decide_eq_false_iff_not, ne_eq, not_true_eq_false, not_false_eq_true, Bool.not_eq_true', Bool.not_eq_false', beq_self_eq_true, Bool.not_true, Bool.not_false, List.getElem?_toArray, List.getElem?_cons_zero, List.getElem?_cons_succ, e1, e2, e3]
        refine ⟨fun e4 => ?_, fun e4 => ?_⟩ <;> simp (disch := omega) only [↓stp, vls, inf, frs, mark_eq, ↓reduceIte, Nat.reduceEqDiff, ite_tt, ite_ff, eq_self, and_true, true_and, and_self, implies_true, Bool.true_eq_false, Bool.false_eq_true, decide_true, decide_false, decide_eq_true_eq, decide_eq_false_iff_not, ne_eq, not_true_eq_false, not_false_eq_true, Bool.not_eq_true', Bool.not_eq_false', beq_self_eq_true, Bool.not_true, Bool.not_false, List.getElem?_toArray, List.getElem?_cons_zero, List.getElem?_cons_succ, e1, e2, e3, e4, add_at, k3, Bool.true_and, Bool.false_and]
        · refine (spec_validNames_c V _ _ 4 (g3.mono he)).mono ?_
          rintro _ V ⟨rfl, rfl⟩
          simp (disch := omega) only [↓stp, vls, inf, frs, mark_eq, ↓reduceIte, Nat.reduceEqDiff, ite_tt, ite_ff, eq_self, and_true, true_and, and_self, implies_true, Bool.true_eq_false, Bool.false_eq_true, decide_true, decide_false, decide_eq_true_eq, decide_eq_false_iff_not, ne_eq, not_true_eq_false, not_false_eq_true, Bool.not_eq_true', Bool.not_eq_false', beq_self_eq_true, Bool.not_true, Bool.not_false, List.getElem?_toArray, List.getElem?_cons_zero, List.getElem?_cons_succ, e1, e2, e3, e4]
          exact ⟨rfl, he⟩
        · exact he
      · exact he
    · exact he
  · simp only [Bool.false_and]
    exact ⟨trivial, he⟩

theorem idx_in {xs : List TestD} {id : ByteArray} : (0 ≤ idxI (fun x => decide (idD x = id)) xs) ↔ id ∈ xs.map idD := by
  rw [idxI_ge, List.any_eq_true, List.mem_map]
  simp

theorem spec_validTests_c (A : View) (v : Value) (xs : List TestD) (h : Sl testS A v xs) : ACalls Try.prog 87 #[v] A fun r A' => r = .bool (testsB xs) ∧ Ext A A' := by
  obtain ⟨a, c, rfl, hc, hl⟩ := h.slice
  refine acalls Try.func87 rfl (by kernel_rfl) ?_
  simp (disch := omega) only [↓stp, vls, inf, frs, mark_eq, ↓reduceIte, Nat.reduceEqDiff, ite_tt, ite_ff, eq_self, and_true, true_and, and_self, implies_true, Bool.true_eq_false, Bool.false_eq_true, decide_true, decide_false, decide_eq_true_eq, decide_eq_false_iff_not, ne_eq, not_true_eq_false, not_false_eq_true, Bool.not_eq_true', Bool.not_eq_false', beq_self_eq_true, Bool.not_true, Bool.not_false, List.getElem?_toArray, List.getElem?_cons_zero, List.getElem?_cons_succ]
  refine aloop (fun d fr V => ∃ i : Nat, i ≤ xs.length ∧ d = xs.length - i ∧ Ext A V ∧ fr 0 = .slice a xs.length c ∧ fr 3 = .int .i64 i ∧ (xs.take i).all testB = true ∧ ((xs.map idD).take i).Nodup) xs.length ⟨0, by omega, by omega, Ext.refl _, rfl, by rfl, by simp, by simp⟩ ?_
  rintro d fr V ⟨i, hi, rfl, he, h0, h3, hn, hn2⟩
  simp (disch := omega) only [↓stp, vls, inf, frs, mark_eq, ↓reduceIte, Nat.reduceEqDiff, ite_tt, ite_ff, eq_self, and_true, true_and, and_self, implies_true, Bool.true_eq_false, Bool.false_eq_true, decide_true, decide_false, decide_eq_true_eq, decide_eq_false_iff_not, ne_eq, not_true_eq_false, not_false_eq_true, Bool.not_eq_true', Bool.not_eq_false', beq_self_eq_true, Bool.not_true, Bool.not_false, List.getElem?_toArray, List.getElem?_cons_zero, List.getElem?_cons_succ, h0, h3]
  refine ⟨fun e => ?_, fun e => ?_⟩
  · have hlt : i < xs.length := by omega
    have hg : (xs.map idD)[i]'(by rw [List.length_map]; exact hlt) = idD xs[i] := by rw [List.getElem_map]
    obtain ⟨ad, d, rfl, hd, hcl, _⟩ := (h.mono he).at hlt
    have hcl : V.part (ad.add (i * 4)) 4 = some d := hcl
    simp (disch := omega) only [↓stp, vls, inf, frs, mark_eq, ↓reduceIte, Nat.reduceEqDiff, ite_tt, ite_ff, eq_self, and_true, true_and, and_self, implies_true, Bool.true_eq_false, Bool.false_eq_true, decide_true, decide_false, decide_eq_true_eq, decide_eq_false_iff_not, ne_eq, not_true_eq_false, not_false_eq_true, Bool.not_eq_true', Bool.not_eq_false', beq_self_eq_true, Bool.not_true, Bool.not_false, List.getElem?_toArray, List.getElem?_cons_zero, List.getElem?_cons_succ, h0, h3]
    refine adraw_items [.q 0, .q 1, .q 2, .l 3 false, .c 4 [], .q 5, .q 6, .q 7, .q 8, .q 9, .q 10, .q 11, .q 12, .l 13 false, .c 14 [], .c 15 [], .q 16, .q 17] (by kernel_rfl) (by kernel_rfl) ?_
    simp (disch := omega) only [↓stp, ↓pln, plv, nilOk, Nat.reduceBEq, Bool.or_false, Bool.or_true, Bool.false_or, Bool.true_or, vls, inf, frs, mark_eq, ↓reduceIte, Nat.reduceEqDiff, ite_tt, ite_ff, eq_self, and_true, true_and, and_self, implies_true, Bool.true_eq_false, Bool.false_eq_true, decide_true, decide_false, decide_eq_true_eq, decide_eq_false_iff_not, ne_eq, not_true_eq_false, not_false_eq_true, Bool.not_eq_true', Bool.not_eq_false', beq_self_eq_true, Bool.not_true, Bool.not_false, List.getElem?_toArray, List.getElem?_cons_zero, List.getElem?_cons_succ, h0, h3, hcl]
    refine (spec_validTest_c V d xs[i] hd).mono ?_
    rintro _ V2 ⟨rfl, he2⟩
    obtain ⟨_, d', hq, hd', hcl', _⟩ := (h.mono (he.trans he2)).at hlt
    obtain rfl := Option.some.inj hq
    have hcl' : V2.part (ad.add (i * 4)) 4 = some d' := hcl'
    simp (disch := omega) only [↓stp, ↓pln, plv, nilOk, Nat.reduceBEq, Bool.or_false, Bool.or_true, Bool.false_or, Bool.true_or, vls, inf, frs, mark_eq, ↓reduceIte, Nat.reduceEqDiff, ite_tt, ite_ff, eq_self, and_true, true_and, and_self, implies_true, Bool.true_eq_false, Bool.false_eq_true, decide_true, decide_false, decide_eq_true_eq, decide_eq_false_iff_not, ne_eq, not_true_eq_false, not_false_eq_true, Bool.not_eq_true', Bool.not_eq_false', beq_self_eq_true, Bool.not_true, Bool.not_false, List.getElem?_toArray, List.getElem?_cons_zero, List.getElem?_cons_succ, h0, h3, hcl']
    refine ⟨fun e1 => ?_, fun e1 => ?_⟩ <;> simp (disch := omega) only [↓stp, ↓pln, plv, nilOk, Nat.reduceBEq, Bool.or_false, Bool.or_true, Bool.false_or, Bool.true_or, vls, inf, frs, mark_eq, ↓reduceIte, Nat.reduceEqDiff, ite_tt, ite_ff, eq_self, and_true, true_and, and_self, implies_true, Bool.true_eq_false, Bool.false_eq_true, decide_true, decide_false, decide_eq_true_eq, decide_eq_false_iff_not, ne_eq, not_true_eq_false, not_false_eq_true, Bool.not_eq_true', Bool.not_eq_false', beq_self_eq_true, Bool.not_true, Bool.not_false, List.getElem?_toArray, List.getElem?_cons_zero, List.getElem?_cons_succ, h0, h3, e1, hcl']
    · refine (spec_idOf_c V2 d' xs[i] hd').mono ?_
      rintro _ V3 ⟨rfl, he3⟩
      have hcl3 : V3.part (ad.add (i * 4)) 4 = some d' := he3.part hcl'
      simp (disch := omega) only [↓stp, ↓pln, plv, nilOk, Nat.reduceBEq, Bool.or_false, Bool.or_true, Bool.false_or, Bool.true_or, vls, inf, frs, mark_eq, ↓reduceIte, Nat.reduceEqDiff, ite_tt, ite_ff, eq_self, and_true, true_and, and_self, implies_true, Bool.true_eq_false, Bool.false_eq_true, decide_true, decide_false, decide_eq_true_eq, decide_eq_false_iff_not, ne_eq, not_true_eq_false, not_false_eq_true, Bool.not_eq_true', Bool.not_eq_false', beq_self_eq_true, Bool.not_true, Bool.not_false, List.getElem?_toArray, List.getElem?_cons_zero, List.getElem?_cons_succ, h0, h3, e1, hcl3]
      refine (spec_findTest_c V3 _ (xs.take i) _ ((h.mono (he.trans (he2.trans he3))).take (by omega) 4)).mono ?_
      rintro _ V4 ⟨rfl, he4⟩
      have hE := he.trans (he2.trans (he3.trans he4))
      simp (disch := omega) only [↓stp, ↓pln, plv, nilOk, Nat.reduceBEq, Bool.or_false, Bool.or_true, Bool.false_or, Bool.true_or, vls, inf, frs, mark_eq, ↓reduceIte, Nat.reduceEqDiff, ite_tt, ite_ff, eq_self, and_true, true_and, and_self, implies_true, Bool.true_eq_false, Bool.false_eq_true, decide_true, decide_false, decide_eq_true_eq, decide_eq_false_iff_not, ne_eq, not_true_eq_false, not_false_eq_true, Bool.not_eq_true', Bool.not_eq_false', beq_self_eq_true, Bool.not_true, Bool.not_false, List.getElem?_toArray, List.getElem?_cons_zero, List.getElem?_cons_succ, h0, h3, e1]
      refine ⟨fun e2 => ?_, fun e2 => ?_⟩ <;> simp (disch := omega) only [↓stp, vls, inf, frs, mark_eq, ↓reduceIte, Nat.reduceEqDiff, ite_tt, ite_ff, eq_self, and_true, true_and, and_self, implies_true, Bool.true_eq_false, Bool.false_eq_true, decide_true, decide_false, decide_eq_true_eq, decide_eq_false_iff_not, ne_eq, not_true_eq_false, not_false_eq_true, Bool.not_eq_true', Bool.not_eq_false', beq_self_eq_true, Bool.not_true, Bool.not_false, List.getElem?_toArray, List.getElem?_cons_zero, List.getElem?_cons_succ, h0, h3]
      · rw [idx_in, map_take2, ← hg] at e2
        refine ⟨?_, hE⟩
        have : ¬ (xs.map idD).Nodup := nodup_no _ e2
        simp [testsB, this]
      · rw [idx_in, map_take2, ← hg] at e2
        exact ⟨_, by omega, i + 1, by omega, rfl, hE, rfl, all_take hlt hn e1, (nodup_take_succ (by rw [List.length_map]; exact hlt)).2 ⟨hn2, e2⟩⟩
    · refine ⟨?_, he.trans he2⟩
      simp [testsB, all_no (p := testB) hlt e1]
  · simp (disch := omega) only [↓stp, vls, inf, frs, mark_eq, ↓reduceIte, Nat.reduceEqDiff, ite_tt, ite_ff, eq_self, and_true, true_and, and_self, implies_true, Bool.true_eq_false, Bool.false_eq_true, decide_true, decide_false, decide_eq_true_eq, decide_eq_false_iff_not, ne_eq, not_true_eq_false, not_false_eq_true, Bool.not_eq_true', Bool.not_eq_false', beq_self_eq_true, Bool.not_true, Bool.not_false, List.getElem?_toArray, List.getElem?_cons_zero, List.getElem?_cons_succ, h0, h3]
    rw [List.take_of_length_le (by omega)] at hn
    rw [List.take_of_length_le (by rw [List.length_map]; omega)] at hn2
    refine ⟨?_, he⟩
    unfold testsB
    rw [hn, decide_eq_true hn2]
    congr 1
    rw [Bool.true_and, Bool.true_and]
    exact decide_eq_decide.2 (by omega)

theorem impl_validTests_c (A : View) (v : Value) (xs : List TestD) (h : Sl testS A v xs) (hsm : xs.length ≤ 16777215) : ACalls Try.prog 92 #[v] A fun r A' => r = .bool (testsB xs) ∧ Ext A A' := by
  obtain ⟨a, c, rfl, hc, hl⟩ := h.slice
  refine acalls Try.func92 rfl (by kernel_rfl) ?_
  simp (disch := omega) only [↓stp, vls, inf, frs, mark_eq, ↓reduceIte, Nat.reduceEqDiff, ite_tt, ite_ff, eq_self, and_true, true_and, and_self, implies_true, Bool.true_eq_false, Bool.false_eq_true, decide_true, decide_false, decide_eq_true_eq, decide_eq_false_iff_not, ne_eq, not_true_eq_false, not_false_eq_true, Bool.not_eq_true', Bool.not_eq_false', beq_self_eq_true, Bool.not_true, Bool.not_false, List.getElem?_toArray, List.getElem?_cons_zero, List.getElem?_cons_succ]
  refine led_lit0 (O := strO) li54 (Led.nil A) fun b V _ l => ?_
  simp (disch := omega) only [↓stp, vls, inf, frs, mark_eq, ↓reduceIte, Nat.reduceEqDiff, ite_tt, ite_ff, eq_self, and_true, true_and, and_self, implies_true, Bool.true_eq_false, Bool.false_eq_true, decide_true, decide_false, decide_eq_true_eq, decide_eq_false_iff_not, ne_eq, not_true_eq_false, not_false_eq_true, Bool.not_eq_true', Bool.not_eq_false', beq_self_eq_true, Bool.not_true, Bool.not_false, List.getElem?_toArray, List.getElem?_cons_zero, List.getElem?_cons_succ]
  refine aloop (fun d fr V => ∃ (i : Nat) (fp : List Nat) (w : Value), i ≤ xs.length ∧ d = xs.length - i ∧ Led A [osl 9 strO fp w ((xs.map idD).take i)] V ∧ fr 0 = .slice a xs.length c ∧ fr 3 = w ∧ fr 7 = .slice a xs.length c ∧ fr 8 = .int .i64 xs.length ∧ fr 9 = .int .i64 i ∧ (xs.take i).all testB = true ∧ ((xs.map idD).take i).Nodup) xs.length ⟨0, _, _, by omega, by omega, l, rfl, by rfl, by rfl, by rfl, by rfl, by simp, by simp⟩ ?_
  rintro d fr V ⟨i, fp, w, hi, rfl, l, h0, h3, h7, h8, h9, hn, hn2⟩
  simp (disch := omega) only [↓stp, vls, inf, frs, mark_eq, ↓reduceIte, Nat.reduceEqDiff, ite_tt, ite_ff, eq_self, and_true, true_and, and_self, implies_true, Bool.true_eq_false, Bool.false_eq_true, decide_true, decide_false, decide_eq_true_eq, decide_eq_false_iff_not, ne_eq, not_true_eq_false, not_false_eq_true, Bool.not_eq_true', Bool.not_eq_false', beq_self_eq_true, Bool.not_true, Bool.not_false, List.getElem?_toArray, List.getElem?_cons_zero, List.getElem?_cons_succ, h0, h3, h7, h8, h9]
  refine ⟨fun e => ?_, fun e => ?_⟩
  · have hlt : i < xs.length := by omega
    have hg : (xs.map idD)[i]'(by rw [List.length_map]; exact hlt) = idD xs[i] := by rw [List.getElem_map]
    obtain ⟨ad, u2, u3, rfl, hclA, z1, z2, g2, g3⟩ := h.test hlt
    obtain ⟨a2, c2, rfl, _, _⟩ := g2.slice
    obtain ⟨a3, c3, rfl, _, _⟩ := g3.slice
    have hx : ∀ V3, Ext A V3 → testS.rel V3 xs[i] [.string (xs[i]).1, .string (xs[i]).2.1, .slice a2 (xs[i]).2.2.1.length c2, .slice a3 (xs[i]).2.2.2.1.length c3] := fun V3 hE => testS_mk z1 z2 (g2.mono hE) (g3.mono hE)
    have hcl := l.ext.part hclA
    simp (disch := omega) only [↓stp, vls, inf, frs, mark_eq, ↓reduceIte, Nat.reduceEqDiff, ite_tt, ite_ff, eq_self, and_true, true_and, and_self, implies_true, Bool.true_eq_false, Bool.false_eq_true, decide_true, decide_false, decide_eq_true_eq, decide_eq_false_iff_not, ne_eq, not_true_eq_false, not_false_eq_true, Bool.not_eq_true', Bool.not_eq_false', beq_self_eq_true, Bool.not_true, Bool.not_false, List.getElem?_toArray, List.getElem?_cons_zero, List.getElem?_cons_succ, h0, h3, h7, h8, h9, hcl]
    refine led_alloc zc78 l fun q V1 he1 l => ?_
    simp (disch := omega) only [↓stp, vls, inf, frs, mark_eq, ↓reduceIte, Nat.reduceEqDiff, ite_tt, ite_ff, eq_self, and_true, true_and, and_self, implies_true, Bool.true_eq_false, Bool.false_eq_true, decide_true, decide_false, decide_eq_true_eq, decide_eq_false_iff_not, ne_eq, not_true_eq_false, not_false_eq_true, Bool.not_eq_true', Bool.not_eq_false', beq_self_eq_true, Bool.not_true, Bool.not_false, List.getElem?_toArray, List.getElem?_cons_zero, List.getElem?_cons_succ, h0, h3, h7, h8, h9]
    refine led_storeAll l 0 rfl sz78 rfl rfl (by simp [Value.oneCell']) fun V2 l => ?_
    have kp : V2.part ⟨q, 0, none⟩ 4 = some _ := l.partn (i := 0) rfl rfl (by simp [Value.oneCell'])
    simp (disch := omega) only [↓stp, vls, inf, frs, mark_eq, ↓reduceIte, Nat.reduceEqDiff, ite_tt, ite_ff, eq_self, and_true, true_and, and_self, implies_true, Bool.true_eq_false, Bool.false_eq_true, decide_true, decide_false, decide_eq_true_eq, decide_eq_false_iff_not, ne_eq, not_true_eq_false, not_false_eq_true, Bool.not_eq_true', Bool.not_eq_false', beq_self_eq_true, Bool.not_true, Bool.not_false, List.getElem?_toArray, List.getElem?_cons_zero, List.getElem?_cons_succ, h0, h3, h7, h8, h9, kp]
    refine (impl_testOk_c V2 _ xs[i] (hx _ l.ext)).mono ?_
    rintro _ V3 ⟨rfl, he3⟩
    replace l := l.step he3
    replace kp := he3.part kp
    simp (disch := omega) only [↓stp, vls, inf, frs, mark_eq, ↓reduceIte, Nat.reduceEqDiff, ite_tt, ite_ff, eq_self, and_true, true_and, and_self, implies_true, Bool.true_eq_false, Bool.false_eq_true, decide_true, decide_false, decide_eq_true_eq, decide_eq_false_iff_not, ne_eq, not_true_eq_false, not_false_eq_true, Bool.not_eq_true', Bool.not_eq_false', beq_self_eq_true, Bool.not_true, Bool.not_false, List.getElem?_toArray, List.getElem?_cons_zero, List.getElem?_cons_succ, h0, h3, h7, h8, h9]
    refine ⟨fun e1 => ?_, fun e1 => ?_⟩ <;> simp (disch := omega) only [↓stp, vls, inf, frs, mark_eq, ↓reduceIte, Nat.reduceEqDiff, ite_tt, ite_ff, eq_self, and_true, true_and, and_self, implies_true, Bool.true_eq_false, Bool.false_eq_true, decide_true, decide_false, decide_eq_true_eq, decide_eq_false_iff_not, ne_eq, not_true_eq_false, not_false_eq_true, Bool.not_eq_true', Bool.not_eq_false', beq_self_eq_true, Bool.not_true, Bool.not_false, List.getElem?_toArray, List.getElem?_cons_zero, List.getElem?_cons_succ, h0, h3, h7, h8, h9, e1, kp]
    · refine (impl_idOf_c V3 _ xs[i] (hx _ l.ext)).mono ?_
      rintro _ V4 ⟨rfl, he4⟩
      replace l := l.step he4
      replace kp := he4.part kp
      simp (disch := omega) only [↓stp, vls, inf, frs, mark_eq, ↓reduceIte, Nat.reduceEqDiff, ite_tt, ite_ff, eq_self, and_true, true_and, and_self, implies_true, Bool.true_eq_false, Bool.false_eq_true, decide_true, decide_false, decide_eq_true_eq, decide_eq_false_iff_not, ne_eq, not_true_eq_false, not_false_eq_true, Bool.not_eq_true', Bool.not_eq_false', beq_self_eq_true, Bool.not_true, Bool.not_false, List.getElem?_toArray, List.getElem?_cons_zero, List.getElem?_cons_succ, h0, h3, h7, h8, h9, e1]
      have hS : Sl strS V4 w ((xs.map idD).take i) := OSl.toS (show OSl 9 strO V4 fp w _ from l.at (i := 1) rfl)
      refine (contains_str_c V4 w _ _ hS).mono ?_
      rintro _ V4 ⟨rfl, rfl⟩
      simp (disch := omega) only [↓stp, vls, inf, frs, mark_eq, ↓reduceIte, Nat.reduceEqDiff, ite_tt, ite_ff, eq_self, and_true, true_and, and_self, implies_true, Bool.true_eq_false, Bool.false_eq_true, decide_true, decide_false, decide_eq_true_eq, decide_eq_false_iff_not, ne_eq, not_true_eq_false, not_false_eq_true, Bool.not_eq_true', Bool.not_eq_false', beq_self_eq_true, Bool.not_true, Bool.not_false, List.getElem?_toArray, List.getElem?_cons_zero, List.getElem?_cons_succ, h0, h3, h7, h8, h9, e1]
      refine ⟨fun e2 => ?_, fun e2 => ?_⟩ <;> simp (disch := omega) only [↓stp, vls, inf, frs, mark_eq, ↓reduceIte, Nat.reduceEqDiff, ite_tt, ite_ff, eq_self, and_true, true_and, and_self, implies_true, Bool.true_eq_false, Bool.false_eq_true, decide_true, decide_false, decide_eq_true_eq, decide_eq_false_iff_not, ne_eq, not_true_eq_false, not_false_eq_true, Bool.not_eq_true', Bool.not_eq_false', beq_self_eq_true, Bool.not_true, Bool.not_false, List.getElem?_toArray, List.getElem?_cons_zero, List.getElem?_cons_succ, h0, h3, h7, h8, h9, kp]
      · rw [← hg] at e2
        have : ¬ (xs.map idD).Nodup := nodup_no _ e2
        exact ⟨by simp [testsB, this], l.ext⟩
      · refine (impl_idOf_c V4 _ xs[i] (hx _ l.ext)).mono ?_
        rintro _ V5 ⟨rfl, he5⟩
        replace l := l.step he5
        simp (disch := omega) only [↓stp, vls, inf, frs, mark_eq, ↓reduceIte, Nat.reduceEqDiff, ite_tt, ite_ff, eq_self, and_true, true_and, and_self, implies_true, Bool.true_eq_false, Bool.false_eq_true, decide_true, decide_false, decide_eq_true_eq, decide_eq_false_iff_not, ne_eq, not_true_eq_false, not_false_eq_true, Bool.not_eq_true', Bool.not_eq_false', beq_self_eq_true, Bool.not_true, Bool.not_false, List.getElem?_toArray, List.getElem?_cons_zero, List.getElem?_cons_succ, h0, h3, h7, h8, h9]
        refine led_lit li54 (by omega) rfl (fun p hp => by rcases List.mem_singleton.1 hp with rfl; exact ⟨rfl, rfl⟩) l fun bl V6 _ l => ?_
        simp (disch := omega) only [↓stp, vls, inf, frs, mark_eq, ↓reduceIte, Nat.reduceEqDiff, ite_tt, ite_ff, eq_self, and_true, true_and, and_self, implies_true, Bool.true_eq_false, Bool.false_eq_true, decide_true, decide_false, decide_eq_true_eq, decide_eq_false_iff_not, ne_eq, not_true_eq_false, not_false_eq_true, Bool.not_eq_true', Bool.not_eq_false', beq_self_eq_true, Bool.not_true, Bool.not_false, List.getElem?_toArray, List.getElem?_cons_zero, List.getElem?_cons_succ, h0, h3, h7, h8, h9]
        refine led_app (O := strO) ap54_54 (by decide) l (i := 2) rfl (l.src1 (S := strS) (j := 0) rfl ⟨rfl, by have := testB_id e1; omega⟩) (by rw [List.length_singleton, List.length_take]; omega) fun fp2 w2 V7 _ l => ?_
        simp (disch := omega) only [↓stp, vls, inf, frs, mark_eq, ↓reduceIte, Nat.reduceEqDiff, ite_tt, ite_ff, eq_self, and_true, true_and, and_self, implies_true, Bool.true_eq_false, Bool.false_eq_true, decide_true, decide_false, decide_eq_true_eq, decide_eq_false_iff_not, ne_eq, not_true_eq_false, not_false_eq_true, Bool.not_eq_true', Bool.not_eq_false', beq_self_eq_true, Bool.not_true, Bool.not_false, List.getElem?_toArray, List.getElem?_cons_zero, List.getElem?_cons_succ, h0, h3, h7, h8, h9]
        have l2 : Led A [osl 9 strO fp2 w2 ((xs.map idD).take (i + 1))] V7 := by
          rw [List.take_succ_eq_append_getElem (by rw [List.length_map]; exact hlt), hg]
          exact l.tail.tail
        rw [← hg] at e2
        exact ⟨_, by omega, i + 1, _, _, by omega, rfl, l2, rfl, rfl, all_take hlt hn e1, (nodup_take_succ (by rw [List.length_map]; exact hlt)).2 ⟨hn2, e2⟩⟩
    · refine ⟨?_, l.ext⟩
      simp [testsB, all_no (p := testB) hlt e1]
  · simp (disch := omega) only [↓stp, vls, inf, frs, mark_eq, ↓reduceIte, Nat.reduceEqDiff, ite_tt, ite_ff, eq_self, and_true, true_and, and_self, implies_true, Bool.true_eq_false, Bool.false_eq_true, decide_true, decide_false, decide_eq_true_eq, decide_eq_false_iff_not, ne_eq, not_true_eq_false, not_false_eq_true, Bool.not_eq_true', Bool.not_eq_false', beq_self_eq_true, Bool.not_true, Bool.not_false, List.getElem?_toArray, List.getElem?_cons_zero, List.getElem?_cons_succ, h0, h3, h7, h8, h9]
    rw [List.take_of_length_le (by omega)] at hn
    rw [List.take_of_length_le (by rw [List.length_map]; omega)] at hn2
    refine ⟨?_, l.ext⟩
    unfold testsB
    rw [hn, decide_eq_true hn2]
    congr 1
    rw [Bool.true_and, Bool.true_and]
    exact decide_eq_decide.2 (by omega)

end Go.Proofs.Ytggklaimbklefaa

/- The helpers of the laws for Fixture: counted, copied, compared, marked. -/
set_option maxHeartbeats 4000000
set_option synthInstance.maxHeartbeats 400000
set_option synthInstance.maxSize 4096
set_option linter.unusedSimpArgs false
set_option linter.unusedVariables false
namespace Go.Proofs.Ytggklaimbklefaa

set_option maxRecDepth 100000

abbrev FixtureD := ByteArray × Int × List ByteArray × Bool × Unit

def fixtureS : Shape FixtureD := consS strS (consS intS (consS (slS strS) (consS boolS unitS)))

def fixtureO : OwnS FixtureD := consO strO (consO intO (consO (slO 9 strO) (consO boolO unitO)))

def fixtureT : GT FixtureD := consT strT (consT intT (consT (slT 9 strT) (consT boolT unitT)))

theorem fixtureS_open {A : View} {x : FixtureD} {d : List Value} (h : fixtureS.rel A x d) : ∃ uu2 : Value, d = [.string x.1, .int .i64 x.2.1, uu2, .bool x.2.2.2.1] ∧ x.1.size ≤ 140737488355328 ∧ (-9223372036854775808 ≤ x.2.1 ∧ x.2.1 < 9223372036854775808) ∧ Sl strS A uu2 x.2.2.1 := by
  obtain ⟨_, _, rfl, ⟨rfl, hh0⟩, ⟨_, _, rfl, ⟨rfl, hh1⟩, ⟨_, _, rfl, ⟨uu2, rfl, hh2⟩, ⟨_, _, rfl, rfl, rfl⟩⟩⟩⟩ := h
  exact ⟨uu2, rfl, hh0, hh1, hh2⟩

theorem fixtureS_mk {A : View} {x : FixtureD} {uu2 : Value} (hh0 : x.1.size ≤ 140737488355328) (hh1 : (-9223372036854775808 ≤ x.2.1 ∧ x.2.1 < 9223372036854775808)) (hh2 : Sl strS A uu2 x.2.2.1) : fixtureS.rel A x [.string x.1, .int .i64 x.2.1, uu2, .bool x.2.2.2.1] := ⟨_, _, rfl, ⟨rfl, hh0⟩, ⟨_, _, rfl, ⟨rfl, hh1⟩, ⟨_, _, rfl, ⟨_, rfl, hh2⟩, ⟨_, _, rfl, rfl, rfl⟩⟩⟩⟩

theorem fixtureO_open {A : View} {fp : List Nat} {x : FixtureD} {d : List Value} (h : fixtureO.rel A fp x d) : ∃ (ff2 : List Nat) (uu2 : Value), ff2 = fp ∧ d = [.string x.1, .int .i64 x.2.1, uu2, .bool x.2.2.2.1] ∧ x.1.size ≤ 140737488355328 ∧ (-9223372036854775808 ≤ x.2.1 ∧ x.2.1 < 9223372036854775808) ∧ OSl 9 strO A ff2 uu2 x.2.2.1 := by
  obtain ⟨_, _, _, _, rfl, rfl, ⟨rfl, rfl, hh0⟩, ⟨_, _, _, _, rfl, rfl, ⟨rfl, rfl, hh1⟩, ⟨_, _, _, _, rfl, rfl, ⟨uu2, rfl, hh2⟩, ⟨_, _, _, _, rfl, rfl, ⟨rfl, rfl⟩, ⟨rfl, rfl⟩⟩⟩⟩⟩ := h
  exact ⟨_, uu2, by simp, rfl, hh0, hh1, hh2⟩

theorem fixtureO_mk {A : View} {x : FixtureD} {ff2 : List Nat} {uu2 : Value} (hh0 : x.1.size ≤ 140737488355328) (hh1 : (-9223372036854775808 ≤ x.2.1 ∧ x.2.1 < 9223372036854775808)) (hh2 : OSl 9 strO A ff2 uu2 x.2.2.1) : fixtureO.rel A (ff2) x [.string x.1, .int .i64 x.2.1, uu2, .bool x.2.2.2.1] := ⟨[], ff2, [.string x.1], _, by simp, rfl, ⟨rfl, rfl, hh0⟩, ⟨[], ff2, [.int .i64 x.2.1], _, by simp, rfl, ⟨rfl, rfl, hh1⟩, ⟨ff2, [], [uu2], _, by simp, rfl, ⟨_, rfl, hh2⟩, ⟨[], [], [.bool x.2.2.2.1], _, by simp, rfl, ⟨rfl, rfl⟩, ⟨rfl, rfl⟩⟩⟩⟩⟩

theorem fixtureO_S {A : View} {fp : List Nat} {x : FixtureD} {d : List Value} (h : fixtureO.rel A fp x d) : fixtureS.rel A x d := fixtureO.toS h

theorem fixtureT_w (x : FixtureD) : fixtureT.w x = x.1.size + (0 + ((x.2.2.1.length + wL strT x.2.2.1) + (0 + 0))) := rfl

theorem fixtureT_cnt (x : FixtureD) : fixtureT.cnt x = 1 + (1 + (cntL strT x.2.2.1 + (1 + 0))) := rfl

theorem fixtureT_le (x : FixtureD) : fixtureT.cnt x ≤ 4 + 4 * fixtureT.w x := by
  rw [fixtureT_cnt, fixtureT_w]
  have e2 := cntL_str_le x.2.2.1
  omega

theorem fixtureL_le : ∀ (xs : List FixtureD), cntL fixtureT xs ≤ 4 * (xs.length + wL fixtureT xs)
  | [] => by simp [cntL]
  | x :: xs => by
    have := fixtureT_le x
    have := fixtureL_le xs
    simp only [cntL, wL, List.length_cons]
    omega

theorem Sl.fixture {A : View} {a : Option Addr} {n c : Nat} {xs : List FixtureD} (h : Sl fixtureS A (.slice a n c) xs) {i : Nat} (hi : i < xs.length) : ∃ (ad : Addr) (uu2 : Value), a = some ad ∧ A.part (ad.add (i * 4)) 4 = some [.string (xs[i]).1, .int .i64 (xs[i]).2.1, uu2, .bool (xs[i]).2.2.2.1] ∧ (xs[i]).1.size ≤ 140737488355328 ∧ (-9223372036854775808 ≤ (xs[i]).2.1 ∧ (xs[i]).2.1 < 9223372036854775808) ∧ Sl strS A uu2 (xs[i]).2.2.1 := by
  obtain ⟨ad, d, h1, h2, h3, _⟩ := h.at hi
  obtain ⟨uu2, rfl, hh0, hh1, hh2⟩ := fixtureS_open h2
  exact ⟨ad, uu2, h1, h3, hh0, hh1, hh2⟩

theorem szFixture_c (A : View) (d : List Value) (x : FixtureD) (k : Int) (h : fixtureS.rel A x d) (hk : 0 ≤ k ∧ k ≤ 1048576) : ACalls Try.prog 63 #[.agg d.toArray, .int .i64 k] A fun r A' => (∃ j : Int, r = .int .i64 j ∧ (j = -1 ∨ (0 ≤ j ∧ j + fixtureT.w x = k))) ∧ Ext A A' := by
  obtain ⟨uu2, rfl, hh0, hh1, hh2⟩ := fixtureS_open h
  obtain ⟨aa2, cc2, rfl, hc2, hl2⟩ := hh2.slice
  have hw := fixtureT_w x
  refine acalls Try.func63 rfl (by kernel_rfl) ?_
  simp (disch := omega) only [↓stp, vls, inf, frs, mark_eq, ↓reduceIte, Nat.reduceEqDiff, ite_tt, ite_ff, eq_self, and_true, true_and, and_self, implies_true, Bool.true_eq_false, Bool.false_eq_true, decide_true, decide_false, decide_eq_true_eq, decide_eq_false_iff_not, ne_eq, not_true_eq_false, not_false_eq_true, Bool.not_eq_true', Bool.not_eq_false', beq_self_eq_true, Bool.not_true, Bool.not_false, List.getElem?_toArray, List.getElem?_cons_zero, List.getElem?_cons_succ]
  refine led_box (Led.nil A) rfl fun b V _ l => ?_
  have b0 := l.cell (i := 0) rfl (o := 0) rfl rfl
  have b1 := l.cell (i := 0) rfl (o := 1) rfl rfl
  have b2 := l.cell (i := 0) rfl (o := 2) rfl rfl
  have b3 := l.cell (i := 0) rfl (o := 3) rfl rfl
  simp (disch := omega) only [↓stp, vls, inf, frs, mark_eq, ↓reduceIte, Nat.reduceEqDiff, ite_tt, ite_ff, eq_self, and_true, true_and, and_self, implies_true, Bool.true_eq_false, Bool.false_eq_true, decide_true, decide_false, decide_eq_true_eq, decide_eq_false_iff_not, ne_eq, not_true_eq_false, not_false_eq_true, Bool.not_eq_true', Bool.not_eq_false', beq_self_eq_true, Bool.not_true, Bool.not_false, List.getElem?_toArray, List.getElem?_cons_zero, List.getElem?_cons_succ, add_at, b0, b1, b2, b3]
  refine ⟨fun e => ?_, fun e => ?_⟩
  · simp (disch := omega) only [↓stp, vls, inf, frs, mark_eq, ↓reduceIte, Nat.reduceEqDiff, ite_tt, ite_ff, eq_self, and_true, true_and, and_self, implies_true, Bool.true_eq_false, Bool.false_eq_true, decide_true, decide_false, decide_eq_true_eq, decide_eq_false_iff_not, ne_eq, not_true_eq_false, not_false_eq_true, Bool.not_eq_true', Bool.not_eq_false', beq_self_eq_true, Bool.not_true, Bool.not_false, List.getElem?_toArray, List.getElem?_cons_zero, List.getElem?_cons_succ, add_at, b0, b1, b2, b3]
    exact ⟨⟨_, rfl, .inl rfl⟩, l.ext⟩
  simp (disch := omega) only [↓stp, vls, inf, frs, mark_eq, ↓reduceIte, Nat.reduceEqDiff, ite_tt, ite_ff, eq_self, and_true, true_and, and_self, implies_true, Bool.true_eq_false, Bool.false_eq_true, decide_true, decide_false, decide_eq_true_eq, decide_eq_false_iff_not, ne_eq, not_true_eq_false, not_false_eq_true, Bool.not_eq_true', Bool.not_eq_false', beq_self_eq_true, Bool.not_true, Bool.not_false, List.getElem?_toArray, List.getElem?_cons_zero, List.getElem?_cons_succ, add_at, b0, b1, b2, b3]
  refine (szStringS_c V _ _ _ (hh2.mono l.ext) (by omega)).mono ?_
  rintro _ V ⟨⟨j2, rfl, hj2⟩, he⟩
  replace l := l.step he
  have b0 := l.cell (i := 0) rfl (o := 0) rfl rfl
  have b1 := l.cell (i := 0) rfl (o := 1) rfl rfl
  have b2 := l.cell (i := 0) rfl (o := 2) rfl rfl
  have b3 := l.cell (i := 0) rfl (o := 3) rfl rfl
  simp (disch := omega) only [↓stp, vls, inf, frs, mark_eq, ↓reduceIte, Nat.reduceEqDiff, ite_tt, ite_ff, eq_self, and_true, true_and, and_self, implies_true, Bool.true_eq_false, Bool.false_eq_true, decide_true, decide_false, decide_eq_true_eq, decide_eq_false_iff_not, ne_eq, not_true_eq_false, not_false_eq_true, Bool.not_eq_true', Bool.not_eq_false', beq_self_eq_true, Bool.not_true, Bool.not_false, List.getElem?_toArray, List.getElem?_cons_zero, List.getElem?_cons_succ, add_at, b0, b1, b2, b3]
  refine ⟨fun e => ?_, fun e => ?_⟩
  · simp (disch := omega) only [↓stp, vls, inf, frs, mark_eq, ↓reduceIte, Nat.reduceEqDiff, ite_tt, ite_ff, eq_self, and_true, true_and, and_self, implies_true, Bool.true_eq_false, Bool.false_eq_true, decide_true, decide_false, decide_eq_true_eq, decide_eq_false_iff_not, ne_eq, not_true_eq_false, not_false_eq_true, Bool.not_eq_true', Bool.not_eq_false', beq_self_eq_true, Bool.not_true, Bool.not_false, List.getElem?_toArray, List.getElem?_cons_zero, List.getElem?_cons_succ, add_at, b0, b1, b2, b3]
    exact ⟨⟨_, rfl, .inl rfl⟩, l.ext⟩
  replace hj2 := hj2.resolve_left (by omega)
  simp (disch := omega) only [↓stp, vls, inf, frs, mark_eq, ↓reduceIte, Nat.reduceEqDiff, ite_tt, ite_ff, eq_self, and_true, true_and, and_self, implies_true, Bool.true_eq_false, Bool.false_eq_true, decide_true, decide_false, decide_eq_true_eq, decide_eq_false_iff_not, ne_eq, not_true_eq_false, not_false_eq_true, Bool.not_eq_true', Bool.not_eq_false', beq_self_eq_true, Bool.not_true, Bool.not_false, List.getElem?_toArray, List.getElem?_cons_zero, List.getElem?_cons_succ, add_at, b0, b1, b2, b3]
  exact ⟨⟨_, rfl, .inr ⟨by omega, by omega⟩⟩, l.ext⟩

theorem toFixture_c (A : View) (d : List Value) (x : FixtureD) (h : fixtureS.rel A x d) (hw : fixtureT.w x ≤ 1048576) : ACalls Try.prog 69 #[.agg d.toArray] A fun r A' => ∃ fp d', r = .agg d'.toArray ∧ fixtureO.rel A' fp x d' ∧ Ext A A' ∧ (∀ b, b ∈ fp → A b = none) ∧ fp.Nodup := by
  obtain ⟨uu2, rfl, hh0, hh1, hh2⟩ := fixtureS_open h
  obtain ⟨aa2, cc2, rfl, hc2, hl2⟩ := hh2.slice
  rw [fixtureT_w] at hw
  refine acalls Try.func69 rfl (by kernel_rfl) ?_
  simp (disch := omega) only [↓stp, vls, inf, frs, mark_eq, ↓reduceIte, Nat.reduceEqDiff, ite_tt, ite_ff, eq_self, and_true, true_and, and_self, implies_true, Bool.true_eq_false, Bool.false_eq_true, decide_true, decide_false, decide_eq_true_eq, decide_eq_false_iff_not, ne_eq, not_true_eq_false, not_false_eq_true, Bool.not_eq_true', Bool.not_eq_false', beq_self_eq_true, Bool.not_true, Bool.not_false, List.getElem?_toArray, List.getElem?_cons_zero, List.getElem?_cons_succ]
  refine led_box (Led.nil A) rfl fun q0 V _ l => ?_
  simp (disch := omega) only [↓stp, vls, inf, frs, mark_eq, ↓reduceIte, Nat.reduceEqDiff, ite_tt, ite_ff, eq_self, and_true, true_and, and_self, implies_true, Bool.true_eq_false, Bool.false_eq_true, decide_true, decide_false, decide_eq_true_eq, decide_eq_false_iff_not, ne_eq, not_true_eq_false, not_false_eq_true, Bool.not_eq_true', Bool.not_eq_false', beq_self_eq_true, Bool.not_true, Bool.not_false, List.getElem?_toArray, List.getElem?_cons_zero, List.getElem?_cons_succ]
  refine led_alloc zc75 l fun q1 V _ l => ?_
  simp (disch := omega) only [↓stp, vls, inf, frs, mark_eq, ↓reduceIte, Nat.reduceEqDiff, ite_tt, ite_ff, eq_self, and_true, true_and, and_self, implies_true, Bool.true_eq_false, Bool.false_eq_true, decide_true, decide_false, decide_eq_true_eq, decide_eq_false_iff_not, ne_eq, not_true_eq_false, not_false_eq_true, Bool.not_eq_true', Bool.not_eq_false', beq_self_eq_true, Bool.not_true, Bool.not_false, List.getElem?_toArray, List.getElem?_cons_zero, List.getElem?_cons_succ]
  refine led_alloc zc75 l fun q2 V _ l => ?_
  have b0 := l.cell (i := 2) rfl (o := 0) rfl rfl
  have b1 := l.cell (i := 2) rfl (o := 1) rfl rfl
  have b2 := l.cell (i := 2) rfl (o := 2) rfl rfl
  have b3 := l.cell (i := 2) rfl (o := 3) rfl rfl
  simp (disch := omega) only [↓stp, vls, inf, frs, mark_eq, ↓reduceIte, Nat.reduceEqDiff, ite_tt, ite_ff, eq_self, and_true, true_and, and_self, implies_true, Bool.true_eq_false, Bool.false_eq_true, decide_true, decide_false, decide_eq_true_eq, decide_eq_false_iff_not, ne_eq, not_true_eq_false, not_false_eq_true, Bool.not_eq_true', Bool.not_eq_false', beq_self_eq_true, Bool.not_true, Bool.not_false, List.getElem?_toArray, List.getElem?_cons_zero, List.getElem?_cons_succ, add_at, b0, b1, b2, b3]
  refine led_store l 0 rfl sz9 (by rfl) (by rfl) (by rfl) fun V l => ?_
  have b0 := l.cell (i := 2) rfl (o := 0) rfl rfl
  have b1 := l.cell (i := 2) rfl (o := 1) rfl rfl
  have b2 := l.cell (i := 2) rfl (o := 2) rfl rfl
  have b3 := l.cell (i := 2) rfl (o := 3) rfl rfl
  simp (disch := omega) only [↓stp, vls, inf, frs, mark_eq, ↓reduceIte, Nat.reduceEqDiff, ite_tt, ite_ff, eq_self, and_true, true_and, and_self, implies_true, Bool.true_eq_false, Bool.false_eq_true, decide_true, decide_false, decide_eq_true_eq, decide_eq_false_iff_not, ne_eq, not_true_eq_false, not_false_eq_true, Bool.not_eq_true', Bool.not_eq_false', beq_self_eq_true, Bool.not_true, Bool.not_false, List.getElem?_toArray, List.getElem?_cons_zero, List.getElem?_cons_succ, add_at, b0, b1, b2, b3]
  refine led_store l 0 rfl sz3 (by rfl) (by rfl) (by rfl) fun V l => ?_
  have b0 := l.cell (i := 2) rfl (o := 0) rfl rfl
  have b1 := l.cell (i := 2) rfl (o := 1) rfl rfl
  have b2 := l.cell (i := 2) rfl (o := 2) rfl rfl
  have b3 := l.cell (i := 2) rfl (o := 3) rfl rfl
  simp (disch := omega) only [↓stp, vls, inf, frs, mark_eq, ↓reduceIte, Nat.reduceEqDiff, ite_tt, ite_ff, eq_self, and_true, true_and, and_self, implies_true, Bool.true_eq_false, Bool.false_eq_true, decide_true, decide_false, decide_eq_true_eq, decide_eq_false_iff_not, ne_eq, not_true_eq_false, not_false_eq_true, Bool.not_eq_true', Bool.not_eq_false', beq_self_eq_true, Bool.not_true, Bool.not_false, List.getElem?_toArray, List.getElem?_cons_zero, List.getElem?_cons_succ, add_at, b0, b1, b2, b3]
  refine (toStringS_c V _ _ (hh2.mono l.ext) (by omega)).mono ?_
  rintro w2 V ⟨ff2, o2, he, hfr, hnd⟩
  obtain ⟨p2, r2, rfl, _, _⟩ := o2.toS.slice
  replace l := l.cons he (osl 9 strO ff2 _ _) o2 hfr hnd
  have b0 := l.cell (i := 3) rfl (o := 0) rfl rfl
  have b1 := l.cell (i := 3) rfl (o := 1) rfl rfl
  have b2 := l.cell (i := 3) rfl (o := 2) rfl rfl
  have b3 := l.cell (i := 3) rfl (o := 3) rfl rfl
  simp (disch := omega) only [↓stp, vls, inf, frs, mark_eq, ↓reduceIte, Nat.reduceEqDiff, ite_tt, ite_ff, eq_self, and_true, true_and, and_self, implies_true, Bool.true_eq_false, Bool.false_eq_true, decide_true, decide_false, decide_eq_true_eq, decide_eq_false_iff_not, ne_eq, not_true_eq_false, not_false_eq_true, Bool.not_eq_true', Bool.not_eq_false', beq_self_eq_true, Bool.not_true, Bool.not_false, List.getElem?_toArray, List.getElem?_cons_zero, List.getElem?_cons_succ, add_at, b0, b1, b2, b3]
  refine led_store l 1 rfl sz54 (by rfl) (by rfl) (by rfl) fun V l => ?_
  have b0 := l.cell (i := 3) rfl (o := 0) rfl rfl
  have b1 := l.cell (i := 3) rfl (o := 1) rfl rfl
  have b2 := l.cell (i := 3) rfl (o := 2) rfl rfl
  have b3 := l.cell (i := 3) rfl (o := 3) rfl rfl
  simp (disch := omega) only [↓stp, vls, inf, frs, mark_eq, ↓reduceIte, Nat.reduceEqDiff, ite_tt, ite_ff, eq_self, and_true, true_and, and_self, implies_true, Bool.true_eq_false, Bool.false_eq_true, decide_true, decide_false, decide_eq_true_eq, decide_eq_false_iff_not, ne_eq, not_true_eq_false, not_false_eq_true, Bool.not_eq_true', Bool.not_eq_false', beq_self_eq_true, Bool.not_true, Bool.not_false, List.getElem?_toArray, List.getElem?_cons_zero, List.getElem?_cons_succ, add_at, b0, b1, b2, b3]
  refine led_store l 1 rfl sz4 (by rfl) (by rfl) (by rfl) fun V l => ?_
  have hp : V.part ⟨q2, 0, none⟩ 4 = some [.string x.1, .int .i64 x.2.1, .slice p2 _ r2, .bool x.2.2.2.1] := l.part (i := 1) rfl rfl
  simp (disch := omega) only [↓stp, vls, inf, frs, mark_eq, ↓reduceIte, Nat.reduceEqDiff, ite_tt, ite_ff, eq_self, and_true, true_and, and_self, implies_true, Bool.true_eq_false, Bool.false_eq_true, decide_true, decide_false, decide_eq_true_eq, decide_eq_false_iff_not, ne_eq, not_true_eq_false, not_false_eq_true, Bool.not_eq_true', Bool.not_eq_false', beq_self_eq_true, Bool.not_true, Bool.not_false, List.getElem?_toArray, List.getElem?_cons_zero, List.getElem?_cons_succ, hp]
  refine led_store l 2 rfl sz75 (by rfl) (by rfl) (by rfl) fun V l => ?_
  have hp : V.part ⟨q1, 0, none⟩ 4 = some [.string x.1, .int .i64 x.2.1, .slice p2 _ r2, .bool x.2.2.2.1] := l.part (i := 2) rfl rfl
  simp (disch := omega) only [↓stp, vls, inf, frs, mark_eq, ↓reduceIte, Nat.reduceEqDiff, ite_tt, ite_ff, eq_self, and_true, true_and, and_self, implies_true, Bool.true_eq_false, Bool.false_eq_true, decide_true, decide_false, decide_eq_true_eq, decide_eq_false_iff_not, ne_eq, not_true_eq_false, not_false_eq_true, Bool.not_eq_true', Bool.not_eq_false', beq_self_eq_true, Bool.not_true, Bool.not_false, List.getElem?_toArray, List.getElem?_cons_zero, List.getElem?_cons_succ, hp]
  refine ⟨ff2, _, rfl, fixtureO_mk hh0 hh1 (l.at (i := 0) rfl), l.ext, fun b hb => ?_, ?_⟩
  · exact l.fresh (i := 0) rfl b hb
  · exact l.nodup1 (i := 0) rfl

theorem eqFixture_c (A : View) (d d' : List Value) (x y : FixtureD) (h : fixtureS.rel A x d) (h' : fixtureS.rel A y d') : ACalls Try.prog 74 #[.agg d.toArray, .agg d'.toArray] A fun r A' => r = .bool (decide (x = y)) ∧ Ext A A' := by
  obtain ⟨uu2, rfl, hh0, hh1, hh2⟩ := fixtureS_open h
  obtain ⟨aa2, cc2, rfl, hc2, hl2⟩ := hh2.slice
  obtain ⟨v2, rfl, g0, g1, g2⟩ := fixtureS_open h'
  obtain ⟨aa2q, cc2q, rfl, hc2q, hl2q⟩ := g2.slice
  refine acalls Try.func74 rfl (by kernel_rfl) ?_
  simp (disch := omega) only [↓stp, vls, inf, frs, mark_eq, ↓reduceIte, Nat.reduceEqDiff, ite_tt, ite_ff, eq_self, and_true, true_and, and_self, implies_true, Bool.true_eq_false, Bool.false_eq_true, decide_true, decide_false, decide_eq_true_eq, decide_eq_false_iff_not, ne_eq, not_true_eq_false, not_false_eq_true, Bool.not_eq_true', Bool.not_eq_false', beq_self_eq_true, Bool.not_true, Bool.not_false, List.getElem?_toArray, List.getElem?_cons_zero, List.getElem?_cons_succ]
  refine led_box (Led.nil A) rfl fun q0 V _ l => ?_
  simp (disch := omega) only [↓stp, vls, inf, frs, mark_eq, ↓reduceIte, Nat.reduceEqDiff, ite_tt, ite_ff, eq_self, and_true, true_and, and_self, implies_true, Bool.true_eq_false, Bool.false_eq_true, decide_true, decide_false, decide_eq_true_eq, decide_eq_false_iff_not, ne_eq, not_true_eq_false, not_false_eq_true, Bool.not_eq_true', Bool.not_eq_false', beq_self_eq_true, Bool.not_true, Bool.not_false, List.getElem?_toArray, List.getElem?_cons_zero, List.getElem?_cons_succ]
  refine led_box l rfl fun q1 V _ l => ?_
  have b0 := l.cell (i := 1) rfl (o := 0) rfl rfl
  have b1 := l.cell (i := 1) rfl (o := 1) rfl rfl
  have b2 := l.cell (i := 1) rfl (o := 2) rfl rfl
  have b3 := l.cell (i := 1) rfl (o := 3) rfl rfl
  have d0 := l.cell (i := 0) rfl (o := 0) rfl rfl
  have d1 := l.cell (i := 0) rfl (o := 1) rfl rfl
  have d2 := l.cell (i := 0) rfl (o := 2) rfl rfl
  have d3 := l.cell (i := 0) rfl (o := 3) rfl rfl
  simp (disch := omega) only [↓stp, vls, inf, frs, mark_eq, ↓reduceIte, Nat.reduceEqDiff, ite_tt, ite_ff, eq_self, and_true, true_and, and_self, implies_true, Bool.true_eq_false, Bool.false_eq_true, decide_true, decide_false, decide_eq_true_eq, decide_eq_false_iff_not, ne_eq, not_true_eq_false, not_false_eq_true, Bool.not_eq_true', Bool.not_eq_false', beq_self_eq_true, Bool.not_true, Bool.not_false, List.getElem?_toArray, List.getElem?_cons_zero, List.getElem?_cons_succ, add_at, b0, b1, b2, b3, d0, d1, d2, d3]
  refine ⟨fun e => ?_, fun e => ?_⟩
  · have hne : ¬ x = y := fun he => by rw [he] at e; simp at e
    simp (disch := omega) only [↓stp, vls, inf, frs, mark_eq, ↓reduceIte, Nat.reduceEqDiff, ite_tt, ite_ff, eq_self, and_true, true_and, and_self, implies_true, Bool.true_eq_false, Bool.false_eq_true, decide_true, decide_false, decide_eq_true_eq, decide_eq_false_iff_not, ne_eq, not_true_eq_false, not_false_eq_true, Bool.not_eq_true', Bool.not_eq_false', beq_self_eq_true, Bool.not_true, Bool.not_false, List.getElem?_toArray, List.getElem?_cons_zero, List.getElem?_cons_succ, hne]
    exact l.ext
  have e0 : x.1 = y.1 := by simpa using e
  simp (disch := omega) only [↓stp, vls, inf, frs, mark_eq, ↓reduceIte, Nat.reduceEqDiff, ite_tt, ite_ff, eq_self, and_true, true_and, and_self, implies_true, Bool.true_eq_false, Bool.false_eq_true, decide_true, decide_false, decide_eq_true_eq, decide_eq_false_iff_not, ne_eq, not_true_eq_false, not_false_eq_true, Bool.not_eq_true', Bool.not_eq_false', beq_self_eq_true, Bool.not_true, Bool.not_false, List.getElem?_toArray, List.getElem?_cons_zero, List.getElem?_cons_succ, add_at, b0, b1, b2, b3, d0, d1, d2, d3]
  refine ⟨fun e => ?_, fun e => ?_⟩
  · have hne : ¬ x = y := fun he => by rw [he] at e; simp at e
    simp (disch := omega) only [↓stp, vls, inf, frs, mark_eq, ↓reduceIte, Nat.reduceEqDiff, ite_tt, ite_ff, eq_self, and_true, true_and, and_self, implies_true, Bool.true_eq_false, Bool.false_eq_true, decide_true, decide_false, decide_eq_true_eq, decide_eq_false_iff_not, ne_eq, not_true_eq_false, not_false_eq_true, Bool.not_eq_true', Bool.not_eq_false', beq_self_eq_true, Bool.not_true, Bool.not_false, List.getElem?_toArray, List.getElem?_cons_zero, List.getElem?_cons_succ, hne]
    exact l.ext
  have e1 : x.2.1 = y.2.1 := by simpa using e
  simp (disch := omega) only [↓stp, vls, inf, frs, mark_eq, ↓reduceIte, Nat.reduceEqDiff, ite_tt, ite_ff, eq_self, and_true, true_and, and_self, implies_true, Bool.true_eq_false, Bool.false_eq_true, decide_true, decide_false, decide_eq_true_eq, decide_eq_false_iff_not, ne_eq, not_true_eq_false, not_false_eq_true, Bool.not_eq_true', Bool.not_eq_false', beq_self_eq_true, Bool.not_true, Bool.not_false, List.getElem?_toArray, List.getElem?_cons_zero, List.getElem?_cons_succ, add_at, b0, b1, b2, b3, d0, d1, d2, d3]
  refine (eqStringS_c V _ _ _ _ (hh2.mono l.ext) (g2.mono l.ext)).mono ?_
  rintro _ V ⟨rfl, he⟩
  replace l := l.step he
  have b0 := l.cell (i := 1) rfl (o := 0) rfl rfl
  have b1 := l.cell (i := 1) rfl (o := 1) rfl rfl
  have b2 := l.cell (i := 1) rfl (o := 2) rfl rfl
  have b3 := l.cell (i := 1) rfl (o := 3) rfl rfl
  have d0 := l.cell (i := 0) rfl (o := 0) rfl rfl
  have d1 := l.cell (i := 0) rfl (o := 1) rfl rfl
  have d2 := l.cell (i := 0) rfl (o := 2) rfl rfl
  have d3 := l.cell (i := 0) rfl (o := 3) rfl rfl
  simp (disch := omega) only [↓stp, vls, inf, frs, mark_eq, ↓reduceIte, Nat.reduceEqDiff, ite_tt, ite_ff, eq_self, and_true, true_and, and_self, implies_true, Bool.true_eq_false, Bool.false_eq_true, decide_true, decide_false, decide_eq_true_eq, decide_eq_false_iff_not, ne_eq, not_true_eq_false, not_false_eq_true, Bool.not_eq_true', Bool.not_eq_false', beq_self_eq_true, Bool.not_true, Bool.not_false, List.getElem?_toArray, List.getElem?_cons_zero, List.getElem?_cons_succ, add_at, b0, b1, b2, b3, d0, d1, d2, d3]
  refine ⟨fun e => ?_, fun e => ?_⟩
  · have hne : ¬ x = y := fun he => by rw [he] at e; simp at e
    simp (disch := omega) only [↓stp, vls, inf, frs, mark_eq, ↓reduceIte, Nat.reduceEqDiff, ite_tt, ite_ff, eq_self, and_true, true_and, and_self, implies_true, Bool.true_eq_false, Bool.false_eq_true, decide_true, decide_false, decide_eq_true_eq, decide_eq_false_iff_not, ne_eq, not_true_eq_false, not_false_eq_true, Bool.not_eq_true', Bool.not_eq_false', beq_self_eq_true, Bool.not_true, Bool.not_false, List.getElem?_toArray, List.getElem?_cons_zero, List.getElem?_cons_succ, hne]
    exact l.ext
  have e2 : x.2.2.1 = y.2.2.1 := by simpa using e
  simp (disch := omega) only [↓stp, vls, inf, frs, mark_eq, ↓reduceIte, Nat.reduceEqDiff, ite_tt, ite_ff, eq_self, and_true, true_and, and_self, implies_true, Bool.true_eq_false, Bool.false_eq_true, decide_true, decide_false, decide_eq_true_eq, decide_eq_false_iff_not, ne_eq, not_true_eq_false, not_false_eq_true, Bool.not_eq_true', Bool.not_eq_false', beq_self_eq_true, Bool.not_true, Bool.not_false, List.getElem?_toArray, List.getElem?_cons_zero, List.getElem?_cons_succ, add_at, b0, b1, b2, b3, d0, d1, d2, d3]
  refine ⟨fun e => ?_, fun e => ?_⟩
  · have hne : ¬ x = y := fun he => by rw [he] at e; simp at e
    simp (disch := omega) only [↓stp, vls, inf, frs, mark_eq, ↓reduceIte, Nat.reduceEqDiff, ite_tt, ite_ff, eq_self, and_true, true_and, and_self, implies_true, Bool.true_eq_false, Bool.false_eq_true, decide_true, decide_false, decide_eq_true_eq, decide_eq_false_iff_not, ne_eq, not_true_eq_false, not_false_eq_true, Bool.not_eq_true', Bool.not_eq_false', beq_self_eq_true, Bool.not_true, Bool.not_false, List.getElem?_toArray, List.getElem?_cons_zero, List.getElem?_cons_succ, hne]
    exact l.ext
  have e3 : x.2.2.2.1 = y.2.2.2.1 := by simpa using e
  have he : x = y := Prod.ext e0 (Prod.ext e1 (Prod.ext e2 (Prod.ext e3 (rfl))))
  simp (disch := omega) only [↓stp, vls, inf, frs, mark_eq, ↓reduceIte, Nat.reduceEqDiff, ite_tt, ite_ff, eq_self, and_true, true_and, and_self, implies_true, Bool.true_eq_false, Bool.false_eq_true, decide_true, decide_false, decide_eq_true_eq, decide_eq_false_iff_not, ne_eq, not_true_eq_false, not_false_eq_true, Bool.not_eq_true', Bool.not_eq_false', beq_self_eq_true, Bool.not_true, Bool.not_false, List.getElem?_toArray, List.getElem?_cons_zero, List.getElem?_cons_succ, he]
  exact l.ext

theorem szFixtureS_c (A : View) (v : Value) (xs : List FixtureD) (k : Int) (h : Sl fixtureS A v xs) (hk : 0 ≤ k ∧ k ≤ 1048576) : ACalls Try.prog 35 #[v, .int .i64 k] A fun r A' => (∃ j : Int, r = .int .i64 j ∧ (j = -1 ∨ (0 ≤ j ∧ j + (xs.length + wL fixtureT xs : Nat) = k))) ∧ Ext A A' := by
  obtain ⟨a, c, rfl, hc, hl⟩ := h.slice
  refine acalls Try.func35 rfl (by kernel_rfl) ?_
  simp (disch := omega) only [↓stp, vls, inf, frs, mark_eq, ↓reduceIte, Nat.reduceEqDiff, ite_tt, ite_ff, eq_self, and_true, true_and, and_self, implies_true, Bool.true_eq_false, Bool.false_eq_true, decide_true, decide_false, decide_eq_true_eq, decide_eq_false_iff_not, ne_eq, not_true_eq_false, not_false_eq_true, Bool.not_eq_true', Bool.not_eq_false', beq_self_eq_true, Bool.not_true, Bool.not_false, List.getElem?_toArray, List.getElem?_cons_zero, List.getElem?_cons_succ]
  refine ⟨fun e => ?_, fun e => ?_⟩
  · simp (disch := omega) only [↓stp, vls, inf, frs, mark_eq, ↓reduceIte, Nat.reduceEqDiff, ite_tt, ite_ff, eq_self, and_true, true_and, and_self, implies_true, Bool.true_eq_false, Bool.false_eq_true, decide_true, decide_false, decide_eq_true_eq, decide_eq_false_iff_not, ne_eq, not_true_eq_false, not_false_eq_true, Bool.not_eq_true', Bool.not_eq_false', beq_self_eq_true, Bool.not_true, Bool.not_false, List.getElem?_toArray, List.getElem?_cons_zero, List.getElem?_cons_succ, e]
    exact ⟨⟨_, rfl, .inl rfl⟩, Ext.refl _⟩
  · simp (disch := omega) only [↓stp, vls, inf, frs, mark_eq, ↓reduceIte, Nat.reduceEqDiff, ite_tt, ite_ff, eq_self, and_true, true_and, and_self, implies_true, Bool.true_eq_false, Bool.false_eq_true, decide_true, decide_false, decide_eq_true_eq, decide_eq_false_iff_not, ne_eq, not_true_eq_false, not_false_eq_true, Bool.not_eq_true', Bool.not_eq_false', beq_self_eq_true, Bool.not_true, Bool.not_false, List.getElem?_toArray, List.getElem?_cons_zero, List.getElem?_cons_succ]
    refine aloop (fun d fr A' => ∃ (i : Nat) (kk : Int), i ≤ xs.length ∧ d = xs.length - i ∧ Ext A A' ∧ fr 0 = .slice a xs.length c ∧ fr 1 = .int .i64 kk ∧ fr 5 = .int .i64 i ∧ 0 ≤ kk ∧ kk + (xs.length + wL fixtureT (xs.take i) : Nat) = k) xs.length ⟨0, k - xs.length, by omega, by omega, Ext.refl _, rfl, by rfl, by rfl, by omega, by simp [wL]⟩ ?_
    rintro d fr A' ⟨i, kk, hi, rfl, he, h0, h1, h5, hk1, hk2⟩
    simp (disch := omega) only [↓stp, vls, inf, frs, mark_eq, ↓reduceIte, Nat.reduceEqDiff, ite_tt, ite_ff, eq_self, and_true, true_and, and_self, implies_true, Bool.true_eq_false, Bool.false_eq_true, decide_true, decide_false, decide_eq_true_eq, decide_eq_false_iff_not, ne_eq, not_true_eq_false, not_false_eq_true, Bool.not_eq_true', Bool.not_eq_false', beq_self_eq_true, Bool.not_true, Bool.not_false, List.getElem?_toArray, List.getElem?_cons_zero, List.getElem?_cons_succ, h0, h1, h5]
    refine ⟨fun e => ?_, fun e => ?_⟩
    · have hlt : i < xs.length := by omega
      obtain ⟨ad, d, rfl, hd, hp, _⟩ := (h.mono he).at hlt
      have hp : A'.part (ad.add (i * 4)) 4 = some d := hp
      simp (disch := omega) only [↓stp, vls, inf, frs, mark_eq, ↓reduceIte, Nat.reduceEqDiff, ite_tt, ite_ff, eq_self, and_true, true_and, and_self, implies_true, Bool.true_eq_false, Bool.false_eq_true, decide_true, decide_false, decide_eq_true_eq, decide_eq_false_iff_not, ne_eq, not_true_eq_false, not_false_eq_true, Bool.not_eq_true', Bool.not_eq_false', beq_self_eq_true, Bool.not_true, Bool.not_false, List.getElem?_toArray, List.getElem?_cons_zero, List.getElem?_cons_succ, h0, h1, h5, hp]
      refine (szFixture_c A' d xs[i] kk hd (by omega)).mono ?_
      rintro _ A1 ⟨⟨j, rfl, hj⟩, he1⟩
      simp (disch := omega) only [↓stp, vls, inf, frs, mark_eq, ↓reduceIte, Nat.reduceEqDiff, ite_tt, ite_ff, eq_self, and_true, true_and, and_self, implies_true, Bool.true_eq_false, Bool.false_eq_true, decide_true, decide_false, decide_eq_true_eq, decide_eq_false_iff_not, ne_eq, not_true_eq_false, not_false_eq_true, Bool.not_eq_true', Bool.not_eq_false', beq_self_eq_true, Bool.not_true, Bool.not_false, List.getElem?_toArray, List.getElem?_cons_zero, List.getElem?_cons_succ, h0, h1, h5]
      refine ⟨fun e1 => ?_, fun e1 => ?_⟩ <;> simp (disch := omega) only [↓stp, vls, inf, frs, mark_eq, ↓reduceIte, Nat.reduceEqDiff, ite_tt, ite_ff, eq_self, and_true, true_and, and_self, implies_true, Bool.true_eq_false, Bool.false_eq_true, decide_true, decide_false, decide_eq_true_eq, decide_eq_false_iff_not, ne_eq, not_true_eq_false, not_false_eq_true, Bool.not_eq_true', Bool.not_eq_false', beq_self_eq_true, Bool.not_true, Bool.not_false, List.getElem?_toArray, List.getElem?_cons_zero, List.getElem?_cons_succ, h0, h1, h5]
      · exact ⟨⟨_, rfl, .inl rfl⟩, he.trans he1⟩
      · have hj := hj.resolve_left (by omega)
        have hw := wL_take fixtureT xs hlt
        exact ⟨_, by omega, i + 1, _, by omega, rfl, he.trans he1, rfl, rfl, by omega, by omega⟩
    · simp (disch := omega) only [↓stp, vls, inf, frs, mark_eq, ↓reduceIte, Nat.reduceEqDiff, ite_tt, ite_ff, eq_self, and_true, true_and, and_self, implies_true, Bool.true_eq_false, Bool.false_eq_true, decide_true, decide_false, decide_eq_true_eq, decide_eq_false_iff_not, ne_eq, not_true_eq_false, not_false_eq_true, Bool.not_eq_true', Bool.not_eq_false', beq_self_eq_true, Bool.not_true, Bool.not_false, List.getElem?_toArray, List.getElem?_cons_zero, List.getElem?_cons_succ, h0, h1, h5]
      rw [List.take_of_length_le (by omega)] at hk2
      exact ⟨⟨_, rfl, .inr ⟨hk1, hk2⟩⟩, he⟩

theorem toFixtureS_c (A : View) (v : Value) (xs : List FixtureD) (h : Sl fixtureS A v xs) (hw : xs.length + wL fixtureT xs ≤ 1048576) : ACalls Try.prog 39 #[v] A fun r A' => ∃ fp, OSl 75 fixtureO A' fp r xs ∧ Ext A A' ∧ (∀ b, b ∈ fp → A b = none) ∧ fp.Nodup := by
  obtain ⟨a, c, rfl, hc, hl⟩ := h.slice
  refine acalls Try.func39 rfl (by kernel_rfl) ?_
  simp (disch := omega) only [↓stp, vls, inf, frs, mark_eq, ↓reduceIte, Nat.reduceEqDiff, ite_tt, ite_ff, eq_self, and_true, true_and, and_self, implies_true, Bool.true_eq_false, Bool.false_eq_true, decide_true, decide_false, decide_eq_true_eq, decide_eq_false_iff_not, ne_eq, not_true_eq_false, not_false_eq_true, Bool.not_eq_true', Bool.not_eq_false', beq_self_eq_true, Bool.not_true, Bool.not_false, List.getElem?_toArray, List.getElem?_cons_zero, List.getElem?_cons_succ]
  refine amake_at mk38 (by omega) (by omega) fun b hb => ?_
  simp (disch := omega) only [↓stp, vls, inf, frs, mark_eq, ↓reduceIte, Nat.reduceEqDiff, ite_tt, ite_ff, eq_self, and_true, true_and, and_self, implies_true, Bool.true_eq_false, Bool.false_eq_true, decide_true, decide_false, decide_eq_true_eq, decide_eq_false_iff_not, ne_eq, not_true_eq_false, not_false_eq_true, Bool.not_eq_true', Bool.not_eq_false', beq_self_eq_true, Bool.not_true, Bool.not_false, List.getElem?_toArray, List.getElem?_cons_zero, List.getElem?_cons_succ]
  refine aloop (fun d fr A' => ∃ (i : Nat) (fp : List Nat) (done : List Value), i ≤ xs.length ∧ d = xs.length - i ∧ A' b = some ⟨75, done ++ (List.replicate (xs.length - i) [.string ⟨#[]⟩, .int .i64 0, .slice none 0 0, .bool false]).flatten, xs.length * 4, true⟩ ∧ OElems fixtureO A' fp (xs.take i) done ∧ Ext A A' ∧ (∀ x, x ∈ fp → A x = none ∧ x ≠ b) ∧ fp.Nodup ∧ fr 0 = .slice a xs.length c ∧ fr 3 = .slice (some ⟨b, 0, none⟩) xs.length xs.length ∧ fr 4 = .int .i64 i) xs.length ⟨0, [], [], by omega, by omega, by rw [View.set_same]; rfl, .nil, Ext.new hb _, by simp, List.nodup_nil, rfl, by rfl, by rfl⟩ ?_
  rintro d fr A' ⟨i, fp, done, hi, rfl, hA, hd, he, hfr, hnd, h0, h3, h4⟩
  simp (disch := omega) only [↓stp, vls, inf, frs, mark_eq, ↓reduceIte, Nat.reduceEqDiff, ite_tt, ite_ff, eq_self, and_true, true_and, and_self, implies_true, Bool.true_eq_false, Bool.false_eq_true, decide_true, decide_false, decide_eq_true_eq, decide_eq_false_iff_not, ne_eq, not_true_eq_false, not_false_eq_true, Bool.not_eq_true', Bool.not_eq_false', beq_self_eq_true, Bool.not_true, Bool.not_false, List.getElem?_toArray, List.getElem?_cons_zero, List.getElem?_cons_succ, h0, h3, h4]
  refine ⟨fun e => ?_, fun e => ?_⟩
  · have hlt : i < xs.length := by omega
    obtain ⟨ad, d, rfl, hdd, hp, _⟩ := (h.mono he).at hlt
    have hp : A'.part (ad.add (i * 4)) 4 = some d := hp
    simp (disch := omega) only [↓stp, vls, inf, frs, mark_eq, ↓reduceIte, Nat.reduceEqDiff, ite_tt, ite_ff, eq_self, and_true, true_and, and_self, implies_true, Bool.true_eq_false, Bool.false_eq_true, decide_true, decide_false, decide_eq_true_eq, decide_eq_false_iff_not, ne_eq, not_true_eq_false, not_false_eq_true, Bool.not_eq_true', Bool.not_eq_false', beq_self_eq_true, Bool.not_true, Bool.not_false, List.getElem?_toArray, List.getElem?_cons_zero, List.getElem?_cons_succ, h0, h3, h4, hp]
    refine (toFixture_c A' d xs[i] hdd (by have := wL_mem fixtureT (List.getElem_mem hlt); omega)).mono ?_
    rintro _ A1 ⟨fq, d', rfl, hw', he1, hfq, hndq⟩
    have hdl : done.length = i * 4 := by
      have := hd.len
      rw [List.length_take, Nat.min_eq_left hi] at this
      exact this
    have hz : (List.replicate (xs.length - i) ([.string ⟨#[]⟩, .int .i64 0, .slice none 0 0, .bool false] : List Value)).flatten = [.string ⟨#[]⟩, .int .i64 0, .slice none 0 0, .bool false] ++ (List.replicate (xs.length - (i + 1)) [.string ⟨#[]⟩, .int .i64 0, .slice none 0 0, .bool false]).flatten := by
      rw [show xs.length - i = (xs.length - (i + 1)) + 1 by omega, List.replicate_succ]; rfl
    have hA1 := he1 _ _ hA
    have hbq : b ∉ fq := fun hm => by rw [hfq _ hm] at hA; cases hA
    have hsz : d'.toArray.size = 4 := by rw [List.size_toArray]; exact fixtureS.len (fixtureO_S hw')
    have hone : (Value.agg d'.toArray).cells.toList.all (·.oneCell') = true := List.all_eq_true.2 (fixtureS.one (fixtureO_S hw'))
    have hst := storev_at (P := Try.prog) (v := .agg d'.toArray) sz75 (hA1.trans (by rw [hz])) hsz rfl hone (o := 0 + i * 4) (by omega)
    simp (disch := omega) only [↓stp, vls, inf, frs, mark_eq, ↓reduceIte, Nat.reduceEqDiff, ite_tt, ite_ff, eq_self, and_true, true_and, and_self, implies_true, Bool.true_eq_false, Bool.false_eq_true, decide_true, decide_false, decide_eq_true_eq, decide_eq_false_iff_not, ne_eq, not_true_eq_false, not_false_eq_true, Bool.not_eq_true', Bool.not_eq_false', beq_self_eq_true, Bool.not_true, Bool.not_false, List.getElem?_toArray, List.getElem?_cons_zero, List.getElem?_cons_succ, astore_at, h0, h3, h4, add_at, hst]
    have hqfp : ∀ x, x ∈ fp → x ∉ fq := fun x hx hm => by
      obtain ⟨k, hk⟩ := hd.has x hx
      rw [hfq x hm] at hk; cases hk
    refine ⟨_, by omega, i + 1, fp ++ fq, done ++ d', by omega, rfl, ?_, ?_, (he.trans he1).setOld hb _, ?_, ?_, rfl⟩
    · rw [View.set_same, List.append_assoc]; rfl
    · rw [List.take_succ_eq_append_getElem hlt]
      refine OElems.append (hd.stay fun x k hx hk => ?_) (OElems.single (fixtureO.stay hw' fun x k hx hk => ?_))
      · rw [View.set_ne _ _ (hfr x hx).2]
        exact he1 _ _ hk
      · rw [View.set_ne _ _ (fun e => hbq (by rw [← e]; exact hx))]
        exact hk
    · intro x hx
      rcases List.mem_append.1 hx with hx | hx
      · exact hfr x hx
      · exact ⟨he.none (hfq x hx), fun e => hbq (by rw [← e]; exact hx)⟩
    · exact List.nodup_append.2 ⟨hnd, hndq, fun x hx y hy e => hqfp x hx (by rw [e]; exact hy)⟩
  · simp (disch := omega) only [↓stp, vls, inf, frs, mark_eq, ↓reduceIte, Nat.reduceEqDiff, ite_tt, ite_ff, eq_self, and_true, true_and, and_self, implies_true, Bool.true_eq_false, Bool.false_eq_true, decide_true, decide_false, decide_eq_true_eq, decide_eq_false_iff_not, ne_eq, not_true_eq_false, not_false_eq_true, Bool.not_eq_true', Bool.not_eq_false', beq_self_eq_true, Bool.not_true, Bool.not_false, List.getElem?_toArray, List.getElem?_cons_zero, List.getElem?_cons_succ, h0, h3, h4]
    have hi' : i = xs.length := by omega
    subst hi'
    rw [List.take_length] at hd
    simp only [Nat.sub_self, List.replicate_zero, List.flatten_nil, List.append_nil] at hA
    refine ⟨b :: fp, ⟨by omega, .inr ⟨b, _, done, fp, rfl, Nat.le_refl _, rfl, hA, hd⟩⟩, he, ?_, List.nodup_cons.2 ⟨fun hm => (hfr b hm).2 rfl, hnd⟩⟩
    intro x hx
    rcases List.mem_cons.1 hx with rfl | hx
    · exact hb
    · exact (hfr x hx).1

theorem eqFixtureS_c (A : View) (v u : Value) (xs ys : List FixtureD) (h : Sl fixtureS A v xs) (h' : Sl fixtureS A u ys) : ACalls Try.prog 45 #[v, u] A fun r A' => r = .bool (decide (xs = ys)) ∧ Ext A A' := by
  obtain ⟨a, c, rfl, hc, hl⟩ := h.slice
  obtain ⟨a', c', rfl, hc', hl'⟩ := h'.slice
  refine acalls Try.func45 rfl (by kernel_rfl) ?_
  simp (disch := omega) only [↓stp, vls, inf, frs, mark_eq, ↓reduceIte, Nat.reduceEqDiff, ite_tt, ite_ff, eq_self, and_true, true_and, and_self, implies_true, Bool.true_eq_false, Bool.false_eq_true, decide_true, decide_false, decide_eq_true_eq, decide_eq_false_iff_not, ne_eq, not_true_eq_false, not_false_eq_true, Bool.not_eq_true', Bool.not_eq_false', beq_self_eq_true, Bool.not_true, Bool.not_false, List.getElem?_toArray, List.getElem?_cons_zero, List.getElem?_cons_succ]
  refine ⟨fun e => ?_, fun e => ?_⟩
  · simp (disch := omega) only [↓stp, vls, inf, frs, mark_eq, ↓reduceIte, Nat.reduceEqDiff, ite_tt, ite_ff, eq_self, and_true, true_and, and_self, implies_true, Bool.true_eq_false, Bool.false_eq_true, decide_true, decide_false, decide_eq_true_eq, decide_eq_false_iff_not, ne_eq, not_true_eq_false, not_false_eq_true, Bool.not_eq_true', Bool.not_eq_false', beq_self_eq_true, Bool.not_true, Bool.not_false, List.getElem?_toArray, List.getElem?_cons_zero, List.getElem?_cons_succ]
    have : xs ≠ ys := fun he => e (by rw [he])
    exact ⟨by simp [this], Ext.refl _⟩
  · have hlen : xs.length = ys.length := by omega
    simp (disch := omega) only [↓stp, vls, inf, frs, mark_eq, ↓reduceIte, Nat.reduceEqDiff, ite_tt, ite_ff, eq_self, and_true, true_and, and_self, implies_true, Bool.true_eq_false, Bool.false_eq_true, decide_true, decide_false, decide_eq_true_eq, decide_eq_false_iff_not, ne_eq, not_true_eq_false, not_false_eq_true, Bool.not_eq_true', Bool.not_eq_false', beq_self_eq_true, Bool.not_true, Bool.not_false, List.getElem?_toArray, List.getElem?_cons_zero, List.getElem?_cons_succ]
    refine aloop (fun d fr A' => ∃ i : Nat, i ≤ xs.length ∧ d = xs.length - i ∧ Ext A A' ∧ fr 0 = .slice a xs.length c ∧ fr 1 = .slice a' ys.length c' ∧ fr 5 = .int .i64 i ∧ xs.take i = ys.take i) xs.length ⟨0, by omega, by omega, Ext.refl _, rfl, by rfl, by rfl, by simp⟩ ?_
    rintro d fr A' ⟨i, hi, rfl, he, h0, h1, h5, hn⟩
    simp (disch := omega) only [↓stp, vls, inf, frs, mark_eq, ↓reduceIte, Nat.reduceEqDiff, ite_tt, ite_ff, eq_self, and_true, true_and, and_self, implies_true, Bool.true_eq_false, Bool.false_eq_true, decide_true, decide_false, decide_eq_true_eq, decide_eq_false_iff_not, ne_eq, not_true_eq_false, not_false_eq_true, Bool.not_eq_true', Bool.not_eq_false', beq_self_eq_true, Bool.not_true, Bool.not_false, List.getElem?_toArray, List.getElem?_cons_zero, List.getElem?_cons_succ, h0, h1, h5]
    refine ⟨fun e => ?_, fun e => ?_⟩
    · obtain ⟨ad, d, rfl, hd, hp, _⟩ := (h.mono he).at (i := i) (by omega)
      obtain ⟨ad', d', rfl, hd', hp', _⟩ := (h'.mono he).at (i := i) (by omega)
      have hp : A'.part (ad.add (i * 4)) 4 = some d := hp
      have hp' : A'.part (ad'.add (i * 4)) 4 = some d' := hp'
      simp (disch := omega) only [↓stp, vls, inf, frs, mark_eq, ↓reduceIte, Nat.reduceEqDiff, ite_tt, ite_ff, eq_self, and_true, true_and, and_self, implies_true, Bool.true_eq_false, Bool.false_eq_true, decide_true, decide_false, decide_eq_true_eq, decide_eq_false_iff_not, ne_eq, not_true_eq_false, not_false_eq_true, Bool.not_eq_true', Bool.not_eq_false', beq_self_eq_true, Bool.not_true, Bool.not_false, List.getElem?_toArray, List.getElem?_cons_zero, List.getElem?_cons_succ, h0, h1, h5]
      refine adraw_items [.q 0, .q 1, .q 2, .l 3 false, .q 4, .q 5, .q 6, .l 7 false, .c 8 [], .q 9] (by kernel_rfl) (by kernel_rfl) ?_
      simp (disch := omega) only [↓stp, ↓pln, plv, nilOk, Nat.reduceBEq, Bool.or_false, Bool.or_true, Bool.false_or, Bool.true_or, vls, inf, frs, mark_eq, ↓reduceIte, Nat.reduceEqDiff, ite_tt, ite_ff, eq_self, and_true, true_and, and_self, implies_true, Bool.true_eq_false, Bool.false_eq_true, decide_true, decide_false, decide_eq_true_eq, decide_eq_false_iff_not, ne_eq, not_true_eq_false, not_false_eq_true, Bool.not_eq_true', Bool.not_eq_false', beq_self_eq_true, Bool.not_true, Bool.not_false, List.getElem?_toArray, List.getElem?_cons_zero, List.getElem?_cons_succ, h0, h1, h5, hp, hp']
      refine (eqFixture_c A' d d' xs[i] ys[i] hd hd').mono ?_
      rintro _ A1 ⟨rfl, he1⟩
      simp (disch := omega) only [↓stp, ↓pln, plv, nilOk, Nat.reduceBEq, Bool.or_false, Bool.or_true, Bool.false_or, Bool.true_or, vls, inf, frs, mark_eq, ↓reduceIte, Nat.reduceEqDiff, ite_tt, ite_ff, eq_self, and_true, true_and, and_self, implies_true, Bool.true_eq_false, Bool.false_eq_true, decide_true, decide_false, decide_eq_true_eq, decide_eq_false_iff_not, ne_eq, not_true_eq_false, not_false_eq_true, Bool.not_eq_true', Bool.not_eq_false', beq_self_eq_true, Bool.not_true, Bool.not_false, List.getElem?_toArray, List.getElem?_cons_zero, List.getElem?_cons_succ, h0, h1, h5]
      refine ⟨fun e1 => ?_, fun e1 => ?_⟩ <;> simp (disch := omega) only [↓stp, vls, inf, frs, mark_eq, ↓reduceIte, Nat.reduceEqDiff, ite_tt, ite_ff, eq_self, and_true, true_and, and_self, implies_true, Bool.true_eq_false, Bool.false_eq_true, decide_true, decide_false, decide_eq_true_eq, decide_eq_false_iff_not, ne_eq, not_true_eq_false, not_false_eq_true, Bool.not_eq_true', Bool.not_eq_false', beq_self_eq_true, Bool.not_true, Bool.not_false, List.getElem?_toArray, List.getElem?_cons_zero, List.getElem?_cons_succ, h0, h1, h5]
      · have : xs ≠ ys := fun he => e1 (by simp only [he])
        exact ⟨by simp [this], he.trans he1⟩
      · refine ⟨_, by omega, i + 1, by omega, rfl, he.trans he1, rfl, ?_⟩
        rw [List.take_succ_eq_append_getElem (by omega), List.take_succ_eq_append_getElem (by omega), hn]
        have : xs[i] = ys[i] := by simpa using e1
        rw [this]
    · rw [List.take_of_length_le (by omega), List.take_of_length_le (by omega)] at hn
      simp (disch := omega) only [↓stp, vls, inf, frs, mark_eq, ↓reduceIte, Nat.reduceEqDiff, ite_tt, ite_ff, eq_self, and_true, true_and, and_self, implies_true, Bool.true_eq_false, Bool.false_eq_true, decide_true, decide_false, decide_eq_true_eq, decide_eq_false_iff_not, ne_eq, not_true_eq_false, not_false_eq_true, Bool.not_eq_true', Bool.not_eq_false', beq_self_eq_true, Bool.not_true, Bool.not_false, List.getElem?_toArray, List.getElem?_cons_zero, List.getElem?_cons_succ, h0, h1, h5, hn]
      exact he

end Go.Proofs.Ytggklaimbklefaa

/- Where a Fixture stands in a list. -/
set_option maxHeartbeats 4000000
set_option synthInstance.maxHeartbeats 400000
set_option synthInstance.maxSize 4096
set_option linter.unusedSimpArgs false
set_option linter.unusedVariables false
namespace Go.Proofs.Ytggklaimbklefaa

set_option maxRecDepth 100000

theorem indexFunc_Fixture_c (A : View) (v f : Value) (xs : List FixtureD) (p : FixtureD → Bool) (h : Sl fixtureS A v xs) (hf : Tells A f (agR fixtureS) p) : ACalls Try.prog 106 #[v, f] A fun r A' => r = .int .i64 (idxI p xs) ∧ Ext A A' := by
  obtain ⟨a, c, rfl, hc, hl⟩ := h.slice
  obtain ⟨g, first, cap, rfl, hg, hp⟩ := hf
  refine acalls Try.func106 rfl (by kernel_rfl) ?_
  simp (disch := omega) only [↓stp, vls, inf, frs, mark_eq, ↓reduceIte, Nat.reduceEqDiff, ite_tt, ite_ff, eq_self, and_true, true_and, and_self, implies_true, Bool.true_eq_false, Bool.false_eq_true, decide_true, decide_false, decide_eq_true_eq, decide_eq_false_iff_not, ne_eq, not_true_eq_false, not_false_eq_true, Bool.not_eq_true', Bool.not_eq_false', beq_self_eq_true, Bool.not_true, Bool.not_false, List.getElem?_toArray, List.getElem?_cons_zero, List.getElem?_cons_succ]
  refine aloop (fun d fr A' => ∃ i : Nat, i ≤ xs.length ∧ d = xs.length - i ∧ Ext A A' ∧ fr 0 = .slice a xs.length c ∧ fr 1 = .func (.func g) first cap ∧ fr 7 = .int .i64 xs.length ∧ fr 8 = .int .i64 i ∧ (∀ j (hj : j < i) (hl : j < xs.length), p xs[j] = false)) xs.length ⟨0, by omega, by omega, Ext.refl _, rfl, by rfl, by rfl, by rfl, by omega⟩ ?_
  rintro d fr A' ⟨i, hi, rfl, he, h0, h1, h7, h8, hn⟩
  simp (disch := omega) only [↓stp, vls, inf, frs, mark_eq, ↓reduceIte, Nat.reduceEqDiff, ite_tt, ite_ff, eq_self, and_true, true_and, and_self, implies_true, Bool.true_eq_false, Bool.false_eq_true, decide_true, decide_false, decide_eq_true_eq, decide_eq_false_iff_not, ne_eq, not_true_eq_false, not_false_eq_true, Bool.not_eq_true', Bool.not_eq_false', beq_self_eq_true, Bool.not_true, Bool.not_false, List.getElem?_toArray, List.getElem?_cons_zero, List.getElem?_cons_succ, h0, h1, h7, h8]
  refine ⟨fun e => ?_, fun e => ?_⟩
  · have hlt : i < xs.length := by omega
    obtain ⟨ad, d, rfl, hd, hcl, _⟩ := (h.mono he).at hlt
    have hcl : A'.part (ad.add (i * 4)) 4 = some d := hcl
    simp (disch := omega) only [↓stp, vls, inf, frs, mark_eq, ↓reduceIte, Nat.reduceEqDiff, ite_tt, ite_ff, eq_self, and_true, true_and, and_self, implies_true, Bool.true_eq_false, Bool.false_eq_true, decide_true, decide_false, decide_eq_true_eq, decide_eq_false_iff_not, ne_eq, not_true_eq_false, not_false_eq_true, Bool.not_eq_true', Bool.not_eq_false', beq_self_eq_true, Bool.not_true, Bool.not_false, List.getElem?_toArray, List.getElem?_cons_zero, List.getElem?_cons_succ, h0, h1, h7, h8, hcl]
    rw [acall_at hg]
    refine (hp A' he _ xs[i] ⟨d, rfl, hd⟩).mono ?_
    rintro _ A1 ⟨rfl, he1⟩
    simp (disch := omega) only [↓stp, vls, inf, frs, mark_eq, ↓reduceIte, Nat.reduceEqDiff, ite_tt, ite_ff, eq_self, and_true, true_and, and_self, implies_true, Bool.true_eq_false, Bool.false_eq_true, decide_true, decide_false, decide_eq_true_eq, decide_eq_false_iff_not, ne_eq, not_true_eq_false, not_false_eq_true, Bool.not_eq_true', Bool.not_eq_false', beq_self_eq_true, Bool.not_true, Bool.not_false, List.getElem?_toArray, List.getElem?_cons_zero, List.getElem?_cons_succ, h0, h1, h7, h8]
    refine ⟨fun e1 => ?_, fun e1 => ?_⟩ <;> simp (disch := omega) only [↓stp, vls, inf, frs, mark_eq, ↓reduceIte, Nat.reduceEqDiff, ite_tt, ite_ff, eq_self, and_true, true_and, and_self, implies_true, Bool.true_eq_false, Bool.false_eq_true, decide_true, decide_false, decide_eq_true_eq, decide_eq_false_iff_not, ne_eq, not_true_eq_false, not_false_eq_true, Bool.not_eq_true', Bool.not_eq_false', beq_self_eq_true, Bool.not_true, Bool.not_false, List.getElem?_toArray, List.getElem?_cons_zero, List.getElem?_cons_succ, h0, h1, h7, h8]
    · rw [idxI_found hlt (fun j hj => hn j hj (by omega)) e1]
      exact ⟨rfl, he.trans he1⟩
    · refine ⟨_, by omega, i + 1, by omega, rfl, he.trans he1, rfl, fun j hj hl => ?_⟩
      by_cases hji : j = i
      · subst hji; exact e1
      · exact hn j (by omega) hl
  · simp (disch := omega) only [↓stp, vls, inf, frs, mark_eq, ↓reduceIte, Nat.reduceEqDiff, ite_tt, ite_ff, eq_self, and_true, true_and, and_self, implies_true, Bool.true_eq_false, Bool.false_eq_true, decide_true, decide_false, decide_eq_true_eq, decide_eq_false_iff_not, ne_eq, not_true_eq_false, not_false_eq_true, Bool.not_eq_true', Bool.not_eq_false', beq_self_eq_true, Bool.not_true, Bool.not_false, List.getElem?_toArray, List.getElem?_cons_zero, List.getElem?_cons_succ, h0, h1, h7, h8]
    rw [idxI_none (fun j hj => hn j (by omega) hj)]
    exact ⟨rfl, he⟩

end Go.Proofs.Ytggklaimbklefaa
