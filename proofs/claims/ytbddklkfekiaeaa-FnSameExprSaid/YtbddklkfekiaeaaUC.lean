/- Expressions: not another one; tests that are chosen twice. -/
import Derived.Test.YtbddklkfekiaeaaUA
import Derived.Test.YtbddklkfekiaeaaUB
import Derived.Test.YtbddklkfekiaeaaYT
set_option maxHeartbeats 4000000
set_option synthInstance.maxHeartbeats 400000
set_option synthInstance.maxSize 4096
set_option linter.unusedSimpArgs false
set_option linter.unusedVariables false
namespace Go.Proofs.Ytbddklkfekiaeaa

set_option maxRecDepth 100000

def notE (s : ByteArray) : ByteArray := (⟨#[110, 111, 116, 32, 40]⟩ : ByteArray) ++ s ++ ⟨#[41]⟩
theorem notE_tx (s : ByteArray) : notE s = tx (notW ++ openW ++ s.data.toList ++ closeW) := by
  refine ba_ext ?_
  rw [tx_list]
  unfold notE
  rw [ByteArray.data_append, ByteArray.data_append, Array.toList_append, Array.toList_append]
  rfl
theorem notE_size (s : ByteArray) : (notE s).size = s.size + 6 := by
  unfold notE
  rw [ByteArray.size_append, ByteArray.size_append]
  show 5 + s.size + 1 = _
  omega
/-- The expression that holds where another one does not. -/
def noE (s : ByteArray) : ByteArray := if isE s then (if isE (notE s) then notE s else ⟨#[]⟩) else ⟨#[]⟩
theorem impl_NotExpr_c (A : View) (s : ByteArray) (hs : s.size ≤ 100000) : ACalls Try.prog 48 #[.string s] A fun r V => r = .string (noE s) ∧ Ext A V := by
  unfold noE
  have h5 : ((⟨#[110, 111, 116, 32, 40]⟩ : ByteArray) ++ s).size = 5 + s.size := by rw [ByteArray.size_append]; rfl
  refine acalls Try.func48 rfl (by kernel_rfl) ?_
  simp (disch := omega) only [↓stq, amv_at, vls, inf, frs, mark_eq, ↓reduceIte, Nat.reduceEqDiff, ite_tt, ite_ff, eq_self, and_true, true_and, and_self, implies_true, Bool.true_eq_false, Bool.false_eq_true, decide_true, decide_false, decide_eq_true_eq, decide_eq_false_iff_not, ne_eq, not_true_eq_false, not_false_eq_true, Bool.not_eq_true', Bool.not_eq_false', beq_self_eq_true, Bool.not_true, Bool.not_false, List.getElem?_toArray, List.getElem?_cons_zero, List.getElem?_cons_succ]
  refine (impl_ValidExpr_c A s (by omega)).mono ?_
  rintro _ V ⟨rfl, he⟩
  simp (disch := omega) only [↓stq, amv_at, vls, inf, frs, mark_eq, ↓reduceIte, Nat.reduceEqDiff, ite_tt, ite_ff, eq_self, and_true, true_and, and_self, implies_true, Bool.true_eq_false, Bool.false_eq_true, decide_true, decide_false, decide_eq_true_eq, decide_eq_false_iff_not, ne_eq, not_true_eq_false, not_false_eq_true, Bool.not_eq_true', Bool.not_eq_false', beq_self_eq_true, Bool.not_true, Bool.not_false, List.getElem?_toArray, List.getElem?_cons_zero, List.getElem?_cons_succ]
  refine ⟨fun e1 => ?_, fun e1 => ?_⟩ <;> simp (disch := omega) only [↓stq, amv_at, vls, inf, frs, mark_eq, ↓reduceIte, Nat.reduceEqDiff, ite_tt, ite_ff, eq_self, and_true, true_and, and_self, implies_true, Bool.true_eq_false, Bool.false_eq_true, decide_true, decide_false, decide_eq_true_eq, decide_eq_false_iff_not, ne_eq, not_true_eq_false, not_false_eq_true, Bool.not_eq_true', Bool.not_eq_false', beq_self_eq_true, Bool.not_true, Bool.not_false, List.getElem?_toArray, List.getElem?_cons_zero, List.getElem?_cons_succ]
  · rw [e1]
    exact ⟨rfl, he⟩
  · rw [abin_cat _ _ _ (by show 5 + s.size ≤ _; omega)]
    simp (disch := omega) only [↓stq, amv_at, vls, inf, frs, mark_eq, ↓reduceIte, Nat.reduceEqDiff, ite_tt, ite_ff, eq_self, and_true, true_and, and_self, implies_true, Bool.true_eq_false, Bool.false_eq_true, decide_true, decide_false, decide_eq_true_eq, decide_eq_false_iff_not, ne_eq, not_true_eq_false, not_false_eq_true, Bool.not_eq_true', Bool.not_eq_false', beq_self_eq_true, Bool.not_true, Bool.not_false, List.getElem?_toArray, List.getElem?_cons_zero, List.getElem?_cons_succ]
    rw [abin_cat _ _ _ (by rw [h5]; show 5 + s.size + 1 ≤ _; omega)]
    simp (disch := omega) only [↓stq, amv_at, vls, inf, frs, mark_eq, ↓reduceIte, Nat.reduceEqDiff, ite_tt, ite_ff, eq_self, and_true, true_and, and_self, implies_true, Bool.true_eq_false, Bool.false_eq_true, decide_true, decide_false, decide_eq_true_eq, decide_eq_false_iff_not, ne_eq, not_true_eq_false, not_false_eq_true, Bool.not_eq_true', Bool.not_eq_false', beq_self_eq_true, Bool.not_true, Bool.not_false, List.getElem?_toArray, List.getElem?_cons_zero, List.getElem?_cons_succ]
    rw [show (⟨#[110, 111, 116, 32, 40]⟩ : ByteArray) ++ s ++ ⟨#[41]⟩ = notE s from rfl, e1, if_pos rfl]
    have hz := notE_size s
    generalize notE s = w at hz ⊢
    have key : ACalls Try.prog 84 #[.string w] V fun r V' => r = .string (if isE w then w else ⟨#[]⟩) ∧ Ext V V' := by
      refine acalls Try.func84 rfl (by kernel_rfl) ?_
      simp (disch := omega) only [↓stq, amv_at, vls, inf, frs, mark_eq, ↓reduceIte, Nat.reduceEqDiff, ite_tt, ite_ff, eq_self, and_true, true_and, and_self, implies_true, Bool.true_eq_false, Bool.false_eq_true, decide_true, decide_false, decide_eq_true_eq, decide_eq_false_iff_not, ne_eq, not_true_eq_false, not_false_eq_true, Bool.not_eq_true', Bool.not_eq_false', beq_self_eq_true, Bool.not_true, Bool.not_false, List.getElem?_toArray, List.getElem?_cons_zero, List.getElem?_cons_succ]
      refine (impl_ValidExpr_c V w (by omega)).mono ?_
      rintro _ V2 ⟨rfl, he2⟩
      simp (disch := omega) only [↓stq, amv_at, vls, inf, frs, mark_eq, ↓reduceIte, Nat.reduceEqDiff, ite_tt, ite_ff, eq_self, and_true, true_and, and_self, implies_true, Bool.true_eq_false, Bool.false_eq_true, decide_true, decide_false, decide_eq_true_eq, decide_eq_false_iff_not, ne_eq, not_true_eq_false, not_false_eq_true, Bool.not_eq_true', Bool.not_eq_false', beq_self_eq_true, Bool.not_true, Bool.not_false, List.getElem?_toArray, List.getElem?_cons_zero, List.getElem?_cons_succ]
      refine ⟨fun e2 => ?_, fun e2 => ?_⟩ <;> simp (disch := omega) only [↓stq, amv_at, vls, inf, frs, mark_eq, ↓reduceIte, Nat.reduceEqDiff, ite_tt, ite_ff, eq_self, and_true, true_and, and_self, implies_true, Bool.true_eq_false, Bool.false_eq_true, decide_true, decide_false, decide_eq_true_eq, decide_eq_false_iff_not, ne_eq, not_true_eq_false, not_false_eq_true, Bool.not_eq_true', Bool.not_eq_false', beq_self_eq_true, Bool.not_true, Bool.not_false, List.getElem?_toArray, List.getElem?_cons_zero, List.getElem?_cons_succ, e2]
      · exact he2
      · exact he2
    refine key.mono ?_
    rintro _ V2 ⟨rfl, he2⟩
    simp (disch := omega) only [↓stq, amv_at, vls, inf, frs, mark_eq, ↓reduceIte, Nat.reduceEqDiff, ite_tt, ite_ff, eq_self, and_true, true_and, and_self, implies_true, Bool.true_eq_false, Bool.false_eq_true, decide_true, decide_false, decide_eq_true_eq, decide_eq_false_iff_not, ne_eq, not_true_eq_false, not_false_eq_true, Bool.not_eq_true', Bool.not_eq_false', beq_self_eq_true, Bool.not_true, Bool.not_false, List.getElem?_toArray, List.getElem?_cons_zero, List.getElem?_cons_succ]
    exact he.trans he2

theorem pickE_neg (e : Ex) (ts : List TestD) : pickE true (.neg e) ts = pickE false e ts := by
  unfold pickE
  refine List.filter_congr fun t _ => ?_
  show ((!e.ev t.1 t.2.2.1) == true) = (e.ev t.1 t.2.2.1 == false)
  cases e.ev t.1 t.2.2.1 <;> rfl
theorem testsB_sub {xs ts : List TestD} (hs : xs.Sublist ts) (h : testsB ts = true) : testsB xs = true := by
  have hp := testsB_parts h
  unfold testsB
  simp only [Bool.and_eq_true, decide_eq_true_eq, List.all_eq_true]
  exact ⟨⟨fun t ht => hp.2.1 t (hs.subset ht), (hs.map idD).nodup hp.2.2⟩, Nat.le_trans hs.length_le hp.1⟩
theorem pickE_sub (want : Bool) (e : Ex) (ts : List TestD) : (pickE want e ts).Sublist ts := List.filter_sublist
theorem pickE_twice (want : Bool) (e : Ex) (ts : List TestD) : pickE want e (pickE want e ts) = pickE want e ts := by
  unfold pickE
  rw [List.filter_filter]
  refine List.filter_congr fun t _ => Bool.and_self _

/-- What is chosen, in its place. -/
theorem pick_at {p : TestD → Bool} {ts : List TestD} {k : Nat} (hk : k < ts.length) (hp : p ts[k] = true) : ∃ h : ((ts.take k).filter p).length < (ts.filter p).length, (ts.filter p)[((ts.take k).filter p).length] = ts[k] := by
  have h1 : ts.filter p = (ts.take k).filter p ++ ts[k] :: (ts.drop (k + 1)).filter p := by
    conv => lhs; rw [← List.take_append_drop k ts, List.drop_eq_getElem_cons hk]
    rw [List.filter_append, List.filter_cons, if_pos hp]
  have h2 : ((ts.take k).filter p).length < (ts.filter p).length := by
    have := congrArg List.length h1
    rw [List.length_append, List.length_cons] at this
    omega
  refine ⟨h2, ?_⟩
  have h3 : (ts.filter p)[((ts.take k).filter p).length]? = some ts[k] := by
    rw [h1, List.getElem?_append_right (Nat.le_refl _), Nat.sub_self]
    rfl
  rw [List.getElem?_eq_getElem h2] at h3
  exact Option.some.inj h3
theorem same_fields {x y : TestD} : (decide (x.1 = y.1) && decide (x.2.1 = y.2.1) && decide (x.2.2.1 = y.2.2.1) && decide (x.2.2.2.1 = y.2.2.2.1)) = true ↔ x = y := by
  obtain ⟨a, b, c, d, _⟩ := x
  obtain ⟨a', b', c', d', _⟩ := y
  simp only [Bool.and_eq_true, decide_eq_true_eq, Prod.mk.injEq, and_true, and_assoc]

end Go.Proofs.Ytbddklkfekiaeaa

