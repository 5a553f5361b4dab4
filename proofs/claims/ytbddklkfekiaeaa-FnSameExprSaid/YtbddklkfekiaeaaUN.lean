/- Expressions: the reference tells whether two of them are the same. -/
import Derived.Test.YtbddklkfekiaeaaUM
set_option maxHeartbeats 4000000
set_option synthInstance.maxHeartbeats 400000
set_option synthInstance.maxSize 4096
set_option linter.unusedSimpArgs false
set_option linter.unusedVariables false
namespace Go.Proofs.Ytbddklkfekiaeaa

set_option maxRecDepth 100000

theorem addAll_take {acc ls : List ByteArray} {i : Nat} (h : i < ls.length) : addAll acc (ls.take (i + 1)) = addT (addAll acc (ls.take i)) ls[i] := by
  unfold addAll
  rw [List.take_succ_eq_append_getElem h, List.foldl_append]
  rfl
theorem addT_in {xs : List ByteArray} {n y : ByteArray} : y ∈ addT xs n ↔ y ∈ xs ∨ y = n := by
  unfold addT
  split
  · rename_i hn
    exact ⟨.inl, fun h => h.elim id fun e => e ▸ hn⟩
  · rw [List.mem_append, List.mem_singleton]
theorem flush_mem {acc : List ByteArray} {w a : ByteArray} (h : a ∈ flushS acc w) : a ∈ acc ∨ (a = w ∧ w ≠ ⟨#[]⟩) := by
  unfold flushS at h
  split at h
  · exact .inl h
  · rename_i hn
    rcases addT_in.1 h with h | h
    · exact .inl h
    · exact .inr ⟨h, fun hq => hn (.inl hq)⟩
theorem size_ne {w : ByteArray} (h : w ≠ ⟨#[]⟩) : 1 ≤ w.size := by
  by_cases hq : w.size = 0
  · exfalso
    refine h (ba_ext ?_)
    have := toList_len w
    rw [hq] at this
    rw [List.length_eq_zero_iff.1 this]
  · omega
theorem scan_mem : ∀ (s : Bs) (acc : List ByteArray) (w : Bs) (a : ByteArray), a ∈ scanS acc w s → a ∈ acc ∨ (1 ≤ a.size ∧ a.size ≤ w.length + s.length)
  | [], acc, w, a, h => by
    rcases flush_mem h with h | ⟨rfl, h2⟩
    · exact .inl h
    · exact .inr ⟨size_ne h2, by rw [tx_size]; exact Nat.le_refl _⟩
  | x :: s, acc, w, a, h => by
    unfold scanS at h
    rw [List.length_cons]
    split at h
    · rcases scan_mem s _ _ a h with h | h
      · exact .inl h
      · rw [List.length_append, List.length_singleton] at h
        exact .inr ⟨h.1, by omega⟩
    · rcases scan_mem s _ _ a h with h | h
      · rcases flush_mem h with h | ⟨rfl, h2⟩
        · exact .inl h
        · exact .inr ⟨size_ne h2, by rw [tx_size]; omega⟩
      · rw [List.length_nil] at h
        exact .inr ⟨h.1, by omega⟩
theorem addAll_mem : ∀ (ls acc : List ByteArray) (a : ByteArray), a ∈ addAll acc ls ↔ a ∈ acc ∨ a ∈ ls
  | [], acc, a => by show a ∈ acc ↔ _; simp
  | y :: ls, acc, a => by
    show a ∈ addAll (addT acc y) ls ↔ _
    rw [addAll_mem ls, addT_in, List.mem_cons, or_assoc]
theorem leaf_size {s : ByteArray} {e : Ex} (h : exprP s = some e) (hs : s.size ≤ 1000) : ∀ a, a ∈ e.leaves → 1 ≤ a.size ∧ a.size ≤ 1000 := fun a ha => by
  have h1 := exprP_scan h
  have h2 : a ∈ scanS [] [] s.data.toList := by
    rw [h1]
    exact (addAll_mem _ _ _).2 (.inr ha)
  rcases scan_mem _ _ _ _ h2 with h3 | h3
  · cases h3
  · rw [toList_len, List.length_nil] at h3
    exact ⟨h3.1, by omega⟩
theorem exprP_small {s : ByteArray} {e : Ex} (h : exprP s = some e) : s.size ≤ 60 := by
  unfold exprP at h
  split at h
  · assumption
  · cases h

theorem scan_len : ∀ (s : Bs) (acc : List ByteArray) (w : Bs), (scanS acc w s).length ≤ acc.length + s.length + 1
  | [], acc, w => flush_le acc (tx w)
  | x :: s, acc, w => by
    unfold scanS
    rw [List.length_cons]
    split
    · have := scan_len s acc (w ++ [x]); omega
    · have h1 := scan_len s (flushS acc (tx w)) []
      have h2 := flush_le acc (tx w)
      omega
theorem leaves_len {s : ByteArray} {e : Ex} (h : exprP s = some e) : (addAll [] e.leaves).length ≤ 61 := by
  have h1 := exprP_small h
  rw [← exprP_scan h]
  have h2 := scan_len s.data.toList [] []
  rw [toList_len, List.length_nil] at h2
  omega

/-- All atoms of two expressions. -/
def twoA (a b : Ex) : List ByteArray := addAll (addAll [] a.leaves) (addAll [] b.leaves)
def alike (a b : Ex) (ws : List TestD) : Bool := ws.all fun t => a.ev t.1 t.2.2.1 == b.ev t.1 t.2.2.1
def sameE (a b : ByteArray) : Bool := match exprP a with
  | some ea => (match exprP b with
    | some eb => decide ((twoA ea eb).length ≤ 6) && alike ea eb (worldsR (twoA ea eb))
    | none => false)
  | none => false
theorem sameE_of {a b : ByteArray} {ea eb : Ex} (ha : exprP a = some ea) (hb : exprP b = some eb) : sameE a b = (decide ((twoA ea eb).length ≤ 6) && alike ea eb (worldsR (twoA ea eb))) := by
  unfold sameE
  rw [ha, hb]
theorem sameE_no {a b : ByteArray} (h : isE a = false ∨ isE b = false) : sameE a b = false := by
  unfold isE at h
  unfold sameE
  cases ha : exprP a with
  | none => rfl
  | some ea =>
    cases hb : exprP b with
    | none => rfl
    | some eb =>
      rw [ha, hb] at h
      rcases h with h | h <;> cases h
theorem alike_no {a b : Ex} {ws : List TestD} {i : Nat} (h : i < ws.length) (hn : a.ev (ws[i]).1 (ws[i]).2.2.1 ≠ b.ev (ws[i]).1 (ws[i]).2.2.1) : alike a b ws = false := by
  unfold alike
  rw [List.all_eq_false]
  exact ⟨_, List.getElem_mem h, by simpa using hn⟩

theorem spec_SameExpr_c (A : View) (a b : ByteArray) : ACalls Try.prog 32 #[.string a, .string b] A fun r V => r = .bool (sameE a b) ∧ Ext A V := by
  refine acalls Try.func32 rfl (by kernel_rfl) ?_
  simp (disch := omega) only [↓stq, amv_at, vls, inf, frs, mark_eq, ↓reduceIte, Nat.reduceEqDiff, ite_tt, ite_ff, eq_self, and_true, true_and, and_self, implies_true, Bool.true_eq_false, Bool.false_eq_true, decide_true, decide_false, decide_eq_true_eq, decide_eq_false_iff_not, ne_eq, not_true_eq_false, not_false_eq_true, Bool.not_eq_true', Bool.not_eq_false', beq_self_eq_true, Bool.not_true, Bool.not_false, List.getElem?_toArray, List.getElem?_cons_zero, List.getElem?_cons_succ]
  refine (spec_validExpr_c A a).mono ?_
  rintro _ V ⟨rfl, he⟩
  simp (disch := omega) only [↓stq, amv_at, vls, inf, frs, mark_eq, ↓reduceIte, Nat.reduceEqDiff, ite_tt, ite_ff, eq_self, and_true, true_and, and_self, implies_true, Bool.true_eq_false, Bool.false_eq_true, decide_true, decide_false, decide_eq_true_eq, decide_eq_false_iff_not, ne_eq, not_true_eq_false, not_false_eq_true, Bool.not_eq_true', Bool.not_eq_false', beq_self_eq_true, Bool.not_true, Bool.not_false, List.getElem?_toArray, List.getElem?_cons_zero, List.getElem?_cons_succ]
  cases hA : isE a with
  | false =>
    rw [sameE_no (.inl hA)]
    simp (disch := omega) only [↓stq, amv_at, vls, inf, frs, mark_eq, ↓reduceIte, Nat.reduceEqDiff, ite_tt, ite_ff, eq_self, and_true, true_and, and_self, implies_true, Bool.true_eq_false, Bool.false_eq_true, decide_true, decide_false, decide_eq_true_eq, decide_eq_false_iff_not, ne_eq, not_true_eq_false, not_false_eq_true, Bool.not_eq_true', Bool.not_eq_false', beq_self_eq_true, Bool.not_true, Bool.not_false, List.getElem?_toArray, List.getElem?_cons_zero, List.getElem?_cons_succ]
    exact he
  | true =>
    simp (disch := omega) only [↓stq, amv_at, vls, inf, frs, mark_eq, ↓reduceIte, Nat.reduceEqDiff, ite_tt, ite_ff, eq_self, and_true, true_and, and_self, implies_true, Bool.true_eq_false, Bool.false_eq_true, decide_true, decide_false, decide_eq_true_eq, decide_eq_false_iff_not, ne_eq, not_true_eq_false, not_false_eq_true, Bool.not_eq_true', Bool.not_eq_false', beq_self_eq_true, Bool.not_true, Bool.not_false, List.getElem?_toArray, List.getElem?_cons_zero, List.getElem?_cons_succ]
    refine (spec_validExpr_c V b).mono ?_
    rintro _ V2 ⟨rfl, he2⟩
    cases hB : isE b with
    | false =>
      rw [sameE_no (.inr hB)]
      simp (disch := omega) only [↓stq, amv_at, vls, inf, frs, mark_eq, ↓reduceIte, Nat.reduceEqDiff, ite_tt, ite_ff, eq_self, and_true, true_and, and_self, implies_true, Bool.true_eq_false, Bool.false_eq_true, decide_true, decide_false, decide_eq_true_eq, decide_eq_false_iff_not, ne_eq, not_true_eq_false, not_false_eq_true, Bool.not_eq_true', Bool.not_eq_false', beq_self_eq_true, Bool.not_true, Bool.not_false, List.getElem?_toArray, List.getElem?_cons_zero, List.getElem?_cons_succ]
      exact he.trans he2
    | true =>
      obtain ⟨ea, ha⟩ := isE_some hA
      obtain ⟨eb, hb⟩ := isE_some hB
      have hsa := exprP_small ha
      have hsb := exprP_small hb
      rw [sameE_of ha hb]
      simp (disch := omega) only [↓stq, amv_at, vls, inf, frs, mark_eq, ↓reduceIte, Nat.reduceEqDiff, ite_tt, ite_ff, eq_self, and_true, true_and, and_self, implies_true, Bool.true_eq_false, Bool.false_eq_true, decide_true, decide_false, decide_eq_true_eq, decide_eq_false_iff_not, ne_eq, not_true_eq_false, not_false_eq_true, Bool.not_eq_true', Bool.not_eq_false', beq_self_eq_true, Bool.not_true, Bool.not_false, List.getElem?_toArray, List.getElem?_cons_zero, List.getElem?_cons_succ]
      refine (spec_atoms_c V2 a (by omega)).mono ?_
      rintro r3 V3 ⟨f3, l3⟩
      rw [exprP_scan ha] at l3
      simp (disch := omega) only [↓stq, amv_at, vls, inf, frs, mark_eq, ↓reduceIte, Nat.reduceEqDiff, ite_tt, ite_ff, eq_self, and_true, true_and, and_self, implies_true, Bool.true_eq_false, Bool.false_eq_true, decide_true, decide_false, decide_eq_true_eq, decide_eq_false_iff_not, ne_eq, not_true_eq_false, not_false_eq_true, Bool.not_eq_true', Bool.not_eq_false', beq_self_eq_true, Bool.not_true, Bool.not_false, List.getElem?_toArray, List.getElem?_cons_zero, List.getElem?_cons_succ]
      refine (spec_atoms_c V3 b (by omega)).mono ?_
      rintro r4 V4 ⟨f4, l4⟩
      rw [exprP_scan hb] at l4
      have l := l3.append l4
      have hE := he.trans he2
      unfold twoA
      have hzb : ∀ y, y ∈ addAll [] eb.leaves → 1 ≤ y.size ∧ y.size ≤ 1000 := fun y hy => by
        rcases (addAll_mem _ _ _).1 hy with h | h
        · cases h
        · exact leaf_size hb (by omega) y h
      have hza : ∀ y, y ∈ addAll [] ea.leaves → 1 ≤ y.size ∧ y.size ≤ 1000 := fun y hy => by
        rcases (addAll_mem _ _ _).1 hy with h | h
        · cases h
        · exact leaf_size ha (by omega) y h
      have hlna : (addAll [] ea.leaves).length ≤ 1000 := by have := leaves_len ha; omega
      have hlnb : (addAll [] eb.leaves).length ≤ 1000 := by have := leaves_len hb; omega
      generalize addAll [] ea.leaves = la at l hza hlna ⊢
      generalize addAll [] eb.leaves = lb at l hzb hlnb ⊢
      obtain ⟨ab, cb, rfl, _, _⟩ := (OSl.toS (show OSl 9 strO V4 f4 r4 lb from l.at (i := 0) rfl)).slice
      clear l3 l4
      simp (disch := omega) only [↓stq, amv_at, vls, inf, frs, mark_eq, ↓reduceIte, Nat.reduceEqDiff, ite_tt, ite_ff, eq_self, and_true, true_and, and_self, implies_true, Bool.true_eq_false, Bool.false_eq_true, decide_true, decide_false, decide_eq_true_eq, decide_eq_false_iff_not, ne_eq, not_true_eq_false, not_false_eq_true, Bool.not_eq_true', Bool.not_eq_false', beq_self_eq_true, Bool.not_true, Bool.not_false, List.getElem?_toArray, List.getElem?_cons_zero, List.getElem?_cons_succ]
      refine aloop (fun d fr V => ∃ (i : Nat) (fp : List Nat) (w : Value), i ≤ lb.length ∧ d = lb.length - i ∧ Led V2 [osl 9 strO fp w (addAll la (lb.take i)), osl 9 strO f4 (.slice ab lb.length cb) lb] V ∧ fr 0 = .string a ∧ fr 1 = .string b ∧ fr 5 = w ∧ fr 6 = .slice ab lb.length cb ∧ fr 7 = .int .i64 i) lb.length ⟨0, _, _, by omega, by omega, l.perm (List.Perm.swap ..), by rfl, by rfl, by rfl, by rfl, by rfl⟩ ?_
      clear l
      rintro d fr V ⟨i, fp, w, hi, rfl, l, q0, q1, q5, q6, q7⟩
      simp (disch := omega) only [↓stq, amv_at, vls, inf, frs, mark_eq, ↓reduceIte, Nat.reduceEqDiff, ite_tt, ite_ff, eq_self, and_true, true_and, and_self, implies_true, Bool.true_eq_false, Bool.false_eq_true, decide_true, decide_false, decide_eq_true_eq, decide_eq_false_iff_not, ne_eq, not_true_eq_false, not_false_eq_true, Bool.not_eq_true', Bool.not_eq_false', beq_self_eq_true, Bool.not_true, Bool.not_false, List.getElem?_toArray, List.getElem?_cons_zero, List.getElem?_cons_succ, q0, q1, q5, q6, q7]
      refine ⟨fun e1 => ?_, fun e1 => ?_⟩
      · have hlt : i < lb.length := by omega
        have htk := addAll_take (acc := la) hlt
        have hll := addAll_len (lb.take i) la
        rw [List.length_take] at hll
        obtain ⟨ad, hq, kk, zk⟩ := (OSl.toS (show OSl 9 strO V f4 _ lb from l.at (i := 1) rfl)).str hlt
        subst hq
        simp (disch := omega) only [↓stq, amv_at, vls, inf, frs, mark_eq, ↓reduceIte, Nat.reduceEqDiff, ite_tt, ite_ff, eq_self, and_true, true_and, and_self, implies_true, Bool.true_eq_false, Bool.false_eq_true, decide_true, decide_false, decide_eq_true_eq, decide_eq_false_iff_not, ne_eq, not_true_eq_false, not_false_eq_true, Bool.not_eq_true', Bool.not_eq_false', beq_self_eq_true, Bool.not_true, Bool.not_false, List.getElem?_toArray, List.getElem?_cons_zero, List.getElem?_cons_succ, q0, q1, q5, q6, q7, kk]
        refine (addText_c V2 V _ fp w _ lb[i] zk (by omega) l).mono ?_
        rintro r V5 ⟨fp2, l⟩
        simp (disch := omega) only [↓stq, amv_at, vls, inf, frs, mark_eq, ↓reduceIte, Nat.reduceEqDiff, ite_tt, ite_ff, eq_self, and_true, true_and, and_self, implies_true, Bool.true_eq_false, Bool.false_eq_true, decide_true, decide_false, decide_eq_true_eq, decide_eq_false_iff_not, ne_eq, not_true_eq_false, not_false_eq_true, Bool.not_eq_true', Bool.not_eq_false', beq_self_eq_true, Bool.not_true, Bool.not_false, List.getElem?_toArray, List.getElem?_cons_zero, List.getElem?_cons_succ, q0, q1, q5, q6, q7]
        exact ⟨_, by omega, i + 1, fp2, r, by omega, rfl, by rw [htk]; exact l, rfl, rfl⟩
      · have hie : i = lb.length := by omega
        rw [hie, List.take_length] at l
        have hzL : ∀ y, y ∈ addAll la lb → 1 ≤ y.size ∧ y.size ≤ 1000 := fun y hy => ((addAll_mem _ _ _).1 hy).elim (hza y) (hzb y)
        generalize addAll la lb = L at l hzL ⊢
        obtain ⟨aL, cL, rfl, _, _⟩ := (OSl.toS (show OSl 9 strO V fp w L from l.at (i := 0) rfl)).slice
        simp (disch := omega) only [↓stq, amv_at, vls, inf, frs, mark_eq, ↓reduceIte, Nat.reduceEqDiff, ite_tt, ite_ff, eq_self, and_true, true_and, and_self, implies_true, Bool.true_eq_false, Bool.false_eq_true, decide_true, decide_false, decide_eq_true_eq, decide_eq_false_iff_not, ne_eq, not_true_eq_false, not_false_eq_true, Bool.not_eq_true', Bool.not_eq_false', beq_self_eq_true, Bool.not_true, Bool.not_false, List.getElem?_toArray, List.getElem?_cons_zero, List.getElem?_cons_succ, q0, q1, q5, q6, q7]
        refine ⟨fun e2 => ?_, fun e2 => ?_⟩
        · simp (disch := omega) only [↓stq, amv_at, vls, inf, frs, mark_eq, ↓reduceIte, Nat.reduceEqDiff, ite_tt, ite_ff, eq_self, and_true, true_and, and_self, implies_true, Bool.true_eq_false, Bool.false_eq_true, decide_true, decide_false, decide_eq_true_eq, decide_eq_false_iff_not, ne_eq, not_true_eq_false, not_false_eq_true, Bool.not_eq_true', Bool.not_eq_false', beq_self_eq_true, Bool.not_true, Bool.not_false, List.getElem?_toArray, List.getElem?_cons_zero, List.getElem?_cons_succ, q0, q1, q5, q6, q7]
          rw [decide_eq_false (by omega), Bool.false_and]
          exact ⟨rfl, hE.trans l.ext⟩
        · simp (disch := omega) only [↓stq, amv_at, vls, inf, frs, mark_eq, ↓reduceIte, Nat.reduceEqDiff, ite_tt, ite_ff, eq_self, and_true, true_and, and_self, implies_true, Bool.true_eq_false, Bool.false_eq_true, decide_true, decide_false, decide_eq_true_eq, decide_eq_false_iff_not, ne_eq, not_true_eq_false, not_false_eq_true, Bool.not_eq_true', Bool.not_eq_false', beq_self_eq_true, Bool.not_true, Bool.not_false, List.getElem?_toArray, List.getElem?_cons_zero, List.getElem?_cons_succ, q0, q1, q5, q6, q7]
          rw [decide_eq_true (by omega), Bool.true_and]
          refine (spec_worlds_c V _ L (OSl.toS (l.at (i := 0) rfl)) (by omega) hzL).mono ?_
          rintro rw V6 ⟨fw, l6⟩
          have hW : Sl testS V6 rw (worldsR L) := OSl.toS (l6.at (i := 0) rfl)
          generalize worldsR L = ws at hW
          obtain ⟨aW, cW, rfl, _, _⟩ := hW.slice
          have hE6 := (hE.trans l.ext).trans l6.ext
          clear l l6
          simp (disch := omega) only [↓stq, amv_at, vls, inf, frs, mark_eq, ↓reduceIte, Nat.reduceEqDiff, ite_tt, ite_ff, eq_self, and_true, true_and, and_self, implies_true, Bool.true_eq_false, Bool.false_eq_true, decide_true, decide_false, decide_eq_true_eq, decide_eq_false_iff_not, ne_eq, not_true_eq_false, not_false_eq_true, Bool.not_eq_true', Bool.not_eq_false', beq_self_eq_true, Bool.not_true, Bool.not_false, List.getElem?_toArray, List.getElem?_cons_zero, List.getElem?_cons_succ, q0, q1, q5, q6, q7]
          refine aloop (fun d fr V => ∃ k : Nat, k ≤ ws.length ∧ d = ws.length - k ∧ Ext V6 V ∧ (∀ j (hj : j < ws.length), j < k → ea.ev (ws[j]).1 (ws[j]).2.2.1 = eb.ev (ws[j]).1 (ws[j]).2.2.1) ∧ fr 0 = .string a ∧ fr 1 = .string b ∧ fr 8 = .slice aW ws.length cW ∧ fr 9 = .int .i64 k) ws.length ⟨0, by omega, by omega, Ext.refl _, fun j hj h => absurd h (Nat.not_lt_zero _), q0, q1, by rfl, by rfl⟩ ?_
          clear q0 q1 q5 q6 q7
          rintro d fr V ⟨k, hk, rfl, heV, hall, q0, q1, q8, q9⟩
          simp (disch := omega) only [↓stq, amv_at, vls, inf, frs, mark_eq, ↓reduceIte, Nat.reduceEqDiff, ite_tt, ite_ff, eq_self, and_true, true_and, and_self, implies_true, Bool.true_eq_false, Bool.false_eq_true, decide_true, decide_false, decide_eq_true_eq, decide_eq_false_iff_not, ne_eq, not_true_eq_false, not_false_eq_true, Bool.not_eq_true', Bool.not_eq_false', beq_self_eq_true, Bool.not_true, Bool.not_false, List.getElem?_toArray, List.getElem?_cons_zero, List.getElem?_cons_succ, q0, q1, q8, q9]
          refine ⟨fun e3 => ?_, fun e3 => ?_⟩
          · have hlt : k < ws.length := by omega
            obtain ⟨ad, u2, u3, rfl, hcl, z1, z2, f2, f3⟩ := (hW.mono heV).test hlt
            obtain ⟨a2, c2, rfl, _, _⟩ := f2.slice
            obtain ⟨a3, c3, rfl, _, _⟩ := f3.slice
            simp (disch := omega) only [↓stq, amv_at, vls, inf, frs, mark_eq, ↓reduceIte, Nat.reduceEqDiff, ite_tt, ite_ff, eq_self, and_true, true_and, and_self, implies_true, Bool.true_eq_false, Bool.false_eq_true, decide_true, decide_false, decide_eq_true_eq, decide_eq_false_iff_not, ne_eq, not_true_eq_false, not_false_eq_true, Bool.not_eq_true', Bool.not_eq_false', beq_self_eq_true, Bool.not_true, Bool.not_false, List.getElem?_toArray, List.getElem?_cons_zero, List.getElem?_cons_succ, q0, q1, q8, q9, hcl]
            refine (spec_evaluate_c V a _ ws[k] (testS_mk z1 z2 f2 f3)).mono ?_
            rintro _ V7 ⟨b1, rfl, hb1, he7⟩
            have hcl := he7.part hcl
            simp (disch := omega) only [↓stq, amv_at, vls, inf, frs, mark_eq, ↓reduceIte, Nat.reduceEqDiff, ite_tt, ite_ff, eq_self, and_true, true_and, and_self, implies_true, Bool.true_eq_false, Bool.false_eq_true, decide_true, decide_false, decide_eq_true_eq, decide_eq_false_iff_not, ne_eq, not_true_eq_false, not_false_eq_true, Bool.not_eq_true', Bool.not_eq_false', beq_self_eq_true, Bool.not_true, Bool.not_false, List.getElem?_toArray, List.getElem?_cons_zero, List.getElem?_cons_succ, q0, q1, q8, q9, hcl]
            refine (spec_evaluate_c V7 b _ ws[k] (testS_mk z1 z2 (f2.mono he7) (f3.mono he7))).mono ?_
            rintro _ V8 ⟨b2, rfl, hb2, he8⟩
            have hb1 := hb1 ea ha
            have hb2 := hb2 eb hb
            subst hb1; subst hb2
            by_cases hq : ea.ev (ws[k]).1 (ws[k]).2.2.1 = eb.ev (ws[k]).1 (ws[k]).2.2.1
            · have hbb : (!(ea.ev (ws[k]).1 (ws[k]).2.2.1 == eb.ev (ws[k]).1 (ws[k]).2.2.1)) = false := by rw [hq]; simp
              simp (disch := omega) only [↓stq, amv_at, vls, inf, frs, mark_eq, ↓reduceIte, Nat.reduceEqDiff, ite_tt, ite_ff, eq_self, and_true, true_and, and_self, implies_true, Bool.true_eq_false, Bool.false_eq_true, decide_true, decide_false, decide_eq_true_eq, decide_eq_false_iff_not, ne_eq, not_true_eq_false, not_false_eq_true, Bool.not_eq_true', Bool.not_eq_false', beq_self_eq_true, Bool.not_true, Bool.not_false, List.getElem?_toArray, List.getElem?_cons_zero, List.getElem?_cons_succ, q0, q1, q8, q9, hbb]
              refine ⟨_, by omega, k + 1, by omega, rfl, (heV.trans he7).trans he8, fun j hj h => ?_, rfl⟩
              rcases Nat.lt_succ_iff_lt_or_eq.1 h with h | rfl
              · exact hall j hj h
              · exact hq
            · have hbb : (!(ea.ev (ws[k]).1 (ws[k]).2.2.1 == eb.ev (ws[k]).1 (ws[k]).2.2.1)) = true := by
                rw [Bool.not_eq_true', beq_eq_false_iff_ne]
                exact hq
              simp (disch := omega) only [↓stq, amv_at, vls, inf, frs, mark_eq, ↓reduceIte, Nat.reduceEqDiff, ite_tt, ite_ff, eq_self, and_true, true_and, and_self, implies_true, Bool.true_eq_false, Bool.false_eq_true, decide_true, decide_false, decide_eq_true_eq, decide_eq_false_iff_not, ne_eq, not_true_eq_false, not_false_eq_true, Bool.not_eq_true', Bool.not_eq_false', beq_self_eq_true, Bool.not_true, Bool.not_false, List.getElem?_toArray, List.getElem?_cons_zero, List.getElem?_cons_succ, q0, q1, q8, q9, hbb]
              rw [alike_no hlt hq]
              exact ⟨rfl, ((hE6.trans heV).trans he7).trans he8⟩
          · have hal : alike ea eb ws = true := by
              unfold alike
              rw [List.all_eq_true]
              intro t ht
              obtain ⟨j, hj, rfl⟩ := List.mem_iff_getElem.1 ht
              rw [beq_iff_eq]
              exact hall j hj (by omega)
            simp (disch := omega) only [↓stq, amv_at, vls, inf, frs, mark_eq, ↓reduceIte, Nat.reduceEqDiff, ite_tt, ite_ff, eq_self, and_true, true_and, and_self, implies_true, Bool.true_eq_false, Bool.false_eq_true, decide_true, decide_false, decide_eq_true_eq, decide_eq_false_iff_not, ne_eq, not_true_eq_false, not_false_eq_true, Bool.not_eq_true', Bool.not_eq_false', beq_self_eq_true, Bool.not_true, Bool.not_false, List.getElem?_toArray, List.getElem?_cons_zero, List.getElem?_cons_succ, q0, q1, q8, q9]
            rw [hal]
            exact ⟨rfl, hE6.trans heV⟩

end Go.Proofs.Ytbddklkfekiaeaa

