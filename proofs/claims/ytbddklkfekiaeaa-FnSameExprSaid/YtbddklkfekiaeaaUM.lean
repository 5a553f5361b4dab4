/- Expressions: the worlds that the reference tries. -/
import Derived.Test.YtbddklkfekiaeaaUL
set_option maxHeartbeats 4000000
set_option synthInstance.maxHeartbeats 400000
set_option synthInstance.maxSize 4096
set_option linter.unusedSimpArgs false
set_option linter.unusedVariables false
namespace Go.Proofs.Ytbddklkfekiaeaa

set_option maxRecDepth 100000

def isAt (a : ByteArray) : Bool := decide (sbyte a 0 = 64)
def cut1 (a : ByteArray) : ByteArray := a.extract 1 a.size
def wld (m : ByteArray) (ms : List ByteArray) : TestD := (m, ⟨#[]⟩, ms, [], ())
def baseW (L : List ByteArray) : List TestD := wld ⟨#[]⟩ [] :: ((L.filter isAt).map fun a => wld (cut1 a) [])
def addW (a : ByteArray) (t : TestD) : TestD := wld t.1 (t.2.2.1 ++ [a])
def dblW (ws : List TestD) (a : ByteArray) : List TestD := ws ++ ws.map (addW a)
def mrk (L : List ByteArray) : List ByteArray := L.filter fun a => !isAt a
def worldsR (L : List ByteArray) : List TestD := (mrk L).foldl dblW (baseW L)
theorem baseW_take {L : List ByteArray} {i : Nat} (h : i < L.length) : baseW (L.take (i + 1)) = baseW (L.take i) ++ (if isAt L[i] = true then [wld (cut1 L[i]) []] else []) := by
  unfold baseW
  rw [List.take_succ_eq_append_getElem h, List.filter_append, List.map_append, List.filter_cons]
  by_cases hq : isAt L[i] = true
  · rw [if_pos hq, if_pos hq]; rfl
  · rw [if_neg hq, if_neg hq]; rfl
theorem baseW_len (L : List ByteArray) : (baseW L).length ≤ L.length + 1 := by
  unfold baseW
  rw [List.length_cons, List.length_map]
  have : (L.filter isAt).length ≤ L.length := List.length_filter_le ..
  omega
theorem mrk_take {L : List ByteArray} {i : Nat} (h : i < L.length) (ws : List TestD) : (mrk (L.take (i + 1))).foldl dblW ws = if isAt L[i] = true then (mrk (L.take i)).foldl dblW ws else dblW ((mrk (L.take i)).foldl dblW ws) L[i] := by
  unfold mrk
  rw [List.take_succ_eq_append_getElem h, List.filter_append, List.foldl_append, List.filter_cons]
  cases isAt L[i] <;> rfl
theorem dbl_len : ∀ (m : List ByteArray) (ws : List TestD), (m.foldl dblW ws).length ≤ ws.length * 2 ^ m.length
  | [], ws => by simp
  | a :: m, ws => by
    have h1 := dbl_len m (dblW ws a)
    have h2 : (dblW ws a).length = ws.length * 2 := by unfold dblW; rw [List.length_append, List.length_map]; omega
    rw [h2] at h1
    rw [List.foldl_cons, List.length_cons, Nat.pow_succ, Nat.mul_comm (2 ^ m.length) 2, ← Nat.mul_assoc]
    exact h1
/-- Small worlds. -/
def okW (k : Nat) (t : TestD) : Prop := t.1.size ≤ 1000 ∧ t.2.2.1.length ≤ k
theorem okW_dbl {ws : List TestD} {k : Nat} (h : ∀ t, t ∈ ws → okW k t) (a : ByteArray) : ∀ t, t ∈ dblW ws a → okW (k + 1) t := fun t ht => by
  rcases List.mem_append.1 ht with ht | ht
  · have := h t ht; exact ⟨this.1, Nat.le_succ_of_le this.2⟩
  · obtain ⟨u, hu, rfl⟩ := List.mem_map.1 ht
    have := h u hu
    refine ⟨this.1, ?_⟩
    show (u.2.2.1 ++ [a]).length ≤ _
    rw [List.length_append]
    exact Nat.succ_le_succ this.2
theorem okW_base {L : List ByteArray} (h : ∀ a, a ∈ L → a.size ≤ 1000) : ∀ t, t ∈ baseW L → okW 0 t := fun t ht => by
  rcases List.mem_cons.1 ht with rfl | ht
  · exact ⟨by show (0 : Nat) ≤ 1000; omega, by show (0 : Nat) ≤ 0; omega⟩
  · obtain ⟨a, ha, rfl⟩ := List.mem_map.1 ht
    have := h a (List.mem_filter.1 ha).1
    refine ⟨?_, by show (0 : Nat) ≤ 0; omega⟩
    show (a.extract 1 a.size).size ≤ 1000
    rw [ByteArray.size_extract]
    omega

theorem okW_fold : ∀ (m : List ByteArray) {ws : List TestD} {k : Nat}, (∀ t, t ∈ ws → okW k t) → ∀ t, t ∈ m.foldl dblW ws → okW (k + m.length) t
  | [], _, _, h => h
  | a :: m, ws, k, h => by
    have := okW_fold m (okW_dbl h a)
    rw [List.foldl_cons, List.length_cons, ← Nat.add_assoc, Nat.add_right_comm]
    exact this

theorem nilO_str (V : View) : OSl 9 strO V [] (.slice none 0 0) ([] : List ByteArray) := ⟨by simp, .inl ⟨rfl, rfl, rfl⟩⟩
theorem wld_mk {V : View} {m : ByteArray} {ms : List ByteArray} {fn : List Nat} {w : Value} (hm : m.size ≤ 140737488355328) (h : OSl 9 strO V fn w ms) : testO.rel V (fn ++ []) (wld m ms) [.string m, .string ⟨#[]⟩, w, .slice none 0 0] :=
  testO_mk (x := wld m ms) hm (by show (0 : Nat) ≤ _; omega) h (nilO_str V)
theorem led_wld0 {A V : View} {L : List It} {m : ByteArray} (l : Led A L V) (hm : m.size ≤ 140737488355328) : Led A (oc testO [] (wld m []) [.string m, .string ⟨#[]⟩, .slice none 0 0, .slice none 0 0] :: L) V :=
  l.cons (Ext.refl _) (oc testO [] (wld m []) _) (wld_mk (fn := []) hm (nilO_str V)) (fun b hb => (List.not_mem_nil hb).elim) List.nodup_nil

theorem spec_worlds_c (A : View) (v : Value) (L : List ByteArray) (h : Sl strS A v L) (hl : L.length ≤ 6) (hz : ∀ a, a ∈ L → 1 ≤ a.size ∧ a.size ≤ 1000) : ACalls Try.prog 72 #[v] A fun r V => NewSl 34 testO A r V (worldsR L) := by
  obtain ⟨a, c, rfl, _, _⟩ := h.slice
  have h1 : Int.toNat 1 = 1 := rfl
  have hb0 : Try.prog.built 34 [] = some #[.string ⟨#[]⟩, .string ⟨#[]⟩, .slice none 0 0, .slice none 0 0] := by kernel_rfl
  refine acalls Try.func72 rfl (by kernel_rfl) ?_
  simp (disch := omega) only [↓stq, amv_at, vls, inf, frs, mark_eq, ↓reduceIte, Nat.reduceEqDiff, ite_tt, ite_ff, eq_self, and_true, true_and, and_self, implies_true, Bool.true_eq_false, Bool.false_eq_true, decide_true, decide_false, decide_eq_true_eq, decide_eq_false_iff_not, ne_eq, not_true_eq_false, not_false_eq_true, Bool.not_eq_true', Bool.not_eq_false', beq_self_eq_true, Bool.not_true, Bool.not_false, List.getElem?_toArray, List.getElem?_cons_zero, List.getElem?_cons_succ]
  simp (disch := omega) only [↓stq, amv_at, vls, inf, frs, mark_eq, ↓reduceIte, Nat.reduceEqDiff, ite_tt, ite_ff, eq_self, and_true, true_and, and_self, implies_true, Bool.true_eq_false, Bool.false_eq_true, decide_true, decide_false, decide_eq_true_eq, decide_eq_false_iff_not, ne_eq, not_true_eq_false, not_false_eq_true, Bool.not_eq_true', Bool.not_eq_false', beq_self_eq_true, Bool.not_true, Bool.not_false, List.getElem?_toArray, List.getElem?_cons_zero, List.getElem?_cons_succ, hb0]
  refine led_lit li23 (by omega) rfl (fun p hp => by rcases List.mem_singleton.1 hp with rfl; exact ⟨rfl, rfl⟩) (Led.nil A) fun b V _ l => ?_
  replace l : Led A [osl 34 testO [b] (.slice (some ⟨b, 0, none⟩) 1 1) (baseW [])] V := l.upd (i := 0) (jt := osl 34 testO [b] (.slice (some ⟨b, 0, none⟩) 1 1) (baseW [])) rfl rfl (Only.refl _ _) ⟨by show (1 : Nat) ≤ _; omega, .inr ⟨b, 1, _, [], rfl, Nat.le_refl _, rfl, l.at (i := 0) rfl, OElems.cons (f := []) (fp := []) (wld_mk (fn := []) (by show (0 : Nat) ≤ _; omega) (nilO_str V)) .nil⟩⟩
  simp (disch := omega) only [↓stq, amv_at, vls, inf, frs, mark_eq, ↓reduceIte, Nat.reduceEqDiff, ite_tt, ite_ff, eq_self, and_true, true_and, and_self, implies_true, Bool.true_eq_false, Bool.false_eq_true, decide_true, decide_false, decide_eq_true_eq, decide_eq_false_iff_not, ne_eq, not_true_eq_false, not_false_eq_true, Bool.not_eq_true', Bool.not_eq_false', beq_self_eq_true, Bool.not_true, Bool.not_false, List.getElem?_toArray, List.getElem?_cons_zero, List.getElem?_cons_succ]
  refine aloop (fun d fr V => ∃ (i : Nat) (fp : List Nat) (w : Value), i ≤ L.length ∧ d = L.length - i ∧ Led A [osl 34 testO fp w (baseW (L.take i))] V ∧ fr 0 = .slice a L.length c ∧ fr 3 = w ∧ fr 4 = .int .i64 i) L.length ⟨0, _, _, by omega, by omega, l, by rfl, by rfl, by rfl⟩ ?_
  clear l
  rintro d fr V ⟨i, fp, w, hi, rfl, l, q0, q3, q4⟩
  simp (disch := omega) only [↓stq, amv_at, vls, inf, frs, mark_eq, ↓reduceIte, Nat.reduceEqDiff, ite_tt, ite_ff, eq_self, and_true, true_and, and_self, implies_true, Bool.true_eq_false, Bool.false_eq_true, decide_true, decide_false, decide_eq_true_eq, decide_eq_false_iff_not, ne_eq, not_true_eq_false, not_false_eq_true, Bool.not_eq_true', Bool.not_eq_false', beq_self_eq_true, Bool.not_true, Bool.not_false, List.getElem?_toArray, List.getElem?_cons_zero, List.getElem?_cons_succ, q0, q3, q4]
  refine ⟨fun e1 => ?_, fun e1 => ?_⟩
  · have hlt : i < L.length := by omega
    have htk := baseW_take hlt
    have hbl := baseW_len (L.take i)
    rw [List.length_take] at hbl
    have hzi := hz _ (List.getElem_mem hlt)
    have hcz : (cut1 L[i]).size ≤ 1000 := by unfold cut1; rw [ByteArray.size_extract]; omega
    obtain ⟨ad, rfl, kk, zk⟩ := (h.mono l.ext).str hlt
    simp (disch := omega) only [↓stq, amv_at, vls, inf, frs, mark_eq, ↓reduceIte, Nat.reduceEqDiff, ite_tt, ite_ff, eq_self, and_true, true_and, and_self, implies_true, Bool.true_eq_false, Bool.false_eq_true, decide_true, decide_false, decide_eq_true_eq, decide_eq_false_iff_not, ne_eq, not_true_eq_false, not_false_eq_true, Bool.not_eq_true', Bool.not_eq_false', beq_self_eq_true, Bool.not_true, Bool.not_false, List.getElem?_toArray, List.getElem?_cons_zero, List.getElem?_cons_succ, q0, q3, q4, kk, Int.toNat_zero]
    refine ⟨fun e2 => ?_, fun e2 => ?_⟩ <;> simp (disch := omega) only [↓stq, amv_at, vls, inf, frs, mark_eq, ↓reduceIte, Nat.reduceEqDiff, ite_tt, ite_ff, eq_self, and_true, true_and, and_self, implies_true, Bool.true_eq_false, Bool.false_eq_true, decide_true, decide_false, decide_eq_true_eq, decide_eq_false_iff_not, ne_eq, not_true_eq_false, not_false_eq_true, Bool.not_eq_true', Bool.not_eq_false', beq_self_eq_true, Bool.not_true, Bool.not_false, List.getElem?_toArray, List.getElem?_cons_zero, List.getElem?_cons_succ, q0, q3, q4, kk]
    · have hat : isAt L[i] = true := by unfold isAt; exact decide_eq_true (by omega)
      rw [if_pos hat] at htk
      simp (disch := omega) only [↓stq, amv_at, vls, inf, frs, mark_eq, ↓reduceIte, Nat.reduceEqDiff, ite_tt, ite_ff, eq_self, and_true, true_and, and_self, implies_true, Bool.true_eq_false, Bool.false_eq_true, decide_true, decide_false, decide_eq_true_eq, decide_eq_false_iff_not, ne_eq, not_true_eq_false, not_false_eq_true, Bool.not_eq_true', Bool.not_eq_false', beq_self_eq_true, Bool.not_true, Bool.not_false, List.getElem?_toArray, List.getElem?_cons_zero, List.getElem?_cons_succ, q0, q3, q4, h1]
      rw [h1, show L[i].extract 1 L[i].size = cut1 L[i] from rfl]
      refine led_lit li23 (by omega) rfl (fun p hp => by rcases List.mem_singleton.1 hp with rfl; exact ⟨rfl, rfl⟩) l fun bl V _ l => ?_
      simp (disch := omega) only [↓stq, amv_at, vls, inf, frs, mark_eq, ↓reduceIte, Nat.reduceEqDiff, ite_tt, ite_ff, eq_self, and_true, true_and, and_self, implies_true, Bool.true_eq_false, Bool.false_eq_true, decide_true, decide_false, decide_eq_true_eq, decide_eq_false_iff_not, ne_eq, not_true_eq_false, not_false_eq_true, Bool.not_eq_true', Bool.not_eq_false', beq_self_eq_true, Bool.not_true, Bool.not_false, List.getElem?_toArray, List.getElem?_cons_zero, List.getElem?_cons_succ, q0, q3, q4]
      refine led_appO (O := testO) ap23_23 (by decide) ((led_wld0 (m := cut1 L[i]) l (by omega)).perm (List.Perm.swap ..)) (i := 0) rfl (by omega) fun fp2 w2 V2 _ l => ?_
      simp (disch := omega) only [↓stq, amv_at, vls, inf, frs, mark_eq, ↓reduceIte, Nat.reduceEqDiff, ite_tt, ite_ff, eq_self, and_true, true_and, and_self, implies_true, Bool.true_eq_false, Bool.false_eq_true, decide_true, decide_false, decide_eq_true_eq, decide_eq_false_iff_not, ne_eq, not_true_eq_false, not_false_eq_true, Bool.not_eq_true', Bool.not_eq_false', beq_self_eq_true, Bool.not_true, Bool.not_false, List.getElem?_toArray, List.getElem?_cons_zero, List.getElem?_cons_succ, q0, q3, q4]
      exact ⟨_, by omega, i + 1, fp2, w2, by omega, rfl, by rw [htk]; exact l, rfl, rfl⟩
    · have hat : ¬ isAt L[i] = true := by unfold isAt; rw [decide_eq_true_eq]; omega
      rw [if_neg hat, List.append_nil] at htk
      exact ⟨_, by omega, i + 1, fp, w, by omega, rfl, by rw [htk]; exact l, rfl, rfl⟩
  have hie : i = L.length := by omega
  rw [hie, List.take_length] at l
  have hbl := baseW_len L
  have hok0 := okW_base fun a ha => (hz a ha).2
  · simp (disch := omega) only [↓stq, amv_at, vls, inf, frs, mark_eq, ↓reduceIte, Nat.reduceEqDiff, ite_tt, ite_ff, eq_self, and_true, true_and, and_self, implies_true, Bool.true_eq_false, Bool.false_eq_true, decide_true, decide_false, decide_eq_true_eq, decide_eq_false_iff_not, ne_eq, not_true_eq_false, not_false_eq_true, Bool.not_eq_true', Bool.not_eq_false', beq_self_eq_true, Bool.not_true, Bool.not_false, List.getElem?_toArray, List.getElem?_cons_zero, List.getElem?_cons_succ, q0, q3, q4]
    refine aloop (fun d fr V => ∃ (i : Nat) (fp : List Nat) (w : Value), i ≤ L.length ∧ d = L.length - i ∧ Led A [osl 34 testO fp w ((mrk (L.take i)).foldl dblW (baseW L))] V ∧ fr 0 = .slice a L.length c ∧ fr 3 = w ∧ fr 5 = .int .i64 i) L.length ⟨0, _, _, by omega, by omega, l, q0, q3, by rfl⟩ ?_
    clear l q0 q3 q4
    rintro d fr V ⟨i, fp, w, hi, rfl, l, q0, q3, q5⟩
    simp (disch := omega) only [↓stq, amv_at, vls, inf, frs, mark_eq, ↓reduceIte, Nat.reduceEqDiff, ite_tt, ite_ff, eq_self, and_true, true_and, and_self, implies_true, Bool.true_eq_false, Bool.false_eq_true, decide_true, decide_false, decide_eq_true_eq, decide_eq_false_iff_not, ne_eq, not_true_eq_false, not_false_eq_true, Bool.not_eq_true', Bool.not_eq_false', beq_self_eq_true, Bool.not_true, Bool.not_false, List.getElem?_toArray, List.getElem?_cons_zero, List.getElem?_cons_succ, q0, q3, q5]
    refine ⟨fun e1 => ?_, fun e1 => ?_⟩
    · have hlt : i < L.length := by omega
      have hmk := mrk_take hlt (baseW L)
      have hzi := hz _ (List.getElem_mem hlt)
      have hdl := dbl_len (mrk (L.take i)) (baseW L)
      have hml : (mrk (L.take i)).length ≤ i := by
        have : (mrk (L.take i)).length ≤ (L.take i).length := List.length_filter_le ..
        rw [List.length_take] at this
        omega
      have hpw : 2 ^ (mrk (L.take i)).length ≤ 2 ^ 6 := Nat.pow_le_pow_right (by omega) (by omega)
      have hwl : ((mrk (L.take i)).foldl dblW (baseW L)).length ≤ 448 := by
        have : (baseW L).length * 2 ^ (mrk (L.take i)).length ≤ 7 * 2 ^ 6 := Nat.mul_le_mul (by omega) hpw
        omega
      have hwk := okW_fold (mrk (L.take i)) hok0
      generalize (mrk (L.take i)).foldl dblW (baseW L) = ws at l hmk hwl hwk
      obtain ⟨ad, rfl, kk, zk⟩ := (h.mono l.ext).str hlt
      simp (disch := omega) only [↓stq, amv_at, vls, inf, frs, mark_eq, ↓reduceIte, Nat.reduceEqDiff, ite_tt, ite_ff, eq_self, and_true, true_and, and_self, implies_true, Bool.true_eq_false, Bool.false_eq_true, decide_true, decide_false, decide_eq_true_eq, decide_eq_false_iff_not, ne_eq, not_true_eq_false, not_false_eq_true, Bool.not_eq_true', Bool.not_eq_false', beq_self_eq_true, Bool.not_true, Bool.not_false, List.getElem?_toArray, List.getElem?_cons_zero, List.getElem?_cons_succ, q0, q3, q5, kk, Int.toNat_zero]
      refine ⟨fun e2 => ?_, fun e2 => ?_⟩ <;> simp (disch := omega) only [↓stq, amv_at, vls, inf, frs, mark_eq, ↓reduceIte, Nat.reduceEqDiff, ite_tt, ite_ff, eq_self, and_true, true_and, and_self, implies_true, Bool.true_eq_false, Bool.false_eq_true, decide_true, decide_false, decide_eq_true_eq, decide_eq_false_iff_not, ne_eq, not_true_eq_false, not_false_eq_true, Bool.not_eq_true', Bool.not_eq_false', beq_self_eq_true, Bool.not_true, Bool.not_false, List.getElem?_toArray, List.getElem?_cons_zero, List.getElem?_cons_succ, q0, q3, q5]
      · have hat : isAt L[i] = true := by unfold isAt; exact decide_eq_true (by omega)
        rw [if_pos hat] at hmk
        exact ⟨_, by omega, i + 1, fp, w, by omega, rfl, by rw [hmk]; exact l, rfl, rfl⟩
      · have hat : ¬ isAt L[i] = true := by unfold isAt; rw [decide_eq_true_eq]; omega
        rw [if_neg hat] at hmk
        obtain ⟨aw, cw, rfl, _, _⟩ := (OSl.toS (show OSl 34 testO V fp w ws from l.at (i := 0) rfl)).slice
        simp (disch := omega) only [↓stq, amv_at, vls, inf, frs, mark_eq, ↓reduceIte, Nat.reduceEqDiff, ite_tt, ite_ff, eq_self, and_true, true_and, and_self, implies_true, Bool.true_eq_false, Bool.false_eq_true, decide_true, decide_false, decide_eq_true_eq, decide_eq_false_iff_not, ne_eq, not_true_eq_false, not_false_eq_true, Bool.not_eq_true', Bool.not_eq_false', beq_self_eq_true, Bool.not_true, Bool.not_false, List.getElem?_toArray, List.getElem?_cons_zero, List.getElem?_cons_succ, q0, q3, q5]
        refine aloop (fun d fr V => ∃ (j : Nat) (fp : List Nat) (w : Value), j ≤ ws.length ∧ d = ws.length - j ∧ Led A [osl 34 testO fp w (ws ++ (ws.take j).map (addW L[i]))] V ∧ fr 0 = .slice (some ad) L.length c ∧ fr 3 = w ∧ fr 5 = .int .i64 i ∧ fr 6 = .int .i64 ws.length ∧ fr 7 = .int .i64 j) ws.length ⟨0, _, _, by omega, by omega, by rw [List.take_zero, List.map_nil, List.append_nil]; exact l, q0, q3, q5, by rfl, by rfl⟩ ?_
        clear l kk q0 q3 q5
        rintro d fr V ⟨j, fp, w, hj, rfl, l, q0, q3, q5, q6, q7⟩
        simp (disch := omega) only [↓stq, amv_at, vls, inf, frs, mark_eq, ↓reduceIte, Nat.reduceEqDiff, ite_tt, ite_ff, eq_self, and_true, true_and, and_self, implies_true, Bool.true_eq_false, Bool.false_eq_true, decide_true, decide_false, decide_eq_true_eq, decide_eq_false_iff_not, ne_eq, not_true_eq_false, not_false_eq_true, Bool.not_eq_true', Bool.not_eq_false', beq_self_eq_true, Bool.not_true, Bool.not_false, List.getElem?_toArray, List.getElem?_cons_zero, List.getElem?_cons_succ, q0, q3, q5, q6, q7]
        refine ⟨fun e3 => ?_, fun e3 => ?_⟩
        · have hjl : j < ws.length := by omega
          have hwj := hwk _ (List.getElem_mem hjl)
          obtain ⟨aw, cw, rfl, _, _⟩ := (OSl.toS (show OSl 34 testO V fp w _ from l.at (i := 0) rfl)).slice
          obtain ⟨_, hq, kk, zk⟩ := (h.mono l.ext).str hlt
          obtain rfl := Option.some.inj hq
          have htk : (ws.take (j + 1)).map (addW L[i]) = (ws.take j).map (addW L[i]) ++ [addW L[i] ws[j]] := by
            rw [List.take_succ_eq_append_getElem hjl, List.map_append]; rfl
          have hel : (ws ++ (ws.take j).map (addW L[i]))[j]? = some ws[j] := by rw [List.getElem?_append_left hjl, List.getElem?_eq_getElem hjl]
          have hxl : (ws ++ (ws.take j).map (addW L[i])).length ≤ 896 := by rw [List.length_append, List.length_map, List.length_take]; omega
          have hjx : j < (ws ++ (ws.take j).map (addW L[i])).length := by rw [List.length_append]; omega
          generalize hxs : ws ++ (ws.take j).map (addW L[i]) = xs at l hel hxl hjx q3
          obtain ⟨ad2, u2, u3, hq, hcl, z1, z2, f2, f3⟩ := (OSl.toS (show OSl 34 testO V fp _ xs from l.at (i := 0) rfl)).test hjx
          subst hq
          rw [List.getElem?_eq_getElem hjx] at hel
          rw [Option.some.inj hel] at hcl z1 z2 f2 f3
          obtain ⟨a2, c2, rfl, _, _⟩ := f2.slice
          have k0 := View.part_cell hcl (j := 0) rfl
          have k2 := View.part_cell hcl (j := 2) rfl
          have key : ∀ V, OSl 34 testO V fp (.slice (some ad2) xs.length cw) xs → V.cell ((ad2.add (j * 4)).add 0) = some (.string ws[j].1) := fun V hO => by
            obtain ⟨_, _, _, hq, hcl, _⟩ := (OSl.toS hO).test hjx
            obtain rfl := Option.some.inj hq
            have := View.part_cell hcl (j := 0) rfl
            rw [Option.some.inj hel] at this
            exact this
          simp (disch := omega) only [↓stq, amv_at, vls, inf, frs, mark_eq, ↓reduceIte, Nat.reduceEqDiff, ite_tt, ite_ff, eq_self, and_true, true_and, and_self, implies_true, Bool.true_eq_false, Bool.false_eq_true, decide_true, decide_false, decide_eq_true_eq, decide_eq_false_iff_not, ne_eq, not_true_eq_false, not_false_eq_true, Bool.not_eq_true', Bool.not_eq_false', beq_self_eq_true, Bool.not_true, Bool.not_false, List.getElem?_toArray, List.getElem?_cons_zero, List.getElem?_cons_succ, q0, q3, q5, q6, q7]
          refine adraw_items [.q 0, .q 1, .q 2, .q 3, .q 4, .l 5 true, .q 7, .q 8, .q 9, .q 10, .l 11 false, .q 13, .q 14, .q 15, .l 16 true, .c 6 [], .c 12 [5, 16], .c 17 [], .c 18 [5], .q 19, .c 20 [], .c 21 [], .q 22] (by kernel_rfl) (by kernel_rfl) ?_
          simp (disch := omega) only [↓stq, amv_at, ↓pln, plv, nilOk, Nat.reduceBEq, Bool.or_false, Bool.or_true, Bool.false_or, Bool.true_or, vls, inf, frs, mark_eq, ↓reduceIte, Nat.reduceEqDiff, ite_tt, ite_ff, eq_self, and_true, true_and, and_self, implies_true, Bool.true_eq_false, Bool.false_eq_true, decide_true, decide_false, decide_eq_true_eq, decide_eq_false_iff_not, ne_eq, not_true_eq_false, not_false_eq_true, Bool.not_eq_true', Bool.not_eq_false', beq_self_eq_true, Bool.not_true, Bool.not_false, List.getElem?_toArray, List.getElem?_cons_zero, List.getElem?_cons_succ, q0, q3, q5, q6, q7, k0, k2, kk]
          refine led_lit0 (O := strO) li25 l fun b6 V5 he5 l => ?_
          replace k0 := he5.cell k0
          replace k2 := he5.cell k2
          replace kk := he5.cell kk
          simp (disch := omega) only [↓stq, amv_at, ↓pln, plv, nilOk, Nat.reduceBEq, Bool.or_false, Bool.or_true, Bool.false_or, Bool.true_or, vls, inf, frs, mark_eq, ↓reduceIte, Nat.reduceEqDiff, ite_tt, ite_ff, eq_self, and_true, true_and, and_self, implies_true, Bool.true_eq_false, Bool.false_eq_true, decide_true, decide_false, decide_eq_true_eq, decide_eq_false_iff_not, ne_eq, not_true_eq_false, not_false_eq_true, Bool.not_eq_true', Bool.not_eq_false', beq_self_eq_true, Bool.not_true, Bool.not_false, List.getElem?_toArray, List.getElem?_cons_zero, List.getElem?_cons_succ, q0, q3, q5, q6, q7, k0, k2, kk, false_implies]
          have hmk1 : ws[j].2.2.1.length ≤ 1000 := by
            have h1 := hwj.2
            have h2 : (mrk (L.take i)).length ≤ L.length := by omega
            omega
          refine led_app (O := strO) ap25_25 (by decide) l (i := 0) rfl (Sl.srcOf (f2.mono he5)) (by rw [List.length_nil]; omega) fun fn wn V6 _ l => ?_
          rw [List.nil_append] at l
          obtain ⟨_, hq, kk, _⟩ := (h.mono l.ext).str hlt
          obtain rfl := Option.some.inj hq
          have k0 := key _ (l.at (i := 1) rfl)
          simp (disch := omega) only [↓stq, amv_at, ↓pln, plv, nilOk, Nat.reduceBEq, Bool.or_false, Bool.or_true, Bool.false_or, Bool.true_or, vls, inf, frs, mark_eq, ↓reduceIte, Nat.reduceEqDiff, ite_tt, ite_ff, eq_self, and_true, true_and, and_self, implies_true, Bool.true_eq_false, Bool.false_eq_true, decide_true, decide_false, decide_eq_true_eq, decide_eq_false_iff_not, ne_eq, not_true_eq_false, not_false_eq_true, Bool.not_eq_true', Bool.not_eq_false', beq_self_eq_true, Bool.not_true, Bool.not_false, List.getElem?_toArray, List.getElem?_cons_zero, List.getElem?_cons_succ, q0, q3, q5, q6, q7, kk, k0, false_implies]
          refine led_lit li25 (by omega) rfl (by simp [Value.cells, Value.oneCell']) l fun bl V7 _ l => ?_
          obtain ⟨_, hq, kk, _⟩ := (h.mono l.ext).str hlt
          obtain rfl := Option.some.inj hq
          have k0 := key _ (l.at (i := 2) rfl)
          simp (disch := omega) only [↓stq, amv_at, ↓pln, plv, nilOk, Nat.reduceBEq, Bool.or_false, Bool.or_true, Bool.false_or, Bool.true_or, vls, inf, frs, mark_eq, ↓reduceIte, Nat.reduceEqDiff, ite_tt, ite_ff, eq_self, and_true, true_and, and_self, implies_true, Bool.true_eq_false, Bool.false_eq_true, decide_true, decide_false, decide_eq_true_eq, decide_eq_false_iff_not, ne_eq, not_true_eq_false, not_false_eq_true, Bool.not_eq_true', Bool.not_eq_false', beq_self_eq_true, Bool.not_true, Bool.not_false, List.getElem?_toArray, List.getElem?_cons_zero, List.getElem?_cons_succ, q0, q3, q5, q6, q7, kk, k0, false_implies]
          refine led_app (O := strO) ap25_25 (by decide) l (i := 1) rfl (l.src1 (S := strS) (j := 0) rfl ⟨rfl, zk⟩) (by rw [List.length_singleton]; omega) fun fn2 wn2 V8 _ l => ?_
          replace l := l.tail
          obtain ⟨an, cn, rfl, _, _⟩ := (OSl.toS (show OSl 9 strO V8 fn2 wn2 (ws[j].2.2.1 ++ [L[i]]) from l.at (i := 0) rfl)).slice
          obtain ⟨_, hq, kk, _⟩ := (h.mono l.ext).str hlt
          obtain rfl := Option.some.inj hq
          have k0 := key _ (l.at (i := 1) rfl)
          simp (disch := omega) only [↓stq, amv_at, ↓pln, plv, nilOk, Nat.reduceBEq, Bool.or_false, Bool.or_true, Bool.false_or, Bool.true_or, vls, inf, frs, mark_eq, ↓reduceIte, Nat.reduceEqDiff, ite_tt, ite_ff, eq_self, and_true, true_and, and_self, implies_true, Bool.true_eq_false, Bool.false_eq_true, decide_true, decide_false, decide_eq_true_eq, decide_eq_false_iff_not, ne_eq, not_true_eq_false, not_false_eq_true, Bool.not_eq_true', Bool.not_eq_false', beq_self_eq_true, Bool.not_true, Bool.not_false, List.getElem?_toArray, List.getElem?_cons_zero, List.getElem?_cons_succ, q0, q3, q5, q6, q7, kk, k0, false_implies]
          replace l : Led A [oc testO fn2 (addW L[i] ws[j]) [.string ws[j].1, .string ⟨#[]⟩, .slice an (ws[j].2.2.1 ++ [L[i]]).length cn, .slice none 0 0], osl 34 testO fp (.slice (some ad2) xs.length cw) xs] V8 := l.upd (i := 0) (jt := oc testO fn2 (addW L[i] ws[j]) _) rfl rfl (Only.refl _ _) (by
            have := wld_mk (V := V8) (m := ws[j].1) (ms := ws[j].2.2.1 ++ [L[i]]) z1 (l.at (i := 0) rfl)
            rw [List.append_nil] at this
            exact this)
          refine led_lit li23 (by omega) rfl (fun p hp => by rcases List.mem_singleton.1 hp with rfl; exact ⟨rfl, rfl⟩) l fun bl2 V9 _ l => ?_
          obtain ⟨_, hq, kk, _⟩ := (h.mono l.ext).str hlt
          obtain rfl := Option.some.inj hq
          have k0 := key _ (l.at (i := 2) rfl)
          simp (disch := omega) only [↓stq, amv_at, ↓pln, plv, nilOk, Nat.reduceBEq, Bool.or_false, Bool.or_true, Bool.false_or, Bool.true_or, vls, inf, frs, mark_eq, ↓reduceIte, Nat.reduceEqDiff, ite_tt, ite_ff, eq_self, and_true, true_and, and_self, implies_true, Bool.true_eq_false, Bool.false_eq_true, decide_true, decide_false, decide_eq_true_eq, decide_eq_false_iff_not, ne_eq, not_true_eq_false, not_false_eq_true, Bool.not_eq_true', Bool.not_eq_false', beq_self_eq_true, Bool.not_true, Bool.not_false, List.getElem?_toArray, List.getElem?_cons_zero, List.getElem?_cons_succ, q0, q3, q5, q6, q7, kk, k0, false_implies]
          refine led_appO (O := testO) ap23_23 (by decide) l (i := 0) rfl (by omega) fun fp2 w2 V10 _ l => ?_
          obtain ⟨_, hq, kk, _⟩ := (h.mono l.ext).str hlt
          obtain rfl := Option.some.inj hq
          simp (disch := omega) only [↓stq, amv_at, ↓pln, plv, nilOk, Nat.reduceBEq, Bool.or_false, Bool.or_true, Bool.false_or, Bool.true_or, vls, inf, frs, mark_eq, ↓reduceIte, Nat.reduceEqDiff, ite_tt, ite_ff, eq_self, and_true, true_and, and_self, implies_true, Bool.true_eq_false, Bool.false_eq_true, decide_true, decide_false, decide_eq_true_eq, decide_eq_false_iff_not, ne_eq, not_true_eq_false, not_false_eq_true, Bool.not_eq_true', Bool.not_eq_false', beq_self_eq_true, Bool.not_true, Bool.not_false, List.getElem?_toArray, List.getElem?_cons_zero, List.getElem?_cons_succ, q0, q3, q5, q6, q7, kk, false_implies]
          exact ⟨_, by omega, j + 1, fp2, w2, by omega, rfl, by rw [htk, ← List.append_assoc, hxs]; exact l, rfl, rfl⟩
        · have hje : j = ws.length := by omega
          rw [hje, List.take_length] at l
          simp (disch := omega) only [↓stq, amv_at, vls, inf, frs, mark_eq, ↓reduceIte, Nat.reduceEqDiff, ite_tt, ite_ff, eq_self, and_true, true_and, and_self, implies_true, Bool.true_eq_false, Bool.false_eq_true, decide_true, decide_false, decide_eq_true_eq, decide_eq_false_iff_not, ne_eq, not_true_eq_false, not_false_eq_true, Bool.not_eq_true', Bool.not_eq_false', beq_self_eq_true, Bool.not_true, Bool.not_false, List.getElem?_toArray, List.getElem?_cons_zero, List.getElem?_cons_succ, q0, q3, q5, q6, q7]
          exact ⟨_, by omega, i + 1, fp, w, by omega, rfl, by rw [hmk]; exact l, rfl, rfl⟩
    · have hie : i = L.length := by omega
      rw [hie, List.take_length] at l
      simp (disch := omega) only [↓stq, amv_at, vls, inf, frs, mark_eq, ↓reduceIte, Nat.reduceEqDiff, ite_tt, ite_ff, eq_self, and_true, true_and, and_self, implies_true, Bool.true_eq_false, Bool.false_eq_true, decide_true, decide_false, decide_eq_true_eq, decide_eq_false_iff_not, ne_eq, not_true_eq_false, not_false_eq_true, Bool.not_eq_true', Bool.not_eq_false', beq_self_eq_true, Bool.not_true, Bool.not_false, List.getElem?_toArray, List.getElem?_cons_zero, List.getElem?_cons_succ, q0, q3, q5]
      exact NewSl.of l (i := 0) rfl

end Go.Proofs.Ytbddklkfekiaeaa

