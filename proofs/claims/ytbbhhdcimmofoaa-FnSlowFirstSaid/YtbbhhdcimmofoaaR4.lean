/- Tests in parts: ShardIds. -/
import Derived.Test.YtbbhhdcimmofoaaR3
import Derived.Test.YtbbhhdcimmofoaaQ2
import Derived.Test.YtbbhhdcimmofoaaPT
set_option maxHeartbeats 4000000
set_option synthInstance.maxHeartbeats 400000
set_option synthInstance.maxSize 4096
set_option linter.unusedSimpArgs false
set_option linter.unusedVariables false
namespace Go.Proofs.Ytbbhhdcimmofoaa

set_option maxRecDepth 100000

def bstep (g : Nat → Int) (b k : Nat) : Nat := if g k < g b then k else b
/-- The least of the first k values, the first of these. -/
def bst (g : Nat → Int) : Nat → Nat
  | 0 => 0
  | k + 1 => bstep g (bst g k) k
theorem bst_lt (g : Nat → Int) : ∀ {k n : Nat}, k ≤ n → 0 < n → bst g k < n
  | 0, _, _, h => h
  | k + 1, n, hk, h => by
    have := bst_lt g (k := k) (n := n) (by omega) h
    unfold bst bstep
    split <;> omega
theorem bst_one (g : Nat → Int) : bst g 1 = 0 := by
  unfold bst bst bstep
  split <;> rfl

def shB (xs : List PastD) (ps : List (List ByteArray)) : Nat → Nat := bst fun k => tot xs (ps.getD k [])
def shStep (xs : List PastD) (ps : List (List ByteArray)) (id : ByteArray) : List (List ByteArray) := ps.set (shB xs ps ps.length) (ps.getD (shB xs ps ps.length) [] ++ [id])
def shd (xs : List PastD) (n : Nat) (ids : List ByteArray) : List (List ByteArray) := ids.foldl (shStep xs) (List.replicate n [])
theorem shd_take {xs : List PastD} {n : Nat} {ids : List ByteArray} {i : Nat} (h : i < ids.length) : shd xs n (ids.take (i + 1)) = shStep xs (shd xs n (ids.take i)) ids[i] := foldl_take1 _ _ h
theorem shStep_len (xs : List PastD) (ps : List (List ByteArray)) (id : ByteArray) : (shStep xs ps id).length = ps.length := by unfold shStep; rw [List.length_set]
theorem shd_len (xs : List PastD) (n : Nat) (ids : List ByteArray) : (shd xs n ids).length = n := by
  unfold shd
  suffices h : ∀ ps, (ids.foldl (shStep xs) ps).length = ps.length by rw [h, List.length_replicate]
  induction ids with
  | nil => intro ps; rfl
  | cons x ids ih => intro ps; rw [List.foldl_cons, ih, shStep_len]
theorem shd_part (xs : List PastD) (n : Nat) (ids : List ByteArray) : ∀ i, i ≤ ids.length → ∀ p, p ∈ shd xs n (ids.take i) → p.length ≤ i
  | 0, _, p, hp => by
    have := List.eq_of_mem_replicate (show p ∈ List.replicate n [] from hp)
    rw [this]; exact Nat.le_refl _
  | i + 1, hi, p, hp => by
    have ih := shd_part xs n ids i (by omega)
    rw [shd_take (by omega)] at hp
    unfold shStep at hp
    rcases List.mem_or_eq_of_mem_set hp with hp | rfl
    · have := ih p hp; omega
    · rw [List.length_append, List.length_singleton]
      rw [List.getD_eq_getElem?_getD]
      cases hq : (shd xs n (ids.take i))[shB xs (shd xs n (ids.take i)) (shd xs n (ids.take i)).length]? with
      | none => simp
      | some q =>
        have := ih q (List.mem_of_getElem? hq)
        simp; omega

/-- The parts of tests. -/
def shardR (ids : List ByteArray) (xs : List PastD) (n : Int) : List (List ByteArray) := if idsB ids && pastB xs && (decide (1 ≤ n) && decide (n ≤ 4)) then (shd xs n.toNat (ssort (costF xs) ids)).map (inOrd ids) else []

theorem map_put {α : Type} {f : α → α} {D : List α} {k : Nat} (hk : k < D.length) : ((D.take k).map f ++ D.drop k).set k (f D[k]) = (D.take (k + 1)).map f ++ D.drop (k + 1) := by
  have h3 : ((D.take k).map f).length = k := by simp; omega
  rw [List.set_append_right _ _ (by omega), h3, Nat.sub_self, List.take_succ_eq_append_getElem hk, List.drop_eq_getElem_cons hk, List.set_cons_zero, List.map_append, List.append_assoc]
  rfl

theorem impl_shardIds_c (A : View) (v u : Value) (ids : List ByteArray) (xs : List PastD) (n : Int) (h : Sl strS A v ids) (h' : Sl pastS A u xs) (hsm : xs.length ≤ 16777215) : ACalls Try.prog 37 #[v, u, .int .i64 n] A fun r A' => NewSl 24 (slO 9 strO) A r A' (shardR ids xs n) := by
  obtain ⟨a, c, rfl, hc, hl⟩ := h.slice
  obtain ⟨au, cu, rfl, hcu, hlu⟩ := h'.slice
  refine acalls Try.func37 rfl (by kernel_rfl) ?_
  simp (disch := omega) only [↓stp, vls, inf, frs, mark_eq, ↓reduceIte, Nat.reduceEqDiff, ite_tt, ite_ff, eq_self, and_true, true_and, and_self, implies_true, Bool.true_eq_false, Bool.false_eq_true, decide_true, decide_false, decide_eq_true_eq, decide_eq_false_iff_not, ne_eq, not_true_eq_false, not_false_eq_true, Bool.not_eq_true', Bool.not_eq_false', beq_self_eq_true, Bool.not_true, Bool.not_false, List.getElem?_toArray, List.getElem?_cons_zero, List.getElem?_cons_succ]
  refine (impl_idsOk_c A _ ids h).mono ?_
  rintro _ A ⟨rfl, rfl⟩
  simp (disch := omega) only [↓stp, vls, inf, frs, mark_eq, ↓reduceIte, Nat.reduceEqDiff, ite_tt, ite_ff, eq_self, and_true, true_and, and_self, implies_true, Bool.true_eq_false, Bool.false_eq_true, decide_true, decide_false, decide_eq_true_eq, decide_eq_false_iff_not, ne_eq, not_true_eq_false, not_false_eq_true, Bool.not_eq_true', Bool.not_eq_false', beq_self_eq_true, Bool.not_true, Bool.not_false, List.getElem?_toArray, List.getElem?_cons_zero, List.getElem?_cons_succ]
  refine ⟨fun e1 => ?_, fun e1 => ?_⟩ <;> simp (disch := omega) only [↓stp, vls, inf, frs, mark_eq, ↓reduceIte, Nat.reduceEqDiff, ite_tt, ite_ff, eq_self, and_true, true_and, and_self, implies_true, Bool.true_eq_false, Bool.false_eq_true, decide_true, decide_false, decide_eq_true_eq, decide_eq_false_iff_not, ne_eq, not_true_eq_false, not_false_eq_true, Bool.not_eq_true', Bool.not_eq_false', beq_self_eq_true, Bool.not_true, Bool.not_false, List.getElem?_toArray, List.getElem?_cons_zero, List.getElem?_cons_succ, e1]
  · refine (impl_validPast_c A _ xs h' hsm).mono ?_
    rintro _ V ⟨rfl, he⟩
    simp (disch := omega) only [↓stp, vls, inf, frs, mark_eq, ↓reduceIte, Nat.reduceEqDiff, ite_tt, ite_ff, eq_self, and_true, true_and, and_self, implies_true, Bool.true_eq_false, Bool.false_eq_true, decide_true, decide_false, decide_eq_true_eq, decide_eq_false_iff_not, ne_eq, not_true_eq_false, not_false_eq_true, Bool.not_eq_true', Bool.not_eq_false', beq_self_eq_true, Bool.not_true, Bool.not_false, List.getElem?_toArray, List.getElem?_cons_zero, List.getElem?_cons_succ, e1]
    refine ⟨fun e2 => ?_, fun e2 => ?_⟩ <;> simp (disch := omega) only [↓stp, vls, inf, frs, mark_eq, ↓reduceIte, Nat.reduceEqDiff, ite_tt, ite_ff, eq_self, and_true, true_and, and_self, implies_true, Bool.true_eq_false, Bool.false_eq_true, decide_true, decide_false, decide_eq_true_eq, decide_eq_false_iff_not, ne_eq, not_true_eq_false, not_false_eq_true, Bool.not_eq_true', Bool.not_eq_false', beq_self_eq_true, Bool.not_true, Bool.not_false, List.getElem?_toArray, List.getElem?_cons_zero, List.getElem?_cons_succ, e1, e2]
    · refine ⟨fun e3 => ?_, fun e3 => ?_⟩ <;> simp (disch := omega) only [↓stp, vls, inf, frs, mark_eq, ↓reduceIte, Nat.reduceEqDiff, ite_tt, ite_ff, eq_self, and_true, true_and, and_self, implies_true, Bool.true_eq_false, Bool.false_eq_true, decide_true, decide_false, decide_eq_true_eq, decide_eq_false_iff_not, ne_eq, not_true_eq_false, not_false_eq_true, Bool.not_eq_true', Bool.not_eq_false', beq_self_eq_true, Bool.not_true, Bool.not_false, List.getElem?_toArray, List.getElem?_cons_zero, List.getElem?_cons_succ, e1, e2, e3]
      · refine ⟨fun e4 => ?_, fun e4 => ?_⟩ <;> simp (disch := omega) only [↓stp, vls, inf, frs, mark_eq, ↓reduceIte, Nat.reduceEqDiff, ite_tt, ite_ff, eq_self, and_true, true_and, and_self, implies_true, Bool.true_eq_false, Bool.false_eq_true, decide_true, decide_false, decide_eq_true_eq, decide_eq_false_iff_not, ne_eq, not_true_eq_false, not_false_eq_true, Bool.not_eq_true', Bool.not_eq_false', beq_self_eq_true, Bool.not_true, Bool.not_false, List.getElem?_toArray, List.getElem?_cons_zero, List.getElem?_cons_succ]
        · have : shardR ids xs n = [] := by unfold shardR; rw [if_neg (by simp; omega)]
          rw [this]; exact NewSl.nil he
        · obtain ⟨N, rfl⟩ : ∃ N : Nat, n = N := ⟨n.toNat, by omega⟩
          have hp : shardR ids xs N = (shd xs N (ssort (costF xs) ids)).map (inOrd ids) := by unfold shardR; rw [if_pos (by simp [e1, e2]; omega)]; rfl
          have hs : slowR ids xs = ssort (costF xs) ids := by unfold slowR; rw [e1, e2]; rfl
          have hsl := slowR_len ids xs
          rw [hp]
          rw [hs] at hsl
          refine led_make mk23 (by omega) (by omega) (Led.nil V) fun b V2 he2 l => ?_
          replace l := prts_new (e := 9) (O := strO) l
          simp (disch := omega) only [↓stp, vls, inf, frs, mark_eq, ↓reduceIte, Nat.reduceEqDiff, ite_tt, ite_ff, eq_self, and_true, true_and, and_self, implies_true, Bool.true_eq_false, Bool.false_eq_true, decide_true, decide_false, decide_eq_true_eq, decide_eq_false_iff_not, ne_eq, not_true_eq_false, not_false_eq_true, Bool.not_eq_true', Bool.not_eq_false', beq_self_eq_true, Bool.not_true, Bool.not_false, List.getElem?_toArray, List.getElem?_cons_zero, List.getElem?_cons_succ]
          refine (impl_slowFirst_c V2 _ _ ids xs (h.mono (he.trans he2)) (h'.mono (he.trans he2)) hsm).mono ?_
          rintro r V3 ⟨f0, l1⟩
          replace l := (l.append l1).base he
          rw [hs] at l
          generalize ssort (costF xs) ids = ss at l hsl
          obtain ⟨ar, cr, rfl, hcr, hlr⟩ := (show Sl strS V3 r ss from OSl.toS (show OSl 9 strO V3 f0 r ss from l.at (i := 0) rfl)).slice
          simp (disch := omega) only [↓stp, vls, inf, frs, mark_eq, ↓reduceIte, Nat.reduceEqDiff, ite_tt, ite_ff, eq_self, and_true, true_and, and_self, implies_true, Bool.true_eq_false, Bool.false_eq_true, decide_true, decide_false, decide_eq_true_eq, decide_eq_false_iff_not, ne_eq, not_true_eq_false, not_false_eq_true, Bool.not_eq_true', Bool.not_eq_false', beq_self_eq_true, Bool.not_true, Bool.not_false, List.getElem?_toArray, List.getElem?_cons_zero, List.getElem?_cons_succ]
          refine aloop (fun d fr W => ∃ (i : Nat) (ps : List (Prt ByteArray)), i ≤ ss.length ∧ d = ss.length - i ∧ ps.length = N ∧ ps.map (·.2.2) = shd xs N (ss.take i) ∧ Led A (osl 9 strO f0 (.slice ar ss.length cr) ss :: prts b 24 9 strO N ps) W ∧ fr 0 = .slice a ids.length c ∧ fr 1 = .slice au xs.length cu ∧ fr 7 = .slice (some ⟨b, 0, none⟩) N N ∧ fr 33 = .slice ar ss.length cr ∧ fr 34 = .int .i64 ss.length ∧ fr 35 = .int .i64 i) ss.length ⟨0, _, by omega, by omega, by simp, by simp [shd], l, by rfl, by rfl, by rfl, by rfl, by rfl, by rfl⟩ ?_
          clear l
          rintro d fr W ⟨i, ps, hi, rfl, hN, hD, l, h0, h1, h7, h33, h34, h35⟩
          simp (disch := omega) only [↓stp, vls, inf, frs, mark_eq, ↓reduceIte, Nat.reduceEqDiff, ite_tt, ite_ff, eq_self, and_true, true_and, and_self, implies_true, Bool.true_eq_false, Bool.false_eq_true, decide_true, decide_false, decide_eq_true_eq, decide_eq_false_iff_not, ne_eq, not_true_eq_false, not_false_eq_true, Bool.not_eq_true', Bool.not_eq_false', beq_self_eq_true, Bool.not_true, Bool.not_false, List.getElem?_toArray, List.getElem?_cons_zero, List.getElem?_cons_succ, h0, h1, h7, h33, h34, h35]
          refine ⟨fun e => ?_, fun e => ?_⟩
          · have hlt : i < ss.length := by omega
            have hO : OSl 9 strO W f0 (.slice ar ss.length cr) ss := l.at (i := 0) rfl
            obtain ⟨ad, rfl, k0, z0⟩ := (OSl.toS hO).str hlt
            have hlen := shd_part xs N ss i (by omega)
            have htk := shd_take (xs := xs) (n := N) hlt
            have hDl := shd_len xs N (ss.take i)
            generalize shd xs N (ss.take i) = D at hD hlen htk hDl
            have hrange : ∀ k (hk : k < ps.length), 0 ≤ tot xs ps[k].2.2 ∧ tot xs ps[k].2.2 ≤ 990 := fun k hk => by
              have g1 := tot_range e2 ps[k].2.2
              have g2 := hlen _ (prts_data hD hk).2.2
              omega
            simp (disch := omega) only [↓stp, vls, inf, frs, mark_eq, ↓reduceIte, Nat.reduceEqDiff, ite_tt, ite_ff, eq_self, and_true, true_and, and_self, implies_true, Bool.true_eq_false, Bool.false_eq_true, decide_true, decide_false, decide_eq_true_eq, decide_eq_false_iff_not, ne_eq, not_true_eq_false, not_false_eq_true, Bool.not_eq_true', Bool.not_eq_false', beq_self_eq_true, Bool.not_true, Bool.not_false, List.getElem?_toArray, List.getElem?_cons_zero, List.getElem?_cons_succ, h0, h1, h7, h33, h34, h35, k0]
            refine aloop (fun d fr W => ∃ k : Nat, k ≤ N ∧ d = N - k ∧ Led A (osl 9 strO f0 (.slice (some ad) ss.length cr) ss :: prts b 24 9 strO N ps) W ∧ fr 0 = .slice a ids.length c ∧ fr 1 = .slice au xs.length cu ∧ fr 7 = .slice (some ⟨b, 0, none⟩) N N ∧ fr 9 = .string ss[i] ∧ fr 10 = .int .i64 (shB xs D k : Nat) ∧ fr 33 = .slice (some ad) ss.length cr ∧ fr 34 = .int .i64 ss.length ∧ fr 35 = .int .i64 i ∧ fr 40 = .int .i64 N ∧ fr 41 = .int .i64 k) N ⟨0, by omega, by omega, l, h0, h1, h7, by rfl, by rfl, h33, h34, h35, by rfl, by rfl⟩ ?_
            clear l
            rintro d fr W ⟨k, hk, rfl, l, h0, h1, h7, h9, h10, h33, h34, h35, h40, h41⟩
            have hb := bst_lt (fun k => tot xs (D.getD k [])) hk (by omega)
            rw [show bst (fun k => tot xs (D.getD k [])) k = shB xs D k from rfl] at hb
            simp (disch := omega) only [↓stp, vls, inf, frs, mark_eq, ↓reduceIte, Nat.reduceEqDiff, ite_tt, ite_ff, eq_self, and_true, true_and, and_self, implies_true, Bool.true_eq_false, Bool.false_eq_true, decide_true, decide_false, decide_eq_true_eq, decide_eq_false_iff_not, ne_eq, not_true_eq_false, not_false_eq_true, Bool.not_eq_true', Bool.not_eq_false', beq_self_eq_true, Bool.not_true, Bool.not_false, List.getElem?_toArray, List.getElem?_cons_zero, List.getElem?_cons_succ, h0, h1, h7, h9, h10, h33, h34, h35, h40, h41]
            refine ⟨fun e5 => ?_, fun e5 => ?_⟩
            · have hkn : k < ps.length := by omega
              obtain ⟨q1, o1⟩ := prts_cell (M := [_]) l hkn
              obtain ⟨q2, o2⟩ := prts_cell (M := [_]) l (k := shB xs D k) (by omega)
              have d1 := (prts_data hD hkn).2.1
              have d2 := (prts_data hD (k := shB xs D k) (by omega)).2.1
              have hst : shB xs D (k + 1) = bstep (fun k => tot xs (D.getD k [])) (shB xs D k) k := rfl
              unfold bstep at hst
              simp only [d1, d2] at hst
              simp (disch := omega) only [↓stp, vls, inf, frs, mark_eq, ↓reduceIte, Nat.reduceEqDiff, ite_tt, ite_ff, eq_self, and_true, true_and, and_self, implies_true, Bool.true_eq_false, Bool.false_eq_true, decide_true, decide_false, decide_eq_true_eq, decide_eq_false_iff_not, ne_eq, not_true_eq_false, not_false_eq_true, Bool.not_eq_true', Bool.not_eq_false', beq_self_eq_true, Bool.not_true, Bool.not_false, List.getElem?_toArray, List.getElem?_cons_zero, List.getElem?_cons_succ, h0, h1, h7, h9, h10, h33, h34, h35, h40, h41]
              refine adraw_items [.q 0, .q 1, .q 2, .l 3 false, .q 4, .q 6, .q 7, .q 8, .l 9 true, .q 10, .c 5 [9], .c 11 [], .q 12] (by kernel_rfl) (by kernel_rfl) ?_
              simp (disch := omega) only [↓stp, ↓pln, plv, nilOk, Nat.reduceBEq, Bool.or_false, Bool.or_true, Bool.false_or, Bool.true_or, vls, inf, frs, mark_eq, ↓reduceIte, Nat.reduceEqDiff, ite_tt, ite_ff, eq_self, and_true, true_and, and_self, implies_true, Bool.true_eq_false, Bool.false_eq_true, decide_true, decide_false, decide_eq_true_eq, decide_eq_false_iff_not, ne_eq, not_true_eq_false, not_false_eq_true, Bool.not_eq_true', Bool.not_eq_false', beq_self_eq_true, Bool.not_true, Bool.not_false, List.getElem?_toArray, List.getElem?_cons_zero, List.getElem?_cons_succ, h0, h1, h7, h9, h10, h33, h34, h35, h40, h41, q1, q2]
              have r1 := hrange k hkn
              have r2 := hrange (shB xs D k) (by omega)
              refine (impl_totalCost_c W _ _ _ xs (OSl.toS o1) (h'.mono l.ext) e2 (by have := hlen _ (prts_data hD hkn).2.2; omega)).mono ?_
              rintro _ W2 ⟨rfl, he2⟩
              replace l := l.step he2
              replace q1 := he2.cell q1
              replace q2 := he2.cell q2
              simp (disch := omega) only [↓stp, ↓pln, plv, nilOk, Nat.reduceBEq, Bool.or_false, Bool.or_true, Bool.false_or, Bool.true_or, vls, inf, frs, mark_eq, ↓reduceIte, Nat.reduceEqDiff, ite_tt, ite_ff, eq_self, and_true, true_and, and_self, implies_true, Bool.true_eq_false, Bool.false_eq_true, decide_true, decide_false, decide_eq_true_eq, decide_eq_false_iff_not, ne_eq, not_true_eq_false, not_false_eq_true, Bool.not_eq_true', Bool.not_eq_false', beq_self_eq_true, Bool.not_true, Bool.not_false, List.getElem?_toArray, List.getElem?_cons_zero, List.getElem?_cons_succ, h0, h1, h7, h9, h10, h33, h34, h35, h40, h41, q1, q2]
              refine (impl_totalCost_c W2 _ _ _ xs ((OSl.toS o2).mono he2) (h'.mono l.ext) e2 (by have := hlen _ (prts_data hD (k := shB xs D k) (by omega)).2.2; omega)).mono ?_
              rintro _ W3 ⟨rfl, he3⟩
              replace l := l.step he3
              replace q1 := he3.cell q1
              replace q2 := he3.cell q2
              simp (disch := omega) only [↓stp, ↓pln, plv, nilOk, Nat.reduceBEq, Bool.or_false, Bool.or_true, Bool.false_or, Bool.true_or, vls, inf, frs, mark_eq, ↓reduceIte, Nat.reduceEqDiff, ite_tt, ite_ff, eq_self, and_true, true_and, and_self, implies_true, Bool.true_eq_false, Bool.false_eq_true, decide_true, decide_false, decide_eq_true_eq, decide_eq_false_iff_not, ne_eq, not_true_eq_false, not_false_eq_true, Bool.not_eq_true', Bool.not_eq_false', beq_self_eq_true, Bool.not_true, Bool.not_false, List.getElem?_toArray, List.getElem?_cons_zero, List.getElem?_cons_succ, h0, h1, h7, h9, h10, h33, h34, h35, h40, h41, q1, q2]
              refine ⟨fun e6 => ?_, fun e6 => ?_⟩
              · rw [if_pos e6] at hst
                simp (disch := omega) only [↓stp, vls, inf, frs, mark_eq, ↓reduceIte, Nat.reduceEqDiff, ite_tt, ite_ff, eq_self, and_true, true_and, and_self, implies_true, Bool.true_eq_false, Bool.false_eq_true, decide_true, decide_false, decide_eq_true_eq, decide_eq_false_iff_not, ne_eq, not_true_eq_false, not_false_eq_true, Bool.not_eq_true', Bool.not_eq_false', beq_self_eq_true, Bool.not_true, Bool.not_false, List.getElem?_toArray, List.getElem?_cons_zero, List.getElem?_cons_succ, h0, h1, h7, h9, h10, h33, h34, h35, h40, h41]
                exact ⟨_, by omega, k + 1, by omega, rfl, l, by rw [hst], rfl⟩
              · rw [if_neg e6] at hst
                simp (disch := omega) only [↓stp, vls, inf, frs, mark_eq, ↓reduceIte, Nat.reduceEqDiff, ite_tt, ite_ff, eq_self, and_true, true_and, and_self, implies_true, Bool.true_eq_false, Bool.false_eq_true, decide_true, decide_false, decide_eq_true_eq, decide_eq_false_iff_not, ne_eq, not_true_eq_false, not_false_eq_true, Bool.not_eq_true', Bool.not_eq_false', beq_self_eq_true, Bool.not_true, Bool.not_false, List.getElem?_toArray, List.getElem?_cons_zero, List.getElem?_cons_succ, h0, h1, h7, h9, h10, h33, h34, h35, h40, h41]
                exact ⟨_, by omega, k + 1, by omega, rfl, l, by rw [hst], rfl⟩
            · obtain rfl : k = N := by omega
              obtain ⟨q2, o2⟩ := prts_cell (M := [_]) l (k := shB xs D k) (by omega)
              have d2 := (prts_data hD (k := shB xs D k) (by omega)).2.1
              have g2 := hlen _ (prts_data hD (k := shB xs D k) (by omega)).2.2
              unfold shStep at htk
              rw [hDl, d2] at htk
              simp (disch := omega) only [↓stp, vls, inf, frs, mark_eq, ↓reduceIte, Nat.reduceEqDiff, ite_tt, ite_ff, eq_self, and_true, true_and, and_self, implies_true, Bool.true_eq_false, Bool.false_eq_true, decide_true, decide_false, decide_eq_true_eq, decide_eq_false_iff_not, ne_eq, not_true_eq_false, not_false_eq_true, Bool.not_eq_true', Bool.not_eq_false', beq_self_eq_true, Bool.not_true, Bool.not_false, List.getElem?_toArray, List.getElem?_cons_zero, List.getElem?_cons_succ, h0, h1, h7, h9, h10, h33, h34, h35, h40, h41, q2]
              refine led_lit li24 (by omega) rfl (fun p hp => by rcases List.mem_singleton.1 hp with rfl; exact ⟨rfl, rfl⟩) l fun bl W2 _ l => ?_
              simp (disch := omega) only [↓stp, vls, inf, frs, mark_eq, ↓reduceIte, Nat.reduceEqDiff, ite_tt, ite_ff, eq_self, and_true, true_and, and_self, implies_true, Bool.true_eq_false, Bool.false_eq_true, decide_true, decide_false, decide_eq_true_eq, decide_eq_false_iff_not, ne_eq, not_true_eq_false, not_false_eq_true, Bool.not_eq_true', Bool.not_eq_false', beq_self_eq_true, Bool.not_true, Bool.not_false, List.getElem?_toArray, List.getElem?_cons_zero, List.getElem?_cons_succ, h0, h1, h7, h9, h10, h33, h34, h35, h40, h41]
              refine led_app (O := strO) ap24_24 (by decide) l (i := shB xs D k + 3) (show (prts b 24 9 strO k ps)[shB xs D k + 1]? = _ from prts_at (by omega)) (l.src1 (S := strS) (j := 0) rfl ⟨rfl, z0⟩) (by rw [List.length_singleton]; omega) fun fp2 w2 W3 _ l => ?_
              replace l : Led A (osl 9 strO f0 (.slice (some ad) ss.length cr) ss :: (prts b 24 9 strO k ps).set (shB xs D k + 1) (osl 9 strO fp2 w2 (ps[shB xs D k].2.2 ++ [ss[i]]))) W3 := l.tail
              simp (disch := omega) only [↓stp, vls, inf, frs, mark_eq, ↓reduceIte, Nat.reduceEqDiff, ite_tt, ite_ff, eq_self, and_true, true_and, and_self, implies_true, Bool.true_eq_false, Bool.false_eq_true, decide_true, decide_false, decide_eq_true_eq, decide_eq_false_iff_not, ne_eq, not_true_eq_false, not_false_eq_true, Bool.not_eq_true', Bool.not_eq_false', beq_self_eq_true, Bool.not_true, Bool.not_false, List.getElem?_toArray, List.getElem?_cons_zero, List.getElem?_cons_succ, h0, h1, h7, h9, h10, h33, h34, h35, h40, h41, add_at, Nat.zero_add]
              have hw2 : w2.cells = #[w2] ∧ w2.oneCell' = true := by
                obtain ⟨_, ⟨hq, _⟩ | ⟨_, _, _, _, hq, _⟩⟩ := (show OSl 9 strO W3 fp2 w2 _ from l.at (i := shB xs D k + 2) (by rw [List.getElem?_cons_succ, List.getElem?_set_self]; simp [prts]; omega)) <;> rw [hq] <;> exact ⟨rfl, rfl⟩
              refine led_storeC l 1 rfl sz24 hw2 (by rw [List.length_map]; omega) fun W4 l => ?_
              simp (disch := omega) only [↓stp, vls, inf, frs, mark_eq, ↓reduceIte, Nat.reduceEqDiff, ite_tt, ite_ff, eq_self, and_true, true_and, and_self, implies_true, Bool.true_eq_false, Bool.false_eq_true, decide_true, decide_false, decide_eq_true_eq, decide_eq_false_iff_not, ne_eq, not_true_eq_false, not_false_eq_true, Bool.not_eq_true', Bool.not_eq_false', beq_self_eq_true, Bool.not_true, Bool.not_false, List.getElem?_toArray, List.getElem?_cons_zero, List.getElem?_cons_succ, h0, h1, h7, h9, h10, h33, h34, h35, h40, h41]
              have hl2 : Led A (osl 9 strO f0 (.slice (some ad) ss.length cr) ss :: prts b 24 9 strO k (ps.set (shB xs D k) (fp2, w2, ps[shB xs D k].2.2 ++ [ss[i]]))) W4 := by
                rw [← prts_set]
                exact l
              exact ⟨_, by omega, i + 1, _, by omega, rfl, by rw [List.length_set]; exact hN, by rw [List.map_set, hD, htk], hl2, rfl⟩
          · simp (disch := omega) only [↓stp, vls, inf, frs, mark_eq, ↓reduceIte, Nat.reduceEqDiff, ite_tt, ite_ff, eq_self, and_true, true_and, and_self, implies_true, Bool.true_eq_false, Bool.false_eq_true, decide_true, decide_false, decide_eq_true_eq, decide_eq_false_iff_not, ne_eq, not_true_eq_false, not_false_eq_true, Bool.not_eq_true', Bool.not_eq_false', beq_self_eq_true, Bool.not_true, Bool.not_false, List.getElem?_toArray, List.getElem?_cons_zero, List.getElem?_cons_succ, h0, h1, h7, h33, h34, h35]
            obtain rfl : i = ss.length := by omega
            rw [List.take_length] at hD
            replace l : Led A (prts b 24 9 strO N ps) W := l.tail
            have hDl := shd_len xs N ss
            generalize shd xs N ss = D at hD hDl
            refine aloop (fun d fr W => ∃ (k : Nat) (ps : List (Prt ByteArray)), k ≤ N ∧ d = N - k ∧ ps.length = N ∧ ps.map (·.2.2) = (D.take k).map (inOrd ids) ++ D.drop k ∧ Led A (prts b 24 9 strO N ps) W ∧ fr 0 = .slice a ids.length c ∧ fr 7 = .slice (some ⟨b, 0, none⟩) N N ∧ fr 71 = .int .i64 N ∧ fr 72 = .int .i64 k) N ⟨0, ps, by omega, by omega, hN, by rw [hD]; rfl, l, h0, h7, by rfl, by rfl⟩ ?_
            clear l hN hD
            rintro d fr W ⟨k, ps, hk, rfl, hN, hD, l, h0, h7, h71, h72⟩
            simp (disch := omega) only [↓stp, vls, inf, frs, mark_eq, ↓reduceIte, Nat.reduceEqDiff, ite_tt, ite_ff, eq_self, and_true, true_and, and_self, implies_true, Bool.true_eq_false, Bool.false_eq_true, decide_true, decide_false, decide_eq_true_eq, decide_eq_false_iff_not, ne_eq, not_true_eq_false, not_false_eq_true, Bool.not_eq_true', Bool.not_eq_false', beq_self_eq_true, Bool.not_true, Bool.not_false, List.getElem?_toArray, List.getElem?_cons_zero, List.getElem?_cons_succ, h0, h7, h71, h72]
            refine ⟨fun e => ?_, fun e => ?_⟩
            · have hkn : k < ps.length := by omega
              obtain ⟨q1, o1⟩ := prts_cell (M := []) l hkn
              have d1 := (prts_data hD hkn).1
              rw [List.getElem?_append_right (by simp; omega), List.length_map, List.length_take, Nat.min_eq_left (by omega), Nat.sub_self, List.getElem?_drop, Nat.add_zero, List.getElem?_eq_getElem (by omega)] at d1
              replace d1 := Option.some.inj d1
              simp (disch := omega) only [↓stp, vls, inf, frs, mark_eq, ↓reduceIte, Nat.reduceEqDiff, ite_tt, ite_ff, eq_self, and_true, true_and, and_self, implies_true, Bool.true_eq_false, Bool.false_eq_true, decide_true, decide_false, decide_eq_true_eq, decide_eq_false_iff_not, ne_eq, not_true_eq_false, not_false_eq_true, Bool.not_eq_true', Bool.not_eq_false', beq_self_eq_true, Bool.not_true, Bool.not_false, List.getElem?_toArray, List.getElem?_cons_zero, List.getElem?_cons_succ, h0, h7, h71, h72, q1]
              refine (impl_inOrderOf_c W _ _ ids ps[k].2.2 (h.mono l.ext) (OSl.toS o1) (by have := idsB_len e1; omega)).mono ?_
              rintro w2 W2 ⟨fp2, l1⟩
              replace l := (l.append l1).put (i := k + 1) (by simp [prts]; omega)
              simp (disch := omega) only [↓stp, vls, inf, frs, mark_eq, ↓reduceIte, Nat.reduceEqDiff, ite_tt, ite_ff, eq_self, and_true, true_and, and_self, implies_true, Bool.true_eq_false, Bool.false_eq_true, decide_true, decide_false, decide_eq_true_eq, decide_eq_false_iff_not, ne_eq, not_true_eq_false, not_false_eq_true, Bool.not_eq_true', Bool.not_eq_false', beq_self_eq_true, Bool.not_true, Bool.not_false, List.getElem?_toArray, List.getElem?_cons_zero, List.getElem?_cons_succ, h0, h7, h71, h72, add_at, Nat.zero_add]
              have hw2 : w2.cells = #[w2] ∧ w2.oneCell' = true := by
                obtain ⟨_, ⟨hq, _⟩ | ⟨_, _, _, _, hq, _⟩⟩ := (show OSl 9 strO W2 fp2 w2 _ from l1.at (i := 0) rfl) <;> rw [hq] <;> exact ⟨rfl, rfl⟩
              refine led_storeC l 0 rfl sz24 hw2 (by rw [List.length_map]; omega) fun W4 l => ?_
              simp (disch := omega) only [↓stp, vls, inf, frs, mark_eq, ↓reduceIte, Nat.reduceEqDiff, ite_tt, ite_ff, eq_self, and_true, true_and, and_self, implies_true, Bool.true_eq_false, Bool.false_eq_true, decide_true, decide_false, decide_eq_true_eq, decide_eq_false_iff_not, ne_eq, not_true_eq_false, not_false_eq_true, Bool.not_eq_true', Bool.not_eq_false', beq_self_eq_true, Bool.not_true, Bool.not_false, List.getElem?_toArray, List.getElem?_cons_zero, List.getElem?_cons_succ, h0, h7, h71, h72]
              have hl2 : Led A (prts b 24 9 strO N (ps.set k (fp2, w2, inOrd ids ps[k].2.2))) W4 := by
                rw [← prts_set]
                exact l
              refine ⟨_, ?_, k + 1, _, by omega, rfl, by rw [List.length_set]; exact hN, ?_, hl2, rfl⟩
              · omega
              · rw [List.map_set, hD, ← map_put (f := inOrd ids) (k := k) (D := D) (by omega), d1]
            · simp (disch := omega) only [↓stp, vls, inf, frs, mark_eq, ↓reduceIte, Nat.reduceEqDiff, ite_tt, ite_ff, eq_self, and_true, true_and, and_self, implies_true, Bool.true_eq_false, Bool.false_eq_true, decide_true, decide_false, decide_eq_true_eq, decide_eq_false_iff_not, ne_eq, not_true_eq_false, not_false_eq_true, Bool.not_eq_true', Bool.not_eq_false', beq_self_eq_true, Bool.not_true, Bool.not_false, List.getElem?_toArray, List.getElem?_cons_zero, List.getElem?_cons_succ, h0, h7, h71, h72]
              obtain rfl : k = N := by omega
              rw [← hDl, List.take_length, List.drop_length, List.append_nil] at hD
              rw [← hD]
              subst hN
              exact ⟨_, prts_osl l (by omega)⟩
      · have : shardR ids xs n = [] := by unfold shardR; rw [if_neg (by simp; omega)]
        rw [this]; exact NewSl.nil he
    · have : shardR ids xs n = [] := by unfold shardR; rw [if_neg (by simp [e2])]
      rw [this]; exact NewSl.nil he
  · have : shardR ids xs n = [] := by unfold shardR; rw [if_neg (by simp [e1])]
    rw [this]; exact NewSl.nil (Ext.refl _)

end Go.Proofs.Ytbbhhdcimmofoaa

