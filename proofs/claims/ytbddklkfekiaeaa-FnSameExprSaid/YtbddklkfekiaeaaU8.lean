/- Expressions: the program's reading of rows. -/
import Derived.Test.YtbddklkfekiaeaaU7
set_option maxHeartbeats 4000000
set_option synthInstance.maxHeartbeats 400000
set_option synthInstance.maxSize 4096
set_option linter.unusedSimpArgs false
set_option linter.unusedVariables false
namespace Go.Proofs.Ytbddklkfekiaeaa

set_option maxRecDepth 100000

theorem impl_rowFn_c (n : Nat) (ih : ImplOk n .con) (A : View) (s : ByteArray) (ht : s.size ≤ 60) (hn : 3 * s.size + 1 < n) : ACalls Try.prog 113 #[.string s] A (ResI A s (parse n .con s.data.toList)) := by
  refine acalls Try.func113 rfl (by kernel_rfl) ?_
  simp (disch := omega) only [↓stq, amv_at, vls, inf, frs, mark_eq, ↓reduceIte, Nat.reduceEqDiff, ite_tt, ite_ff, eq_self, and_true, true_and, and_self, implies_true, Bool.true_eq_false, Bool.false_eq_true, decide_true, decide_false, decide_eq_true_eq, decide_eq_false_iff_not, ne_eq, not_true_eq_false, not_false_eq_true, Bool.not_eq_true', Bool.not_eq_false', beq_self_eq_true, Bool.not_true, Bool.not_false, List.getElem?_toArray, List.getElem?_cons_zero, List.getElem?_cons_succ]
  refine led_alloc zc64 (Led.nil A) fun q2 V _ l => ?_
  simp (disch := omega) only [↓stq, amv_at, vls, inf, frs, mark_eq, ↓reduceIte, Nat.reduceEqDiff, ite_tt, ite_ff, eq_self, and_true, true_and, and_self, implies_true, Bool.true_eq_false, Bool.false_eq_true, decide_true, decide_false, decide_eq_true_eq, decide_eq_false_iff_not, ne_eq, not_true_eq_false, not_false_eq_true, Bool.not_eq_true', Bool.not_eq_false', beq_self_eq_true, Bool.not_true, Bool.not_false, List.getElem?_toArray, List.getElem?_cons_zero, List.getElem?_cons_succ, List.getElem_toArray, List.getElem_cons_zero, List.getElem_cons_succ]
  refine (show ACalls Try.prog 96 #[.string s, .string conS] V (ResI V s (parse n .con s.data.toList)) from ih V s ht hn).mono ?_
  rintro _ V2 ⟨d, s', ok, rfl, hd, hs', hg⟩
  have hM : ∃ M, Led A (bx q2 ⟨64, [.string ⟨#[]⟩, .slice none 0 0], 2, true⟩ :: M) V2 ∧ ∀ W, Led A M W → Got2 A W d s' ok (parse n .con s.data.toList) := by
    cases hq : parse n .con s.data.toList with
    | none =>
      rw [hq] at hg
      exact ⟨[], l.step hg.2, fun W lw => ⟨hg.1, lw.ext⟩⟩
    | some er =>
      obtain ⟨e, r⟩ := er
      rw [hq] at hg
      obtain ⟨h1, h2, fp, l2⟩ := hg
      exact ⟨[exI fp e d], (l.append l2).perm (List.Perm.swap ..), fun W lw => ⟨h1, h2, fp, lw⟩⟩
  obtain ⟨M, l, hM⟩ := hM
  simp (disch := omega) only [↓stq, amv_at, vls, inf, frs, mark_eq, ↓reduceIte, Nat.reduceEqDiff, ite_tt, ite_ff, eq_self, and_true, true_and, and_self, implies_true, Bool.true_eq_false, Bool.false_eq_true, decide_true, decide_false, decide_eq_true_eq, decide_eq_false_iff_not, ne_eq, not_true_eq_false, not_false_eq_true, Bool.not_eq_true', Bool.not_eq_false', beq_self_eq_true, Bool.not_true, Bool.not_false, List.getElem?_toArray, List.getElem?_cons_zero, List.getElem?_cons_succ, List.getElem_toArray, List.getElem_cons_zero, List.getElem_cons_succ]
  refine led_storeAll l 0 rfl sz64 hd.1 rfl hd.2 fun V6 l => ?_
  have k2 : V6.part ⟨q2, 0, none⟩ 2 = some d := l.partn (i := 0) rfl hd.1 hd.2
  simp (disch := omega) only [↓stq, amv_at, vls, inf, frs, mark_eq, ↓reduceIte, Nat.reduceEqDiff, ite_tt, ite_ff, eq_self, and_true, true_and, and_self, implies_true, Bool.true_eq_false, Bool.false_eq_true, decide_true, decide_false, decide_eq_true_eq, decide_eq_false_iff_not, ne_eq, not_true_eq_false, not_false_eq_true, Bool.not_eq_true', Bool.not_eq_false', beq_self_eq_true, Bool.not_true, Bool.not_false, List.getElem?_toArray, List.getElem?_cons_zero, List.getElem?_cons_succ, List.getElem_toArray, List.getElem_cons_zero, List.getElem_cons_succ, k2]
  exact ⟨d, s', ok, rfl, hd, hs', hM V6 l.tail⟩

theorem impl_con_step (n : Nat) (ih : ImplOk n .fac) : ImplOk (n + 1) .con := by
  intro A s ht hn
  show ACalls Try.prog 96 #[.string s, .string conS] A (ResI A s (rowP (parse n .fac) andW .con n s.data.toList))
  have hn : 3 * s.size + 1 < n + 1 := hn
  have hor : (conS = (⟨#[111, 114]⟩ : ByteArray)) = False := by simp only [eq_iff_iff, iff_true, iff_false]; decide
  have hc1 : ∀ {A : View} {K : Value → View → Prop} (t : TypeId) (x y : Operand), abin Try.prog .add t x y (.string ⟨#[32]⟩) (.string conS) A K = K (.string ⟨#[32, 97, 110, 100]⟩) A := fun t x y => by
    rw [abin_cat _ _ _ (by decide)]
    rfl
  have hc2 : ∀ {A : View} {K : Value → View → Prop} (t : TypeId) (x y : Operand), abin Try.prog .add t x y (.string ⟨#[32, 97, 110, 100]⟩) (.string ⟨#[32]⟩) A K = K (.string ⟨#[32, 97, 110, 100, 32]⟩) A := fun t x y => by
    rw [abin_cat _ _ _ (by decide)]
    rfl
  obtain ⟨res, hres⟩ : ∃ res, rowP (parse n .fac) andW .con n s.data.toList = res := ⟨_, rfl⟩
  rw [hres]
  refine acalls Try.func96 rfl (by kernel_rfl) ?_
  simp (disch := omega) only [↓stq, amv_at, vls, inf, frs, mark_eq, ↓reduceIte, Nat.reduceEqDiff, ite_tt, ite_ff, eq_self, and_true, true_and, and_self, implies_true, Bool.true_eq_false, Bool.false_eq_true, decide_true, decide_false, decide_eq_true_eq, decide_eq_false_iff_not, ne_eq, not_true_eq_false, not_false_eq_true, Bool.not_eq_true', Bool.not_eq_false', beq_self_eq_true, Bool.not_true, Bool.not_false, List.getElem?_toArray, List.getElem?_cons_zero, List.getElem?_cons_succ]
  refine led_alloc zc64 (Led.nil A) fun q4 V _ l => ?_
  simp (disch := omega) only [↓stq, amv_at, vls, inf, frs, mark_eq, ↓reduceIte, Nat.reduceEqDiff, ite_tt, ite_ff, eq_self, and_true, true_and, and_self, implies_true, Bool.true_eq_false, Bool.false_eq_true, decide_true, decide_false, decide_eq_true_eq, decide_eq_false_iff_not, ne_eq, not_true_eq_false, not_false_eq_true, Bool.not_eq_true', Bool.not_eq_false', beq_self_eq_true, Bool.not_true, Bool.not_false, List.getElem?_toArray, List.getElem?_cons_zero, List.getElem?_cons_succ, List.getElem_toArray, List.getElem_cons_zero, List.getElem_cons_succ, hor]
  refine (show ACalls Try.prog 112 #[.string s] V (ResI V s (parse n .fac s.data.toList)) from ih V s ht (by show 3 * _ + 0 < n; omega)).mono ?_
  rintro _ V2 ⟨d, s', ok, rfl, hd, hs', hg⟩
  let ST : Bool → List Value → List It → ByteArray → Prop := fun ok dd M r => ok = false ∧ res = none ∨ ok = true ∧ ∃ e fp j, M = [exI fp e dd] ∧ r.size < j ∧ loopP (parse n .fac) andW .con j e r.data.toList = res
  have hM : ∃ M, Led A (bx q4 ⟨64, [.string ⟨#[]⟩, .slice none 0 0], 2, true⟩ :: M) V2 ∧ ST ok d M s' := by
    unfold rowP at hres
    cases hq : parse n .fac s.data.toList with
    | none =>
      rw [hq] at hg hres
      exact ⟨[], l.step hg.2, .inl ⟨hg.1, hres.symm⟩⟩
    | some er =>
      obtain ⟨e, r⟩ := er
      have hsh := (parse_short n .fac _ _ _ hq).2
      rw [toList_len] at hsh
      rw [hq] at hg hres
      obtain ⟨h1, h2, fp, l2⟩ := hg
      refine ⟨[exI fp e d], (l.append l2).perm (List.Perm.swap ..), .inr ⟨h1, e, fp, n, rfl, ?_, ?_⟩⟩
      · rw [h2, tx_size]; omega
      · rw [h2, tx_list]; exact hres
  obtain ⟨M, l, hst⟩ := hM
  simp (disch := omega) only [↓stq, amv_at, vls, inf, frs, mark_eq, ↓reduceIte, Nat.reduceEqDiff, ite_tt, ite_ff, eq_self, and_true, true_and, and_self, implies_true, Bool.true_eq_false, Bool.false_eq_true, decide_true, decide_false, decide_eq_true_eq, decide_eq_false_iff_not, ne_eq, not_true_eq_false, not_false_eq_true, Bool.not_eq_true', Bool.not_eq_false', beq_self_eq_true, Bool.not_true, Bool.not_false, List.getElem?_toArray, List.getElem?_cons_zero, List.getElem?_cons_succ, List.getElem_toArray, List.getElem_cons_zero, List.getElem_cons_succ]
  refine led_alloc zc64 l fun q8 V3 _ l => ?_
  simp (disch := omega) only [↓stq, amv_at, vls, inf, frs, mark_eq, ↓reduceIte, Nat.reduceEqDiff, ite_tt, ite_ff, eq_self, and_true, true_and, and_self, implies_true, Bool.true_eq_false, Bool.false_eq_true, decide_true, decide_false, decide_eq_true_eq, decide_eq_false_iff_not, ne_eq, not_true_eq_false, not_false_eq_true, Bool.not_eq_true', Bool.not_eq_false', beq_self_eq_true, Bool.not_true, Bool.not_false, List.getElem?_toArray, List.getElem?_cons_zero, List.getElem?_cons_succ, List.getElem_toArray, List.getElem_cons_zero, List.getElem_cons_succ]
  refine led_storeAll l 0 rfl sz64 hd.1 rfl hd.2 fun V4 l => ?_
  simp (disch := omega) only [↓stq, amv_at, vls, inf, frs, mark_eq, ↓reduceIte, Nat.reduceEqDiff, ite_tt, ite_ff, eq_self, and_true, true_and, and_self, implies_true, Bool.true_eq_false, Bool.false_eq_true, decide_true, decide_false, decide_eq_true_eq, decide_eq_false_iff_not, ne_eq, not_true_eq_false, not_false_eq_true, Bool.not_eq_true', Bool.not_eq_false', beq_self_eq_true, Bool.not_true, Bool.not_false, List.getElem?_toArray, List.getElem?_cons_zero, List.getElem?_cons_succ, List.getElem_toArray, List.getElem_cons_zero, List.getElem_cons_succ]
  refine aloop (fun dm fr V => ∃ (dd : List Value) (r : ByteArray) (ok : Bool) (M : List It), dm = r.size ∧ Two dd ∧ r.size ≤ s.size ∧ Led A (bx q8 ⟨64, dd, 2, true⟩ :: bx q4 ⟨64, [.string ⟨#[]⟩, .slice none 0 0], 2, true⟩ :: M) V ∧ fr 1 = .string conS ∧ fr 4 = .pointer (some ⟨q4, 0, none⟩) ∧ fr 7 = .func (.func 112) #[] #[] ∧ fr 8 = .pointer (some ⟨q8, 0, none⟩) ∧ fr 9 = .string r ∧ fr 10 = .bool ok ∧ ST ok dd M r) s'.size ⟨d, s', ok, M, rfl, hd, hs', l, by rfl, by rfl, by rfl, by rfl, by rfl, by rfl, hst⟩ ?_
  clear l hst hg hd hs'
  rintro _ fr V ⟨dd, r, ok, M, rfl, hd, hr, l, h1, h4, h7, h8, h9, h10, hst⟩
  have k8 : V.part ⟨q8, 0, none⟩ 2 = some dd := l.partn (i := 0) rfl hd.1 hd.2
  rcases hst with ⟨rfl, hrn⟩ | ⟨rfl, e, fp, j, rfl, hj, hl⟩
  · simp (disch := omega) only [↓stq, amv_at, vls, inf, frs, mark_eq, ↓reduceIte, Nat.reduceEqDiff, ite_tt, ite_ff, eq_self, and_true, true_and, and_self, implies_true, Bool.true_eq_false, Bool.false_eq_true, decide_true, decide_false, decide_eq_true_eq, decide_eq_false_iff_not, ne_eq, not_true_eq_false, not_false_eq_true, Bool.not_eq_true', Bool.not_eq_false', beq_self_eq_true, Bool.not_true, Bool.not_false, List.getElem?_toArray, List.getElem?_cons_zero, List.getElem?_cons_succ, List.getElem_toArray, List.getElem_cons_zero, List.getElem_cons_succ, h1, h4, h7, h8, h9, h10, k8]
    refine led_storeAll l 1 rfl sz64 hd.1 rfl hd.2 fun V6 l => ?_
    have k4 : V6.part ⟨q4, 0, none⟩ 2 = some dd := l.partn (i := 1) rfl hd.1 hd.2
    simp (disch := omega) only [↓stq, amv_at, vls, inf, frs, mark_eq, ↓reduceIte, Nat.reduceEqDiff, ite_tt, ite_ff, eq_self, and_true, true_and, and_self, implies_true, Bool.true_eq_false, Bool.false_eq_true, decide_true, decide_false, decide_eq_true_eq, decide_eq_false_iff_not, ne_eq, not_true_eq_false, not_false_eq_true, Bool.not_eq_true', Bool.not_eq_false', beq_self_eq_true, Bool.not_true, Bool.not_false, List.getElem?_toArray, List.getElem?_cons_zero, List.getElem?_cons_succ, List.getElem_toArray, List.getElem_cons_zero, List.getElem_cons_succ, h1, h4, h7, h8, h9, h10, k4]
    exact ⟨dd, r, false, rfl, hd, hr, by rw [hrn]; exact ⟨rfl, l.ext⟩⟩
  · simp (disch := omega) only [↓stq, amv_at, vls, inf, frs, mark_eq, ↓reduceIte, Nat.reduceEqDiff, ite_tt, ite_ff, eq_self, and_true, true_and, and_self, implies_true, Bool.true_eq_false, Bool.false_eq_true, decide_true, decide_false, decide_eq_true_eq, decide_eq_false_iff_not, ne_eq, not_true_eq_false, not_false_eq_true, Bool.not_eq_true', Bool.not_eq_false', beq_self_eq_true, Bool.not_true, Bool.not_false, List.getElem?_toArray, List.getElem?_cons_zero, List.getElem?_cons_succ, List.getElem_toArray, List.getElem_cons_zero, List.getElem_cons_succ, h1, h4, h7, h8, h9, h10, hc1, hc2]
    refine (strings_cutPrefix_c V r ⟨#[32, 97, 110, 100, 32]⟩).mono ?_
    rintro _ V ⟨rfl, rfl⟩
    obtain ⟨j, rfl⟩ : ∃ k, j = k + 1 := ⟨j - 1, by omega⟩
    unfold loopP at hl
    cases hp : andW.isPrefixOf r.data.toList with
    | false =>
      rw [hp, if_neg (by decide)] at hl
      rw [show (⟨#[32, 97, 110, 100, 32]⟩ : ByteArray).data.toList.isPrefixOf r.data.toList = false from hp]
      simp (disch := omega) only [↓stq, amv_at, vls, inf, frs, mark_eq, ↓reduceIte, Nat.reduceEqDiff, ite_tt, ite_ff, eq_self, and_true, true_and, and_self, implies_true, Bool.true_eq_false, Bool.false_eq_true, decide_true, decide_false, decide_eq_true_eq, decide_eq_false_iff_not, ne_eq, not_true_eq_false, not_false_eq_true, Bool.not_eq_true', Bool.not_eq_false', beq_self_eq_true, Bool.not_true, Bool.not_false, List.getElem?_toArray, List.getElem?_cons_zero, List.getElem?_cons_succ, List.getElem_toArray, List.getElem_cons_zero, List.getElem_cons_succ, h1, h4, h7, h8, h9, h10, k8]
      refine led_storeAll l 1 rfl sz64 hd.1 rfl hd.2 fun V6 l => ?_
      have k4 : V6.part ⟨q4, 0, none⟩ 2 = some dd := l.partn (i := 1) rfl hd.1 hd.2
      simp (disch := omega) only [↓stq, amv_at, vls, inf, frs, mark_eq, ↓reduceIte, Nat.reduceEqDiff, ite_tt, ite_ff, eq_self, and_true, true_and, and_self, implies_true, Bool.true_eq_false, Bool.false_eq_true, decide_true, decide_false, decide_eq_true_eq, decide_eq_false_iff_not, ne_eq, not_true_eq_false, not_false_eq_true, Bool.not_eq_true', Bool.not_eq_false', beq_self_eq_true, Bool.not_true, Bool.not_false, List.getElem?_toArray, List.getElem?_cons_zero, List.getElem?_cons_succ, List.getElem_toArray, List.getElem_cons_zero, List.getElem_cons_succ, h1, h4, h7, h8, h9, h10, k4]
      exact ⟨dd, r, true, rfl, hd, hr, by rw [← hl]; exact ⟨rfl, (tx_self r).symm, fp, l.tail.tail⟩⟩
    | true =>
      have hle := pre_len hp
      have hw : andW.length = (⟨#[32, 97, 110, 100, 32]⟩ : ByteArray).size := rfl
      have hw1 : 1 ≤ andW.length := by decide
      rw [toList_len] at hle
      rw [hp, if_pos rfl] at hl
      rw [show (⟨#[32, 97, 110, 100, 32]⟩ : ByteArray).data.toList.isPrefixOf r.data.toList = true from hp, cutP_yes (show (⟨#[32, 97, 110, 100, 32]⟩ : ByteArray).data.toList.isPrefixOf r.data.toList = true from hp), ← hw]
      have hz : (tx (r.data.toList.drop andW.length)).size = r.size - andW.length := by rw [tx_size, List.length_drop, toList_len]
      simp (disch := omega) only [↓stq, amv_at, vls, inf, frs, mark_eq, ↓reduceIte, Nat.reduceEqDiff, ite_tt, ite_ff, eq_self, and_true, true_and, and_self, implies_true, Bool.true_eq_false, Bool.false_eq_true, decide_true, decide_false, decide_eq_true_eq, decide_eq_false_iff_not, ne_eq, not_true_eq_false, not_false_eq_true, Bool.not_eq_true', Bool.not_eq_false', beq_self_eq_true, Bool.not_true, Bool.not_false, List.getElem?_toArray, List.getElem?_cons_zero, List.getElem?_cons_succ, List.getElem_toArray, List.getElem_cons_zero, List.getElem_cons_succ, h1, h4, h7, h8, h9, h10]
      refine led_alloc zc64 l fun q13 V _ l => ?_
      simp (disch := omega) only [↓stq, amv_at, vls, inf, frs, mark_eq, ↓reduceIte, Nat.reduceEqDiff, ite_tt, ite_ff, eq_self, and_true, true_and, and_self, implies_true, Bool.true_eq_false, Bool.false_eq_true, decide_true, decide_false, decide_eq_true_eq, decide_eq_false_iff_not, ne_eq, not_true_eq_false, not_false_eq_true, Bool.not_eq_true', Bool.not_eq_false', beq_self_eq_true, Bool.not_true, Bool.not_false, List.getElem?_toArray, List.getElem?_cons_zero, List.getElem?_cons_succ, List.getElem_toArray, List.getElem_cons_zero, List.getElem_cons_succ, h1, h4, h7, h8, h9, h10]
      refine (show ACalls Try.prog 112 #[.string (tx (r.data.toList.drop andW.length))] V (ResI V _ (parse n .fac (tx (r.data.toList.drop andW.length)).data.toList)) from ih V (tx (r.data.toList.drop andW.length)) (by omega) (by show 3 * _ + 0 < n; omega)).mono ?_
      rintro _ V2 ⟨d2, s2, ok2, rfl, hd2, hs2, hg⟩
      rw [tx_list] at hg
      have hM : ∃ M2, Led A (bx q13 ⟨64, [.string ⟨#[]⟩, .slice none 0 0], 2, true⟩ :: bx q8 ⟨64, dd, 2, true⟩ :: bx q4 ⟨64, [.string ⟨#[]⟩, .slice none 0 0], 2, true⟩ :: M2) V2 ∧ ∀ bl t room W k8 k4, Led A (bx bl ⟨t, dd ++ d2, room, true⟩ :: bx q8 k8 :: bx q4 k4 :: M2) W → ∃ M', Led A (bx q8 k8 :: bx q4 k4 :: M') W ∧ ST ok2 [.string conS, .slice (some ⟨bl, 0, none⟩) 2 2] M' s2 := by
        cases hq : parse n .fac (r.data.toList.drop andW.length) with
        | none =>
          rw [hq] at hg hl
          exact ⟨_, l.step hg.2, fun bl t room W k8 k4 lw => ⟨_, lw.tail, .inl ⟨hg.1, hl.symm⟩⟩⟩
        | some er =>
          obtain ⟨e2, r2⟩ := er
          have hsh := (parse_short n .fac _ _ _ hq).2
          rw [List.length_drop, toList_len] at hsh
          rw [hq] at hg hl
          obtain ⟨g1, g2, f2, l2⟩ := hg
          refine ⟨[exI f2 e2 d2, exI fp e dd], (l.append l2).perm (List.perm_middle (l₁ := [_, _, _])), fun bl t room W k8 k4 lw => ?_⟩
          have lp : Led A (bx bl ⟨t, dd ++ d2, room, true⟩ :: exI f2 e2 d2 :: exI fp e dd :: bx q8 k8 :: bx q4 k4 :: []) W := lw.perm (((List.perm_append_comm (l₁ := [exI f2 e2 d2, exI fp e dd]) (l₂ := [bx q8 k8, bx q4 k4]))).cons _)
          have lq := led_con (c := 2) lp
          refine ⟨[exI (fp ++ (f2 ++ [bl])) (.con e e2) [.string conS, .slice (some ⟨bl, 0, none⟩) 2 2]], lq.perm (List.perm_middle (l₁ := [_, _])), .inr ⟨g1, _, _, j, rfl, ?_, ?_⟩⟩
          · rw [g2, tx_size]; omega
          · rw [g2, tx_list]; exact hl
      obtain ⟨M2, l, hM⟩ := hM
      simp (disch := omega) only [↓stq, amv_at, vls, inf, frs, mark_eq, ↓reduceIte, Nat.reduceEqDiff, ite_tt, ite_ff, eq_self, and_true, true_and, and_self, implies_true, Bool.true_eq_false, Bool.false_eq_true, decide_true, decide_false, decide_eq_true_eq, decide_eq_false_iff_not, ne_eq, not_true_eq_false, not_false_eq_true, Bool.not_eq_true', Bool.not_eq_false', beq_self_eq_true, Bool.not_true, Bool.not_false, List.getElem?_toArray, List.getElem?_cons_zero, List.getElem?_cons_succ, List.getElem_toArray, List.getElem_cons_zero, List.getElem_cons_succ, h1, h4, h7, h8, h9, h10]
      refine led_storeAll l 0 rfl sz64 hd2.1 rfl hd2.2 fun V4 l => ?_
      have k8 : V4.part ⟨q8, 0, none⟩ 2 = some dd := l.partn (i := 1) rfl hd.1 hd.2
      have k13 : V4.part ⟨q13, 0, none⟩ 2 = some d2 := l.partn (i := 0) rfl hd2.1 hd2.2
      simp (disch := omega) only [↓stq, amv_at, vls, inf, frs, mark_eq, ↓reduceIte, Nat.reduceEqDiff, ite_tt, ite_ff, eq_self, and_true, true_and, and_self, implies_true, Bool.true_eq_false, Bool.false_eq_true, decide_true, decide_false, decide_eq_true_eq, decide_eq_false_iff_not, ne_eq, not_true_eq_false, not_false_eq_true, Bool.not_eq_true', Bool.not_eq_false', beq_self_eq_true, Bool.not_true, Bool.not_false, List.getElem?_toArray, List.getElem?_cons_zero, List.getElem?_cons_succ, List.getElem_toArray, List.getElem_cons_zero, List.getElem_cons_succ, h1, h4, h7, h8, h9, h10, k8, k13]
      refine led_lit li62 (by omega) rfl (fun p hp => by
        simp only [List.mem_cons, List.not_mem_nil, or_false] at hp
        rcases hp with rfl | rfl
        · exact agg2 hd
        · exact agg2 hd2) l fun bl V5 _ l => ?_
      simp (disch := omega) only [↓stq, amv_at, vls, inf, frs, mark_eq, ↓reduceIte, Nat.reduceEqDiff, ite_tt, ite_ff, eq_self, and_true, true_and, and_self, implies_true, Bool.true_eq_false, Bool.false_eq_true, decide_true, decide_false, decide_eq_true_eq, decide_eq_false_iff_not, ne_eq, not_true_eq_false, not_false_eq_true, Bool.not_eq_true', Bool.not_eq_false', beq_self_eq_true, Bool.not_true, Bool.not_false, List.getElem?_toArray, List.getElem?_cons_zero, List.getElem?_cons_succ, List.getElem_toArray, List.getElem_cons_zero, List.getElem_cons_succ, h1, h4, h7, h8, h9, h10]
      refine led_storeAll (d := [.string conS, .slice (some ⟨bl, 0, none⟩) 2 2]) l 2 rfl sz64 rfl hd.1 (two_of _ _ _ _).2 fun V6 l => ?_
      have l2 : Led A (bx bl ⟨64, dd ++ (d2 ++ []), 2 * 2, true⟩ :: bx q13 ⟨64, d2, 2, true⟩ :: bx q8 ⟨64, [.string conS, .slice (some ⟨bl, 0, none⟩) 2 2], 2, true⟩ :: bx q4 ⟨64, [.string ⟨#[]⟩, .slice none 0 0], 2, true⟩ :: M2) V6 := l
      rw [List.append_nil] at l2
      obtain ⟨M', l3, hst⟩ := hM bl _ _ V6 _ _ (l2.sub (.cons_cons _ (.cons _ (List.Sublist.refl _))))
      simp (disch := omega) only [↓stq, amv_at, vls, inf, frs, mark_eq, ↓reduceIte, Nat.reduceEqDiff, ite_tt, ite_ff, eq_self, and_true, true_and, and_self, implies_true, Bool.true_eq_false, Bool.false_eq_true, decide_true, decide_false, decide_eq_true_eq, decide_eq_false_iff_not, ne_eq, not_true_eq_false, not_false_eq_true, Bool.not_eq_true', Bool.not_eq_false', beq_self_eq_true, Bool.not_true, Bool.not_false, List.getElem?_toArray, List.getElem?_cons_zero, List.getElem?_cons_succ, List.getElem_toArray, List.getElem_cons_zero, List.getElem_cons_succ, h1, h4, h7, h8, h9, h10]
      exact ⟨_, by omega, _, s2, ok2, M', rfl, two_of _ _ _ _, by omega, l3, rfl, rfl, hst⟩

theorem impl_dis_step (n : Nat) (ih : ImplOk n .con) : ImplOk (n + 1) .dis := by
  intro A s ht hn
  show ACalls Try.prog 96 #[.string s, .string disS] A (ResI A s (rowP (parse n .con) orW .dis n s.data.toList))
  have hn : 3 * s.size + 2 < n + 1 := hn
  have hor : (disS = (⟨#[111, 114]⟩ : ByteArray)) = True := by simp only [eq_iff_iff, iff_true, iff_false]; decide
  have hc1 : ∀ {A : View} {K : Value → View → Prop} (t : TypeId) (x y : Operand), abin Try.prog .add t x y (.string ⟨#[32]⟩) (.string disS) A K = K (.string ⟨#[32, 111, 114]⟩) A := fun t x y => by
    rw [abin_cat _ _ _ (by decide)]
    rfl
  have hc2 : ∀ {A : View} {K : Value → View → Prop} (t : TypeId) (x y : Operand), abin Try.prog .add t x y (.string ⟨#[32, 111, 114]⟩) (.string ⟨#[32]⟩) A K = K (.string ⟨#[32, 111, 114, 32]⟩) A := fun t x y => by
    rw [abin_cat _ _ _ (by decide)]
    rfl
  obtain ⟨res, hres⟩ : ∃ res, rowP (parse n .con) orW .dis n s.data.toList = res := ⟨_, rfl⟩
  rw [hres]
  refine acalls Try.func96 rfl (by kernel_rfl) ?_
  simp (disch := omega) only [↓stq, amv_at, vls, inf, frs, mark_eq, ↓reduceIte, Nat.reduceEqDiff, ite_tt, ite_ff, eq_self, and_true, true_and, and_self, implies_true, Bool.true_eq_false, Bool.false_eq_true, decide_true, decide_false, decide_eq_true_eq, decide_eq_false_iff_not, ne_eq, not_true_eq_false, not_false_eq_true, Bool.not_eq_true', Bool.not_eq_false', beq_self_eq_true, Bool.not_true, Bool.not_false, List.getElem?_toArray, List.getElem?_cons_zero, List.getElem?_cons_succ]
  refine led_alloc zc64 (Led.nil A) fun q4 V _ l => ?_
  simp (disch := omega) only [↓stq, amv_at, vls, inf, frs, mark_eq, ↓reduceIte, Nat.reduceEqDiff, ite_tt, ite_ff, eq_self, and_true, true_and, and_self, implies_true, Bool.true_eq_false, Bool.false_eq_true, decide_true, decide_false, decide_eq_true_eq, decide_eq_false_iff_not, ne_eq, not_true_eq_false, not_false_eq_true, Bool.not_eq_true', Bool.not_eq_false', beq_self_eq_true, Bool.not_true, Bool.not_false, List.getElem?_toArray, List.getElem?_cons_zero, List.getElem?_cons_succ, List.getElem_toArray, List.getElem_cons_zero, List.getElem_cons_succ, hor]
  refine (show ACalls Try.prog 113 #[.string s] V (ResI V s (parse n .con s.data.toList)) from impl_rowFn_c n ih V s ht (by show 3 * _ + 1 < n; omega)).mono ?_
  rintro _ V2 ⟨d, s', ok, rfl, hd, hs', hg⟩
  let ST : Bool → List Value → List It → ByteArray → Prop := fun ok dd M r => ok = false ∧ res = none ∨ ok = true ∧ ∃ e fp j, M = [exI fp e dd] ∧ r.size < j ∧ loopP (parse n .con) orW .dis j e r.data.toList = res
  have hM : ∃ M, Led A (bx q4 ⟨64, [.string ⟨#[]⟩, .slice none 0 0], 2, true⟩ :: M) V2 ∧ ST ok d M s' := by
    unfold rowP at hres
    cases hq : parse n .con s.data.toList with
    | none =>
      rw [hq] at hg hres
      exact ⟨[], l.step hg.2, .inl ⟨hg.1, hres.symm⟩⟩
    | some er =>
      obtain ⟨e, r⟩ := er
      have hsh := (parse_short n .con _ _ _ hq).2
      rw [toList_len] at hsh
      rw [hq] at hg hres
      obtain ⟨h1, h2, fp, l2⟩ := hg
      refine ⟨[exI fp e d], (l.append l2).perm (List.Perm.swap ..), .inr ⟨h1, e, fp, n, rfl, ?_, ?_⟩⟩
      · rw [h2, tx_size]; omega
      · rw [h2, tx_list]; exact hres
  obtain ⟨M, l, hst⟩ := hM
  simp (disch := omega) only [↓stq, amv_at, vls, inf, frs, mark_eq, ↓reduceIte, Nat.reduceEqDiff, ite_tt, ite_ff, eq_self, and_true, true_and, and_self, implies_true, Bool.true_eq_false, Bool.false_eq_true, decide_true, decide_false, decide_eq_true_eq, decide_eq_false_iff_not, ne_eq, not_true_eq_false, not_false_eq_true, Bool.not_eq_true', Bool.not_eq_false', beq_self_eq_true, Bool.not_true, Bool.not_false, List.getElem?_toArray, List.getElem?_cons_zero, List.getElem?_cons_succ, List.getElem_toArray, List.getElem_cons_zero, List.getElem_cons_succ]
  refine led_alloc zc64 l fun q8 V3 _ l => ?_
  simp (disch := omega) only [↓stq, amv_at, vls, inf, frs, mark_eq, ↓reduceIte, Nat.reduceEqDiff, ite_tt, ite_ff, eq_self, and_true, true_and, and_self, implies_true, Bool.true_eq_false, Bool.false_eq_true, decide_true, decide_false, decide_eq_true_eq, decide_eq_false_iff_not, ne_eq, not_true_eq_false, not_false_eq_true, Bool.not_eq_true', Bool.not_eq_false', beq_self_eq_true, Bool.not_true, Bool.not_false, List.getElem?_toArray, List.getElem?_cons_zero, List.getElem?_cons_succ, List.getElem_toArray, List.getElem_cons_zero, List.getElem_cons_succ]
  refine led_storeAll l 0 rfl sz64 hd.1 rfl hd.2 fun V4 l => ?_
  simp (disch := omega) only [↓stq, amv_at, vls, inf, frs, mark_eq, ↓reduceIte, Nat.reduceEqDiff, ite_tt, ite_ff, eq_self, and_true, true_and, and_self, implies_true, Bool.true_eq_false, Bool.false_eq_true, decide_true, decide_false, decide_eq_true_eq, decide_eq_false_iff_not, ne_eq, not_true_eq_false, not_false_eq_true, Bool.not_eq_true', Bool.not_eq_false', beq_self_eq_true, Bool.not_true, Bool.not_false, List.getElem?_toArray, List.getElem?_cons_zero, List.getElem?_cons_succ, List.getElem_toArray, List.getElem_cons_zero, List.getElem_cons_succ]
  refine aloop (fun dm fr V => ∃ (dd : List Value) (r : ByteArray) (ok : Bool) (M : List It), dm = r.size ∧ Two dd ∧ r.size ≤ s.size ∧ Led A (bx q8 ⟨64, dd, 2, true⟩ :: bx q4 ⟨64, [.string ⟨#[]⟩, .slice none 0 0], 2, true⟩ :: M) V ∧ fr 1 = .string disS ∧ fr 4 = .pointer (some ⟨q4, 0, none⟩) ∧ fr 7 = .func (.func 113) #[] #[] ∧ fr 8 = .pointer (some ⟨q8, 0, none⟩) ∧ fr 9 = .string r ∧ fr 10 = .bool ok ∧ ST ok dd M r) s'.size ⟨d, s', ok, M, rfl, hd, hs', l, by rfl, by rfl, by rfl, by rfl, by rfl, by rfl, hst⟩ ?_
  clear l hst hg hd hs'
  rintro _ fr V ⟨dd, r, ok, M, rfl, hd, hr, l, h1, h4, h7, h8, h9, h10, hst⟩
  have k8 : V.part ⟨q8, 0, none⟩ 2 = some dd := l.partn (i := 0) rfl hd.1 hd.2
  rcases hst with ⟨rfl, hrn⟩ | ⟨rfl, e, fp, j, rfl, hj, hl⟩
  · simp (disch := omega) only [↓stq, amv_at, vls, inf, frs, mark_eq, ↓reduceIte, Nat.reduceEqDiff, ite_tt, ite_ff, eq_self, and_true, true_and, and_self, implies_true, Bool.true_eq_false, Bool.false_eq_true, decide_true, decide_false, decide_eq_true_eq, decide_eq_false_iff_not, ne_eq, not_true_eq_false, not_false_eq_true, Bool.not_eq_true', Bool.not_eq_false', beq_self_eq_true, Bool.not_true, Bool.not_false, List.getElem?_toArray, List.getElem?_cons_zero, List.getElem?_cons_succ, List.getElem_toArray, List.getElem_cons_zero, List.getElem_cons_succ, h1, h4, h7, h8, h9, h10, k8]
    refine led_storeAll l 1 rfl sz64 hd.1 rfl hd.2 fun V6 l => ?_
    have k4 : V6.part ⟨q4, 0, none⟩ 2 = some dd := l.partn (i := 1) rfl hd.1 hd.2
    simp (disch := omega) only [↓stq, amv_at, vls, inf, frs, mark_eq, ↓reduceIte, Nat.reduceEqDiff, ite_tt, ite_ff, eq_self, and_true, true_and, and_self, implies_true, Bool.true_eq_false, Bool.false_eq_true, decide_true, decide_false, decide_eq_true_eq, decide_eq_false_iff_not, ne_eq, not_true_eq_false, not_false_eq_true, Bool.not_eq_true', Bool.not_eq_false', beq_self_eq_true, Bool.not_true, Bool.not_false, List.getElem?_toArray, List.getElem?_cons_zero, List.getElem?_cons_succ, List.getElem_toArray, List.getElem_cons_zero, List.getElem_cons_succ, h1, h4, h7, h8, h9, h10, k4]
    exact ⟨dd, r, false, rfl, hd, hr, by rw [hrn]; exact ⟨rfl, l.ext⟩⟩
  · simp (disch := omega) only [↓stq, amv_at, vls, inf, frs, mark_eq, ↓reduceIte, Nat.reduceEqDiff, ite_tt, ite_ff, eq_self, and_true, true_and, and_self, implies_true, Bool.true_eq_false, Bool.false_eq_true, decide_true, decide_false, decide_eq_true_eq, decide_eq_false_iff_not, ne_eq, not_true_eq_false, not_false_eq_true, Bool.not_eq_true', Bool.not_eq_false', beq_self_eq_true, Bool.not_true, Bool.not_false, List.getElem?_toArray, List.getElem?_cons_zero, List.getElem?_cons_succ, List.getElem_toArray, List.getElem_cons_zero, List.getElem_cons_succ, h1, h4, h7, h8, h9, h10, hc1, hc2]
    refine (strings_cutPrefix_c V r ⟨#[32, 111, 114, 32]⟩).mono ?_
    rintro _ V ⟨rfl, rfl⟩
    obtain ⟨j, rfl⟩ : ∃ k, j = k + 1 := ⟨j - 1, by omega⟩
    unfold loopP at hl
    cases hp : orW.isPrefixOf r.data.toList with
    | false =>
      rw [hp, if_neg (by decide)] at hl
      rw [show (⟨#[32, 111, 114, 32]⟩ : ByteArray).data.toList.isPrefixOf r.data.toList = false from hp]
      simp (disch := omega) only [↓stq, amv_at, vls, inf, frs, mark_eq, ↓reduceIte, Nat.reduceEqDiff, ite_tt, ite_ff, eq_self, and_true, true_and, and_self, implies_true, Bool.true_eq_false, Bool.false_eq_true, decide_true, decide_false, decide_eq_true_eq, decide_eq_false_iff_not, ne_eq, not_true_eq_false, not_false_eq_true, Bool.not_eq_true', Bool.not_eq_false', beq_self_eq_true, Bool.not_true, Bool.not_false, List.getElem?_toArray, List.getElem?_cons_zero, List.getElem?_cons_succ, List.getElem_toArray, List.getElem_cons_zero, List.getElem_cons_succ, h1, h4, h7, h8, h9, h10, k8]
      refine led_storeAll l 1 rfl sz64 hd.1 rfl hd.2 fun V6 l => ?_
      have k4 : V6.part ⟨q4, 0, none⟩ 2 = some dd := l.partn (i := 1) rfl hd.1 hd.2
      simp (disch := omega) only [↓stq, amv_at, vls, inf, frs, mark_eq, ↓reduceIte, Nat.reduceEqDiff, ite_tt, ite_ff, eq_self, and_true, true_and, and_self, implies_true, Bool.true_eq_false, Bool.false_eq_true, decide_true, decide_false, decide_eq_true_eq, decide_eq_false_iff_not, ne_eq, not_true_eq_false, not_false_eq_true, Bool.not_eq_true', Bool.not_eq_false', beq_self_eq_true, Bool.not_true, Bool.not_false, List.getElem?_toArray, List.getElem?_cons_zero, List.getElem?_cons_succ, List.getElem_toArray, List.getElem_cons_zero, List.getElem_cons_succ, h1, h4, h7, h8, h9, h10, k4]
      exact ⟨dd, r, true, rfl, hd, hr, by rw [← hl]; exact ⟨rfl, (tx_self r).symm, fp, l.tail.tail⟩⟩
    | true =>
      have hle := pre_len hp
      have hw : orW.length = (⟨#[32, 111, 114, 32]⟩ : ByteArray).size := rfl
      have hw1 : 1 ≤ orW.length := by decide
      rw [toList_len] at hle
      rw [hp, if_pos rfl] at hl
      rw [show (⟨#[32, 111, 114, 32]⟩ : ByteArray).data.toList.isPrefixOf r.data.toList = true from hp, cutP_yes (show (⟨#[32, 111, 114, 32]⟩ : ByteArray).data.toList.isPrefixOf r.data.toList = true from hp), ← hw]
      have hz : (tx (r.data.toList.drop orW.length)).size = r.size - orW.length := by rw [tx_size, List.length_drop, toList_len]
      simp (disch := omega) only [↓stq, amv_at, vls, inf, frs, mark_eq, ↓reduceIte, Nat.reduceEqDiff, ite_tt, ite_ff, eq_self, and_true, true_and, and_self, implies_true, Bool.true_eq_false, Bool.false_eq_true, decide_true, decide_false, decide_eq_true_eq, decide_eq_false_iff_not, ne_eq, not_true_eq_false, not_false_eq_true, Bool.not_eq_true', Bool.not_eq_false', beq_self_eq_true, Bool.not_true, Bool.not_false, List.getElem?_toArray, List.getElem?_cons_zero, List.getElem?_cons_succ, List.getElem_toArray, List.getElem_cons_zero, List.getElem_cons_succ, h1, h4, h7, h8, h9, h10]
      refine led_alloc zc64 l fun q13 V _ l => ?_
      simp (disch := omega) only [↓stq, amv_at, vls, inf, frs, mark_eq, ↓reduceIte, Nat.reduceEqDiff, ite_tt, ite_ff, eq_self, and_true, true_and, and_self, implies_true, Bool.true_eq_false, Bool.false_eq_true, decide_true, decide_false, decide_eq_true_eq, decide_eq_false_iff_not, ne_eq, not_true_eq_false, not_false_eq_true, Bool.not_eq_true', Bool.not_eq_false', beq_self_eq_true, Bool.not_true, Bool.not_false, List.getElem?_toArray, List.getElem?_cons_zero, List.getElem?_cons_succ, List.getElem_toArray, List.getElem_cons_zero, List.getElem_cons_succ, h1, h4, h7, h8, h9, h10]
      refine (show ACalls Try.prog 113 #[.string (tx (r.data.toList.drop orW.length))] V (ResI V _ (parse n .con (tx (r.data.toList.drop orW.length)).data.toList)) from impl_rowFn_c n ih V (tx (r.data.toList.drop orW.length)) (by omega) (by show 3 * _ + 1 < n; omega)).mono ?_
      rintro _ V2 ⟨d2, s2, ok2, rfl, hd2, hs2, hg⟩
      rw [tx_list] at hg
      have hM : ∃ M2, Led A (bx q13 ⟨64, [.string ⟨#[]⟩, .slice none 0 0], 2, true⟩ :: bx q8 ⟨64, dd, 2, true⟩ :: bx q4 ⟨64, [.string ⟨#[]⟩, .slice none 0 0], 2, true⟩ :: M2) V2 ∧ ∀ bl t room W k8 k4, Led A (bx bl ⟨t, dd ++ d2, room, true⟩ :: bx q8 k8 :: bx q4 k4 :: M2) W → ∃ M', Led A (bx q8 k8 :: bx q4 k4 :: M') W ∧ ST ok2 [.string disS, .slice (some ⟨bl, 0, none⟩) 2 2] M' s2 := by
        cases hq : parse n .con (r.data.toList.drop orW.length) with
        | none =>
          rw [hq] at hg hl
          exact ⟨_, l.step hg.2, fun bl t room W k8 k4 lw => ⟨_, lw.tail, .inl ⟨hg.1, hl.symm⟩⟩⟩
        | some er =>
          obtain ⟨e2, r2⟩ := er
          have hsh := (parse_short n .con _ _ _ hq).2
          rw [List.length_drop, toList_len] at hsh
          rw [hq] at hg hl
          obtain ⟨g1, g2, f2, l2⟩ := hg
          refine ⟨[exI f2 e2 d2, exI fp e dd], (l.append l2).perm (List.perm_middle (l₁ := [_, _, _])), fun bl t room W k8 k4 lw => ?_⟩
          have lp : Led A (bx bl ⟨t, dd ++ d2, room, true⟩ :: exI f2 e2 d2 :: exI fp e dd :: bx q8 k8 :: bx q4 k4 :: []) W := lw.perm (((List.perm_append_comm (l₁ := [exI f2 e2 d2, exI fp e dd]) (l₂ := [bx q8 k8, bx q4 k4]))).cons _)
          have lq := led_dis (c := 2) lp
          refine ⟨[exI (fp ++ (f2 ++ [bl])) (.dis e e2) [.string disS, .slice (some ⟨bl, 0, none⟩) 2 2]], lq.perm (List.perm_middle (l₁ := [_, _])), .inr ⟨g1, _, _, j, rfl, ?_, ?_⟩⟩
          · rw [g2, tx_size]; omega
          · rw [g2, tx_list]; exact hl
      obtain ⟨M2, l, hM⟩ := hM
      simp (disch := omega) only [↓stq, amv_at, vls, inf, frs, mark_eq, ↓reduceIte, Nat.reduceEqDiff, ite_tt, ite_ff, eq_self, and_true, true_and, and_self, implies_true, Bool.true_eq_false, Bool.false_eq_true, decide_true, decide_false, decide_eq_true_eq, decide_eq_false_iff_not, ne_eq, not_true_eq_false, not_false_eq_true, Bool.not_eq_true', Bool.not_eq_false', beq_self_eq_true, Bool.not_true, Bool.not_false, List.getElem?_toArray, List.getElem?_cons_zero, List.getElem?_cons_succ, List.getElem_toArray, List.getElem_cons_zero, List.getElem_cons_succ, h1, h4, h7, h8, h9, h10]
      refine led_storeAll l 0 rfl sz64 hd2.1 rfl hd2.2 fun V4 l => ?_
      have k8 : V4.part ⟨q8, 0, none⟩ 2 = some dd := l.partn (i := 1) rfl hd.1 hd.2
      have k13 : V4.part ⟨q13, 0, none⟩ 2 = some d2 := l.partn (i := 0) rfl hd2.1 hd2.2
      simp (disch := omega) only [↓stq, amv_at, vls, inf, frs, mark_eq, ↓reduceIte, Nat.reduceEqDiff, ite_tt, ite_ff, eq_self, and_true, true_and, and_self, implies_true, Bool.true_eq_false, Bool.false_eq_true, decide_true, decide_false, decide_eq_true_eq, decide_eq_false_iff_not, ne_eq, not_true_eq_false, not_false_eq_true, Bool.not_eq_true', Bool.not_eq_false', beq_self_eq_true, Bool.not_true, Bool.not_false, List.getElem?_toArray, List.getElem?_cons_zero, List.getElem?_cons_succ, List.getElem_toArray, List.getElem_cons_zero, List.getElem_cons_succ, h1, h4, h7, h8, h9, h10, k8, k13]
      refine led_lit li62 (by omega) rfl (fun p hp => by
        simp only [List.mem_cons, List.not_mem_nil, or_false] at hp
        rcases hp with rfl | rfl
        · exact agg2 hd
        · exact agg2 hd2) l fun bl V5 _ l => ?_
      simp (disch := omega) only [↓stq, amv_at, vls, inf, frs, mark_eq, ↓reduceIte, Nat.reduceEqDiff, ite_tt, ite_ff, eq_self, and_true, true_and, and_self, implies_true, Bool.true_eq_false, Bool.false_eq_true, decide_true, decide_false, decide_eq_true_eq, decide_eq_false_iff_not, ne_eq, not_true_eq_false, not_false_eq_true, Bool.not_eq_true', Bool.not_eq_false', beq_self_eq_true, Bool.not_true, Bool.not_false, List.getElem?_toArray, List.getElem?_cons_zero, List.getElem?_cons_succ, List.getElem_toArray, List.getElem_cons_zero, List.getElem_cons_succ, h1, h4, h7, h8, h9, h10]
      refine led_storeAll (d := [.string disS, .slice (some ⟨bl, 0, none⟩) 2 2]) l 2 rfl sz64 rfl hd.1 (two_of _ _ _ _).2 fun V6 l => ?_
      have l2 : Led A (bx bl ⟨64, dd ++ (d2 ++ []), 2 * 2, true⟩ :: bx q13 ⟨64, d2, 2, true⟩ :: bx q8 ⟨64, [.string disS, .slice (some ⟨bl, 0, none⟩) 2 2], 2, true⟩ :: bx q4 ⟨64, [.string ⟨#[]⟩, .slice none 0 0], 2, true⟩ :: M2) V6 := l
      rw [List.append_nil] at l2
      obtain ⟨M', l3, hst⟩ := hM bl _ _ V6 _ _ (l2.sub (.cons_cons _ (.cons _ (List.Sublist.refl _))))
      simp (disch := omega) only [↓stq, amv_at, vls, inf, frs, mark_eq, ↓reduceIte, Nat.reduceEqDiff, ite_tt, ite_ff, eq_self, and_true, true_and, and_self, implies_true, Bool.true_eq_false, Bool.false_eq_true, decide_true, decide_false, decide_eq_true_eq, decide_eq_false_iff_not, ne_eq, not_true_eq_false, not_false_eq_true, Bool.not_eq_true', Bool.not_eq_false', beq_self_eq_true, Bool.not_true, Bool.not_false, List.getElem?_toArray, List.getElem?_cons_zero, List.getElem?_cons_succ, List.getElem_toArray, List.getElem_cons_zero, List.getElem_cons_succ, h1, h4, h7, h8, h9, h10]
      exact ⟨_, by omega, _, s2, ok2, M', rfl, two_of _ _ _ _, by omega, l3, rfl, rfl, hst⟩

end Go.Proofs.Ytbddklkfekiaeaa

