/- Suites checked; an element of a slice of one's own, opened and closed. -/
import Derived.Test.YtjiioedohbbceaaW0
import Derived.Test.YtjiioedohbbceaaW1
set_option maxHeartbeats 4000000
set_option synthInstance.maxHeartbeats 400000
set_option synthInstance.maxSize 4096
set_option linter.unusedSimpArgs false
set_option linter.unusedVariables false
namespace Go.Proofs.Ytjiioedohbbceaa

set_option maxRecDepth 100000

theorem Led.openAt {α : Type} {O : OwnS α} {e : TypeId} {A V : View} {L : List It} {fp : List Nat} {v : Value} {xs : List α} {k : Nat} (h : Led A (osl e O fp v xs :: L) V) (hk : k < xs.length) :
    ∃ b c c1 c2 c3 f1 f2 f3, v = .slice (some ⟨b, 0, none⟩) xs.length c ∧ xs.length ≤ c ∧ c1.length = k * O.S.size ∧ Led A (bx b ⟨e, c1 ++ (c2 ++ c3), c * O.S.size, true⟩ :: oc O f2 xs[k] c2 :: oel O f1 (xs.take k) c1 :: oel O f3 (xs.drop (k + 1)) c3 :: L) V := by
  obtain ⟨hl, ⟨rfl, rfl, rfl⟩ | ⟨b, c, cells, f, rfl, hc, rfl, hb, he⟩⟩ := (show OSl e O V fp v xs from h.at (i := 0) rfl)
  · cases hk
  · obtain ⟨f1, f2, f3, c1, c2, c3, rfl, rfl, hc1, h1, h2, h3⟩ := he.at hk
    refine ⟨b, c, c1, c2, c3, f1, f2, f3, rfl, hc, hc1, h.regroup ?_ fun it hit => ?_⟩
    · simp only [fps, List.flatMap_cons, bx, oc, oel, osl, List.cons_append, List.nil_append, List.append_assoc]
      exact (List.perm_append_comm_assoc ..).cons _
    · simp only [List.mem_cons] at hit
      rcases hit with rfl | rfl | rfl | rfl | hit
      · exact hb
      · exact h2
      · exact h1
      · exact h3
      · exact h.all it (List.mem_cons_of_mem _ hit)
theorem Led.closeAt {α : Type} {O : OwnS α} {e : TypeId} {A V : View} {L : List It} {xs : List α} {k b c : Nat} {x' : α} {c1 c2 c3 : List Value} {f1 f2 f3 : List Nat} (h : Led A (bx b ⟨e, c1 ++ (c2 ++ c3), c * O.S.size, true⟩ :: oc O f2 x' c2 :: oel O f1 (xs.take k) c1 :: oel O f3 (xs.drop (k + 1)) c3 :: L) V) (hk : k < xs.length) (hc : xs.length ≤ c) (hl : xs.length ≤ 140737488355328) :
    Led A (osl e O (b :: (f1 ++ (f2 ++ f3))) (.slice (some ⟨b, 0, none⟩) xs.length c) (xs.set k x') :: L) V := by
  refine h.regroup ?_ fun it hit => ?_
  · simp only [fps, List.flatMap_cons, bx, oc, oel, osl, List.cons_append, List.nil_append, List.append_assoc]
    exact (List.perm_append_comm_assoc ..).cons _
  · rcases List.mem_cons.1 hit with rfl | hit
    · have h1 : OElems O V f1 (xs.take k) c1 := h.at (i := 2) rfl
      have h2 : O.rel V f2 x' c2 := h.at (i := 1) rfl
      have h3 : OElems O V f3 (xs.drop (k + 1)) c3 := h.at (i := 3) rfl
      have hb : V b = some ⟨e, c1 ++ (c2 ++ c3), c * O.S.size, true⟩ := h.at (i := 0) rfl
      have hs : xs.set k x' = xs.take k ++ (x' :: xs.drop (k + 1)) := by rw [List.set_eq_take_append_cons_drop, if_pos hk]
      show OSl e O V _ _ _
      rw [hs]
      have hlen : (xs.take k ++ (x' :: xs.drop (k + 1))).length = xs.length := by rw [← hs, List.length_set]
      exact ⟨by omega, .inr ⟨b, c, _, _, by rw [hlen], by omega, rfl, hb, h1.append (.cons h2 h3)⟩⟩
    · exact h.all it (List.mem_cons_of_mem _ (List.mem_cons_of_mem _ (List.mem_cons_of_mem _ (List.mem_cons_of_mem _ hit))))

/-- One thing to the front. -/
theorem front_perm {α : Type} : ∀ (L : List α) (i : Nat) (hi : i < L.length), (L[i] :: L.eraseIdx i).Perm L
  | [], _, hi => absurd hi (Nat.not_lt_zero _)
  | _ :: _, 0, _ => List.Perm.refl _
  | x :: L, i + 1, hi => (List.Perm.swap ..).trans ((front_perm L i (Nat.lt_of_succ_lt_succ hi)).cons x)
theorem Led.front {A V : View} {L : List It} (h : Led A L V) (i : Nat) (hi : i < L.length) : Led A (L[i] :: L.eraseIdx i) V := h.perm (front_perm L i hi)
theorem asrc_ext {A V : View} (he : Ext A V) {size : Nat} {x : Value} {r : Nat × List Value} (h : asrc A size x = some r) : asrc V size x = some r := by
  unfold asrc at h ⊢
  split at h
  · exact h
  · split at h
    · rename_i h0; rw [if_pos h0]; exact h
    · rename_i h0
      rw [if_neg h0]
      rw [Option.map_eq_some_iff] at h ⊢
      obtain ⟨cs, hp, hq⟩ := h
      exact ⟨cs, he.part hp, hq⟩
  · exact h
  · cases h
/-- Elements that are read, appended: from a slice that is read. -/
theorem led_appS {α : Type} {S : Shape α} {P : Program} {K : Value → View → Prop} {A B V : View} {L : List It} {t tx ty e : TypeId} {bytes i : Nat} {fp : List Nat} {v u : Value} {xs ys : List α} (hT : appT P t tx = some (e, S.size, bytes)) (hby : bytes ≤ 1024) (h : Led A L V) (hi : L[i]? = some (rsl e S B fp v xs))
    (hs : Sl S B u ys) (he : Ext B V) (hsm : xs.length + ys.length ≤ 16777216) (hk : ∀ fp' v' W, Only fp V W → Led A (L.set i (rsl e S B fp' v' (xs ++ ys))) W → K v' W) : aappend P #[t, tx] ty #[v, u] V K := by
  obtain ⟨cells, h1, h2⟩ := hs.srcOf
  exact led_appR hT hby h hi (asrc_ext he h1) h2 hsm hk

theorem bu0S : Try.prog.built 26 [] = some #[.slice none 0 0, .slice none 0 0] := by rw [bt26]; rfl

/-- A suite that is given back only if it is valid. -/
noncomputable def chk (x : SuiteD) : SuiteD := if validB x = true then x else ([], [], ())
/-- A suite of one's own and whether it is one. -/
def NewOcB (A : View) (r : Value) (A' : View) (x : SuiteD) (ok : Bool) : Prop := ∃ (f0 : List Nat) (u0 : List Value), r = .tuple #[.agg u0.toArray, .bool ok] ∧ Led A [oc suiteO f0 x u0] A'
theorem NewOcB.base {A B A' : View} {r : Value} {x : SuiteD} {ok : Bool} (h : NewOcB B r A' x ok) (he : Ext A B) : NewOcB A r A' x ok := let ⟨fp, c, e, h⟩ := h; ⟨fp, c, e, h.base he⟩
theorem led_none {A V : View} (h : Ext A V) : Led A [oc suiteO [] ([], [], ()) [.slice none 0 0, .slice none 0 0]] V :=
  (Led.nil A).cons h (oc suiteO [] ([], [], ()) _) (show suiteO.rel V [] ([], [], ()) _ from suiteO_mk (ff0 := []) (ff1 := []) (x := ([], [], ())) ⟨by simp, .inl ⟨rfl, rfl, rfl⟩⟩ ⟨by simp, .inl ⟨rfl, rfl, rfl⟩⟩) (fun b hb => by cases hb) List.nodup_nil
theorem chk_of {x : SuiteD} (h : validB x = true) : chk x = x := by unfold chk; rw [if_pos h]
theorem chk_no {x : SuiteD} (h : validB x = false) : chk x = ([], [], ()) := by unfold chk; rw [if_neg (by rw [h]; exact Bool.false_ne_true)]

theorem spec_checkedSuite_c (A : View) (d : List Value) (x : SuiteD) (h : suiteS.rel A x d) : ACalls Try.prog 81 #[.agg d.toArray] A fun r A' => NewOcB A r A' (chk x) (validB x) := by
  obtain ⟨u0, u1, rfl, g0, g1⟩ := suiteS_open h
  obtain ⟨a0, c0, rfl, _, _⟩ := g0.slice
  obtain ⟨a1, c1, rfl, _, _⟩ := g1.slice
  refine acalls Try.func81 rfl (by kernel_rfl) ?_
  simp (disch := omega) only [↓stp, vls, inf, frs, mark_eq, ↓reduceIte, Nat.reduceEqDiff, ite_tt, ite_ff, eq_self, and_true, true_and, and_self, implies_true, Bool.true_eq_false, Bool.false_eq_true, decide_true, decide_false, decide_eq_true_eq, decide_eq_false_iff_not, ne_eq, not_true_eq_false, not_false_eq_true, Bool.not_eq_true', Bool.not_eq_false', beq_self_eq_true, Bool.not_true, Bool.not_false, List.getElem?_toArray, List.getElem?_cons_zero, List.getElem?_cons_succ]
  refine led_box (Led.nil A) rfl fun q V he l => ?_
  simp (disch := omega) only [↓stp, vls, inf, frs, mark_eq, ↓reduceIte, Nat.reduceEqDiff, ite_tt, ite_ff, eq_self, and_true, true_and, and_self, implies_true, Bool.true_eq_false, Bool.false_eq_true, decide_true, decide_false, decide_eq_true_eq, decide_eq_false_iff_not, ne_eq, not_true_eq_false, not_false_eq_true, Bool.not_eq_true', Bool.not_eq_false', beq_self_eq_true, Bool.not_true, Bool.not_false, List.getElem?_toArray, List.getElem?_cons_zero, List.getElem?_cons_succ]
  refine led_alloc zc26 l fun q2 V he l => ?_
  have kp : V.part ⟨q, 0, none⟩ 2 = some _ := l.part (i := 1) rfl rfl
  simp (disch := omega) only [↓stp, vls, inf, frs, mark_eq, ↓reduceIte, Nat.reduceEqDiff, ite_tt, ite_ff, eq_self, and_true, true_and, and_self, implies_true, Bool.true_eq_false, Bool.false_eq_true, decide_true, decide_false, decide_eq_true_eq, decide_eq_false_iff_not, ne_eq, not_true_eq_false, not_false_eq_true, Bool.not_eq_true', Bool.not_eq_false', beq_self_eq_true, Bool.not_true, Bool.not_false, List.getElem?_toArray, List.getElem?_cons_zero, List.getElem?_cons_succ, kp]
  refine (spec_validB_c V _ x (suiteS_mk (g0.mono l.ext) (g1.mono l.ext)) trivial).mono ?_
  rintro _ V2 ⟨rfl, he2⟩
  replace l := l.step he2
  have kp := he2.part kp
  simp (disch := omega) only [↓stp, vls, inf, frs, mark_eq, ↓reduceIte, Nat.reduceEqDiff, ite_tt, ite_ff, eq_self, and_true, true_and, and_self, implies_true, Bool.true_eq_false, Bool.false_eq_true, decide_true, decide_false, decide_eq_true_eq, decide_eq_false_iff_not, ne_eq, not_true_eq_false, not_false_eq_true, Bool.not_eq_true', Bool.not_eq_false', beq_self_eq_true, Bool.not_true, Bool.not_false, List.getElem?_toArray, List.getElem?_cons_zero, List.getElem?_cons_succ]
  refine ⟨fun e1 => ?_, fun e1 => ?_⟩ <;> simp (disch := omega) only [↓stp, vls, inf, frs, mark_eq, ↓reduceIte, Nat.reduceEqDiff, ite_tt, ite_ff, eq_self, and_true, true_and, and_self, implies_true, Bool.true_eq_false, Bool.false_eq_true, decide_true, decide_false, decide_eq_true_eq, decide_eq_false_iff_not, ne_eq, not_true_eq_false, not_false_eq_true, Bool.not_eq_true', Bool.not_eq_false', beq_self_eq_true, Bool.not_true, Bool.not_false, List.getElem?_toArray, List.getElem?_cons_zero, List.getElem?_cons_succ, kp, bu0S]
  · rw [e1, chk_no e1]
    refine led_storeAll l 0 rfl sz26 rfl rfl (by simp [Value.oneCell']) fun V6 l => ?_
    have kp : V6.part ⟨q2, 0, none⟩ 2 = some _ := l.part (i := 0) rfl rfl
    simp (disch := omega) only [↓stp, vls, inf, frs, mark_eq, ↓reduceIte, Nat.reduceEqDiff, ite_tt, ite_ff, eq_self, and_true, true_and, and_self, implies_true, Bool.true_eq_false, Bool.false_eq_true, decide_true, decide_false, decide_eq_true_eq, decide_eq_false_iff_not, ne_eq, not_true_eq_false, not_false_eq_true, Bool.not_eq_true', Bool.not_eq_false', beq_self_eq_true, Bool.not_true, Bool.not_false, List.getElem?_toArray, List.getElem?_cons_zero, List.getElem?_cons_succ, kp]
    exact ⟨_, _, rfl, led_none l.ext⟩
  · rw [e1, chk_of e1]
    refine (spec_copySuite_c V2 _ x (suiteS_mk (g0.mono l.ext) (g1.mono l.ext)) (validB_parts e1).1.small).mono ?_
    rintro _ V3 ⟨fp, cells, rfl, l1⟩
    obtain ⟨ff0, uu0, ff1, uu1, rfl, rfl, o0, o1⟩ := suiteO_open (show suiteO.rel V3 fp x cells from l1.at (i := 0) rfl)
    obtain ⟨a2, c2, rfl, _, _⟩ := o0.toS.slice
    obtain ⟨a3, c3, rfl, _, _⟩ := o1.toS.slice
    replace l := l.append l1
    simp (disch := omega) only [↓stp, vls, inf, frs, mark_eq, ↓reduceIte, Nat.reduceEqDiff, ite_tt, ite_ff, eq_self, and_true, true_and, and_self, implies_true, Bool.true_eq_false, Bool.false_eq_true, decide_true, decide_false, decide_eq_true_eq, decide_eq_false_iff_not, ne_eq, not_true_eq_false, not_false_eq_true, Bool.not_eq_true', Bool.not_eq_false', beq_self_eq_true, Bool.not_true, Bool.not_false, List.getElem?_toArray, List.getElem?_cons_zero, List.getElem?_cons_succ]
    refine led_storeAll l 1 rfl sz26 rfl rfl (by simp [Value.oneCell']) fun V6 l => ?_
    have kp : V6.part ⟨q2, 0, none⟩ 2 = some _ := l.part (i := 1) rfl rfl
    simp (disch := omega) only [↓stp, vls, inf, frs, mark_eq, ↓reduceIte, Nat.reduceEqDiff, ite_tt, ite_ff, eq_self, and_true, true_and, and_self, implies_true, Bool.true_eq_false, Bool.false_eq_true, decide_true, decide_false, decide_eq_true_eq, decide_eq_false_iff_not, ne_eq, not_true_eq_false, not_false_eq_true, Bool.not_eq_true', Bool.not_eq_false', beq_self_eq_true, Bool.not_true, Bool.not_false, List.getElem?_toArray, List.getElem?_cons_zero, List.getElem?_cons_succ, kp]
    exact ⟨_, _, rfl, l.sub (.cons_cons _ (List.nil_sublist _))⟩

/-- What the program gives back of a suite that it checks. -/
noncomputable def valC (x : SuiteD) (d : List Value) : List Value := if validB x = true then d else [.slice none 0 0, .slice none 0 0]
theorem impl_validated_c (A : View) (d : List Value) (x : SuiteD) (h : suiteS.rel A x d) (hs0 : x.1.length ≤ 16777215) (hs1 : x.2.1.length ≤ 16777215) : ACalls Try.prog 75 #[.agg d.toArray] A fun r A' => r = .tuple #[.agg (valC x d).toArray, .bool (validB x)] ∧ Ext A A' := by
  obtain ⟨u0, u1, rfl, g0, g1⟩ := suiteS_open h
  obtain ⟨a0, c0, rfl, _, _⟩ := g0.slice
  obtain ⟨a1, c1, rfl, _, _⟩ := g1.slice
  refine acalls Try.func75 rfl (by kernel_rfl) ?_
  simp (disch := omega) only [↓stp, vls, inf, frs, mark_eq, ↓reduceIte, Nat.reduceEqDiff, ite_tt, ite_ff, eq_self, and_true, true_and, and_self, implies_true, Bool.true_eq_false, Bool.false_eq_true, decide_true, decide_false, decide_eq_true_eq, decide_eq_false_iff_not, ne_eq, not_true_eq_false, not_false_eq_true, Bool.not_eq_true', Bool.not_eq_false', beq_self_eq_true, Bool.not_true, Bool.not_false, List.getElem?_toArray, List.getElem?_cons_zero, List.getElem?_cons_succ]
  refine led_box (Led.nil A) rfl fun q V he l => ?_
  simp (disch := omega) only [↓stp, vls, inf, frs, mark_eq, ↓reduceIte, Nat.reduceEqDiff, ite_tt, ite_ff, eq_self, and_true, true_and, and_self, implies_true, Bool.true_eq_false, Bool.false_eq_true, decide_true, decide_false, decide_eq_true_eq, decide_eq_false_iff_not, ne_eq, not_true_eq_false, not_false_eq_true, Bool.not_eq_true', Bool.not_eq_false', beq_self_eq_true, Bool.not_true, Bool.not_false, List.getElem?_toArray, List.getElem?_cons_zero, List.getElem?_cons_succ]
  refine led_alloc zc26 l fun q2 V he l => ?_
  have kp : V.part ⟨q, 0, none⟩ 2 = some _ := l.part (i := 1) rfl rfl
  simp (disch := omega) only [↓stp, vls, inf, frs, mark_eq, ↓reduceIte, Nat.reduceEqDiff, ite_tt, ite_ff, eq_self, and_true, true_and, and_self, implies_true, Bool.true_eq_false, Bool.false_eq_true, decide_true, decide_false, decide_eq_true_eq, decide_eq_false_iff_not, ne_eq, not_true_eq_false, not_false_eq_true, Bool.not_eq_true', Bool.not_eq_false', beq_self_eq_true, Bool.not_true, Bool.not_false, List.getElem?_toArray, List.getElem?_cons_zero, List.getElem?_cons_succ, kp]
  refine (impl_validB_c V _ x (suiteS_mk (g0.mono l.ext) (g1.mono l.ext)) hs0 hs1).mono ?_
  rintro _ V2 ⟨rfl, he2⟩
  replace l := l.step he2
  have kp := he2.part kp
  simp (disch := omega) only [↓stp, vls, inf, frs, mark_eq, ↓reduceIte, Nat.reduceEqDiff, ite_tt, ite_ff, eq_self, and_true, true_and, and_self, implies_true, Bool.true_eq_false, Bool.false_eq_true, decide_true, decide_false, decide_eq_true_eq, decide_eq_false_iff_not, ne_eq, not_true_eq_false, not_false_eq_true, Bool.not_eq_true', Bool.not_eq_false', beq_self_eq_true, Bool.not_true, Bool.not_false, List.getElem?_toArray, List.getElem?_cons_zero, List.getElem?_cons_succ]
  refine ⟨fun e1 => ?_, fun e1 => ?_⟩ <;> simp (disch := omega) only [↓stp, vls, inf, frs, mark_eq, ↓reduceIte, Nat.reduceEqDiff, ite_tt, ite_ff, eq_self, and_true, true_and, and_self, implies_true, Bool.true_eq_false, Bool.false_eq_true, decide_true, decide_false, decide_eq_true_eq, decide_eq_false_iff_not, ne_eq, not_true_eq_false, not_false_eq_true, Bool.not_eq_true', Bool.not_eq_false', beq_self_eq_true, Bool.not_true, Bool.not_false, List.getElem?_toArray, List.getElem?_cons_zero, List.getElem?_cons_succ, kp, bu0S]
  · refine led_storeAll l 0 rfl sz26 rfl rfl (by simp [Value.oneCell']) fun V6 l => ?_
    have kp : V6.part ⟨q2, 0, none⟩ 2 = some _ := l.part (i := 0) rfl rfl
    simp (disch := omega) only [↓stp, vls, inf, frs, mark_eq, ↓reduceIte, Nat.reduceEqDiff, ite_tt, ite_ff, eq_self, and_true, true_and, and_self, implies_true, Bool.true_eq_false, Bool.false_eq_true, decide_true, decide_false, decide_eq_true_eq, decide_eq_false_iff_not, ne_eq, not_true_eq_false, not_false_eq_true, Bool.not_eq_true', Bool.not_eq_false', beq_self_eq_true, Bool.not_true, Bool.not_false, List.getElem?_toArray, List.getElem?_cons_zero, List.getElem?_cons_succ, kp]
    rw [e1]
    unfold valC
    rw [if_neg (by rw [e1]; exact Bool.false_ne_true)]
    exact ⟨rfl, l.ext⟩
  · refine led_storeAll l 0 rfl sz26 rfl rfl (by simp [Value.oneCell']) fun V6 l => ?_
    have kp : V6.part ⟨q2, 0, none⟩ 2 = some _ := l.part (i := 0) rfl rfl
    simp (disch := omega) only [↓stp, vls, inf, frs, mark_eq, ↓reduceIte, Nat.reduceEqDiff, ite_tt, ite_ff, eq_self, and_true, true_and, and_self, implies_true, Bool.true_eq_false, Bool.false_eq_true, decide_true, decide_false, decide_eq_true_eq, decide_eq_false_iff_not, ne_eq, not_true_eq_false, not_false_eq_true, Bool.not_eq_true', Bool.not_eq_false', beq_self_eq_true, Bool.not_true, Bool.not_false, List.getElem?_toArray, List.getElem?_cons_zero, List.getElem?_cons_succ, kp]
    rw [e1]
    unfold valC
    rw [if_pos e1]
    exact ⟨rfl, l.ext⟩
/-- What is one's own, checked. -/
theorem Led.checked {A V : View} {f : List Nat} {x : SuiteD} {d : List Value} (h : Led A [oc suiteO f x d] V) : NewOcB A (.tuple #[.agg (valC x d).toArray, .bool (validB x)]) V (chk x) (validB x) := by
  unfold valC chk
  by_cases hv : validB x = true
  · rw [if_pos hv, if_pos hv]
    exact ⟨f, d, rfl, h⟩
  · rw [if_neg hv, if_neg hv]
    exact ⟨[], _, rfl, led_none h.ext⟩

theorem impl_findTestFn_c (A : View) (b : Nat) (d : List Value) (x : TestD) (id : ByteArray) (hb : A.cell ⟨b, 0, none⟩ = some (.string id)) (h : testS.rel A x d) : ACalls Try.prog 88 #[.agg d.toArray, .pointer (some ⟨b, 0, none⟩)] A fun r A' => r = .bool (decide (idD x = id)) ∧ Ext A A' := by
  obtain ⟨u2, u3, rfl, z1, z2, f2, f3⟩ := testS_open h
  refine acalls Try.func88 rfl (by kernel_rfl) ?_
  simp (disch := omega) only [↓stp, vls, inf, frs, mark_eq, ↓reduceIte, Nat.reduceEqDiff, ite_tt, ite_ff, eq_self, and_true, true_and, and_self, implies_true, Bool.true_eq_false, Bool.false_eq_true, decide_true, decide_false, decide_eq_true_eq, decide_eq_false_iff_not, ne_eq, not_true_eq_false, not_false_eq_true, Bool.not_eq_true', Bool.not_eq_false', beq_self_eq_true, Bool.not_true, Bool.not_false, List.getElem?_toArray, List.getElem?_cons_zero, List.getElem?_cons_succ]
  obtain ⟨a2, c2, rfl, _, _⟩ := f2.slice
  obtain ⟨a3, c3, rfl, _, _⟩ := f3.slice
  refine led_box (Led.nil A) rfl fun q V he l => ?_
  have kp : V.part ⟨q, 0, none⟩ 4 = some _ := l.part (i := 0) rfl rfl
  have kb := l.ext.cell hb
  simp (disch := omega) only [↓stp, vls, inf, frs, mark_eq, ↓reduceIte, Nat.reduceEqDiff, ite_tt, ite_ff, eq_self, and_true, true_and, and_self, implies_true, Bool.true_eq_false, Bool.false_eq_true, decide_true, decide_false, decide_eq_true_eq, decide_eq_false_iff_not, ne_eq, not_true_eq_false, not_false_eq_true, Bool.not_eq_true', Bool.not_eq_false', beq_self_eq_true, Bool.not_true, Bool.not_false, List.getElem?_toArray, List.getElem?_cons_zero, List.getElem?_cons_succ]
  refine adraw_items [.l 0 false, .l 2 true, .c 1 [2], .q 3, .q 4] (by kernel_rfl) (by kernel_rfl) ?_
  simp (disch := omega) only [↓stp, ↓pln, plv, nilOk, Nat.reduceBEq, Bool.or_false, Bool.or_true, Bool.false_or, Bool.true_or, vls, inf, frs, mark_eq, ↓reduceIte, Nat.reduceEqDiff, ite_tt, ite_ff, eq_self, and_true, true_and, and_self, implies_true, Bool.true_eq_false, Bool.false_eq_true, decide_true, decide_false, decide_eq_true_eq, decide_eq_false_iff_not, ne_eq, not_true_eq_false, not_false_eq_true, Bool.not_eq_true', Bool.not_eq_false', beq_self_eq_true, Bool.not_true, Bool.not_false, List.getElem?_toArray, List.getElem?_cons_zero, List.getElem?_cons_succ, kp, kb]
  refine (impl_idOf_c V _ x (testS_mk z1 z2 (f2.mono l.ext) (f3.mono l.ext))).mono ?_
  rintro _ V2 ⟨rfl, he2⟩
  have kp := he2.part kp
  have kb := he2.cell kb
  simp (disch := omega) only [↓stp, ↓pln, plv, nilOk, Nat.reduceBEq, Bool.or_false, Bool.or_true, Bool.false_or, Bool.true_or, vls, inf, frs, mark_eq, ↓reduceIte, Nat.reduceEqDiff, ite_tt, ite_ff, eq_self, and_true, true_and, and_self, implies_true, Bool.true_eq_false, Bool.false_eq_true, decide_true, decide_false, decide_eq_true_eq, decide_eq_false_iff_not, ne_eq, not_true_eq_false, not_false_eq_true, Bool.not_eq_true', Bool.not_eq_false', beq_self_eq_true, Bool.not_true, Bool.not_false, List.getElem?_toArray, List.getElem?_cons_zero, List.getElem?_cons_succ, kp, kb]
  exact l.ext.trans he2

def findB (xs : List TestD) (id : ByteArray) : Int := idxI (fun x => decide (idD x = id)) xs
noncomputable def findV (xs : List TestD) (id : ByteArray) : Int := if testsB xs = true then findB xs id else -1
theorem findV_of {x : SuiteD} (h : validB x = true) (id : ByteArray) : findV x.2.1 id = findB x.2.1 id := by
  unfold findV
  unfold validB formedB at h
  simp only [Bool.and_eq_true] at h
  rw [if_pos h.1.2]
theorem impl_FindTest_c (A : View) (v : Value) (xs : List TestD) (id : ByteArray) (h : Sl testS A v xs) (hsm : xs.length ≤ 16777215) : ACalls Try.prog 41 #[v, .string id] A fun r A' => r = .int .i64 (findV xs id) ∧ Ext A A' := by
  obtain ⟨a, c, rfl, hc, hl⟩ := h.slice
  refine acalls Try.func41 rfl (by kernel_rfl) ?_
  simp (disch := omega) only [↓stp, vls, inf, frs, mark_eq, ↓reduceIte, Nat.reduceEqDiff, ite_tt, ite_ff, eq_self, and_true, true_and, and_self, implies_true, Bool.true_eq_false, Bool.false_eq_true, decide_true, decide_false, decide_eq_true_eq, decide_eq_false_iff_not, ne_eq, not_true_eq_false, not_false_eq_true, Bool.not_eq_true', Bool.not_eq_false', beq_self_eq_true, Bool.not_true, Bool.not_false, List.getElem?_toArray, List.getElem?_cons_zero, List.getElem?_cons_succ]
  refine led_box1 (Led.nil A) rfl rfl fun q V he l => ?_
  simp (disch := omega) only [↓stp, vls, inf, frs, mark_eq, ↓reduceIte, Nat.reduceEqDiff, ite_tt, ite_ff, eq_self, and_true, true_and, and_self, implies_true, Bool.true_eq_false, Bool.false_eq_true, decide_true, decide_false, decide_eq_true_eq, decide_eq_false_iff_not, ne_eq, not_true_eq_false, not_false_eq_true, Bool.not_eq_true', Bool.not_eq_false', beq_self_eq_true, Bool.not_true, Bool.not_false, List.getElem?_toArray, List.getElem?_cons_zero, List.getElem?_cons_succ]
  refine (impl_validTests_c V _ xs (h.mono l.ext) hsm).mono ?_
  rintro _ V2 ⟨rfl, he2⟩
  replace l := l.step he2
  simp (disch := omega) only [↓stp, vls, inf, frs, mark_eq, ↓reduceIte, Nat.reduceEqDiff, ite_tt, ite_ff, eq_self, and_true, true_and, and_self, implies_true, Bool.true_eq_false, Bool.false_eq_true, decide_true, decide_false, decide_eq_true_eq, decide_eq_false_iff_not, ne_eq, not_true_eq_false, not_false_eq_true, Bool.not_eq_true', Bool.not_eq_false', beq_self_eq_true, Bool.not_true, Bool.not_false, List.getElem?_toArray, List.getElem?_cons_zero, List.getElem?_cons_succ]
  refine ⟨fun e1 => ?_, fun e1 => ?_⟩ <;> simp (disch := omega) only [↓stp, vls, inf, frs, mark_eq, ↓reduceIte, Nat.reduceEqDiff, ite_tt, ite_ff, eq_self, and_true, true_and, and_self, implies_true, Bool.true_eq_false, Bool.false_eq_true, decide_true, decide_false, decide_eq_true_eq, decide_eq_false_iff_not, ne_eq, not_true_eq_false, not_false_eq_true, Bool.not_eq_true', Bool.not_eq_false', beq_self_eq_true, Bool.not_true, Bool.not_false, List.getElem?_toArray, List.getElem?_cons_zero, List.getElem?_cons_succ]
  · unfold findV
    rw [if_neg (by rw [e1]; exact Bool.false_ne_true)]
    exact ⟨rfl, l.ext⟩
  · unfold findV
    rw [if_pos e1]
    have kb : V2.cell ⟨q, 0, none⟩ = some (.string id) := l.cell (i := 0) rfl (o := 0) rfl rfl
    refine (indexFunc_Test_c V2 _ _ xs (fun x => decide (idD x = id)) (h.mono l.ext) ⟨_, _, _, rfl, by kernel_rfl, fun B hB y x hx => ?_⟩).mono ?_
    · obtain ⟨d, rfl, hd⟩ := hx
      exact impl_findTestFn_c B q d x id (hB.cell kb) hd
    · rintro _ V3 ⟨rfl, he3⟩
      simp (disch := omega) only [↓stp, vls, inf, frs, mark_eq, ↓reduceIte, Nat.reduceEqDiff, ite_tt, ite_ff, eq_self, and_true, true_and, and_self, implies_true, Bool.true_eq_false, Bool.false_eq_true, decide_true, decide_false, decide_eq_true_eq, decide_eq_false_iff_not, ne_eq, not_true_eq_false, not_false_eq_true, Bool.not_eq_true', Bool.not_eq_false', beq_self_eq_true, Bool.not_true, Bool.not_false, List.getElem?_toArray, List.getElem?_cons_zero, List.getElem?_cons_succ]
      exact ⟨rfl, l.ext.trans he3⟩

theorem cntF_le {xs : List FixtureD} (h : ∀ f, f ∈ xs → smallF f) : cntL fixtureT xs ≤ 1027 * xs.length := by
  induction xs with
  | nil => simp [cntL]
  | cons x xs ih =>
    have h1 : x.2.2.1.length ≤ 1024 := h x (List.mem_cons_self ..)
    have h2 := ih fun y hy => h y (List.mem_cons_of_mem _ hy)
    have h3 := fixtureT_cnt x
    rw [cntL_str] at h3
    simp only [cntL, List.length_cons]
    omega
theorem cntT_le {xs : List TestD} (h : ∀ f, f ∈ xs → smallT f) : cntL testT xs ≤ 2050 * xs.length := by
  induction xs with
  | nil => simp [cntL]
  | cons x xs ih =>
    obtain ⟨h1, h1'⟩ := h x (List.mem_cons_self ..)
    have h2 := ih fun y hy => h y (List.mem_cons_of_mem _ hy)
    have h3 := testT_cnt x
    rw [cntL_str, cntL_str] at h3
    simp only [cntL, List.length_cons]
    omega
theorem Small.cnt {x : SuiteD} (h : Small x) : suiteT.cnt x ≤ 1073741824 := by
  rw [suiteT_cnt]
  have h1 := cntF_le h.s0
  have h2 := cntT_le h.s1
  have := h.l0
  have := h.l1
  omega
theorem none_cnt : suiteT.cnt ([], [], ()) ≤ 1073741824 := by
  rw [suiteT_cnt]
  simp [cntL]
theorem chk_cnt (x : SuiteD) : suiteT.cnt (chk x) ≤ 1073741824 := by
  unfold chk
  split
  · rename_i h
    exact (validB_parts h).1.small.cnt
  · exact none_cnt

def sel (c : Bool) (y : SuiteD) : SuiteD := if c = true then y else ([], [], ())

theorem zero_store {A V : View} {L : List It} {q4 room : Nat} {K : Value → View → Prop} (l : Led A (bx q4 ⟨26, [.slice none 0 0, .slice none 0 0], room, true⟩ :: L) V) (hK : ∀ W, Ext A W → W.part ⟨q4, 0, none⟩ 2 = some [.slice none 0 0, .slice none 0 0] → K undef W) : astore Try.prog 26 (.pointer (some ⟨q4, 0, none⟩)) (.agg #[.slice none 0 0, .slice none 0 0]) V K := by
  refine led_storeAll (d := [.slice none 0 0, .slice none 0 0]) l 0 rfl sz26 rfl rfl (by simp [Value.oneCell']) fun W l => ?_
  exact hK W l.ext (l.part (i := 0) rfl rfl)
theorem valC_len (x : SuiteD) {d : List Value} (h : d.length = 2) : (valC x d).length = 2 := by
  unfold valC
  split
  · exact h
  · rfl
theorem valC_one (x : SuiteD) {d : List Value} (h : ∀ v ∈ d, v.oneCell' = true) : ∀ v ∈ valC x d, v.oneCell' = true := by
  unfold valC
  split
  · exact h
  · intro v hv
    simp only [List.mem_cons, List.not_mem_nil, or_false] at hv
    rcases hv with rfl | rfl <;> rfl

end Go.Proofs.Ytjiioedohbbceaa

