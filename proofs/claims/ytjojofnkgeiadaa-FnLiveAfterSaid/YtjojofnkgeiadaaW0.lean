/- What a fixture of a valid suite needs. -/
import Derived.Test.YtjojofnkgeiadaaV9
import Derived.Test.YtjojofnkgeiadaaN2
set_option maxHeartbeats 4000000
set_option synthInstance.maxHeartbeats 400000
set_option synthInstance.maxSize 4096
set_option linter.unusedSimpArgs false
set_option linter.unusedVariables false
namespace Go.Proofs.Ytjojofnkgeiadaa

set_option maxRecDepth 100000

theorem validB_parts {x : SuiteD} (h : validB x = true) : Formed x ∧ probR x = [] := by
  unfold validB at h
  rw [Bool.and_eq_true, decide_eq_true_eq] at h
  exact ⟨formed_of h.1, List.length_eq_zero_iff.1 h.2⟩
theorem prFix_nil {x : SuiteD} (h : probR x = []) {f : FixtureD} (hf : f ∈ x.1) : (∀ nd, nd ∈ f.2.2.1 → 0 ≤ fAt x.1 nd ∧ f.2.1 ≤ scopeAt x.1 nd) ∧ circB x.1 f.1 = false := by
  unfold probR at h
  rw [List.append_eq_nil_iff, List.flatMap_eq_nil_iff] at h
  have h1 := h.1 f hf
  unfold prFix at h1
  rw [List.append_eq_nil_iff, List.flatMap_eq_nil_iff] at h1
  refine ⟨fun nd hnd => ?_, ?_⟩
  · have h2 := h1.1 nd hnd
    unfold prNeed at h2
    by_cases h3 : fAt x.1 nd < 0
    · rw [if_pos h3] at h2; cases h2
    · rw [if_neg h3] at h2
      by_cases h4 : scopeAt x.1 nd < f.2.1
      · rw [if_pos h4] at h2; cases h2
      · omega
  · cases hc : circB x.1 f.1
    · rfl
    · have h2 := h1.2
      rw [hc, if_pos rfl] at h2; cases h2
theorem sound_of {x : SuiteD} (h : validB x = true) : Sound x.1 := by
  obtain ⟨hF, hp⟩ := validB_parts h
  constructor
  · intro a b hb
    obtain ⟨i, _, hi, hnd, _⟩ := needsAt_idx (hasF_idx.1 (hasF_of hb))
    rw [hnd] at hb
    exact hasF_idx.2 ((prFix_nil hp (List.getElem_mem hi)).1 b hb).1
  · intro a ha
    have hFa : hasF x.1 a := by
      have key : ∀ b, Rch x.1 a b → hasF x.1 a := by
        intro b hb
        induction hb with
        | one h => exact hasF_of h
        | more _ _ ih => exact ih
      exact key a ha
    obtain ⟨i, _, hi, _, hnm⟩ := needsAt_idx (hasF_idx.1 hFa)
    have hc := (prFix_nil hp (List.getElem_mem hi)).2
    rw [hnm] at hc
    unfold circB at hc
    exact (@of_decide_eq_false _ (Classical.propDecidable _) hc) ha

theorem impl_needsOf_c (B : View) (d : List Value) (x : SuiteD) (hx : suiteS.rel B x d) (hsm : x.1.length ≤ 1048576) (hso : Sound x.1) : ∀ (n : Nat) (A : View) (L : List It) (name : ByteArray) (op : List ByteArray) (fp : List Nat) (w : Value) (out : List ByteArray), name.size ≤ 140737488355328 →
    freeN x.1 op ≤ n → hasF x.1 name → (∀ o, o ∈ op → Rch x.1 o name) → Shut x.1 out → Names x.1 out → Led B (osl 9 strO fp w out :: L) A →
    ACalls Try.prog 65 #[.agg d.toArray, .string name, w] A fun r V => ∃ fp', Led B (osl 9 strO fp' r (nOf x.1 n name out) :: L) V := by
  obtain ⟨u0, u1, rfl, g0, g1⟩ := suiteS_open hx
  obtain ⟨a0, c0, rfl, _, _⟩ := g0.slice
  obtain ⟨a1, c1, rfl, _, _⟩ := g1.slice
  intro n
  induction n using Nat.strongRecOn with
  | _ n ih =>
    intro A L name op fp w out hz hfr hF hop hSh hN l
    have hno : name ∉ op := fun hm => hso.no name (hop name hm)
    obtain ⟨m, rfl⟩ : ∃ m, n = m + 1 := ⟨n - 1, by have := freeN_pos hF hno; omega⟩
    have hfr' : freeN x.1 (op ++ [name]) ≤ m := by have := freeN_lt hF hno; omega
    obtain ⟨i, hi, hlt, hnd, hnm⟩ := needsAt_idx (fs := x.1) (a := name) (hasF_idx.1 hF)
    obtain ⟨ad, u2, rfl, hclB, z1, z2, f2⟩ := g0.fixture hlt
    obtain ⟨a2, c2, rfl, hc2, hl2⟩ := f2.slice
    have hrw : nOf x.1 (m + 1) name out = (needsAt x.1 name).foldl (fun l b => addO (nOf x.1 m b l) b) out := rfl
    have hchild : ∀ b, b ∈ needsAt x.1 name → ∀ o, o ∈ op ++ [name] → Rch x.1 o b := fun b hb o ho => by
      rcases List.mem_append.1 ho with ho | ho
      · exact .more (hop o ho) hb
      · rw [List.mem_singleton.1 ho]; exact .one hb
    have hinv : ∀ (ns : List ByteArray), (∀ b, b ∈ ns → b ∈ needsAt x.1 name) → Shut x.1 (ns.foldl (fun l b => addO (nOf x.1 m b l) b) out) ∧ Names x.1 (ns.foldl (fun l b => addO (nOf x.1 m b l) b) out) := fun ns hs =>
      foldl_inv (I := fun l => Shut x.1 l ∧ Names x.1 l) (fun l b hb hl => by
        have := nOf_names hso hfr' (hso.all name b (hs b hb)) (hchild b (hs b hb)) hl.1 hl.2
        exact ⟨this.2.2, this.2.1⟩) ⟨hSh, hN⟩
    rw [hrw]
    rw [hnd] at hinv hchild ⊢
    have hall := hso.all name
    rw [hnd] at hall
    refine acalls Try.func65 rfl (by kernel_rfl) ?_
    simp (disch := omega) only [↓stp, vls, inf, frs, mark_eq, ↓reduceIte, Nat.reduceEqDiff, ite_tt, ite_ff, eq_self, and_true, true_and, and_self, implies_true, Bool.true_eq_false, Bool.false_eq_true, decide_true, decide_false, decide_eq_true_eq, decide_eq_false_iff_not, ne_eq, not_true_eq_false, not_false_eq_true, Bool.not_eq_true', Bool.not_eq_false', beq_self_eq_true, Bool.not_true, Bool.not_false, List.getElem?_toArray, List.getElem?_cons_zero, List.getElem?_cons_succ]
    refine led_box l rfl fun q V he l => ?_
    have k0 := l.cell (i := 0) rfl (o := 0) rfl rfl
    have kp : V.part ⟨q, 0, none⟩ 2 = some _ := l.part (i := 0) rfl rfl
    simp (disch := omega) only [↓stp, vls, inf, frs, mark_eq, ↓reduceIte, Nat.reduceEqDiff, ite_tt, ite_ff, eq_self, and_true, true_and, and_self, implies_true, Bool.true_eq_false, Bool.false_eq_true, decide_true, decide_false, decide_eq_true_eq, decide_eq_false_iff_not, ne_eq, not_true_eq_false, not_false_eq_true, Bool.not_eq_true', Bool.not_eq_false', beq_self_eq_true, Bool.not_true, Bool.not_false, List.getElem?_toArray, List.getElem?_cons_zero, List.getElem?_cons_succ]
    refine adraw_items [.q 0, .l 1 true, .l 2 false, .q 3, .q 9, .c 4 [1], .q 5, .q 6, .l 7 false, .q 8] (by kernel_rfl) (by kernel_rfl) ?_
    simp (disch := omega) only [↓stp, ↓pln, plv, nilOk, Nat.reduceBEq, Bool.or_false, Bool.or_true, Bool.false_or, Bool.true_or, vls, inf, frs, mark_eq, ↓reduceIte, Nat.reduceEqDiff, ite_tt, ite_ff, eq_self, and_true, true_and, and_self, implies_true, Bool.true_eq_false, Bool.false_eq_true, decide_true, decide_false, decide_eq_true_eq, decide_eq_false_iff_not, ne_eq, not_true_eq_false, not_false_eq_true, Bool.not_eq_true', Bool.not_eq_false', beq_self_eq_true, Bool.not_true, Bool.not_false, List.getElem?_toArray, List.getElem?_cons_zero, List.getElem?_cons_succ, add_at, k0, kp]
    refine (impl_fixtureAt_c V _ x _ (suiteS_mk (g0.mono l.ext) (g1.mono l.ext))).mono ?_
    rintro _ V ⟨rfl, he⟩
    rw [hi]
    replace l := l.step he
    have k0 := l.cell (i := 0) rfl (o := 0) rfl rfl
    have kp : V.part ⟨q, 0, none⟩ 2 = some _ := l.part (i := 0) rfl rfl
    have hcl := l.ext.part hclB
    have k2 := View.part_cell hcl (j := 2) (v := .slice a2 (x.1[i]).2.2.1.length c2) rfl
    generalize hns : (x.1[i]).2.2.1 = ns at f2 k2 hcl hclB hc2 hl2 hinv hchild hall
    simp (disch := omega) only [↓stp, ↓pln, plv, nilOk, Nat.reduceBEq, Bool.or_false, Bool.or_true, Bool.false_or, Bool.true_or, vls, inf, frs, mark_eq, ↓reduceIte, Nat.reduceEqDiff, ite_tt, ite_ff, eq_self, and_true, true_and, and_self, implies_true, Bool.true_eq_false, Bool.false_eq_true, decide_true, decide_false, decide_eq_true_eq, decide_eq_false_iff_not, ne_eq, not_true_eq_false, not_false_eq_true, Bool.not_eq_true', Bool.not_eq_false', beq_self_eq_true, Bool.not_true, Bool.not_false, List.getElem?_toArray, List.getElem?_cons_zero, List.getElem?_cons_succ, add_at, k0, kp, k2]
    refine aloop (fun d fr V => ∃ (k : Nat) (fp : List Nat) (w : Value), k ≤ ns.length ∧ d = ns.length - k ∧ Led B (osl 9 strO fp w ((ns.take k).foldl (fun l b => addO (nOf x.1 m b l) b) out) :: bx q ⟨26, [.slice (some ad) x.1.length c0, .slice a1 x.2.1.length c1], 2, true⟩ :: L) V ∧ fr 2 = w ∧ fr 3 = .pointer (some ⟨q, 0, none⟩) ∧ fr 16 = .slice a2 ns.length c2 ∧ fr 17 = .int .i64 ns.length ∧ fr 18 = .int .i64 k) ns.length ⟨0, _, _, by omega, by omega, l.perm (List.Perm.swap ..), by rfl, by rfl, by rfl, by rfl, by rfl⟩ ?_
    clear l k0 kp hcl k2
    rintro d fr V ⟨k, fp, w, hk, rfl, l, h2, h3, h16, h17, h18⟩
    simp (disch := omega) only [↓stp, vls, inf, frs, mark_eq, ↓reduceIte, Nat.reduceEqDiff, ite_tt, ite_ff, eq_self, and_true, true_and, and_self, implies_true, Bool.true_eq_false, Bool.false_eq_true, decide_true, decide_false, decide_eq_true_eq, decide_eq_false_iff_not, ne_eq, not_true_eq_false, not_false_eq_true, Bool.not_eq_true', Bool.not_eq_false', beq_self_eq_true, Bool.not_true, Bool.not_false, List.getElem?_toArray, List.getElem?_cons_zero, List.getElem?_cons_succ, h2, h3, h16, h17, h18]
    have hI := hinv (ns.take k) fun b hb => List.mem_of_mem_take hb
    refine ⟨fun e => ?_, fun e => ?_⟩
    · have hltk : k < ns.length := by omega
      obtain ⟨ad2, rfl, kk, zk⟩ := (f2.mono l.ext).str hltk
      have kp : V.part ⟨q, 0, none⟩ 2 = some _ := l.part (i := 1) rfl rfl
      have hst : (ns.take (k + 1)).foldl (fun l b => addO (nOf x.1 m b l) b) out = addO (nOf x.1 m ns[k] ((ns.take k).foldl (fun l b => addO (nOf x.1 m b l) b) out)) ns[k] := by
        rw [List.take_succ_eq_append_getElem hltk, List.foldl_append]; rfl
      have hN2 := nOf_names hso hfr' (hall ns[k] (List.getElem_mem hltk)) (hchild ns[k] (List.getElem_mem hltk)) hI.1 hI.2
      generalize (ns.take k).foldl (fun l b => addO (nOf x.1 m b l) b) out = o1 at l hI hN2 hst
      simp (disch := omega) only [↓stp, ↓pln, plv, nilOk, Nat.reduceBEq, Bool.or_false, Bool.or_true, Bool.false_or, Bool.true_or, vls, inf, frs, mark_eq, ↓reduceIte, Nat.reduceEqDiff, ite_tt, ite_ff, eq_self, and_true, true_and, and_self, implies_true, Bool.true_eq_false, Bool.false_eq_true, decide_true, decide_false, decide_eq_true_eq, decide_eq_false_iff_not, ne_eq, not_true_eq_false, not_false_eq_true, Bool.not_eq_true', Bool.not_eq_false', beq_self_eq_true, Bool.not_true, Bool.not_false, List.getElem?_toArray, List.getElem?_cons_zero, List.getElem?_cons_succ, h2, h3, h16, h17, h18, kp, kk]
      refine (ih m (Nat.lt_succ_self m) V (bx q _ :: L) ns[k] (op ++ [name]) fp w o1 zk hfr' (hall _ (List.getElem_mem hltk)) (hchild _ (List.getElem_mem hltk)) hI.1 hI.2 l).mono ?_
      rintro r V2 ⟨fp2, l⟩
      simp (disch := omega) only [↓stp, vls, inf, frs, mark_eq, ↓reduceIte, Nat.reduceEqDiff, ite_tt, ite_ff, eq_self, and_true, true_and, and_self, implies_true, Bool.true_eq_false, Bool.false_eq_true, decide_true, decide_false, decide_eq_true_eq, decide_eq_false_iff_not, ne_eq, not_true_eq_false, not_false_eq_true, Bool.not_eq_true', Bool.not_eq_false', beq_self_eq_true, Bool.not_true, Bool.not_false, List.getElem?_toArray, List.getElem?_cons_zero, List.getElem?_cons_succ, h2, h3, h16, h17, h18]
      refine (contains_str_c V2 _ _ _ (OSl.toS (show OSl 9 strO V2 fp2 r _ from l.at (i := 0) rfl))).mono ?_
      rintro _ V2 ⟨rfl, rfl⟩
      simp (disch := omega) only [↓stp, vls, inf, frs, mark_eq, ↓reduceIte, Nat.reduceEqDiff, ite_tt, ite_ff, eq_self, and_true, true_and, and_self, implies_true, Bool.true_eq_false, Bool.false_eq_true, decide_true, decide_false, decide_eq_true_eq, decide_eq_false_iff_not, ne_eq, not_true_eq_false, not_false_eq_true, Bool.not_eq_true', Bool.not_eq_false', beq_self_eq_true, Bool.not_true, Bool.not_false, List.getElem?_toArray, List.getElem?_cons_zero, List.getElem?_cons_succ, h2, h3, h16, h17, h18]
      refine ⟨fun e5 => ?_, fun e5 => ?_⟩ <;> simp (disch := omega) only [↓stp, vls, inf, frs, mark_eq, ↓reduceIte, Nat.reduceEqDiff, ite_tt, ite_ff, eq_self, and_true, true_and, and_self, implies_true, Bool.true_eq_false, Bool.false_eq_true, decide_true, decide_false, decide_eq_true_eq, decide_eq_false_iff_not, ne_eq, not_true_eq_false, not_false_eq_true, Bool.not_eq_true', Bool.not_eq_false', beq_self_eq_true, Bool.not_true, Bool.not_false, List.getElem?_toArray, List.getElem?_cons_zero, List.getElem?_cons_succ, h2, h3, h16, h17, h18]
      · refine led_lit li31 (by omega) rfl (fun p hp => by rcases List.mem_singleton.1 hp with rfl; exact ⟨rfl, rfl⟩) l fun bl V3 _ l => ?_
        simp (disch := omega) only [↓stp, vls, inf, frs, mark_eq, ↓reduceIte, Nat.reduceEqDiff, ite_tt, ite_ff, eq_self, and_true, true_and, and_self, implies_true, Bool.true_eq_false, Bool.false_eq_true, decide_true, decide_false, decide_eq_true_eq, decide_eq_false_iff_not, ne_eq, not_true_eq_false, not_false_eq_true, Bool.not_eq_true', Bool.not_eq_false', beq_self_eq_true, Bool.not_true, Bool.not_false, List.getElem?_toArray, List.getElem?_cons_zero, List.getElem?_cons_succ, h2, h3, h16, h17, h18]
        refine led_app (O := strO) ap31_31 (by decide) l (i := 1) rfl (l.src1 (S := strS) (j := 0) rfl ⟨rfl, zk⟩) (by rw [List.length_singleton]; have := hN2.1.len; omega) fun fp2 w2 V4 _ l => ?_
        simp (disch := omega) only [↓stp, vls, inf, frs, mark_eq, ↓reduceIte, Nat.reduceEqDiff, ite_tt, ite_ff, eq_self, and_true, true_and, and_self, implies_true, Bool.true_eq_false, Bool.false_eq_true, decide_true, decide_false, decide_eq_true_eq, decide_eq_false_iff_not, ne_eq, not_true_eq_false, not_false_eq_true, Bool.not_eq_true', Bool.not_eq_false', beq_self_eq_true, Bool.not_true, Bool.not_false, List.getElem?_toArray, List.getElem?_cons_zero, List.getElem?_cons_succ, h2, h3, h16, h17, h18]
        exact ⟨_, by omega, k + 1, _, _, by omega, rfl, by rw [hst, addO, if_neg e5]; exact l.tail, rfl, rfl⟩
      · exact ⟨_, by omega, k + 1, _, _, by omega, rfl, by rw [hst, addO, if_pos e5]; exact l, rfl, rfl⟩
    · rw [List.take_of_length_le (by omega)] at l
      simp (disch := omega) only [↓stp, vls, inf, frs, mark_eq, ↓reduceIte, Nat.reduceEqDiff, ite_tt, ite_ff, eq_self, and_true, true_and, and_self, implies_true, Bool.true_eq_false, Bool.false_eq_true, decide_true, decide_false, decide_eq_true_eq, decide_eq_false_iff_not, ne_eq, not_true_eq_false, not_false_eq_true, Bool.not_eq_true', Bool.not_eq_false', beq_self_eq_true, Bool.not_true, Bool.not_false, List.getElem?_toArray, List.getElem?_cons_zero, List.getElem?_cons_succ, h2, h3, h16, h17, h18]
      exact ⟨fp, l.sub (.cons_cons _ (.cons _ (List.Sublist.refl L)))⟩

/-- What is needed. -/
noncomputable def needsOfR (x : SuiteD) (name : ByteArray) : List ByteArray := if validB x = true ∧ 0 ≤ fAt x.1 name then needsR x.1 name else []
theorem needsOfR_len (x : SuiteD) (name : ByteArray) : (needsOfR x name).length ≤ 6 := by
  unfold needsOfR
  split
  · rename_i h
    have h1 := (needsR_names (fs := x.1) (a := name)).len
    have h2 := (validB_parts h.1).1.fl
    omega
  · simp

theorem impl_NeedsOf_c (A : View) (d : List Value) (x : SuiteD) (name : ByteArray) (h : suiteS.rel A x d) (hz : name.size ≤ 140737488355328) (hs0 : x.1.length ≤ 1048576) (hs1 : x.2.1.length ≤ 1048576) : ACalls Try.prog 25 #[.agg d.toArray, .string name] A fun r A' => NewSl 9 strO A r A' (needsOfR x name) := by
  obtain ⟨u0, u1, rfl, g0, g1⟩ := suiteS_open h
  obtain ⟨a0, c0, rfl, _, _⟩ := g0.slice
  obtain ⟨a1, c1, rfl, _, _⟩ := g1.slice
  refine acalls Try.func25 rfl (by kernel_rfl) ?_
  simp (disch := omega) only [↓stp, vls, inf, frs, mark_eq, ↓reduceIte, Nat.reduceEqDiff, ite_tt, ite_ff, eq_self, and_true, true_and, and_self, implies_true, Bool.true_eq_false, Bool.false_eq_true, decide_true, decide_false, decide_eq_true_eq, decide_eq_false_iff_not, ne_eq, not_true_eq_false, not_false_eq_true, Bool.not_eq_true', Bool.not_eq_false', beq_self_eq_true, Bool.not_true, Bool.not_false, List.getElem?_toArray, List.getElem?_cons_zero, List.getElem?_cons_succ]
  refine led_box (Led.nil A) rfl fun q V he l => ?_
  have kp : V.part ⟨q, 0, none⟩ 2 = some _ := l.part (i := 0) rfl rfl
  simp (disch := omega) only [↓stp, vls, inf, frs, mark_eq, ↓reduceIte, Nat.reduceEqDiff, ite_tt, ite_ff, eq_self, and_true, true_and, and_self, implies_true, Bool.true_eq_false, Bool.false_eq_true, decide_true, decide_false, decide_eq_true_eq, decide_eq_false_iff_not, ne_eq, not_true_eq_false, not_false_eq_true, Bool.not_eq_true', Bool.not_eq_false', beq_self_eq_true, Bool.not_true, Bool.not_false, List.getElem?_toArray, List.getElem?_cons_zero, List.getElem?_cons_succ, kp]
  refine (impl_validB_c V _ x (suiteS_mk (g0.mono l.ext) (g1.mono l.ext)) (by omega) (by omega)).mono ?_
  rintro _ V2 ⟨rfl, he2⟩
  replace l := l.step he2
  have kp := he2.part kp
  have k0 := l.cell (i := 0) rfl (o := 0) rfl rfl
  simp (disch := omega) only [↓stp, vls, inf, frs, mark_eq, ↓reduceIte, Nat.reduceEqDiff, ite_tt, ite_ff, eq_self, and_true, true_and, and_self, implies_true, Bool.true_eq_false, Bool.false_eq_true, decide_true, decide_false, decide_eq_true_eq, decide_eq_false_iff_not, ne_eq, not_true_eq_false, not_false_eq_true, Bool.not_eq_true', Bool.not_eq_false', beq_self_eq_true, Bool.not_true, Bool.not_false, List.getElem?_toArray, List.getElem?_cons_zero, List.getElem?_cons_succ, add_at, k0, kp]
  refine ⟨fun e1 => ?_, fun e1 => ?_⟩ <;> simp (disch := omega) only [↓stp, vls, inf, frs, mark_eq, ↓reduceIte, Nat.reduceEqDiff, ite_tt, ite_ff, eq_self, and_true, true_and, and_self, implies_true, Bool.true_eq_false, Bool.false_eq_true, decide_true, decide_false, decide_eq_true_eq, decide_eq_false_iff_not, ne_eq, not_true_eq_false, not_false_eq_true, Bool.not_eq_true', Bool.not_eq_false', beq_self_eq_true, Bool.not_true, Bool.not_false, List.getElem?_toArray, List.getElem?_cons_zero, List.getElem?_cons_succ, e1, add_at, k0, kp]
  · refine (impl_fixtureAt_c V2 _ x _ (suiteS_mk (g0.mono l.ext) (g1.mono l.ext))).mono ?_
    rintro _ V3 ⟨rfl, he3⟩
    replace l := l.step he3
    have kp := he3.part kp
    simp (disch := omega) only [↓stp, vls, inf, frs, mark_eq, ↓reduceIte, Nat.reduceEqDiff, ite_tt, ite_ff, eq_self, and_true, true_and, and_self, implies_true, Bool.true_eq_false, Bool.false_eq_true, decide_true, decide_false, decide_eq_true_eq, decide_eq_false_iff_not, ne_eq, not_true_eq_false, not_false_eq_true, Bool.not_eq_true', Bool.not_eq_false', beq_self_eq_true, Bool.not_true, Bool.not_false, List.getElem?_toArray, List.getElem?_cons_zero, List.getElem?_cons_succ, e1, kp]
    refine ⟨fun e2 => ?_, fun e2 => ?_⟩ <;> simp (disch := omega) only [↓stp, vls, inf, frs, mark_eq, ↓reduceIte, Nat.reduceEqDiff, ite_tt, ite_ff, eq_self, and_true, true_and, and_self, implies_true, Bool.true_eq_false, Bool.false_eq_true, decide_true, decide_false, decide_eq_true_eq, decide_eq_false_iff_not, ne_eq, not_true_eq_false, not_false_eq_true, Bool.not_eq_true', Bool.not_eq_false', beq_self_eq_true, Bool.not_true, Bool.not_false, List.getElem?_toArray, List.getElem?_cons_zero, List.getElem?_cons_succ, kp]
    · rw [needsOfR, if_neg (by omega)]
      exact NewSl.nil l.ext
    · have hF : hasF x.1 name := hasF_idx.2 (by omega)
      rw [needsOfR, if_pos ⟨e1, by omega⟩, ← nOf_needsR (sound_of e1) hF]
      refine (impl_needsOf_c V3 _ x (suiteS_mk (g0.mono l.ext) (g1.mono l.ext)) hs0 (sound_of e1) (fuel x.1) V3 [] name [] [] _ [] hz (fuel_ok _) hF (by intro o ho; cases ho) (by intro o ho; cases ho) ⟨List.nodup_nil, (by intro x hx; cases hx)⟩ (Led.nilO _ _ (Led.nil V3))).mono ?_
      rintro r V3 ⟨fp, l2⟩
      simp (disch := omega) only [↓stp, vls, inf, frs, mark_eq, ↓reduceIte, Nat.reduceEqDiff, ite_tt, ite_ff, eq_self, and_true, true_and, and_self, implies_true, Bool.true_eq_false, Bool.false_eq_true, decide_true, decide_false, decide_eq_true_eq, decide_eq_false_iff_not, ne_eq, not_true_eq_false, not_false_eq_true, Bool.not_eq_true', Bool.not_eq_false', beq_self_eq_true, Bool.not_true, Bool.not_false, List.getElem?_toArray, List.getElem?_cons_zero, List.getElem?_cons_succ]
      exact ⟨fp, l2.base l.ext⟩
  · rw [needsOfR, if_neg (by rw [e1]; simp)]
    exact NewSl.nil l.ext

end Go.Proofs.Ytjojofnkgeiadaa

