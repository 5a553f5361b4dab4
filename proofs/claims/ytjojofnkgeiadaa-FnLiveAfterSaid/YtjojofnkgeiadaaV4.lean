/- The reference's search among fixtures. -/
import Derived.Test.YtjojofnkgeiadaaN1
set_option maxHeartbeats 4000000
set_option synthInstance.maxHeartbeats 400000
set_option synthInstance.maxSize 4096
set_option linter.unusedSimpArgs false
set_option linter.unusedVariables false
namespace Go.Proofs.Ytjojofnkgeiadaa

set_option maxRecDepth 100000

section
variable {fs : List FixtureD}
/-- A list of different fixtures' names. -/
def Names (fs : List FixtureD) (xs : List ByteArray) : Prop := xs.Nodup ∧ ∀ x, x ∈ xs → hasF fs x
theorem Names.len {xs : List ByteArray} (h : Names fs xs) : xs.length ≤ fs.length := by
  have := nodup_len (U := fs.map fun f : FixtureD => f.1) h.1 h.2
  rwa [List.length_map] at this
theorem Names.snoc {xs : List ByteArray} {a : ByteArray} (h : Names fs xs) (ha : hasF fs a) (hn : a ∉ xs) : Names fs (xs ++ [a]) := by
  refine ⟨?_, fun x hx => ?_⟩
  · rw [List.nodup_append]
    exact ⟨h.1, by simp, fun x hx y hy => by rw [List.mem_singleton.1 hy]; rintro rfl; exact hn hx⟩
  · rcases List.mem_append.1 hx with hx | hx
    · exact h.2 x hx
    · rw [List.mem_singleton.1 hx]; exact ha
/-- What is open is not added. -/
theorem rchF_open (n : Nat) : ∀ (a : ByteArray) (op out : List ByteArray) (x : ByteArray), x ∈ op → x ∈ rchF fs n a op out → x ∈ out := by
  induction n with
  | zero => intro a op out x _ h; exact h
  | succ n ih =>
    intro a op out x hx h
    unfold rchF at h
    split at h
    · rename_i hc
      rcases List.mem_append.1 h with h | h
      · have key := foldl_inv (xs := needsAt fs a) (f := fun out b => rchF fs n b (op ++ [a]) out) (b := out) (I := fun o => x ∈ o → x ∈ out) (fun o b _ ho h2 => ho (ih b (op ++ [a]) o x (List.mem_append_left _ hx) h2)) id
        exact key h
      · rw [List.mem_singleton.1 h] at hx
        exact absurd hx hc.2.2
    · exact h
theorem rchF_names (n : Nat) : ∀ (a : ByteArray) (op out : List ByteArray), Names fs out → Names fs (rchF fs n a op out) := by
  induction n with
  | zero => intro a op out h; exact h
  | succ n ih =>
    intro a op out h
    unfold rchF
    split
    · rename_i hc
      have key := foldl_inv (xs := needsAt fs a) (f := fun out b => rchF fs n b (op ++ [a]) out) (b := out) (I := fun o => Names fs o ∧ (a ∈ o → a ∈ out)) (fun o b _ ho => ⟨ih b (op ++ [a]) o ho.1, fun h2 => ho.2 (rchF_open n b (op ++ [a]) o a (List.mem_append_right _ (List.mem_singleton.2 rfl)) h2)⟩) ⟨h, id⟩
      exact key.1.snoc hc.1 fun h2 => hc.2.1 (key.2 h2)
    · exact h
end

/-- The needs of a fixture in its place. -/
theorem needsAt_idx {fs : List FixtureD} {a : ByteArray} (h : 0 ≤ fAt fs a) : ∃ i : Nat, fAt fs a = i ∧ ∃ hi : i < fs.length, needsAt fs a = fs[i].2.2.1 ∧ fs[i].1 = a := by
  obtain ⟨i, h1, hi, h2, h3⟩ := idxI_lt h
  exact ⟨i, h1, hi, by unfold needsAt; rw [h3]; rfl, of_decide_eq_true h2⟩
theorem hasF_idx {fs : List FixtureD} {a : ByteArray} : hasF fs a ↔ 0 ≤ fAt fs a := fAt_in.symm

theorem rchF_stop {fs : List FixtureD} (n : Nat) {a : ByteArray} {op out : List ByteArray} (h : ¬ (hasF fs a ∧ a ∉ out ∧ a ∉ op)) : rchF fs n a op out = out := by
  cases n with
  | zero => rfl
  | succ n => unfold rchF; rw [if_neg h]

theorem spec_reach_c (B : View) (d : List Value) (x : SuiteD) (hx : suiteS.rel B x d) (hsm : x.1.length ≤ 1048576) : ∀ (n : Nat) (A : View) (L : List It) (name : ByteArray) (vo : Value) (op : List ByteArray) (fp : List Nat) (w : Value) (out : List ByteArray), name.size ≤ 140737488355328 →
    (∀ V fp w out, Led B (osl 9 strO fp w out :: L) V → Sl strS V vo op) → freeN x.1 op ≤ n → Names x.1 op → Names x.1 out → Led B (osl 9 strO fp w out :: L) A →
    ACalls Try.prog 108 #[.agg d.toArray, .string name, vo, w] A fun r V => ∃ fp', Led B (osl 9 strO fp' r (rchF x.1 n name op out) :: L) V := by
  obtain ⟨u0, u1, rfl, g0, g1⟩ := suiteS_open hx
  obtain ⟨a0, c0, rfl, _, _⟩ := g0.slice
  obtain ⟨a1, c1, rfl, _, _⟩ := g1.slice
  intro n
  induction n using Nat.strongRecOn with
  | _ n ih =>
    intro A L name vo op fp w out hz hop hfr hnop hnout l
    obtain ⟨ao, co, rfl, hco, hlo⟩ := (hop A fp w out l).slice
    obtain ⟨aw, cw, rfl, hcw, hlw⟩ := (show Sl strS A w out from OSl.toS (show OSl 9 strO A fp w out from l.at (i := 0) rfl)).slice
    refine acalls Try.func108 rfl (by kernel_rfl) ?_
    simp (disch := omega) only [↓stp, vls, inf, frs, mark_eq, ↓reduceIte, Nat.reduceEqDiff, ite_tt, ite_ff, eq_self, and_true, true_and, and_self, implies_true, Bool.true_eq_false, Bool.false_eq_true, decide_true, decide_false, decide_eq_true_eq, decide_eq_false_iff_not, ne_eq, not_true_eq_false, not_false_eq_true, Bool.not_eq_true', Bool.not_eq_false', beq_self_eq_true, Bool.not_true, Bool.not_false, List.getElem?_toArray, List.getElem?_cons_zero, List.getElem?_cons_succ]
    refine led_box l rfl fun q V he l => ?_
    have k0 := l.cell (i := 0) rfl (o := 0) rfl rfl
    have k1 := l.part (i := 0) rfl rfl
    have hOut : Sl strS V (.slice aw out.length cw) out := OSl.toS (show OSl 9 strO V fp _ out from l.at (i := 1) rfl)
    have hOp : Sl strS V (.slice ao op.length co) op := hop V _ _ _ l.tail
    simp (disch := omega) only [↓stp, vls, inf, frs, mark_eq, ↓reduceIte, Nat.reduceEqDiff, ite_tt, ite_ff, eq_self, and_true, true_and, and_self, implies_true, Bool.true_eq_false, Bool.false_eq_true, decide_true, decide_false, decide_eq_true_eq, decide_eq_false_iff_not, ne_eq, not_true_eq_false, not_false_eq_true, Bool.not_eq_true', Bool.not_eq_false', beq_self_eq_true, Bool.not_true, Bool.not_false, List.getElem?_toArray, List.getElem?_cons_zero, List.getElem?_cons_succ, add_at, k0]
    refine (spec_fixtureAt_c V _ x.1 name (g0.mono l.ext)).mono ?_
    rintro _ V ⟨rfl, rfl⟩
    simp (disch := omega) only [↓stp, vls, inf, frs, mark_eq, ↓reduceIte, Nat.reduceEqDiff, ite_tt, ite_ff, eq_self, and_true, true_and, and_self, implies_true, Bool.true_eq_false, Bool.false_eq_true, decide_true, decide_false, decide_eq_true_eq, decide_eq_false_iff_not, ne_eq, not_true_eq_false, not_false_eq_true, Bool.not_eq_true', Bool.not_eq_false', beq_self_eq_true, Bool.not_true, Bool.not_false, List.getElem?_toArray, List.getElem?_cons_zero, List.getElem?_cons_succ]
    refine ⟨fun e1 => ?_, fun e1 => ?_⟩ <;> simp (disch := omega) only [↓stp, vls, inf, frs, mark_eq, ↓reduceIte, Nat.reduceEqDiff, ite_tt, ite_ff, eq_self, and_true, true_and, and_self, implies_true, Bool.true_eq_false, Bool.false_eq_true, decide_true, decide_false, decide_eq_true_eq, decide_eq_false_iff_not, ne_eq, not_true_eq_false, not_false_eq_true, Bool.not_eq_true', Bool.not_eq_false', beq_self_eq_true, Bool.not_true, Bool.not_false, List.getElem?_toArray, List.getElem?_cons_zero, List.getElem?_cons_succ, e1]
    · refine (spec_hasText_c V _ out name hOut).mono ?_
      rintro _ V ⟨rfl, rfl⟩
      simp (disch := omega) only [↓stp, vls, inf, frs, mark_eq, ↓reduceIte, Nat.reduceEqDiff, ite_tt, ite_ff, eq_self, and_true, true_and, and_self, implies_true, Bool.true_eq_false, Bool.false_eq_true, decide_true, decide_false, decide_eq_true_eq, decide_eq_false_iff_not, ne_eq, not_true_eq_false, not_false_eq_true, Bool.not_eq_true', Bool.not_eq_false', beq_self_eq_true, Bool.not_true, Bool.not_false, List.getElem?_toArray, List.getElem?_cons_zero, List.getElem?_cons_succ, e1]
      refine ⟨fun e2 => ?_, fun e2 => ?_⟩ <;> simp (disch := omega) only [↓stp, vls, inf, frs, mark_eq, ↓reduceIte, Nat.reduceEqDiff, ite_tt, ite_ff, eq_self, and_true, true_and, and_self, implies_true, Bool.true_eq_false, Bool.false_eq_true, decide_true, decide_false, decide_eq_true_eq, decide_eq_false_iff_not, ne_eq, not_true_eq_false, not_false_eq_true, Bool.not_eq_true', Bool.not_eq_false', beq_self_eq_true, Bool.not_true, Bool.not_false, List.getElem?_toArray, List.getElem?_cons_zero, List.getElem?_cons_succ, e1, e2]
      · refine (spec_hasText_c V _ op name hOp).mono ?_
        rintro _ V ⟨rfl, rfl⟩
        simp (disch := omega) only [↓stp, vls, inf, frs, mark_eq, ↓reduceIte, Nat.reduceEqDiff, ite_tt, ite_ff, eq_self, and_true, true_and, and_self, implies_true, Bool.true_eq_false, Bool.false_eq_true, decide_true, decide_false, decide_eq_true_eq, decide_eq_false_iff_not, ne_eq, not_true_eq_false, not_false_eq_true, Bool.not_eq_true', Bool.not_eq_false', beq_self_eq_true, Bool.not_true, Bool.not_false, List.getElem?_toArray, List.getElem?_cons_zero, List.getElem?_cons_succ, e1, e2]
        refine ⟨fun e3 => ?_, fun e3 => ?_⟩ <;> simp (disch := omega) only [↓stp, vls, inf, frs, mark_eq, ↓reduceIte, Nat.reduceEqDiff, ite_tt, ite_ff, eq_self, and_true, true_and, and_self, implies_true, Bool.true_eq_false, Bool.false_eq_true, decide_true, decide_false, decide_eq_true_eq, decide_eq_false_iff_not, ne_eq, not_true_eq_false, not_false_eq_true, Bool.not_eq_true', Bool.not_eq_false', beq_self_eq_true, Bool.not_true, Bool.not_false, List.getElem?_toArray, List.getElem?_cons_zero, List.getElem?_cons_succ, add_at, k0]
        · rw [rchF_stop n fun hc => hc.2.2 e3]
          exact ⟨fp, l.tail⟩
        · have hF : hasF x.1 name := hasF_idx.2 (by omega)
          obtain ⟨m, rfl⟩ : ∃ m, n = m + 1 := ⟨n - 1, by have := freeN_pos hF e3; omega⟩
          obtain ⟨i, hi, hlt, hnd, hnm⟩ := needsAt_idx (fs := x.1) (a := name) (by omega)
          have hrw : rchF x.1 (m + 1) name op out = (needsAt x.1 name).foldl (fun o b => rchF x.1 m b (op ++ [name]) o) out ++ [name] := by
            rw [rchF, if_pos ⟨hF, e2, e3⟩]
          rw [hrw, hnd, hi]
          obtain ⟨ad, u2, rfl, hclB, z1, z2, f2⟩ := g0.fixture hlt
          obtain ⟨a2, c2, rfl, hc2, hl2⟩ := f2.slice
          have hcl := l.ext.part hclB
          have k2 := View.part_cell hcl (j := 2) (v := .slice a2 (x.1[i]).2.2.1.length c2) rfl
          have hnop' := hnop.snoc hF e3
          have hfr' : freeN x.1 (op ++ [name]) ≤ m := by have := freeN_lt hF e3; omega
          generalize hns : (x.1[i]).2.2.1 = ns at f2 k2 hcl hclB hc2 hl2
          simp (disch := omega) only [↓stp, vls, inf, frs, mark_eq, ↓reduceIte, Nat.reduceEqDiff, ite_tt, ite_ff, eq_self, and_true, true_and, and_self, implies_true, Bool.true_eq_false, Bool.false_eq_true, decide_true, decide_false, decide_eq_true_eq, decide_eq_false_iff_not, ne_eq, not_true_eq_false, not_false_eq_true, Bool.not_eq_true', Bool.not_eq_false', beq_self_eq_true, Bool.not_true, Bool.not_false, List.getElem?_toArray, List.getElem?_cons_zero, List.getElem?_cons_succ, k2]
          refine aloop (fun d fr V => ∃ (k : Nat) (fp : List Nat) (w : Value), k ≤ ns.length ∧ d = ns.length - k ∧ Led B (osl 9 strO fp w ((ns.take k).foldl (fun o b => rchF x.1 m b (op ++ [name]) o) out) :: bx q ⟨26, [.slice (some ad) x.1.length c0, .slice a1 x.2.1.length c1], 2, true⟩ :: L) V ∧ fr 1 = .string name ∧ fr 2 = .slice ao op.length co ∧ fr 3 = w ∧ fr 4 = .pointer (some ⟨q, 0, none⟩) ∧ fr 10 = .slice a2 ns.length c2 ∧ fr 11 = .int .i64 k) ns.length ⟨0, _, _, by omega, by omega, l.perm (List.Perm.swap ..), by rfl, by rfl, by rfl, by rfl, by rfl, by rfl⟩ ?_
          clear l hOut hOp k0 k1 hcl k2
          rintro d fr V ⟨k, fp, w, hk, rfl, l, h1, h2, h3, h4, h10, h11⟩
          simp (disch := omega) only [↓stp, vls, inf, frs, mark_eq, ↓reduceIte, Nat.reduceEqDiff, ite_tt, ite_ff, eq_self, and_true, true_and, and_self, implies_true, Bool.true_eq_false, Bool.false_eq_true, decide_true, decide_false, decide_eq_true_eq, decide_eq_false_iff_not, ne_eq, not_true_eq_false, not_false_eq_true, Bool.not_eq_true', Bool.not_eq_false', beq_self_eq_true, Bool.not_true, Bool.not_false, List.getElem?_toArray, List.getElem?_cons_zero, List.getElem?_cons_succ, h1, h2, h3, h4, h10, h11]
          have hNo : Names x.1 ((ns.take k).foldl (fun o b => rchF x.1 m b (op ++ [name]) o) out) := foldl_inv (I := Names x.1) (fun o b _ ho => rchF_names m b (op ++ [name]) o ho) hnout
          refine ⟨fun e => ?_, fun e => ?_⟩
          · have hltk : k < ns.length := by omega
            obtain ⟨ad2, rfl, kk, zk⟩ := (f2.mono l.ext).str hltk
            have k0 := l.part (i := 1) rfl rfl
            have hpart : V.part ⟨q, 0, none⟩ 2 = some [.slice (some ad) x.1.length c0, .slice a1 x.2.1.length c1] := k0
            simp (disch := omega) only [↓stp, vls, inf, frs, mark_eq, ↓reduceIte, Nat.reduceEqDiff, ite_tt, ite_ff, eq_self, and_true, true_and, and_self, implies_true, Bool.true_eq_false, Bool.false_eq_true, decide_true, decide_false, decide_eq_true_eq, decide_eq_false_iff_not, ne_eq, not_true_eq_false, not_false_eq_true, Bool.not_eq_true', Bool.not_eq_false', beq_self_eq_true, Bool.not_true, Bool.not_false, List.getElem?_toArray, List.getElem?_cons_zero, List.getElem?_cons_succ, h1, h2, h3, h4, h10, h11]
            refine adraw_items [.l 0 true, .q 1, .q 2, .q 3, .l 4 true, .q 6, .q 8, .q 11, .c 5 [], .c 7 [0, 4], .c 9 [], .c 10 [0, 4], .c 12 [], .q 13] (by kernel_rfl) (by kernel_rfl) ?_
            simp (disch := omega) only [↓stp, ↓pln, plv, nilOk, Nat.reduceBEq, Bool.or_false, Bool.or_true, Bool.false_or, Bool.true_or, vls, inf, frs, mark_eq, ↓reduceIte, Nat.reduceEqDiff, ite_tt, ite_ff, eq_self, and_true, true_and, and_self, implies_true, Bool.true_eq_false, Bool.false_eq_true, decide_true, decide_false, decide_eq_true_eq, decide_eq_false_iff_not, ne_eq, not_true_eq_false, not_false_eq_true, Bool.not_eq_true', Bool.not_eq_false', beq_self_eq_true, Bool.not_true, Bool.not_false, List.getElem?_toArray, List.getElem?_cons_zero, List.getElem?_cons_succ, h1, h2, h3, h4, h10, h11, hpart, kk]
            have hkk : ∀ V', Ext B V' → V'.cell (ad2.add k) = some (.string ns[k]) := fun V' hE => by
              obtain ⟨_, hq, kx, _⟩ := (f2.mono hE).str hltk
              obtain rfl := Option.some.inj hq
              exact kx
            refine led_lit0 (O := strO) li31 l fun b1 V1 _ l => ?_
            have kk := hkk _ l.ext
            have hpart : V1.part ⟨q, 0, none⟩ 2 = some [.slice (some ad) x.1.length c0, .slice a1 x.2.1.length c1] := l.part (i := 2) rfl rfl
            simp (disch := omega) only [↓stp, ↓pln, plv, nilOk, Nat.reduceBEq, Bool.or_false, Bool.or_true, Bool.false_or, Bool.true_or, vls, inf, frs, mark_eq, ↓reduceIte, Nat.reduceEqDiff, ite_tt, ite_ff, eq_self, and_true, true_and, and_self, implies_true, Bool.true_eq_false, Bool.false_eq_true, decide_true, decide_false, decide_eq_true_eq, decide_eq_false_iff_not, ne_eq, not_true_eq_false, not_false_eq_true, Bool.not_eq_true', Bool.not_eq_false', beq_self_eq_true, Bool.not_true, Bool.not_false, List.getElem?_toArray, List.getElem?_cons_zero, List.getElem?_cons_succ, h1, h2, h3, h4, h10, h11, hpart, kk, false_implies]
            refine led_app (O := strO) ap31_31 (by decide) l (i := 0) rfl (Sl.srcOf (hop V1 _ _ _ (l.sub (.cons _ (.cons_cons _ (.cons _ (List.Sublist.refl L))))))) (by rw [List.length_nil]; have := hnop.len; omega) fun fp1 w1 V2 _ l => ?_
            have kk := hkk _ l.ext
            have hpart : V2.part ⟨q, 0, none⟩ 2 = some [.slice (some ad) x.1.length c0, .slice a1 x.2.1.length c1] := l.part (i := 2) rfl rfl
            simp (disch := omega) only [↓stp, ↓pln, plv, nilOk, Nat.reduceBEq, Bool.or_false, Bool.or_true, Bool.false_or, Bool.true_or, vls, inf, frs, mark_eq, ↓reduceIte, Nat.reduceEqDiff, ite_tt, ite_ff, eq_self, and_true, true_and, and_self, implies_true, Bool.true_eq_false, Bool.false_eq_true, decide_true, decide_false, decide_eq_true_eq, decide_eq_false_iff_not, ne_eq, not_true_eq_false, not_false_eq_true, Bool.not_eq_true', Bool.not_eq_false', beq_self_eq_true, Bool.not_true, Bool.not_false, List.getElem?_toArray, List.getElem?_cons_zero, List.getElem?_cons_succ, h1, h2, h3, h4, h10, h11, hpart, kk, false_implies]
            refine led_lit li31 (by omega) rfl (fun p hp => by rcases List.mem_singleton.1 hp with rfl; exact ⟨rfl, rfl⟩) l fun bl V3 _ l => ?_
            have kk := hkk _ l.ext
            have hpart : V3.part ⟨q, 0, none⟩ 2 = some [.slice (some ad) x.1.length c0, .slice a1 x.2.1.length c1] := l.part (i := 3) rfl rfl
            simp (disch := omega) only [↓stp, ↓pln, plv, nilOk, Nat.reduceBEq, Bool.or_false, Bool.or_true, Bool.false_or, Bool.true_or, vls, inf, frs, mark_eq, ↓reduceIte, Nat.reduceEqDiff, ite_tt, ite_ff, eq_self, and_true, true_and, and_self, implies_true, Bool.true_eq_false, Bool.false_eq_true, decide_true, decide_false, decide_eq_true_eq, decide_eq_false_iff_not, ne_eq, not_true_eq_false, not_false_eq_true, Bool.not_eq_true', Bool.not_eq_false', beq_self_eq_true, Bool.not_true, Bool.not_false, List.getElem?_toArray, List.getElem?_cons_zero, List.getElem?_cons_succ, h1, h2, h3, h4, h10, h11, hpart, kk, false_implies]
            refine led_app (O := strO) ap31_31 (by decide) l (i := 1) rfl (l.src1 (S := strS) (j := 0) rfl ⟨rfl, hz⟩) (by rw [List.length_singleton, List.nil_append]; have := hnop.len; omega) fun fp2 w2 V4 _ l => ?_
            have kk := hkk _ l.ext
            have hpart : V4.part ⟨q, 0, none⟩ 2 = some [.slice (some ad) x.1.length c0, .slice a1 x.2.1.length c1] := l.part (i := 3) rfl rfl
            simp (disch := omega) only [↓stp, ↓pln, plv, nilOk, Nat.reduceBEq, Bool.or_false, Bool.or_true, Bool.false_or, Bool.true_or, vls, inf, frs, mark_eq, ↓reduceIte, Nat.reduceEqDiff, ite_tt, ite_ff, eq_self, and_true, true_and, and_self, implies_true, Bool.true_eq_false, Bool.false_eq_true, decide_true, decide_false, decide_eq_true_eq, decide_eq_false_iff_not, ne_eq, not_true_eq_false, not_false_eq_true, Bool.not_eq_true', Bool.not_eq_false', beq_self_eq_true, Bool.not_true, Bool.not_false, List.getElem?_toArray, List.getElem?_cons_zero, List.getElem?_cons_succ, h1, h2, h3, h4, h10, h11, hpart, kk, false_implies]
            refine (ih m (Nat.lt_succ_self m) V4 (bx bl _ :: osl 9 strO fp2 w2 (([] ++ op) ++ [name]) :: bx q _ :: L) ns[k] w2 (op ++ [name]) fp w _ zk (fun V' fp' w' o' l' => OSl.toS (show OSl 9 strO V' fp2 w2 (op ++ [name]) from by have := l'.at (i := 2) rfl; rw [List.nil_append] at this; exact this)) hfr' hnop' hNo (l.perm (List.perm_middle (l₁ := [_, _])).symm)).mono ?_
            rintro r V5 ⟨fp5, l⟩
            have kk := hkk _ l.ext
            have hpart : V5.part ⟨q, 0, none⟩ 2 = some [.slice (some ad) x.1.length c0, .slice a1 x.2.1.length c1] := l.part (i := 3) rfl rfl
            simp (disch := omega) only [↓stp, ↓pln, plv, nilOk, Nat.reduceBEq, Bool.or_false, Bool.or_true, Bool.false_or, Bool.true_or, vls, inf, frs, mark_eq, ↓reduceIte, Nat.reduceEqDiff, ite_tt, ite_ff, eq_self, and_true, true_and, and_self, implies_true, Bool.true_eq_false, Bool.false_eq_true, decide_true, decide_false, decide_eq_true_eq, decide_eq_false_iff_not, ne_eq, not_true_eq_false, not_false_eq_true, Bool.not_eq_true', Bool.not_eq_false', beq_self_eq_true, Bool.not_true, Bool.not_false, List.getElem?_toArray, List.getElem?_cons_zero, List.getElem?_cons_succ, h1, h2, h3, h4, h10, h11, hpart, kk, false_implies]
            have l2 : Led B (osl 9 strO fp5 r ((ns.take (k + 1)).foldl (fun o b => rchF x.1 m b (op ++ [name]) o) out) :: bx q ⟨26, [.slice (some ad) x.1.length c0, .slice a1 x.2.1.length c1], 2, true⟩ :: L) V5 := by
              rw [List.take_succ_eq_append_getElem hltk, List.foldl_append]
              exact l.sub (.cons_cons _ (.cons _ (.cons _ (.cons_cons _ (List.Sublist.refl L)))))
            exact ⟨_, by omega, k + 1, fp5, r, by omega, rfl, l2, rfl, rfl⟩
          · simp (disch := omega) only [↓stp, vls, inf, frs, mark_eq, ↓reduceIte, Nat.reduceEqDiff, ite_tt, ite_ff, eq_self, and_true, true_and, and_self, implies_true, Bool.true_eq_false, Bool.false_eq_true, decide_true, decide_false, decide_eq_true_eq, decide_eq_false_iff_not, ne_eq, not_true_eq_false, not_false_eq_true, Bool.not_eq_true', Bool.not_eq_false', beq_self_eq_true, Bool.not_true, Bool.not_false, List.getElem?_toArray, List.getElem?_cons_zero, List.getElem?_cons_succ, h1, h2, h3, h4, h10, h11]
            refine led_lit li31 (by omega) rfl (fun p hp => by rcases List.mem_singleton.1 hp with rfl; exact ⟨rfl, rfl⟩) l fun bl V6 _ l => ?_
            simp (disch := omega) only [↓stp, vls, inf, frs, mark_eq, ↓reduceIte, Nat.reduceEqDiff, ite_tt, ite_ff, eq_self, and_true, true_and, and_self, implies_true, Bool.true_eq_false, Bool.false_eq_true, decide_true, decide_false, decide_eq_true_eq, decide_eq_false_iff_not, ne_eq, not_true_eq_false, not_false_eq_true, Bool.not_eq_true', Bool.not_eq_false', beq_self_eq_true, Bool.not_true, Bool.not_false, List.getElem?_toArray, List.getElem?_cons_zero, List.getElem?_cons_succ, h1, h2, h3, h4, h10, h11]
            refine led_app (O := strO) ap31_31 (by decide) l (i := 1) rfl (l.src1 (S := strS) (j := 0) rfl ⟨rfl, hz⟩) (by rw [List.length_singleton]; have := hNo.len; omega) fun fp2 w2 V7 _ l => ?_
            simp (disch := omega) only [↓stp, vls, inf, frs, mark_eq, ↓reduceIte, Nat.reduceEqDiff, ite_tt, ite_ff, eq_self, and_true, true_and, and_self, implies_true, Bool.true_eq_false, Bool.false_eq_true, decide_true, decide_false, decide_eq_true_eq, decide_eq_false_iff_not, ne_eq, not_true_eq_false, not_false_eq_true, Bool.not_eq_true', Bool.not_eq_false', beq_self_eq_true, Bool.not_true, Bool.not_false, List.getElem?_toArray, List.getElem?_cons_zero, List.getElem?_cons_succ, h1, h2, h3, h4, h10, h11]
            rw [List.take_of_length_le (by omega)] at l
            exact ⟨fp2, l.sub (.cons _ (.cons_cons _ (.cons _ (List.Sublist.refl L))))⟩
      · rw [rchF_stop n fun hc => hc.2.1 e2]
        exact ⟨fp, l.tail⟩
    · rw [rchF_stop n fun hc => by have := hasF_idx.1 hc.1; omega]
      exact ⟨fp, l.tail⟩

end Go.Proofs.Ytjojofnkgeiadaa

