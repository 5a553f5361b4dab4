/- Tests sorted: the program and the reference. -/
import Derived.Test.YtbddklkfekiaeaaRT
import Derived.Test.YtbddklkfekiaeaaUD
set_option maxHeartbeats 4000000
set_option synthInstance.maxHeartbeats 400000
set_option synthInstance.maxSize 4096
set_option linter.unusedSimpArgs false
set_option linter.unusedVariables false
namespace Go.Proofs.Ytbddklkfekiaeaa

set_option maxRecDepth 100000

noncomputable def sortR (ts : List TestD) : List TestD := if testsB ts then ssort (fun t => rankI (ts.map idD) (idD t)) ts else []
def idZ (z : List Value) : ByteArray := match z with
  | .string a :: .string b :: _ => a ++ ⟨#[46]⟩ ++ b
  | _ => ⟨#[]⟩
theorem idZ_of {A : View} {fp : List Nat} {x : TestD} {z : List Value} (h : testO.rel A fp x z) : idZ z = idD x := by
  obtain ⟨_, _, _, _, _, rfl, _, _, _, _⟩ := testO_open h
  rfl
theorem ps_key {V : View} {ps : List (Pc TestD)} (h : ∀ p, p ∈ ps → testO.rel V p.2.2 p.1 p.2.1) (ids : List ByteArray) : (ssort (fun p : Pc TestD => rankI ids (idZ p.2.1)) ps).map (·.1) = ssort (fun t => rankI ids (idD t)) (ps.map (·.1)) := by
  rw [ssort_congr (g := fun p => rankI ids (idD p.1)) ps (fun p hp => by rw [idZ_of (h p hp)])]
  exact ssort_map (f := fun t => rankI ids (idD t)) (h := fun p : Pc TestD => p.1) ps
theorem ps_raw {ps : List (Pc TestD)} (ids : List ByteArray) : (ssort (fun p : Pc TestD => rankI ids (idZ p.2.1)) ps).map (·.2.1) = ssort (fun z => rankI ids (idZ z)) (ps.map (·.2.1)) :=
  ssort_map (f := fun z => rankI ids (idZ z)) (h := fun p : Pc TestD => p.2.1) ps
theorem Led.plCons {α : Type} {O : OwnS α} {A V : View} {L : List It} {it0 : It} {fd : List Nat} {x : α} {cells : List Value} {ps : List (Pc α)} (l : Led A (it0 :: oc O fd x cells :: opl O ps :: L) V) : Led A (it0 :: opl O ((x, cells, fd) :: ps) :: L) V := by
  refine l.regroup ?_ fun it hit => ?_
  · show (it0.fp ++ ((fd ++ ps.flatMap (·.2.2)) ++ fps L)).Perm (it0.fp ++ (fd ++ (ps.flatMap (·.2.2) ++ fps L)))
    rw [List.append_assoc]
  · rcases List.mem_cons.1 hit with rfl | hit
    · exact l.at (i := 0) rfl
    · rcases List.mem_cons.1 hit with rfl | hit
      · intro p hp
        rcases List.mem_cons.1 hp with rfl | hp
        · exact l.at (i := 1) rfl
        · exact (l.at (i := 2) rfl : ∀ p, p ∈ ps → O.rel V p.2.2 p.1 p.2.1) p hp
      · exact l.all it (List.mem_cons_of_mem _ (List.mem_cons_of_mem _ (List.mem_cons_of_mem _ hit)))

theorem Led.unpackT {A V : View} {L : List It} {fp : List Nat} {v : Value} {xs : List TestD} (l : Led A (osl 34 testO fp v xs :: L) V) : ∃ (ps : List (Pc TestD)) (fb : List Nat), ps.map (·.1) = xs ∧ Led A (osl 34 (rawO 4) fb v (ps.map (·.2.1)) :: opl testO ps :: L) V := l.unpack
theorem Led.repackT {A V : View} {L : List It} {fb : List Nat} {v : Value} {ps : List (Pc TestD)} (l : Led A (osl 34 (rawO 4) fb v (ps.map (·.2.1)) :: opl testO ps :: L) V) : ∃ fp, Led A (osl 34 testO fp v (ps.map (·.1)) :: L) V := Led.repack (O := testO) l

theorem one_raw {V : View} {bl c n : Nat} {z : List Value} (hp : V.part ⟨bl, 0, none⟩ n = some z) (hz : z.length = n ∧ ∀ v, v ∈ z → v.oneCell' = true) (hc : 1 ≤ c) : Sl (rawS n) V (.slice (some ⟨bl, 0, none⟩) 1 c) [z] :=
  ⟨by simp, _, c, rfl, by simpa using hc, fun _ => ⟨_, z, rfl, by show V.part _ (1 * n) = _; rw [Nat.one_mul]; exact hp, by have := Elems.cons (S := rawS n) (A := V) (x := z) (xs := []) ⟨rfl, hz⟩ .nil; simpa using this⟩⟩

theorem impl_SortTests_c (A : View) (v : Value) (ts : List TestD) (h : Sl testS A v ts) (hl : ts.length ≤ 16777215) : ACalls Try.prog 43 #[v] A fun r V => NewSl 34 testO A r V (sortR ts) := by
  obtain ⟨a, c, rfl, _, _⟩ := h.slice
  unfold sortR
  refine acalls Try.func43 rfl (by kernel_rfl) ?_
  simp (disch := omega) only [↓stq, amv_at, vls, inf, frs, mark_eq, ↓reduceIte, Nat.reduceEqDiff, ite_tt, ite_ff, eq_self, and_true, true_and, and_self, implies_true, Bool.true_eq_false, Bool.false_eq_true, decide_true, decide_false, decide_eq_true_eq, decide_eq_false_iff_not, ne_eq, not_true_eq_false, not_false_eq_true, Bool.not_eq_true', Bool.not_eq_false', beq_self_eq_true, Bool.not_true, Bool.not_false, List.getElem?_toArray, List.getElem?_cons_zero, List.getElem?_cons_succ]
  refine (impl_validTests_c A _ ts h hl).mono ?_
  rintro _ V ⟨rfl, he⟩
  simp (disch := omega) only [↓stq, amv_at, vls, inf, frs, mark_eq, ↓reduceIte, Nat.reduceEqDiff, ite_tt, ite_ff, eq_self, and_true, true_and, and_self, implies_true, Bool.true_eq_false, Bool.false_eq_true, decide_true, decide_false, decide_eq_true_eq, decide_eq_false_iff_not, ne_eq, not_true_eq_false, not_false_eq_true, Bool.not_eq_true', Bool.not_eq_false', beq_self_eq_true, Bool.not_true, Bool.not_false, List.getElem?_toArray, List.getElem?_cons_zero, List.getElem?_cons_succ]
  refine ⟨fun e1 => ?_, fun e1 => ?_⟩ <;> simp (disch := omega) only [↓stq, amv_at, vls, inf, frs, mark_eq, ↓reduceIte, Nat.reduceEqDiff, ite_tt, ite_ff, eq_self, and_true, true_and, and_self, implies_true, Bool.true_eq_false, Bool.false_eq_true, decide_true, decide_false, decide_eq_true_eq, decide_eq_false_iff_not, ne_eq, not_true_eq_false, not_false_eq_true, Bool.not_eq_true', Bool.not_eq_false', beq_self_eq_true, Bool.not_true, Bool.not_false, List.getElem?_toArray, List.getElem?_cons_zero, List.getElem?_cons_succ]
  · rw [e1]; exact NewSl.nil he
  · rw [e1]
    obtain ⟨h1, h2, hn⟩ := testsB_len e1
    refine (impl_copyTests_c V _ ts (h.mono he) (by omega) fun t ht => testB_small (h2 t ht)).mono ?_
    rintro w V2 ⟨fp, l⟩
    replace l := l.base he
    simp (disch := omega) only [↓stq, amv_at, vls, inf, frs, mark_eq, ↓reduceIte, Nat.reduceEqDiff, ite_tt, ite_ff, eq_self, and_true, true_and, and_self, implies_true, Bool.true_eq_false, Bool.false_eq_true, decide_true, decide_false, decide_eq_true_eq, decide_eq_false_iff_not, ne_eq, not_true_eq_false, not_false_eq_true, Bool.not_eq_true', Bool.not_eq_false', beq_self_eq_true, Bool.not_true, Bool.not_false, List.getElem?_toArray, List.getElem?_cons_zero, List.getElem?_cons_succ]
    obtain ⟨ps, fb, hps, l⟩ := l.unpackT
    have hlen : ps.length = ts.length := by rw [← hps, List.length_map]
    obtain ⟨ids, hids⟩ : ∃ ids, ts.map idD = ids := ⟨_, rfl⟩
    rw [hids]
    have hin : ∀ p, p ∈ ps → idD p.1 ∈ ids := fun p hp => by
      rw [← hids, ← hps]
      exact List.mem_map_of_mem (List.mem_map_of_mem hp)
    refine (sortStableT_c A V2 [opl testO ps] fb w (ps.map (·.2.1)) _ _ _ (fun z => rankI ids (idZ z)) (by kernel_rfl) (by rw [List.length_map]; omega) (fun V w l x y hx hy => ?_) l).mono ?_
    · obtain ⟨p, hp, rfl⟩ := List.mem_map.1 hx
      obtain ⟨q, hq, rfl⟩ := List.mem_map.1 hy
      have hr : ∀ p, p ∈ ps → testO.rel V p.2.2 p.1 p.2.1 := l.at (i := 1) rfl
      refine (cmpTests_c V _ _ p.1 q.1 (testO.toS (hr p hp)) (testO.toS (hr q hq))).mono ?_
      rintro _ V' ⟨k, rfl, k1, k2, k3, he⟩
      exact ⟨k, rfl, k1, k2, by rw [k3, idZ_of (hr p hp), idZ_of (hr q hq)]; exact rank_lt (hin p hp) (hin q hq), he⟩
    · rintro _ W l
      simp (disch := omega) only [↓stq, amv_at, vls, inf, frs, mark_eq, ↓reduceIte, Nat.reduceEqDiff, ite_tt, ite_ff, eq_self, and_true, true_and, and_self, implies_true, Bool.true_eq_false, Bool.false_eq_true, decide_true, decide_false, decide_eq_true_eq, decide_eq_false_iff_not, ne_eq, not_true_eq_false, not_false_eq_true, Bool.not_eq_true', Bool.not_eq_false', beq_self_eq_true, Bool.not_true, Bool.not_false, List.getElem?_toArray, List.getElem?_cons_zero, List.getElem?_cons_succ]
      rw [← ps_raw] at l
      have hr : ∀ p, p ∈ ps → testO.rel W p.2.2 p.1 p.2.1 := l.at (i := 1) rfl
      obtain ⟨fp, l⟩ := (l.plPerm (ssort_perm ps)).repackT
      rw [ps_key hr, hps] at l
      exact ⟨fp, l⟩

theorem spec_SortTests_c (A : View) (v : Value) (ts : List TestD) (h : Sl testS A v ts) : ACalls Try.prog 42 #[v] A fun r V => NewSl 34 testO A r V (sortR ts) := by
  obtain ⟨a, c, rfl, _, _⟩ := h.slice
  unfold sortR
  refine acalls Try.func42 rfl (by kernel_rfl) ?_
  simp (disch := omega) only [↓stq, amv_at, vls, inf, frs, mark_eq, ↓reduceIte, Nat.reduceEqDiff, ite_tt, ite_ff, eq_self, and_true, true_and, and_self, implies_true, Bool.true_eq_false, Bool.false_eq_true, decide_true, decide_false, decide_eq_true_eq, decide_eq_false_iff_not, ne_eq, not_true_eq_false, not_false_eq_true, Bool.not_eq_true', Bool.not_eq_false', beq_self_eq_true, Bool.not_true, Bool.not_false, List.getElem?_toArray, List.getElem?_cons_zero, List.getElem?_cons_succ]
  refine (spec_validTests_c A _ ts h).mono ?_
  rintro _ V ⟨rfl, he⟩
  simp (disch := omega) only [↓stq, amv_at, vls, inf, frs, mark_eq, ↓reduceIte, Nat.reduceEqDiff, ite_tt, ite_ff, eq_self, and_true, true_and, and_self, implies_true, Bool.true_eq_false, Bool.false_eq_true, decide_true, decide_false, decide_eq_true_eq, decide_eq_false_iff_not, ne_eq, not_true_eq_false, not_false_eq_true, Bool.not_eq_true', Bool.not_eq_false', beq_self_eq_true, Bool.not_true, Bool.not_false, List.getElem?_toArray, List.getElem?_cons_zero, List.getElem?_cons_succ]
  refine ⟨fun e1 => ?_, fun e1 => ?_⟩ <;> simp (disch := omega) only [↓stq, amv_at, vls, inf, frs, mark_eq, ↓reduceIte, Nat.reduceEqDiff, ite_tt, ite_ff, eq_self, and_true, true_and, and_self, implies_true, Bool.true_eq_false, Bool.false_eq_true, decide_true, decide_false, decide_eq_true_eq, decide_eq_false_iff_not, ne_eq, not_true_eq_false, not_false_eq_true, Bool.not_eq_true', Bool.not_eq_false', beq_self_eq_true, Bool.not_true, Bool.not_false, List.getElem?_toArray, List.getElem?_cons_zero, List.getElem?_cons_succ]
  · rw [e1]; exact NewSl.nil he
  · rw [e1]
    obtain ⟨h1, h2, hn⟩ := testsB_len e1
    obtain ⟨ids, hids⟩ : ∃ ids, ts.map idD = ids := ⟨_, rfl⟩
    rw [hids] at hn ⊢
    have hin : ∀ t, t ∈ ts → idD t ∈ ids := fun t ht => by
      rw [← hids]
      exact List.mem_map_of_mem ht
    obtain ⟨F, hF⟩ : ∃ F : TestD → Int, (fun t => rankI ids (idD t)) = F := ⟨_, rfl⟩
    have hFe : ∀ t, F t = rankI ids (idD t) := fun t => by rw [← hF]
    rw [hF]
    refine led_lit0 (O := testO) li23 ((Led.nil A).step he) fun b V _ l => ?_
    simp (disch := omega) only [↓stq, amv_at, vls, inf, frs, mark_eq, ↓reduceIte, Nat.reduceEqDiff, ite_tt, ite_ff, eq_self, and_true, true_and, and_self, implies_true, Bool.true_eq_false, Bool.false_eq_true, decide_true, decide_false, decide_eq_true_eq, decide_eq_false_iff_not, ne_eq, not_true_eq_false, not_false_eq_true, Bool.not_eq_true', Bool.not_eq_false', beq_self_eq_true, Bool.not_true, Bool.not_false, List.getElem?_toArray, List.getElem?_cons_zero, List.getElem?_cons_succ]
    refine aloop (fun d fr V => ∃ (i : Nat) (fp : List Nat) (w : Value), i ≤ ts.length ∧ d = ts.length - i ∧ Led A [osl 34 testO fp w (ssort F (ts.take i))] V ∧ fr 0 = .slice a ts.length c ∧ fr 3 = w ∧ fr 4 = .int .i64 i) ts.length ⟨0, _, _, by omega, by omega, l, by rfl, by rfl, by rfl⟩ ?_
    clear l
    rintro d fr V ⟨i, fp, w, hi, rfl, l, q0, q3, q4⟩
    simp (disch := omega) only [↓stq, amv_at, vls, inf, frs, mark_eq, ↓reduceIte, Nat.reduceEqDiff, ite_tt, ite_ff, eq_self, and_true, true_and, and_self, implies_true, Bool.true_eq_false, Bool.false_eq_true, decide_true, decide_false, decide_eq_true_eq, decide_eq_false_iff_not, ne_eq, not_true_eq_false, not_false_eq_true, Bool.not_eq_true', Bool.not_eq_false', beq_self_eq_true, Bool.not_true, Bool.not_false, List.getElem?_toArray, List.getElem?_cons_zero, List.getElem?_cons_succ, q0, q3, q4]
    refine ⟨fun e2 => ?_, fun e2 => ?_⟩
    · have hlt : i < ts.length := by omega
      have hS : (ssort F (ts.take i)).length = i := by rw [ssort_len, List.length_take]; omega
      have hD := ssort_desc (f := F) (ts.take i)
      have hts := ssort_take (f := F) hlt
      have hSm : ∀ y, y ∈ ssort F (ts.take i) → y ∈ ts.take i := fun y hy => (ssort_mem ..).1 hy
      generalize ssort F (ts.take i) = S at l hS hD hts hSm
      have hSin : ∀ y, y ∈ S → idD y ∈ ids := fun y hy => hin y (List.mem_of_mem_take (hSm y hy))
      have hSne : ∀ y, y ∈ S → F y ≠ F ts[i] := fun y hy hq => by
        rw [hFe, hFe] at hq
        have hq := rank_inj (hSin y hy) (hin _ (List.getElem_mem hlt)) hq
        obtain ⟨k, hk, rfl⟩ := List.mem_iff_getElem.1 (hSm y hy)
        rw [List.length_take] at hk
        rw [List.getElem_take] at hq
        rw [← hids] at hn
        have := (List.pairwise_iff_getElem.1 hn) k i (by rw [List.length_map]; omega) (by rw [List.length_map]; omega) (by omega)
        rw [List.getElem_map, List.getElem_map] at this
        exact this hq
      obtain ⟨ps, fb, rfl, l2⟩ := l.unpackT
      clear l
      have l := l2
      clear l2
      rw [List.length_map] at hS
      obtain ⟨aw, cw, rfl, hcw, _⟩ := (OSl.toS (show OSl 34 (rawO 4) V fb w _ from l.at (i := 0) rfl)).slice
      rw [List.length_map, hS] at l q3
      rw [List.length_map, hS] at hcw
      simp (disch := omega) only [↓stq, amv_at, vls, inf, frs, mark_eq, ↓reduceIte, Nat.reduceEqDiff, ite_tt, ite_ff, eq_self, and_true, true_and, and_self, implies_true, Bool.true_eq_false, Bool.false_eq_true, decide_true, decide_false, decide_eq_true_eq, decide_eq_false_iff_not, ne_eq, not_true_eq_false, not_false_eq_true, Bool.not_eq_true', Bool.not_eq_false', beq_self_eq_true, Bool.not_true, Bool.not_false, List.getElem?_toArray, List.getElem?_cons_zero, List.getElem?_cons_succ, q0, q3, q4]
      refine aloop (fun d fr V => ∃ j : Nat, j ≤ i ∧ d = i - j ∧ (∀ y, y ∈ (ps.map (·.1)).take j → F ts[i] < F y) ∧ Led A [osl 34 (rawO 4) fb (.slice aw i cw) (ps.map (·.2.1)), opl testO ps] V ∧ fr 0 = .slice a ts.length c ∧ fr 3 = .slice aw i cw ∧ fr 4 = .int .i64 i ∧ fr 5 = .int .i64 j) i ⟨0, by omega, by omega, fun y hy => by simp at hy, l, q0, q3, q4, by rfl⟩ ?_
      clear l q0 q3 q4
      rintro d fr V ⟨j, hj, rfl, hgt, l, q0, q3, q4, q5⟩
      have hr : ∀ p, p ∈ ps → testO.rel V p.2.2 p.1 p.2.1 := l.at (i := 1) rfl
      obtain ⟨ad, u2, u3, rfl, hclA, z1, z2, f2, f3⟩ := h.test hlt
      obtain ⟨a2, c2, rfl, _, _⟩ := f2.slice
      obtain ⟨a3, c3, rfl, _, _⟩ := f3.slice
      have hcl := l.ext.part hclA
      refine adraw_items [.q 0, .q 1, .q 2, .q 3, .q 4, .q 5, .q 6, .q 7, .l 8 false, .q 10, .q 11, .q 12, .l 13 true, .c 9 [13], .c 14 [], .q 15, .q 16] (by kernel_rfl) (by kernel_rfl) ?_
      simp (disch := omega) only [↓stq, amv_at, ↓pln, plv, nilOk, Nat.reduceBEq, Bool.or_false, Bool.or_true, Bool.false_or, Bool.true_or, vls, inf, frs, mark_eq, ↓reduceIte, Nat.reduceEqDiff, ite_tt, ite_ff, eq_self, and_true, true_and, and_self, implies_true, Bool.true_eq_false, Bool.false_eq_true, decide_true, decide_false, decide_eq_true_eq, decide_eq_false_iff_not, ne_eq, not_true_eq_false, not_false_eq_true, Bool.not_eq_true', Bool.not_eq_false', beq_self_eq_true, Bool.not_true, Bool.not_false, List.getElem?_toArray, List.getElem?_cons_zero, List.getElem?_cons_succ, q0, q3, q4, q5, hcl]
      refine ⟨fun e3 => ?_, fun e3 => ?_⟩
      · have hjl : j < ps.length := by omega
        obtain ⟨ad2, rfl, k2, kz⟩ := Sl.raw (OSl.toS (show OSl 34 (rawO 4) V fb _ _ from l.at (i := 0) rfl)) (i := j) (by rw [List.length_map]; omega)
        rw [List.getElem_map] at k2
        have hrj := testO.toS (hr _ (List.getElem_mem hjl))
        have hpm : (ps[j]).1 ∈ ps.map (·.1) := List.mem_map_of_mem (List.getElem_mem hjl)
        simp (disch := omega) only [↓stq, amv_at, ↓pln, plv, nilOk, Nat.reduceBEq, Bool.or_false, Bool.or_true, Bool.false_or, Bool.true_or, vls, inf, frs, mark_eq, ↓reduceIte, Nat.reduceEqDiff, ite_tt, ite_ff, eq_self, and_true, true_and, and_self, implies_true, Bool.true_eq_false, Bool.false_eq_true, decide_true, decide_false, decide_eq_true_eq, decide_eq_false_iff_not, ne_eq, not_true_eq_false, not_false_eq_true, Bool.not_eq_true', Bool.not_eq_false', beq_self_eq_true, Bool.not_true, Bool.not_false, List.getElem?_toArray, List.getElem?_cons_zero, List.getElem?_cons_succ, q0, q3, q4, q5, e3, k2, hcl]
        refine (spec_idOf_c V _ (ps[j]).1 hrj).mono ?_
        rintro _ V2 ⟨rfl, he2⟩
        replace l := l.step he2
        replace k2 := he2.part k2
        replace hcl := he2.part hcl
        simp (disch := omega) only [↓stq, amv_at, ↓pln, plv, nilOk, Nat.reduceBEq, Bool.or_false, Bool.or_true, Bool.false_or, Bool.true_or, vls, inf, frs, mark_eq, ↓reduceIte, Nat.reduceEqDiff, ite_tt, ite_ff, eq_self, and_true, true_and, and_self, implies_true, Bool.true_eq_false, Bool.false_eq_true, decide_true, decide_false, decide_eq_true_eq, decide_eq_false_iff_not, ne_eq, not_true_eq_false, not_false_eq_true, Bool.not_eq_true', Bool.not_eq_false', beq_self_eq_true, Bool.not_true, Bool.not_false, List.getElem?_toArray, List.getElem?_cons_zero, List.getElem?_cons_succ, q0, q3, q4, q5, e3, k2, hcl]
        refine (spec_idOf_c V2 _ ts[i] (testS_mk z1 z2 (f2.mono l.ext) (f3.mono l.ext))).mono ?_
        rintro _ V3 ⟨rfl, he3⟩
        replace l := l.step he3
        replace k2 := he3.part k2
        replace hcl := he3.part hcl
        simp (disch := omega) only [↓stq, amv_at, ↓pln, plv, nilOk, Nat.reduceBEq, Bool.or_false, Bool.or_true, Bool.false_or, Bool.true_or, vls, inf, frs, mark_eq, ↓reduceIte, Nat.reduceEqDiff, ite_tt, ite_ff, eq_self, and_true, true_and, and_self, implies_true, Bool.true_eq_false, Bool.false_eq_true, decide_true, decide_false, decide_eq_true_eq, decide_eq_false_iff_not, ne_eq, not_true_eq_false, not_false_eq_true, Bool.not_eq_true', Bool.not_eq_false', beq_self_eq_true, Bool.not_true, Bool.not_false, List.getElem?_toArray, List.getElem?_cons_zero, List.getElem?_cons_succ, q0, q3, q4, q5, e3, k2, hcl, abin_lts]
        refine ⟨fun e4 => ?_, fun e4 => ?_⟩
        · simp (disch := omega) only [↓stq, amv_at, vls, inf, frs, mark_eq, ↓reduceIte, Nat.reduceEqDiff, ite_tt, ite_ff, eq_self, and_true, true_and, and_self, implies_true, Bool.true_eq_false, Bool.false_eq_true, decide_true, decide_false, decide_eq_true_eq, decide_eq_false_iff_not, ne_eq, not_true_eq_false, not_false_eq_true, Bool.not_eq_true', Bool.not_eq_false', beq_self_eq_true, Bool.not_true, Bool.not_false, List.getElem?_toArray, List.getElem?_cons_zero, List.getElem?_cons_succ, q0, q3, q4, q5]
          refine ⟨_, by omega, j + 1, by omega, rfl, fun y hy => ?_, l, rfl⟩
          rw [List.take_succ_eq_append_getElem (by rw [List.length_map]; omega), List.mem_append, List.mem_singleton, List.getElem_map] at hy
          rcases hy with hy | rfl
          · exact hgt y hy
          · rw [hFe, hFe]
            exact (rank_lt (hSin _ hpm) (hin _ (List.getElem_mem hlt))).1 e4
        · have hq : ∀ y, y ∈ (ps.map (·.1)).drop j → F y < F ts[i] := fun y hy => by
            have h5 := desc_from hD (j := j) (by rw [List.length_map]; omega) hy
            rw [List.getElem_map] at h5
            have h6 : ¬ F ts[i] < F (ps[j]).1 := fun h => by
              rw [hFe, hFe] at h
              rw [(rank_lt (hSin _ hpm) (hin _ (List.getElem_mem hlt))).2 h] at e4
              cases e4
            have h7 := hSne _ hpm
            omega
          simp (disch := omega) only [↓stq, amv_at, vls, inf, frs, mark_eq, ↓reduceIte, Nat.reduceEqDiff, ite_tt, ite_ff, eq_self, and_true, true_and, and_self, implies_true, Bool.true_eq_false, Bool.false_eq_true, decide_true, decide_false, decide_eq_true_eq, decide_eq_false_iff_not, ne_eq, not_true_eq_false, not_false_eq_true, Bool.not_eq_true', Bool.not_eq_false', beq_self_eq_true, Bool.not_true, Bool.not_false, List.getElem?_toArray, List.getElem?_cons_zero, List.getElem?_cons_succ, q0, q3, q4, q5]
          refine adraw_items [.q 1, .q 2, .q 3, .q 5, .q 6, .q 7, .l 8 true, .q 12, .q 13, .q 14, .c 0 [], .c 4 [8], .c 9 [], .c 10 [], .c 11 [], .c 15 [], .q 16] (by kernel_rfl) (by kernel_rfl) ?_
          simp (disch := omega) only [↓stq, amv_at, ↓pln, plv, nilOk, Nat.reduceBEq, Bool.or_false, Bool.or_true, Bool.false_or, Bool.true_or, vls, inf, frs, mark_eq, ↓reduceIte, Nat.reduceEqDiff, ite_tt, ite_ff, eq_self, and_true, true_and, and_self, implies_true, Bool.true_eq_false, Bool.false_eq_true, decide_true, decide_false, decide_eq_true_eq, decide_eq_false_iff_not, ne_eq, not_true_eq_false, not_false_eq_true, Bool.not_eq_true', Bool.not_eq_false', beq_self_eq_true, Bool.not_true, Bool.not_false, List.getElem?_toArray, List.getElem?_cons_zero, List.getElem?_cons_succ, q0, q3, q4, q5, hcl]
          refine led_lit0 (O := rawO 4) li23 l fun b1 V5 _ l => ?_
          have hcl := l.ext.part hclA
          simp (disch := omega) only [↓stq, amv_at, ↓pln, plv, nilOk, Nat.reduceBEq, Bool.or_false, Bool.or_true, Bool.false_or, Bool.true_or, vls, inf, frs, mark_eq, ↓reduceIte, Nat.reduceEqDiff, ite_tt, ite_ff, eq_self, and_true, true_and, and_self, implies_true, Bool.true_eq_false, Bool.false_eq_true, decide_true, decide_false, decide_eq_true_eq, decide_eq_false_iff_not, ne_eq, not_true_eq_false, not_false_eq_true, Bool.not_eq_true', Bool.not_eq_false', beq_self_eq_true, Bool.not_true, Bool.not_false, List.getElem?_toArray, List.getElem?_cons_zero, List.getElem?_cons_succ, q0, q3, q4, q5, hcl, false_implies]
          have hO5 : Sl (rawS 4) V5 (.slice (some ad2) i cw) (ps.map (·.2.1)) := OSl.toS (l.at (i := 1) rfl)
          refine led_app (O := rawO 4) ap23_23 (by decide) l (i := 0) rfl (Sl.srcOf (hO5.take (k := j) (by rw [List.length_map]; omega) 4)) (by rw [List.length_nil, List.length_take, List.length_map]; omega) fun fn wn V6 _ l => ?_
          rw [List.nil_append] at l
          have hcl := l.ext.part hclA
          simp (disch := omega) only [↓stq, amv_at, ↓pln, plv, nilOk, Nat.reduceBEq, Bool.or_false, Bool.or_true, Bool.false_or, Bool.true_or, vls, inf, frs, mark_eq, ↓reduceIte, Nat.reduceEqDiff, ite_tt, ite_ff, eq_self, and_true, true_and, and_self, implies_true, Bool.true_eq_false, Bool.false_eq_true, decide_true, decide_false, decide_eq_true_eq, decide_eq_false_iff_not, ne_eq, not_true_eq_false, not_false_eq_true, Bool.not_eq_true', Bool.not_eq_false', beq_self_eq_true, Bool.not_true, Bool.not_false, List.getElem?_toArray, List.getElem?_cons_zero, List.getElem?_cons_succ, q0, q3, q4, q5, hcl, false_implies]
          refine (spec_copyTest_c V6 _ ts[i] (testS_mk z1 z2 (f2.mono l.ext) (f3.mono l.ext)) (testB_small (h2 _ (List.getElem_mem hlt)))).mono ?_
          rintro _ V7 ⟨fd, cells, rfl, l1⟩
          obtain ⟨ff2, uu2, ff3, uu3, rfl, rfl, _, _, o2, o3⟩ := testO_open (show testO.rel V7 fd ts[i] cells from l1.at (i := 0) rfl)
          obtain ⟨d2, e2', rfl, _, _⟩ := o2.toS.slice
          obtain ⟨d3, e3', rfl, _, _⟩ := o3.toS.slice
          replace l := l.append l1
          have hcl := l.ext.part hclA
          simp (disch := omega) only [↓stq, amv_at, ↓pln, plv, nilOk, Nat.reduceBEq, Bool.or_false, Bool.or_true, Bool.false_or, Bool.true_or, vls, inf, frs, mark_eq, ↓reduceIte, Nat.reduceEqDiff, ite_tt, ite_ff, eq_self, and_true, true_and, and_self, implies_true, Bool.true_eq_false, Bool.false_eq_true, decide_true, decide_false, decide_eq_true_eq, decide_eq_false_iff_not, ne_eq, not_true_eq_false, not_false_eq_true, Bool.not_eq_true', Bool.not_eq_false', beq_self_eq_true, Bool.not_true, Bool.not_false, List.getElem?_toArray, List.getElem?_cons_zero, List.getElem?_cons_succ, q0, q3, q4, q5, hcl, false_implies]
          refine led_lit li23 (by omega) rfl (fun p hp => by rcases List.mem_singleton.1 hp with rfl; exact ⟨rfl, rfl⟩) l fun bl V8 _ l => ?_
          have hcl := l.ext.part hclA
          simp (disch := omega) only [↓stq, amv_at, ↓pln, plv, nilOk, Nat.reduceBEq, Bool.or_false, Bool.or_true, Bool.false_or, Bool.true_or, vls, inf, frs, mark_eq, ↓reduceIte, Nat.reduceEqDiff, ite_tt, ite_ff, eq_self, and_true, true_and, and_self, implies_true, Bool.true_eq_false, Bool.false_eq_true, decide_true, decide_false, decide_eq_true_eq, decide_eq_false_iff_not, ne_eq, not_true_eq_false, not_false_eq_true, Bool.not_eq_true', Bool.not_eq_false', beq_self_eq_true, Bool.not_true, Bool.not_false, List.getElem?_toArray, List.getElem?_cons_zero, List.getElem?_cons_succ, q0, q3, q4, q5, hcl, false_implies]
          have kl : V8.part ⟨bl, 0, none⟩ 4 = some [.string (ts[i]).1, .string (ts[i]).2.1, .slice d2 (ts[i]).2.2.1.length e2', .slice d3 (ts[i]).2.2.2.1.length e3'] := l.part (i := 0) rfl rfl
          refine led_app (O := rawO 4) ap23_23 (by decide) l (i := 2) rfl (Sl.srcOf (one_raw kl ⟨rfl, by simp [Value.oneCell']⟩ (Nat.le_refl 1))) (by rw [List.length_singleton, List.length_take, List.length_map]; omega) fun fn2 wn2 V9 _ l => ?_
          have hcl := l.ext.part hclA
          simp (disch := omega) only [↓stq, amv_at, ↓pln, plv, nilOk, Nat.reduceBEq, Bool.or_false, Bool.or_true, Bool.false_or, Bool.true_or, vls, inf, frs, mark_eq, ↓reduceIte, Nat.reduceEqDiff, ite_tt, ite_ff, eq_self, and_true, true_and, and_self, implies_true, Bool.true_eq_false, Bool.false_eq_true, decide_true, decide_false, decide_eq_true_eq, decide_eq_false_iff_not, ne_eq, not_true_eq_false, not_false_eq_true, Bool.not_eq_true', Bool.not_eq_false', beq_self_eq_true, Bool.not_true, Bool.not_false, List.getElem?_toArray, List.getElem?_cons_zero, List.getElem?_cons_succ, q0, q3, q4, q5, hcl, false_implies]
          have hO9 : Sl (rawS 4) V9 (.slice (some ad2) i cw) (ps.map (·.2.1)) := OSl.toS (l.at (i := 3) rfl)
          refine led_app (O := rawO 4) ap23_23 (by decide) l (i := 2) rfl (Sl.srcOf (hO9.drop (k := j) (by rw [List.length_map]; omega))) (by rw [List.length_append, List.length_singleton, List.length_take, List.length_drop, List.length_map]; omega) fun fn3 wn3 V10 _ l => ?_
          have hcl := l.ext.part hclA
          simp (disch := omega) only [↓stq, amv_at, ↓pln, plv, nilOk, Nat.reduceBEq, Bool.or_false, Bool.or_true, Bool.false_or, Bool.true_or, vls, inf, frs, mark_eq, ↓reduceIte, Nat.reduceEqDiff, ite_tt, ite_ff, eq_self, and_true, true_and, and_self, implies_true, Bool.true_eq_false, Bool.false_eq_true, decide_true, decide_false, decide_eq_true_eq, decide_eq_false_iff_not, ne_eq, not_true_eq_false, not_false_eq_true, Bool.not_eq_true', Bool.not_eq_false', beq_self_eq_true, Bool.not_true, Bool.not_false, List.getElem?_toArray, List.getElem?_cons_zero, List.getElem?_cons_succ, q0, q3, q4, q5, hcl, false_implies]
          replace l := l.sub (.cons _ (.cons_cons _ (.cons_cons _ (.cons _ (.cons_cons _ (List.Sublist.refl []))))))
          replace l := (l.perm (List.Perm.swap ..)).plCons
          have hperm : (ps.take j ++ (ts[i], [.string (ts[i]).1, .string (ts[i]).2.1, .slice d2 (ts[i]).2.2.1.length e2', .slice d3 (ts[i]).2.2.2.1.length e3'], ff2 ++ ff3) :: ps.drop j).Perm ((ts[i], [.string (ts[i]).1, .string (ts[i]).2.1, .slice d2 (ts[i]).2.2.1.length e2', .slice d3 (ts[i]).2.2.2.1.length e3'], ff2 ++ ff3) :: ps) := by
            refine List.perm_middle.trans ?_
            rw [List.take_append_drop]
          replace l := l.plPerm hperm
          obtain ⟨fp', lF⟩ := Led.repackT (ps := ps.take j ++ (ts[i], [.string (ts[i]).1, .string (ts[i]).2.1, .slice d2 (ts[i]).2.2.1.length e2', .slice d3 (ts[i]).2.2.2.1.length e3'], ff2 ++ ff3) :: ps.drop j) (v := wn3) (fb := fn3) (A := A) (V := V10) (L := []) (by
            have e9 : (ps.take j ++ (ts[i], [.string (ts[i]).1, .string (ts[i]).2.1, .slice d2 (ts[i]).2.2.1.length e2', .slice d3 (ts[i]).2.2.2.1.length e3'], ff2 ++ ff3) :: ps.drop j).map (·.2.1) = (ps.map (·.2.1)).take j ++ [[.string (ts[i]).1, .string (ts[i]).2.1, .slice d2 (ts[i]).2.2.1.length e2', .slice d3 (ts[i]).2.2.2.1.length e3']] ++ (ps.map (·.2.1)).drop j := by
              simp [List.map_take, List.map_drop]
            rw [e9]
            exact l)
          have e8 : (ps.take j ++ (ts[i], [.string (ts[i]).1, .string (ts[i]).2.1, .slice d2 (ts[i]).2.2.1.length e2', .slice d3 (ts[i]).2.2.2.1.length e3'], ff2 ++ ff3) :: ps.drop j).map (·.1) = ssort F (ts.take (i + 1)) := by
            rw [hts, List.map_append, List.map_cons, List.map_take, List.map_drop]
            conv => rhs; rw [← List.take_append_drop j (ps.map (·.1))]
            exact (ssIns_split (fun y hy => Int.le_of_lt (hgt y hy)) hq).symm
          rw [e8] at lF
          exact ⟨_, by omega, i + 1, fp', wn3, by omega, rfl, lF, rfl, rfl⟩
      · obtain rfl : j = i := by omega
        have hq : ∀ y, y ∈ (ps.map (·.1)).drop j → F y < F ts[j] := fun y hy => by
          rw [List.drop_of_length_le (by rw [List.length_map]; omega)] at hy
          cases hy
        simp (disch := omega) only [↓stq, amv_at, ↓pln, plv, nilOk, Nat.reduceBEq, Bool.or_false, Bool.or_true, Bool.false_or, Bool.true_or, vls, inf, frs, mark_eq, ↓reduceIte, Nat.reduceEqDiff, ite_tt, ite_ff, eq_self, and_true, true_and, and_self, implies_true, Bool.true_eq_false, Bool.false_eq_true, decide_true, decide_false, decide_eq_true_eq, decide_eq_false_iff_not, ne_eq, not_true_eq_false, not_false_eq_true, Bool.not_eq_true', Bool.not_eq_false', beq_self_eq_true, Bool.not_true, Bool.not_false, List.getElem?_toArray, List.getElem?_cons_zero, List.getElem?_cons_succ, q0, q3, q4, q5, e3]
        simp (disch := omega) only [↓stq, amv_at, vls, inf, frs, mark_eq, ↓reduceIte, Nat.reduceEqDiff, ite_tt, ite_ff, eq_self, and_true, true_and, and_self, implies_true, Bool.true_eq_false, Bool.false_eq_true, decide_true, decide_false, decide_eq_true_eq, decide_eq_false_iff_not, ne_eq, not_true_eq_false, not_false_eq_true, Bool.not_eq_true', Bool.not_eq_false', beq_self_eq_true, Bool.not_true, Bool.not_false, List.getElem?_toArray, List.getElem?_cons_zero, List.getElem?_cons_succ, q0, q3, q4, q5]
        refine adraw_items [.q 1, .q 2, .q 3, .q 5, .q 6, .q 7, .l 8 true, .q 12, .q 13, .q 14, .c 0 [], .c 4 [8], .c 9 [], .c 10 [], .c 11 [], .c 15 [], .q 16] (by kernel_rfl) (by kernel_rfl) ?_
        simp (disch := omega) only [↓stq, amv_at, ↓pln, plv, nilOk, Nat.reduceBEq, Bool.or_false, Bool.or_true, Bool.false_or, Bool.true_or, vls, inf, frs, mark_eq, ↓reduceIte, Nat.reduceEqDiff, ite_tt, ite_ff, eq_self, and_true, true_and, and_self, implies_true, Bool.true_eq_false, Bool.false_eq_true, decide_true, decide_false, decide_eq_true_eq, decide_eq_false_iff_not, ne_eq, not_true_eq_false, not_false_eq_true, Bool.not_eq_true', Bool.not_eq_false', beq_self_eq_true, Bool.not_true, Bool.not_false, List.getElem?_toArray, List.getElem?_cons_zero, List.getElem?_cons_succ, q0, q3, q4, q5, hcl]
        refine led_lit0 (O := rawO 4) li23 l fun b1 V5 _ l => ?_
        have hcl := l.ext.part hclA
        simp (disch := omega) only [↓stq, amv_at, ↓pln, plv, nilOk, Nat.reduceBEq, Bool.or_false, Bool.or_true, Bool.false_or, Bool.true_or, vls, inf, frs, mark_eq, ↓reduceIte, Nat.reduceEqDiff, ite_tt, ite_ff, eq_self, and_true, true_and, and_self, implies_true, Bool.true_eq_false, Bool.false_eq_true, decide_true, decide_false, decide_eq_true_eq, decide_eq_false_iff_not, ne_eq, not_true_eq_false, not_false_eq_true, Bool.not_eq_true', Bool.not_eq_false', beq_self_eq_true, Bool.not_true, Bool.not_false, List.getElem?_toArray, List.getElem?_cons_zero, List.getElem?_cons_succ, q0, q3, q4, q5, hcl, false_implies]
        have hO5 : Sl (rawS 4) V5 (.slice aw j cw) (ps.map (·.2.1)) := OSl.toS (l.at (i := 1) rfl)
        refine led_app (O := rawO 4) ap23_23 (by decide) l (i := 0) rfl (Sl.srcOf (hO5.take (k := j) (by rw [List.length_map]; omega) 4)) (by rw [List.length_nil, List.length_take, List.length_map]; omega) fun fn wn V6 _ l => ?_
        rw [List.nil_append] at l
        have hcl := l.ext.part hclA
        simp (disch := omega) only [↓stq, amv_at, ↓pln, plv, nilOk, Nat.reduceBEq, Bool.or_false, Bool.or_true, Bool.false_or, Bool.true_or, vls, inf, frs, mark_eq, ↓reduceIte, Nat.reduceEqDiff, ite_tt, ite_ff, eq_self, and_true, true_and, and_self, implies_true, Bool.true_eq_false, Bool.false_eq_true, decide_true, decide_false, decide_eq_true_eq, decide_eq_false_iff_not, ne_eq, not_true_eq_false, not_false_eq_true, Bool.not_eq_true', Bool.not_eq_false', beq_self_eq_true, Bool.not_true, Bool.not_false, List.getElem?_toArray, List.getElem?_cons_zero, List.getElem?_cons_succ, q0, q3, q4, q5, hcl, false_implies]
        refine (spec_copyTest_c V6 _ ts[j] (testS_mk z1 z2 (f2.mono l.ext) (f3.mono l.ext)) (testB_small (h2 _ (List.getElem_mem hlt)))).mono ?_
        rintro _ V7 ⟨fd, cells, rfl, l1⟩
        obtain ⟨ff2, uu2, ff3, uu3, rfl, rfl, _, _, o2, o3⟩ := testO_open (show testO.rel V7 fd ts[j] cells from l1.at (i := 0) rfl)
        obtain ⟨d2, e2', rfl, _, _⟩ := o2.toS.slice
        obtain ⟨d3, e3', rfl, _, _⟩ := o3.toS.slice
        replace l := l.append l1
        have hcl := l.ext.part hclA
        simp (disch := omega) only [↓stq, amv_at, ↓pln, plv, nilOk, Nat.reduceBEq, Bool.or_false, Bool.or_true, Bool.false_or, Bool.true_or, vls, inf, frs, mark_eq, ↓reduceIte, Nat.reduceEqDiff, ite_tt, ite_ff, eq_self, and_true, true_and, and_self, implies_true, Bool.true_eq_false, Bool.false_eq_true, decide_true, decide_false, decide_eq_true_eq, decide_eq_false_iff_not, ne_eq, not_true_eq_false, not_false_eq_true, Bool.not_eq_true', Bool.not_eq_false', beq_self_eq_true, Bool.not_true, Bool.not_false, List.getElem?_toArray, List.getElem?_cons_zero, List.getElem?_cons_succ, q0, q3, q4, q5, hcl, false_implies]
        refine led_lit li23 (by omega) rfl (fun p hp => by rcases List.mem_singleton.1 hp with rfl; exact ⟨rfl, rfl⟩) l fun bl V8 _ l => ?_
        have hcl := l.ext.part hclA
        simp (disch := omega) only [↓stq, amv_at, ↓pln, plv, nilOk, Nat.reduceBEq, Bool.or_false, Bool.or_true, Bool.false_or, Bool.true_or, vls, inf, frs, mark_eq, ↓reduceIte, Nat.reduceEqDiff, ite_tt, ite_ff, eq_self, and_true, true_and, and_self, implies_true, Bool.true_eq_false, Bool.false_eq_true, decide_true, decide_false, decide_eq_true_eq, decide_eq_false_iff_not, ne_eq, not_true_eq_false, not_false_eq_true, Bool.not_eq_true', Bool.not_eq_false', beq_self_eq_true, Bool.not_true, Bool.not_false, List.getElem?_toArray, List.getElem?_cons_zero, List.getElem?_cons_succ, q0, q3, q4, q5, hcl, false_implies]
        have kl : V8.part ⟨bl, 0, none⟩ 4 = some [.string (ts[j]).1, .string (ts[j]).2.1, .slice d2 (ts[j]).2.2.1.length e2', .slice d3 (ts[j]).2.2.2.1.length e3'] := l.part (i := 0) rfl rfl
        refine led_app (O := rawO 4) ap23_23 (by decide) l (i := 2) rfl (Sl.srcOf (one_raw kl ⟨rfl, by simp [Value.oneCell']⟩ (Nat.le_refl 1))) (by rw [List.length_singleton, List.length_take, List.length_map]; omega) fun fn2 wn2 V9 _ l => ?_
        have hcl := l.ext.part hclA
        simp (disch := omega) only [↓stq, amv_at, ↓pln, plv, nilOk, Nat.reduceBEq, Bool.or_false, Bool.or_true, Bool.false_or, Bool.true_or, vls, inf, frs, mark_eq, ↓reduceIte, Nat.reduceEqDiff, ite_tt, ite_ff, eq_self, and_true, true_and, and_self, implies_true, Bool.true_eq_false, Bool.false_eq_true, decide_true, decide_false, decide_eq_true_eq, decide_eq_false_iff_not, ne_eq, not_true_eq_false, not_false_eq_true, Bool.not_eq_true', Bool.not_eq_false', beq_self_eq_true, Bool.not_true, Bool.not_false, List.getElem?_toArray, List.getElem?_cons_zero, List.getElem?_cons_succ, q0, q3, q4, q5, hcl, false_implies]
        have hO9 : Sl (rawS 4) V9 (.slice aw j cw) (ps.map (·.2.1)) := OSl.toS (l.at (i := 3) rfl)
        refine led_app (O := rawO 4) ap23_23 (by decide) l (i := 2) rfl (Sl.srcOf (hO9.drop (k := j) (by rw [List.length_map]; omega))) (by rw [List.length_append, List.length_singleton, List.length_take, List.length_drop, List.length_map]; omega) fun fn3 wn3 V10 _ l => ?_
        have hcl := l.ext.part hclA
        simp (disch := omega) only [↓stq, amv_at, ↓pln, plv, nilOk, Nat.reduceBEq, Bool.or_false, Bool.or_true, Bool.false_or, Bool.true_or, vls, inf, frs, mark_eq, ↓reduceIte, Nat.reduceEqDiff, ite_tt, ite_ff, eq_self, and_true, true_and, and_self, implies_true, Bool.true_eq_false, Bool.false_eq_true, decide_true, decide_false, decide_eq_true_eq, decide_eq_false_iff_not, ne_eq, not_true_eq_false, not_false_eq_true, Bool.not_eq_true', Bool.not_eq_false', beq_self_eq_true, Bool.not_true, Bool.not_false, List.getElem?_toArray, List.getElem?_cons_zero, List.getElem?_cons_succ, q0, q3, q4, q5, hcl, false_implies]
        replace l := l.sub (.cons _ (.cons_cons _ (.cons_cons _ (.cons _ (.cons_cons _ (List.Sublist.refl []))))))
        replace l := (l.perm (List.Perm.swap ..)).plCons
        have hperm : (ps.take j ++ (ts[j], [.string (ts[j]).1, .string (ts[j]).2.1, .slice d2 (ts[j]).2.2.1.length e2', .slice d3 (ts[j]).2.2.2.1.length e3'], ff2 ++ ff3) :: ps.drop j).Perm ((ts[j], [.string (ts[j]).1, .string (ts[j]).2.1, .slice d2 (ts[j]).2.2.1.length e2', .slice d3 (ts[j]).2.2.2.1.length e3'], ff2 ++ ff3) :: ps) := by
          refine List.perm_middle.trans ?_
          rw [List.take_append_drop]
        replace l := l.plPerm hperm
        obtain ⟨fp', lF⟩ := Led.repackT (ps := ps.take j ++ (ts[j], [.string (ts[j]).1, .string (ts[j]).2.1, .slice d2 (ts[j]).2.2.1.length e2', .slice d3 (ts[j]).2.2.2.1.length e3'], ff2 ++ ff3) :: ps.drop j) (v := wn3) (fb := fn3) (A := A) (V := V10) (L := []) (by
          have e9 : (ps.take j ++ (ts[j], [.string (ts[j]).1, .string (ts[j]).2.1, .slice d2 (ts[j]).2.2.1.length e2', .slice d3 (ts[j]).2.2.2.1.length e3'], ff2 ++ ff3) :: ps.drop j).map (·.2.1) = (ps.map (·.2.1)).take j ++ [[.string (ts[j]).1, .string (ts[j]).2.1, .slice d2 (ts[j]).2.2.1.length e2', .slice d3 (ts[j]).2.2.2.1.length e3']] ++ (ps.map (·.2.1)).drop j := by
            simp [List.map_take, List.map_drop]
          rw [e9]
          exact l)
        have e8 : (ps.take j ++ (ts[j], [.string (ts[j]).1, .string (ts[j]).2.1, .slice d2 (ts[j]).2.2.1.length e2', .slice d3 (ts[j]).2.2.2.1.length e3'], ff2 ++ ff3) :: ps.drop j).map (·.1) = ssort F (ts.take (j + 1)) := by
          rw [hts, List.map_append, List.map_cons, List.map_take, List.map_drop]
          conv => rhs; rw [← List.take_append_drop j (ps.map (·.1))]
          exact (ssIns_split (fun y hy => Int.le_of_lt (hgt y hy)) hq).symm
        rw [e8] at lF
        exact ⟨_, by omega, j + 1, fp', wn3, by omega, rfl, lF, rfl, rfl⟩
    · simp (disch := omega) only [↓stq, amv_at, vls, inf, frs, mark_eq, ↓reduceIte, Nat.reduceEqDiff, ite_tt, ite_ff, eq_self, and_true, true_and, and_self, implies_true, Bool.true_eq_false, Bool.false_eq_true, decide_true, decide_false, decide_eq_true_eq, decide_eq_false_iff_not, ne_eq, not_true_eq_false, not_false_eq_true, Bool.not_eq_true', Bool.not_eq_false', beq_self_eq_true, Bool.not_true, Bool.not_false, List.getElem?_toArray, List.getElem?_cons_zero, List.getElem?_cons_succ, q0, q3, q4]
      rw [List.take_of_length_le (by omega)] at l
      exact NewSl.of l (i := 0) rfl

end Go.Proofs.Ytbddklkfekiaeaa

