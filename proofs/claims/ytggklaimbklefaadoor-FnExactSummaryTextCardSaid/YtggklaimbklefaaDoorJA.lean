/- strings.Join: room that is asked for ahead, and the texts one behind the other. -/
import Derived.Test.YtggklaimbklefaaDoorB3
import Derived.Test.YtggklaimbklefaaDoorC2
set_option maxHeartbeats 4000000
set_option synthInstance.maxHeartbeats 400000
set_option synthInstance.maxSize 4096
set_option linter.unusedSimpArgs false
set_option linter.unusedVariables false
namespace Go.Proofs.YtggklaimbklefaaDoor

set_option maxRecDepth 100000

section
variable {P : Program} {A : View} {K : Value → View → Prop}

theorem digits_one : ∀ (n t : Nat) (acc : Array Value), (∀ v ∈ acc.toList, v.oneCell' = true) → ∀ v ∈ (Extern.BytealgMakeNoZero.digits n t acc).toList, v.oneCell' = true
  | 0, _, _, h => h
  | n + 1, t, acc, h => by
    unfold Extern.BytealgMakeNoZero.digits
    refine digits_one n _ _ fun v hv => ?_
    rw [Array.toList_push] at hv
    rcases List.mem_append.1 hv with hv | hv
    · exact h v hv
    · rw [List.mem_singleton.1 hv]
      rfl
/-- A new row of bytes, whatever they are. -/
theorem acall_mnz {f : FuncId} {fn : Func} {ps : Array TypeId} {t e : TypeId} (hf : P.funcs[f]? = some fn) (hname : (fn.name == "runtime.NumGoroutine") = false)
    (hb : fn.body.isNone = true) (hn : Extern.findNext fn = none) (he : Extern.find fn = some (Extern.BytealgMakeNoZero.makeNoZero ps #[t])) (ht : P.underlying t = some (.slice e)) (n : Nat) (hnl : n ≤ 16777216)
    (hA : ∃ b kb, A b = some kb) (hk : ∀ b cs, A b = none → n ≤ cs.length → (∀ v ∈ cs, v.oneCell' = true) → K (.slice (some ⟨b, 0, none⟩) n cs.length) (A.set b ⟨e, cs, cs.length, true⟩)) :
    acall P (.func (.func f) #[] #[]) #[.int .i64 n] A K := by
  unfold acall
  show sawp P (callFunc f (#[] ++ #[.int .i64 n] ++ #[])) (nextK P K) A
  unfold callFunc
  show sawp P (Sem.bind (.program .pure) _) (nextK P K) A
  simp only [Sem.bind, sawp, hf, hname, hb, hn, he, Bool.false_eq_true, if_false, if_true]
  show sawp P (Sem.bind (Extern.BytealgMakeNoZero.makeNoZero ps #[t] #[.int .i64 n]) _) (nextK P K) A
  rw [sawp_bind]
  unfold Extern.BytealgMakeNoZero.makeNoZero
  show sawp P (underlying t >>= _) _ A
  rw [sawp_underlying ht]
  have h1 : (decide ((n : Int) < 0) || decide ((n : Int) > 2 ^ 48)) = false := by
    rw [Bool.or_eq_false_iff, decide_eq_false_iff_not, decide_eq_false_iff_not]
    omega
  dsimp only
  rw [if_neg (by rw [h1]; decide)]
  show sawp P (Sem.bind (Sem.choose _ Sem.pure) _) _ A
  rw [sawp_bind]
  simp only [sawp]
  refine ⟨hA, fun cap hcap => ?_⟩
  have hcap : n ≤ cap := by
    rcases hcap with ⟨h, _⟩ | ⟨t, rfl⟩
    · cases h
    · show n ≤ (n : Int).toNat + _
      rw [Int.toNat_natCast]
      omega
  rw [sawp_bindB]
  have room : ∀ J : Unit → View → Prop, sawp P (askRoom cap) J A = J () A := fun J => by
    unfold askRoom
    split <;> rfl
  rw [room]
  show sawp P (Sem.bind (Sem.choose _ Sem.pure) _) _ A
  rw [sawp_bind]
  simp only [sawp]
  refine ⟨hA, fun bytes _ => ?_⟩
  have hsz : (Extern.BytealgMakeNoZero.digits cap bytes #[]).toList.length = cap := by
    rw [Array.length_toList, Go.Lib.size_digits]
    simp
  have hone := digits_one cap bytes #[] (fun v hv => by cases hv)
  show sawp P (Sem.bind (Sem.bind (Sem.new _ _) _) _) _ A
  simp only [Sem.bind, sawp]
  refine ⟨hone, fun b hb => ?_⟩
  have := hk b (Extern.BytealgMakeNoZero.digits cap bytes #[]).toList hb (by rw [hsz]; exact hcap) hone
  rw [hsz] at this
  have e2 : (Extern.BytealgMakeNoZero.digits cap bytes #[]).size = cap := by rw [← Array.length_toList]; exact hsz
  rw [e2]
  exact this

/-- Nothing is copied. -/
theorem acopy_none {t tx ty e : TypeId} {size : Nat} {a : Option Addr} {n c : Nat} (hu : P.underlying t = some (.slice e)) (hs : (P.info? e).map (·.size) = some size) (h : K (.int .i64 0) A) : acopy P #[t, tx] ty #[.slice a n c, .slice none 0 0] A K := by
  intro w hw
  obtain ⟨i, hi, _⟩ := Option.map_eq_some_iff.1 hs
  refine ⟨_, w, A, ?_, h, hw, Step.refl A w⟩
  cases a <;> simp [Builtin.copy_, run_underlying hu, Builtin.lenOf, Builtin.firstCells, sizeOf, typeInfo, hi, storeCells, goInt]
theorem acap_slice {t : TypeId} (h : isSliceT P t = true) (ty : TypeId) (cs : Array Bool) (a : Option Addr) (n c : Nat) : abuiltin P .cap #[t] ty cs #[.slice a n c] A K = K (.int .i64 c) A := by
  unfold isSliceT at h
  split at h
  · rename_i e hu
    unfold abuiltin builtin
    rw [sawp_value]
    unfold Builtin.cap_
    simp only [List.getElem?_toArray, List.getElem?_cons_zero]
    rw [sawp_underlying hu]
    rfl
  · simp at h
end

section
variable {A : View} {K : Value → View → Prop}
theorem bd_cap (ty : TypeId) (cs : Array Bool) (a : Option Addr) (n c : Nat) : abuiltin Tryd.prog .cap #[50] ty cs #[.slice a n c] A K = K (.int .i64 c) A := acap_slice (by kernel_rfl) ty cs a n c
theorem bd_mnz (n : Nat) (hnl : n ≤ 16777216) (hA : ∃ b kb, A b = some kb) (hk : ∀ b cs, A b = none → n ≤ cs.length → (∀ v ∈ cs, v.oneCell' = true) → K (.slice (some ⟨b, 0, none⟩) n cs.length) (A.set b ⟨5, cs, cs.length, true⟩)) :
    acall Tryd.prog (.func (.func 38) #[] #[]) #[.int .i64 n] A K :=
  acall_mnz Tryd.func38 rfl rfl (by kernel_rfl) (show Extern.find _ = some (Extern.BytealgMakeNoZero.makeNoZero #[3] #[50]) by kernel_rfl) (show Tryd.prog.underlying 50 = some (.slice 5) by kernel_rfl) n hnl hA hk
end

theorem grow_c (B A : View) (L : List It) (q : Nat) (p : Option Addr) (n : Nat) (hn : n ≤ 16777216) (h0 : 0 < n) (l : Led B (bx q ⟨52, [.pointer p, .slice none 0 0], 2, true⟩ :: L) A) :
    ACalls Tryd.prog 32 #[.pointer (some ⟨q, 0, none⟩), .int .i64 n] A fun _ V => ∃ g cs, n ≤ cs.length ∧ Led B (bx q ⟨52, [.pointer p, .slice (some ⟨g, 0, none⟩) 0 cs.length], 2, true⟩ :: bx g ⟨5, cs, cs.length, true⟩ :: L) V := by
  have k1 := l.cell (i := 0) rfl (o := 1) rfl rfl
  have kq : A q = some ⟨52, [.pointer p, .slice none 0 0], 2, true⟩ := l.at (i := 0) rfl
  have eZ : (2 : Int) * ((0 : Nat) : Int) + (n : Int) = n := by omega
  have hz : ((0 : Nat) : Int).toNat = 0 := rfl
  refine acalls Tryd.func32 rfl (by kernel_rfl) ?_
  simp (disch := omega) only [↓stq, amv_at, vls, inf, frs, mark_eq, ↓reduceIte, Nat.reduceEqDiff, ite_tt, ite_ff, eq_self, and_true, true_and, and_self, implies_true, Bool.true_eq_false, Bool.false_eq_true, decide_true, decide_false, decide_eq_true_eq, decide_eq_false_iff_not, ne_eq, not_true_eq_false, not_false_eq_true, Bool.not_eq_true', Bool.not_eq_false', beq_self_eq_true, Bool.not_true, Bool.not_false, List.getElem?_toArray, List.getElem?_cons_zero, List.getElem?_cons_succ]
  refine adraw_items [.q 0, .q 1, .q 2, .l 3 false, .q 4, .q 5, .q 6, .q 7, .q 9, .q 10, .q 11, .l 12 true, .q 13, .c 8 [12], .q 14, .q 15] (by kernel_rfl) (by kernel_rfl) ?_
  simp (disch := omega) only [↓stq, amv_at, ↓pln, plv, nilOk, Nat.reduceBEq, Bool.or_false, Bool.or_true, Bool.false_or, Bool.true_or, vls, inf, frs, mark_eq, ↓reduceIte, Nat.reduceEqDiff, ite_tt, ite_ff, eq_self, and_true, true_and, and_self, implies_true, Bool.true_eq_false, Bool.false_eq_true, decide_true, decide_false, decide_eq_true_eq, decide_eq_false_iff_not, ne_eq, not_true_eq_false, not_false_eq_true, Bool.not_eq_true', Bool.not_eq_false', beq_self_eq_true, Bool.not_true, Bool.not_false, List.getElem?_toArray, List.getElem?_cons_zero, List.getElem?_cons_succ, ↓aop_nilV, anilV_ptr, add_at, k1, bd_cap, eZ]
  refine bd_mnz n hn ⟨q, _, kq⟩ fun g cs hg hcs hone => ?_
  have hext : Ext A (A.set g ⟨5, cs, cs.length, true⟩) := Ext.new hg _
  replace l := l.cons hext (bx g ⟨5, cs, cs.length, true⟩) (View.set_same ..) (fun x hx => by rw [List.mem_singleton.1 hx]; exact hg) (by simp [bx])
  have k1 := hext.cell k1
  have hcut : cutAddr (some (⟨g, 0, none⟩ : Addr)) 0 cs.length 1 = some ⟨g, 0, none⟩ := by
    unfold cutAddr
    rw [if_neg (by omega)]
    simp [Addr.add]
  simp (disch := omega) only [↓stq, amv_at, ↓pln, plv, nilOk, Nat.reduceBEq, Bool.or_false, Bool.or_true, Bool.false_or, Bool.true_or, vls, inf, frs, mark_eq, ↓reduceIte, Nat.reduceEqDiff, ite_tt, ite_ff, eq_self, and_true, true_and, and_self, implies_true, Bool.true_eq_false, Bool.false_eq_true, decide_true, decide_false, decide_eq_true_eq, decide_eq_false_iff_not, ne_eq, not_true_eq_false, not_false_eq_true, Bool.not_eq_true', Bool.not_eq_false', beq_self_eq_true, Bool.not_true, Bool.not_false, List.getElem?_toArray, List.getElem?_cons_zero, List.getElem?_cons_succ, ↓aop_nilV, anilV_ptr, add_at, k1, hz, hcut]
  refine acopy_none (show Tryd.prog.underlying 50 = some (.slice 5) by kernel_rfl) (show (Tryd.prog.info? 5).map (·.size) = some 1 by kernel_rfl) ?_
  simp (disch := omega) only [↓stq, amv_at, vls, inf, frs, mark_eq, ↓reduceIte, Nat.reduceEqDiff, ite_tt, ite_ff, eq_self, and_true, true_and, and_self, implies_true, Bool.true_eq_false, Bool.false_eq_true, decide_true, decide_false, decide_eq_true_eq, decide_eq_false_iff_not, ne_eq, not_true_eq_false, not_false_eq_true, Bool.not_eq_true', Bool.not_eq_false', beq_self_eq_true, Bool.not_true, Bool.not_false, List.getElem?_toArray, List.getElem?_cons_zero, List.getElem?_cons_succ, ↓aop_nilV, anilV_ptr, add_at]
  refine led_store l 1 rfl sz50 (by rfl) (by rfl) (by rfl) fun W l => ?_
  simp (disch := omega) only [↓stq, amv_at, vls, inf, frs, mark_eq, ↓reduceIte, Nat.reduceEqDiff, ite_tt, ite_ff, eq_self, and_true, true_and, and_self, implies_true, Bool.true_eq_false, Bool.false_eq_true, decide_true, decide_false, decide_eq_true_eq, decide_eq_false_iff_not, ne_eq, not_true_eq_false, not_false_eq_true, Bool.not_eq_true', Bool.not_eq_false', beq_self_eq_true, Bool.not_true, Bool.not_false, List.getElem?_toArray, List.getElem?_cons_zero, List.getElem?_cons_succ]
  exact ⟨g, cs, hcs, l.perm (List.Perm.swap ..)⟩

theorem Grow_c (B A : View) (L : List It) (q : Nat) (n : Nat) (hn : n ≤ 16777216) (l : Led B (wb q [] [] :: L) A) :
    ACalls Tryd.prog 26 #[.pointer (some ⟨q, 0, none⟩), .int .i64 n] A fun _ V => ∃ fp, Led B (wb q fp [] :: L) V := by
  obtain ⟨p, v, hp, l⟩ := wb_open l
  obtain ⟨rfl⟩ : v = .slice none 0 0 := by
    rcases (show Buf A [] v [] from l.at (i := 1) rfl) with ⟨h, _⟩ | ⟨_, _, _, _, _, h, _⟩
    · exact h
    · cases h
  refine ACalls.weaken (R := fun _ V => ∃ g cs, (n = 0 ∧ Led B (wb q [] [] :: L) V) ∨ (0 < cs.length ∧ Led B (bx q ⟨52, [.pointer (some ⟨q, 0, none⟩), .slice (some ⟨g, 0, none⟩) 0 cs.length], 2, true⟩ :: bx g ⟨5, cs, cs.length, true⟩ :: buf [] (.slice none 0 0) [] :: L) V)) ?_ ?_
  · refine acalls Tryd.func26 rfl (by kernel_rfl) ?_
    simp (disch := omega) only [↓stq, amv_at, vls, inf, frs, mark_eq, ↓reduceIte, Nat.reduceEqDiff, ite_tt, ite_ff, eq_self, and_true, true_and, and_self, implies_true, Bool.true_eq_false, Bool.false_eq_true, decide_true, decide_false, decide_eq_true_eq, decide_eq_false_iff_not, ne_eq, not_true_eq_false, not_false_eq_true, Bool.not_eq_true', Bool.not_eq_false', beq_self_eq_true, Bool.not_true, Bool.not_false, List.getElem?_toArray, List.getElem?_cons_zero, List.getElem?_cons_succ]
    refine (copyCheck_c B A _ q p _ hp l).mono ?_
    rintro _ V l
    have k1 := l.cell (i := 0) rfl (o := 1) rfl rfl
    simp (disch := omega) only [↓stq, amv_at, vls, inf, frs, mark_eq, ↓reduceIte, Nat.reduceEqDiff, ite_tt, ite_ff, eq_self, and_true, true_and, and_self, implies_true, Bool.true_eq_false, Bool.false_eq_true, decide_true, decide_false, decide_eq_true_eq, decide_eq_false_iff_not, ne_eq, not_true_eq_false, not_false_eq_true, Bool.not_eq_true', Bool.not_eq_false', beq_self_eq_true, Bool.not_true, Bool.not_false, List.getElem?_toArray, List.getElem?_cons_zero, List.getElem?_cons_succ]
    refine ⟨fun e => by omega, fun e => ?_⟩
    refine adraw_items [.q 0, .q 1, .q 2, .l 3 false, .q 4, .q 5, .q 6, .q 7, .l 8 false, .q 9, .q 10, .q 11, .q 12] (by kernel_rfl) (by kernel_rfl) ?_
    have eZ : ((0 : Nat) : Int) - ((0 : Nat) : Int) = 0 := rfl
    simp (disch := omega) only [↓stq, amv_at, ↓pln, plv, nilOk, Nat.reduceBEq, Bool.or_false, Bool.or_true, Bool.false_or, Bool.true_or, vls, inf, frs, mark_eq, ↓reduceIte, Nat.reduceEqDiff, ite_tt, ite_ff, eq_self, and_true, true_and, and_self, implies_true, Bool.true_eq_false, Bool.false_eq_true, decide_true, decide_false, decide_eq_true_eq, decide_eq_false_iff_not, ne_eq, not_true_eq_false, not_false_eq_true, Bool.not_eq_true', Bool.not_eq_false', beq_self_eq_true, Bool.not_true, Bool.not_false, List.getElem?_toArray, List.getElem?_cons_zero, List.getElem?_cons_succ, ↓aop_nilV, anilV_ptr, add_at, k1, bd_cap, eZ]
    refine ⟨fun e1 => ?_, fun e1 => ?_⟩
    · simp (disch := omega) only [↓stq, amv_at, vls, inf, frs, mark_eq, ↓reduceIte, Nat.reduceEqDiff, ite_tt, ite_ff, eq_self, and_true, true_and, and_self, implies_true, Bool.true_eq_false, Bool.false_eq_true, decide_true, decide_false, decide_eq_true_eq, decide_eq_false_iff_not, ne_eq, not_true_eq_false, not_false_eq_true, Bool.not_eq_true', Bool.not_eq_false', beq_self_eq_true, Bool.not_true, Bool.not_false, List.getElem?_toArray, List.getElem?_cons_zero, List.getElem?_cons_succ]
      refine (grow_c B V _ q _ n hn (by omega) l).mono ?_
      rintro _ V2 ⟨g, cs, hcs, l⟩
      simp (disch := omega) only [↓stq, amv_at, vls, inf, frs, mark_eq, ↓reduceIte, Nat.reduceEqDiff, ite_tt, ite_ff, eq_self, and_true, true_and, and_self, implies_true, Bool.true_eq_false, Bool.false_eq_true, decide_true, decide_false, decide_eq_true_eq, decide_eq_false_iff_not, ne_eq, not_true_eq_false, not_false_eq_true, Bool.not_eq_true', Bool.not_eq_false', beq_self_eq_true, Bool.not_true, Bool.not_false, List.getElem?_toArray, List.getElem?_cons_zero, List.getElem?_cons_succ]
      exact ⟨g, cs, .inr ⟨by omega, l⟩⟩
    · simp (disch := omega) only [↓stq, amv_at, vls, inf, frs, mark_eq, ↓reduceIte, Nat.reduceEqDiff, ite_tt, ite_ff, eq_self, and_true, true_and, and_self, implies_true, Bool.true_eq_false, Bool.false_eq_true, decide_true, decide_false, decide_eq_true_eq, decide_eq_false_iff_not, ne_eq, not_true_eq_false, not_false_eq_true, Bool.not_eq_true', Bool.not_eq_false', beq_self_eq_true, Bool.not_true, Bool.not_false, List.getElem?_toArray, List.getElem?_cons_zero, List.getElem?_cons_succ]
      exact ⟨0, [], .inl ⟨by omega, wb_close (.inr rfl) l⟩⟩
  · rintro r V ⟨g, cs, h⟩
    rcases h with ⟨_, l⟩ | ⟨h0, l⟩
    · exact ⟨V, fun b k hb => ⟨k, hb, rfl, .inl rfl⟩, [], l⟩
    · have hg : V g = some ⟨5, cs, cs.length, true⟩ := l.at (i := 1) rfl
      refine ⟨V.set g ⟨5, [], cs.length, true⟩, Weaker.set hg rfl ⟨rfl, Nat.le_refl _, Nat.zero_le _, cs, rfl⟩, [g], ?_⟩
      replace l := l.upd (i := 1) (jt := bx g ⟨5, [], cs.length, true⟩) rfl rfl (Only.set _ (List.mem_singleton.2 rfl)) (View.set_same ..)
      refine wb_close (p := some ⟨q, 0, none⟩) (v := .slice (some ⟨g, 0, none⟩) 0 cs.length) (.inr rfl) ?_
      replace l : Led B (bx q ⟨52, [.pointer (some ⟨q, 0, none⟩), .slice (some ⟨g, 0, none⟩) 0 cs.length], 2, true⟩ :: bx g ⟨5, [], cs.length, true⟩ :: buf [] (.slice none 0 0) [] :: L) (V.set g ⟨5, [], cs.length, true⟩) := l
      refine (l.sub (M := bx q ⟨52, [.pointer (some ⟨q, 0, none⟩), .slice (some ⟨g, 0, none⟩) 0 cs.length], 2, true⟩ :: bx g ⟨5, [], cs.length, true⟩ :: L) (.cons_cons _ (.cons_cons _ (.cons _ (List.Sublist.refl _))))).upd (i := 1) (jt := buf [g] _ []) rfl rfl (Only.refl _ _) (.inr ⟨g, cs.length, rfl, Nat.zero_le _, h0, rfl, View.set_same ..⟩)

end Go.Proofs.YtggklaimbklefaaDoor

