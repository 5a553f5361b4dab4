/- Literals and makes; and the rules of the weakest precondition in bundles, for simp. -/
import Derived.Test.YtggklaimbklefaaDoorFw5
import Derived.Laws.MakeOwn
set_option maxHeartbeats 4000000
set_option synthInstance.maxHeartbeats 400000
set_option synthInstance.maxSize 4096
set_option linter.unusedSimpArgs false
set_option linter.unusedVariables false
namespace Go.Proofs.YtggklaimbklefaaDoor

variable {P : Program} {A : View} {fr : Fr} {K : Value → View → Prop}

def litT (P : Program) (t : TypeId) : Option (TypeId × Nat) := match P.underlying t with
  | some (.slice e) => match P.info? e with
    | some i => if i.zero.isSome then some (e, i.size) else none
    | none => none
  | _ => none
def makeT (P : Program) (t : TypeId) : Option (TypeId × Nat × List Value) := match P.underlying t with
  | some (.slice e) => match P.info? e with
    | some i => match i.zero with
      | some z => if z.cells.size = i.size ∧ z.cells.toList.all (·.oneCell') = true then some (e, i.bytes, z.cells.toList) else none
      | none => none
    | none => none
  | _ => none

theorem foldl_set (cs : List Value) : ∀ (j off : Nat) (c : Array Value), off + j + cs.length ≤ c.size →
    ((cs.zipIdx j).foldl (fun (a : Array Value) (p : Value × Nat) => a.setIfInBounds (off + p.2) p.1) c).toList = c.toList.take (off + j) ++ cs ++ c.toList.drop (off + j + cs.length) := by
  induction cs with
  | nil => intro j off c _; simp
  | cons v vs ih =>
    intro j off c hl
    simp only [List.zipIdx_cons, List.foldl_cons]
    rw [ih (j + 1) off _ (by simp at hl ⊢; omega)]
    have e := list_seg_step c.toList (off + j) v vs (by simp at hl ⊢; omega)
    simpa [Array.toList_setIfInBounds, Nat.add_assoc] using e

theorem fill_step (place : Nat → Option (Nat × Nat)) (c : Array Value) (i off : Nat) (v : Value) (rest : List (Nat × Value)) (hp : place i = some (off, v.cells.size)) (hl : off + v.cells.size ≤ c.size) :
    Instr.fill place c ((i, v) :: rest) = Instr.fill place (c.toList.take off ++ v.cells.toList ++ c.toList.drop (off + v.cells.size)).toArray rest := by
  have h := foldl_set v.cells.toList 0 off c (by simpa using hl)
  simp only [Instr.fill, hp]
  have h1 : ¬ (v.cells.size ≠ v.cells.size || (decide (off + v.cells.size > c.size))) = true := by simp; omega
  have h2 : (v.cells.zipIdx.foldl (fun cs (x : Value × Nat) => cs.setIfInBounds (off + x.2) x.1) c) = (c.toList.take off ++ v.cells.toList ++ c.toList.drop (off + v.cells.size)).toArray := by
    apply Array.ext'
    rw [← Array.foldl_toList, Array.toList_zipIdx]
    simpa using h
  simp only [ne_eq, not_true_eq_false, decide_false, Bool.false_or, show ¬ (off + v.cells.size > c.size) by omega, Bool.false_eq_true, if_false]
  rw [← h2]

theorem fill_all (size : Nat) : ∀ (ps : List (Nat × Value)) (k : Nat) (c : Array Value), ps.map (·.1) = List.range' k ps.length → (∀ p ∈ ps, p.2.cells.size = size) → (k + ps.length) * size ≤ c.size →
    Instr.fill (fun j => some (j * size, size)) c ps = some (c.toList.take (k * size) ++ ps.flatMap (·.2.cells.toList) ++ c.toList.drop ((k + ps.length) * size)).toArray
  | [], k, c, _, _, _ => by simp [Instr.fill]
  | (i, v) :: ps, k, c, hk, hs, hl => by
    simp only [List.map_cons, List.length_cons, List.range'_succ, List.cons.injEq] at hk
    obtain ⟨rfl, hk⟩ := hk
    have hv : v.cells.size = size := hs (i, v) (by simp)
    have hmul : (i + (ps.length + 1)) * size = i * size + size + ps.length * size := by rw [Nat.add_mul, Nat.add_mul]; omega
    have hmul2 : (i + 1) * size = i * size + size := by rw [Nat.add_mul]; omega
    have hmul3 : (i + 1 + ps.length) * size = i * size + size + ps.length * size := by rw [Nat.add_mul, Nat.add_mul]; omega
    simp only [List.length_cons, hmul] at hl
    rw [fill_step _ c i (i * size) v ps (by rw [hv]) (by omega)]
    rw [fill_all size ps (i + 1) _ hk (fun p hp => hs p (by simp [hp])) (by rw [hmul3]; simp; omega)]
    congr 2
    have hlen : (c.toList.take (i * size) ++ v.cells.toList).length = (i + 1) * size := by
      simp only [List.length_append, List.length_take, Array.length_toList, hv, hmul2]; omega
    have h1 : List.take ((i + 1) * size) (c.toList.take (i * size) ++ v.cells.toList ++ c.toList.drop (i * size + v.cells.size)) = c.toList.take (i * size) ++ v.cells.toList := List.take_left' hlen
    have h2 : List.drop ((i + 1 + ps.length) * size) (c.toList.take (i * size) ++ v.cells.toList ++ c.toList.drop (i * size + v.cells.size)) = c.toList.drop ((i + (ps.length + 1)) * size) := by
      rw [show (i + 1 + ps.length) * size = (i + 1) * size + ps.length * size by rw [hmul3, hmul2], ← List.drop_drop, List.drop_left' hlen, List.drop_drop]
      congr 1
      rw [hv, hmul]
    rw [h1, h2]
    simp

theorem alit_at {t e : TypeId} {size n : Nat} {ps : Array (Nat × Value)} (h : litT P t = some (e, size)) (hn : n * size ≤ 16777216) (hf : ps.toList.map (·.1) = List.range' 0 n)
    (hs : ∀ p ∈ ps.toList, p.2.cells.size = size ∧ p.2.cells.toList.all (·.oneCell') = true)
    (hk : ∀ b, A b = none → K (.slice (some ⟨b, 0, none⟩) n n) (A.set b ⟨e, ps.toList.flatMap (·.2.cells.toList), n * size, true⟩)) : alit P t n ps A K := by
  have hlen : ps.toList.length = n := by have := congrArg List.length hf; simpa using this
  unfold litT at h
  split at h
  · rename_i e' hu
    split at h
    · rename_i i hi
      split at h
      · rename_i hz
        simp at h
        obtain ⟨rfl, rfl⟩ := h
        obtain ⟨z, hz⟩ := Option.isSome_iff_exists.1 hz
        have hone : ∀ v ∈ ps.toList.flatMap (·.2.cells.toList), v.oneCell' = true := by
          intro v hv
          obtain ⟨p, hp, hv⟩ := List.mem_flatMap.1 hv
          exact List.all_eq_true.1 (hs p hp).2 v hv
        have hfl : (ps.toList.flatMap (·.2.cells.toList)).length = n * i.size := by
          have : ∀ l : List (Nat × Value), (∀ p ∈ l, p.2.cells.size = i.size) → (l.flatMap (·.2.cells.toList)).length = l.length * i.size := by
            intro l
            induction l with
            | nil => simp
            | cons p l ih => intro hl; simp only [List.flatMap_cons, List.length_append, ih (fun q hq => hl q (by simp [hq])), List.length_cons, Array.length_toList, hl p (by simp), Nat.add_mul]; omega
          rw [this _ fun p hp => (hs p hp).1, hlen]
        have fin : ∀ c : Array Value, c.size = n * i.size → sawp P (do
            let some cells := Instr.fill (fun j => some (j * i.size, i.size)) c ps.toList | stuck "buildSlice: a part of the wrong size"
            pure (.slice (some (← newRow e' cells)) n n)) K A := by
          intro c hc
          rw [fill_all i.size ps.toList 0 c (by rw [hf, hlen]) (fun p hp => (hs p hp).1) (by rw [hlen, hc, Nat.zero_add]; exact Nat.le_refl _)]
          simp only [Nat.zero_mul, List.take_zero, List.nil_append, Nat.zero_add, hlen]
          rw [List.drop_eq_nil_of_le (by simp [hc]), List.append_nil]
          show sawp P (Sem.bind (Sem.bind (Sem.new _ _) _) _) K A
          simp only [Sem.bind, sawp, pure]
          refine ⟨by simpa using hone, fun b hb => ?_⟩
          have := hk b hb
          simp only [List.size_toArray, hfl]
          exact this
        unfold alit Instr.buildSlice
        rw [sawp_underlying hu]
        simp only
        rw [sawp_sizeOf (n := i.size) (by simp [hi])]
        rw [if_neg (by simpa using hn)]
        by_cases h0 : n * i.size = 0
        · simp only [h0, if_true]
          show sawp P (Sem.bind (.pure _) _) K A
          simp only [Sem.bind]
          exact fin _ (by simp [h0])
        · simp only [h0, if_false]
          show sawp P (Sem.bind (Sem.bind (typeInfo e') _) _) K A
          rw [sawp_bind, show Sem.bind (typeInfo e') _ = (typeInfo e' >>= _) from rfl, sawp_typeInfo hi]
          simp only [hz]
          exact fin _ (by simp)
      · simp at h
    · simp at h
  · simp at h

theorem amake_at {t e : TypeId} {bytes n : Nat} {z : List Value} (h : makeT P t = some (e, bytes, z)) {kl kc : IntKind} (hb : bytes * n ≤ 140737488355328) (h63 : n ≤ 9223372036854775807)
    (hk : ∀ b, A b = none → K (.slice (some ⟨b, 0, none⟩) n n) (A.set b ⟨e, (List.replicate n z).flatten, n * z.length, true⟩)) : amake P t (.int kl n) (.int kc n) A K := by
  intro w hw
  unfold makeT at h
  split at h
  · rename_i e' hu
    split at h
    · rename_i i hi
      split at h
      · rename_i z' hz
        split at h
        · rename_i hc
          simp at h
          obtain ⟨rfl, rfl, rfl⟩ := h
          have hr := run_make (P := P) w t e' i z' hu hi hz kl kc n n (by omega) (Int.le_refl _) (by
            have : ((i.bytes * n : Nat) : Int) ≤ 281474976710656 := by
              have hb' := hb
              generalize i.bytes * n = q at hb'
              omega
            rwa [Int.natCast_mul] at this) (by omega)
          simp only [Int.toNat_natCast] at hr
          have hcells : (madeCells z'.cells (n * i.size)).toList = (List.replicate n z'.cells.toList).flatten := by
            rw [← hc.1]
            unfold madeCells
            rw [Array.toList_map, Array.toList_range]
            have : ∀ m : Nat, List.map (fun x => z'.cells[x % z'.cells.size]!) (List.range (m * z'.cells.size)) = (List.replicate m z'.cells.toList).flatten := by
              intro m
              induction m with
              | zero => simp
              | succ m ihm =>
                rw [List.replicate_succ', List.flatten_concat, show (m + 1) * z'.cells.size = m * z'.cells.size + z'.cells.size by rw [Nat.add_mul]; omega, List.range_add, List.map_append, ihm]
                congr 1
                apply List.ext_getElem
                · simp
                · intro j h1 h2
                  simp only [List.length_map, List.length_range] at h1
                  simp only [List.getElem_map, List.getElem_range, Nat.mul_add_mod_self_right, Nat.mod_eq_of_lt h1]
                  rw [getElem!_pos z'.cells j h1]
                  simp
            exact this n
          have hone : ∀ v ∈ (madeCells z'.cells (n * i.size)).toList, v.oneCell' = true := by
            rw [hcells]
            intro v hv
            obtain ⟨l, hl, hv⟩ := List.mem_flatten.1 hv
            rw [(List.mem_replicate.1 hl).2] at hv
            exact List.all_eq_true.1 hc.2 v hv
          have hn := hw.new e' (madeCells z'.cells (n * i.size)).toList hone []
          simp only [List.length_nil, Nat.add_zero, List.append_nil, Array.toArray_toList, Array.length_toList, size_madeCells] at hn
          rw [hcells] at hn
          have := hk w.heap.size hn.1
          rw [Array.length_toList, hc.1] at this
          exact ⟨_, _, _, hr, this, hn.2.1, hn.2.2⟩
        · simp at h
      · simp at h
    · simp at h
  · simp at h

/-! ### bundles -/
theorem ares_nil (R : Value → View → Prop) : ares P R fr A [] = R (.tuple #[]) A := rfl
theorem ares_tmp (R : Value → View → Prop) (t : Tmp) : ares P R fr A [.tmp t] = R (fr t) A := rfl
theorem ares_tmp2 (R : Value → View → Prop) (t u : Tmp) : ares P R fr A [.tmp t, .tmp u] = R (.tuple #[fr t, fr u]) A := rfl
theorem ares_tmp3 (R : Value → View → Prop) (t u s : Tmp) : ares P R fr A [.tmp t, .tmp u, .tmp s] = R (.tuple #[fr t, fr u, fr s]) A := rfl
theorem ares_cell (R : Value → View → Prop) (t : Tmp) (ty : TypeId) : ares P R fr A [.cell t ty] = aload P ty (fr t) A R := by
  simp only [ares, resVal, aload]
  cases fr t <;> try rfl
  rename_i a
  cases a <;> rfl
theorem ares_cell_tmp (R : Value → View → Prop) (t u : Tmp) (ty : TypeId) : ares P R fr A [.cell t ty, .tmp u] = aload P ty (fr t) A (fun v A => R (.tuple #[v, fr u]) A) := by
  simp only [ares, resVal, aload]
  cases fr t <;> try rfl
  rename_i a
  cases a with
  | none => rfl
  | some a => simp only; cases A.loadv P ty a <;> rfl
theorem ares_cell_tmp2 (R : Value → View → Prop) (t u s : Tmp) (ty : TypeId) : ares P R fr A [.cell t ty, .tmp u, .tmp s] = aload P ty (fr t) A (fun v A => R (.tuple #[v, fr u, fr s]) A) := by
  simp only [ares, resVal, aload]
  cases fr t <;> try rfl
  rename_i a
  cases a with
  | none => rfl
  | some a => simp only; cases A.loadv P ty a <;> rfl
theorem ares_tmp_cell (R : Value → View → Prop) (t u : Tmp) (ty : TypeId) : ares P R fr A [.tmp t, .cell u ty] = aload P ty (fr u) A (fun v A => R (.tuple #[fr t, v]) A) := by
  simp only [ares, resVal, aload]
  cases fr u <;> try rfl
  rename_i a
  cases a with
  | none => rfl
  | some a => simp only; cases A.loadv P ty a <;> rfl
theorem ares_cell2 (R : Value → View → Prop) (t u : Tmp) (ty tz : TypeId) : ares P R fr A [.cell t ty, .cell u tz] = aload P ty (fr t) A (fun v A => aload P tz (fr u) A fun v2 A => R (.tuple #[v, v2]) A) := by
  simp only [ares, resVal, aload]
  cases fr t <;> try rfl
  rename_i a
  cases a with
  | none => rfl
  | some a =>
    simp only
    cases A.loadv P ty a with
    | none => rfl
    | some v =>
      simp only
      cases fr u <;> try rfl
      rename_i a
      cases a with
      | none => rfl
      | some a => simp only; cases A.loadv P tz a <;> rfl
section
variable {α β : Type} (f : α → β)
theorem lm_toArray (l : List α) : l.toArray.map f = (l.map f).toArray := by simp
theorem lm_cons (a : α) (l : List α) : (a :: l).map f = f a :: l.map f := rfl
theorem lm_nil : ([] : List α).map f = [] := rfl
theorem lm_some (a : α) : (some a).map f = some (f a) := rfl
theorem lm_none : (none : Option α).map f = none := rfl
end
theorem ay_arr (l : List Oper) (fr : Fr) (j : Nat) : ayield l.toArray fr j = yv l[j]? fr := by unfold ayield; rw [List.getElem?_toArray]
theorem ay_zero (o : Oper) (l : List Oper) (fr : Fr) : yv (o :: l)[0]? fr = yv (some o) fr := rfl
theorem ay_succ (o : Oper) (l : List Oper) (fr : Fr) (n : Nat) : yv (o :: l)[n + 1]? fr = yv l[n]? fr := rfl
theorem ay_some (d : Tmp) (op : Op) (ty : TypeId) (ps : String) (af : Array Edge) (g : Option (Nat × Bool)) (fr : Fr) : yv (some ⟨some d, op, ty, ps, af, g⟩) fr = vbool (fr d) := rfl
theorem vb_undef : vbool undef = none := rfl
theorem aguard_none (want : Bool) (p q : Prop) : aguard none want p q = q := by simp [aguard]
theorem vb_bool (b : Bool) : vbool (.bool b) = some b := rfl
theorem stp : type_of% (And.intro @ay_arr (And.intro @ay_zero (And.intro @ay_succ (And.intro @ay_some (And.intro @ares_nil (And.intro @ares_tmp (And.intro @ares_tmp2 (And.intro @ares_tmp3 (And.intro @ares_cell (And.intro @ares_cell_tmp (And.intro @ares_cell_tmp2 (And.intro @ares_tmp_cell (And.intro @ares_cell2 (And.intro @awp_region (And.intro @awp_draw (And.intro @awp_seq (And.intro @awp_cond (And.intro @awp_block (And.intro @awp_loop (And.intro @awp_exit (And.intro @awp_ret (And.intro @awp_skip (And.intro @seqK_normal (And.intro @seqK_ret (And.intro @seqK_exit (And.intro @blockK_normal (And.intro @blockK_ret (And.intro @blockK_same (And.intro @fnPost_normal (And.intro @fnPost_ret (And.intro @aops_nil (And.intro @aops_plain (And.intro @aops_guard (And.intro @aop_move (And.intro @aop_assign (And.intro @aop_pick (And.intro @aop_alloc (And.intro @aop_box (And.intro @aop_build (And.intro @aop_lit (And.intro @aop_load (And.intro @aop_store (And.intro @aop_bin (And.intro @aop_un (And.intro @aop_conv (And.intro @aop_func (And.intro @aop_make (And.intro @aop_slice (And.intro @aop_faddr (And.intro @aop_field (And.intro @aop_iaddr (And.intro @aop_index (And.intro @aop_extract (And.intro @aop_call (And.intro @aop_append (And.intro @aop_copy (And.intro @aop_clear (And.intro @aop_len (And.intro @aop_cap (And.intro @aop_min (@aop_max))))))))))))))))))))))))))))))))))))))))))))))))))))))))))))) := And.intro @ay_arr (And.intro @ay_zero (And.intro @ay_succ (And.intro @ay_some (And.intro @ares_nil (And.intro @ares_tmp (And.intro @ares_tmp2 (And.intro @ares_tmp3 (And.intro @ares_cell (And.intro @ares_cell_tmp (And.intro @ares_cell_tmp2 (And.intro @ares_tmp_cell (And.intro @ares_cell2 (And.intro @awp_region (And.intro @awp_draw (And.intro @awp_seq (And.intro @awp_cond (And.intro @awp_block (And.intro @awp_loop (And.intro @awp_exit (And.intro @awp_ret (And.intro @awp_skip (And.intro @seqK_normal (And.intro @seqK_ret (And.intro @seqK_exit (And.intro @blockK_normal (And.intro @blockK_ret (And.intro @blockK_same (And.intro @fnPost_normal (And.intro @fnPost_ret (And.intro @aops_nil (And.intro @aops_plain (And.intro @aops_guard (And.intro @aop_move (And.intro @aop_assign (And.intro @aop_pick (And.intro @aop_alloc (And.intro @aop_box (And.intro @aop_build (And.intro @aop_lit (And.intro @aop_load (And.intro @aop_store (And.intro @aop_bin (And.intro @aop_un (And.intro @aop_conv (And.intro @aop_func (And.intro @aop_make (And.intro @aop_slice (And.intro @aop_faddr (And.intro @aop_field (And.intro @aop_iaddr (And.intro @aop_index (And.intro @aop_extract (And.intro @aop_call (And.intro @aop_append (And.intro @aop_copy (And.intro @aop_clear (And.intro @aop_len (And.intro @aop_cap (And.intro @aop_min (@aop_max))))))))))))))))))))))))))))))))))))))))))))))))))))))))))))

theorem vls : type_of% (And.intro @blockK_ne (And.intro @ev_tmp (And.intro @ev_const (And.intro @ev_func (And.intro @updO_at (And.intro @updO_none (And.intro @abin_add (And.intro @abin_sub (And.intro @abin_mul (And.intro @abin_lss (And.intro @abin_leq (And.intro @abin_gtr (And.intro @abin_geq (And.intro @abin_eql (And.intro @abin_neq (And.intro @abin_eqs (And.intro @abin_nes (And.intro @abin_cat (And.intro @aun_not (And.intro @apick_bool (And.intro @aextract_at (And.intro @aload_at (And.intro @acond_true (And.intro @acond_false (And.intro @acond_decide (And.intro @acond_bool (And.intro @aguard_true (And.intro @aguard_tf (And.intro @aguard_ft (And.intro @amin_int (And.intro @amax_int (And.intro @abuild_at (And.intro @someK_some (And.intro @Int.toNat_natCast (And.intro @Nat.mul_one (And.intro @lm_toArray (And.intro @lm_cons (And.intro @lm_nil (And.intro @lm_some (And.intro @lm_none (And.intro @vb_bool (And.intro @vb_undef (And.intro @aguard_none (And.intro @abr_true (And.intro @abr_false (And.intro @aguard_bt (And.intro @aguard_bf (@wrap_id)))))))))))))))))))))))))))))))))))))))))))))))) := And.intro @blockK_ne (And.intro @ev_tmp (And.intro @ev_const (And.intro @ev_func (And.intro @updO_at (And.intro @updO_none (And.intro @abin_add (And.intro @abin_sub (And.intro @abin_mul (And.intro @abin_lss (And.intro @abin_leq (And.intro @abin_gtr (And.intro @abin_geq (And.intro @abin_eql (And.intro @abin_neq (And.intro @abin_eqs (And.intro @abin_nes (And.intro @abin_cat (And.intro @aun_not (And.intro @apick_bool (And.intro @aextract_at (And.intro @aload_at (And.intro @acond_true (And.intro @acond_false (And.intro @acond_decide (And.intro @acond_bool (And.intro @aguard_true (And.intro @aguard_tf (And.intro @aguard_ft (And.intro @amin_int (And.intro @amax_int (And.intro @abuild_at (And.intro @someK_some (And.intro @Int.toNat_natCast (And.intro @Nat.mul_one (And.intro @lm_toArray (And.intro @lm_cons (And.intro @lm_nil (And.intro @lm_some (And.intro @lm_none (And.intro @vb_bool (And.intro @vb_undef (And.intro @aguard_none (And.intro @abr_true (And.intro @abr_false (And.intro @aguard_bt (And.intro @aguard_bf (@wrap_id)))))))))))))))))))))))))))))))))))))))))))))))

end Go.Proofs.YtggklaimbklefaaDoor

