/- Large regions, step by step. -/
import Derived.Test.YtggklaimbklefaaDoorC3
set_option maxHeartbeats 4000000
set_option synthInstance.maxHeartbeats 400000
set_option synthInstance.maxSize 4096
set_option linter.unusedSimpArgs false
set_option linter.unusedVariables false
namespace Go.Proofs.YtggklaimbklefaaDoor

set_option maxRecDepth 100000

def anilV (P : Program) (v : Value) (A : View) (K : Value → View → Prop) : Prop := sawp P (execOp (fun _ => v) ⟨none, .nilCheck (.tmp 0), 0, "", #[], none⟩) (nextK P K) A
theorem aop_nilV {P : Program} {A : View} {K : Value → View → Prop} {d : Option Tmp} {ty : TypeId} {ps : String} {af : Array Edge} {g : Option (Nat × Bool)} {ρ : Operand → Value} (x : Operand) : aop P ⟨d, .nilCheck x, ty, ps, af, g⟩ ρ A K = anilV P (ρ x) A K := Eq.trans rfl rfl
@[congr] theorem anilV_congr {P : Program} {A : View} {K : Value → View → Prop} {v v' : Value} (h1 : Mark v = v') : anilV P v A K = anilV P v' A K := by rw [← h1, mark_eq]
theorem anilV_ptr {P : Program} {A : View} {K : Value → View → Prop} (a : Addr) : anilV P (.pointer (some a)) A K = K (.pointer (some a)) A := Eq.trans rfl rfl
theorem abin_xor {P : Program} {A : View} {K : Value → View → Prop} (t : TypeId) (x y : Operand) (a b : Int) : abin P .xor t x y (.int .i64 a) (.int .i64 b) A K = K (.int .i64 (IntKind.i64.wrap (BitVec.ofInt 64 a ^^^ BitVec.ofInt 64 b).toNat)) A := Eq.trans rfl rfl
theorem xor_range {a b : Int} (ha : 0 ≤ a ∧ a < 9223372036854775808) (hb : 0 ≤ b ∧ b < 9223372036854775808) : ((BitVec.ofInt 64 a ^^^ BitVec.ofInt 64 b).toNat : Int) < 9223372036854775808 := by
  obtain ⟨n, rfl⟩ := Int.eq_ofNat_of_zero_le ha.1
  obtain ⟨m, rfl⟩ := Int.eq_ofNat_of_zero_le hb.1
  have h1 : (BitVec.ofInt 64 (n : Int)).toNat = n := by
    rw [BitVec.toNat_ofInt]
    omega
  have h2 : (BitVec.ofInt 64 (m : Int)).toNat = m := by
    rw [BitVec.toNat_ofInt]
    omega
  rw [BitVec.toNat_xor, h1, h2]
  have := Nat.xor_lt_two_pow (x := n) (y := m) (n := 63) (by omega) (by omega)
  omega

theorem abin_xor_ex {P : Program} {a b : Int} (ha : 0 ≤ a ∧ a < 9223372036854775808) (hb : 0 ≤ b ∧ b < 9223372036854775808) : ∃ Z : Nat, (Z : Int) < 9223372036854775808 ∧ ∀ (t : TypeId) (x y : Operand) (A : View) (K : Value → View → Prop), abin P .xor t x y (.int .i64 a) (.int .i64 b) A K = K (.int .i64 Z) A := by
  have hZ := xor_range ha hb
  refine ⟨_, hZ, fun t x y A K => ?_⟩
  rw [abin_xor]
  generalize (BitVec.ofInt 64 a ^^^ BitVec.ofInt 64 b).toNat = Z at hZ
  rw [wrap_id (by omega) (by omega)]

/-! ### large regions: the cheap test first -/
def pairOkF (ops : Array Oper) (i j : Nat) : Bool := (match ops[i]?, ops[j]? with
  | some a, some b => (quietOp a || allocOp b) && a.apart ops b
  | _, _ => false) || reach ops ops.size i j
theorem pairOkF_eq (ops : Array Oper) (i j : Nat) : pairOkF ops i j = pairOk ops i j := Bool.or_comm ..
def linOkF (ops : Array Oper) : List Nat → List Nat → Bool
  | _, [] => true
  | done, i :: L => (match ops[i]? with | some o => (needs o).all (done.contains ·) | none => false) && !L.contains i && L.all (pairOkF ops i) && linOkF ops (i :: done) L
theorem linOkF_eq (ops : Array Oper) : ∀ (L done : List Nat), linOkF ops done L = linOk ops done L
  | [], _ => rfl
  | i :: L, done => by
    unfold linOkF linOk
    rw [linOkF_eq ops L (i :: done), show pairOkF ops i = pairOk ops i from funext (pairOkF_eq ops i)]
    rfl
def drawOkF (ops : Array Oper) (L : List PItem) : Bool := ((List.range ops.size).all ((L.map (·.idx)).contains ·) && (L.map (·.idx)).all (· < ops.size) && linOkF ops [] (L.map (·.idx)) && Region.noSelect ops) && itemsOk ops [] L
theorem adraw_itemsF {P : Program} {id : Nat} {ops : Array Oper} {K : Fr → View → Prop} {fr : Fr} {A : View} (L : List PItem) (hp : drawOkF ops L = true) (hm : P.follows .mixedOrders = true) (h : bseq P ops K L [] fr A) : ADraw P id ops K fr A :=
  adraw_items L (by unfold drawOkF at hp; rw [linOkF_eq] at hp; exact hp) hm h

/-! ### frames are forgotten on the way -/
theorem awp_fr {P : Program} {c : Code} {K : Exit → Fr → View → Prop} {A : View} {fr : Fr} (i j k : Nat) (vi vj vk : Value) (hi : fr i = vi) (hj : fr j = vj) (hk : fr k = vk) (h : ∀ fr' : Fr, fr' i = vi → fr' j = vj → fr' k = vk → awp P c K fr' A) : awp P c K fr A := h fr hi hj hk
def PItem.plain : PItem → Bool
  | .q _ => true
  | .l _ late => !late
  | .c _ _ => false
theorem bseq_chunk {P : Program} {ops : Array Oper} {K : Fr → View → Prop} {L2 : List PItem} {A : View} (Q : Fr → Prop) (h2 : ∀ fr', Q fr' → bseq P ops K L2 [] fr' A) : ∀ (L1 : List PItem) (fr : Fr), L1.all PItem.plain = true → bseq P ops (fun fr' _ => Q fr') L1 [] fr A → bseq P ops K (L1 ++ L2) [] fr A
  | [], fr, _, h1 => h2 fr h1
  | it :: L1, fr, hL, h1 => by
    rw [List.all_cons, Bool.and_eq_true] at hL
    have ih := fun fr' => bseq_chunk Q h2 L1 fr' hL.2
    show bitem P ops it ops[it.idx]? [] fr A _
    replace h1 : bitem P ops it ops[it.idx]? [] fr A _ := h1
    unfold bitem at h1 ⊢
    cases ho : ops[it.idx]? with
    | none => rw [ho] at h1; exact h1.elim
    | some o =>
      rw [ho] at h1
      simp only at h1 ⊢
      cases it with
      | q i => exact awant_imp h1 (fun ⟨hn, h⟩ => ⟨hn, aop_mono (fun v A' h => ⟨h.1, ih _ h.2⟩) h⟩) (fun h => ih _ h)
      | l i late =>
        cases late with
        | true => cases hL.1
        | false =>
          dsimp only at h1 ⊢
          split at h1
          · refine awant_imp h1 (fun h => ?_) (fun h => ih _ h)
            unfold bload at h ⊢
            split at h
            · revert h
              cases hl : A.loadv P _ _ with
              | none => exact fun h => h.elim
              | some v => exact fun h => ih _ h
            · exact h.elim
          · exact h1.elim
      | c i ks => cases hL.1

/-! ### moves, with their value found at once -/
def amv (v : Value) (A : View) (K : Value → View → Prop) : Prop := K v A
@[congr] theorem amv_congr {v v' : Value} {A : View} {K : Value → View → Prop} (h1 : Mark v = v') : amv v A K = amv v' A K := by rw [← h1, mark_eq]
theorem amv_at (v : Value) (A : View) (K : Value → View → Prop) : amv v A K = K v A := Eq.trans rfl rfl
section
variable {P : Program} {A : View} {K : Value → View → Prop} (d : Option Tmp) (ty : TypeId) (ps : String) (af : Array Edge) (g : Option (Nat × Bool)) (ρ : Operand → Value)
theorem aop_moveV (x : Operand) : aop P ⟨d, .move x, ty, ps, af, g⟩ ρ A K = amv (ρ x) A K := Eq.trans rfl rfl
theorem aop_assignV (x : Operand) : aop P ⟨d, .assign x, ty, ps, af, g⟩ ρ A K = amv (ρ x) A K := Eq.trans rfl rfl
end

theorem stq : type_of% (And.intro @ay_arr (And.intro @ay_zero (And.intro @ay_succ (And.intro @ay_some (And.intro @ares_nil (And.intro @ares_tmp (And.intro @ares_tmp2 (And.intro @ares_tmp3 (And.intro @ares_cell (And.intro @ares_cell_tmp (And.intro @ares_cell_tmp2 (And.intro @ares_tmp_cell (And.intro @ares_cell2 (And.intro @awp_region (And.intro @awp_draw (And.intro @awp_seq (And.intro @awp_cond (And.intro @awp_block (And.intro @awp_loop (And.intro @awp_exit (And.intro @awp_ret (And.intro @awp_skip (And.intro @seqK_normal (And.intro @seqK_ret (And.intro @seqK_exit (And.intro @blockK_normal (And.intro @blockK_ret (And.intro @blockK_same (And.intro @fnPost_normal (And.intro @fnPost_ret (And.intro @aops_nil (And.intro @aops_plain (And.intro @aops_guard (And.intro @aop_moveV (And.intro @aop_assignV (And.intro @aop_pick (And.intro @aop_alloc (And.intro @aop_box (And.intro @aop_build (And.intro @aop_lit (And.intro @aop_load (And.intro @aop_store (And.intro @aop_bin (And.intro @aop_un (And.intro @aop_conv (And.intro @aop_func (And.intro @aop_make (And.intro @aop_slice (And.intro @aop_faddr (And.intro @aop_field (And.intro @aop_iaddr (And.intro @aop_index (And.intro @aop_extract (And.intro @aop_call (And.intro @aop_append (And.intro @aop_copy (And.intro @aop_clear (And.intro @aop_len (And.intro @aop_cap (And.intro @aop_min (@aop_max))))))))))))))))))))))))))))))))))))))))))))))))))))))))))))) := And.intro @ay_arr (And.intro @ay_zero (And.intro @ay_succ (And.intro @ay_some (And.intro @ares_nil (And.intro @ares_tmp (And.intro @ares_tmp2 (And.intro @ares_tmp3 (And.intro @ares_cell (And.intro @ares_cell_tmp (And.intro @ares_cell_tmp2 (And.intro @ares_tmp_cell (And.intro @ares_cell2 (And.intro @awp_region (And.intro @awp_draw (And.intro @awp_seq (And.intro @awp_cond (And.intro @awp_block (And.intro @awp_loop (And.intro @awp_exit (And.intro @awp_ret (And.intro @awp_skip (And.intro @seqK_normal (And.intro @seqK_ret (And.intro @seqK_exit (And.intro @blockK_normal (And.intro @blockK_ret (And.intro @blockK_same (And.intro @fnPost_normal (And.intro @fnPost_ret (And.intro @aops_nil (And.intro @aops_plain (And.intro @aops_guard (And.intro @aop_moveV (And.intro @aop_assignV (And.intro @aop_pick (And.intro @aop_alloc (And.intro @aop_box (And.intro @aop_build (And.intro @aop_lit (And.intro @aop_load (And.intro @aop_store (And.intro @aop_bin (And.intro @aop_un (And.intro @aop_conv (And.intro @aop_func (And.intro @aop_make (And.intro @aop_slice (And.intro @aop_faddr (And.intro @aop_field (And.intro @aop_iaddr (And.intro @aop_index (And.intro @aop_extract (And.intro @aop_call (And.intro @aop_append (And.intro @aop_copy (And.intro @aop_clear (And.intro @aop_len (And.intro @aop_cap (And.intro @aop_min (@aop_max))))))))))))))))))))))))))))))))))))))))))))))))))))))))))))

end Go.Proofs.YtggklaimbklefaaDoor

