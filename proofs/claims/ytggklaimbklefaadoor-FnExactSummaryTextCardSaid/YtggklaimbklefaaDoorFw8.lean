/- Plans with items: computations, reads (early, perhaps late), acts (and which reads they must leave as they were). -/
import Derived.Test.YtggklaimbklefaaDoorFw7
set_option maxHeartbeats 4000000
set_option synthInstance.maxHeartbeats 400000
set_option synthInstance.maxSize 4096
set_option linter.unusedSimpArgs false
set_option linter.unusedVariables false
namespace Go.Proofs.YtggklaimbklefaaDoor

def noView : View := fun _ => none

theorem sawp_dom {P : Program} {α : Type} {B : View} {J : α → Prop} (s : Sem α) : ∀ A : View, (∀ N, ∃ b, N ≤ b ∧ A b = none) → sawp P s (fun v A' => A' = B ∧ J v) A → ∀ b, A b ≠ none → B b ≠ none := by
  have fresh : ∀ (A : View) (b0 : Nat) (k : Blk), (∀ N, ∃ b, N ≤ b ∧ A b = none) → ∀ N, ∃ b, N ≤ b ∧ (A.set b0 k) b = none := by
    intro A b0 k hf N
    obtain ⟨b, hb, hn⟩ := hf (max N (b0 + 1))
    exact ⟨b, by omega, by rw [View.set_ne _ _ (by omega)]; exact hn⟩
  induction s with
  | pure a => exact fun A _ h b hb => h.1 ▸ hb
  | program k ih => exact fun A hf h => ih P A hf h
  | mark m k ih => exact fun A hf h => ih A hf h
  | load m a k ih =>
    intro A hf h
    simp only [sawp] at h
    split at h
    · exact ih _ A hf h
    · exact h.elim
  | store m a v k ih =>
    intro A hf h b hb
    simp only [sawp] at h
    split at h
    · refine ih _ (fresh A _ _ hf) h.2.2.2.2 b ?_
      by_cases hba : b = a.block
      · subst hba; rw [View.set_same]; simp
      · rw [View.set_ne _ _ hba]; exact hb
    · exact h.elim
  | new o k ih =>
    intro A hf h b hb
    cases o with
    | cells c e fz =>
      obtain ⟨f1, f2⟩ := fz
      cases f1 with
      | succ => exact h.elim
      | zero =>
        cases f2 with
        | succ => exact h.elim
        | zero =>
          obtain ⟨b0, _, hb0⟩ := hf 0
          refine ih b0 _ (fresh A _ _ hf) (h.2 b0 hb0) b ?_
          by_cases hbb : b = b0
          · subst hbb; rw [View.set_same]; simp
          · rw [View.set_ne _ _ hbb]; exact hb
    | _ => exact h.elim
  | shape r k ih =>
    intro A hf h
    simp only [sawp] at h
    split at h
    · exact ih _ A hf (h _ (Nat.le_refl _))
    · exact h.elim
  | freeze a n k ih =>
    intro A hf h b hb
    simp only [sawp] at h
    split at h
    · refine ih _ (fresh A _ _ hf) h.2 b ?_
      by_cases hba : b = a.block
      · subst hba; rw [View.set_same]; simp
      · rw [View.set_ne _ _ hba]; exact hb
    · exact h.elim
  | choose q k ih => exact fun A hf h => ih _ A hf (h.2 (q.cut 0) (.inr ⟨0, rfl⟩))
  | _ => exact fun A _ h => h.elim

/-- What comes out where nothing is known needs no memory. -/
theorem sawp_pure {P : Program} {α : Type} {J : α → Prop} (s : Sem α) (h : sawp P s (fun v A' => A' = noView ∧ J v) noView) : ∃ v, J v ∧ ∀ A (K : α → View → Prop), K v A → sawp P s K A := by
  induction s with
  | pure a => exact ⟨a, h.2, fun _ _ h => h⟩
  | program k ih => obtain ⟨v, hJ, hk⟩ := ih P h; exact ⟨v, hJ, fun A K h => hk A K h⟩
  | mark m k ih => obtain ⟨v, hJ, hk⟩ := ih h; exact ⟨v, hJ, fun A K h => hk A K h⟩
  | load m a k ih =>
    simp only [sawp] at h
    have : noView.cell a = none := by unfold View.cell noView; split <;> rfl
    rw [this] at h
    exact h.elim
  | store m a v k ih => exact (show False from h).elim
  | new o k ih =>
    cases o with
    | cells c e fz =>
      obtain ⟨f1, f2⟩ := fz
      cases f1 with
      | succ => exact h.elim
      | zero =>
        cases f2 with
        | succ => exact h.elim
        | zero =>
          have := sawp_dom (k 0) _ (fun N => ⟨N + 1, by omega, by rw [View.set_ne _ _ (by omega)]; rfl⟩) (h.2 0 rfl) 0 (by rw [View.set_same]; simp)
          exact absurd rfl this
    | _ => exact h.elim
  | shape r k ih => exact (show False from h).elim
  | freeze a n k ih => exact (show False from h).elim
  | choose q k ih =>
    obtain ⟨⟨b, kb, hb⟩, _⟩ := h
    exact (by cases hb)
  | _ => exact h.elim

def isLoad (o : Oper) : Bool := match o.op with | .load .. => true | _ => false

/-- The kinds of pointers that a check lets by. -/
def nilOk (o : Oper) (ρ : Operand → Value) : Bool := match o.op with
  | .nilCheck x => match ρ x with
    | .pointer (some _) => true
    | .func (.func _) _ _ => true
    | _ => false
  | _ => true

theorem aop_pure {P : Program} {o : Oper} {ρ : Operand → Value} {J : Value → Prop} (hq : quietOp o = true) (hn : nilOk o ρ = true) (hl : isLoad o = false) (h : aop P o ρ noView fun v A' => A' = noView ∧ J v) : ∃ v, J v ∧ ∀ A, Gives P o ρ A v := by
  obtain ⟨dst, op, ty, ps, af, g⟩ := o
  have val : ∀ (s : Sem Value) (he : execOp ρ ⟨dst, op, ty, ps, af, g⟩ = (do pure (Next.value (← s)))) (ha : ∀ A (K : Value → View → Prop), aop P ⟨dst, op, ty, ps, af, g⟩ ρ A K = sawp P (execOp ρ ⟨dst, op, ty, ps, af, g⟩) (nextK P K) A),
      ∃ v, J v ∧ ∀ A, Gives P ⟨dst, op, ty, ps, af, g⟩ ρ A v := by
    intro s he ha
    rw [ha, he, sawp_value] at h
    obtain ⟨v, hJ, hall⟩ := sawp_pure s h
    refine ⟨v, hJ, fun A => ?_⟩
    unfold Gives
    rw [ha, he, sawp_value]
    exact hall A _ ⟨rfl, rfl⟩
  cases op <;> simp only [quietOp, isLoad, nilOk] at hq hl hn <;> try (simp at hq; done)
  case move x => exact ⟨_, h.2, fun A => ⟨rfl, rfl⟩⟩
  case assign x => exact ⟨_, h.2, fun A => ⟨rfl, rfl⟩⟩
  case pick c x y =>
    rw [aop_pick] at h
    unfold apick at h
    split at h
    · rename_i b hb
      exact ⟨_, h.2, fun A => by unfold Gives; rw [aop_pick]; unfold apick; rw [hb]; exact ⟨rfl, rfl⟩⟩
    · exact h.elim
  case load => simp at hl
  case build t qs =>
    rw [aop_build] at h
    unfold abuild at h
    split at h
    · rename_i cells hc
      exact ⟨_, h.2, fun A => by unfold Gives; rw [aop_build]; unfold abuild; rw [hc]; exact ⟨rfl, rfl⟩⟩
    · exact h.elim
  case binOp bop t x y yt => exact val _ rfl fun _ _ => rfl
  case convert s t x => exact val _ rfl fun _ _ => rfl
  case unOp uop t x => exact val _ rfl fun _ _ => rfl
  case makeFunc fn xs ys => exact ⟨_, h.2, fun A => ⟨rfl, rfl⟩⟩
  case slice t x l hh m => exact val _ rfl fun _ _ => rfl
  case fieldAddr t x i => exact val _ rfl fun _ _ => rfl
  case field t x i => exact val _ rfl fun _ _ => rfl
  case indexAddr t x i => exact val _ rfl fun _ _ => rfl
  case index t x i => exact val _ rfl fun _ _ => rfl
  case extract t i => exact val _ rfl fun _ _ => rfl
  case nilCheck x =>
    have ha : ∀ A (K : Value → View → Prop), aop P ⟨dst, .nilCheck x, ty, ps, af, g⟩ ρ A K = sawp P (execOp ρ ⟨dst, .nilCheck x, ty, ps, af, g⟩) (nextK P K) A := fun _ _ => rfl
    rw [ha] at h
    have key : ∀ a, ρ x = .pointer (some a) → ∃ v, J v ∧ ∀ A, Gives P ⟨dst, .nilCheck x, ty, ps, af, g⟩ ρ A v := by
      intro a hx
      have he : execOp ρ ⟨dst, .nilCheck x, ty, ps, af, g⟩ = .pure (.value (.pointer (some a))) := by simp only [execOp, hx]; rfl
      rw [he] at h
      exact ⟨_, h.2, fun A => by unfold Gives; rw [ha, he]; exact ⟨rfl, rfl⟩⟩
    have keyf : ∀ f xs ys, ρ x = .func (.func f) xs ys → ∃ v, J v ∧ ∀ A, Gives P ⟨dst, .nilCheck x, ty, ps, af, g⟩ ρ A v := by
      intro f xs ys hx
      have he : execOp ρ ⟨dst, .nilCheck x, ty, ps, af, g⟩ = .pure (.value (.func (.func f) xs ys)) := by simp only [execOp, hx]; rfl
      rw [he] at h
      exact ⟨_, h.2, fun A => by unfold Gives; rw [ha, he]; exact ⟨rfl, rfl⟩⟩
    cases hx : ρ x with
    | pointer a =>
      cases a with
      | some a => exact key a hx
      | none => simp [hx] at hn
    | func fn xs ys =>
      cases fn with
      | func f => exact keyf f xs ys hx
      | _ => simp [hx] at hn
    | _ => simp [hx] at hn
  case call c =>
    obtain ⟨callee, args, ats⟩ := c
    cases callee with
    | builtin b => cases b <;> simp only [quietOp] at hq <;> first | (simp at hq; done) | exact val _ rfl fun _ _ => rfl
    | _ => simp at hq

/-! ### plans with items -/
/-- q: it computes; l: it reads (late: something that acts may come before it); c: it acts, and leaves what those reads read as it was. -/
inductive PItem where
  | q (i : Nat)
  | l (i : Nat) (late : Bool)
  | c (i : Nat) (ks : List Nat)

def PItem.idx : PItem → Nat
  | .q i => i
  | .l i _ => i
  | .c i _ => i

/-- A read that may still come. -/
structure Rd where
  idx : Nat
  ty : TypeId
  addr : Addr
  val : Value

def rdsKept (P : Program) (A : View) (ks : List Nat) : List Rd → Prop
  | [] => True
  | g :: W => (ks.contains g.idx = true → A.loadv P g.ty g.addr = some g.val) ∧ rdsKept P A ks W

def blate (late : Bool) (i : Nat) (t : TypeId) (a : Addr) (v : Value) (W : List Rd) : List Rd := if late then ⟨i, t, a, v⟩ :: W else W

def bload (P : Program) (x : Value) (t : TypeId) (A : View) (J : Addr → Value → Prop) : Prop := match x with
  | .pointer (some a) => someK (A.loadv P t a) (J a)
  | _ => False

def bitem (P : Program) (ops : Array Oper) (it : PItem) (o : Option Oper) (W : List Rd) (fr : Fr) (A : View) (J : List Rd → Fr → View → Prop) : Prop :=
  match o with
  | none => False
  | some o => match it with
    | .q _ => awant o.guard ops fr (nilOk o (ev fr) = true ∧ aop P o (ev fr) noView fun v A' => A' = noView ∧ J W (updO fr o.dst v) A) (J W (updO fr o.dst undef) A)
    | .l i late => match o.op with
      | .load t x => awant o.guard ops fr (bload P (ev fr x) t A fun a v => J (blate late i t a v W) (updO fr o.dst v) A) (J W (updO fr o.dst undef) A)
      | _ => False
    | .c _ ks => awant o.guard ops fr (aop P o (ev fr) A fun v A' => rdsKept P A' ks W ∧ J W (updO fr o.dst v) A') (J W (updO fr o.dst undef) A)

def bseq (P : Program) (ops : Array Oper) (K : Fr → View → Prop) : List PItem → List Rd → Fr → View → Prop
  | [], _, fr, A => K fr A
  | it :: L, W, fr, A => bitem P ops it ops[it.idx]? W fr A fun W fr A => bseq P ops K L W fr A

def itemsOk (ops : Array Oper) : List (Nat × Bool) → List PItem → Bool
  | _, [] => true
  | seen, .q i :: L => (match ops[i]? with | some o => quietOp o && !isLoad o | none => false) && itemsOk ops seen L
  | seen, .l i late :: L => (match ops[i]? with | some o => quietOp o && isLoad o | none => false) && itemsOk ops ((i, late) :: seen) L
  | seen, .c i ks :: L => (match ops[i]? with | some o => !quietOp o && (allocOp o || seen.all (fun (k, late) => reach ops ops.size k i || (late && ks.contains k))) | none => false) && itemsOk ops seen L

def Cov (P : Program) (seen : List (Nat × Bool)) (W : List Rd) (Wg : List Got) : Prop :=
  ∀ g ∈ Wg, (∀ A, g.fact A) ∨ (g.idx, false) ∈ seen ∨ ((g.idx, true) ∈ seen ∧ ∃ r ∈ W, r.idx = g.idx ∧ ∀ A, A.loadv P r.ty r.addr = some r.val → g.fact A)

theorem rdsKept_mem {P : Program} {A : View} {ks : List Nat} : ∀ {W : List Rd}, rdsKept P A ks W → ∀ r ∈ W, ks.contains r.idx = true → A.loadv P r.ty r.addr = some r.val
  | [], _, r, hr, _ => by cases hr
  | g :: W, h, r, hr, hk => by
    rcases List.mem_cons.1 hr with rfl | hr
    · exact h.1 hk
    · exact rdsKept_mem h.2 r hr hk

theorem bseq_aseq {P : Program} {ops : Array Oper} {K : Fr → View → Prop} : ∀ (L : List PItem) (seen : List (Nat × Bool)) (W : List Rd) (Wg : List Got) (fr : Fr) (A : View), itemsOk ops seen L = true → Cov P seen W Wg →
    bseq P ops K L W fr A → aseq P ops K (L.map (·.idx)) Wg fr A
  | [], _, _, _, _, _, _, _, h => h
  | it :: L, seen, W, Wg, fr, A, hok, hcov, h => by
    unfold bseq bitem at h
    unfold aseq
    simp only [List.map_cons]
    cases ho : ops[it.idx]? with
    | none => rw [ho] at h; exact h.elim
    | some o =>
      rw [ho] at h
      simp only at h ⊢
      cases it with
      | q i =>
        simp only [PItem.idx] at ho
        simp only [itemsOk, ho, Bool.and_eq_true, Bool.not_eq_true'] at hok
        refine awant_imp h (fun ⟨hn, h⟩ => ?_) (bseq_aseq L seen W Wg _ _ hok.2 hcov)
        rw [if_pos hok.1.1]
        obtain ⟨v, hJ, hg⟩ := aop_pure hok.1.1 hn hok.1.2 h
        refine ⟨v, hg A, bseq_aseq L seen W _ _ _ hok.2 (fun g hgm => ?_) hJ⟩
        rcases List.mem_cons.1 hgm with rfl | hgm
        · exact .inl hg
        · exact hcov g hgm
      | l i late =>
        simp only [PItem.idx] at ho
        simp only [itemsOk, ho, Bool.and_eq_true] at hok
        dsimp only at h
        split at h
        · rename_i t x hop
          have gv : ∀ (a : Addr) (v : Value), ev fr x = .pointer (some a) → ∀ B : View, B.loadv P t a = some v → Gives P o (ev fr) B v := by
            intro a v hx B hB
            unfold Gives aop
            rw [hop]
            simp only [hx, hB]
            exact ⟨trivial, trivial⟩
          have covs : ∀ g ∈ Wg, (∀ A, g.fact A) ∨ (g.idx, false) ∈ (i, late) :: seen ∨ ((g.idx, true) ∈ (i, late) :: seen ∧ ∃ r ∈ W, r.idx = g.idx ∧ ∀ A, A.loadv P r.ty r.addr = some r.val → g.fact A) := fun g hg => by
            rcases hcov g hg with h | h | ⟨h, r⟩
            · exact .inl h
            · exact .inr (.inl (List.mem_cons_of_mem _ h))
            · exact .inr (.inr ⟨List.mem_cons_of_mem _ h, r⟩)
          refine awant_imp h (fun h => ?_) (bseq_aseq L _ W Wg _ _ hok.2 covs)
          rw [if_pos hok.1.1]
          unfold bload at h
          split at h
          · rename_i a hx
            cases hl : A.loadv P t a with
            | none => rw [hl] at h; exact h.elim
            | some v =>
              rw [hl] at h
              refine ⟨v, gv a v hx A hl, bseq_aseq L ((i, late) :: seen) _ _ _ _ hok.2 (fun g hgm => ?_) h⟩
              unfold blate
              rcases List.mem_cons.1 hgm with rfl | hgm
              · cases late with
                | false => exact .inr (.inl (by simp [PItem.idx, gotOf]))
                | true => exact .inr (.inr ⟨by simp [PItem.idx, gotOf], ⟨i, t, a, v⟩, by simp, rfl, fun B hB => gv a v hx B hB⟩)
              · rcases covs g hgm with h | h | ⟨h, r, hr, h2⟩
                · exact .inl h
                · exact .inr (.inl h)
                · refine .inr (.inr ⟨h, r, ?_, h2⟩)
                  split
                  · exact List.mem_cons_of_mem _ hr
                  · exact hr
          · exact h.elim
        · exact h.elim
      | c i ks =>
        simp only [PItem.idx] at ho
        simp only [itemsOk, ho, Bool.and_eq_true, Bool.not_eq_true', List.all_eq_true, Bool.or_eq_true] at hok
        refine awant_imp h (fun h => ?_) (bseq_aseq L seen W Wg _ _ hok.2 hcov)
        rw [if_neg (by rw [hok.1.1]; simp)]
        refine aop_mono (fun v A' ⟨hk, h⟩ => ⟨fun hal g hg hre => ?_, bseq_aseq L seen W Wg _ _ hok.2 hcov h⟩) h
        have hseen := hok.1.2.resolve_left (by rw [hal]; simp)
        rcases hcov g hg with h1 | h1 | ⟨h1, r, hr, hri, hrf⟩
        · exact h1 A'
        · have := hseen _ h1
          simp only [PItem.idx] at hre
          simp [hre] at this
        · have := hseen _ h1
          simp only [PItem.idx] at hre
          simp only [hre, Bool.false_eq_true, false_or] at this
          exact hrf A' (rdsKept_mem hk r hr (by rw [hri]; exact this.2))

def drawOk (ops : Array Oper) (L : List PItem) : Bool := planOk ops (L.map (·.idx)) && itemsOk ops [] L

theorem adraw_items {P : Program} {id : Nat} {ops : Array Oper} {K : Fr → View → Prop} {fr : Fr} {A : View} (L : List PItem) (hp : drawOk ops L = true) (hm : P.follows .mixedOrders = true) (h : bseq P ops K L [] fr A) : ADraw P id ops K fr A := by
  unfold drawOk at hp
  simp only [Bool.and_eq_true] at hp
  exact adraw _ hp.1 hm (bseq_aseq L [] [] [] fr A hp.2 (fun g hg => by cases hg) h)

/-! ### for simp -/
section
variable {P : Program} {A : View} {fr : Fr} {ops : Array Oper} {K : Fr → View → Prop} {J : List Rd → Fr → View → Prop} {W : List Rd} {L : List PItem}
theorem bseq_nil : bseq P ops K [] W fr A = K fr A := rfl
theorem bseq_cons (it : PItem) : bseq P ops K (it :: L) W fr A = bitem P ops it ops[it.idx]? W fr A fun W fr A => bseq P ops K L W fr A := rfl
variable (d : Option Tmp) (ty : TypeId) (ps : String) (af : Array Edge)
theorem bitem_q (i : Nat) (op : Op) : bitem P ops (.q i) (some ⟨d, op, ty, ps, af, none⟩) W fr A J = (nilOk ⟨d, op, ty, ps, af, none⟩ (ev fr) = true ∧ aop P ⟨d, op, ty, ps, af, none⟩ (ev fr) noView fun v A' => A' = noView ∧ J W (updO fr d v) A) := rfl
theorem bitem_qg (i j : Nat) (w : Bool) (op : Op) : bitem P ops (.q i) (some ⟨d, op, ty, ps, af, some (j, w)⟩) W fr A J =
    aguard (ayield ops fr j) w (nilOk ⟨d, op, ty, ps, af, some (j, w)⟩ (ev fr) = true ∧ aop P ⟨d, op, ty, ps, af, some (j, w)⟩ (ev fr) noView fun v A' => A' = noView ∧ J W (updO fr d v) A) (J W (updO fr d undef) A) := rfl
theorem bitem_l (i : Nat) (late : Bool) (t : TypeId) (x : Operand) : bitem P ops (.l i late) (some ⟨d, .load t x, ty, ps, af, none⟩) W fr A J = bload P (ev fr x) t A fun a v => J (blate late i t a v W) (updO fr d v) A := rfl
theorem bitem_lg (i : Nat) (late : Bool) (t : TypeId) (x : Operand) (j : Nat) (w : Bool) : bitem P ops (.l i late) (some ⟨d, .load t x, ty, ps, af, some (j, w)⟩) W fr A J =
    aguard (ayield ops fr j) w (bload P (ev fr x) t A fun a v => J (blate late i t a v W) (updO fr d v) A) (J W (updO fr d undef) A) := rfl
theorem bitem_c (i : Nat) (ks : List Nat) (op : Op) : bitem P ops (.c i ks) (some ⟨d, op, ty, ps, af, none⟩) W fr A J = aop P ⟨d, op, ty, ps, af, none⟩ (ev fr) A fun v A' => rdsKept P A' ks W ∧ J W (updO fr d v) A' := rfl
theorem bitem_cg (i : Nat) (ks : List Nat) (op : Op) (j : Nat) (w : Bool) : bitem P ops (.c i ks) (some ⟨d, op, ty, ps, af, some (j, w)⟩) W fr A J =
    aguard (ayield ops fr j) w (aop P ⟨d, op, ty, ps, af, some (j, w)⟩ (ev fr) A fun v A' => rdsKept P A' ks W ∧ J W (updO fr d v) A') (J W (updO fr d undef) A) := rfl
theorem bload_at (t : TypeId) (a : Addr) (J : Addr → Value → Prop) : bload P (.pointer (some a)) t A J = someK (A.loadv P t a) (J a) := rfl
theorem blate_t (i : Nat) (t : TypeId) (a : Addr) (v : Value) : blate true i t a v W = ⟨i, t, a, v⟩ :: W := rfl
theorem blate_f (i : Nat) (t : TypeId) (a : Addr) (v : Value) : blate false i t a v W = W := rfl
theorem rdsKept_nil (ks : List Nat) : rdsKept P A ks [] = True := rfl
theorem rdsKept_none : rdsKept P A [] W = True := by
  induction W with
  | nil => rfl
  | cons g W ih => simp [rdsKept, ih]
theorem rdsKept_in (ks : List Nat) (i : Nat) (t : TypeId) (a : Addr) (v : Value) (h : ks.contains i = true) : rdsKept P A ks (⟨i, t, a, v⟩ :: W) = (A.loadv P t a = some v ∧ rdsKept P A ks W) := by simp only [rdsKept, h, true_implies]
theorem rdsKept_out (ks : List Nat) (i : Nat) (t : TypeId) (a : Addr) (v : Value) (h : ks.contains i = false) : rdsKept P A ks (⟨i, t, a, v⟩ :: W) = rdsKept P A ks W := by simp only [rdsKept, h, Bool.false_eq_true, false_implies, true_and]
theorem ayield_at (j : Nat) : ayield ops fr j = yv (ops[j]?) fr := rfl
end

end Go.Proofs.YtggklaimbklefaaDoor

