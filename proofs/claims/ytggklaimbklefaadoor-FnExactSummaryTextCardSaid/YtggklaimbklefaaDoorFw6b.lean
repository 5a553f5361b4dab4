/- What a block aside does not hinder; views that some world fits; operations that only make a block. -/
import Derived.Test.YtggklaimbklefaaDoorFw6
set_option maxHeartbeats 4000000
set_option synthInstance.maxHeartbeats 400000
set_option synthInstance.maxSize 4096
set_option linter.unusedSimpArgs false
set_option linter.unusedVariables false
namespace Go.Proofs.YtggklaimbklefaaDoor

theorem View.set_comm (A : View) {b c : Nat} (h : b ≠ c) (k k' : Blk) : (A.set b k).set c k' = (A.set c k').set b k := by
  funext x
  unfold View.set
  by_cases h1 : x = b
  · subst h1; simp [h]
  · simp [h1]

/-- The same, with a block aside. -/
def Aside {α : Type} (b : Nat) (k : Blk) (K : α → View → Prop) : α → View → Prop := fun a A' => ∃ A2, A' = A2.set b k ∧ A2 b = none ∧ K a A2

theorem ne_of_known {A : View} {b x : Nat} {k : Blk} (hb : A b = none) (hx : A x = some k) : x ≠ b := fun e => by rw [e, hb] at hx; cases hx

theorem cell_aside {A : View} {b : Nat} {k : Blk} (hb : A b = none) {a : Addr} {v : Value} (h : A.cell a = some v) : (A.set b k).cell a = some v := by
  obtain ⟨hs, ⟨k', hk, hc⟩, h1⟩ := View.cell_some h
  exact View.cell_mk hs (by rw [View.set_ne _ _ (ne_of_known hb hk)]; exact hk) hc h1

theorem loadv_aside {P : Program} {A : View} {b : Nat} {k : Blk} (hb : A b = none) {t : TypeId} {a : Addr} {v : Value} (h : A.loadv P t a = some v) : (A.set b k).loadv P t a = some v := by
  unfold View.loadv at h ⊢
  split at h
  · cases hp : A.part a _ with
    | none => rw [hp] at h; cases h
    | some cs =>
      obtain ⟨hs, k', hk, hl, e, h1⟩ := View.part_some hp
      have := View.part_mk (A := A.set b k) (a := a) hs (by rw [View.set_ne _ _ (ne_of_known hb hk)]; exact hk) hl (by rw [← e]; exact h1)
      rw [hp] at h
      rw [this, ← e]; exact h
  · exact cell_aside hb h
  · cases h

theorem sawp_aside {P : Program} {α : Type} {b : Nat} {kb : Blk} (s : Sem α) : ∀ {K : α → View → Prop} (A : View), A b = none → sawp P s K A → sawp P s (Aside b kb K) (A.set b kb) := by
  induction s with
  | pure a => exact fun A hb h => ⟨A, rfl, hb, h⟩
  | program k ih => exact fun A hb h => ih P A hb h
  | mark m k ih => exact fun A hb h => ih A hb h
  | load m a k ih =>
    intro K A hb h
    simp only [sawp] at h ⊢
    split at h
    · rename_i v hv
      rw [cell_aside hb hv]
      exact ih v A hb h
    · exact h.elim
  | store m a v k ih =>
    intro K A hb h
    simp only [sawp] at h ⊢
    split at h
    · rename_i k' hk
      have hne := ne_of_known hb hk
      rw [View.set_ne _ _ hne, hk]
      refine ⟨h.1, h.2.1, h.2.2.1, h.2.2.2.1, ?_⟩
      rw [View.set_comm _ (Ne.symm hne)]
      exact ih _ (by rw [View.set_ne _ _ (Ne.symm hne)]; exact hb) h.2.2.2.2
    · exact h.elim
  | new o k ih =>
    intro K A hb h
    cases o with
    | cells c e fz =>
      obtain ⟨f1, f2⟩ := fz
      cases f1 with
      | succ => exact h.elim
      | zero =>
        cases f2 with
        | succ => exact h.elim
        | zero =>
          refine ⟨h.1, fun b' hb' => ?_⟩
          have hne : b' ≠ b := fun e => by rw [e, View.set_same] at hb'; cases hb'
          rw [View.set_ne _ _ hne] at hb'
          rw [View.set_comm _ (Ne.symm hne)]
          exact ih b' _ (by rw [View.set_ne _ _ (Ne.symm hne)]; exact hb) (h.2 b' hb')
    | _ => exact h.elim
  | shape r k ih =>
    intro K A hb h
    simp only [sawp] at h ⊢
    split at h
    · rename_i k' hk
      rw [View.set_ne _ _ (ne_of_known hb hk), hk]
      exact fun n hn => ih _ A hb (h n hn)
    · exact h.elim
  | freeze a n k ih =>
    intro K A hb h
    simp only [sawp] at h ⊢
    split at h
    · rename_i k' hk
      have hne := ne_of_known hb hk
      rw [View.set_ne _ _ hne, hk]
      refine ⟨h.1, ?_⟩
      rw [View.set_comm _ (Ne.symm hne)]
      exact ih _ (by rw [View.set_ne _ _ (Ne.symm hne)]; exact hb) h.2
    · exact h.elim
  | choose q k ih => exact fun A hb h => ⟨⟨b, kb, View.set_same ..⟩, fun n hn => ih n A hb (h.2 n hn)⟩
  | _ => exact fun A _ h => h.elim

theorem rel_aside {A A2 : View} {w w' : World} {b : Nat} {k : Blk} (hb : A b = none) (hw : Rel (A.set b k) w) (hrel : Rel A2 w') (hst : Step A w A2 w') :
    A2 b = none ∧ Rel (A2.set b k) w' ∧ Step (A.set b k) w (A2.set b k) w' := by
  have hlt := hw.lt (View.set_same A b k)
  have hn : A2 b = none := by
    cases h2 : A2 b with
    | none => rfl
    | some k2 =>
      rcases hst.olds b k2 h2 with ⟨k0, h0⟩ | h0
      · rw [hb] at h0; cases h0
      · omega
  refine ⟨hn, fun x kx hx => ?_, ⟨hst.os, hst.tape, hst.output, hst.size, fun x hx hn => hst.kept x hx fun kx hkx => hn kx (by rw [View.set_ne _ _ (ne_of_known hb hkx)]; exact hkx), fun x kx hx ho => ?_, fun x kx hx => ?_⟩⟩
  · by_cases hxb : x = b
    · subst hxb
      rw [View.set_same] at hx
      obtain rfl := Option.some.inj hx
      rw [hst.kept x hlt (fun k hk => by rw [hb] at hk; cases hk)]
      exact hw x _ (View.set_same ..)
    · rw [View.set_ne _ _ hxb] at hx
      exact hrel x kx hx
  · by_cases hxb : x = b
    · subst hxb
      rw [View.set_same] at hx
      obtain rfl := Option.some.inj hx
      exact .inl ⟨_, View.set_same .., ho⟩
    · rw [View.set_ne _ _ hxb] at hx
      rcases hst.owns x kx hx ho with ⟨k0, h0, h1⟩ | h0
      · exact .inl ⟨k0, by rw [View.set_ne _ _ hxb]; exact h0, h1⟩
      · exact .inr h0
  · by_cases hxb : x = b
    · subst hxb
      exact .inl ⟨_, View.set_same ..⟩
    · rw [View.set_ne _ _ hxb] at hx
      rcases hst.olds x kx hx with ⟨k0, h0⟩ | h0
      · exact .inl ⟨k0, by rw [View.set_ne _ _ hxb]; exact h0⟩
      · exact .inr h0

theorem rel_less {A : View} {w : World} {b : Nat} {k : Blk} (hb : A b = none) (hw : Rel (A.set b k) w) : Rel A w := hw.forget fun x kx hx => by rw [View.set_ne _ _ (ne_of_known hb hx)]; exact hx

theorem comes_aside {P : Program} {α : Type} {s : Sem α} {K : α → View → Prop} {A : View} {b : Nat} {k : Blk} (hb : A b = none) (h : Comes1 P s K A) : Comes1 P s (Aside b k K) (A.set b k) := by
  intro w hw
  obtain ⟨a, w', A2, hr, hK, hrel, hst⟩ := h w (rel_less hb hw)
  obtain ⟨h1, h2, h3⟩ := rel_aside hb hw hrel hst
  exact ⟨a, w', _, hr, ⟨A2, rfl, h1, hK⟩, h2, h3⟩

theorem acalls_aside {P : Program} {f : FuncId} {args : Array Value} {K : Value → View → Prop} {A : View} {b : Nat} {k : Blk} (hb : A b = none) (h : ACalls P f args A K) : ACalls P f args (A.set b k) (Aside b k K) := by
  intro w hw
  refine (h w (rel_less hb hw)).mono ?_
  rintro e w' ⟨v, A2, he, hK, hrel, hst⟩
  obtain ⟨h1, h2, h3⟩ := rel_aside hb hw hrel hst
  exact ⟨v, _, he, ⟨A2, rfl, h1, hK⟩, h2, h3⟩

theorem nextK_aside {P : Program} {K : Value → View → Prop} {b : Nat} {k : Blk} {nx : Next} {A' : View} (h : Aside b k (nextK P K) nx A') : nextK P (Aside b k K) nx A' := by
  obtain ⟨A2, rfl, h1, h2⟩ := h
  cases nx with
  | value v => exact ⟨A2, rfl, h1, h2⟩
  | skip => exact ⟨A2, rfl, h1, h2⟩
  | enter f args => exact acalls_aside h1 h2
  | _ => exact h2.elim

theorem aop_aside {P : Program} {o : Oper} {ρ : Operand → Value} {K : Value → View → Prop} {A : View} {b : Nat} {k : Blk} (hb : A b = none) (h : aop P o ρ A K) : aop P o ρ (A.set b k) (Aside b k K) := by
  unfold aop at h ⊢
  split at h
  · exact comes_aside hb h
  · exact comes_aside hb h
  · exact comes_aside hb h
  · split at h
    · rename_i a ha
      split at h
      · rename_i v hv
        rw [loadv_aside hb hv]
        exact ⟨A, rfl, hb, h⟩
      · exact h.elim
    · exact h.elim
  · split at h
    · rename_i a ha
      split at h
      · rename_i A' hA'
        unfold View.storev at hA' ⊢
        split at hA'
        · rename_i k' hk
          have hne := ne_of_known hb hk
          rw [View.set_ne _ _ hne, hk]
          split at hA'
          · rename_i hc
            obtain rfl := Option.some.inj hA'
            simp only
            rw [if_pos hc]
            exact ⟨_, View.set_comm _ (Ne.symm hne) _ _, by rw [View.set_ne _ _ (Ne.symm hne)]; exact hb, h⟩
          · cases hA'
        · cases hA'
      · exact h.elim
    · exact h.elim
  · exact comes_aside hb h
  · split at h
    · exact ⟨A, rfl, hb, h⟩
    · exact h.elim
  · exact sawp_mono (fun nx A' h => nextK_aside h) _ _ (sawp_aside _ A hb h)

/-! ### some world fits -/
def Inh (A : View) : Prop := ∃ w, Rel A w

theorem sawp_inh {P : Program} {α : Type} (s : Sem α) : ∀ {K : α → View → Prop} (A : View), Inh A → sawp P s K A → sawp P s (fun a A' => K a A' ∧ Inh A') A := by
  induction s with
  | pure a => exact fun A hi h => ⟨h, hi⟩
  | program k ih => exact fun A hi h => ih P A hi h
  | mark m k ih => exact fun A hi h => ih A hi h
  | load m a k ih =>
    intro K A hi h
    simp only [sawp] at h ⊢
    split at h
    · exact ih _ A hi h
    · exact h.elim
  | store m a v k ih =>
    intro K A hi h
    simp only [sawp] at h ⊢
    cases hk : A a.block with
    | none => rw [hk] at h; exact h.elim
    | some k' =>
      rw [hk] at h
      refine ⟨h.1, h.2.1, h.2.2.1, h.2.2.2.1, ih _ ?_ h.2.2.2.2⟩
      obtain ⟨w, hw⟩ := hi
      have h1 : sawp P (Sem.store m a v (.pure ())) (fun _ A' => A' = A.set a.block ⟨k'.ty, k'.cells.set a.off v, k'.room, true⟩) A := by
        simp only [sawp, hk]
        exact ⟨h.1, h.2.1, h.2.2.1, h.2.2.2.1, trivial⟩
      obtain ⟨_, w', A', _, rfl, hrel, _⟩ := sawp_sound _ _ A h1 w hw
      exact ⟨w', hrel⟩
  | new o k ih =>
    intro K A hi h
    cases o with
    | cells c e fz =>
      obtain ⟨f1, f2⟩ := fz
      cases f1 with
      | succ => exact h.elim
      | zero =>
        cases f2 with
        | succ => exact h.elim
        | zero =>
          refine ⟨h.1, fun b hb => ih b _ ?_ (h.2 b hb)⟩
          obtain ⟨w, hw⟩ := hi
          exact hw.any hb (by simp) (fun _ => h.1)
    | _ => exact h.elim
  | shape r k ih =>
    intro K A hi h
    simp only [sawp] at h ⊢
    split at h
    · exact fun n hn => ih _ A hi (h n hn)
    · exact h.elim
  | freeze a n k ih =>
    intro K A hi h
    simp only [sawp] at h ⊢
    cases hk : A a.block with
    | none => rw [hk] at h; exact h.elim
    | some k' =>
      rw [hk] at h
      obtain ⟨w, hw⟩ := hi
      exact ⟨h.1, ih _ ⟨_, (hw.freeze hk h.1.1 h.1.2 n).1⟩ h.2⟩
  | choose q k ih => exact fun A hi h => ⟨h.1, fun n hn => ih n A hi (h.2 n hn)⟩
  | _ => exact fun A _ h => h.elim

theorem comes_inh {P : Program} {α : Type} {s : Sem α} {K : α → View → Prop} {A : View} (h : Comes1 P s K A) : Comes1 P s (fun a A' => K a A' ∧ Inh A') A := fun w hw =>
  let ⟨a, w', A', h1, h2, h3, h4⟩ := h w hw
  ⟨a, w', A', h1, ⟨h2, w', h3⟩, h3, h4⟩

theorem aop_inh {P : Program} {o : Oper} {ρ : Operand → Value} {K : Value → View → Prop} {A : View} (hi : Inh A) (h : aop P o ρ A K) : aop P o ρ A (fun v A' => K v A' ∧ Inh A') := by
  unfold aop at h ⊢
  split at h
  · exact comes_inh h
  · exact comes_inh h
  · exact comes_inh h
  · split at h
    · rename_i a ha
      split at h
      · exact ⟨h, hi⟩
      · exact h.elim
    · exact h.elim
  · split at h
    · rename_i a ha
      split at h
      · rename_i A' hA'
        obtain ⟨w, hw⟩ := hi
        obtain ⟨w', _, hrel, _⟩ := run_storev hA' hw
        exact ⟨h, w', hrel⟩
      · exact h.elim
    · exact h.elim
  · exact comes_inh h
  · split at h
    · exact ⟨h, hi⟩
    · exact h.elim
  · refine sawp_mono (fun nx A' h => ?_) _ _ (sawp_inh _ A hi h)
    obtain ⟨h, hi'⟩ := h
    cases nx with
    | value v => exact ⟨h, hi'⟩
    | skip => exact ⟨h, hi'⟩
    | enter f args => exact fun w hw => (h w hw).mono fun e w' ⟨v, A', he, hK, hrel, hst⟩ => ⟨v, A', he, ⟨hK, w', hrel⟩, hrel, hst⟩
    | _ => exact h.elim

theorem aop_some {P : Program} {o : Oper} {ρ : Operand → Value} {K : Value → View → Prop} {A : View} (hi : Inh A) (h : aop P o ρ A K) : ∃ v A', K v A' := by
  obtain ⟨w, hw⟩ := hi
  obtain ⟨nx, w', A', _, hK, hrel, _⟩ := aop_comes h w hw
  cases nx with
  | value v => exact ⟨v, A', hK⟩
  | skip => exact ⟨_, A', hK⟩
  | enter f args =>
    obtain ⟨e, w2, _, ⟨v, A2, _, hK2, _⟩, _⟩ := hK w' hrel []
    exact ⟨v, A2, hK2⟩
  | _ => exact hK.elim

/-! ### operations that only make a block -/
def allocOp (o : Oper) : Bool := match o.op with
  | .alloc _ => true
  | .buildSlice .. => true
  | _ => false

/-- It never comes, or it makes a block and gives what is told of it. -/
def Makes (P : Program) (s : Sem Value) : Prop := (∀ (A : View) (K : Value → View → Prop), ¬ sawp P s K A) ∨
  ∃ (k : Blk) (f : Nat → Value), ∀ (A : View) (K : Value → View → Prop), sawp P s K A ↔ ∀ b, A b = none → K (f b) (A.set b k)

theorem makes_row {P : Program} (e : TypeId) (cells : Array Value) (g : Nat → Value) : Makes P (do let b ← Sem.new (.cells cells e (0, 0)) .pure; pure (g b)) := by
  by_cases h1 : ∀ v ∈ cells.toList, v.oneCell' = true
  · refine .inr ⟨⟨e, cells.toList, cells.size, true⟩, g, fun A K => ?_⟩
    show sawp P (Sem.bind (Sem.new _ _) _) K A ↔ _
    simp only [Sem.bind, sawp, pure]
    exact ⟨fun h => h.2, fun h => ⟨h1, h⟩⟩
  · refine .inl fun A K h => h1 ?_
    have h : sawp P (Sem.bind (Sem.new _ _) _) K A := h
    simp only [Sem.bind, sawp] at h
    exact h.1

theorem Makes.congr {P : Program} {s s' : Sem Value} (h : ∀ (A : View) (K : Value → View → Prop), sawp P s K A = sawp P s' K A) (hm : Makes P s') : Makes P s := by
  rcases hm with hm | ⟨k, f, hm⟩
  · exact .inl fun A K => by rw [h]; exact hm A K
  · exact .inr ⟨k, f, fun A K => by rw [h]; exact hm A K⟩

theorem makes_alloc {P : Program} (t : TypeId) : Makes P (Instr.alloc t true (.tuple #[])) := by
  cases hi : P.info? t with
  | none =>
    refine .inl fun A K h => ?_
    unfold Instr.alloc at h
    have h : sawp P (Sem.bind (Sem.bind (typeInfo t) _) _) K A := h
    rw [sawp_bind, sawp_bind] at h
    unfold typeInfo at h
    have h : sawp P (Sem.bind (.program .pure) _) _ A := h
    simp only [Sem.bind, sawp, hi] at h
    exact h.elim
  | some i =>
    cases hz : i.zero with
    | none =>
      refine .inl fun A K h => ?_
      unfold Instr.alloc at h
      have h : sawp P (Sem.bind (Sem.bind (typeInfo t) _) _) K A := h
      rw [sawp_bind, show Sem.bind (typeInfo t) _ = (typeInfo t >>= _) from rfl, sawp_typeInfo hi] at h
      simp only [hz] at h
      exact h.elim
    | some z =>
      refine Makes.congr (s' := do let b ← Sem.new (.cells z.cells t (0, 0)) .pure; pure (.pointer (some ⟨b, 0, none⟩))) (fun A K => ?_) (makes_row t z.cells fun b => .pointer (some ⟨b, 0, none⟩))
      unfold Instr.alloc
      show sawp P (Sem.bind (Sem.bind (typeInfo t) _) _) K A = _
      rw [sawp_bind, show Sem.bind (typeInfo t) _ = (typeInfo t >>= _) from rfl, sawp_typeInfo hi]
      simp only [hz]
      rfl

theorem makes_lit {P : Program} (t : TypeId) (n : Nat) (ps : Array (Nat × Value)) : Makes P (Instr.buildSlice t n ps) := by
  cases hu : P.underlying t with
  | none =>
    refine .inl fun A K h => ?_
    unfold Instr.buildSlice at h
    have h : sawp P (Sem.bind (underlying t) _) K A := h
    rw [sawp_bind] at h
    unfold underlying at h
    have h : sawp P (Sem.bind (.program .pure) _) _ A := h
    simp only [Sem.bind, sawp, hu] at h
    exact h.elim
  | some d =>
    have e1 : ∀ (A : View) (K : Value → View → Prop), sawp P (Instr.buildSlice t n ps) K A = _ := fun A K => by unfold Instr.buildSlice; exact sawp_underlying hu _ K
    cases d with
    | slice e =>
      cases hi : P.info? e with
      | none =>
        refine .inl fun A K h => ?_
        rw [e1] at h
        have h : sawp P (Sem.bind (Sem.bind (typeInfo e) _) _) K A := h
        rw [sawp_bind, sawp_bind] at h
        unfold typeInfo at h
        have h : sawp P (Sem.bind (.program .pure) _) _ A := h
        simp only [Sem.bind, sawp, hi] at h
        exact h.elim
      | some i =>
        by_cases hn : n * i.size > 2 ^ 24
        · refine .inl fun A K h => ?_
          rw [e1] at h
          simp only at h
          rw [sawp_sizeOf (n := i.size) (by simp [hi]), if_pos hn] at h
          exact h.elim
        · have fin : ∀ c : Array Value, Makes P (do
              let some cells := Instr.fill (fun j => some (j * i.size, i.size)) c ps.toList | stuck "buildSlice: a part of the wrong size"
              pure (.slice (some (← newRow e cells)) n n)) := by
            intro c
            cases hf : Instr.fill (fun j => some (j * i.size, i.size)) c ps.toList with
            | none => exact .inl fun A K h => h.elim
            | some cells => exact Makes.congr (s' := do let b ← Sem.new (.cells cells e (0, 0)) .pure; pure (.slice (some ⟨b, 0, none⟩) n n)) (fun A K => rfl) (makes_row e cells fun b => .slice (some ⟨b, 0, none⟩) n n)
          by_cases h0 : n * i.size = 0
          · refine Makes.congr (fun A K => ?_) (fin ((Array.range (n * i.size)).map ((#[] : Array Value)[· % (#[] : Array Value).size]!)))
            rw [e1]
            simp only
            rw [sawp_sizeOf (n := i.size) (by simp [hi]), if_neg hn]
            simp only [h0, if_true]
            rfl
          · cases hz : i.zero with
            | none =>
              refine .inl fun A K h => ?_
              rw [e1] at h
              simp only at h
              rw [sawp_sizeOf (n := i.size) (by simp [hi]), if_neg hn] at h
              simp only [h0, if_false] at h
              have h : sawp P (Sem.bind (Sem.bind (typeInfo e) _) _) K A := h
              rw [sawp_bind, show Sem.bind (typeInfo e) _ = (typeInfo e >>= _) from rfl, sawp_typeInfo hi] at h
              simp only [hz] at h
              exact h.elim
            | some z =>
              refine Makes.congr (fun A K => ?_) (fin ((Array.range (n * i.size)).map (z.cells[· % z.cells.size]!)))
              rw [e1]
              simp only
              rw [sawp_sizeOf (n := i.size) (by simp [hi]), if_neg hn]
              simp only [h0, if_false]
              show sawp P (Sem.bind (Sem.bind (typeInfo e) _) _) K A = _
              rw [sawp_bind, show Sem.bind (typeInfo e) _ = (typeInfo e >>= _) from rfl, sawp_typeInfo hi]
              simp only [hz]
              rfl
    | _ =>
      refine .inl fun A K h => ?_
      rw [e1] at h
      exact h.elim

theorem aop_makes {P : Program} {o : Oper} (ho : allocOp o = true) (ρ : Operand → Value) : (∀ (A : View) (K : Value → View → Prop), ¬ aop P o ρ A K) ∨
    ∃ (k : Blk) (f : Nat → Value), ∀ (A : View) (K : Value → View → Prop), aop P o ρ A K ↔ ∀ b, A b = none → K (f b) (A.set b k) := by
  obtain ⟨dst, op, ty, ps, af, g⟩ := o
  cases op <;> simp only [allocOp] at ho <;> try (simp at ho; done)
  case alloc t =>
    rcases makes_alloc (P := P) t with hm | ⟨k, f, hm⟩
    · exact .inl fun A K => by rw [aop_alloc]; exact hm A K
    · exact .inr ⟨k, f, fun A K => by rw [aop_alloc]; exact hm A K⟩
  case buildSlice t n qs =>
    rcases makes_lit (P := P) t n (qs.map fun (i, x) => (i, ρ x)) with hm | ⟨k, f, hm⟩
    · exact .inl fun A K => by rw [aop_lit]; exact hm A K
    · exact .inr ⟨k, f, fun A K => by rw [aop_lit]; exact hm A K⟩

end Go.Proofs.YtggklaimbklefaaDoor

