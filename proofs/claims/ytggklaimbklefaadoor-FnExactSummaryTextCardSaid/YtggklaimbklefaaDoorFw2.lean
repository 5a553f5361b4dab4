/- A weakest precondition over views, for the model's single operations and for its code; it is sound for every world that fits the view. -/
import Derived.Test.YtggklaimbklefaaDoorFw1
set_option maxHeartbeats 4000000
set_option synthInstance.maxHeartbeats 400000
set_option synthInstance.maxSize 4096
set_option linter.unusedSimpArgs false
set_option linter.unusedVariables false
namespace Go.Proofs.YtggklaimbklefaaDoor

abbrev Fr := Nat → Value
def upd (fr : Fr) (t : Nat) (v : Value) : Fr := fun s => if s = t then v else fr s
def updO (fr : Fr) (t : Option Nat) (v : Value) : Fr := match t with | some t => upd fr t v | none => fr
def ev (fr : Fr) : Operand → Value
  | .tmp t => fr t
  | .const v => v
  | .global g => .pointer (some ⟨g, 0, none⟩)
  | .func f => .func (.func f) #[] #[]

/-- A contract: called in any world that fits the view 'A', the function returns; what it returns and a view of the world behind it meet 'R'. -/
def ACalls (P : Program) (f : FuncId) (args : Array Value) (A : View) (R : Value → View → Prop) : Prop :=
  ∀ w, Rel A w → Calls P f args w fun e w' => ∃ v A', e = .returned v ∧ R v A' ∧ Rel A' w' ∧ Step A w A' w'

theorem ACalls.mono {P : Program} {f : FuncId} {args : Array Value} {A : View} {R R' : Value → View → Prop} (h : ACalls P f args A R) (hr : ∀ v A', R v A' → R' v A') : ACalls P f args A R' :=
  fun w hw => (h w hw).mono fun _ _ ⟨v, A', he, hR, hrel, hs⟩ => ⟨v, A', he, hr _ _ hR, hrel, hs⟩

/-- Less is told of some blocks. -/
def Weaker (B A : View) : Prop := ∀ b k2, B b = some k2 → ∃ k, A b = some k ∧ k2.own = k.own ∧ (k2 = k ∨ k.own = true ∧ k2.ty = k.ty ∧ k2.room ≤ k.room ∧ k2.cells.length ≤ k2.room ∧ ∃ rest, k.cells = k2.cells ++ rest)
theorem Weaker.rel {A B : View} {w : World} (h : Weaker B A) (hw : Rel A w) : Rel B w := fun b k2 hb => by
  obtain ⟨k, hk, ho, rfl | ⟨ho2, ht, hr, hl, rest, hc⟩⟩ := h b k2 hb
  · exact hw b _ hk
  obtain ⟨⟨c, fz, h1, h2, h3, h4, h5⟩, h6, _⟩ := hw b k hk
  refine ⟨⟨c, fz, by rw [ht]; exact h1, by omega, hl, ?_, fun e => h5 (by rw [← ho]; exact e)⟩, fun e v hv => h6 (by rw [← ho]; exact e) v (by rw [hc]; exact List.mem_append_left _ hv), fun e => by rw [ho, ho2] at e; cases e⟩
  have : (c.toList.take k.cells.length).take k2.cells.length = k2.cells := by rw [h4, hc, List.take_left']; rfl
  rw [List.take_take, Nat.min_eq_left (by rw [hc, List.length_append]; omega)] at this
  exact this
theorem Weaker.step {A B C : View} {w w' : World} (h : Weaker B A) (hs : Step C w A w') : Step C w B w' :=
  ⟨hs.os, hs.tape, hs.output, hs.size, hs.kept, fun b k hk ho => by
    obtain ⟨k', hk', ho', _⟩ := h b k hk
    exact hs.owns b k' hk' (by rw [← ho']; exact ho), fun b k hk => by
    obtain ⟨k', hk', _⟩ := h b k hk
    exact hs.olds b k' hk'⟩
theorem Weaker.set {A : View} {b : Nat} {k k2 : Blk} (hb : A b = some k) (ho : k2.own = k.own) (h : k2.ty = k.ty ∧ k2.room ≤ k.room ∧ k2.cells.length ≤ k2.room ∧ ∃ rest, k.cells = k2.cells ++ rest) (ho2 : k.own = true := by rfl) : Weaker (A.set b k2) A := fun x kx hx => by
  by_cases hxb : x = b
  · subst hxb
    rw [View.set_same] at hx
    obtain rfl := Option.some.inj hx
    exact ⟨k, hb, ho, .inr ⟨ho2, h⟩⟩
  · rw [View.set_ne _ _ hxb] at hx
    exact ⟨kx, hx, rfl, .inl rfl⟩
theorem ACalls.weaken {P : Program} {f : FuncId} {args : Array Value} {A : View} {R R' : Value → View → Prop} (h : ACalls P f args A R) (hr : ∀ v A', R v A' → ∃ B, Weaker B A' ∧ R' v B) : ACalls P f args A R' :=
  fun w hw => (h w hw).mono fun _ _ ⟨v, A', he, hR, hrel, hs⟩ => let ⟨B, hB, hR'⟩ := hr _ _ hR; ⟨v, B, he, hR', hB.rel hrel, hB.step hs⟩

/-! ### the model's little programs -/
/-- What a question may be answered. -/
def Ans (q : Question) (n : Nat) : Prop := (q.forced = true ∧ n = 0) ∨ ∃ t, n = q.cut t
def sawp (P : Program) {α : Type} : Sem α → (α → View → Prop) → View → Prop
  | .pure a, K, A => K a A
  | .program k, K, A => sawp P (k P) K A
  | .mark _ k, K, A => sawp P k K A
  | .load _ a k, K, A => match A.cell a with
    | some v => sawp P (k v) K A
    | none => False
  | .store _ a v k, K, A => match A a.block with
    | some b => a.spot = none ∧ b.own = true ∧ a.off < b.cells.length ∧ v.oneCell' = true ∧ sawp P k K (A.set a.block ⟨b.ty, b.cells.set a.off v, b.room, true⟩)
    | none => False
  | .new (.cells c e (0, 0)) k, K, A => (∀ v ∈ c.toList, v.oneCell' = true) ∧ ∀ b, A b = none → sawp P (k b) K (A.set b ⟨e, c.toList, c.size, true⟩)
  | .shape r k, K, A => match A r with
    | some b => ∀ n, b.room ≤ n → sawp P (k (some (b.ty, n))) K A
    | none => False
  | .freeze a _ k, K, A => match A a.block with
    | some b => (b.own = true ∧ 0 < b.room) ∧ sawp P k K (A.set a.block ⟨b.ty, [], b.room, false⟩)
    | none => False
  | .choose q k, K, A => (∃ b kb, A b = some kb) ∧ ∀ n, Ans q n → sawp P (k n) K A
  | _, _, _ => False

/-- What 'sawp' says of a run. -/
def Comes1 (P : Program) {α : Type} (s : Sem α) (K : α → View → Prop) (A : View) : Prop :=
  ∀ w, Rel A w → ∃ a w' A', s.run P w = .ok a w' ∧ K a A' ∧ Rel A' w' ∧ Step A w A' w'

theorem sawp_sound {P : Program} {α : Type} (s : Sem α) (K : α → View → Prop) : ∀ A, sawp P s K A → Comes1 P s K A := by
  induction s with
  | pure a => exact fun A h w hw => ⟨a, w, A, rfl, h, hw, Step.refl A w⟩
  | program k ih => exact fun A h w hw => ih P A h w hw
  | mark m k ih => exact fun A h w hw => ih A h w hw
  | load m a k ih =>
    intro A h w hw
    simp only [sawp] at h
    split at h
    · rename_i v hv
      obtain ⟨x, w', A', hr, hK, hrel, hst⟩ := ih v A h w hw
      exact ⟨x, w', A', by simp only [Sem.run, hw.cell hv, hr], hK, hrel, hst⟩
    · exact h.elim
  | store m a v k ih =>
    intro A h w hw
    simp only [sawp] at h
    split at h
    · rename_i b hb
      obtain ⟨hs, ho, hlt, h1, h⟩ := h
      obtain ⟨⟨c, fz, hc, hsz, hle, ht, hf⟩, hone⟩ := hw _ _ hb; have hone := hone ho
      obtain rfl := hf ho
      have hlc : a.off < c.size := by omega
      have ha : a = ⟨a.block, a.off, none⟩ := by rw [← hs]
      have hcell : w.cell? a = some c[a.off] := by simp [World.cell?, hc, hs, hlc]
      have hfro : w.frozen? a = false := by simp [World.frozen?, hc]
      have hset : w.setCell a v = w.setRow a.block (c.setIfInBounds a.off v) := by
        rw [ha]; exact setCell_eq_setRow w a.block a.off c b.ty (0, 0) v hc
      have hw1 := hw.write (c' := c.setIfInBounds a.off v) (cs := b.cells.set a.off v) hb ho (by simpa using hle) (by simpa using hsz) (by
        rw [Array.toList_setIfInBounds, List.length_set, List.take_set, ht]) (fun u hu => by
        rcases List.mem_or_eq_of_mem_set hu with h | h
        · exact hone u h
        · exact h ▸ h1)
      obtain ⟨x, w', A', hr, hK, hrel, hst⟩ := ih _ h _ hw1.1
      refine ⟨x, w', A', ?_, hK, hrel, hw1.2.trans hst⟩
      rw [← hset] at hr
      cases v <;> first
        | (simp [Value.oneCell'] at h1; done)
        | (simp only [Sem.run, hcell, hfro]; exact hr)
    · exact h.elim
  | new o k ih =>
    intro A h w hw
    cases o with
    | cells c e fz =>
      obtain ⟨f1, f2⟩ := fz
      cases f1 with
      | succ => exact h.elim
      | zero =>
        cases f2 with
        | succ => exact h.elim
        | zero =>
          obtain ⟨h1, h⟩ := h
          have hn := hw.new e c.toList h1 []
          simp only [List.length_nil, Nat.add_zero, List.append_nil, Array.toArray_toList, Array.length_toList] at hn
          obtain ⟨x, w', A', hr, hK, hrel, hst⟩ := ih _ _ (h _ hn.1) _ hn.2.1
          exact ⟨x, w', A', by simp only [Sem.run]; exact hr, hK, hrel, hn.2.2.trans hst⟩
    | _ => exact h.elim
  | shape r k ih =>
    intro A h w hw
    simp only [sawp] at h
    split at h
    · rename_i b hb
      obtain ⟨⟨c, fz, hc, hsz, _⟩, _⟩ := hw _ _ hb
      obtain ⟨x, w', A', hr, hK, hrel, hst⟩ := ih _ A (h c.size hsz) w hw
      have e : w.shape? r = some (b.ty, c.size) := by simp [World.shape?, hc]
      exact ⟨x, w', A', by simp only [Sem.run, e, hr], hK, hrel, hst⟩
    · exact h.elim
  | freeze a n k ih =>
    intro A h w hw
    simp only [sawp] at h
    split at h
    · rename_i b hb
      have hw1 := hw.freeze hb h.1.1 h.1.2 n
      obtain ⟨x, w', A', hr, hK, hrel, hst⟩ := ih _ h.2 _ hw1.1
      exact ⟨x, w', A', by simp only [Sem.run]; exact hr, hK, hrel, hw1.2.trans hst⟩
    · exact h.elim
  | choose q k ih =>
    intro A h w hw
    by_cases hq : q.forced = true
    · obtain ⟨x, w', A', hr, hK, hrel, hst⟩ := ih 0 A (h.2 0 (.inl ⟨hq, rfl⟩)) w hw
      exact ⟨x, w', A', by simp only [Sem.run]; rw [if_pos hq]; exact hr, hK, hrel, hst⟩
    · obtain ⟨x, w', A', hr, hK, hrel, hst⟩ := ih _ A (h.2 (q.cut (w.tape w.drawn q)) (.inr ⟨_, rfl⟩)) _ hw.drew
      exact ⟨x, w', A', by simp only [Sem.run]; rw [if_neg hq]; exact hr, hK, hrel, (Step.drew A w).trans hst⟩
  | _ => exact fun A h => h.elim

theorem sawp_mono {P : Program} {α : Type} {K K' : α → View → Prop} (hK : ∀ a A, K a A → K' a A) (s : Sem α) : ∀ A, sawp P s K A → sawp P s K' A := by
  induction s with
  | pure a => exact fun A h => hK _ _ h
  | program k ih => exact fun A h => ih P A h
  | mark m k ih => exact fun A h => ih A h
  | load m a k ih =>
    intro A h
    simp only [sawp] at h ⊢
    split at h
    · exact ih _ A h
    · exact h.elim
  | store m a v k ih =>
    intro A h
    simp only [sawp] at h ⊢
    split at h
    · exact ⟨h.1, h.2.1, h.2.2.1, h.2.2.2.1, ih _ h.2.2.2.2⟩
    · exact h.elim
  | new o k ih =>
    intro A h
    cases o with
    | cells c e fz =>
      obtain ⟨f1, f2⟩ := fz
      cases f1 with
      | succ => exact h.elim
      | zero =>
        cases f2 with
        | succ => exact h.elim
        | zero => exact ⟨h.1, fun b hb => ih b _ (h.2 b hb)⟩
    | _ => exact h.elim
  | shape r k ih =>
    intro A h
    simp only [sawp] at h ⊢
    split at h
    · exact fun n hn => ih _ A (h n hn)
    · exact h.elim
  | freeze a n k ih =>
    intro A h
    simp only [sawp] at h ⊢
    split at h
    · exact ⟨h.1, ih _ h.2⟩
    · exact h.elim
  | choose q k ih => exact fun A h => ⟨h.1, fun n hn => ih n A (h.2 n hn)⟩
  | _ => exact fun A h => h.elim

/-- A little program of two parts. -/
theorem sawp_bind {P : Program} {α β : Type} (s : Sem α) (f : α → Sem β) (K : β → View → Prop) : ∀ A, sawp P (s.bind f) K A = sawp P s (fun a A => sawp P (f a) K A) A := by
  induction s with
  | pure a => exact fun A => rfl
  | program k ih => exact fun A => ih P A
  | mark m k ih => exact fun A => ih A
  | load m a k ih =>
    intro A
    simp only [Sem.bind, sawp]
    split
    · exact ih _ A
    · rfl
  | store m a v k ih =>
    intro A
    simp only [Sem.bind, sawp]
    split
    · rw [ih]
    · rfl
  | new o k ih =>
    intro A
    cases o with
    | cells c e fz =>
      obtain ⟨f1, f2⟩ := fz
      cases f1 with
      | succ => rfl
      | zero =>
        cases f2 with
        | succ => rfl
        | zero => simp only [Sem.bind, sawp, ih]
    | _ => rfl
  | shape r k ih =>
    intro A
    simp only [Sem.bind, sawp, ih]
  | freeze a n k ih =>
    intro A
    simp only [Sem.bind, sawp, ih]
  | choose q k ih =>
    intro A
    simp only [Sem.bind, sawp, ih]
  | _ => exact fun A => rfl

/-- A type's layout: is it an aggregate, and how many cells has it. -/
def isAggD : TypeDesc → Bool
  | .struct _ => true
  | .array _ _ => true
  | _ => false
def lay (P : Program) (t : TypeId) : Option (Bool × Nat) :=
  match P.underlying t, P.info? t with
  | some d, some i => some (isAggD d, i.size)
  | _, _ => none

def View.loadv (A : View) (P : Program) (t : TypeId) (a : Addr) : Option Value :=
  match lay P t with
  | some (true, n) => (A.part a n).map fun cs => .agg cs.toArray
  | some (false, _) => A.cell a
  | none => none

theorem run_loadv {P : Program} {A : View} {w : World} {t : TypeId} {a : Addr} {v : Value} (h : A.loadv P t a = some v) (hw : Rel A w) : (loadVar t a).run P w = .ok v w := by
  unfold View.loadv lay at h
  cases hu : P.underlying t with
  | none => simp [hu] at h
  | some d =>
    cases hi : P.info? t with
    | none => simp [hu, hi] at h
    | some i =>
      have agg : (isAgg t).run P w = .ok (isAggD d) w := by
        cases d <;> simp [isAgg, run_underlying hu, isAggD]
      simp only [hu, hi] at h
      cases hd : isAggD d with
      | true =>
        rw [hd] at agg
        simp [hd] at h
        obtain ⟨cs, hcs, rfl⟩ := h
        obtain ⟨hl, hc, _⟩ := hw.part hcs
        have := run_loadCells_list (P := P) w a cs hc
        rw [hl] at this
        simp [loadVar, agg, sizeOf, typeInfo, hi, this]
      | false =>
        rw [hd] at agg
        simp [hd] at h
        simp [loadVar, agg, load, Sem.run, hw.cell h]

/-- A variable written. -/
def View.storev (A : View) (P : Program) (t : TypeId) (a : Addr) (v : Value) : Option View :=
  match A a.block with
  | some k => if a.spot = none ∧ k.own = true ∧ (P.info? t).map (·.size) = some v.cells.size ∧ a.off + v.cells.size ≤ k.cells.length ∧ v.cells.toList.all (·.oneCell') = true then
      some (A.set a.block ⟨k.ty, k.cells.take a.off ++ v.cells.toList ++ k.cells.drop (a.off + v.cells.size), k.room, true⟩) else none
  | none => none

theorem run_storev {P : Program} {A A' : View} {w : World} {t : TypeId} {a : Addr} {v : Value} (h : A.storev P t a v = some A') (hw : Rel A w) : ∃ w', (storeVar t a v).run P w = .ok () w' ∧ Rel A' w' ∧ Step A w A' w' := by
  unfold View.storev at h
  split at h
  · rename_i k hk
    split at h
    · rename_i hc
      obtain ⟨hs, ho, hsz, hle, h1⟩ := hc
      obtain rfl := Option.some.inj h
      obtain ⟨⟨c, fz, hcell, hcs, hl, ht, hf⟩, hone⟩ := hw _ _ hk; have hone := hone ho
      obtain rfl := hf ho
      have h1' : ∀ u ∈ v.cells.toList, u.oneCell' = true := List.all_eq_true.1 h1
      have ha : a = ⟨a.block, a.off, none⟩ := by rw [← hs]
      have hrun := run_storeCells_at (P := P) a.block a.off k.ty v.cells.toList 0 c w hcell (by simp; omega) h1'
      simp only [Nat.add_zero] at hrun
      have hsz' : (sizeOf t).run P w = .ok v.cells.size w := by
        cases hi : P.info? t with
        | none => simp [hi] at hsz
        | some i => simp [hi] at hsz; simp [sizeOf, typeInfo, hi, hsz]
      have hlen : v.cells.toList.length = v.cells.size := by simp
      have hget : ∀ j, j < k.cells.length → c.toList[j]? = k.cells[j]? := fun j hj => by
        rw [← ht, List.getElem?_take, if_pos (by simpa using hj)]
      have hw1 := hw.write (c' := (c.toList.take a.off ++ v.cells.toList ++ c.toList.drop (a.off + v.cells.toList.length)).toArray)
        (cs := k.cells.take a.off ++ v.cells.toList ++ k.cells.drop (a.off + v.cells.size)) hk ho (by simp; omega) (by simp; omega) (by
          apply List.ext_getElem?
          intro j
          simp only [List.getElem?_take, List.length_append, List.length_take, List.length_drop, List.getElem?_append, hlen, List.getElem?_drop, Array.length_toList]
          by_cases hj : j < k.cells.length
          · have := hget j hj
            have h2 := fun (hh : ¬ j < a.off + v.cells.size) => hget (a.off + v.cells.size + (j - (a.off + v.cells.size))) (by omega)
            rw [if_pos (by omega), Nat.min_eq_left (by omega), Nat.min_eq_left (by omega)]
            split
            · split
              · first | exact this | (rw [if_pos (by omega)]; exact this)
              · rfl
            · rename_i hh; exact h2 hh
          · rw [if_neg (by omega), if_neg (by omega), List.getElem?_eq_none (by omega)]) (fun u hu => by
          simp only [List.mem_append] at hu
          rcases hu with (h | h) | h
          · exact hone u (List.mem_of_mem_take h)
          · exact h1' u h
          · exact hone u (List.mem_of_mem_drop h))
      refine ⟨_, ?_, hw1⟩
      unfold storeVar
      rw [ha]
      simp only [Sem.run_bind, hsz', Result.andThen, ne_eq, not_true_eq_false, if_false, Sem.run_pure]
      exact hrun
    · simp at h
  · simp at h

/-! ### operations -/
def nextK (P : Program) (K : Value → View → Prop) : Next → View → Prop
  | .value v, A => K v A
  | .skip, A => K undef A
  | .enter f args, A => ACalls P f args A K
  | _, _ => False

def aappend (P : Program) (ts : Array TypeId) (ty : TypeId) (vs : Array Value) (A : View) (K : Value → View → Prop) : Prop :=
  Comes1 P (Builtin.append_ ts ty vs) K A
def acopy (P : Program) (ts : Array TypeId) (ty : TypeId) (vs : Array Value) (A : View) (K : Value → View → Prop) : Prop :=
  Comes1 P (Builtin.copy_ ts ty vs) K A
def aclear (P : Program) (ts : Array TypeId) (ty : TypeId) (vs : Array Value) (A : View) (K : Value → View → Prop) : Prop :=
  Comes1 P (Builtin.clear_ ts ty vs) K A

def aop (P : Program) (o : Oper) (ρ : Operand → Value) (A : View) (K : Value → View → Prop) : Prop :=
  match o.op with
  | .call { callee := .builtin .append, args, argTypes } => aappend P argTypes o.type (args.map ρ) A K
  | .call { callee := .builtin .copy, args, argTypes } => acopy P argTypes o.type (args.map ρ) A K
  | .call { callee := .builtin .clear, args, argTypes } => aclear P argTypes o.type (args.map ρ) A K
  | .load t x => match ρ x with
    | .pointer (some a) => match A.loadv P t a with
      | some v => K v A
      | none => False
    | _ => False
  | .store t x v => match ρ x with
    | .pointer (some a) => match A.storev P t a (ρ v) with
      | some A' => K undef A'
      | none => False
    | _ => False
  | .makeSlice t l c => Comes1 P (Instr.makeSlice t (ρ l) (ρ c)) K A
  | .build t qs => match P.built t (qs.map fun (i, x) => (i, ρ x)).toList with
    | some cells => K (.agg cells) A
    | none => False
  | _ => sawp P (execOp ρ o) (nextK P K) A

theorem wp_of_comes {P : Program} {o : Oper} {a : Act} {w : World} {A : View} {K : Value → View → Prop} {Q : Exit → Act → World → Prop}
    (h : Comes1 P (execOp a.eval o) (nextK P K) A) (hw : Rel A w) : o.wp P a w (fun a' w' => ∃ v A', a' = a.put o.dst v ∧ K v A' ∧ Rel A' w' ∧ Step A w A' w') Q := by
  obtain ⟨nx, w', A', hr, hK, hrel, hst⟩ := h w hw
  unfold Oper.wp
  rw [hr]
  cases nx with
  | value v => exact ⟨v, A', rfl, hK, hrel, hst⟩
  | skip => exact ⟨undef, A', rfl, hK, hrel, hst⟩
  | enter f args => exact (hK w' hrel).mono fun e w2 ⟨v, A2, he, hK2, hrel2, hst2⟩ => by subst he; exact ⟨v, A2, rfl, hK2, hrel2, hst.trans hst2⟩
  | _ => exact hK.elim

theorem Comes1.value {P : Program} {s : Sem Value} {K : Value → View → Prop} {A : View} (h : Comes1 P s K A) : Comes1 P (do pure (Next.value (← s))) (nextK P K) A := by
  intro w hw
  obtain ⟨a, w', A', hr, hK, hrel, hst⟩ := h w hw
  exact ⟨.value a, w', A', by simp [Sem.run_bind, hr, Result.andThen], hK, hrel, hst⟩

theorem aop_comes {P : Program} {o : Oper} {ρ : Operand → Value} {A : View} {K : Value → View → Prop} (h : aop P o ρ A K) : Comes1 P (execOp ρ o) (nextK P K) A := by
  unfold aop at h
  split at h
  · rename_i args ats ho
    have : execOp ρ o = (do pure (Next.value (← Builtin.append_ ats o.type (args.map ρ)))) := by simp only [execOp, ho, resolve]; rfl
    rw [this]; exact Comes1.value h
  · rename_i args ats ho
    have : execOp ρ o = (do pure (Next.value (← Builtin.copy_ ats o.type (args.map ρ)))) := by simp only [execOp, ho, resolve]; rfl
    rw [this]; exact Comes1.value h
  · rename_i args ats ho
    have : execOp ρ o = (do pure (Next.value (← Builtin.clear_ ats o.type (args.map ρ)))) := by simp only [execOp, ho, resolve]; rfl
    rw [this]; exact Comes1.value h
  · rename_i t x ho
    have : execOp ρ o = (do pure (Next.value (← Instr.loadAt t (ρ x)))) := by simp only [execOp, ho]
    rw [this]
    split at h
    · rename_i a ha
      split at h
      · rename_i v hv
        refine Comes1.value fun w hw => ⟨v, w, A, ?_, h, hw, Step.refl A w⟩
        have := run_loadv hv hw
        simp [Instr.loadAt, ha, Instr.sureAddr, this]
      · exact h.elim
    · exact h.elim
  · rename_i t x v ho
    have : execOp ρ o = (do Instr.storeAt t (ρ x) (ρ v); pure Next.skip) := by simp only [execOp, ho]
    rw [this]
    split at h
    · rename_i a ha
      split at h
      · rename_i A' hA
        intro w hw
        obtain ⟨w', hr, hrel, hst⟩ := run_storev hA hw
        exact ⟨.skip, w', A', by simp [Instr.storeAt, ha, Instr.sureAddr, hr], h, hrel, hst⟩
      · exact h.elim
    · exact h.elim
  · rename_i t l c ho
    have : execOp ρ o = (do pure (Next.value (← Instr.makeSlice t (ρ l) (ρ c)))) := by simp only [execOp, ho]
    rw [this]; exact Comes1.value h
  · rename_i t qs ho
    have : execOp ρ o = (do pure (Next.value (← Instr.build t (qs.map fun (i, x) => (i, ρ x))))) := by simp only [execOp, ho]
    rw [this]
    split at h
    · rename_i cells hc
      exact Comes1.value fun w hw => ⟨_, w, A, run_build w t _ cells hc, h, hw, Step.refl A w⟩
    · exact h.elim
  · exact sawp_sound _ _ _ h

theorem Comes1.mono {P : Program} {α : Type} {s : Sem α} {K K' : α → View → Prop} {A : View} (h : Comes1 P s K A) (hK : ∀ a A, K a A → K' a A) : Comes1 P s K' A := fun w hw =>
  let ⟨a, w', A', hr, h1, h2, h3⟩ := h w hw
  ⟨a, w', A', hr, hK _ _ h1, h2, h3⟩

theorem nextK_mono {P : Program} {K K' : Value → View → Prop} (hK : ∀ a A, K a A → K' a A) : ∀ nx A, nextK P K nx A → nextK P K' nx A := by
  intro nx A h
  cases nx with
  | value v => exact hK _ _ h
  | skip => exact hK _ _ h
  | enter f args => exact h.mono hK
  | _ => exact h.elim

theorem aop_mono {P : Program} {o : Oper} {ρ : Operand → Value} {A : View} {K K' : Value → View → Prop} (hK : ∀ a A, K a A → K' a A) (h : aop P o ρ A K) : aop P o ρ A K' := by
  unfold aop at h ⊢
  split at h
  · exact Comes1.mono h hK
  · exact Comes1.mono h hK
  · exact Comes1.mono h hK
  · split at h
    · split at h
      · exact hK _ _ h
      · exact h.elim
    · exact h.elim
  · split at h
    · split at h
      · exact hK _ _ h
      · exact h.elim
    · exact h.elim
  · exact Comes1.mono h hK
  · split at h
    · exact hK _ _ h
    · exact h.elim
  · exact sawp_mono (nextK_mono hK) _ _ h

/-! ### regions and code -/
structure FR (n : Nat) (fr : Fr) (a : Act) : Prop where
  size : a.tmps.size = n
  defers : a.defers = []
  tmp : ∀ t, a.tmps.getD t undef = fr t

theorem FR.eval {n : Nat} {fr : Fr} {a : Act} (h : FR n fr a) : a.eval = ev fr := by
  funext x
  cases x <;> simp only [Act.eval, ev]
  exact h.tmp _

def dstOk (n : Nat) (o : Oper) : Bool := match o.dst with | some d => d < n | none => true

theorem FR.put {n : Nat} {fr : Fr} {a : Act} (h : FR n fr a) (o : Oper) (ho : dstOk n o = true) (v : Value) : FR n (updO fr o.dst v) (a.put o.dst v) := by
  unfold dstOk at ho
  cases hd : o.dst with
  | none => exact h
  | some d =>
    simp [hd] at ho
    refine ⟨by simp [Act.put, h.size], by simp [Act.put, h.defers], fun t => ?_⟩
    have := h.tmp t
    simp only [updO, upd, Act.put, Array.getD_eq_getD_getElem?, Array.getElem?_setIfInBounds] at this ⊢
    by_cases ht : t = d
    · subst ht; simp [h.size, ho]
    · rw [if_neg (Ne.symm ht), if_neg ht]; exact this

def vbool : Value → Option Bool
  | .bool b => some b
  | _ => none
def yv (o : Option Oper) (fr : Fr) : Option Bool := match o.bind (·.dst) with
  | some d => vbool (fr d)
  | none => none
def ayield (ops : Array Oper) (fr : Fr) (j : Nat) : Option Bool := yv ops[j]? fr

theorem FR.yield {n : Nat} {fr : Fr} {a : Act} (h : FR n fr a) (ops : Array Oper) (j : Nat) : yielded ops a.tmps j = ayield ops fr j := by
  unfold yielded ayield yv
  cases hd : (ops[j]?).bind (·.dst) with
  | none => rfl
  | some d =>
    have := h.tmp d
    simp only [Option.bind_some]
    rw [Array.getD_eq_getD_getElem?] at this
    cases ht : a.tmps[d]? with
    | none => rw [ht] at this; simp only [Option.getD_none] at this; rw [← this]; simp [undef, vbool]
    | some v =>
      rw [ht] at this
      simp only [Option.getD_some] at this
      rw [← this]
      cases v <;> rfl

def awant (g : Option (Nat × Bool)) (ops : Array Oper) (fr : Fr) (p q : Prop) : Prop :=
  match g with
  | none => p
  | some (j, want) => (ayield ops fr j = some want → p) ∧ (ayield ops fr j ≠ some want → q)

def aops (P : Program) (ops : Array Oper) (K : Fr → View → Prop) : List Oper → Fr → View → Prop
  | [], fr, A => K fr A
  | o :: rest, fr, A => awant o.guard ops fr (aop P o (ev fr) A fun v A' => aops P ops K rest (updO fr o.dst v) A') (aops P ops K rest (updO fr o.dst undef) A)

def opsOk (n : Nat) (ops : List Oper) : Bool := ops.all (dstOk n)

theorem aops_sound {P : Program} {ops : Array Oper} {n : Nat} {K : Fr → View → Prop} {Q : Exit → Act → World → Prop} {A0 : View} {w0 : World}
    (hQ : ∀ fr A a w, K fr A → FR n fr a → Rel A w → Step A0 w0 A w → Q .normal a w) :
    ∀ (l : List Oper) (fr : Fr) (A : View) (a : Act) (w : World), opsOk n l = true → aops P ops K l fr A → FR n fr a → Rel A w → Step A0 w0 A w → wpList P ops Q l a w
  | [], fr, A, a, w, _, h, hf, hr, hs => hQ fr A a w h hf hr hs
  | o :: rest, fr, A, a, w, hok, h, hf, hr, hs => by
    simp only [opsOk, List.all_cons, Bool.and_eq_true] at hok
    have ih := aops_sound (P := P) (ops := ops) hQ rest
    refine wpList_step fun J hJ => ?_
    have key : ∀ p q, awant o.guard ops fr p q → if Region.wanted o (yielded ops a.tmps) = true then p else q := by
      intro p q h
      unfold awant at h
      unfold Region.wanted
      cases hg : o.guard with
      | none => rw [hg] at h; simpa using h
      | some jw =>
        obtain ⟨j, want⟩ := jw
        rw [hg] at h
        simp only [hf.yield ops j]
        by_cases hy : ayield ops fr j = some want
        · simp [hy]; exact h.1 hy
        · simp [hy]; exact h.2 hy
    have h' := key _ _ h
    split
    · rename_i hw
      rw [if_pos hw] at h'
      rw [← hf.eval] at h'
      refine Oper.wp_mono ?_ (wp_of_comes (Q := Q) (aop_comes h') hr)
      rintro a' w' ⟨v, A', rfl, hK, hr', hs'⟩
      exact hJ _ _ (ih _ _ _ _ hok.2 hK (hf.put o hok.1 v) hr' (hs.trans hs'))
    · rename_i hw
      rw [if_neg hw] at h'
      exact hJ _ _ (ih _ _ _ _ hok.2 h' (hf.put o hok.1 undef) hr hs)

theorem aops_mono {P : Program} {ops : Array Oper} {K K' : Fr → View → Prop} (hK : ∀ fr A, K fr A → K' fr A) :
    ∀ (l : List Oper) (fr : Fr) (A : View), aops P ops K l fr A → aops P ops K' l fr A
  | [], fr, A, h => hK _ _ h
  | o :: rest, fr, A, h => by
    simp only [aops] at h ⊢
    unfold awant at h ⊢
    split at h
    · exact aop_mono (fun v A' => aops_mono hK rest _ _) h
    · exact ⟨fun hy => aop_mono (fun v A' => aops_mono hK rest _ _) (h.1 hy), fun hy => aops_mono hK rest _ _ (h.2 hy)⟩

abbrev Post := Exit → Fr → View → Prop
def seqK (K1 : Fr → View → Prop) (K : Post) : Post := fun e fr A => match e with | .normal => K1 fr A | e => K e fr A
def blockK (id : Nat) (K : Post) : Post := fun e fr A => match e with | .exit i => if i = id then K .normal fr A else K (.exit i) fr A | e => K e fr A
def acond (v : Value) (p q : Prop) : Prop := ∃ b, v = .bool b ∧ (b = true → p) ∧ (b = false → q)

/-- The post of a piece of code, for worlds. -/
def postW (n : Nat) (K : Post) (A0 : View) (w0 : World) : Exit → Act → World → Prop :=
  fun e a w => ∃ fr A, K e fr A ∧ FR n fr a ∧ Rel A w ∧ Step A0 w0 A w

def codeOk (n : Nat) : Code → Bool
  | .region _ ops _ => opsOk n ops.toList
  | .seq a b => codeOk n a && codeOk n b
  | .cond _ a b => codeOk n a && codeOk n b
  | .block _ c => codeOk n c
  | .loop c => codeOk n c
  | .skip => true
  | .exit _ => true
  | .ret => true
  | .refuse _ => true
  | _ => false

def ADraw (P : Program) (id : Nat) (ops : Array Oper) (K : Fr → View → Prop) (fr : Fr) (A : View) : Prop :=
  ∀ n a w, opsOk n ops.toList = true → FR n fr a → Rel A w → (Code.region id ops true).wp P (postW n (fun e fr A => e = .normal ∧ K fr A) A w) a w
def ALoop (P : Program) (c : Code) (K : Post) (fr : Fr) (A : View) : Prop :=
  ∀ n a w, codeOk n c = true → FR n fr a → Rel A w → (Code.loop c).wp P (postW n K A w) a w

def awp (P : Program) : Code → Post → Fr → View → Prop
  | .skip, K, fr, A => K .normal fr A
  | .region _ ops false, K, fr, A => aops P ops (K .normal) ops.toList fr A
  | .region id ops true, K, fr, A => ADraw P id ops (K .normal) fr A
  | .seq a b, K, fr, A => awp P a (seqK (awp P b K) K) fr A
  | .cond c a b, K, fr, A => acond (ev fr c) (awp P a K fr A) (awp P b K fr A)
  | .block id c, K, fr, A => awp P c (blockK id K) fr A
  | .loop c, K, fr, A => ALoop P c K fr A
  | .exit id, K, fr, A => K (.exit id) fr A
  | .ret, K, fr, A => K .ret fr A
  | _, _, _, _ => False

theorem postW_step {n : Nat} {K : Post} {A0 A : View} {w0 w : World} (hs : Step A0 w0 A w) : ∀ e a w', postW n K A w e a w' → postW n K A0 w0 e a w' :=
  fun _ _ _ ⟨fr, A', hK, hf, hr, hs'⟩ => ⟨fr, A', hK, hf, hr, hs.trans hs'⟩

theorem awp_sound {P : Program} {n : Nat} (c : Code) : ∀ (K : Post) (fr : Fr) (A : View) (a : Act) (w : World), codeOk n c = true → awp P c K fr A → FR n fr a → Rel A w →
    c.wp P (postW n K A w) a w := by
  induction c with
  | skip => exact fun K fr A a w _ h hf hr => wp_skip ⟨fr, A, h, hf, hr, Step.refl A w⟩
  | region id ops d =>
    intro K fr A a w hok h hf hr
    cases d with
    | false =>
      refine wp_region_list (aops_sound (A0 := A) (w0 := w) ?_ ops.toList fr A a w hok h hf hr (Step.refl A w))
      exact fun fr' A' a' w' hK hf' hr' hs' => ⟨fr', A', hK, hf', hr', hs'⟩
    | true =>
      refine wp_mono (h n a w hok hf hr) ?_
      rintro e a' w' ⟨fr', A', ⟨rfl, hK⟩, hrest⟩
      exact ⟨fr', A', hK, hrest⟩
  | seq x y ihx ihy =>
    intro K fr A a w hok h hf hr
    simp only [codeOk, Bool.and_eq_true] at hok
    refine wp_seq (wp_mono (ihx _ fr A a w hok.1 h hf hr) ?_)
    rintro e a' w' ⟨fr', A', hK, hf', hr', hs'⟩
    cases e with
    | normal => exact wp_mono (ihy K fr' A' a' w' hok.2 hK hf' hr') (postW_step hs')
    | exit id => exact ⟨fr', A', hK, hf', hr', hs'⟩
    | goto l => exact ⟨fr', A', hK, hf', hr', hs'⟩
    | ret => exact ⟨fr', A', hK, hf', hr', hs'⟩
    | panic ch => exact ⟨fr', A', hK, hf', hr', hs'⟩
    | outgrown => exact ⟨fr', A', hK, hf', hr', hs'⟩
  | cond c x y ihx ihy =>
    intro K fr A a w hok h hf hr
    simp only [codeOk, Bool.and_eq_true] at hok
    obtain ⟨b, hb, ht, hfal⟩ := h
    have hc : a.eval c = .bool b := by rw [hf.eval]; exact hb
    refine wp_cond hc ?_
    cases b with
    | true => exact ihx K fr A a w hok.1 (ht rfl) hf hr
    | false => exact ihy K fr A a w hok.2 (hfal rfl) hf hr
  | block id c ih =>
    intro K fr A a w hok h hf hr
    refine wp_block (wp_mono (ih _ fr A a w hok h hf hr) ?_)
    rintro e a' w' ⟨fr', A', hK, hf', hr', hs'⟩
    cases e with
    | exit i =>
      simp only [blockK] at hK
      simp only [Exit.inBlock]
      split
      · rename_i hi; rw [if_pos hi] at hK; exact ⟨fr', A', hK, hf', hr', hs'⟩
      · rename_i hi; rw [if_neg hi] at hK; exact ⟨fr', A', hK, hf', hr', hs'⟩
    | _ => exact ⟨fr', A', hK, hf', hr', hs'⟩
  | loop c ih => exact fun K fr A a w hok h hf hr => h n a w hok hf hr
  | exit id => exact fun K fr A a w _ h hf hr => wp_exit ⟨fr, A, h, hf, hr, Step.refl A w⟩
  | ret => exact fun K fr A a w _ h hf hr => wp_ret ⟨fr, A, h, hf, hr, Step.refl A w⟩
  | _ => exact fun K fr A a w hok h => h.elim

theorem seqK_mono {K1 K1' : Fr → View → Prop} {K K' : Post} (h1 : ∀ fr A, K1 fr A → K1' fr A) (h : ∀ e fr A, K e fr A → K' e fr A) : ∀ e fr A, seqK K1 K e fr A → seqK K1' K' e fr A := by
  intro e fr A hk
  cases e <;> first | exact h1 _ _ hk | exact h _ _ _ hk

theorem awp_mono {P : Program} (c : Code) : ∀ {K K' : Post} (_ : ∀ e fr A, K e fr A → K' e fr A) (fr : Fr) (A : View), awp P c K fr A → awp P c K' fr A := by
  induction c with
  | skip => exact fun hK fr A h => hK _ _ _ h
  | region id ops d =>
    intro K K' hK fr A h
    cases d with
    | false => exact aops_mono (hK .normal) _ _ _ h
    | true =>
      intro n a w hok hf hr
      refine wp_mono (h n a w hok hf hr) ?_
      rintro e a' w' ⟨fr', A', ⟨rfl, hk⟩, hrest⟩
      exact ⟨fr', A', ⟨rfl, hK _ _ _ hk⟩, hrest⟩
  | seq x y ihx ihy => exact fun hK fr A h => ihx (seqK_mono (fun fr A => ihy hK fr A) hK) fr A h
  | cond c x y ihx ihy => exact fun hK fr A ⟨b, hb, ht, hf⟩ => ⟨b, hb, fun e => ihx hK fr A (ht e), fun e => ihy hK fr A (hf e)⟩
  | block id c ih =>
    intro K K' hK fr A h
    refine ih (fun e fr A hk => ?_) fr A h
    cases e <;> simp only [blockK] at hk ⊢ <;> first | exact hK _ _ _ hk | (split <;> rename_i hi <;> simp only [hi, if_true, if_false] at hk <;> exact hK _ _ _ hk)
  | loop c ih =>
    intro K K' hK fr A h n a w hok hf hr
    exact wp_mono (h n a w hok hf hr) fun e a' w' ⟨fr', A', hk, hrest⟩ => ⟨fr', A', hK _ _ _ hk, hrest⟩
  | exit id => exact fun hK fr A h => hK _ _ _ h
  | ret => exact fun hK fr A h => hK _ _ _ h
  | _ => exact fun hK fr A h => h.elim

/-- Where ways meet: what holds behind the first part is all that the second part is told. -/
theorem awp_cut {P : Program} {x y : Code} {K : Post} {fr : Fr} {A : View} (I : Fr → View → Prop) (h1 : awp P x (seqK I K) fr A) (h2 : ∀ fr A, I fr A → awp P y K fr A) : awp P (.seq x y) K fr A :=
  awp_mono x (seqK_mono h2 fun _ _ _ h => h) fr A h1

/-- A loop: an invariant that bears a number, which every round lowers. -/
theorem aloop {P : Program} {c : Code} {K : Post} {fr : Fr} {A : View} (I : Nat → Fr → View → Prop) (d : Nat) (h0 : I d fr A)
    (h : ∀ d fr A, I d fr A → awp P c (seqK (fun fr' A' => ∃ d', d' < d ∧ I d' fr' A') K) fr A) : ALoop P c K fr A := by
  intro n a w hok hf hr
  refine wp_loop_ghost (fun d a' w' => ∃ fr' A', I d fr' A' ∧ FR n fr' a' ∧ Rel A' w' ∧ Step A w A' w') d ⟨fr, A, h0, hf, hr, Step.refl A w⟩ ?_
  rintro d1 a1 w1 ⟨fr1, A1, hI, hf1, hr1, hs1⟩
  refine wp_mono (awp_sound c _ fr1 A1 a1 w1 hok (h d1 fr1 A1 hI) hf1 hr1) ?_
  rintro e a' w' ⟨fr', A', hK, hf', hr', hs'⟩
  cases e with
  | normal =>
    obtain ⟨d', hlt, hI'⟩ := hK
    exact ⟨d', hlt, fr', A', hI', hf', hr', hs1.trans hs'⟩
  | _ => exact ⟨fr', A', hK, hf', hr', hs1.trans hs'⟩

/-! ### functions -/
def frame0 (args : Array Value) : Fr := fun t => args.getD t undef

def resVal (P : Program) (A : View) (fr : Fr) : ResultVar → Option Value
  | .tmp t => some (fr t)
  | .cell t ty => match fr t with
    | .pointer (some a) => A.loadv P ty a
    | _ => none

/-- What a function gives back, off its frame and the view. -/
def ares (P : Program) (R : Value → View → Prop) (fr : Fr) (A : View) : List ResultVar → Prop
  | [] => R (.tuple #[]) A
  | [r] => match resVal P A fr r with
    | some v => R v A
    | none => False
  | [r1, r2] => match resVal P A fr r1, resVal P A fr r2 with
    | some v1, some v2 => R (.tuple #[v1, v2]) A
    | _, _ => False
  | [r1, r2, r3] => match resVal P A fr r1, resVal P A fr r2, resVal P A fr r3 with
    | some v1, some v2, some v3 => R (.tuple #[v1, v2, v3]) A
    | _, _, _ => False
  | _ => False

def fnPost (P : Program) (fn : Func) (R : Value → View → Prop) : Post := fun e fr A => match e with
  | .normal => ares P R fr A fn.results.toList
  | .ret => ares P R fr A fn.results.toList
  | _ => False

def ResIs (P : Program) (w : World) (tmps : Array Value) (v : Value) : ResultVar → Prop
  | .tmp t => tmps[t]?.getD undef = v
  | .cell t ty => ∃ a, tmps[t]?.getD undef = .pointer (some a) ∧ (loadVar ty a).run P w = .ok v w

theorem res_is {P : Program} {A : View} {w : World} {fr : Fr} {tmps : Array Value} (ht : ∀ t, tmps.getD t undef = fr t) (hw : Rel A w) {r : ResultVar} {v : Value} (h : resVal P A fr r = some v) :
    ResIs P w tmps v r := by
  have ht' : ∀ t : Nat, tmps[t]?.getD undef = fr t := fun t => by rw [← ht t, Array.getD_eq_getD_getElem?]
  cases r with
  | tmp t => simp [resVal] at h; subst h; exact ht' t
  | cell t ty =>
    simp only [resVal] at h
    split at h
    · rename_i a ha
      exact ⟨a, by rw [ht', ha], run_loadv h hw⟩
    · simp at h

theorem run_results {P : Program} {fn : Func} {A : View} {w : World} {fr : Fr} {tmps : Array Value} {R : Value → View → Prop} (ht : ∀ t, tmps.getD t undef = fr t) (hw : Rel A w) (h : ares P R fr A fn.results.toList) :
    ∃ v, (results fn tmps).run P w = .ok v w ∧ R v A := by
  have hl : fn.results = fn.results.toList.toArray := by simp
  generalize fn.results.toList = l at hl h
  match l, h with
  | [], h => exact ⟨_, by simp [results, hl], h⟩
  | [r], h =>
    simp only [ares] at h
    split at h
    · rename_i v hv
      refine ⟨v, ?_, h⟩
      have h1 := res_is (P := P) ht hw hv
      cases r with
      | tmp t => simp only [ResIs] at h1; simp [results, hl, h1]
      | cell t ty => obtain ⟨a, ha, h1⟩ := h1; simp [results, hl, ha, h1, asAddr]
    · exact h.elim
  | [r1, r2], h =>
    simp only [ares] at h
    split at h
    · rename_i v1 v2 hv1 hv2
      refine ⟨_, ?_, h⟩
      have h1 := res_is (P := P) ht hw hv1
      have h2 := res_is (P := P) ht hw hv2
      cases r1 <;> cases r2 <;> simp only [ResIs] at h1 h2 <;> (try obtain ⟨a1, ha1, h1⟩ := h1) <;> (try obtain ⟨a2, ha2, h2⟩ := h2) <;> clear ht <;> simp [results, hl, asAddr, *]
    · exact h.elim
  | [r1, r2, r3], h =>
    simp only [ares] at h
    split at h
    · rename_i v1 v2 v3 hv1 hv2 hv3
      refine ⟨_, ?_, h⟩
      have h1 := res_is (P := P) ht hw hv1
      have h2 := res_is (P := P) ht hw hv2
      have h3 := res_is (P := P) ht hw hv3
      cases r1 <;> cases r2 <;> cases r3 <;> simp only [ResIs] at h1 h2 h3 <;> (try obtain ⟨a1, ha1, h1⟩ := h1) <;> (try obtain ⟨a2, ha2, h2⟩ := h2) <;> (try obtain ⟨a3, ha3, h3⟩ := h3) <;> clear ht <;> simp [results, hl, asAddr, *]
    · exact h.elim
  | _ :: _ :: _ :: _ :: _, h => exact h.elim

/-- A function's contract, out of its body. -/
theorem acalls {P : Program} {f : FuncId} {fn : Func} {c : Code} {args : Array Value} {A : View} {R : Value → View → Prop} (hf : P.funcs[f]? = some fn) (hb : fn.body = some c)
    (hok : codeOk (args.size + (fn.ntmps - args.size)) c = true) (h : awp P c (fnPost P fn R) (frame0 args) A) : ACalls P f args A R := by
  intro w hw
  refine calls_of_wp hf hb (wp_mono (awp_sound (n := args.size + (fn.ntmps - args.size)) c _ _ A _ w hok h ⟨by simp, rfl, fun t => ?_⟩ hw) ?_)
  · simp only [frame0, Array.getD_eq_getD_getElem?, Array.getElem?_append, Array.getElem?_replicate]
    split
    · rfl
    · rename_i ht
      rw [Array.getElem?_eq_none (Nat.le_of_not_lt ht)]
      split <;> rfl
  · rintro e a' w' ⟨fr', A', hK, hf', hr', hs'⟩
    cases e with
    | normal =>
      obtain ⟨v, hv, hR⟩ := run_results hf'.tmp hr' hK
      exact ⟨hf'.defers, v, hv, v, A', rfl, hR, hr', hs'⟩
    | ret =>
      obtain ⟨v, hv, hR⟩ := run_results hf'.tmp hr' hK
      exact ⟨hf'.defers, v, hv, v, A', rfl, hR, hr', hs'⟩
    | _ => exact hK.elim

end Go.Proofs.YtggklaimbklefaaDoor

