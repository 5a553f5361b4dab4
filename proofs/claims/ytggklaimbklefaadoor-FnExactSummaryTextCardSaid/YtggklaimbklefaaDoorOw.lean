/- Data of one's own: each slice in a block of its own; which blocks these are. -/
import Derived.Test.YtggklaimbklefaaDoorFw10
set_option maxHeartbeats 4000000
set_option synthInstance.maxHeartbeats 400000
set_option synthInstance.maxSize 4096
set_option linter.unusedSimpArgs false
set_option linter.unusedVariables false
namespace Go.Proofs.YtggklaimbklefaaDoor

/-- Data that is one's own: 'rel A fp x cs': the cells 'cs' hold 'x', whose slices lie in the blocks 'fp'. -/
structure OwnS (α : Type) where
  S : Shape α
  rel : View → List Nat → α → List Value → Prop
  toS : ∀ {A fp x cs}, rel A fp x cs → S.rel A x cs
  stay : ∀ {A B fp x cs}, rel A fp x cs → (∀ b k, b ∈ fp → A b = some k → B b = some k) → rel B fp x cs
  has : ∀ {A fp x cs}, rel A fp x cs → ∀ b, b ∈ fp → ∃ k, A b = some k

def scalO {α : Type} (S : Shape α) (hS : ∀ {A B x cs}, S.rel A x cs → S.rel B x cs) : OwnS α := ⟨S, fun A fp x cs => fp = [] ∧ S.rel A x cs, fun h => h.2, fun h _ => ⟨h.1, hS h.2⟩, fun h b hb => by rw [h.1] at hb; cases hb⟩
def strO : OwnS ByteArray := scalO strS fun h => h
def intO : OwnS Int := scalO intS fun h => h
def boolO : OwnS Bool := scalO boolS fun h => h
def byteO : OwnS UInt8 := scalO byteS fun h => h
def unitO : OwnS Unit := scalO unitS fun h => h
def consO {α β : Type} (O : OwnS α) (Q : OwnS β) : OwnS (α × β) where
  S := consS O.S Q.S
  rel A fp x cs := ∃ f g c d, fp = f ++ g ∧ cs = c ++ d ∧ O.rel A f x.1 c ∧ Q.rel A g x.2 d
  toS := fun ⟨_, _, c, d, _, h, h1, h2⟩ => ⟨c, d, h, O.toS h1, Q.toS h2⟩
  stay := fun ⟨f, g, c, d, hf, h, h1, h2⟩ he => ⟨f, g, c, d, hf, h, O.stay h1 (fun b k hb => he b k (by rw [hf]; exact List.mem_append_left _ hb)), Q.stay h2 (fun b k hb => he b k (by rw [hf]; exact List.mem_append_right _ hb))⟩
  has := fun ⟨f, g, c, d, hf, h, h1, h2⟩ b hb => by
    rw [hf] at hb
    exact (List.mem_append.1 hb).elim (O.has h1 b) (Q.has h2 b)

section
variable {α : Type} {O : OwnS α} {A B : View} {fp fq : List Nat} {xs ys : List α} {cs ds : List Value}

inductive OElems (O : OwnS α) (A : View) : List Nat → List α → List Value → Prop where
  | nil : OElems O A [] [] []
  | cons {f fp : List Nat} {x : α} {xs : List α} {c cs : List Value} : O.rel A f x c → OElems O A fp xs cs → OElems O A (f ++ fp) (x :: xs) (c ++ cs)

theorem OElems.toS (h : OElems O A fp xs cs) : Elems O.S A xs cs := by
  induction h with
  | nil => exact .nil
  | cons h1 _ ih => exact .cons (O.toS h1) ih
theorem OElems.stay (h : OElems O A fp xs cs) : (∀ b k, b ∈ fp → A b = some k → B b = some k) → OElems O B fp xs cs := by
  induction h with
  | nil => exact fun _ => .nil
  | cons h1 _ ih => exact fun he => .cons (O.stay h1 (fun b k hb => he b k (List.mem_append_left _ hb))) (ih (fun b k hb => he b k (List.mem_append_right _ hb)))
theorem OElems.has (h : OElems O A fp xs cs) : ∀ b, b ∈ fp → ∃ k, A b = some k := by
  induction h with
  | nil => intro b hb; cases hb
  | cons h1 _ ih => exact fun b hb => (List.mem_append.1 hb).elim (O.has h1 b) (ih b)
theorem OElems.append (h : OElems O A fp xs cs) (h' : OElems O A fq ys ds) : OElems O A (fp ++ fq) (xs ++ ys) (cs ++ ds) := by
  induction h with
  | nil => exact h'
  | cons h1 _ ih => rw [List.append_assoc, List.append_assoc]; exact .cons h1 ih
theorem OElems.single {x : α} {c : List Value} (h : O.rel A fp x c) : OElems O A fp [x] c := by
  have := OElems.cons h (.nil (O := O) (A := A))
  rwa [List.append_nil, List.append_nil] at this
theorem OElems.len (h : OElems O A fp xs cs) : cs.length = xs.length * O.S.size := h.toS.len
theorem OElems.split : ∀ {xs : List α} {fp : List Nat} {ys : List α} {cs : List Value}, OElems O A fp (xs ++ ys) cs → ∃ f g c d, fp = f ++ g ∧ cs = c ++ d ∧ OElems O A f xs c ∧ OElems O A g ys d
  | [], fp, ys, cs, h => ⟨[], fp, [], cs, rfl, rfl, .nil, h⟩
  | x :: xs, _, ys, _, .cons (f := f) (fp := fp) (c := c) (cs := cs) h1 h2 => by
    obtain ⟨f', g, c', d, rfl, rfl, h3, h4⟩ := OElems.split h2
    exact ⟨f ++ f', g, c ++ c', d, by rw [List.append_assoc], by rw [List.append_assoc], .cons h1 h3, h4⟩
theorem OElems.at (h : OElems O A fp xs cs) {i : Nat} (hi : i < xs.length) : ∃ f1 f2 f3 c1 c2 c3, fp = f1 ++ (f2 ++ f3) ∧ cs = c1 ++ (c2 ++ c3) ∧ c1.length = i * O.S.size ∧ OElems O A f1 (xs.take i) c1 ∧ O.rel A f2 xs[i] c2 ∧ OElems O A f3 (xs.drop (i + 1)) c3 := by
  have e : xs = xs.take i ++ (xs[i] :: xs.drop (i + 1)) := by rw [List.getElem_cons_drop, List.take_append_drop]
  rw [e] at h
  obtain ⟨f, g, c, d, rfl, rfl, h1, h2⟩ := h.split
  cases h2 with
  | cons h3 h4 => exact ⟨_, _, _, _, _, _, rfl, rfl, by rw [h1.len, List.length_take, Nat.min_eq_left (by omega)], h1, h3, h4⟩

/-- A slice of one's own in a block of its own. -/
def OSl (e : TypeId) (O : OwnS α) (A : View) (fp : List Nat) (v : Value) (xs : List α) : Prop :=
  xs.length ≤ 140737488355328 ∧ ((v = .slice none 0 0 ∧ xs = [] ∧ fp = []) ∨
    ∃ b c cells f, v = .slice (some ⟨b, 0, none⟩) xs.length c ∧ xs.length ≤ c ∧ fp = b :: f ∧ A b = some ⟨e, cells, c * O.S.size, true⟩ ∧ OElems O A f xs cells)

theorem OSl.toS {e : TypeId} {v : Value} (h : OSl e O A fp v xs) : Sl O.S A v xs := by
  obtain ⟨hl, ⟨rfl, rfl, rfl⟩ | ⟨b, c, cells, f, rfl, hc, rfl, hb, he⟩⟩ := h
  · exact Sl.nil _ _
  · refine ⟨hl, _, c, rfl, hc, fun _ => ⟨_, cells, rfl, ?_, he.toS⟩⟩
    rw [part_at hb (by simp [he.len]) (fun v hv => he.toS.one v (List.mem_of_mem_drop (List.mem_of_mem_take hv)))]
    simp [List.take_of_length_le, he.len]
theorem OSl.stay {e : TypeId} {v : Value} (h : OSl e O A fp v xs) (hx : ∀ b k, b ∈ fp → A b = some k → B b = some k) : OSl e O B fp v xs := by
  obtain ⟨hl, ⟨rfl, rfl, rfl⟩ | ⟨b, c, cells, f, rfl, hc, rfl, hb, he⟩⟩ := h
  · exact ⟨hl, .inl ⟨rfl, rfl, rfl⟩⟩
  · exact ⟨hl, .inr ⟨b, c, cells, f, rfl, hc, rfl, hx b _ (List.mem_cons_self ..) hb, he.stay fun x k hx' => hx x k (List.mem_cons_of_mem _ hx')⟩⟩
theorem OSl.has {e : TypeId} {v : Value} (h : OSl e O A fp v xs) : ∀ b, b ∈ fp → ∃ k, A b = some k := by
  obtain ⟨hl, ⟨rfl, rfl, rfl⟩ | ⟨b, c, cells, f, rfl, hc, rfl, hb, he⟩⟩ := h
  · intro b hb; cases hb
  · intro x hx
    rcases List.mem_cons.1 hx with rfl | hx
    · exact ⟨_, hb⟩
    · exact he.has x hx
end

/-- A slice of one's own as one cell. -/
def slO {α : Type} (e : TypeId) (O : OwnS α) : OwnS (List α) where
  S := slS O.S
  rel A fp xs cs := ∃ v, cs = [v] ∧ OSl e O A fp v xs
  toS := fun ⟨v, h, hs⟩ => ⟨v, h, hs.toS⟩
  stay := fun ⟨v, h, hs⟩ hx => ⟨v, h, hs.stay hx⟩
  has := fun ⟨v, h, hs⟩ => hs.has

/-- Outside of some blocks all that was known is still known. -/
def Only (fp : List Nat) (A B : View) : Prop := ∀ b k, b ∉ fp → A b = some k → B b = some k
theorem Only.refl (fp : List Nat) (A : View) : Only fp A A := fun _ _ _ h => h
theorem Only.ext {A B : View} (h : Ext A B) (fp : List Nat) : Only fp A B := fun b k _ hb => h b k hb
theorem Only.trans {fp : List Nat} {A B C : View} (h : Only fp A B) (h' : Only fp B C) : Only fp A C := fun b k hb hk => h' b k hb (h b k hb hk)
theorem Only.more {fp fq : List Nat} {A B : View} (h : Only fp A B) (hs : ∀ b, b ∈ fp → b ∈ fq) : Only fq A B := fun b k hb hk => h b k (fun hm => hb (hs b hm)) hk

theorem Ext.setOld {A B : View} {b : Nat} (h : Ext A B) (hb : A b = Option.none) (k : Blk) : Ext A (B.set b k) := fun x kx hx => by
  rw [View.set_ne _ _ (fun e => by rw [e, hb] at hx; cases hx)]
  exact h x kx hx
theorem OSl.set {α : Type} {O : OwnS α} {A : View} {fp : List Nat} {xs : List α} {e : TypeId} {v : Value} (h : OSl e O A fp v xs) {b : Nat} (hb : b ∉ fp) (k : Blk) : OSl e O (A.set b k) fp v xs := h.stay fun x kx hx hk => by
  rw [View.set_ne _ _ (fun e => hb (by rw [← e]; exact hx))]; exact hk

/-- An element written in a block of one's own. -/
theorem storev_at {P : Program} {A : View} {t e : TypeId} {n b : Nat} (h : (P.info? t).map (·.size) = some n) {v : Value} {c1 c2 c3 : List Value} {room : Nat} (hk : A b = some ⟨e, c1 ++ (c2 ++ c3), room, true⟩)
    (hn : v.cells.size = n) (hc : c2.length = n) (h1 : v.cells.toList.all (·.oneCell') = true) {o : Nat} (ho : o = c1.length) :
    A.storev P t ⟨b, o, none⟩ v = some (A.set b ⟨e, c1 ++ (v.cells.toList ++ c3), room, true⟩) := by
  subst ho
  rw [storev_set h (k := ⟨e, c1 ++ (c2 ++ c3), room, true⟩) hk rfl rfl hn (by simp; omega) h1]
  simp only [List.take_left', List.append_assoc]
  rw [← List.append_assoc c1 c2 c3, List.drop_left' (by simp [hc])]

theorem View.set_set (A : View) (b : Nat) (k k' : Blk) : (A.set b k).set b k' = A.set b k' := by
  funext x
  unfold View.set
  split <;> rfl
theorem View.kill_set (A : View) {b : Nat} (k : Blk) (h : A b = none) : (A.set b k).kill b = A := by
  funext x
  by_cases hx : x = b
  · subst hx; rw [View.kill_same, h]
  · rw [View.kill_ne _ hx, View.set_ne _ _ hx]
theorem Only.set {A : View} {b : Nat} {fp : List Nat} (k : Blk) (h : b ∈ fp) : Only fp A (A.set b k) := fun x kx hx hk => by
  rw [View.set_ne _ _ (fun e => hx (by rw [e]; exact h))]; exact hk

end Go.Proofs.YtggklaimbklefaaDoor

