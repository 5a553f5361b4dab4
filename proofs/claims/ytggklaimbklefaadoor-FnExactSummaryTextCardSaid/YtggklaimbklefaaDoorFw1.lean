/- Views of memory: what is known of the heap's blocks, and the laws by which single steps of the model keep a view true. -/
import Derived.Laws.AppendOwn
import Derived.Laws.CopyRow
import Derived.Laws.Cells
import Derived.OrdersHeld
import Derived.Deep.LoopGhost
import Derived.Tactics
set_option maxHeartbeats 4000000
set_option synthInstance.maxHeartbeats 400000
set_option synthInstance.maxSize 4096
set_option linter.unusedSimpArgs false
set_option linter.unusedVariables false
namespace Go.Proofs.YtggklaimbklefaaDoor

/-- What is known of one block: its element type, its first cells, how many cells it has, and whether it is ours to write. -/
structure Blk where
  ty : TypeId
  cells : List Value
  room : Nat
  own : Bool

abbrev View := Nat → Option Blk

structure Blk.Fits (k : Blk) (o : Option Obj) : Prop where
  ex : ∃ c fz, o = some (.cells c k.ty fz) ∧ k.room ≤ c.size ∧ k.cells.length ≤ k.room ∧ c.toList.take k.cells.length = k.cells ∧ (k.own = true → fz = (0, 0))
  one : k.own = true → ∀ v ∈ k.cells, v.oneCell' = true
  full : k.own = false → k.cells.length = k.room → ∃ c fz, o = some (.cells c k.ty fz) ∧ c.size = k.room

def Rel (A : View) (w : World) : Prop := ∀ b k, A b = some k → k.Fits w.heap[b]?

def View.set (A : View) (b : Nat) (k : Blk) : View := fun x => if x = b then some k else A x
def View.kill (A : View) (b : Nat) : View := fun x => if x = b then none else A x
def View.cell (A : View) (a : Addr) : Option Value := if a.spot = none then (A a.block).bind fun k => (k.cells[a.off]?).filter (·.oneCell') else none
def View.part (A : View) (a : Addr) (n : Nat) : Option (List Value) :=
  if a.spot = none then (A a.block).bind fun k => if a.off + n ≤ k.cells.length ∧ ((k.cells.drop a.off).take n).all (·.oneCell') = true then some ((k.cells.drop a.off).take n) else none else none

theorem View.set_same (A : View) (b : Nat) (k : Blk) : A.set b k b = some k := by simp [View.set]
theorem View.set_ne (A : View) {b x : Nat} (k : Blk) (h : x ≠ b) : A.set b k x = A x := by simp [View.set, h]
theorem View.kill_same (A : View) (b : Nat) : A.kill b b = none := by simp [View.kill]
theorem View.kill_ne (A : View) {b x : Nat} (h : x ≠ b) : A.kill b x = A x := by simp [View.kill, h]

theorem Rel.lt {A : View} {w : World} (h : Rel A w) {b : Nat} {k : Blk} (hb : A b = some k) : b < w.heap.size := by
  obtain ⟨⟨c, fz, hc, _⟩, _⟩ := h b k hb
  exact (Array.getElem?_eq_some_iff.1 hc).1

theorem View.cell_some {A : View} {a : Addr} {v : Value} (hv : A.cell a = some v) : a.spot = none ∧ (∃ k, A a.block = some k ∧ k.cells[a.off]? = some v) ∧ v.oneCell' = true := by
  unfold View.cell at hv
  split at hv
  · rename_i hs
    cases hk : A a.block with
    | none => simp [hk] at hv
    | some k =>
      rw [hk, Option.bind_some, Option.filter_eq_some_iff] at hv
      exact ⟨hs, ⟨k, rfl, hv.1⟩, hv.2⟩
  · cases hv

theorem View.cell_mk {A : View} {a : Addr} {v : Value} {k : Blk} (hs : a.spot = none) (hk : A a.block = some k) (hc : k.cells[a.off]? = some v) (h1 : v.oneCell' = true) : A.cell a = some v := by
  unfold View.cell
  rw [if_pos hs, hk, Option.bind_some, hc, Option.filter_eq_some_iff]
  exact ⟨rfl, h1⟩

theorem View.part_some {A : View} {a : Addr} {n : Nat} {cs : List Value} (hv : A.part a n = some cs) : a.spot = none ∧ ∃ k, A a.block = some k ∧ a.off + n ≤ k.cells.length ∧ cs = (k.cells.drop a.off).take n ∧ ∀ v ∈ cs, v.oneCell' = true := by
  unfold View.part at hv
  split at hv
  · rename_i hs
    cases hk : A a.block with
    | none => simp [hk] at hv
    | some k =>
      rw [hk, Option.bind_some] at hv
      split at hv
      · rename_i hc
        injection hv with hv
        subst hv
        exact ⟨hs, k, rfl, hc.1, rfl, List.all_eq_true.1 hc.2⟩
      · cases hv
  · cases hv

theorem View.part_mk {A : View} {a : Addr} {n : Nat} {k : Blk} (hs : a.spot = none) (hk : A a.block = some k) (hl : a.off + n ≤ k.cells.length) (h1 : ∀ v ∈ (k.cells.drop a.off).take n, v.oneCell' = true) : A.part a n = some ((k.cells.drop a.off).take n) := by
  unfold View.part
  rw [if_pos hs, hk, Option.bind_some, if_pos ⟨hl, List.all_eq_true.2 h1⟩]

theorem Rel.cell {A : View} {w : World} (h : Rel A w) {a : Addr} {v : Value} (hv : A.cell a = some v) : w.cell? a = some v := by
  obtain ⟨hs, ⟨k, hk, hv⟩, _⟩ := View.cell_some hv
  obtain ⟨⟨c, fz, hc, _, _, ht, _⟩, _⟩ := h _ _ hk
  simp only [World.cell?, hc, hs]
  rw [← ht] at hv
  rw [List.getElem?_take] at hv
  split at hv
  · simpa using hv
  · simp at hv

theorem Rel.one {A : View} {w : World} (_ : Rel A w) {a : Addr} {v : Value} (hv : A.cell a = some v) : v.oneCell' = true := (View.cell_some hv).2.2

theorem Rel.part {A : View} {w : World} (h : Rel A w) {a : Addr} {n : Nat} {cs : List Value} (hv : A.part a n = some cs) :
    cs.length = n ∧ (∀ j v, cs[j]? = some v → w.cell? (a.add j) = some v) ∧ ∀ v ∈ cs, v.oneCell' = true := by
  obtain ⟨hs, k, hk, hle, rfl, h1⟩ := View.part_some hv
  refine ⟨by simp; omega, fun j v hj => ?_, h1⟩
  have hm := h1 v (List.mem_of_getElem? hj)
  have hc : A.cell (a.add j) = some v := by
    rw [List.getElem?_take] at hj
    split at hj
    · rw [List.getElem?_drop] at hj
      unfold Addr.add
      split
      · rename_i h0; subst h0; exact View.cell_mk hs hk (by simpa using hj) hm
      · exact View.cell_mk rfl hk hj hm
    · simp at hj
  exact h.cell hc

/-- What a piece of code may do to the world, seen from a view: it writes what is owned, and makes new blocks. -/
structure Step (A : View) (w : World) (A' : View) (w' : World) : Prop where
  os : w'.os = w.os
  tape : w'.tape = w.tape
  output : w'.output = w.output
  size : w.heap.size ≤ w'.heap.size
  kept : ∀ b, b < w.heap.size → (∀ k, A b = some k → k.own = false) → w'.heap[b]? = w.heap[b]?
  owns : ∀ b k, A' b = some k → k.own = true → (∃ k0, A b = some k0 ∧ k0.own = true) ∨ w.heap.size ≤ b
  olds : ∀ b k, A' b = some k → (∃ k0, A b = some k0) ∨ w.heap.size ≤ b

theorem Step.refl (A : View) (w : World) : Step A w A w := ⟨rfl, rfl, rfl, Nat.le_refl _, fun _ _ _ => rfl, fun _ k h ho => .inl ⟨k, h, ho⟩, fun _ k h => .inl ⟨k, h⟩⟩

theorem Step.trans {A A1 A2 : View} {w w1 w2 : World} (h : Step A w A1 w1) (h' : Step A1 w1 A2 w2) : Step A w A2 w2 := by
  refine ⟨h'.os.trans h.os, h'.tape.trans h.tape, h'.output.trans h.output, Nat.le_trans h.size h'.size, fun b hb hn => ?_, fun b k hk ho => ?_, fun b k hk => ?_⟩
  · rw [← h.kept b hb hn]
    refine h'.kept b (Nat.lt_of_lt_of_le hb h.size) fun k hk => ?_
    cases ho : k.own with
    | false => rfl
    | true =>
      rcases h.owns b k hk ho with ⟨k0, h0, h1⟩ | h0
      · rw [hn k0 h0] at h1; simp at h1
      · omega
  · rcases h'.owns b k hk ho with ⟨k0, h0, h1⟩ | h0
    · exact h.owns b k0 h0 h1
    · exact .inr (Nat.le_trans h.size h0)
  · rcases h'.olds b k hk with ⟨k0, h0⟩ | h0
    · exact h.olds b k0 h0
    · exact .inr (Nat.le_trans h.size h0)

/-- A draw of the tape changes nothing that a view tells. -/
theorem Step.drew (A : View) (w : World) : Step A w A { w with drawn := w.drawn + 1 } := ⟨rfl, rfl, rfl, Nat.le_refl _, fun _ _ _ => rfl, fun _ k h ho => .inl ⟨k, h, ho⟩, fun _ k h => .inl ⟨k, h⟩⟩
theorem Rel.drew {A : View} {w : World} (h : Rel A w) : Rel A { w with drawn := w.drawn + 1 } := h

/-! ### new blocks -/
theorem heap_push_lt (w : World) (o : Obj) {b : Nat} (h : b < w.heap.size) : (w.heap.push o)[b]? = w.heap[b]? := by
  rw [Array.getElem?_push]
  split
  · omega
  · rfl

theorem Rel.new {A : View} {w : World} (h : Rel A w) (e : TypeId) (cs : List Value) (h1 : ∀ v ∈ cs, v.oneCell' = true) (rest : List Value) :
    A w.heap.size = none ∧ Rel (A.set w.heap.size ⟨e, cs, cs.length + rest.length, true⟩) { w with heap := w.heap.push (.cells (cs ++ rest).toArray e) } ∧
    Step A w (A.set w.heap.size ⟨e, cs, cs.length + rest.length, true⟩) { w with heap := w.heap.push (.cells (cs ++ rest).toArray e) } := by
  have hn : A w.heap.size = none := by
    cases hk : A w.heap.size with
    | none => rfl
    | some k => exact absurd (h.lt hk) (Nat.lt_irrefl _)
  refine ⟨hn, fun b k hb => ?_, ⟨rfl, rfl, rfl, by simp, fun b hb _ => heap_push_lt w _ hb, fun b k hk ho => ?_, fun b k hk => ?_⟩⟩
  · by_cases hbw : b = w.heap.size
    · subst hbw
      rw [View.set_same] at hb
      obtain rfl := Option.some.inj hb
      exact ⟨⟨(cs ++ rest).toArray, (0, 0), by simp, by simp, by simp, by simp, fun _ => rfl⟩, fun _ => h1, fun h => by cases h⟩
    · rw [View.set_ne _ _ hbw] at hb
      have := h.lt hb
      show k.Fits (w.heap.push _)[b]?
      rw [heap_push_lt w _ this]
      exact h b k hb
  · by_cases hbw : b = w.heap.size
    · exact .inr (by omega)
    · rw [View.set_ne _ _ hbw] at hk
      exact .inl ⟨k, hk, ho⟩
  · by_cases hbw : b = w.heap.size
    · exact .inr (by omega)
    · rw [View.set_ne _ _ hbw] at hk
      exact .inl ⟨k, hk⟩

/-! ### one block written -/
theorem Rel.write {A : View} {w : World} (h : Rel A w) {b : Nat} {k : Blk} (hk : A b = some k) (hown : k.own = true) {c' : Array Value} {cs : List Value}
    (hlen : cs.length ≤ k.room) (hsz : k.room ≤ c'.size) (hc : c'.toList.take cs.length = cs) (h1 : ∀ v ∈ cs, v.oneCell' = true) :
    Rel (A.set b ⟨k.ty, cs, k.room, true⟩) (w.setRow b c') ∧ Step A w (A.set b ⟨k.ty, cs, k.room, true⟩) (w.setRow b c') := by
  obtain ⟨⟨c, fz, hcell, hs, hl, ht, hf⟩, _⟩ := h b k hk
  obtain rfl := hf hown
  have hlt := h.lt hk
  have hheap : (w.setRow b c').heap[b]? = some (.cells c' k.ty (0, 0)) := setRow_heap w b c c' k.ty (0, 0) hcell
  have hother : ∀ x, x ≠ b → (w.setRow b c').heap[x]? = w.heap[x]? := fun x hx => setRow_other w b x c' hx
  refine ⟨fun x kx hx => ?_, ⟨rfl, rfl, rfl, by simp [World.setRow], fun x _ hn => ?_, fun x kx hx ho => ?_, fun x kx hx => ?_⟩⟩
  · by_cases hxb : x = b
    · subst hxb
      rw [View.set_same] at hx
      obtain rfl := Option.some.inj hx
      exact ⟨⟨c', (0, 0), hheap, hsz, hlen, hc, fun _ => rfl⟩, fun _ => h1, fun h => by cases h⟩
    · rw [View.set_ne _ _ hxb] at hx
      rw [hother x hxb]
      exact h x kx hx
  · by_cases hxb : x = b
    · subst hxb
      have := hn k hk
      rw [hown] at this; simp at this
    · exact hother x hxb
  · by_cases hxb : x = b
    · subst hxb; exact .inl ⟨k, hk, hown⟩
    · rw [View.set_ne _ _ hxb] at hx
      exact .inl ⟨kx, hx, ho⟩
  · by_cases hxb : x = b
    · subst hxb; exact .inl ⟨k, hk⟩
    · rw [View.set_ne _ _ hxb] at hx
      exact .inl ⟨kx, hx⟩

/-- Cells frozen: the block is no longer written, and nothing is told of what it holds. -/
theorem Rel.freeze {A : View} {w : World} (h : Rel A w) {a : Addr} {k : Blk} (hk : A a.block = some k) (hown : k.own = true) (h0 : 0 < k.room) (n : Nat) :
    Rel (A.set a.block ⟨k.ty, [], k.room, false⟩) (w.freeze a n) ∧ Step A w (A.set a.block ⟨k.ty, [], k.room, false⟩) (w.freeze a n) := by
  obtain ⟨⟨c, fz, hcell, hs, hl, ht, _⟩, _⟩ := h _ k hk
  have hother : ∀ x, x ≠ a.block → (w.freeze a n).heap[x]? = w.heap[x]? := fun x hx => by
    unfold World.freeze
    split
    · rfl
    · simp [Array.getElem?_modify, Ne.symm hx]
  have hsame : ∃ fz', (w.freeze a n).heap[a.block]? = some (.cells c k.ty fz') := by
    unfold World.freeze
    split
    · exact ⟨fz, hcell⟩
    · simp [Array.getElem?_modify, hcell]
  obtain ⟨fz', hsame⟩ := hsame
  have hsz : (w.freeze a n).heap.size = w.heap.size := by
    unfold World.freeze
    split
    · rfl
    · simp
  have hrest : (w.freeze a n).os = w.os ∧ (w.freeze a n).tape = w.tape ∧ (w.freeze a n).output = w.output := by
    unfold World.freeze
    split
    · exact ⟨rfl, rfl, rfl⟩
    · exact ⟨rfl, rfl, rfl⟩
  refine ⟨fun x kx hx => ?_, ⟨hrest.1, hrest.2.1, hrest.2.2, by rw [hsz]; exact Nat.le_refl _, fun x _ hn => ?_, fun x kx hx ho => ?_, fun x kx hx => ?_⟩⟩
  · by_cases hxb : x = a.block
    · subst hxb
      rw [View.set_same] at hx
      obtain rfl := Option.some.inj hx
      exact ⟨⟨c, fz', hsame, hs, Nat.zero_le _, rfl, fun e => by cases e⟩, fun e => (by cases e), fun _ e => absurd e (Nat.ne_of_lt h0)⟩
    · rw [View.set_ne _ _ hxb] at hx
      rw [hother x hxb]
      exact h x kx hx
  · by_cases hxb : x = a.block
    · subst hxb
      have := hn k hk
      rw [hown] at this; cases this
    · exact hother x hxb
  · by_cases hxb : x = a.block
    · subst hxb
      rw [View.set_same] at hx
      obtain rfl := Option.some.inj hx
      cases ho
    · rw [View.set_ne _ _ hxb] at hx
      exact .inl ⟨kx, hx, ho⟩
  · by_cases hxb : x = a.block
    · subst hxb; exact .inl ⟨k, hk⟩
    · rw [View.set_ne _ _ hxb] at hx
      exact .inl ⟨kx, hx⟩

/-- What is forgotten stays true. -/
theorem Rel.forget {A A' : View} {w : World} (h : Rel A w) (hs : ∀ b k, A' b = some k → A b = some k) : Rel A' w := fun b k hb => h b k (hs b k hb)
theorem Step.forget {A A' : View} (w : World) (hs : ∀ b k, A' b = some k → A b = some k) : Step A w A' w :=
  ⟨rfl, rfl, rfl, Nat.le_refl _, fun _ _ _ => rfl, fun b k hb ho => .inl ⟨k, hs b k hb, ho⟩, fun b k hb => .inl ⟨k, hs b k hb⟩⟩

/-- A block that nothing is known of may be thought of as any block. -/
theorem Rel.any {A : View} {w : World} (h : Rel A w) {b : Nat} (hb : A b = none) {k : Blk} (hl : k.cells.length ≤ k.room) (h1 : k.own = true → ∀ v ∈ k.cells, v.oneCell' = true) : ∃ w', Rel (A.set b k) w' := by
  refine ⟨{ w with heap := (w.heap ++ Array.replicate (b + 1) (Obj.cells #[] 0)).setIfInBounds b (Obj.cells (k.cells ++ List.replicate (k.room - k.cells.length) undef).toArray k.ty) }, fun x kx hx => ?_⟩
  by_cases hxb : x = b
  · subst hxb
    rw [View.set_same] at hx
    obtain rfl := Option.some.inj hx
    have hx : ({ w with heap := (w.heap ++ Array.replicate (x + 1) (Obj.cells #[] 0)).setIfInBounds x (Obj.cells (k.cells ++ List.replicate (k.room - k.cells.length) undef).toArray k.ty) } : World).heap[x]? = some (Obj.cells (k.cells ++ List.replicate (k.room - k.cells.length) undef).toArray k.ty) := by
      show (Array.setIfInBounds _ _ _)[x]? = _
      rw [Array.getElem?_setIfInBounds_self_of_lt (by simp; omega)]
    have hz : (k.cells ++ List.replicate (k.room - k.cells.length) undef).toArray.size = k.room := by simp; omega
    exact ⟨⟨_, (0, 0), hx, by rw [hz]; exact Nat.le_refl _, hl, by simp, fun _ => rfl⟩, h1, fun _ _ => ⟨_, (0, 0), hx, hz⟩⟩
  · rw [View.set_ne _ _ hxb] at hx
    have hlt := h.lt hx
    show kx.Fits (Array.setIfInBounds _ _ _)[x]?
    rw [Array.getElem?_setIfInBounds_ne (by omega), Array.getElem?_append_left hlt]
    exact h x kx hx

end Go.Proofs.YtggklaimbklefaaDoor

