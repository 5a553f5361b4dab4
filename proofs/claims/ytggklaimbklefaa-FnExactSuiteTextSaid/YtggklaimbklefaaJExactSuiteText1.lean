/- Part 1 of the proof: its texts, one behind the other. -/
import Derived.Laws.AppendOwn
import Derived.Laws.CopyRow
import Derived.Laws.Cells
import Derived.OrdersHeld
import Derived.Deep.LoopGhost
import Derived.Tactics
import Derived.IntWalk
import Derived.Lib.IndexBytes
import Derived.Deep.AppendSrc
import Derived.Laws.MakeOwn
import Derived.Lib.Bytealg
import Derived.ProofKit
import Derived.Deep.DeepHandedRow
import Derived.SizedLaws
import Derived.OpenShut
import Derived.WideKeyArgs

/- Views of memory: what is known of the heap's blocks, and the laws by which single steps of the model keep a view true. -/
set_option maxHeartbeats 4000000
set_option synthInstance.maxHeartbeats 400000
set_option synthInstance.maxSize 4096
set_option linter.unusedSimpArgs false
set_option linter.unusedVariables false
namespace Go.Proofs.Ytggklaimbklefaa

/-- What is known of one block: its element type, its first cells, how many cells it has, and whether it is ours to write. -/
structure Blk where
  ty : TypeId
  cells : List Value
  room : Nat
  own : Bool

abbrev View := Nat → Option Blk

structure Blk.Fits (k : Blk) (o : Option Obj) : Prop where
  ex : ∃ c fz, o = some (.cells c k.ty fz) ∧ k.room ≤ c.size ∧ k.cells.length ≤ k.room ∧ c.toList.take k.cells.length = k.cells ∧ (k.own = true → fz = (0, 0))
  one : k.own = true → ∀ v ∈ k.cells, v.oneCell' = true

def Rel (A : View) (w : World) : Prop := ∀ b k, A b = some k → k.Fits w.heap[b]?

def View.set (A : View) (b : Nat) (k : Blk) : View := fun x => if x = b then some k else A x
def View.kill (A : View) (b : Nat) : View := fun x => if x = b then none else A x
def View.cell (A : View) (a : Addr) : Option Value := if a.spot = none then (A a.block).bind fun k => (k.cells[a.off]?).filter (·.oneCell') else none
def View.part (A : View) (a : Addr) (n : Nat) : Option (List Value) :=
  if a.spot = none then (A a.block).bind fun k => if a.off + n ≤ k.cells.length ∧ ((k.cells.drop a.off).take n).all (·.oneCell') = true then some ((k.cells.drop a.off).take n) else none else none

theorem View.set_same (A : View) (b : Nat) (k : Blk) : A.set b k b = some k := by simp [View.set]
theorem View.set_ne (A : View) {b x : Nat} (k : Blk) (h : x ≠ b) : A.set b k x = A x := by simp [View.set, h]
theorem View.kill_same (A : View) (b : Nat) : A.kill b b = none := by simp [View.kill]
theorem View.kill_ne (A : View) {b x : Nat} (h : x ≠ b) : A.kill b x = A x := by simp [View.kill, h]

theorem Rel.lt {A : View} {w : World} (h : Rel A w) {b : Nat} {k : Blk} (hb : A b = some k) : b < w.heap.size := by
  obtain ⟨⟨c, fz, hc, _⟩, _⟩ := h b k hb
  exact (Array.getElem?_eq_some_iff.1 hc).1

theorem View.cell_some {A : View} {a : Addr} {v : Value} (hv : A.cell a = some v) : a.spot = none ∧ (∃ k, A a.block = some k ∧ k.cells[a.off]? = some v) ∧ v.oneCell' = true := by
  unfold View.cell at hv
  split at hv
  · rename_i hs
    cases hk : A a.block with
    | none => simp [hk] at hv
    | some k =>
      rw [hk, Option.bind_some, Option.filter_eq_some_iff] at hv
      exact ⟨hs, ⟨k, rfl, hv.1⟩, hv.2⟩
  · cases hv

theorem View.cell_mk {A : View} {a : Addr} {v : Value} {k : Blk} (hs : a.spot = none) (hk : A a.block = some k) (hc : k.cells[a.off]? = some v) (h1 : v.oneCell' = true) : A.cell a = some v := by
  unfold View.cell
  rw [if_pos hs, hk, Option.bind_some, hc, Option.filter_eq_some_iff]
  exact ⟨rfl, h1⟩

theorem View.part_some {A : View} {a : Addr} {n : Nat} {cs : List Value} (hv : A.part a n = some cs) : a.spot = none ∧ ∃ k, A a.block = some k ∧ a.off + n ≤ k.cells.length ∧ cs = (k.cells.drop a.off).take n ∧ ∀ v ∈ cs, v.oneCell' = true := by
  unfold View.part at hv
  split at hv
  · rename_i hs
    cases hk : A a.block with
    | none => simp [hk] at hv
    | some k =>
      rw [hk, Option.bind_some] at hv
      split at hv
      · rename_i hc
        injection hv with hv
        subst hv
        exact ⟨hs, k, rfl, hc.1, rfl, List.all_eq_true.1 hc.2⟩
      · cases hv
  · cases hv

theorem View.part_mk {A : View} {a : Addr} {n : Nat} {k : Blk} (hs : a.spot = none) (hk : A a.block = some k) (hl : a.off + n ≤ k.cells.length) (h1 : ∀ v ∈ (k.cells.drop a.off).take n, v.oneCell' = true) : A.part a n = some ((k.cells.drop a.off).take n) := by
  unfold View.part
  rw [if_pos hs, hk, Option.bind_some, if_pos ⟨hl, List.all_eq_true.2 h1⟩]

theorem Rel.cell {A : View} {w : World} (h : Rel A w) {a : Addr} {v : Value} (hv : A.cell a = some v) : w.cell? a = some v := by
  obtain ⟨hs, ⟨k, hk, hv⟩, _⟩ := View.cell_some hv
  obtain ⟨⟨c, fz, hc, _, _, ht, _⟩, _⟩ := h _ _ hk
  simp only [World.cell?, hc, hs]
  rw [← ht] at hv
  rw [List.getElem?_take] at hv
  split at hv
  · simpa using hv
  · simp at hv

theorem Rel.one {A : View} {w : World} (_ : Rel A w) {a : Addr} {v : Value} (hv : A.cell a = some v) : v.oneCell' = true := (View.cell_some hv).2.2

theorem Rel.part {A : View} {w : World} (h : Rel A w) {a : Addr} {n : Nat} {cs : List Value} (hv : A.part a n = some cs) :
    cs.length = n ∧ (∀ j v, cs[j]? = some v → w.cell? (a.add j) = some v) ∧ ∀ v ∈ cs, v.oneCell' = true := by
  obtain ⟨hs, k, hk, hle, rfl, h1⟩ := View.part_some hv
  refine ⟨by simp; omega, fun j v hj => ?_, h1⟩
  have hm := h1 v (List.mem_of_getElem? hj)
  have hc : A.cell (a.add j) = some v := by
    rw [List.getElem?_take] at hj
    split at hj
    · rw [List.getElem?_drop] at hj
      unfold Addr.add
      split
      · rename_i h0; subst h0; exact View.cell_mk hs hk (by simpa using hj) hm
      · exact View.cell_mk rfl hk hj hm
    · simp at hj
  exact h.cell hc

/-- What a piece of code may do to the world, seen from a view: it writes what is owned, and makes new blocks. -/
structure Step (A : View) (w : World) (A' : View) (w' : World) : Prop where
  os : w'.os = w.os
  tape : w'.tape = w.tape
  output : w'.output = w.output
  size : w.heap.size ≤ w'.heap.size
  kept : ∀ b, b < w.heap.size → (∀ k, A b = some k → k.own = false) → w'.heap[b]? = w.heap[b]?
  owns : ∀ b k, A' b = some k → k.own = true → (∃ k0, A b = some k0 ∧ k0.own = true) ∨ w.heap.size ≤ b
  olds : ∀ b k, A' b = some k → (∃ k0, A b = some k0) ∨ w.heap.size ≤ b

theorem Step.refl (A : View) (w : World) : Step A w A w := ⟨rfl, rfl, rfl, Nat.le_refl _, fun _ _ _ => rfl, fun _ k h ho => .inl ⟨k, h, ho⟩, fun _ k h => .inl ⟨k, h⟩⟩

theorem Step.trans {A A1 A2 : View} {w w1 w2 : World} (h : Step A w A1 w1) (h' : Step A1 w1 A2 w2) : Step A w A2 w2 := by
  refine ⟨h'.os.trans h.os, h'.tape.trans h.tape, h'.output.trans h.output, Nat.le_trans h.size h'.size, fun b hb hn => ?_, fun b k hk ho => ?_, fun b k hk => ?_⟩
  · rw [← h.kept b hb hn]
    refine h'.kept b (Nat.lt_of_lt_of_le hb h.size) fun k hk => ?_
    cases ho : k.own with
    | false => rfl
    | true =>
      rcases h.owns b k hk ho with ⟨k0, h0, h1⟩ | h0
      · rw [hn k0 h0] at h1; simp at h1
      · omega
  · rcases h'.owns b k hk ho with ⟨k0, h0, h1⟩ | h0
    · exact h.owns b k0 h0 h1
    · exact .inr (Nat.le_trans h.size h0)
  · rcases h'.olds b k hk with ⟨k0, h0⟩ | h0
    · exact h.olds b k0 h0
    · exact .inr (Nat.le_trans h.size h0)

/-- A draw of the tape changes nothing that a view tells. -/
theorem Step.drew (A : View) (w : World) : Step A w A { w with drawn := w.drawn + 1 } := ⟨rfl, rfl, rfl, Nat.le_refl _, fun _ _ _ => rfl, fun _ k h ho => .inl ⟨k, h, ho⟩, fun _ k h => .inl ⟨k, h⟩⟩
theorem Rel.drew {A : View} {w : World} (h : Rel A w) : Rel A { w with drawn := w.drawn + 1 } := h

/-! ### new blocks -/
theorem heap_push_lt (w : World) (o : Obj) {b : Nat} (h : b < w.heap.size) : (w.heap.push o)[b]? = w.heap[b]? := by
  rw [Array.getElem?_push]
  split
  · omega
  · rfl

theorem Rel.new {A : View} {w : World} (h : Rel A w) (e : TypeId) (cs : List Value) (h1 : ∀ v ∈ cs, v.oneCell' = true) (rest : List Value) :
    A w.heap.size = none ∧ Rel (A.set w.heap.size ⟨e, cs, cs.length + rest.length, true⟩) { w with heap := w.heap.push (.cells (cs ++ rest).toArray e) } ∧
    Step A w (A.set w.heap.size ⟨e, cs, cs.length + rest.length, true⟩) { w with heap := w.heap.push (.cells (cs ++ rest).toArray e) } := by
  have hn : A w.heap.size = none := by
    cases hk : A w.heap.size with
    | none => rfl
    | some k => exact absurd (h.lt hk) (Nat.lt_irrefl _)
  refine ⟨hn, fun b k hb => ?_, ⟨rfl, rfl, rfl, by simp, fun b hb _ => heap_push_lt w _ hb, fun b k hk ho => ?_, fun b k hk => ?_⟩⟩
  · by_cases hbw : b = w.heap.size
    · subst hbw
      rw [View.set_same] at hb
      obtain rfl := Option.some.inj hb
      exact ⟨⟨(cs ++ rest).toArray, (0, 0), by simp, by simp, by simp, by simp, fun _ => rfl⟩, fun _ => h1⟩
    · rw [View.set_ne _ _ hbw] at hb
      have := h.lt hb
      show k.Fits (w.heap.push _)[b]?
      rw [heap_push_lt w _ this]
      exact h b k hb
  · by_cases hbw : b = w.heap.size
    · exact .inr (by omega)
    · rw [View.set_ne _ _ hbw] at hk
      exact .inl ⟨k, hk, ho⟩
  · by_cases hbw : b = w.heap.size
    · exact .inr (by omega)
    · rw [View.set_ne _ _ hbw] at hk
      exact .inl ⟨k, hk⟩

/-! ### one block written -/
theorem Rel.write {A : View} {w : World} (h : Rel A w) {b : Nat} {k : Blk} (hk : A b = some k) (hown : k.own = true) {c' : Array Value} {cs : List Value}
    (hlen : cs.length ≤ k.room) (hsz : k.room ≤ c'.size) (hc : c'.toList.take cs.length = cs) (h1 : ∀ v ∈ cs, v.oneCell' = true) :
    Rel (A.set b ⟨k.ty, cs, k.room, true⟩) (w.setRow b c') ∧ Step A w (A.set b ⟨k.ty, cs, k.room, true⟩) (w.setRow b c') := by
  obtain ⟨⟨c, fz, hcell, hs, hl, ht, hf⟩, _⟩ := h b k hk
  obtain rfl := hf hown
  have hlt := h.lt hk
  have hheap : (w.setRow b c').heap[b]? = some (.cells c' k.ty (0, 0)) := setRow_heap w b c c' k.ty (0, 0) hcell
  have hother : ∀ x, x ≠ b → (w.setRow b c').heap[x]? = w.heap[x]? := fun x hx => setRow_other w b x c' hx
  refine ⟨fun x kx hx => ?_, ⟨rfl, rfl, rfl, by simp [World.setRow], fun x _ hn => ?_, fun x kx hx ho => ?_, fun x kx hx => ?_⟩⟩
  · by_cases hxb : x = b
    · subst hxb
      rw [View.set_same] at hx
      obtain rfl := Option.some.inj hx
      exact ⟨⟨c', (0, 0), hheap, hsz, hlen, hc, fun _ => rfl⟩, fun _ => h1⟩
    · rw [View.set_ne _ _ hxb] at hx
      rw [hother x hxb]
      exact h x kx hx
  · by_cases hxb : x = b
    · subst hxb
      have := hn k hk
      rw [hown] at this; simp at this
    · exact hother x hxb
  · by_cases hxb : x = b
    · subst hxb; exact .inl ⟨k, hk, hown⟩
    · rw [View.set_ne _ _ hxb] at hx
      exact .inl ⟨kx, hx, ho⟩
  · by_cases hxb : x = b
    · subst hxb; exact .inl ⟨k, hk⟩
    · rw [View.set_ne _ _ hxb] at hx
      exact .inl ⟨kx, hx⟩

/-- Cells frozen: the block is read from now on, and no longer written. -/
theorem Rel.freeze {A : View} {w : World} (h : Rel A w) {a : Addr} {k : Blk} (hk : A a.block = some k) (hown : k.own = true) (n : Nat) :
    Rel (A.set a.block ⟨k.ty, k.cells, k.room, false⟩) (w.freeze a n) ∧ Step A w (A.set a.block ⟨k.ty, k.cells, k.room, false⟩) (w.freeze a n) := by
  obtain ⟨⟨c, fz, hcell, hs, hl, ht, _⟩, _⟩ := h _ k hk
  have hother : ∀ x, x ≠ a.block → (w.freeze a n).heap[x]? = w.heap[x]? := fun x hx => by
    unfold World.freeze
    split
    · rfl
    · simp [Array.getElem?_modify, Ne.symm hx]
  have hsame : ∃ fz', (w.freeze a n).heap[a.block]? = some (.cells c k.ty fz') := by
    unfold World.freeze
    split
    · exact ⟨fz, hcell⟩
    · simp [Array.getElem?_modify, hcell]
  obtain ⟨fz', hsame⟩ := hsame
  have hsz : (w.freeze a n).heap.size = w.heap.size := by
    unfold World.freeze
    split
    · rfl
    · simp
  have hrest : (w.freeze a n).os = w.os ∧ (w.freeze a n).tape = w.tape ∧ (w.freeze a n).output = w.output := by
    unfold World.freeze
    split
    · exact ⟨rfl, rfl, rfl⟩
    · exact ⟨rfl, rfl, rfl⟩
  refine ⟨fun x kx hx => ?_, ⟨hrest.1, hrest.2.1, hrest.2.2, by rw [hsz]; exact Nat.le_refl _, fun x _ hn => ?_, fun x kx hx ho => ?_, fun x kx hx => ?_⟩⟩
  · by_cases hxb : x = a.block
    · subst hxb
      rw [View.set_same] at hx
      obtain rfl := Option.some.inj hx
      exact ⟨⟨c, fz', hsame, hs, hl, ht, fun e => by cases e⟩, fun e => by cases e⟩
    · rw [View.set_ne _ _ hxb] at hx
      rw [hother x hxb]
      exact h x kx hx
  · by_cases hxb : x = a.block
    · subst hxb
      have := hn k hk
      rw [hown] at this; cases this
    · exact hother x hxb
  · by_cases hxb : x = a.block
    · subst hxb
      rw [View.set_same] at hx
      obtain rfl := Option.some.inj hx
      cases ho
    · rw [View.set_ne _ _ hxb] at hx
      exact .inl ⟨kx, hx, ho⟩
  · by_cases hxb : x = a.block
    · subst hxb; exact .inl ⟨k, hk⟩
    · rw [View.set_ne _ _ hxb] at hx
      exact .inl ⟨kx, hx⟩

/-- What is forgotten stays true. -/
theorem Rel.forget {A A' : View} {w : World} (h : Rel A w) (hs : ∀ b k, A' b = some k → A b = some k) : Rel A' w := fun b k hb => h b k (hs b k hb)
theorem Step.forget {A A' : View} (w : World) (hs : ∀ b k, A' b = some k → A b = some k) : Step A w A' w :=
  ⟨rfl, rfl, rfl, Nat.le_refl _, fun _ _ _ => rfl, fun b k hb ho => .inl ⟨k, hs b k hb, ho⟩, fun b k hb => .inl ⟨k, hs b k hb⟩⟩

/-- A block that nothing is known of may be thought of as any block. -/
theorem Rel.any {A : View} {w : World} (h : Rel A w) {b : Nat} (hb : A b = none) {k : Blk} (hl : k.cells.length ≤ k.room) (h1 : k.own = true → ∀ v ∈ k.cells, v.oneCell' = true) : ∃ w', Rel (A.set b k) w' := by
  refine ⟨{ w with heap := (w.heap ++ Array.replicate (b + 1) (Obj.cells #[] 0)).setIfInBounds b (Obj.cells (k.cells ++ List.replicate (k.room - k.cells.length) undef).toArray k.ty) }, fun x kx hx => ?_⟩
  by_cases hxb : x = b
  · subst hxb
    rw [View.set_same] at hx
    obtain rfl := Option.some.inj hx
    refine ⟨⟨(k.cells ++ List.replicate (k.room - k.cells.length) undef).toArray, (0, 0), ?_, ?_, hl, ?_, fun _ => rfl⟩, h1⟩
    · show (Array.setIfInBounds _ _ _)[x]? = _
      rw [Array.getElem?_setIfInBounds_self_of_lt (by simp; omega)]
    · simp; omega
    · simp
  · rw [View.set_ne _ _ hxb] at hx
    have hlt := h.lt hx
    show kx.Fits (Array.setIfInBounds _ _ _)[x]?
    rw [Array.getElem?_setIfInBounds_ne (by omega), Array.getElem?_append_left hlt]
    exact h x kx hx

end Go.Proofs.Ytggklaimbklefaa

/- A weakest precondition over views, for the model's single operations and for its code; it is sound for every world that fits the view. -/
set_option maxHeartbeats 4000000
set_option synthInstance.maxHeartbeats 400000
set_option synthInstance.maxSize 4096
set_option linter.unusedSimpArgs false
set_option linter.unusedVariables false
namespace Go.Proofs.Ytggklaimbklefaa

abbrev Fr := Nat → Value
def upd (fr : Fr) (t : Nat) (v : Value) : Fr := fun s => if s = t then v else fr s
def updO (fr : Fr) (t : Option Nat) (v : Value) : Fr := match t with | some t => upd fr t v | none => fr
def ev (fr : Fr) : Operand → Value
  | .tmp t => fr t
  | .const v => v
  | .global g => .pointer (some ⟨g, 0, none⟩)
  | .func f => .func (.func f) #[] #[]

/-- A contract: called in any world that fits the view 'A', the function returns; what it returns and a view of the world behind it meet 'R'. -/
def ACalls (P : Program) (f : FuncId) (args : Array Value) (A : View) (R : Value → View → Prop) : Prop :=
  ∀ w, Rel A w → Calls P f args w fun e w' => ∃ v A', e = .returned v ∧ R v A' ∧ Rel A' w' ∧ Step A w A' w'

theorem ACalls.mono {P : Program} {f : FuncId} {args : Array Value} {A : View} {R R' : Value → View → Prop} (h : ACalls P f args A R) (hr : ∀ v A', R v A' → R' v A') : ACalls P f args A R' :=
  fun w hw => (h w hw).mono fun _ _ ⟨v, A', he, hR, hrel, hs⟩ => ⟨v, A', he, hr _ _ hR, hrel, hs⟩

/-- Less is told of some blocks. -/
def Weaker (B A : View) : Prop := ∀ b k2, B b = some k2 → ∃ k, A b = some k ∧ k2.own = k.own ∧ (k2 = k ∨ k2.ty = k.ty ∧ k2.room ≤ k.room ∧ k2.cells.length ≤ k2.room ∧ ∃ rest, k.cells = k2.cells ++ rest)
theorem Weaker.rel {A B : View} {w : World} (h : Weaker B A) (hw : Rel A w) : Rel B w := fun b k2 hb => by
  obtain ⟨k, hk, ho, rfl | ⟨ht, hr, hl, rest, hc⟩⟩ := h b k2 hb
  · exact hw b _ hk
  obtain ⟨⟨c, fz, h1, h2, h3, h4, h5⟩, h6⟩ := hw b k hk
  refine ⟨⟨c, fz, by rw [ht]; exact h1, by omega, hl, ?_, fun e => h5 (by rw [← ho]; exact e)⟩, fun e v hv => h6 (by rw [← ho]; exact e) v (by rw [hc]; exact List.mem_append_left _ hv)⟩
  have : (c.toList.take k.cells.length).take k2.cells.length = k2.cells := by rw [h4, hc, List.take_left']; rfl
  rw [List.take_take, Nat.min_eq_left (by rw [hc, List.length_append]; omega)] at this
  exact this
theorem Weaker.step {A B C : View} {w w' : World} (h : Weaker B A) (hs : Step C w A w') : Step C w B w' :=
  ⟨hs.os, hs.tape, hs.output, hs.size, hs.kept, fun b k hk ho => by
    obtain ⟨k', hk', ho', _⟩ := h b k hk
    exact hs.owns b k' hk' (by rw [← ho']; exact ho), fun b k hk => by
    obtain ⟨k', hk', _⟩ := h b k hk
    exact hs.olds b k' hk'⟩
theorem Weaker.set {A : View} {b : Nat} {k k2 : Blk} (hb : A b = some k) (ho : k2.own = k.own) (h : k2.ty = k.ty ∧ k2.room ≤ k.room ∧ k2.cells.length ≤ k2.room ∧ ∃ rest, k.cells = k2.cells ++ rest) : Weaker (A.set b k2) A := fun x kx hx => by
  by_cases hxb : x = b
  · subst hxb
    rw [View.set_same] at hx
    obtain rfl := Option.some.inj hx
    exact ⟨k, hb, ho, .inr h⟩
  · rw [View.set_ne _ _ hxb] at hx
    exact ⟨kx, hx, rfl, .inl rfl⟩
theorem ACalls.weaken {P : Program} {f : FuncId} {args : Array Value} {A : View} {R R' : Value → View → Prop} (h : ACalls P f args A R) (hr : ∀ v A', R v A' → ∃ B, Weaker B A' ∧ R' v B) : ACalls P f args A R' :=
  fun w hw => (h w hw).mono fun _ _ ⟨v, A', he, hR, hrel, hs⟩ => let ⟨B, hB, hR'⟩ := hr _ _ hR; ⟨v, B, he, hR', hB.rel hrel, hB.step hs⟩

/-! ### the model's little programs -/
/-- What a question may be answered. -/
def Ans (q : Question) (n : Nat) : Prop := (q.forced = true ∧ n = 0) ∨ ∃ t, n = q.cut t
def sawp (P : Program) {α : Type} : Sem α → (α → View → Prop) → View → Prop
  | .pure a, K, A => K a A
  | .program k, K, A => sawp P (k P) K A
  | .mark _ k, K, A => sawp P k K A
  | .load _ a k, K, A => match A.cell a with
    | some v => sawp P (k v) K A
    | none => False
  | .store _ a v k, K, A => match A a.block with
    | some b => a.spot = none ∧ b.own = true ∧ a.off < b.cells.length ∧ v.oneCell' = true ∧ sawp P k K (A.set a.block ⟨b.ty, b.cells.set a.off v, b.room, true⟩)
    | none => False
  | .new (.cells c e (0, 0)) k, K, A => (∀ v ∈ c.toList, v.oneCell' = true) ∧ ∀ b, A b = none → sawp P (k b) K (A.set b ⟨e, c.toList, c.size, true⟩)
  | .shape r k, K, A => match A r with
    | some b => ∀ n, b.room ≤ n → sawp P (k (some (b.ty, n))) K A
    | none => False
  | .freeze a _ k, K, A => match A a.block with
    | some b => b.own = true ∧ sawp P k K (A.set a.block ⟨b.ty, b.cells, b.room, false⟩)
    | none => False
  | .choose q k, K, A => (∃ b kb, A b = some kb) ∧ ∀ n, Ans q n → sawp P (k n) K A
  | _, _, _ => False

/-- What 'sawp' says of a run. -/
def Comes1 (P : Program) {α : Type} (s : Sem α) (K : α → View → Prop) (A : View) : Prop :=
  ∀ w, Rel A w → ∃ a w' A', s.run P w = .ok a w' ∧ K a A' ∧ Rel A' w' ∧ Step A w A' w'

theorem sawp_sound {P : Program} {α : Type} (s : Sem α) (K : α → View → Prop) : ∀ A, sawp P s K A → Comes1 P s K A := by
  induction s with
  | pure a => exact fun A h w hw => ⟨a, w, A, rfl, h, hw, Step.refl A w⟩
  | program k ih => exact fun A h w hw => ih P A h w hw
  | mark m k ih => exact fun A h w hw => ih A h w hw
  | load m a k ih =>
    intro A h w hw
    simp only [sawp] at h
    split at h
    · rename_i v hv
      obtain ⟨x, w', A', hr, hK, hrel, hst⟩ := ih v A h w hw
      exact ⟨x, w', A', by simp only [Sem.run, hw.cell hv, hr], hK, hrel, hst⟩
    · exact h.elim
  | store m a v k ih =>
    intro A h w hw
    simp only [sawp] at h
    split at h
    · rename_i b hb
      obtain ⟨hs, ho, hlt, h1, h⟩ := h
      obtain ⟨⟨c, fz, hc, hsz, hle, ht, hf⟩, hone⟩ := hw _ _ hb; have hone := hone ho
      obtain rfl := hf ho
      have hlc : a.off < c.size := by omega
      have ha : a = ⟨a.block, a.off, none⟩ := by rw [← hs]
      have hcell : w.cell? a = some c[a.off] := by simp [World.cell?, hc, hs, hlc]
      have hfro : w.frozen? a = false := by simp [World.frozen?, hc]
      have hset : w.setCell a v = w.setRow a.block (c.setIfInBounds a.off v) := by
        rw [ha]; exact setCell_eq_setRow w a.block a.off c b.ty (0, 0) v hc
      have hw1 := hw.write (c' := c.setIfInBounds a.off v) (cs := b.cells.set a.off v) hb ho (by simpa using hle) (by simpa using hsz) (by
        rw [Array.toList_setIfInBounds, List.length_set, List.take_set, ht]) (fun u hu => by
        rcases List.mem_or_eq_of_mem_set hu with h | h
        · exact hone u h
        · exact h ▸ h1)
      obtain ⟨x, w', A', hr, hK, hrel, hst⟩ := ih _ h _ hw1.1
      refine ⟨x, w', A', ?_, hK, hrel, hw1.2.trans hst⟩
      rw [← hset] at hr
      cases v <;> first
        | (simp [Value.oneCell'] at h1; done)
        | (simp only [Sem.run, hcell, hfro]; exact hr)
    · exact h.elim
  | new o k ih =>
    intro A h w hw
    cases o with
    | cells c e fz =>
      obtain ⟨f1, f2⟩ := fz
      cases f1 with
      | succ => exact h.elim
      | zero =>
        cases f2 with
        | succ => exact h.elim
        | zero =>
          obtain ⟨h1, h⟩ := h
          have hn := hw.new e c.toList h1 []
          simp only [List.length_nil, Nat.add_zero, List.append_nil, Array.toArray_toList, Array.length_toList] at hn
          obtain ⟨x, w', A', hr, hK, hrel, hst⟩ := ih _ _ (h _ hn.1) _ hn.2.1
          exact ⟨x, w', A', by simp only [Sem.run]; exact hr, hK, hrel, hn.2.2.trans hst⟩
    | _ => exact h.elim
  | shape r k ih =>
    intro A h w hw
    simp only [sawp] at h
    split at h
    · rename_i b hb
      obtain ⟨⟨c, fz, hc, hsz, _⟩, _⟩ := hw _ _ hb
      obtain ⟨x, w', A', hr, hK, hrel, hst⟩ := ih _ A (h c.size hsz) w hw
      have e : w.shape? r = some (b.ty, c.size) := by simp [World.shape?, hc]
      exact ⟨x, w', A', by simp only [Sem.run, e, hr], hK, hrel, hst⟩
    · exact h.elim
  | freeze a n k ih =>
    intro A h w hw
    simp only [sawp] at h
    split at h
    · rename_i b hb
      have hw1 := hw.freeze hb h.1 n
      obtain ⟨x, w', A', hr, hK, hrel, hst⟩ := ih _ h.2 _ hw1.1
      exact ⟨x, w', A', by simp only [Sem.run]; exact hr, hK, hrel, hw1.2.trans hst⟩
    · exact h.elim
  | choose q k ih =>
    intro A h w hw
    by_cases hq : q.forced = true
    · obtain ⟨x, w', A', hr, hK, hrel, hst⟩ := ih 0 A (h.2 0 (.inl ⟨hq, rfl⟩)) w hw
      exact ⟨x, w', A', by simp only [Sem.run]; rw [if_pos hq]; exact hr, hK, hrel, hst⟩
    · obtain ⟨x, w', A', hr, hK, hrel, hst⟩ := ih _ A (h.2 (q.cut (w.tape w.drawn q)) (.inr ⟨_, rfl⟩)) _ hw.drew
      exact ⟨x, w', A', by simp only [Sem.run]; rw [if_neg hq]; exact hr, hK, hrel, (Step.drew A w).trans hst⟩
  | _ => exact fun A h => h.elim

theorem sawp_mono {P : Program} {α : Type} {K K' : α → View → Prop} (hK : ∀ a A, K a A → K' a A) (s : Sem α) : ∀ A, sawp P s K A → sawp P s K' A := by
  induction s with
  | pure a => exact fun A h => hK _ _ h
  | program k ih => exact fun A h => ih P A h
  | mark m k ih => exact fun A h => ih A h
  | load m a k ih =>
    intro A h
    simp only [sawp] at h ⊢
    split at h
    · exact ih _ A h
    · exact h.elim
  | store m a v k ih =>
    intro A h
    simp only [sawp] at h ⊢
    split at h
    · exact ⟨h.1, h.2.1, h.2.2.1, h.2.2.2.1, ih _ h.2.2.2.2⟩
    · exact h.elim
  | new o k ih =>
    intro A h
    cases o with
    | cells c e fz =>
      obtain ⟨f1, f2⟩ := fz
      cases f1 with
      | succ => exact h.elim
      | zero =>
        cases f2 with
        | succ => exact h.elim
        | zero => exact ⟨h.1, fun b hb => ih b _ (h.2 b hb)⟩
    | _ => exact h.elim
  | shape r k ih =>
    intro A h
    simp only [sawp] at h ⊢
    split at h
    · exact fun n hn => ih _ A (h n hn)
    · exact h.elim
  | freeze a n k ih =>
    intro A h
    simp only [sawp] at h ⊢
    split at h
    · exact ⟨h.1, ih _ h.2⟩
    · exact h.elim
  | choose q k ih => exact fun A h => ⟨h.1, fun n hn => ih n A (h.2 n hn)⟩
  | _ => exact fun A h => h.elim

/-- A little program of two parts. -/
theorem sawp_bind {P : Program} {α β : Type} (s : Sem α) (f : α → Sem β) (K : β → View → Prop) : ∀ A, sawp P (s.bind f) K A = sawp P s (fun a A => sawp P (f a) K A) A := by
  induction s with
  | pure a => exact fun A => rfl
  | program k ih => exact fun A => ih P A
  | mark m k ih => exact fun A => ih A
  | load m a k ih =>
    intro A
    simp only [Sem.bind, sawp]
    split
    · exact ih _ A
    · rfl
  | store m a v k ih =>
    intro A
    simp only [Sem.bind, sawp]
    split
    · rw [ih]
    · rfl
  | new o k ih =>
    intro A
    cases o with
    | cells c e fz =>
      obtain ⟨f1, f2⟩ := fz
      cases f1 with
      | succ => rfl
      | zero =>
        cases f2 with
        | succ => rfl
        | zero => simp only [Sem.bind, sawp, ih]
    | _ => rfl
  | shape r k ih =>
    intro A
    simp only [Sem.bind, sawp, ih]
  | freeze a n k ih =>
    intro A
    simp only [Sem.bind, sawp, ih]
  | choose q k ih =>
    intro A
    simp only [Sem.bind, sawp, ih]
  | _ => exact fun A => rfl

/-- A type's layout: is it an aggregate, and how many cells has it. -/
def isAggD : TypeDesc → Bool
  | .struct _ => true
  | .array _ _ => true
  | _ => false
def lay (P : Program) (t : TypeId) : Option (Bool × Nat) :=
  match P.underlying t, P.info? t with
  | some d, some i => some (isAggD d, i.size)
  | _, _ => none

def View.loadv (A : View) (P : Program) (t : TypeId) (a : Addr) : Option Value :=
  match lay P t with
  | some (true, n) => (A.part a n).map fun cs => .agg cs.toArray
  | some (false, _) => A.cell a
  | none => none

theorem run_loadv {P : Program} {A : View} {w : World} {t : TypeId} {a : Addr} {v : Value} (h : A.loadv P t a = some v) (hw : Rel A w) : (loadVar t a).run P w = .ok v w := by
  unfold View.loadv lay at h
  cases hu : P.underlying t with
  | none => simp [hu] at h
  | some d =>
    cases hi : P.info? t with
    | none => simp [hu, hi] at h
    | some i =>
      have agg : (isAgg t).run P w = .ok (isAggD d) w := by
        cases d <;> simp [isAgg, run_underlying hu, isAggD]
      simp only [hu, hi] at h
      cases hd : isAggD d with
      | true =>
        rw [hd] at agg
        simp [hd] at h
        obtain ⟨cs, hcs, rfl⟩ := h
        obtain ⟨hl, hc, _⟩ := hw.part hcs
        have := run_loadCells_list (P := P) w a cs hc
        rw [hl] at this
        simp [loadVar, agg, sizeOf, typeInfo, hi, this]
      | false =>
        rw [hd] at agg
        simp [hd] at h
        simp [loadVar, agg, load, Sem.run, hw.cell h]

/-- A variable written. -/
def View.storev (A : View) (P : Program) (t : TypeId) (a : Addr) (v : Value) : Option View :=
  match A a.block with
  | some k => if a.spot = none ∧ k.own = true ∧ (P.info? t).map (·.size) = some v.cells.size ∧ a.off + v.cells.size ≤ k.cells.length ∧ v.cells.toList.all (·.oneCell') = true then
      some (A.set a.block ⟨k.ty, k.cells.take a.off ++ v.cells.toList ++ k.cells.drop (a.off + v.cells.size), k.room, true⟩) else none
  | none => none

theorem run_storev {P : Program} {A A' : View} {w : World} {t : TypeId} {a : Addr} {v : Value} (h : A.storev P t a v = some A') (hw : Rel A w) : ∃ w', (storeVar t a v).run P w = .ok () w' ∧ Rel A' w' ∧ Step A w A' w' := by
  unfold View.storev at h
  split at h
  · rename_i k hk
    split at h
    · rename_i hc
      obtain ⟨hs, ho, hsz, hle, h1⟩ := hc
      obtain rfl := Option.some.inj h
      obtain ⟨⟨c, fz, hcell, hcs, hl, ht, hf⟩, hone⟩ := hw _ _ hk; have hone := hone ho
      obtain rfl := hf ho
      have h1' : ∀ u ∈ v.cells.toList, u.oneCell' = true := List.all_eq_true.1 h1
      have ha : a = ⟨a.block, a.off, none⟩ := by rw [← hs]
      have hrun := run_storeCells_at (P := P) a.block a.off k.ty v.cells.toList 0 c w hcell (by simp; omega) h1'
      simp only [Nat.add_zero] at hrun
      have hsz' : (sizeOf t).run P w = .ok v.cells.size w := by
        cases hi : P.info? t with
        | none => simp [hi] at hsz
        | some i => simp [hi] at hsz; simp [sizeOf, typeInfo, hi, hsz]
      have hlen : v.cells.toList.length = v.cells.size := by simp
      have hget : ∀ j, j < k.cells.length → c.toList[j]? = k.cells[j]? := fun j hj => by
        rw [← ht, List.getElem?_take, if_pos (by simpa using hj)]
      have hw1 := hw.write (c' := (c.toList.take a.off ++ v.cells.toList ++ c.toList.drop (a.off + v.cells.toList.length)).toArray)
        (cs := k.cells.take a.off ++ v.cells.toList ++ k.cells.drop (a.off + v.cells.size)) hk ho (by simp; omega) (by simp; omega) (by
          apply List.ext_getElem?
          intro j
          simp only [List.getElem?_take, List.length_append, List.length_take, List.length_drop, List.getElem?_append, hlen, List.getElem?_drop, Array.length_toList]
          by_cases hj : j < k.cells.length
          · have := hget j hj
            have h2 := fun (hh : ¬ j < a.off + v.cells.size) => hget (a.off + v.cells.size + (j - (a.off + v.cells.size))) (by omega)
            rw [if_pos (by omega), Nat.min_eq_left (by omega), Nat.min_eq_left (by omega)]
            split
            · split
              · first | exact this | (rw [if_pos (by omega)]; exact this)
              · rfl
            · rename_i hh; exact h2 hh
          · rw [if_neg (by omega), if_neg (by omega), List.getElem?_eq_none (by omega)]) (fun u hu => by
          simp only [List.mem_append] at hu
          rcases hu with (h | h) | h
          · exact hone u (List.mem_of_mem_take h)
          · exact h1' u h
          · exact hone u (List.mem_of_mem_drop h))
      refine ⟨_, ?_, hw1⟩
      unfold storeVar
      rw [ha]
      simp only [Sem.run_bind, hsz', Result.andThen, ne_eq, not_true_eq_false, if_false, Sem.run_pure]
      exact hrun
    · simp at h
  · simp at h

/-! ### operations -/
def nextK (P : Program) (K : Value → View → Prop) : Next → View → Prop
  | .value v, A => K v A
  | .skip, A => K undef A
  | .enter f args, A => ACalls P f args A K
  | _, _ => False

def aappend (P : Program) (ts : Array TypeId) (ty : TypeId) (vs : Array Value) (A : View) (K : Value → View → Prop) : Prop :=
  Comes1 P (Builtin.append_ ts ty vs) K A
def acopy (P : Program) (ts : Array TypeId) (ty : TypeId) (vs : Array Value) (A : View) (K : Value → View → Prop) : Prop :=
  Comes1 P (Builtin.copy_ ts ty vs) K A
def aclear (P : Program) (ts : Array TypeId) (ty : TypeId) (vs : Array Value) (A : View) (K : Value → View → Prop) : Prop :=
  Comes1 P (Builtin.clear_ ts ty vs) K A

def aop (P : Program) (o : Oper) (ρ : Operand → Value) (A : View) (K : Value → View → Prop) : Prop :=
  match o.op with
  | .call { callee := .builtin .append, args, argTypes } => aappend P argTypes o.type (args.map ρ) A K
  | .call { callee := .builtin .copy, args, argTypes } => acopy P argTypes o.type (args.map ρ) A K
  | .call { callee := .builtin .clear, args, argTypes } => aclear P argTypes o.type (args.map ρ) A K
  | .load t x => match ρ x with
    | .pointer (some a) => match A.loadv P t a with
      | some v => K v A
      | none => False
    | _ => False
  | .store t x v => match ρ x with
    | .pointer (some a) => match A.storev P t a (ρ v) with
      | some A' => K undef A'
      | none => False
    | _ => False
  | .makeSlice t l c => Comes1 P (Instr.makeSlice t (ρ l) (ρ c)) K A
  | .build t qs => match P.built t (qs.map fun (i, x) => (i, ρ x)).toList with
    | some cells => K (.agg cells) A
    | none => False
  | _ => sawp P (execOp ρ o) (nextK P K) A

theorem wp_of_comes {P : Program} {o : Oper} {a : Act} {w : World} {A : View} {K : Value → View → Prop} {Q : Exit → Act → World → Prop}
    (h : Comes1 P (execOp a.eval o) (nextK P K) A) (hw : Rel A w) : o.wp P a w (fun a' w' => ∃ v A', a' = a.put o.dst v ∧ K v A' ∧ Rel A' w' ∧ Step A w A' w') Q := by
  obtain ⟨nx, w', A', hr, hK, hrel, hst⟩ := h w hw
  unfold Oper.wp
  rw [hr]
  cases nx with
  | value v => exact ⟨v, A', rfl, hK, hrel, hst⟩
  | skip => exact ⟨undef, A', rfl, hK, hrel, hst⟩
  | enter f args => exact (hK w' hrel).mono fun e w2 ⟨v, A2, he, hK2, hrel2, hst2⟩ => by subst he; exact ⟨v, A2, rfl, hK2, hrel2, hst.trans hst2⟩
  | _ => exact hK.elim

theorem Comes1.value {P : Program} {s : Sem Value} {K : Value → View → Prop} {A : View} (h : Comes1 P s K A) : Comes1 P (do pure (Next.value (← s))) (nextK P K) A := by
  intro w hw
  obtain ⟨a, w', A', hr, hK, hrel, hst⟩ := h w hw
  exact ⟨.value a, w', A', by simp [Sem.run_bind, hr, Result.andThen], hK, hrel, hst⟩

theorem aop_comes {P : Program} {o : Oper} {ρ : Operand → Value} {A : View} {K : Value → View → Prop} (h : aop P o ρ A K) : Comes1 P (execOp ρ o) (nextK P K) A := by
  unfold aop at h
  split at h
  · rename_i args ats ho
    have : execOp ρ o = (do pure (Next.value (← Builtin.append_ ats o.type (args.map ρ)))) := by simp only [execOp, ho, resolve]; rfl
    rw [this]; exact Comes1.value h
  · rename_i args ats ho
    have : execOp ρ o = (do pure (Next.value (← Builtin.copy_ ats o.type (args.map ρ)))) := by simp only [execOp, ho, resolve]; rfl
    rw [this]; exact Comes1.value h
  · rename_i args ats ho
    have : execOp ρ o = (do pure (Next.value (← Builtin.clear_ ats o.type (args.map ρ)))) := by simp only [execOp, ho, resolve]; rfl
    rw [this]; exact Comes1.value h
  · rename_i t x ho
    have : execOp ρ o = (do pure (Next.value (← Instr.loadAt t (ρ x)))) := by simp only [execOp, ho]
    rw [this]
    split at h
    · rename_i a ha
      split at h
      · rename_i v hv
        refine Comes1.value fun w hw => ⟨v, w, A, ?_, h, hw, Step.refl A w⟩
        have := run_loadv hv hw
        simp [Instr.loadAt, ha, Instr.sureAddr, this]
      · exact h.elim
    · exact h.elim
  · rename_i t x v ho
    have : execOp ρ o = (do Instr.storeAt t (ρ x) (ρ v); pure Next.skip) := by simp only [execOp, ho]
    rw [this]
    split at h
    · rename_i a ha
      split at h
      · rename_i A' hA
        intro w hw
        obtain ⟨w', hr, hrel, hst⟩ := run_storev hA hw
        exact ⟨.skip, w', A', by simp [Instr.storeAt, ha, Instr.sureAddr, hr], h, hrel, hst⟩
      · exact h.elim
    · exact h.elim
  · rename_i t l c ho
    have : execOp ρ o = (do pure (Next.value (← Instr.makeSlice t (ρ l) (ρ c)))) := by simp only [execOp, ho]
    rw [this]; exact Comes1.value h
  · rename_i t qs ho
    have : execOp ρ o = (do pure (Next.value (← Instr.build t (qs.map fun (i, x) => (i, ρ x))))) := by simp only [execOp, ho]
    rw [this]
    split at h
    · rename_i cells hc
      exact Comes1.value fun w hw => ⟨_, w, A, run_build w t _ cells hc, h, hw, Step.refl A w⟩
    · exact h.elim
  · exact sawp_sound _ _ _ h

theorem Comes1.mono {P : Program} {α : Type} {s : Sem α} {K K' : α → View → Prop} {A : View} (h : Comes1 P s K A) (hK : ∀ a A, K a A → K' a A) : Comes1 P s K' A := fun w hw =>
  let ⟨a, w', A', hr, h1, h2, h3⟩ := h w hw
  ⟨a, w', A', hr, hK _ _ h1, h2, h3⟩

theorem nextK_mono {P : Program} {K K' : Value → View → Prop} (hK : ∀ a A, K a A → K' a A) : ∀ nx A, nextK P K nx A → nextK P K' nx A := by
  intro nx A h
  cases nx with
  | value v => exact hK _ _ h
  | skip => exact hK _ _ h
  | enter f args => exact h.mono hK
  | _ => exact h.elim

theorem aop_mono {P : Program} {o : Oper} {ρ : Operand → Value} {A : View} {K K' : Value → View → Prop} (hK : ∀ a A, K a A → K' a A) (h : aop P o ρ A K) : aop P o ρ A K' := by
  unfold aop at h ⊢
  split at h
  · exact Comes1.mono h hK
  · exact Comes1.mono h hK
  · exact Comes1.mono h hK
  · split at h
    · split at h
      · exact hK _ _ h
      · exact h.elim
    · exact h.elim
  · split at h
    · split at h
      · exact hK _ _ h
      · exact h.elim
    · exact h.elim
  · exact Comes1.mono h hK
  · split at h
    · exact hK _ _ h
    · exact h.elim
  · exact sawp_mono (nextK_mono hK) _ _ h

/-! ### regions and code -/
structure FR (n : Nat) (fr : Fr) (a : Act) : Prop where
  size : a.tmps.size = n
  defers : a.defers = []
  tmp : ∀ t, a.tmps.getD t undef = fr t

theorem FR.eval {n : Nat} {fr : Fr} {a : Act} (h : FR n fr a) : a.eval = ev fr := by
  funext x
  cases x <;> simp only [Act.eval, ev]
  exact h.tmp _

def dstOk (n : Nat) (o : Oper) : Bool := match o.dst with | some d => d < n | none => true

theorem FR.put {n : Nat} {fr : Fr} {a : Act} (h : FR n fr a) (o : Oper) (ho : dstOk n o = true) (v : Value) : FR n (updO fr o.dst v) (a.put o.dst v) := by
  unfold dstOk at ho
  cases hd : o.dst with
  | none => exact h
  | some d =>
    simp [hd] at ho
    refine ⟨by simp [Act.put, h.size], by simp [Act.put, h.defers], fun t => ?_⟩
    have := h.tmp t
    simp only [updO, upd, Act.put, Array.getD_eq_getD_getElem?, Array.getElem?_setIfInBounds] at this ⊢
    by_cases ht : t = d
    · subst ht; simp [h.size, ho]
    · rw [if_neg (Ne.symm ht), if_neg ht]; exact this

def vbool : Value → Option Bool
  | .bool b => some b
  | _ => none
def yv (o : Option Oper) (fr : Fr) : Option Bool := match o.bind (·.dst) with
  | some d => vbool (fr d)
  | none => none
def ayield (ops : Array Oper) (fr : Fr) (j : Nat) : Option Bool := yv ops[j]? fr

theorem FR.yield {n : Nat} {fr : Fr} {a : Act} (h : FR n fr a) (ops : Array Oper) (j : Nat) : yielded ops a.tmps j = ayield ops fr j := by
  unfold yielded ayield yv
  cases hd : (ops[j]?).bind (·.dst) with
  | none => rfl
  | some d =>
    have := h.tmp d
    simp only [Option.bind_some]
    rw [Array.getD_eq_getD_getElem?] at this
    cases ht : a.tmps[d]? with
    | none => rw [ht] at this; simp only [Option.getD_none] at this; rw [← this]; simp [undef, vbool]
    | some v =>
      rw [ht] at this
      simp only [Option.getD_some] at this
      rw [← this]
      cases v <;> rfl

def awant (g : Option (Nat × Bool)) (ops : Array Oper) (fr : Fr) (p q : Prop) : Prop :=
  match g with
  | none => p
  | some (j, want) => (ayield ops fr j = some want → p) ∧ (ayield ops fr j ≠ some want → q)

def aops (P : Program) (ops : Array Oper) (K : Fr → View → Prop) : List Oper → Fr → View → Prop
  | [], fr, A => K fr A
  | o :: rest, fr, A => awant o.guard ops fr (aop P o (ev fr) A fun v A' => aops P ops K rest (updO fr o.dst v) A') (aops P ops K rest (updO fr o.dst undef) A)

def opsOk (n : Nat) (ops : List Oper) : Bool := ops.all (dstOk n)

theorem aops_sound {P : Program} {ops : Array Oper} {n : Nat} {K : Fr → View → Prop} {Q : Exit → Act → World → Prop} {A0 : View} {w0 : World}
    (hQ : ∀ fr A a w, K fr A → FR n fr a → Rel A w → Step A0 w0 A w → Q .normal a w) :
    ∀ (l : List Oper) (fr : Fr) (A : View) (a : Act) (w : World), opsOk n l = true → aops P ops K l fr A → FR n fr a → Rel A w → Step A0 w0 A w → wpList P ops Q l a w
  | [], fr, A, a, w, _, h, hf, hr, hs => hQ fr A a w h hf hr hs
  | o :: rest, fr, A, a, w, hok, h, hf, hr, hs => by
    simp only [opsOk, List.all_cons, Bool.and_eq_true] at hok
    have ih := aops_sound (P := P) (ops := ops) hQ rest
    refine wpList_step fun J hJ => ?_
    have key : ∀ p q, awant o.guard ops fr p q → if Region.wanted o (yielded ops a.tmps) = true then p else q := by
      intro p q h
      unfold awant at h
      unfold Region.wanted
      cases hg : o.guard with
      | none => rw [hg] at h; simpa using h
      | some jw =>
        obtain ⟨j, want⟩ := jw
        rw [hg] at h
        simp only [hf.yield ops j]
        by_cases hy : ayield ops fr j = some want
        · simp [hy]; exact h.1 hy
        · simp [hy]; exact h.2 hy
    have h' := key _ _ h
    split
    · rename_i hw
      rw [if_pos hw] at h'
      rw [← hf.eval] at h'
      refine Oper.wp_mono ?_ (wp_of_comes (Q := Q) (aop_comes h') hr)
      rintro a' w' ⟨v, A', rfl, hK, hr', hs'⟩
      exact hJ _ _ (ih _ _ _ _ hok.2 hK (hf.put o hok.1 v) hr' (hs.trans hs'))
    · rename_i hw
      rw [if_neg hw] at h'
      exact hJ _ _ (ih _ _ _ _ hok.2 h' (hf.put o hok.1 undef) hr hs)

theorem aops_mono {P : Program} {ops : Array Oper} {K K' : Fr → View → Prop} (hK : ∀ fr A, K fr A → K' fr A) :
    ∀ (l : List Oper) (fr : Fr) (A : View), aops P ops K l fr A → aops P ops K' l fr A
  | [], fr, A, h => hK _ _ h
  | o :: rest, fr, A, h => by
    simp only [aops] at h ⊢
    unfold awant at h ⊢
    split at h
    · exact aop_mono (fun v A' => aops_mono hK rest _ _) h
    · exact ⟨fun hy => aop_mono (fun v A' => aops_mono hK rest _ _) (h.1 hy), fun hy => aops_mono hK rest _ _ (h.2 hy)⟩

abbrev Post := Exit → Fr → View → Prop
def seqK (K1 : Fr → View → Prop) (K : Post) : Post := fun e fr A => match e with | .normal => K1 fr A | e => K e fr A
def blockK (id : Nat) (K : Post) : Post := fun e fr A => match e with | .exit i => if i = id then K .normal fr A else K (.exit i) fr A | e => K e fr A
def acond (v : Value) (p q : Prop) : Prop := ∃ b, v = .bool b ∧ (b = true → p) ∧ (b = false → q)

/-- The post of a piece of code, for worlds. -/
def postW (n : Nat) (K : Post) (A0 : View) (w0 : World) : Exit → Act → World → Prop :=
  fun e a w => ∃ fr A, K e fr A ∧ FR n fr a ∧ Rel A w ∧ Step A0 w0 A w

def codeOk (n : Nat) : Code → Bool
  | .region _ ops _ => opsOk n ops.toList
  | .seq a b => codeOk n a && codeOk n b
  | .cond _ a b => codeOk n a && codeOk n b
  | .block _ c => codeOk n c
  | .loop c => codeOk n c
  | .skip => true
  | .exit _ => true
  | .ret => true
  | .refuse _ => true
  | _ => false

def ADraw (P : Program) (id : Nat) (ops : Array Oper) (K : Fr → View → Prop) (fr : Fr) (A : View) : Prop :=
  ∀ n a w, opsOk n ops.toList = true → FR n fr a → Rel A w → (Code.region id ops true).wp P (postW n (fun e fr A => e = .normal ∧ K fr A) A w) a w
def ALoop (P : Program) (c : Code) (K : Post) (fr : Fr) (A : View) : Prop :=
  ∀ n a w, codeOk n c = true → FR n fr a → Rel A w → (Code.loop c).wp P (postW n K A w) a w

def awp (P : Program) : Code → Post → Fr → View → Prop
  | .skip, K, fr, A => K .normal fr A
  | .region _ ops false, K, fr, A => aops P ops (K .normal) ops.toList fr A
  | .region id ops true, K, fr, A => ADraw P id ops (K .normal) fr A
  | .seq a b, K, fr, A => awp P a (seqK (awp P b K) K) fr A
  | .cond c a b, K, fr, A => acond (ev fr c) (awp P a K fr A) (awp P b K fr A)
  | .block id c, K, fr, A => awp P c (blockK id K) fr A
  | .loop c, K, fr, A => ALoop P c K fr A
  | .exit id, K, fr, A => K (.exit id) fr A
  | .ret, K, fr, A => K .ret fr A
  | _, _, _, _ => False

theorem postW_step {n : Nat} {K : Post} {A0 A : View} {w0 w : World} (hs : Step A0 w0 A w) : ∀ e a w', postW n K A w e a w' → postW n K A0 w0 e a w' :=
  fun _ _ _ ⟨fr, A', hK, hf, hr, hs'⟩ => ⟨fr, A', hK, hf, hr, hs.trans hs'⟩

theorem awp_sound {P : Program} {n : Nat} (c : Code) : ∀ (K : Post) (fr : Fr) (A : View) (a : Act) (w : World), codeOk n c = true → awp P c K fr A → FR n fr a → Rel A w →
    c.wp P (postW n K A w) a w := by
  induction c with
  | skip => exact fun K fr A a w _ h hf hr => wp_skip ⟨fr, A, h, hf, hr, Step.refl A w⟩
  | region id ops d =>
    intro K fr A a w hok h hf hr
    cases d with
    | false =>
      refine wp_region_list (aops_sound (A0 := A) (w0 := w) ?_ ops.toList fr A a w hok h hf hr (Step.refl A w))
      exact fun fr' A' a' w' hK hf' hr' hs' => ⟨fr', A', hK, hf', hr', hs'⟩
    | true =>
      refine wp_mono (h n a w hok hf hr) ?_
      rintro e a' w' ⟨fr', A', ⟨rfl, hK⟩, hrest⟩
      exact ⟨fr', A', hK, hrest⟩
  | seq x y ihx ihy =>
    intro K fr A a w hok h hf hr
    simp only [codeOk, Bool.and_eq_true] at hok
    refine wp_seq (wp_mono (ihx _ fr A a w hok.1 h hf hr) ?_)
    rintro e a' w' ⟨fr', A', hK, hf', hr', hs'⟩
    cases e with
    | normal => exact wp_mono (ihy K fr' A' a' w' hok.2 hK hf' hr') (postW_step hs')
    | exit id => exact ⟨fr', A', hK, hf', hr', hs'⟩
    | goto l => exact ⟨fr', A', hK, hf', hr', hs'⟩
    | ret => exact ⟨fr', A', hK, hf', hr', hs'⟩
    | panic ch => exact ⟨fr', A', hK, hf', hr', hs'⟩
    | outgrown => exact ⟨fr', A', hK, hf', hr', hs'⟩
  | cond c x y ihx ihy =>
    intro K fr A a w hok h hf hr
    simp only [codeOk, Bool.and_eq_true] at hok
    obtain ⟨b, hb, ht, hfal⟩ := h
    have hc : a.eval c = .bool b := by rw [hf.eval]; exact hb
    refine wp_cond hc ?_
    cases b with
    | true => exact ihx K fr A a w hok.1 (ht rfl) hf hr
    | false => exact ihy K fr A a w hok.2 (hfal rfl) hf hr
  | block id c ih =>
    intro K fr A a w hok h hf hr
    refine wp_block (wp_mono (ih _ fr A a w hok h hf hr) ?_)
    rintro e a' w' ⟨fr', A', hK, hf', hr', hs'⟩
    cases e with
    | exit i =>
      simp only [blockK] at hK
      simp only [Exit.inBlock]
      split
      · rename_i hi; rw [if_pos hi] at hK; exact ⟨fr', A', hK, hf', hr', hs'⟩
      · rename_i hi; rw [if_neg hi] at hK; exact ⟨fr', A', hK, hf', hr', hs'⟩
    | _ => exact ⟨fr', A', hK, hf', hr', hs'⟩
  | loop c ih => exact fun K fr A a w hok h hf hr => h n a w hok hf hr
  | exit id => exact fun K fr A a w _ h hf hr => wp_exit ⟨fr, A, h, hf, hr, Step.refl A w⟩
  | ret => exact fun K fr A a w _ h hf hr => wp_ret ⟨fr, A, h, hf, hr, Step.refl A w⟩
  | _ => exact fun K fr A a w hok h => h.elim

theorem seqK_mono {K1 K1' : Fr → View → Prop} {K K' : Post} (h1 : ∀ fr A, K1 fr A → K1' fr A) (h : ∀ e fr A, K e fr A → K' e fr A) : ∀ e fr A, seqK K1 K e fr A → seqK K1' K' e fr A := by
  intro e fr A hk
  cases e <;> first | exact h1 _ _ hk | exact h _ _ _ hk

theorem awp_mono {P : Program} (c : Code) : ∀ {K K' : Post} (_ : ∀ e fr A, K e fr A → K' e fr A) (fr : Fr) (A : View), awp P c K fr A → awp P c K' fr A := by
  induction c with
  | skip => exact fun hK fr A h => hK _ _ _ h
  | region id ops d =>
    intro K K' hK fr A h
    cases d with
    | false => exact aops_mono (hK .normal) _ _ _ h
    | true =>
      intro n a w hok hf hr
      refine wp_mono (h n a w hok hf hr) ?_
      rintro e a' w' ⟨fr', A', ⟨rfl, hk⟩, hrest⟩
      exact ⟨fr', A', ⟨rfl, hK _ _ _ hk⟩, hrest⟩
  | seq x y ihx ihy => exact fun hK fr A h => ihx (seqK_mono (fun fr A => ihy hK fr A) hK) fr A h
  | cond c x y ihx ihy => exact fun hK fr A ⟨b, hb, ht, hf⟩ => ⟨b, hb, fun e => ihx hK fr A (ht e), fun e => ihy hK fr A (hf e)⟩
  | block id c ih =>
    intro K K' hK fr A h
    refine ih (fun e fr A hk => ?_) fr A h
    cases e <;> simp only [blockK] at hk ⊢ <;> first | exact hK _ _ _ hk | (split <;> rename_i hi <;> simp only [hi, if_true, if_false] at hk <;> exact hK _ _ _ hk)
  | loop c ih =>
    intro K K' hK fr A h n a w hok hf hr
    exact wp_mono (h n a w hok hf hr) fun e a' w' ⟨fr', A', hk, hrest⟩ => ⟨fr', A', hK _ _ _ hk, hrest⟩
  | exit id => exact fun hK fr A h => hK _ _ _ h
  | ret => exact fun hK fr A h => hK _ _ _ h
  | _ => exact fun hK fr A h => h.elim

/-- Where ways meet: what holds behind the first part is all that the second part is told. -/
theorem awp_cut {P : Program} {x y : Code} {K : Post} {fr : Fr} {A : View} (I : Fr → View → Prop) (h1 : awp P x (seqK I K) fr A) (h2 : ∀ fr A, I fr A → awp P y K fr A) : awp P (.seq x y) K fr A :=
  awp_mono x (seqK_mono h2 fun _ _ _ h => h) fr A h1

/-- A loop: an invariant that bears a number, which every round lowers. -/
theorem aloop {P : Program} {c : Code} {K : Post} {fr : Fr} {A : View} (I : Nat → Fr → View → Prop) (d : Nat) (h0 : I d fr A)
    (h : ∀ d fr A, I d fr A → awp P c (seqK (fun fr' A' => ∃ d', d' < d ∧ I d' fr' A') K) fr A) : ALoop P c K fr A := by
  intro n a w hok hf hr
  refine wp_loop_ghost (fun d a' w' => ∃ fr' A', I d fr' A' ∧ FR n fr' a' ∧ Rel A' w' ∧ Step A w A' w') d ⟨fr, A, h0, hf, hr, Step.refl A w⟩ ?_
  rintro d1 a1 w1 ⟨fr1, A1, hI, hf1, hr1, hs1⟩
  refine wp_mono (awp_sound c _ fr1 A1 a1 w1 hok (h d1 fr1 A1 hI) hf1 hr1) ?_
  rintro e a' w' ⟨fr', A', hK, hf', hr', hs'⟩
  cases e with
  | normal =>
    obtain ⟨d', hlt, hI'⟩ := hK
    exact ⟨d', hlt, fr', A', hI', hf', hr', hs1.trans hs'⟩
  | _ => exact ⟨fr', A', hK, hf', hr', hs1.trans hs'⟩

/-! ### functions -/
def frame0 (args : Array Value) : Fr := fun t => args.getD t undef

def resVal (P : Program) (A : View) (fr : Fr) : ResultVar → Option Value
  | .tmp t => some (fr t)
  | .cell t ty => match fr t with
    | .pointer (some a) => A.loadv P ty a
    | _ => none

/-- What a function gives back, off its frame and the view. -/
def ares (P : Program) (R : Value → View → Prop) (fr : Fr) (A : View) : List ResultVar → Prop
  | [] => R (.tuple #[]) A
  | [r] => match resVal P A fr r with
    | some v => R v A
    | none => False
  | [r1, r2] => match resVal P A fr r1, resVal P A fr r2 with
    | some v1, some v2 => R (.tuple #[v1, v2]) A
    | _, _ => False
  | [r1, r2, r3] => match resVal P A fr r1, resVal P A fr r2, resVal P A fr r3 with
    | some v1, some v2, some v3 => R (.tuple #[v1, v2, v3]) A
    | _, _, _ => False
  | _ => False

def fnPost (P : Program) (fn : Func) (R : Value → View → Prop) : Post := fun e fr A => match e with
  | .normal => ares P R fr A fn.results.toList
  | .ret => ares P R fr A fn.results.toList
  | _ => False

def ResIs (P : Program) (w : World) (tmps : Array Value) (v : Value) : ResultVar → Prop
  | .tmp t => tmps[t]?.getD undef = v
  | .cell t ty => ∃ a, tmps[t]?.getD undef = .pointer (some a) ∧ (loadVar ty a).run P w = .ok v w

theorem res_is {P : Program} {A : View} {w : World} {fr : Fr} {tmps : Array Value} (ht : ∀ t, tmps.getD t undef = fr t) (hw : Rel A w) {r : ResultVar} {v : Value} (h : resVal P A fr r = some v) :
    ResIs P w tmps v r := by
  have ht' : ∀ t : Nat, tmps[t]?.getD undef = fr t := fun t => by rw [← ht t, Array.getD_eq_getD_getElem?]
  cases r with
  | tmp t => simp [resVal] at h; subst h; exact ht' t
  | cell t ty =>
    simp only [resVal] at h
    split at h
    · rename_i a ha
      exact ⟨a, by rw [ht', ha], run_loadv h hw⟩
    · simp at h

theorem run_results {P : Program} {fn : Func} {A : View} {w : World} {fr : Fr} {tmps : Array Value} {R : Value → View → Prop} (ht : ∀ t, tmps.getD t undef = fr t) (hw : Rel A w) (h : ares P R fr A fn.results.toList) :
    ∃ v, (results fn tmps).run P w = .ok v w ∧ R v A := by
  have hl : fn.results = fn.results.toList.toArray := by simp
  generalize fn.results.toList = l at hl h
  match l, h with
  | [], h => exact ⟨_, by simp [results, hl], h⟩
  | [r], h =>
    simp only [ares] at h
    split at h
    · rename_i v hv
      refine ⟨v, ?_, h⟩
      have h1 := res_is (P := P) ht hw hv
      cases r with
      | tmp t => simp only [ResIs] at h1; simp [results, hl, h1]
      | cell t ty => obtain ⟨a, ha, h1⟩ := h1; simp [results, hl, ha, h1, asAddr]
    · exact h.elim
  | [r1, r2], h =>
    simp only [ares] at h
    split at h
    · rename_i v1 v2 hv1 hv2
      refine ⟨_, ?_, h⟩
      have h1 := res_is (P := P) ht hw hv1
      have h2 := res_is (P := P) ht hw hv2
      cases r1 <;> cases r2 <;> simp only [ResIs] at h1 h2 <;> (try obtain ⟨a1, ha1, h1⟩ := h1) <;> (try obtain ⟨a2, ha2, h2⟩ := h2) <;> clear ht <;> simp [results, hl, asAddr, *]
    · exact h.elim
  | [r1, r2, r3], h =>
    simp only [ares] at h
    split at h
    · rename_i v1 v2 v3 hv1 hv2 hv3
      refine ⟨_, ?_, h⟩
      have h1 := res_is (P := P) ht hw hv1
      have h2 := res_is (P := P) ht hw hv2
      have h3 := res_is (P := P) ht hw hv3
      cases r1 <;> cases r2 <;> cases r3 <;> simp only [ResIs] at h1 h2 h3 <;> (try obtain ⟨a1, ha1, h1⟩ := h1) <;> (try obtain ⟨a2, ha2, h2⟩ := h2) <;> (try obtain ⟨a3, ha3, h3⟩ := h3) <;> clear ht <;> simp [results, hl, asAddr, *]
    · exact h.elim
  | _ :: _ :: _ :: _ :: _, h => exact h.elim

/-- A function's contract, out of its body. -/
theorem acalls {P : Program} {f : FuncId} {fn : Func} {c : Code} {args : Array Value} {A : View} {R : Value → View → Prop} (hf : P.funcs[f]? = some fn) (hb : fn.body = some c)
    (hok : codeOk (args.size + (fn.ntmps - args.size)) c = true) (h : awp P c (fnPost P fn R) (frame0 args) A) : ACalls P f args A R := by
  intro w hw
  refine calls_of_wp hf hb (wp_mono (awp_sound (n := args.size + (fn.ntmps - args.size)) c _ _ A _ w hok h ⟨by simp, rfl, fun t => ?_⟩ hw) ?_)
  · simp only [frame0, Array.getD_eq_getD_getElem?, Array.getElem?_append, Array.getElem?_replicate]
    split
    · rfl
    · rename_i ht
      rw [Array.getElem?_eq_none (Nat.le_of_not_lt ht)]
      split <;> rfl
  · rintro e a' w' ⟨fr', A', hK, hf', hr', hs'⟩
    cases e with
    | normal =>
      obtain ⟨v, hv, hR⟩ := run_results hf'.tmp hr' hK
      exact ⟨hf'.defers, v, hv, v, A', rfl, hR, hr', hs'⟩
    | ret =>
      obtain ⟨v, hv, hR⟩ := run_results hf'.tmp hr' hK
      exact ⟨hf'.defers, v, hv, v, A', rfl, hR, hr', hs'⟩
    | _ => exact hK.elim

end Go.Proofs.Ytggklaimbklefaa

/- How the weakest precondition is computed, operation by operation. -/
set_option maxHeartbeats 4000000
set_option synthInstance.maxHeartbeats 400000
set_option synthInstance.maxSize 4096
set_option linter.unusedSimpArgs false
set_option linter.unusedVariables false
namespace Go.Proofs.Ytggklaimbklefaa

variable {P : Program} {A : View} {fr : Fr} {K : Value → View → Prop}

theorem sawp_value (s : Sem Value) : sawp P (do pure (Next.value (← s))) (nextK P K) A = sawp P s K A := by
  show sawp P (s.bind fun a => .pure (Next.value a)) (nextK P K) A = _
  rw [sawp_bind]
  rfl
theorem sawp_skip (s : Sem Unit) : sawp P (do s; pure Next.skip) (nextK P K) A = sawp P s (fun _ A => K undef A) A := by
  show sawp P (s.bind fun _ => .pure Next.skip) (nextK P K) A = _
  rw [sawp_bind]
  rfl

/-! ### what each kind of operation asks -/
def someK {α : Type} (o : Option α) (J : α → Prop) : Prop := match o with | some v => J v | none => False
theorem someK_some {α : Type} (v : α) (J : α → Prop) : someK (some v) J = J v := rfl
def abin (P : Program) (op : BinOp) (t : TypeId) (x y : Operand) (xv yv : Value) (A : View) (K : Value → View → Prop) : Prop := sawp P (do eqGuard op t x y xv yv; binOp op t xv yv) K A
def aun (P : Program) (op : UnOp) (v : Value) (A : View) (K : Value → View → Prop) : Prop := sawp P (Op.unary op v) K A
def apick (c x y : Value) (A : View) (K : Value → View → Prop) : Prop := match c with | .bool b => K (if b then x else y) A | _ => False
def aalloc (P : Program) (t : TypeId) (A : View) (K : Value → View → Prop) : Prop := sawp P (Instr.alloc t true (.tuple #[])) K A
def abox (P : Program) (t : TypeId) (v : Value) (A : View) (K : Value → View → Prop) : Prop := sawp P (Instr.box t v) K A
def abuild (P : Program) (t : TypeId) (ps : Array (Nat × Value)) (A : View) (K : Value → View → Prop) : Prop := match P.built t ps.toList with
  | some cells => K (.agg cells) A
  | none => False
def alit (P : Program) (t : TypeId) (n : Nat) (ps : Array (Nat × Value)) (A : View) (K : Value → View → Prop) : Prop := sawp P (Instr.buildSlice t n ps) K A
def aload (P : Program) (t : TypeId) (v : Value) (A : View) (K : Value → View → Prop) : Prop := match v with
  | .pointer (some a) => match A.loadv P t a with
    | some v => K v A
    | none => False
  | _ => False
def astore (P : Program) (t : TypeId) (a v : Value) (A : View) (K : Value → View → Prop) : Prop := match a with
  | .pointer (some a) => match A.storev P t a v with
    | some A' => K undef A'
    | none => False
  | _ => False
def anil (P : Program) (v : Value) (A : View) (K : Value → View → Prop) : Prop := match v with
  | .pointer (some a) => K (.pointer (some a)) A
  | .func (.func f) x y => K (.func (.func f) x y) A
  | _ => False
def aconv (P : Program) (s d : TypeId) (v : Value) (A : View) (K : Value → View → Prop) : Prop := sawp P (convert s d v) K A
def amake (P : Program) (t : TypeId) (l c : Value) (A : View) (K : Value → View → Prop) : Prop := Comes1 P (Instr.makeSlice t l c) K A
def aslice (P : Program) (t : TypeId) (v : Value) (l h m : Option Value) (A : View) (K : Value → View → Prop) : Prop := sawp P (Instr.sliceAt t v l h m) K A
def afaddr (P : Program) (t : TypeId) (v : Value) (i : Nat) (A : View) (K : Value → View → Prop) : Prop := sawp P (Instr.fieldAt t v i) K A
def afield (P : Program) (t : TypeId) (v : Value) (i : Nat) (A : View) (K : Value → View → Prop) : Prop := sawp P (Instr.field t v i) K A
def aiaddr (P : Program) (t : TypeId) (v i : Value) (A : View) (K : Value → View → Prop) : Prop := sawp P (Instr.indexAt t v i) K A
def aindex (P : Program) (t : TypeId) (v i : Value) (A : View) (K : Value → View → Prop) : Prop := sawp P (Instr.index t v i) K A
def aextract (v : Value) (i : Nat) (A : View) (K : Value → View → Prop) : Prop := match v with
  | .tuple vs => match vs[i]? with
    | some v => K v A
    | none => False
  | _ => False
def abuiltin (P : Program) (b : Builtin) (ats : Array TypeId) (t : TypeId) (cs : Array Bool) (vs : Array Value) (A : View) (K : Value → View → Prop) : Prop := sawp P (builtin b ats t cs vs) (nextK P K) A
def acall (P : Program) (f : Value) (vs : Array Value) (A : View) (K : Value → View → Prop) : Prop := sawp P (do let d ← Deferred.ofValue f vs; invoke d.target d.args) (nextK P K) A

/-! ### each operation, in these words -/
section
variable (d : Option Tmp) (ty : TypeId) (ps : String) (af : Array Edge) (g : Option (Nat × Bool)) (ρ : Operand → Value)
theorem aop_move (x : Operand) : aop P ⟨d, .move x, ty, ps, af, g⟩ ρ A K = K (ρ x) A := rfl
theorem aop_assign (x : Operand) : aop P ⟨d, .assign x, ty, ps, af, g⟩ ρ A K = K (ρ x) A := rfl
theorem aop_pick (c x y : Operand) : aop P ⟨d, .pick c x y, ty, ps, af, g⟩ ρ A K = apick (ρ c) (ρ x) (ρ y) A K := by
  simp only [aop, execOp, apick]
  cases ρ c <;> rfl
theorem aop_alloc (t : TypeId) : aop P ⟨d, .alloc t, ty, ps, af, g⟩ ρ A K = aalloc P t A K := sawp_value _
theorem aop_box (t : TypeId) (x : Operand) : aop P ⟨d, .box t x, ty, ps, af, g⟩ ρ A K = abox P t (ρ x) A K := sawp_value _
theorem aop_build (t : TypeId) (qs : Array (Nat × Operand)) : aop P ⟨d, .build t qs, ty, ps, af, g⟩ ρ A K = abuild P t (qs.map fun (i, x) => (i, ρ x)) A K := rfl
theorem aop_lit (t : TypeId) (n : Nat) (qs : Array (Nat × Operand)) : aop P ⟨d, .buildSlice t n qs, ty, ps, af, g⟩ ρ A K = alit P t n (qs.map fun (i, x) => (i, ρ x)) A K := sawp_value _
theorem aop_load (t : TypeId) (x : Operand) : aop P ⟨d, .load t x, ty, ps, af, g⟩ ρ A K = aload P t (ρ x) A K := rfl
theorem aop_store (t : TypeId) (x v : Operand) : aop P ⟨d, .store t x v, ty, ps, af, g⟩ ρ A K = astore P t (ρ x) (ρ v) A K := rfl
theorem aop_bin (op : BinOp) (t : TypeId) (x y : Operand) (yt : TypeId) : aop P ⟨d, .binOp op t x y yt, ty, ps, af, g⟩ ρ A K = abin P op t x y (ρ x) (ρ y) A K := sawp_value _
theorem aop_un (op : UnOp) (t : TypeId) (x : Operand) : aop P ⟨d, .unOp op t x, ty, ps, af, g⟩ ρ A K = aun P op (ρ x) A K := sawp_value _
theorem aop_conv (s t : TypeId) (x : Operand) : aop P ⟨d, .convert s t x, ty, ps, af, g⟩ ρ A K = aconv P s t (ρ x) A K := sawp_value _
theorem aop_func (fn : Fn) (xs ys : Array Operand) : aop P ⟨d, .makeFunc fn xs ys, ty, ps, af, g⟩ ρ A K = K (.func fn (xs.map ρ) (ys.map ρ)) A := rfl
theorem aop_make (t : TypeId) (l c : Operand) : aop P ⟨d, .makeSlice t l c, ty, ps, af, g⟩ ρ A K = amake P t (ρ l) (ρ c) A K := rfl
theorem aop_slice (t : TypeId) (x : Operand) (l h m : Option Operand) : aop P ⟨d, .slice t x l h m, ty, ps, af, g⟩ ρ A K = aslice P t (ρ x) (l.map ρ) (h.map ρ) (m.map ρ) A K := sawp_value _
theorem aop_faddr (t : TypeId) (x : Operand) (i : Nat) : aop P ⟨d, .fieldAddr t x i, ty, ps, af, g⟩ ρ A K = afaddr P t (ρ x) i A K := sawp_value _
theorem aop_field (t : TypeId) (x : Operand) (i : Nat) : aop P ⟨d, .field t x i, ty, ps, af, g⟩ ρ A K = afield P t (ρ x) i A K := sawp_value _
theorem aop_iaddr (t : TypeId) (x i : Operand) : aop P ⟨d, .indexAddr t x i, ty, ps, af, g⟩ ρ A K = aiaddr P t (ρ x) (ρ i) A K := sawp_value _
theorem aop_index (t : TypeId) (x i : Operand) : aop P ⟨d, .index t x i, ty, ps, af, g⟩ ρ A K = aindex P t (ρ x) (ρ i) A K := sawp_value _
theorem aop_extract (x : Operand) (i : Nat) : aop P ⟨d, .extract x i, ty, ps, af, g⟩ ρ A K = aextract (ρ x) i A K := by
  show sawp P (do pure (Next.value (← Instr.extract (ρ x) i))) _ _ = _
  rw [sawp_value]
  unfold Instr.extract aextract
  cases ρ x <;> try rfl
  simp only
  split <;> rename_i h <;> simp only [h] <;> rfl
theorem aop_nil (x : Operand) : aop P ⟨d, .nilCheck x, ty, ps, af, g⟩ ρ A K = sawp P (execOp ρ ⟨d, .nilCheck x, ty, ps, af, g⟩) (nextK P K) A := rfl
theorem aop_call (f : Operand) (xs : Array Operand) (ats : Array TypeId) : aop P ⟨d, .call ⟨.value f, xs, ats⟩, ty, ps, af, g⟩ ρ A K = acall P (ρ f) (xs.map ρ) A K := rfl
theorem aop_append (xs : Array Operand) (ats : Array TypeId) : aop P ⟨d, .call ⟨.builtin .append, xs, ats⟩, ty, ps, af, g⟩ ρ A K = aappend P ats ty (xs.map ρ) A K := rfl
theorem aop_copy (xs : Array Operand) (ats : Array TypeId) : aop P ⟨d, .call ⟨.builtin .copy, xs, ats⟩, ty, ps, af, g⟩ ρ A K = acopy P ats ty (xs.map ρ) A K := rfl
theorem aop_clear (xs : Array Operand) (ats : Array TypeId) : aop P ⟨d, .call ⟨.builtin .clear, xs, ats⟩, ty, ps, af, g⟩ ρ A K = aclear P ats ty (xs.map ρ) A K := rfl
theorem aop_len (xs : Array Operand) (ats : Array TypeId) : aop P ⟨d, .call ⟨.builtin .len, xs, ats⟩, ty, ps, af, g⟩ ρ A K = abuiltin P .len ats ty (xs.map fun | .const _ => true | _ => false) (xs.map ρ) A K := rfl
theorem aop_cap (xs : Array Operand) (ats : Array TypeId) : aop P ⟨d, .call ⟨.builtin .cap, xs, ats⟩, ty, ps, af, g⟩ ρ A K = abuiltin P .cap ats ty (xs.map fun | .const _ => true | _ => false) (xs.map ρ) A K := rfl
theorem aop_min (xs : Array Operand) (ats : Array TypeId) : aop P ⟨d, .call ⟨.builtin .min, xs, ats⟩, ty, ps, af, g⟩ ρ A K = abuiltin P .min ats ty (xs.map fun | .const _ => true | _ => false) (xs.map ρ) A K := rfl
theorem aop_max (xs : Array Operand) (ats : Array TypeId) : aop P ⟨d, .call ⟨.builtin .max, xs, ats⟩, ty, ps, af, g⟩ ρ A K = abuiltin P .max ats ty (xs.map fun | .const _ => true | _ => false) (xs.map ρ) A K := rfl
end

/-! ### regions and code, step by step -/
theorem aops_nil (ops : Array Oper) (K : Fr → View → Prop) : aops P ops K [] fr A = K fr A := rfl
theorem aops_plain (ops : Array Oper) (K : Fr → View → Prop) (d : Option Tmp) (op : Op) (ty : TypeId) (ps : String) (af : Array Edge) (rest : List Oper) :
    aops P ops K (⟨d, op, ty, ps, af, none⟩ :: rest) fr A = aop P ⟨d, op, ty, ps, af, none⟩ (ev fr) A fun v A' => aops P ops K rest (updO fr d v) A' := rfl
def aguard (y : Option Bool) (want : Bool) (p q : Prop) : Prop := (y = some want → p) ∧ (y ≠ some want → q)
theorem aops_guard (ops : Array Oper) (K : Fr → View → Prop) (d : Option Tmp) (op : Op) (ty : TypeId) (ps : String) (af : Array Edge) (j : Nat) (want : Bool) (rest : List Oper) :
    aops P ops K (⟨d, op, ty, ps, af, some (j, want)⟩ :: rest) fr A =
      aguard (ayield ops fr j) want (aop P ⟨d, op, ty, ps, af, some (j, want)⟩ (ev fr) A fun v A' => aops P ops K rest (updO fr d v) A') (aops P ops K rest (updO fr d undef) A) := rfl
theorem aguard_some (b want : Bool) (p q : Prop) : aguard (some b) want p q ↔ (b = want → p) ∧ (b ≠ want → q) := by simp [aguard]
theorem aguard_true (want : Bool) (p q : Prop) : aguard (some want) want p q = p := by simp [aguard]
theorem aguard_tf (p q : Prop) : aguard (some true) false p q = q := by simp [aguard]
theorem aguard_ft (p q : Prop) : aguard (some false) true p q = q := by simp [aguard]

theorem awp_region (id : Nat) (l : List Oper) (K : Post) : awp P (.region id l.toArray false) K fr A = aops P l.toArray (K .normal) l fr A := rfl
theorem awp_draw (id : Nat) (ops : Array Oper) (K : Post) : awp P (.region id ops true) K fr A = ADraw P id ops (K .normal) fr A := rfl
theorem awp_seq (a b : Code) (K : Post) : awp P (.seq a b) K fr A = awp P a (seqK (awp P b K) K) fr A := rfl
theorem awp_cond (c : Operand) (a b : Code) (K : Post) : awp P (.cond c a b) K fr A = acond (ev fr c) (awp P a K fr A) (awp P b K fr A) := rfl
theorem awp_block (id : Nat) (c : Code) (K : Post) : awp P (.block id c) K fr A = awp P c (blockK id K) fr A := rfl
theorem awp_loop (c : Code) (K : Post) : awp P (.loop c) K fr A = ALoop P c K fr A := rfl
theorem awp_exit (id : Nat) (K : Post) : awp P (.exit id) K fr A = K (.exit id) fr A := rfl
theorem awp_ret (K : Post) : awp P .ret K fr A = K .ret fr A := rfl
theorem awp_skip (K : Post) : awp P .skip K fr A = K .normal fr A := rfl
theorem seqK_normal (K1 : Fr → View → Prop) (K : Post) : seqK K1 K .normal fr A = K1 fr A := rfl
theorem seqK_ret (K1 : Fr → View → Prop) (K : Post) : seqK K1 K .ret fr A = K .ret fr A := rfl
theorem seqK_exit (K1 : Fr → View → Prop) (K : Post) (i : Nat) : seqK K1 K (.exit i) fr A = K (.exit i) fr A := rfl
theorem blockK_normal (id : Nat) (K : Post) : blockK id K .normal fr A = K .normal fr A := rfl
theorem blockK_ret (id : Nat) (K : Post) : blockK id K .ret fr A = K .ret fr A := rfl
theorem blockK_same (id : Nat) (K : Post) : blockK id K (.exit id) fr A = K .normal fr A := by simp [blockK]
theorem blockK_other (id i : Nat) (K : Post) (h : (i == id) = false) : blockK id K (.exit i) fr A = K (.exit i) fr A := by
  have : i ≠ id := by simpa using h
  simp [blockK, this]
theorem blockK_ne (id i : Nat) (K : Post) (h : i ≠ id) : blockK id K (.exit i) fr A = K (.exit i) fr A := by simp [blockK, h]
theorem acond_true (p q : Prop) : acond (.bool true) p q = p := by simp [acond]
theorem acond_false (p q : Prop) : acond (.bool false) p q = q := by simp [acond]
/-- A branch: what simp leaves alone. -/
def abr (c p : Prop) : Prop := c → p
theorem abr_true (p : Prop) : abr True p = p := by simp [abr]
theorem abr_false (p : Prop) : abr False p = True := by simp [abr]
theorem acond_decide (c : Prop) [Decidable c] (p q : Prop) : acond (.bool (decide c)) p q = (abr c p ∧ abr (¬ c) q) := by simp [acond, abr]
theorem acond_bool (b : Bool) (p q : Prop) : acond (.bool b) p q = (abr (b = true) p ∧ abr (b = false) q) := by simp [acond, abr]
theorem aguard_bt (b : Bool) (p q : Prop) : aguard (some b) true p q = (abr (b = true) p ∧ abr (b = false) q) := by simp [aguard, abr]
theorem aguard_bf (b : Bool) (p q : Prop) : aguard (some b) false p q = (abr (b = false) p ∧ abr (b = true) q) := by simp [aguard, abr]
theorem fnPost_normal (fn : Func) (R : Value → View → Prop) : fnPost P fn R .normal fr A = ares P R fr A fn.results.toList := rfl
theorem fnPost_ret (fn : Func) (R : Value → View → Prop) : fnPost P fn R .ret fr A = ares P R fr A fn.results.toList := rfl

theorem ev_tmp (t : Tmp) : ev fr (.tmp t) = fr t := rfl
theorem ev_const (v : Value) : ev fr (.const v) = v := rfl
theorem ev_func (f : FuncId) : ev fr (.func f) = .func (.func f) #[] #[] := rfl
theorem updO_at (d s : Tmp) (v : Value) : updO fr (some d) v s = if s = d then v else fr s := rfl
theorem updO_same (d : Tmp) (v : Value) : updO fr (some d) v d = v := by simp [updO, upd]
theorem updO_other (d s : Tmp) (v : Value) (h : (s == d) = false) : updO fr (some d) v s = fr s := by
  have : s ≠ d := by simpa using h
  simp [updO, upd, this]
theorem updO_none (v : Value) (s : Tmp) : updO fr none v s = fr s := rfl
theorem frame0_at (args : Array Value) (t : Tmp) : frame0 args t = args.getD t undef := rfl

/-! ### values -/
theorem abin_add (k : IntKind) (t : TypeId) (x y : Operand) (a b : Int) : abin P .add t x y (.int k a) (.int k b) A K = K (.int k (k.wrap (a + b))) A := by cases k <;> rfl
theorem abin_sub (k : IntKind) (t : TypeId) (x y : Operand) (a b : Int) : abin P .sub t x y (.int k a) (.int k b) A K = K (.int k (k.wrap (a - b))) A := by cases k <;> rfl
theorem abin_mul (k : IntKind) (t : TypeId) (x y : Operand) (a b : Int) : abin P .mul t x y (.int k a) (.int k b) A K = K (.int k (k.wrap (a * b))) A := by cases k <;> rfl
theorem abin_lss (k : IntKind) (t : TypeId) (x y : Operand) (a b : Int) : abin P .lss t x y (.int k a) (.int k b) A K = K (.bool (decide (a < b))) A := by cases k <;> rfl
theorem abin_leq (k : IntKind) (t : TypeId) (x y : Operand) (a b : Int) : abin P .leq t x y (.int k a) (.int k b) A K = K (.bool (decide (a ≤ b))) A := by cases k <;> rfl
theorem abin_gtr (k : IntKind) (t : TypeId) (x y : Operand) (a b : Int) : abin P .gtr t x y (.int k a) (.int k b) A K = K (.bool (decide (b < a))) A := by cases k <;> rfl
theorem abin_geq (k : IntKind) (t : TypeId) (x y : Operand) (a b : Int) : abin P .geq t x y (.int k a) (.int k b) A K = K (.bool (decide (b ≤ a))) A := by cases k <;> rfl
theorem abin_eql (k : IntKind) (t : TypeId) (x y : Operand) (a b : Int) : abin P .eql t x y (.int k a) (.int k b) A K = K (.bool (decide (a = b))) A := by
  have : (a == b) = decide (a = b) := rfl
  rw [← this]; cases k <;> rfl
theorem abin_neq (k : IntKind) (t : TypeId) (x y : Operand) (a b : Int) : abin P .neq t x y (.int k a) (.int k b) A K = K (.bool (decide (a ≠ b))) A := by
  have : (a != b) = decide (a ≠ b) := by rw [Bool.eq_iff_iff]; simp
  rw [← this]; cases k <;> rfl
theorem bytes_eq (a b : ByteArray) : (a.toList == b.toList) = decide (a = b) := by
  rw [Bool.eq_iff_iff]
  simp only [beq_iff_eq, decide_eq_true_eq]
  refine ⟨fun h => ?_, fun h => by rw [h]⟩
  rw [Lib.toList_data, Lib.toList_data] at h
  exact ByteArray.ext (Array.toList_inj.1 h)
theorem abin_eqs (t : TypeId) (x y : Operand) (a b : ByteArray) : abin P .eql t x y (.string a) (.string b) A K = K (.bool (decide (a = b))) A := by
  rw [← bytes_eq]; rfl
theorem abin_nes (t : TypeId) (x y : Operand) (a b : ByteArray) : abin P .neq t x y (.string a) (.string b) A K = K (.bool (decide (a ≠ b))) A := by
  have : (!(a.toList == b.toList)) = decide (a ≠ b) := by rw [bytes_eq]; simp
  rw [← this]; rfl
theorem aun_not (b : Bool) : aun P .not (.bool b) A K = K (.bool (!b)) A := rfl
theorem apick_bool (b : Bool) (x y : Value) : apick (.bool b) x y A K = K (if b then x else y) A := rfl
theorem aextract_at (vs : Array Value) (i : Nat) : aextract (.tuple vs) i A K = someK vs[i]? (fun v => K v A) := by
  simp only [aextract, someK]
  cases vs[i]? <;> rfl
theorem wrap_id {n : Int} (h1 : -9223372036854775808 ≤ n) (h2 : n ≤ 9223372036854775807) : IntKind.i64.wrap n = n := IntWalk.i64_in _ ⟨h1, h2⟩

/-- A mark by which simp takes a congruence to have done something. -/
def Mark {α : Sort _} (v : α) : α := v
theorem mark_eq {α : Sort _} (v : α) : Mark v = v := Eq.trans (Eq.refl _) (Eq.refl _)

/-! ### what simp may look into -/
section
variable {t : TypeId} {ops : Array Oper} {K1 : Fr → View → Prop} {l : List Oper} {op : BinOp} {x y : Operand} {v v' u u' w w' : Value} {n : Nat} {p q : Prop} {b : Builtin} {ts : Array TypeId} {bs : Array Bool} {vs vs' : Array Value} {ps ps' : Array (Nat × Value)} {o o' o1 o1' o2 o2' : Option Value} {c : Code} {K2 : Post} {uop : UnOp} {f : FuncId}
@[congr] theorem aops_congr {A' : View} {fr' : Fr} (h1 : Mark A = A') (h2 : Mark fr = fr') : aops P ops K1 l fr A = aops P ops K1 l fr' A' := by rw [← h1, ← h2, mark_eq, mark_eq]
@[congr] theorem awp_congr {A' : View} {fr' : Fr} (h1 : Mark A = A') (h2 : Mark fr = fr') : awp P c K2 fr A = awp P c K2 fr' A' := by rw [← h1, ← h2, mark_eq, mark_eq]
@[congr] theorem ALoop_congr {A' : View} {fr' : Fr} (h1 : Mark A = A') (h2 : Mark fr = fr') : ALoop P c K2 fr A = ALoop P c K2 fr' A' := by rw [← h1, ← h2, mark_eq, mark_eq]
@[congr] theorem ADraw_congr {A' : View} {fr' : Fr} (h1 : Mark A = A') (h2 : Mark fr = fr') : ADraw P n ops K1 fr A = ADraw P n ops K1 fr' A' := by rw [← h1, ← h2, mark_eq, mark_eq]
@[congr] theorem abin_congr (h1 : Mark v = v') (h2 : Mark u = u') : abin P op t x y v u A K = abin P op t x y v' u' A K := by rw [← h1, ← h2, mark_eq, mark_eq]
@[congr] theorem aop_congr {oo : Oper} {ρ : Operand → Value} {A' : View} (h1 : Mark A = A') : aop P oo ρ A K = aop P oo ρ A' K := by rw [← h1, mark_eq]
@[congr] theorem aun_congr (h1 : Mark v = v') : aun P uop v A K = aun P uop v' A K := by rw [← h1, mark_eq]
@[congr] theorem apick_congr (h1 : Mark v = v') (h2 : Mark u = u') (h3 : Mark w = w') : apick v u w A K = apick v' u' w' A K := by rw [← h1, ← h2, ← h3, mark_eq, mark_eq, mark_eq]
@[congr] theorem aalloc_congr {A' : View} (h1 : Mark A = A') : aalloc P t A K = aalloc P t A' K := by rw [← h1, mark_eq]
@[congr] theorem abox_congr (h1 : Mark v = v') : abox P t v A K = abox P t v' A K := by rw [← h1, mark_eq]
@[congr] theorem abuild_congr (h1 : Mark ps = ps') : abuild P t ps A K = abuild P t ps' A K := by rw [← h1, mark_eq]
@[congr] theorem alit_congr (h1 : Mark ps = ps') : alit P t n ps A K = alit P t n ps' A K := by rw [← h1, mark_eq]
@[congr] theorem aload_congr (h1 : Mark v = v') : aload P t v A K = aload P t v' A K := by rw [← h1, mark_eq]
@[congr] theorem astore_congr (h1 : Mark v = v') (h2 : Mark u = u') : astore P t v u A K = astore P t v' u' A K := by rw [← h1, ← h2, mark_eq, mark_eq]
@[congr] theorem aconv_congr {s : TypeId} (h1 : Mark v = v') : aconv P s t v A K = aconv P s t v' A K := by rw [← h1, mark_eq]
@[congr] theorem amake_congr (h1 : Mark v = v') (h2 : Mark u = u') : amake P t v u A K = amake P t v' u' A K := by rw [← h1, ← h2, mark_eq, mark_eq]
@[congr] theorem aslice_congr (h1 : Mark v = v') (h2 : Mark o = o') (h3 : Mark o1 = o1') (h4 : Mark o2 = o2') : aslice P t v o o1 o2 A K = aslice P t v' o' o1' o2' A K := by rw [← h1, ← h2, ← h3, ← h4, mark_eq, mark_eq, mark_eq, mark_eq]
@[congr] theorem afaddr_congr (h1 : Mark v = v') : afaddr P t v n A K = afaddr P t v' n A K := by rw [← h1, mark_eq]
@[congr] theorem afield_congr (h1 : Mark v = v') : afield P t v n A K = afield P t v' n A K := by rw [← h1, mark_eq]
@[congr] theorem aiaddr_congr (h1 : Mark v = v') (h2 : Mark u = u') : aiaddr P t v u A K = aiaddr P t v' u' A K := by rw [← h1, ← h2, mark_eq, mark_eq]
@[congr] theorem aindex_congr (h1 : Mark v = v') (h2 : Mark u = u') : aindex P t v u A K = aindex P t v' u' A K := by rw [← h1, ← h2, mark_eq, mark_eq]
@[congr] theorem aextract_congr (h1 : Mark v = v') : aextract v n A K = aextract v' n A K := by rw [← h1, mark_eq]
@[congr] theorem abuiltin_congr (h1 : Mark vs = vs') : abuiltin P b ts t bs vs A K = abuiltin P b ts t bs vs' A K := by rw [← h1, mark_eq]
@[congr] theorem acall_congr (h1 : Mark v = v') (h2 : Mark vs = vs') : acall P v vs A K = acall P v' vs' A K := by rw [← h1, ← h2, mark_eq, mark_eq]
@[congr] theorem ACalls_congr (h2 : Mark vs = vs') : ACalls P f vs A K = ACalls P f vs' A K := by rw [← h2, mark_eq]
@[congr] theorem aappend_congr (h2 : Mark vs = vs') : aappend P ts t vs A K = aappend P ts t vs' A K := by rw [← h2, mark_eq]
@[congr] theorem acopy_congr (h2 : Mark vs = vs') : acopy P ts t vs A K = acopy P ts t vs' A K := by rw [← h2, mark_eq]
@[congr] theorem aclear_congr (h2 : Mark vs = vs') : aclear P ts t vs A K = aclear P ts t vs' A K := by rw [← h2, mark_eq]
@[congr] theorem abr_congr {c c' : Prop} (h1 : Mark c = c') : abr c p = abr c' p := by rw [← h1, mark_eq]
@[congr] theorem acond_congr (h1 : Mark v = v') : acond v p q = acond v' p q := by rw [← h1, mark_eq]
@[congr] theorem aguard_congr {z z' : Option Bool} {wn : Bool} (h1 : Mark z = z') : aguard z wn p q = aguard z' wn p q := by rw [← h1, mark_eq]
@[congr] theorem someK_congr {α : Type} {z z' : Option α} {J : α → Prop} (h1 : Mark z = z') : someK z J = someK z' J := by rw [← h1, mark_eq]
end

end Go.Proofs.Ytggklaimbklefaa

/- append over views: a slice of one's own may grow in place or move; what is appended is a slice, nothing or a string. -/
set_option maxHeartbeats 4000000
set_option synthInstance.maxHeartbeats 400000
set_option synthInstance.maxSize 4096
set_option linter.unusedSimpArgs false
set_option linter.unusedVariables false
namespace Go.Proofs.Ytggklaimbklefaa

variable {P : Program} {A : View} {K : Value → View → Prop}

theorem setCells_row (b : Nat) (e : TypeId) : ∀ (vs : List Value) (o : Nat) (w : World) (c : Array Value), w.heap[b]? = some (.cells c e (0, 0)) → o + vs.length ≤ c.size →
    w.setCells b o vs = w.setRow b (c.toList.take o ++ vs ++ c.toList.drop (o + vs.length)).toArray
  | [], o, w, c, hb, _ => by
    simp only [World.setCells, List.append_nil, List.length_nil, Nat.add_zero, List.take_append_drop, Array.toArray_toList]
    exact (setRow_self w b c e (0, 0) hb).symm
  | v :: vs, o, w, c, hb, hl => by
    have hset := setCell_eq_setRow w b o c e (0, 0) v hb
    have ih := setCells_row b e vs (o + 1) (w.setRow b (c.setIfInBounds o v)) (c.setIfInBounds o v) (setRow_heap w b c _ e _ hb) (by simp at hl ⊢; omega)
    simp only [World.setCells, hset, ih, setRow_setRow]
    congr 2
    have e := list_seg_step c.toList o v vs (by simp at hl ⊢; omega)
    simpa [Array.toList_setIfInBounds, Nat.add_assoc] using e

def srcKind (P : Program) (tx : TypeId) : Bool := match P.underlying tx with
  | some (.slice _) => true
  | some .string => true
  | _ => false

/-- What an append's types say: the elements' type, its cells, its bytes. -/
def appT (P : Program) (t tx : TypeId) : Option (TypeId × Nat × Nat) :=
  match P.underlying t with
  | some (.slice e) => match P.info? e with
    | some i => match i.zero with
      | some z => if z.cells.size = i.size ∧ 0 < i.size ∧ srcKind P tx = true then some (e, i.size, i.bytes) else none
      | none => none
    | none => none
  | _ => none

theorem appT_spec {t tx e : TypeId} {size bytes : Nat} (h : appT P t tx = some (e, size, bytes)) :
    ∃ i z, P.underlying t = some (.slice e) ∧ P.info? e = some i ∧ i.zero = some z ∧ i.size = size ∧ i.bytes = bytes ∧ z.cells.size = size ∧ 0 < size ∧ srcKind P tx = true := by
  unfold appT at h
  split at h
  · rename_i e' ht
    split at h
    · rename_i i hi
      split at h
      · rename_i z hz
        split at h
        · rename_i hc
          simp at h
          obtain ⟨rfl, rfl, rfl⟩ := h
          exact ⟨i, z, ht, hi, hz, rfl, rfl, hc.1, hc.2.1, hc.2.2⟩
        · simp at h
      · simp at h
    · simp at h
  · simp at h

/-- What is appended, off the view. -/
def asrc (A : View) (size : Nat) (x : Value) : Option (Nat × List Value) :=
  match x with
  | .slice none n _ => if n = 0 then some (0, []) else none
  | .slice (some a) n _ => if n = 0 then some (0, []) else (A.part a (n * size)).map fun cs => (n, cs)
  | .string s => if size = 1 then some (s.size, byteCells s) else none
  | _ => none

theorem asrc_first {w : World} {size n : Nat} {x : Value} {cs : List Value} (h : asrc A size x = some (n, cs)) (hw : Rel A w) :
    (∀ w' : World, (Builtin.lenOf x).run P w' = .ok n w') ∧ (Builtin.firstCells size n x).run P w = .ok cs.toArray w ∧ (Builtin.firstCells size n x).run P w.drew = .ok cs.toArray w.drew ∧
      cs.length = n * size ∧ ∀ u ∈ cs, u.oneCell' = true := by
  unfold asrc at h
  split at h
  · rename_i m c
    split at h
    · rename_i hm
      subst hm
      simp at h
      obtain ⟨rfl, rfl⟩ := h
      exact ⟨fun _ => rfl, run_firstCells_none w size 0 0 c, run_firstCells_none w.drew size 0 0 c, by simp, fun _ h => by cases h⟩
    · simp at h
  · rename_i a m c
    split at h
    · rename_i hm
      subst hm
      simp at h
      obtain ⟨rfl, rfl⟩ := h
      exact ⟨fun _ => rfl, run_firstCells_some w size 0 a 0 c [] (by simp) (by simp), run_firstCells_some w.drew size 0 a 0 c [] (by simp) (by simp), by simp, fun _ h => by cases h⟩
    · cases hp : A.part a (m * size) with
      | none => simp [hp] at h
      | some cs' =>
        simp [hp] at h
        obtain ⟨rfl, rfl⟩ := h
        obtain ⟨hl, hc, h1⟩ := hw.part hp
        exact ⟨fun _ => rfl, run_firstCells_some w size m a m c cs' hl hc, run_firstCells_some w.drew size m a m c cs' hl (by simpa using hc), hl, h1⟩
  · rename_i s
    split at h
    · rename_i hs
      subst hs
      simp at h
      obtain ⟨rfl, rfl⟩ := h
      exact ⟨fun _ => rfl, firstCells_string s w, firstCells_string s w.drew, by rw [byteCells_length, Nat.mul_one], fun u hu => by
        obtain ⟨_, _, rfl⟩ := List.mem_map.1 hu
        rfl⟩
    · simp at h
  · simp at h

theorem asrc_src {w : World} {size n : Nat} {tx : TypeId} {x : Value} {cs : List Value} (hk : srcKind P tx = true) (h : asrc A size x = some (n, cs)) (hw : Rel A w) : Src P size tx x n cs w := by
  obtain ⟨h1, h2, h3, h4, h5⟩ := asrc_first (P := P) h hw
  refine ⟨?_, h1, h2, h3, h4, h5⟩
  unfold srcKind at hk
  split at hk
  · rename_i e he; exact .inl ⟨e, he⟩
  · rename_i he; exact .inr he
  · simp at hk

theorem zeroCells_one {P : Program} {i : TypeInfo} (z : Array Value) (n : Nat) (hz : z.all (·.oneCell') = true) : ∀ u ∈ (Builtin.zeroCells z n).toList, u.oneCell' = true := by
  intro u hu
  simp only [Builtin.zeroCells, Array.toList_map, List.mem_map] at hu
  obtain ⟨j, hj, rfl⟩ := hu
  have hj' : j < n * z.size := by simpa [Array.toList_range] using hj
  have hpos : 0 < z.size := by
    rcases Nat.eq_zero_or_pos z.size with h | h
    · rw [h] at hj'; omega
    · exact h
  have := Nat.mod_lt j hpos
  rw [getElem!_pos z (j % z.size) this]
  exact Array.all_eq_true.1 hz _ this

/-- A new array. -/
theorem aappend_fresh {t tx ty e : TypeId} {size bytes n m c : Nat} {base : Option Addr} {x : Value} {olds news : List Value} (hT : appT P t tx = some (e, size, bytes))
    (ho : asrc A size (.slice base n c) = some (n, olds)) (hs : asrc A size x = some (m, news)) (hg : c < n + m) (hb : (n + m) * bytes ≤ 140737488355328) (h63 : n + m ≤ 9223372036854775807)
    (h : ∀ b' c', A b' = none → n + m ≤ c' → K (.slice (some ⟨b', 0, none⟩) (n + m) c') (A.set b' ⟨e, olds ++ news, c' * size, true⟩)) : aappend P #[t, tx] ty #[.slice base n c, x] A K := by
  intro w hw
  obtain ⟨i, z, ht, hi, hz, rfl, rfl, hzs, hpos, hk⟩ := appT_spec hT
  obtain ⟨_, _, hof, holen, ho1⟩ := asrc_first (P := P) ho hw
  have hsrc := asrc_src (P := P) hk hs hw
  have hfit : Builtin.nextslicecap (n + m) c * i.bytes ≤ 281474976710656 := by
    have h1 := nextslicecap_le hg
    have h2 : Builtin.nextslicecap (n + m) c * i.bytes ≤ 2 * (n + m) * i.bytes := Nat.mul_le_mul_right _ h1
    have h3 : 2 * (n + m) * i.bytes = 2 * ((n + m) * i.bytes) := Nat.mul_assoc _ _ _
    omega
  have hr := run_append_grow_src (P := P) w t tx ty e i z ht hi hz base n c olds hof x m news hsrc hg (by omega) hfit
  have hge := grownCap_ge w (n + m) c e
  have hlen : (olds ++ news).length = (n + m) * i.size := by rw [List.length_append, holen, hsrc.newsLen, Nat.add_mul]
  have hrest : (olds ++ news).length + (Builtin.zeroCells z.cells (grownCap w (n + m) c e - (n + m))).toList.length = grownCap w (n + m) c e * i.size := by
    rw [hlen, Array.length_toList, size_zeroCells, hzs, ← Nat.add_mul]; congr 1; omega
  have hn := hw.drew.new e (olds ++ news) (fun u hu => (List.mem_append.1 hu).elim (ho1 u) (hsrc.one u)) (Builtin.zeroCells z.cells (grownCap w (n + m) c e - (n + m))).toList
  have harr : (olds ++ news ++ (Builtin.zeroCells z.cells (grownCap w (n + m) c e - (n + m))).toList).toArray = (olds ++ news).toArray ++ Builtin.zeroCells z.cells (grownCap w (n + m) c e - (n + m)) := by
    apply Array.ext'
    simp
  rw [hrest, harr] at hn
  exact ⟨_, _, _, hr, h w.heap.size _ hn.1 hge, hn.2.1, (Step.drew A w).trans hn.2.2⟩

/-- In place, over cells that are known. -/
theorem aappend_room {t tx ty e : TypeId} {size bytes b n m c : Nat} {k : Blk} {x : Value} {news : List Value} (hT : appT P t tx = some (e, size, bytes)) (hb : A b = some k) (hown : k.own = true)
    (hs : asrc A size x = some (m, news)) (hroom : n + m ≤ c) (hfit : (n + m) * size ≤ k.cells.length)
    (h : K (.slice (some ⟨b, 0, none⟩) (n + m) c) (A.set b ⟨k.ty, k.cells.take (n * size) ++ news ++ k.cells.drop ((n + m) * size), k.room, true⟩)) :
    aappend P #[t, tx] ty #[.slice (some ⟨b, 0, none⟩) n c, x] A K := by
  intro w hw
  obtain ⟨i, z, ht, hi, hz, rfl, rfl, hzs, hpos, hk⟩ := appT_spec hT
  have hsrc := asrc_src (P := P) hk hs hw
  obtain ⟨⟨cur, fz, hcell, hcs, hl, htk, hf⟩, hone⟩ := hw _ _ hb; have hone := hone hown
  obtain rfl := hf hown
  have hnl := hsrc.newsLen
  have hnm : (n + m) * i.size = n * i.size + m * i.size := Nat.add_mul _ _ _
  have hfit' : n * i.size + news.length ≤ cur.size := by omega
  have hr := run_append_room_src (P := P) w t tx ty e i ht hi b 0 n c x m news hsrc hroom
    (fun j hj => by simp only [Nat.zero_add, World.cell?, hcell]; simp; omega) (fun j hj => by simp [World.frozen?, hcell])
  rw [Nat.zero_add, setCells_row b k.ty news (n * i.size) w cur hcell hfit'] at hr
  have hget : ∀ j, j < k.cells.length → cur.toList[j]? = k.cells[j]? := fun j hj => by rw [← htk, List.getElem?_take, if_pos (by simpa using hj)]
  have hw1 := hw.write (c' := (cur.toList.take (n * i.size) ++ news ++ cur.toList.drop (n * i.size + news.length)).toArray)
    (cs := k.cells.take (n * i.size) ++ news ++ k.cells.drop ((n + m) * i.size)) hb hown (by simp; omega) (by simp; omega) (by
      apply List.ext_getElem?
      intro j
      simp only [List.getElem?_take, List.length_append, List.length_take, List.length_drop, List.getElem?_append, List.getElem?_drop, Array.length_toList]
      by_cases hj : j < k.cells.length
      · have h1 := hget j hj
        have h2 := fun (hh : ¬ j < n * i.size + news.length) => hget (n * i.size + news.length + (j - (n * i.size + news.length))) (by omega)
        rw [if_pos (by omega), Nat.min_eq_left (by omega), Nat.min_eq_left (by omega)]
        split
        · split
          · first | exact h1 | (rw [if_pos (by omega)]; exact h1)
          · rfl
        · rename_i hh
          rw [h2 hh, show (n + m) * i.size = n * i.size + news.length by omega]
      · rw [if_neg (by omega), if_neg (by omega), List.getElem?_eq_none (by omega)]) (fun u hu => by
      simp only [List.mem_append] at hu
      rcases hu with (h | h) | h
      · exact hone u (List.mem_of_mem_take h)
      · exact hsrc.one u h
      · exact hone u (List.mem_of_mem_drop h))
  exact ⟨_, _, _, hr, h, hw1.1, hw1.2⟩

/-- A slice of one's own: it may grow in place, or move. -/
theorem aappend_own {t tx ty e : TypeId} {size bytes b n m c : Nat} {x : Value} {xs news : List Value} (hT : appT P t tx = some (e, size, bytes)) (hb : A b = some ⟨e, xs, c * size, true⟩) (hx : xs.length = n * size)
    (hs : asrc A size x = some (m, news)) (hby : (n + m) * bytes ≤ 140737488355328) (h63 : n + m ≤ 9223372036854775807)
    (h : ∀ b' c', (A.kill b) b' = none → n + m ≤ c' → K (.slice (some ⟨b', 0, none⟩) (n + m) c') ((A.kill b).set b' ⟨e, xs ++ news, c' * size, true⟩)) :
    aappend P #[t, tx] ty #[.slice (some ⟨b, 0, none⟩) n c, x] A K := by
  have hkill : ∀ x k, (A.kill b) x = some k → A x = some k := fun x k hk => by
    by_cases hxb : x = b
    · subst hxb; rw [View.kill_same] at hk; cases hk
    · rwa [View.kill_ne _ hxb] at hk
  by_cases hroom : n + m ≤ c
  · intro w hw
    obtain ⟨i, z, ht, hi, hz, rfl, rfl, hzs, hpos, hk⟩ := appT_spec hT
    have hsrc := asrc_src (P := P) hk hs hw
    obtain ⟨⟨cur, fz, hcell, hcs, hl, htk, hf⟩, hone⟩ := hw _ _ hb; have hone := hone rfl
    obtain rfl := hf rfl
    simp only at hcell hcs hl htk hone
    have hnl := hsrc.newsLen
    have hmul : (n + m) * i.size ≤ c * i.size := Nat.mul_le_mul_right _ hroom
    have hnm : (n + m) * i.size = n * i.size + m * i.size := Nat.add_mul _ _ _
    have hfit' : n * i.size + news.length ≤ cur.size := by omega
    have hr := run_append_room_src (P := P) w t tx ty e i ht hi b 0 n c x m news hsrc hroom
      (fun j hj => by simp only [Nat.zero_add, World.cell?, hcell]; simp; omega) (fun j hj => by simp [World.frozen?, hcell])
    rw [Nat.zero_add, setCells_row b e news (n * i.size) w cur hcell hfit'] at hr
    have hw1 := hw.write (c' := (cur.toList.take (n * i.size) ++ news ++ cur.toList.drop (n * i.size + news.length)).toArray) (cs := xs ++ news) hb rfl
      (by simp; omega) (by simp; omega) (by
        rw [← hx, htk, List.length_append]
        exact List.take_left' (by simp)) (fun u hu => (List.mem_append.1 hu).elim (hone u) (hsrc.one u))
    refine ⟨_, _, _, hr, h b c (View.kill_same A b) hroom, ?_, ?_⟩
    · refine hw1.1.forget fun x k hk => ?_
      by_cases hxb : x = b
      · subst hxb; rw [View.set_same] at hk ⊢; exact hk
      · rw [View.set_ne _ _ hxb] at hk ⊢; exact hkill x k hk
    · refine hw1.2.trans (Step.forget _ fun x k hk => ?_)
      by_cases hxb : x = b
      · subst hxb; rw [View.set_same] at hk ⊢; exact hk
      · rw [View.set_ne _ _ hxb] at hk ⊢; exact hkill x k hk
  · refine fun w hw => ?_
    have ho : asrc A size (.slice (some ⟨b, 0, none⟩) n c) = some (n, xs) := by
      unfold asrc
      split
      · rename_i heq; cases heq
      · rename_i heq
        injection heq with h1 h2 h3
        obtain rfl := Option.some.inj h1
        subst h2
        split
        · rename_i hn; subst hn
          simp at hx; subst hx; rfl
        · have h1 : ∀ v ∈ xs, v.oneCell' = true := (hw _ _ hb).one rfl
          have := View.part_mk (A := A) (a := ⟨b, 0, none⟩) (n := n * size) rfl hb (by simp [hx]) (by simpa [← hx] using h1)
          rw [this]; simp [← hx]
      · rename_i heq; cases heq
      · rename_i h1 h2 h3; exact (h2 _ _ _ rfl).elim
    obtain ⟨v, w', A', hr, hK, hrel, hst⟩ := aappend_fresh (K := fun v A' => ∃ A2, K v A2 ∧ ∀ x k, A2 x = some k → A' x = some k) (ty := ty) hT ho hs (by omega) hby h63 (fun b' c' hb' hle => by
      refine ⟨_, h b' c' ?_ hle, fun x k hk => ?_⟩
      · by_cases hbb : b' = b
        · subst hbb; exact View.kill_same A b'
        · rw [View.kill_ne _ hbb]; exact hb'
      · by_cases hxb : x = b'
        · subst hxb; rw [View.set_same] at hk ⊢; exact hk
        · rw [View.set_ne _ _ hxb] at hk ⊢; exact hkill x k hk) w hw
    obtain ⟨A2, hK2, hf⟩ := hK
    exact ⟨v, w', A2, hr, hK2, hrel.forget hf, hst.trans (Step.forget _ hf)⟩

/-- Nothing appended to nil. -/
theorem aappend_nil0 {t tx ty e : TypeId} {size bytes : Nat} {x : Value} {news : List Value} (hT : appT P t tx = some (e, size, bytes)) (hs : asrc A size x = some (0, news)) (h : K (.slice none 0 0) A) :
    aappend P #[t, tx] ty #[.slice none 0 0, x] A K := by
  intro w hw
  obtain ⟨i, z, ht, hi, hz, rfl, rfl, hzs, hpos, hk⟩ := appT_spec hT
  have hsrc := asrc_src (P := P) hk hs hw
  refine ⟨_, w, A, ?_, h, hw, Step.refl A w⟩
  have hn : news = [] := List.eq_nil_of_length_eq_zero (by simpa using hsrc.newsLen)
  subst hn
  rcases hsrc.kind with ⟨e', hk⟩ | hk <;> simp [Builtin.append_, run_underlying ht, run_underlying hk, sizeOf, typeInfo, hi, hsrc.len, hsrc.cells]

end Go.Proofs.Ytggklaimbklefaa

/- How the weakest precondition is computed where a type's layout is asked, and where a function is called. -/
set_option maxHeartbeats 4000000
set_option synthInstance.maxHeartbeats 400000
set_option synthInstance.maxSize 4096
set_option linter.unusedSimpArgs false
set_option linter.unusedVariables false
namespace Go.Proofs.Ytggklaimbklefaa

variable {P : Program} {A : View} {fr : Fr} {K : Value → View → Prop}

/-! ### layouts, as closed facts -/
def elemSize (P : Program) (t : TypeId) : Option Nat := match P.underlying t with
  | some (.slice e) => (P.info? e).map (·.size)
  | _ => none
def fieldOff (P : Program) (t : TypeId) (i : Nat) : Option Nat := match P.underlying t with
  | some (.struct fs) => match fs[i]? with
    | some f => match (P.info? f.type).map (·.size) with
      | some (_ + 1) => some f.offset
      | _ => none
    | none => none
  | _ => none
def zeroCells? (P : Program) (t : TypeId) : Option (List Value) := match P.info? t with
  | some i => match i.zero with
    | some z => if z.cells.toList.all (·.oneCell') = true then some z.cells.toList else none
    | none => none
  | none => none
def isSliceT (P : Program) (t : TypeId) : Bool := match P.underlying t with | some (.slice _) => true | _ => false
def isStringT (P : Program) (t : TypeId) : Bool := match P.underlying t with | some .string => true | _ => false
def isBoolT (P : Program) (t : TypeId) : Bool := match P.underlying t with | some .bool => true | _ => false
def callable (P : Program) (f : FuncId) : Bool := match P.funcs[f]? with
  | some fn => fn.name != "runtime.NumGoroutine" && fn.body.isSome
  | none => false

theorem loadv_cell {t : TypeId} {n : Nat} (h : lay P t = some (false, n)) (a : Addr) : A.loadv P t a = A.cell a := by simp [View.loadv, h]
theorem loadv_agg {t : TypeId} {n : Nat} (h : lay P t = some (true, n)) (a : Addr) : A.loadv P t a = (A.part a n).map fun cs => .agg cs.toArray := by simp [View.loadv, h]
theorem aload_at (t : TypeId) (a : Addr) : aload P t (.pointer (some a)) A K = someK (A.loadv P t a) (fun v => K v A) := by
  simp only [aload, someK]
  cases A.loadv P t a <;> rfl
theorem astore_at (t : TypeId) (a : Addr) (v : Value) : astore P t (.pointer (some a)) v A K = someK (A.storev P t a v) (fun A' => K undef A') := by
  simp only [astore, someK]
  cases A.storev P t a v <;> rfl
theorem abuild_at (t : TypeId) (ps : Array (Nat × Value)) : abuild P t ps A K = someK (P.built t ps.toList) (fun cells => K (.agg cells) A) := by
  simp only [abuild, someK]
  cases P.built t ps.toList <;> rfl

theorem storev_set {t : TypeId} {n : Nat} (h : (P.info? t).map (·.size) = some n) {a : Addr} {v : Value} {k : Blk} (hk : A a.block = some k) (hs : a.spot = none) (ho : k.own = true) (hn : v.cells.size = n)
    (hl : a.off + n ≤ k.cells.length) (h1 : v.cells.toList.all (·.oneCell') = true) :
    A.storev P t a v = some (A.set a.block ⟨k.ty, k.cells.take a.off ++ v.cells.toList ++ k.cells.drop (a.off + n), k.room, true⟩) := by
  subst hn
  unfold View.storev
  rw [hk]
  simp only
  rw [if_pos ⟨hs, ho, h, hl, h1⟩]

theorem sawp_underlying {α : Type} {t : TypeId} {d : TypeDesc} (h : P.underlying t = some d) (f : TypeDesc → Sem α) (J : α → View → Prop) : sawp P (underlying t >>= f) J A = sawp P (f d) J A := by
  show sawp P ((underlying t).bind f) J A = _
  rw [sawp_bind]
  unfold underlying
  show sawp P (Sem.bind (.program .pure) _) _ A = _
  simp only [Sem.bind, sawp, h]
  rfl
theorem sawp_typeInfo {α : Type} {t : TypeId} {i : TypeInfo} (h : P.info? t = some i) (f : TypeInfo → Sem α) (J : α → View → Prop) : sawp P (typeInfo t >>= f) J A = sawp P (f i) J A := by
  show sawp P ((typeInfo t).bind f) J A = _
  rw [sawp_bind]
  unfold typeInfo
  show sawp P (Sem.bind (.program .pure) _) _ A = _
  simp only [Sem.bind, sawp, h]
  rfl
theorem sawp_sizeOf {α : Type} {t : TypeId} {n : Nat} (h : (P.info? t).map (·.size) = some n) (f : Nat → Sem α) (J : α → View → Prop) : sawp P (sizeOf t >>= f) J A = sawp P (f n) J A := by
  cases hi : P.info? t with
  | none => simp [hi] at h
  | some i =>
    simp [hi] at h
    subst h
    show sawp P (((typeInfo t).bind fun i => .pure i.size).bind f) J A = _
    rw [sawp_bind]
    exact sawp_typeInfo hi _ _
theorem sawp_ok {α β : Type} (s : Sem α) (a : α) (h : ∀ A (J : α → View → Prop), sawp P s J A = J a A) (f : α → Sem β) (J : β → View → Prop) : sawp P (s >>= f) J A = sawp P (f a) J A := by
  show sawp P (s.bind f) J A = _
  rw [sawp_bind, h]

theorem afaddr_at {t : TypeId} {i off : Nat} (h : fieldOff P t i = some off) (a : Addr) : afaddr P t (.pointer (some a)) i A K = K (.pointer (some (a.add off))) A := by
  unfold fieldOff at h
  split at h
  · rename_i fs hu
    split at h
    · rename_i f hf
      split at h
      · rename_i n hn
        simp at h; subst h
        unfold afaddr Instr.fieldAt
        rw [sawp_underlying hu]
        simp only [hf]
        show sawp P (Sem.bind (.pure a) _) K A = _
        simp only [Sem.bind]
        show sawp P ((do pure (Value.pointer (some (← fieldPlace a f)))) : Sem Value) K A = _
        unfold fieldPlace
        show sawp P (Sem.bind (Sem.bind (sizeOf f.type) _) _) K A = _
        rw [sawp_bind, show Sem.bind (sizeOf f.type) _ = (sizeOf f.type >>= _) from rfl, sawp_sizeOf hn]
        simp [sawp, pure]
      · simp at h
    · simp at h
  · simp at h

theorem aiaddr_at {t : TypeId} {es : Nat} (h : elemSize P t = some es) {a : Addr} {n c : Nat} {k : IntKind} {i : Int} (h0 : 0 ≤ i) (h1 : i < n) :
    aiaddr P t (.slice (some a) n c) (.int k i) A K = K (.pointer (some (a.add (i.toNat * es)))) A := by
  unfold elemSize at h
  split at h
  · rename_i e hu
    unfold aiaddr Instr.indexAt
    show sawp P (Sem.bind (.pure (k, i)) _) K A = _
    simp only [Sem.bind]
    rw [sawp_underlying hu]
    simp only
    show sawp P (Sem.bind (.pure _) _) K A = _
    simp only [Sem.bind]
    rw [sawp_underlying hu]
    simp only [h0, h1, and_self, if_true]
    rw [sawp_sizeOf h]
    rfl
  · simp at h

theorem sawp_bound {α : Type} {k : IntKind} {i : Int} {y : Nat} {code : BoundsCode} (h0 : 0 ≤ i) (h1 : i ≤ y) (f : Nat → Sem α) (J : α → View → Prop) :
    sawp P (Instr.sliceBound (.int k i) y code >>= f) J A = sawp P (f i.toNat) J A := by
  show sawp P (Sem.bind (Instr.sliceBound (.int k i) y code) f) J A = _
  rw [sawp_bind]
  unfold Instr.sliceBound
  show sawp P (Sem.bind (.pure (k, i)) _) _ A = _
  simp only [Sem.bind, h0, h1, and_self, if_true]
  rfl

/-- The address behind a slice's cut: it stays where nothing is left. -/
def cutAddr (a : Option Addr) (l m es : Nat) : Option Addr := if m = l then a else a.map (·.add (l * es))

theorem sawp_sliceAt {t : TypeId} {e : TypeId} (hu : P.underlying t = some (.slice e)) (x : Value) (l h m : Option Value) : sawp P (Instr.sliceAt t x l h m) K A = sawp P (Instr.slice t x l h m) K A := by
  unfold Instr.sliceAt
  rw [sawp_underlying hu]

theorem aslice_hi {t : TypeId} {es : Nat} (h : elemSize P t = some es) {a : Option Addr} {n c : Nat} {kh : IntKind} {hi : Int} (h0 : 0 ≤ hi) (h1 : hi ≤ c) :
    aslice P t (.slice a n c) none (some (.int kh hi)) none A K = K (.slice (cutAddr a 0 c es) hi.toNat c) A := by
  unfold elemSize at h
  split at h
  · rename_i e hu
    unfold aslice
    rw [sawp_sliceAt hu]
    unfold Instr.slice
    rw [sawp_underlying hu]
    simp only [Instr.sliceBounds]
    show sawp P (Sem.bind (Sem.bind (.pure c) _) _) K A = _
    simp only [Sem.bind]
    rw [sawp_bind, sawp_bound h0 h1]
    show sawp P (sizeOf e >>= _) K A = _
    rw [sawp_sizeOf h]
    rfl
  · simp at h
theorem aslice_lo {t : TypeId} {es : Nat} (h : elemSize P t = some es) {a : Option Addr} {n c : Nat} {kl : IntKind} {lo : Int} (h0 : 0 ≤ lo) (h1 : lo ≤ n) :
    aslice P t (.slice a n c) (some (.int kl lo)) none none A K = K (.slice (cutAddr a lo.toNat c es) (n - lo.toNat) (c - lo.toNat)) A := by
  unfold elemSize at h
  split at h
  · rename_i e hu
    unfold aslice
    rw [sawp_sliceAt hu]
    unfold Instr.slice
    rw [sawp_underlying hu]
    simp only [Instr.sliceBounds]
    show sawp P (Sem.bind (Sem.bind (.pure c) _) _) K A = _
    simp only [Sem.bind]
    show sawp P (Sem.bind (Sem.bind (.pure n) _) _) K A = _
    simp only [Sem.bind]
    rw [sawp_bind, sawp_bound h0 h1]
    show sawp P (sizeOf e >>= _) K A = _
    rw [sawp_sizeOf h]
    rfl
  · simp at h
theorem aslice_both {t : TypeId} {es : Nat} (h : elemSize P t = some es) {a : Option Addr} {n c : Nat} {kl kh : IntKind} {lo hi : Int} (h0 : 0 ≤ lo) (h1 : lo ≤ hi) (h2 : hi ≤ c) :
    aslice P t (.slice a n c) (some (.int kl lo)) (some (.int kh hi)) none A K = K (.slice (cutAddr a lo.toNat c es) (hi.toNat - lo.toNat) (c - lo.toNat)) A := by
  unfold elemSize at h
  split at h
  · rename_i e hu
    unfold aslice
    rw [sawp_sliceAt hu]
    unfold Instr.slice
    rw [sawp_underlying hu]
    simp only [Instr.sliceBounds]
    show sawp P (Sem.bind (Sem.bind (.pure c) _) _) K A = _
    simp only [Sem.bind]
    rw [sawp_bind, sawp_bound (by omega) h2]
    rw [sawp_bound h0 (by omega)]
    show sawp P (sizeOf e >>= _) K A = _
    rw [sawp_sizeOf h]
    rfl
  · simp at h

theorem sawp_bound1 {k : IntKind} {i : Int} {y : Nat} {code : BoundsCode} (h0 : 0 ≤ i) (h1 : i ≤ y) (J : Nat → View → Prop) : sawp P (Instr.sliceBound (.int k i) y code) J A = J i.toNat A := by
  unfold Instr.sliceBound
  show sawp P (Sem.bind (.pure (k, i)) _) _ A = _
  simp only [Sem.bind, h0, h1, and_self, if_true]
  rfl
theorem aslice_hm {t : TypeId} {es : Nat} (h : elemSize P t = some es) {a : Option Addr} {n c : Nat} {kh km : IntKind} {hi mx : Int} (h0 : 0 ≤ hi) (h1 : hi ≤ mx) (h2 : mx ≤ c) :
    aslice P t (.slice a n c) none (some (.int kh hi)) (some (.int km mx)) A K = K (.slice (cutAddr a 0 mx.toNat es) hi.toNat mx.toNat) A := by
  unfold elemSize at h
  split at h
  · rename_i e hu
    unfold aslice
    rw [sawp_sliceAt hu]
    unfold Instr.slice
    rw [sawp_underlying hu]
    simp only [Instr.sliceBounds]
    show sawp P (Sem.bind (Sem.bind (Instr.sliceBound (.int km mx) c _) _) _) K A = _
    rw [sawp_bind, sawp_bind, sawp_bound1 (by omega) h2]
    rw [sawp_bound h0 (by omega)]
    show sawp P (sizeOf e >>= _) K A = _
    rw [sawp_sizeOf h]
    rfl
  · simp at h
theorem aslice_lhm {t : TypeId} {es : Nat} (h : elemSize P t = some es) {a : Option Addr} {n c : Nat} {kl kh km : IntKind} {lo hi mx : Int} (h0 : 0 ≤ lo) (h1 : lo ≤ hi) (h2 : hi ≤ mx) (h3 : mx ≤ c) :
    aslice P t (.slice a n c) (some (.int kl lo)) (some (.int kh hi)) (some (.int km mx)) A K = K (.slice (cutAddr a lo.toNat mx.toNat es) (hi.toNat - lo.toNat) (mx.toNat - lo.toNat)) A := by
  unfold elemSize at h
  split at h
  · rename_i e hu
    unfold aslice
    rw [sawp_sliceAt hu]
    unfold Instr.slice
    rw [sawp_underlying hu]
    simp only [Instr.sliceBounds]
    show sawp P (Sem.bind (Sem.bind (Instr.sliceBound (.int km mx) c _) _) _) K A = _
    rw [sawp_bind, sawp_bind, sawp_bound1 (by omega) h3]
    rw [sawp_bound (by omega) (by omega)]
    rw [sawp_bound h0 (by omega)]
    show sawp P (sizeOf e >>= _) K A = _
    rw [sawp_sizeOf h]
    rfl
  · simp at h

theorem isStringT_spec {t : TypeId} (h : isStringT P t = true) : P.underlying t = some .string := by
  unfold isStringT at h
  split at h
  · assumption
  · simp at h
theorem sawp_sliceAtS {t : TypeId} (hu : P.underlying t = some .string) (x : Value) (l h m : Option Value) : sawp P (Instr.sliceAt t x l h m) K A = sawp P (Instr.slice t x l h m) K A := by
  unfold Instr.sliceAt
  rw [sawp_underlying hu]
theorem aslice_strlo {t : TypeId} (h : isStringT P t = true) {s : ByteArray} {kl : IntKind} {lo : Int} (h0 : 0 ≤ lo) (h1 : lo ≤ s.size) :
    aslice P t (.string s) (some (.int kl lo)) none none A K = K (.string (s.extract lo.toNat s.size)) A := by
  have hu := isStringT_spec h
  unfold aslice
  rw [sawp_sliceAtS hu]
  unfold Instr.slice
  rw [sawp_underlying hu]
  simp only [Instr.sliceBounds, Option.isSome_none, Bool.false_eq_true, if_false]
  show sawp P (Sem.bind (Sem.bind (.pure s.size) _) _) K A = _
  simp only [Sem.bind]
  show sawp P (Sem.bind (Sem.bind (.pure s.size) _) _) K A = _
  simp only [Sem.bind]
  rw [sawp_bind, sawp_bound h0 h1]
  rfl
theorem aslice_strhi {t : TypeId} (h : isStringT P t = true) {s : ByteArray} {kh : IntKind} {hi : Int} (h0 : 0 ≤ hi) (h1 : hi ≤ s.size) :
    aslice P t (.string s) none (some (.int kh hi)) none A K = K (.string (s.extract 0 hi.toNat)) A := by
  have hu := isStringT_spec h
  unfold aslice
  rw [sawp_sliceAtS hu]
  unfold Instr.slice
  rw [sawp_underlying hu]
  simp only [Instr.sliceBounds, Option.isSome_none, Bool.false_eq_true, if_false]
  show sawp P (Sem.bind (Sem.bind (.pure s.size) _) _) K A = _
  simp only [Sem.bind]
  rw [sawp_bind, sawp_bound h0 h1]
  rfl
theorem aslice_str {t : TypeId} (h : isStringT P t = true) {s : ByteArray} {kl kh : IntKind} {lo hi : Int} (h0 : 0 ≤ lo) (h1 : lo ≤ hi) (h2 : hi ≤ s.size) :
    aslice P t (.string s) (some (.int kl lo)) (some (.int kh hi)) none A K = K (.string (s.extract lo.toNat hi.toNat)) A := by
  have hu := isStringT_spec h
  unfold aslice
  rw [sawp_sliceAtS hu]
  unfold Instr.slice
  rw [sawp_underlying hu]
  simp only [Instr.sliceBounds, Option.isSome_none, Bool.false_eq_true, if_false]
  show sawp P (Sem.bind (Sem.bind (.pure s.size) _) _) K A = _
  simp only [Sem.bind]
  rw [sawp_bind, sawp_bound (by omega) h2]
  rw [sawp_bound h0 (by omega)]
  rfl
/-- A string's byte. -/
def sbyte (s : ByteArray) (i : Nat) : Nat := (s.data[i]?.map UInt8.toNat).getD 0
theorem aindex_at {t : TypeId} (h : isStringT P t = true) {s : ByteArray} {k : IntKind} {i : Int} (h0 : 0 ≤ i) (h1 : i < s.size) : aindex P t (.string s) (.int k i) A K = K (.int .u8 (sbyte s i.toNat)) A := by
  have hu := isStringT_spec h
  unfold aindex Instr.index
  show sawp P (Sem.bind (.pure (k, i)) _) K A = _
  simp only [Sem.bind]
  rw [sawp_underlying hu]
  have hlt : i.toNat < s.size := by omega
  have hd : i.toNat < s.data.size := hlt
  have hb : s[i.toNat]? = some s[i.toNat] := by simp [hlt]
  simp only [h0, if_true, hb]
  have : sbyte s i.toNat = s[i.toNat].toNat := by
    unfold sbyte
    rw [Array.getElem?_eq_getElem hd]
    rfl
  rw [this]
  rfl

theorem aalloc_at {t : TypeId} {cs : List Value} (h : zeroCells? P t = some cs) : aalloc P t A K = ∀ b, A b = none → K (.pointer (some ⟨b, 0, none⟩)) (A.set b ⟨t, cs, cs.length, true⟩) := by
  unfold zeroCells? at h
  split at h
  · rename_i i hi
    split at h
    · rename_i z hz
      split at h
      · rename_i hone
        simp at h; subst h
        unfold aalloc Instr.alloc
        show sawp P (Sem.bind (Sem.bind (typeInfo t) _) _) K A = _
        rw [sawp_bind, show Sem.bind (typeInfo t) _ = (typeInfo t >>= _) from rfl, sawp_typeInfo hi]
        simp only [hz]
        show sawp P (Sem.bind (Sem.bind (Sem.new _ _) _) _) K A = _
        simp only [Sem.bind, sawp, pure]
        rw [eq_iff_iff]
        simp only [Array.length_toList]
        exact ⟨fun h => h.2, fun h => ⟨List.all_eq_true.1 hone, h⟩⟩
      · simp at h
    · simp at h
  · simp at h
theorem abox_at {t : TypeId} {v : Value} (h1 : v.cells.toList.all (·.oneCell') = true) : abox P t v A K = ∀ b, A b = none → K (.pointer (some ⟨b, 0, none⟩)) (A.set b ⟨t, v.cells.toList, v.cells.size, true⟩) := by
  unfold abox Instr.box
  show sawp P (Sem.bind (Sem.bind (Sem.new _ _) _) _) K A = _
  simp only [Sem.bind, sawp, pure]
  rw [eq_iff_iff]
  exact ⟨fun h => h.2, fun h => ⟨List.all_eq_true.1 h1, h⟩⟩

theorem alen_slice {t : TypeId} (h : isSliceT P t = true) (ty : TypeId) (cs : Array Bool) (a : Option Addr) (n c : Nat) : abuiltin P .len #[t] ty cs #[.slice a n c] A K = K (.int .i64 n) A := by
  unfold isSliceT at h
  split at h
  · rename_i e hu
    unfold abuiltin builtin
    rw [sawp_value]
    unfold Builtin.len_
    simp only [List.getElem?_toArray, List.getElem?_cons_zero]
    rw [sawp_underlying hu]
    rfl
  · simp at h
theorem alen_string {t : TypeId} (h : isStringT P t = true) (ty : TypeId) (cs : Array Bool) (s : ByteArray) : abuiltin P .len #[t] ty cs #[.string s] A K = K (.int .i64 s.size) A := by
  have hu := isStringT_spec h
  unfold abuiltin builtin
  rw [sawp_value]
  unfold Builtin.len_
  simp only [List.getElem?_toArray, List.getElem?_cons_zero]
  rw [sawp_underlying hu]
  rfl
theorem amin_int (ts : Array TypeId) (ty : TypeId) (cs : Array Bool) (k : IntKind) (a b : Int) : abuiltin P .min ts ty cs #[.int k a, .int k b] A K = K (.int k (if b < a then b else a)) A := rfl
theorem amax_int (ts : Array TypeId) (ty : TypeId) (cs : Array Bool) (k : IntKind) (a b : Int) : abuiltin P .max ts ty cs #[.int k a, .int k b] A K = K (.int k (if b > a then b else a)) A := rfl

theorem acall_at {f : FuncId} (h : callable P f = true) (first cap vs : Array Value) : acall P (.func (.func f) first cap) vs A K = ACalls P f (first ++ vs ++ cap) A K := by
  unfold callable at h
  split at h
  · rename_i fn hf
    simp only [bne, Bool.and_eq_true, Bool.not_eq_true', beq_eq_false_iff_ne, ne_eq] at h
    unfold acall
    show sawp P (callFunc f (first ++ vs ++ cap)) (nextK P K) A = _
    unfold callFunc
    show sawp P (Sem.bind (.program .pure) _) (nextK P K) A = _
    simp only [Sem.bind, sawp, hf]
    have h1 : (fn.name == "runtime.NumGoroutine") = false := by simpa using h.1
    have h2 : fn.body.isNone = false := by cases hb : fn.body <;> simp_all
    simp only [h1, h2, Bool.false_eq_true, if_false]
    rfl
  · simp at h

theorem abin_eqb {t : TypeId} (h : isBoolT P t = true) (x y : Operand) (a b : Bool) : abin P .eql t x y (.bool a) (.bool b) A K = K (.bool (a == b)) A := by
  unfold isBoolT at h
  split at h
  · rename_i hu
    unfold abin
    show sawp P (Sem.bind (.pure ()) _) K A = _
    simp only [Sem.bind]
    show sawp P (Sem.bind (Op.equalIn 10000 t (.bool a) (.bool b)) _) K A = _
    rw [sawp_bind]
    unfold Op.equalIn
    rw [sawp_underlying hu]
    rfl
  · simp at h
theorem abin_neb {t : TypeId} (h : isBoolT P t = true) (x y : Operand) (a b : Bool) : abin P .neq t x y (.bool a) (.bool b) A K = K (.bool (!(a == b))) A := by
  unfold isBoolT at h
  split at h
  · rename_i hu
    unfold abin
    show sawp P (Sem.bind (.pure ()) _) K A = _
    simp only [Sem.bind]
    show sawp P (Sem.bind (Op.equalIn 10000 t (.bool a) (.bool b)) _) K A = _
    rw [sawp_bind]
    unfold Op.equalIn
    rw [sawp_underlying hu]
    rfl
  · simp at h
theorem abin_cat (t : TypeId) (x y : Operand) {a b : ByteArray} (h : a.size + b.size ≤ 9223372036854775807) : abin P .add t x y (.string a) (.string b) A K = K (.string (a ++ b)) A := by
  unfold abin
  show sawp P (Sem.bind (.pure ()) _) K A = _
  simp only [Sem.bind]
  show sawp P (Op.stringOp .add a b) K A = _
  unfold Op.stringOp
  have : ¬ (((a.size + b.size : Nat) : Int) > IntKind.i64.max) := by
    show ¬ (((a.size + b.size : Nat) : Int) > 9223372036854775807)
    omega
  simp only [this, if_false]
  rfl
theorem abin_slice_nil {t : TypeId} (h : isSliceT P t = true) (x y : Operand) (a b : Option Addr) (n c m d : Nat) (hn : a = none ∨ b = none) :
    abin P .eql t x y (.slice a n c) (.slice b m d) A K = K (.bool (a.isNone && b.isNone)) A ∧ abin P .neq t x y (.slice a n c) (.slice b m d) A K = K (.bool (!(a.isNone && b.isNone))) A := by
  unfold isSliceT at h
  split at h
  · rename_i e hu
    constructor
    all_goals
      unfold abin
      show sawp P (Sem.bind (.pure ()) _) K A = _
      simp only [Sem.bind]
      show sawp P (Sem.bind (Op.equalIn 10000 t (.slice a n c) (.slice b m d)) _) K A = _
      rw [sawp_bind]
      unfold Op.equalIn
      rw [sawp_underlying hu]
      cases a <;> cases b <;> first | rfl | (simp at hn)
  · simp at h

end Go.Proofs.Ytggklaimbklefaa

/- Literals and makes; and the rules of the weakest precondition in bundles, for simp. -/
set_option maxHeartbeats 4000000
set_option synthInstance.maxHeartbeats 400000
set_option synthInstance.maxSize 4096
set_option linter.unusedSimpArgs false
set_option linter.unusedVariables false
namespace Go.Proofs.Ytggklaimbklefaa

variable {P : Program} {A : View} {fr : Fr} {K : Value → View → Prop}

def litT (P : Program) (t : TypeId) : Option (TypeId × Nat) := match P.underlying t with
  | some (.slice e) => match P.info? e with
    | some i => if i.zero.isSome then some (e, i.size) else none
    | none => none
  | _ => none
def makeT (P : Program) (t : TypeId) : Option (TypeId × Nat × List Value) := match P.underlying t with
  | some (.slice e) => match P.info? e with
    | some i => match i.zero with
      | some z => if z.cells.size = i.size ∧ z.cells.toList.all (·.oneCell') = true then some (e, i.bytes, z.cells.toList) else none
      | none => none
    | none => none
  | _ => none

theorem foldl_set (cs : List Value) : ∀ (j off : Nat) (c : Array Value), off + j + cs.length ≤ c.size →
    ((cs.zipIdx j).foldl (fun (a : Array Value) (p : Value × Nat) => a.setIfInBounds (off + p.2) p.1) c).toList = c.toList.take (off + j) ++ cs ++ c.toList.drop (off + j + cs.length) := by
  induction cs with
  | nil => intro j off c _; simp
  | cons v vs ih =>
    intro j off c hl
    simp only [List.zipIdx_cons, List.foldl_cons]
    rw [ih (j + 1) off _ (by simp at hl ⊢; omega)]
    have e := list_seg_step c.toList (off + j) v vs (by simp at hl ⊢; omega)
    simpa [Array.toList_setIfInBounds, Nat.add_assoc] using e

theorem fill_step (place : Nat → Option (Nat × Nat)) (c : Array Value) (i off : Nat) (v : Value) (rest : List (Nat × Value)) (hp : place i = some (off, v.cells.size)) (hl : off + v.cells.size ≤ c.size) :
    Instr.fill place c ((i, v) :: rest) = Instr.fill place (c.toList.take off ++ v.cells.toList ++ c.toList.drop (off + v.cells.size)).toArray rest := by
  have h := foldl_set v.cells.toList 0 off c (by simpa using hl)
  simp only [Instr.fill, hp]
  have h1 : ¬ (v.cells.size ≠ v.cells.size || (decide (off + v.cells.size > c.size))) = true := by simp; omega
  have h2 : (v.cells.zipIdx.foldl (fun cs (x : Value × Nat) => cs.setIfInBounds (off + x.2) x.1) c) = (c.toList.take off ++ v.cells.toList ++ c.toList.drop (off + v.cells.size)).toArray := by
    apply Array.ext'
    rw [← Array.foldl_toList, Array.toList_zipIdx]
    simpa using h
  simp only [ne_eq, not_true_eq_false, decide_false, Bool.false_or, show ¬ (off + v.cells.size > c.size) by omega, Bool.false_eq_true, if_false]
  rw [← h2]

theorem fill_all (size : Nat) : ∀ (ps : List (Nat × Value)) (k : Nat) (c : Array Value), ps.map (·.1) = List.range' k ps.length → (∀ p ∈ ps, p.2.cells.size = size) → (k + ps.length) * size ≤ c.size →
    Instr.fill (fun j => some (j * size, size)) c ps = some (c.toList.take (k * size) ++ ps.flatMap (·.2.cells.toList) ++ c.toList.drop ((k + ps.length) * size)).toArray
  | [], k, c, _, _, _ => by simp [Instr.fill]
  | (i, v) :: ps, k, c, hk, hs, hl => by
    simp only [List.map_cons, List.length_cons, List.range'_succ, List.cons.injEq] at hk
    obtain ⟨rfl, hk⟩ := hk
    have hv : v.cells.size = size := hs (i, v) (by simp)
    have hmul : (i + (ps.length + 1)) * size = i * size + size + ps.length * size := by rw [Nat.add_mul, Nat.add_mul]; omega
    have hmul2 : (i + 1) * size = i * size + size := by rw [Nat.add_mul]; omega
    have hmul3 : (i + 1 + ps.length) * size = i * size + size + ps.length * size := by rw [Nat.add_mul, Nat.add_mul]; omega
    simp only [List.length_cons, hmul] at hl
    rw [fill_step _ c i (i * size) v ps (by rw [hv]) (by omega)]
    rw [fill_all size ps (i + 1) _ hk (fun p hp => hs p (by simp [hp])) (by rw [hmul3]; simp; omega)]
    congr 2
    have hlen : (c.toList.take (i * size) ++ v.cells.toList).length = (i + 1) * size := by
      simp only [List.length_append, List.length_take, Array.length_toList, hv, hmul2]; omega
    have h1 : List.take ((i + 1) * size) (c.toList.take (i * size) ++ v.cells.toList ++ c.toList.drop (i * size + v.cells.size)) = c.toList.take (i * size) ++ v.cells.toList := List.take_left' hlen
    have h2 : List.drop ((i + 1 + ps.length) * size) (c.toList.take (i * size) ++ v.cells.toList ++ c.toList.drop (i * size + v.cells.size)) = c.toList.drop ((i + (ps.length + 1)) * size) := by
      rw [show (i + 1 + ps.length) * size = (i + 1) * size + ps.length * size by rw [hmul3, hmul2], ← List.drop_drop, List.drop_left' hlen, List.drop_drop]
      congr 1
      rw [hv, hmul]
    rw [h1, h2]
    simp

theorem alit_at {t e : TypeId} {size n : Nat} {ps : Array (Nat × Value)} (h : litT P t = some (e, size)) (hn : n * size ≤ 16777216) (hf : ps.toList.map (·.1) = List.range' 0 n)
    (hs : ∀ p ∈ ps.toList, p.2.cells.size = size ∧ p.2.cells.toList.all (·.oneCell') = true)
    (hk : ∀ b, A b = none → K (.slice (some ⟨b, 0, none⟩) n n) (A.set b ⟨e, ps.toList.flatMap (·.2.cells.toList), n * size, true⟩)) : alit P t n ps A K := by
  have hlen : ps.toList.length = n := by have := congrArg List.length hf; simpa using this
  unfold litT at h
  split at h
  · rename_i e' hu
    split at h
    · rename_i i hi
      split at h
      · rename_i hz
        simp at h
        obtain ⟨rfl, rfl⟩ := h
        obtain ⟨z, hz⟩ := Option.isSome_iff_exists.1 hz
        have hone : ∀ v ∈ ps.toList.flatMap (·.2.cells.toList), v.oneCell' = true := by
          intro v hv
          obtain ⟨p, hp, hv⟩ := List.mem_flatMap.1 hv
          exact List.all_eq_true.1 (hs p hp).2 v hv
        have hfl : (ps.toList.flatMap (·.2.cells.toList)).length = n * i.size := by
          have : ∀ l : List (Nat × Value), (∀ p ∈ l, p.2.cells.size = i.size) → (l.flatMap (·.2.cells.toList)).length = l.length * i.size := by
            intro l
            induction l with
            | nil => simp
            | cons p l ih => intro hl; simp only [List.flatMap_cons, List.length_append, ih (fun q hq => hl q (by simp [hq])), List.length_cons, Array.length_toList, hl p (by simp), Nat.add_mul]; omega
          rw [this _ fun p hp => (hs p hp).1, hlen]
        have fin : ∀ c : Array Value, c.size = n * i.size → sawp P (do
            let some cells := Instr.fill (fun j => some (j * i.size, i.size)) c ps.toList | stuck "buildSlice: a part of the wrong size"
            pure (.slice (some (← newRow e' cells)) n n)) K A := by
          intro c hc
          rw [fill_all i.size ps.toList 0 c (by rw [hf, hlen]) (fun p hp => (hs p hp).1) (by rw [hlen, hc, Nat.zero_add]; exact Nat.le_refl _)]
          simp only [Nat.zero_mul, List.take_zero, List.nil_append, Nat.zero_add, hlen]
          rw [List.drop_eq_nil_of_le (by simp [hc]), List.append_nil]
          show sawp P (Sem.bind (Sem.bind (Sem.new _ _) _) _) K A
          simp only [Sem.bind, sawp, pure]
          refine ⟨by simpa using hone, fun b hb => ?_⟩
          have := hk b hb
          simp only [List.size_toArray, hfl]
          exact this
        unfold alit Instr.buildSlice
        rw [sawp_underlying hu]
        simp only
        rw [sawp_sizeOf (n := i.size) (by simp [hi])]
        rw [if_neg (by simpa using hn)]
        by_cases h0 : n * i.size = 0
        · simp only [h0, if_true]
          show sawp P (Sem.bind (.pure _) _) K A
          simp only [Sem.bind]
          exact fin _ (by simp [h0])
        · simp only [h0, if_false]
          show sawp P (Sem.bind (Sem.bind (typeInfo e') _) _) K A
          rw [sawp_bind, show Sem.bind (typeInfo e') _ = (typeInfo e' >>= _) from rfl, sawp_typeInfo hi]
          simp only [hz]
          exact fin _ (by simp)
      · simp at h
    · simp at h
  · simp at h

theorem amake_at {t e : TypeId} {bytes n : Nat} {z : List Value} (h : makeT P t = some (e, bytes, z)) {kl kc : IntKind} (hb : bytes * n ≤ 140737488355328) (h63 : n ≤ 9223372036854775807)
    (hk : ∀ b, A b = none → K (.slice (some ⟨b, 0, none⟩) n n) (A.set b ⟨e, (List.replicate n z).flatten, n * z.length, true⟩)) : amake P t (.int kl n) (.int kc n) A K := by
  intro w hw
  unfold makeT at h
  split at h
  · rename_i e' hu
    split at h
    · rename_i i hi
      split at h
      · rename_i z' hz
        split at h
        · rename_i hc
          simp at h
          obtain ⟨rfl, rfl, rfl⟩ := h
          have hr := run_make (P := P) w t e' i z' hu hi hz kl kc n n (by omega) (Int.le_refl _) (by
            have : ((i.bytes * n : Nat) : Int) ≤ 281474976710656 := by
              have hb' := hb
              generalize i.bytes * n = q at hb'
              omega
            rwa [Int.natCast_mul] at this) (by omega)
          simp only [Int.toNat_natCast] at hr
          have hcells : (madeCells z'.cells (n * i.size)).toList = (List.replicate n z'.cells.toList).flatten := by
            rw [← hc.1]
            unfold madeCells
            rw [Array.toList_map, Array.toList_range]
            have : ∀ m : Nat, List.map (fun x => z'.cells[x % z'.cells.size]!) (List.range (m * z'.cells.size)) = (List.replicate m z'.cells.toList).flatten := by
              intro m
              induction m with
              | zero => simp
              | succ m ihm =>
                rw [List.replicate_succ', List.flatten_concat, show (m + 1) * z'.cells.size = m * z'.cells.size + z'.cells.size by rw [Nat.add_mul]; omega, List.range_add, List.map_append, ihm]
                congr 1
                apply List.ext_getElem
                · simp
                · intro j h1 h2
                  simp only [List.length_map, List.length_range] at h1
                  simp only [List.getElem_map, List.getElem_range, Nat.mul_add_mod_self_right, Nat.mod_eq_of_lt h1]
                  rw [getElem!_pos z'.cells j h1]
                  simp
            exact this n
          have hone : ∀ v ∈ (madeCells z'.cells (n * i.size)).toList, v.oneCell' = true := by
            rw [hcells]
            intro v hv
            obtain ⟨l, hl, hv⟩ := List.mem_flatten.1 hv
            rw [(List.mem_replicate.1 hl).2] at hv
            exact List.all_eq_true.1 hc.2 v hv
          have hn := hw.new e' (madeCells z'.cells (n * i.size)).toList hone []
          simp only [List.length_nil, Nat.add_zero, List.append_nil, Array.toArray_toList, Array.length_toList, size_madeCells] at hn
          rw [hcells] at hn
          have := hk w.heap.size hn.1
          rw [Array.length_toList, hc.1] at this
          exact ⟨_, _, _, hr, this, hn.2.1, hn.2.2⟩
        · simp at h
      · simp at h
    · simp at h
  · simp at h

/-! ### bundles -/
theorem ares_nil (R : Value → View → Prop) : ares P R fr A [] = R (.tuple #[]) A := rfl
theorem ares_tmp (R : Value → View → Prop) (t : Tmp) : ares P R fr A [.tmp t] = R (fr t) A := rfl
theorem ares_tmp2 (R : Value → View → Prop) (t u : Tmp) : ares P R fr A [.tmp t, .tmp u] = R (.tuple #[fr t, fr u]) A := rfl
theorem ares_tmp3 (R : Value → View → Prop) (t u s : Tmp) : ares P R fr A [.tmp t, .tmp u, .tmp s] = R (.tuple #[fr t, fr u, fr s]) A := rfl
theorem ares_cell (R : Value → View → Prop) (t : Tmp) (ty : TypeId) : ares P R fr A [.cell t ty] = aload P ty (fr t) A R := by
  simp only [ares, resVal, aload]
  cases fr t <;> try rfl
  rename_i a
  cases a <;> rfl
theorem ares_cell_tmp (R : Value → View → Prop) (t u : Tmp) (ty : TypeId) : ares P R fr A [.cell t ty, .tmp u] = aload P ty (fr t) A (fun v A => R (.tuple #[v, fr u]) A) := by
  simp only [ares, resVal, aload]
  cases fr t <;> try rfl
  rename_i a
  cases a with
  | none => rfl
  | some a => simp only; cases A.loadv P ty a <;> rfl
theorem ares_cell_tmp2 (R : Value → View → Prop) (t u s : Tmp) (ty : TypeId) : ares P R fr A [.cell t ty, .tmp u, .tmp s] = aload P ty (fr t) A (fun v A => R (.tuple #[v, fr u, fr s]) A) := by
  simp only [ares, resVal, aload]
  cases fr t <;> try rfl
  rename_i a
  cases a with
  | none => rfl
  | some a => simp only; cases A.loadv P ty a <;> rfl
theorem ares_tmp_cell (R : Value → View → Prop) (t u : Tmp) (ty : TypeId) : ares P R fr A [.tmp t, .cell u ty] = aload P ty (fr u) A (fun v A => R (.tuple #[fr t, v]) A) := by
  simp only [ares, resVal, aload]
  cases fr u <;> try rfl
  rename_i a
  cases a with
  | none => rfl
  | some a => simp only; cases A.loadv P ty a <;> rfl
theorem ares_cell2 (R : Value → View → Prop) (t u : Tmp) (ty tz : TypeId) : ares P R fr A [.cell t ty, .cell u tz] = aload P ty (fr t) A (fun v A => aload P tz (fr u) A fun v2 A => R (.tuple #[v, v2]) A) := by
  simp only [ares, resVal, aload]
  cases fr t <;> try rfl
  rename_i a
  cases a with
  | none => rfl
  | some a =>
    simp only
    cases A.loadv P ty a with
    | none => rfl
    | some v =>
      simp only
      cases fr u <;> try rfl
      rename_i a
      cases a with
      | none => rfl
      | some a => simp only; cases A.loadv P tz a <;> rfl
section
variable {α β : Type} (f : α → β)
theorem lm_toArray (l : List α) : l.toArray.map f = (l.map f).toArray := by simp
theorem lm_cons (a : α) (l : List α) : (a :: l).map f = f a :: l.map f := rfl
theorem lm_nil : ([] : List α).map f = [] := rfl
theorem lm_some (a : α) : (some a).map f = some (f a) := rfl
theorem lm_none : (none : Option α).map f = none := rfl
end
theorem ay_arr (l : List Oper) (fr : Fr) (j : Nat) : ayield l.toArray fr j = yv l[j]? fr := by unfold ayield; rw [List.getElem?_toArray]
theorem ay_zero (o : Oper) (l : List Oper) (fr : Fr) : yv (o :: l)[0]? fr = yv (some o) fr := rfl
theorem ay_succ (o : Oper) (l : List Oper) (fr : Fr) (n : Nat) : yv (o :: l)[n + 1]? fr = yv l[n]? fr := rfl
theorem ay_some (d : Tmp) (op : Op) (ty : TypeId) (ps : String) (af : Array Edge) (g : Option (Nat × Bool)) (fr : Fr) : yv (some ⟨some d, op, ty, ps, af, g⟩) fr = vbool (fr d) := rfl
theorem vb_undef : vbool undef = none := rfl
theorem aguard_none (want : Bool) (p q : Prop) : aguard none want p q = q := by simp [aguard]
theorem vb_bool (b : Bool) : vbool (.bool b) = some b := rfl
theorem stp : type_of% (And.intro @ay_arr (And.intro @ay_zero (And.intro @ay_succ (And.intro @ay_some (And.intro @ares_nil (And.intro @ares_tmp (And.intro @ares_tmp2 (And.intro @ares_tmp3 (And.intro @ares_cell (And.intro @ares_cell_tmp (And.intro @ares_cell_tmp2 (And.intro @ares_tmp_cell (And.intro @ares_cell2 (And.intro @awp_region (And.intro @awp_draw (And.intro @awp_seq (And.intro @awp_cond (And.intro @awp_block (And.intro @awp_loop (And.intro @awp_exit (And.intro @awp_ret (And.intro @awp_skip (And.intro @seqK_normal (And.intro @seqK_ret (And.intro @seqK_exit (And.intro @blockK_normal (And.intro @blockK_ret (And.intro @blockK_same (And.intro @fnPost_normal (And.intro @fnPost_ret (And.intro @aops_nil (And.intro @aops_plain (And.intro @aops_guard (And.intro @aop_move (And.intro @aop_assign (And.intro @aop_pick (And.intro @aop_alloc (And.intro @aop_box (And.intro @aop_build (And.intro @aop_lit (And.intro @aop_load (And.intro @aop_store (And.intro @aop_bin (And.intro @aop_un (And.intro @aop_conv (And.intro @aop_func (And.intro @aop_make (And.intro @aop_slice (And.intro @aop_faddr (And.intro @aop_field (And.intro @aop_iaddr (And.intro @aop_index (And.intro @aop_extract (And.intro @aop_call (And.intro @aop_append (And.intro @aop_copy (And.intro @aop_clear (And.intro @aop_len (And.intro @aop_cap (And.intro @aop_min (@aop_max))))))))))))))))))))))))))))))))))))))))))))))))))))))))))))) := And.intro @ay_arr (And.intro @ay_zero (And.intro @ay_succ (And.intro @ay_some (And.intro @ares_nil (And.intro @ares_tmp (And.intro @ares_tmp2 (And.intro @ares_tmp3 (And.intro @ares_cell (And.intro @ares_cell_tmp (And.intro @ares_cell_tmp2 (And.intro @ares_tmp_cell (And.intro @ares_cell2 (And.intro @awp_region (And.intro @awp_draw (And.intro @awp_seq (And.intro @awp_cond (And.intro @awp_block (And.intro @awp_loop (And.intro @awp_exit (And.intro @awp_ret (And.intro @awp_skip (And.intro @seqK_normal (And.intro @seqK_ret (And.intro @seqK_exit (And.intro @blockK_normal (And.intro @blockK_ret (And.intro @blockK_same (And.intro @fnPost_normal (And.intro @fnPost_ret (And.intro @aops_nil (And.intro @aops_plain (And.intro @aops_guard (And.intro @aop_move (And.intro @aop_assign (And.intro @aop_pick (And.intro @aop_alloc (And.intro @aop_box (And.intro @aop_build (And.intro @aop_lit (And.intro @aop_load (And.intro @aop_store (And.intro @aop_bin (And.intro @aop_un (And.intro @aop_conv (And.intro @aop_func (And.intro @aop_make (And.intro @aop_slice (And.intro @aop_faddr (And.intro @aop_field (And.intro @aop_iaddr (And.intro @aop_index (And.intro @aop_extract (And.intro @aop_call (And.intro @aop_append (And.intro @aop_copy (And.intro @aop_clear (And.intro @aop_len (And.intro @aop_cap (And.intro @aop_min (@aop_max))))))))))))))))))))))))))))))))))))))))))))))))))))))))))))

theorem vls : type_of% (And.intro @blockK_ne (And.intro @ev_tmp (And.intro @ev_const (And.intro @ev_func (And.intro @updO_at (And.intro @updO_none (And.intro @abin_add (And.intro @abin_sub (And.intro @abin_mul (And.intro @abin_lss (And.intro @abin_leq (And.intro @abin_gtr (And.intro @abin_geq (And.intro @abin_eql (And.intro @abin_neq (And.intro @abin_eqs (And.intro @abin_nes (And.intro @abin_cat (And.intro @aun_not (And.intro @apick_bool (And.intro @aextract_at (And.intro @aload_at (And.intro @acond_true (And.intro @acond_false (And.intro @acond_decide (And.intro @acond_bool (And.intro @aguard_true (And.intro @aguard_tf (And.intro @aguard_ft (And.intro @amin_int (And.intro @amax_int (And.intro @abuild_at (And.intro @someK_some (And.intro @Int.toNat_natCast (And.intro @Nat.mul_one (And.intro @lm_toArray (And.intro @lm_cons (And.intro @lm_nil (And.intro @lm_some (And.intro @lm_none (And.intro @vb_bool (And.intro @vb_undef (And.intro @aguard_none (And.intro @abr_true (And.intro @abr_false (And.intro @aguard_bt (And.intro @aguard_bf (@wrap_id)))))))))))))))))))))))))))))))))))))))))))))))) := And.intro @blockK_ne (And.intro @ev_tmp (And.intro @ev_const (And.intro @ev_func (And.intro @updO_at (And.intro @updO_none (And.intro @abin_add (And.intro @abin_sub (And.intro @abin_mul (And.intro @abin_lss (And.intro @abin_leq (And.intro @abin_gtr (And.intro @abin_geq (And.intro @abin_eql (And.intro @abin_neq (And.intro @abin_eqs (And.intro @abin_nes (And.intro @abin_cat (And.intro @aun_not (And.intro @apick_bool (And.intro @aextract_at (And.intro @aload_at (And.intro @acond_true (And.intro @acond_false (And.intro @acond_decide (And.intro @acond_bool (And.intro @aguard_true (And.intro @aguard_tf (And.intro @aguard_ft (And.intro @amin_int (And.intro @amax_int (And.intro @abuild_at (And.intro @someK_some (And.intro @Int.toNat_natCast (And.intro @Nat.mul_one (And.intro @lm_toArray (And.intro @lm_cons (And.intro @lm_nil (And.intro @lm_some (And.intro @lm_none (And.intro @vb_bool (And.intro @vb_undef (And.intro @aguard_none (And.intro @abr_true (And.intro @abr_false (And.intro @aguard_bt (And.intro @aguard_bf (@wrap_id)))))))))))))))))))))))))))))))))))))))))))))))

end Go.Proofs.Ytggklaimbklefaa

/- What a block aside does not hinder; views that some world fits; operations that only make a block. -/
set_option maxHeartbeats 4000000
set_option synthInstance.maxHeartbeats 400000
set_option synthInstance.maxSize 4096
set_option linter.unusedSimpArgs false
set_option linter.unusedVariables false
namespace Go.Proofs.Ytggklaimbklefaa

theorem View.set_comm (A : View) {b c : Nat} (h : b ≠ c) (k k' : Blk) : (A.set b k).set c k' = (A.set c k').set b k := by
  funext x
  unfold View.set
  by_cases h1 : x = b
  · subst h1; simp [h]
  · simp [h1]

/-- The same, with a block aside. -/
def Aside {α : Type} (b : Nat) (k : Blk) (K : α → View → Prop) : α → View → Prop := fun a A' => ∃ A2, A' = A2.set b k ∧ A2 b = none ∧ K a A2

theorem ne_of_known {A : View} {b x : Nat} {k : Blk} (hb : A b = none) (hx : A x = some k) : x ≠ b := fun e => by rw [e, hb] at hx; cases hx

theorem cell_aside {A : View} {b : Nat} {k : Blk} (hb : A b = none) {a : Addr} {v : Value} (h : A.cell a = some v) : (A.set b k).cell a = some v := by
  obtain ⟨hs, ⟨k', hk, hc⟩, h1⟩ := View.cell_some h
  exact View.cell_mk hs (by rw [View.set_ne _ _ (ne_of_known hb hk)]; exact hk) hc h1

theorem loadv_aside {P : Program} {A : View} {b : Nat} {k : Blk} (hb : A b = none) {t : TypeId} {a : Addr} {v : Value} (h : A.loadv P t a = some v) : (A.set b k).loadv P t a = some v := by
  unfold View.loadv at h ⊢
  split at h
  · cases hp : A.part a _ with
    | none => rw [hp] at h; cases h
    | some cs =>
      obtain ⟨hs, k', hk, hl, e, h1⟩ := View.part_some hp
      have := View.part_mk (A := A.set b k) (a := a) hs (by rw [View.set_ne _ _ (ne_of_known hb hk)]; exact hk) hl (by rw [← e]; exact h1)
      rw [hp] at h
      rw [this, ← e]; exact h
  · exact cell_aside hb h
  · cases h

theorem sawp_aside {P : Program} {α : Type} {b : Nat} {kb : Blk} (s : Sem α) : ∀ {K : α → View → Prop} (A : View), A b = none → sawp P s K A → sawp P s (Aside b kb K) (A.set b kb) := by
  induction s with
  | pure a => exact fun A hb h => ⟨A, rfl, hb, h⟩
  | program k ih => exact fun A hb h => ih P A hb h
  | mark m k ih => exact fun A hb h => ih A hb h
  | load m a k ih =>
    intro K A hb h
    simp only [sawp] at h ⊢
    split at h
    · rename_i v hv
      rw [cell_aside hb hv]
      exact ih v A hb h
    · exact h.elim
  | store m a v k ih =>
    intro K A hb h
    simp only [sawp] at h ⊢
    split at h
    · rename_i k' hk
      have hne := ne_of_known hb hk
      rw [View.set_ne _ _ hne, hk]
      refine ⟨h.1, h.2.1, h.2.2.1, h.2.2.2.1, ?_⟩
      rw [View.set_comm _ (Ne.symm hne)]
      exact ih _ (by rw [View.set_ne _ _ (Ne.symm hne)]; exact hb) h.2.2.2.2
    · exact h.elim
  | new o k ih =>
    intro K A hb h
    cases o with
    | cells c e fz =>
      obtain ⟨f1, f2⟩ := fz
      cases f1 with
      | succ => exact h.elim
      | zero =>
        cases f2 with
        | succ => exact h.elim
        | zero =>
          refine ⟨h.1, fun b' hb' => ?_⟩
          have hne : b' ≠ b := fun e => by rw [e, View.set_same] at hb'; cases hb'
          rw [View.set_ne _ _ hne] at hb'
          rw [View.set_comm _ (Ne.symm hne)]
          exact ih b' _ (by rw [View.set_ne _ _ (Ne.symm hne)]; exact hb) (h.2 b' hb')
    | _ => exact h.elim
  | shape r k ih =>
    intro K A hb h
    simp only [sawp] at h ⊢
    split at h
    · rename_i k' hk
      rw [View.set_ne _ _ (ne_of_known hb hk), hk]
      exact fun n hn => ih _ A hb (h n hn)
    · exact h.elim
  | freeze a n k ih =>
    intro K A hb h
    simp only [sawp] at h ⊢
    split at h
    · rename_i k' hk
      have hne := ne_of_known hb hk
      rw [View.set_ne _ _ hne, hk]
      refine ⟨h.1, ?_⟩
      rw [View.set_comm _ (Ne.symm hne)]
      exact ih _ (by rw [View.set_ne _ _ (Ne.symm hne)]; exact hb) h.2
    · exact h.elim
  | choose q k ih => exact fun A hb h => ⟨⟨b, kb, View.set_same ..⟩, fun n hn => ih n A hb (h.2 n hn)⟩
  | _ => exact fun A _ h => h.elim

theorem rel_aside {A A2 : View} {w w' : World} {b : Nat} {k : Blk} (hb : A b = none) (hw : Rel (A.set b k) w) (hrel : Rel A2 w') (hst : Step A w A2 w') :
    A2 b = none ∧ Rel (A2.set b k) w' ∧ Step (A.set b k) w (A2.set b k) w' := by
  have hlt := hw.lt (View.set_same A b k)
  have hn : A2 b = none := by
    cases h2 : A2 b with
    | none => rfl
    | some k2 =>
      rcases hst.olds b k2 h2 with ⟨k0, h0⟩ | h0
      · rw [hb] at h0; cases h0
      · omega
  refine ⟨hn, fun x kx hx => ?_, ⟨hst.os, hst.tape, hst.output, hst.size, fun x hx hn => hst.kept x hx fun kx hkx => hn kx (by rw [View.set_ne _ _ (ne_of_known hb hkx)]; exact hkx), fun x kx hx ho => ?_, fun x kx hx => ?_⟩⟩
  · by_cases hxb : x = b
    · subst hxb
      rw [View.set_same] at hx
      obtain rfl := Option.some.inj hx
      rw [hst.kept x hlt (fun k hk => by rw [hb] at hk; cases hk)]
      exact hw x _ (View.set_same ..)
    · rw [View.set_ne _ _ hxb] at hx
      exact hrel x kx hx
  · by_cases hxb : x = b
    · subst hxb
      rw [View.set_same] at hx
      obtain rfl := Option.some.inj hx
      exact .inl ⟨_, View.set_same .., ho⟩
    · rw [View.set_ne _ _ hxb] at hx
      rcases hst.owns x kx hx ho with ⟨k0, h0, h1⟩ | h0
      · exact .inl ⟨k0, by rw [View.set_ne _ _ hxb]; exact h0, h1⟩
      · exact .inr h0
  · by_cases hxb : x = b
    · subst hxb
      exact .inl ⟨_, View.set_same ..⟩
    · rw [View.set_ne _ _ hxb] at hx
      rcases hst.olds x kx hx with ⟨k0, h0⟩ | h0
      · exact .inl ⟨k0, by rw [View.set_ne _ _ hxb]; exact h0⟩
      · exact .inr h0

theorem rel_less {A : View} {w : World} {b : Nat} {k : Blk} (hb : A b = none) (hw : Rel (A.set b k) w) : Rel A w := hw.forget fun x kx hx => by rw [View.set_ne _ _ (ne_of_known hb hx)]; exact hx

theorem comes_aside {P : Program} {α : Type} {s : Sem α} {K : α → View → Prop} {A : View} {b : Nat} {k : Blk} (hb : A b = none) (h : Comes1 P s K A) : Comes1 P s (Aside b k K) (A.set b k) := by
  intro w hw
  obtain ⟨a, w', A2, hr, hK, hrel, hst⟩ := h w (rel_less hb hw)
  obtain ⟨h1, h2, h3⟩ := rel_aside hb hw hrel hst
  exact ⟨a, w', _, hr, ⟨A2, rfl, h1, hK⟩, h2, h3⟩

theorem acalls_aside {P : Program} {f : FuncId} {args : Array Value} {K : Value → View → Prop} {A : View} {b : Nat} {k : Blk} (hb : A b = none) (h : ACalls P f args A K) : ACalls P f args (A.set b k) (Aside b k K) := by
  intro w hw
  refine (h w (rel_less hb hw)).mono ?_
  rintro e w' ⟨v, A2, he, hK, hrel, hst⟩
  obtain ⟨h1, h2, h3⟩ := rel_aside hb hw hrel hst
  exact ⟨v, _, he, ⟨A2, rfl, h1, hK⟩, h2, h3⟩

theorem nextK_aside {P : Program} {K : Value → View → Prop} {b : Nat} {k : Blk} {nx : Next} {A' : View} (h : Aside b k (nextK P K) nx A') : nextK P (Aside b k K) nx A' := by
  obtain ⟨A2, rfl, h1, h2⟩ := h
  cases nx with
  | value v => exact ⟨A2, rfl, h1, h2⟩
  | skip => exact ⟨A2, rfl, h1, h2⟩
  | enter f args => exact acalls_aside h1 h2
  | _ => exact h2.elim

theorem aop_aside {P : Program} {o : Oper} {ρ : Operand → Value} {K : Value → View → Prop} {A : View} {b : Nat} {k : Blk} (hb : A b = none) (h : aop P o ρ A K) : aop P o ρ (A.set b k) (Aside b k K) := by
  unfold aop at h ⊢
  split at h
  · exact comes_aside hb h
  · exact comes_aside hb h
  · exact comes_aside hb h
  · split at h
    · rename_i a ha
      split at h
      · rename_i v hv
        rw [loadv_aside hb hv]
        exact ⟨A, rfl, hb, h⟩
      · exact h.elim
    · exact h.elim
  · split at h
    · rename_i a ha
      split at h
      · rename_i A' hA'
        unfold View.storev at hA' ⊢
        split at hA'
        · rename_i k' hk
          have hne := ne_of_known hb hk
          rw [View.set_ne _ _ hne, hk]
          split at hA'
          · rename_i hc
            obtain rfl := Option.some.inj hA'
            simp only
            rw [if_pos hc]
            exact ⟨_, View.set_comm _ (Ne.symm hne) _ _, by rw [View.set_ne _ _ (Ne.symm hne)]; exact hb, h⟩
          · cases hA'
        · cases hA'
      · exact h.elim
    · exact h.elim
  · exact comes_aside hb h
  · split at h
    · exact ⟨A, rfl, hb, h⟩
    · exact h.elim
  · exact sawp_mono (fun nx A' h => nextK_aside h) _ _ (sawp_aside _ A hb h)

/-! ### some world fits -/
def Inh (A : View) : Prop := ∃ w, Rel A w

theorem sawp_inh {P : Program} {α : Type} (s : Sem α) : ∀ {K : α → View → Prop} (A : View), Inh A → sawp P s K A → sawp P s (fun a A' => K a A' ∧ Inh A') A := by
  induction s with
  | pure a => exact fun A hi h => ⟨h, hi⟩
  | program k ih => exact fun A hi h => ih P A hi h
  | mark m k ih => exact fun A hi h => ih A hi h
  | load m a k ih =>
    intro K A hi h
    simp only [sawp] at h ⊢
    split at h
    · exact ih _ A hi h
    · exact h.elim
  | store m a v k ih =>
    intro K A hi h
    simp only [sawp] at h ⊢
    cases hk : A a.block with
    | none => rw [hk] at h; exact h.elim
    | some k' =>
      rw [hk] at h
      refine ⟨h.1, h.2.1, h.2.2.1, h.2.2.2.1, ih _ ?_ h.2.2.2.2⟩
      obtain ⟨w, hw⟩ := hi
      have h1 : sawp P (Sem.store m a v (.pure ())) (fun _ A' => A' = A.set a.block ⟨k'.ty, k'.cells.set a.off v, k'.room, true⟩) A := by
        simp only [sawp, hk]
        exact ⟨h.1, h.2.1, h.2.2.1, h.2.2.2.1, trivial⟩
      obtain ⟨_, w', A', _, rfl, hrel, _⟩ := sawp_sound _ _ A h1 w hw
      exact ⟨w', hrel⟩
  | new o k ih =>
    intro K A hi h
    cases o with
    | cells c e fz =>
      obtain ⟨f1, f2⟩ := fz
      cases f1 with
      | succ => exact h.elim
      | zero =>
        cases f2 with
        | succ => exact h.elim
        | zero =>
          refine ⟨h.1, fun b hb => ih b _ ?_ (h.2 b hb)⟩
          obtain ⟨w, hw⟩ := hi
          exact hw.any hb (by simp) (fun _ => h.1)
    | _ => exact h.elim
  | shape r k ih =>
    intro K A hi h
    simp only [sawp] at h ⊢
    split at h
    · exact fun n hn => ih _ A hi (h n hn)
    · exact h.elim
  | freeze a n k ih =>
    intro K A hi h
    simp only [sawp] at h ⊢
    cases hk : A a.block with
    | none => rw [hk] at h; exact h.elim
    | some k' =>
      rw [hk] at h
      obtain ⟨w, hw⟩ := hi
      exact ⟨h.1, ih _ ⟨_, (hw.freeze hk h.1 n).1⟩ h.2⟩
  | choose q k ih => exact fun A hi h => ⟨h.1, fun n hn => ih n A hi (h.2 n hn)⟩
  | _ => exact fun A _ h => h.elim

theorem comes_inh {P : Program} {α : Type} {s : Sem α} {K : α → View → Prop} {A : View} (h : Comes1 P s K A) : Comes1 P s (fun a A' => K a A' ∧ Inh A') A := fun w hw =>
  let ⟨a, w', A', h1, h2, h3, h4⟩ := h w hw
  ⟨a, w', A', h1, ⟨h2, w', h3⟩, h3, h4⟩

theorem aop_inh {P : Program} {o : Oper} {ρ : Operand → Value} {K : Value → View → Prop} {A : View} (hi : Inh A) (h : aop P o ρ A K) : aop P o ρ A (fun v A' => K v A' ∧ Inh A') := by
  unfold aop at h ⊢
  split at h
  · exact comes_inh h
  · exact comes_inh h
  · exact comes_inh h
  · split at h
    · rename_i a ha
      split at h
      · exact ⟨h, hi⟩
      · exact h.elim
    · exact h.elim
  · split at h
    · rename_i a ha
      split at h
      · rename_i A' hA'
        obtain ⟨w, hw⟩ := hi
        obtain ⟨w', _, hrel, _⟩ := run_storev hA' hw
        exact ⟨h, w', hrel⟩
      · exact h.elim
    · exact h.elim
  · exact comes_inh h
  · split at h
    · exact ⟨h, hi⟩
    · exact h.elim
  · refine sawp_mono (fun nx A' h => ?_) _ _ (sawp_inh _ A hi h)
    obtain ⟨h, hi'⟩ := h
    cases nx with
    | value v => exact ⟨h, hi'⟩
    | skip => exact ⟨h, hi'⟩
    | enter f args => exact fun w hw => (h w hw).mono fun e w' ⟨v, A', he, hK, hrel, hst⟩ => ⟨v, A', he, ⟨hK, w', hrel⟩, hrel, hst⟩
    | _ => exact h.elim

theorem aop_some {P : Program} {o : Oper} {ρ : Operand → Value} {K : Value → View → Prop} {A : View} (hi : Inh A) (h : aop P o ρ A K) : ∃ v A', K v A' := by
  obtain ⟨w, hw⟩ := hi
  obtain ⟨nx, w', A', _, hK, hrel, _⟩ := aop_comes h w hw
  cases nx with
  | value v => exact ⟨v, A', hK⟩
  | skip => exact ⟨_, A', hK⟩
  | enter f args =>
    obtain ⟨e, w2, _, ⟨v, A2, _, hK2, _⟩, _⟩ := hK w' hrel []
    exact ⟨v, A2, hK2⟩
  | _ => exact hK.elim

/-! ### operations that only make a block -/
def allocOp (o : Oper) : Bool := match o.op with
  | .alloc _ => true
  | .buildSlice .. => true
  | _ => false

/-- It never comes, or it makes a block and gives what is told of it. -/
def Makes (P : Program) (s : Sem Value) : Prop := (∀ (A : View) (K : Value → View → Prop), ¬ sawp P s K A) ∨
  ∃ (k : Blk) (f : Nat → Value), ∀ (A : View) (K : Value → View → Prop), sawp P s K A ↔ ∀ b, A b = none → K (f b) (A.set b k)

theorem makes_row {P : Program} (e : TypeId) (cells : Array Value) (g : Nat → Value) : Makes P (do let b ← Sem.new (.cells cells e (0, 0)) .pure; pure (g b)) := by
  by_cases h1 : ∀ v ∈ cells.toList, v.oneCell' = true
  · refine .inr ⟨⟨e, cells.toList, cells.size, true⟩, g, fun A K => ?_⟩
    show sawp P (Sem.bind (Sem.new _ _) _) K A ↔ _
    simp only [Sem.bind, sawp, pure]
    exact ⟨fun h => h.2, fun h => ⟨h1, h⟩⟩
  · refine .inl fun A K h => h1 ?_
    have h : sawp P (Sem.bind (Sem.new _ _) _) K A := h
    simp only [Sem.bind, sawp] at h
    exact h.1

theorem Makes.congr {P : Program} {s s' : Sem Value} (h : ∀ (A : View) (K : Value → View → Prop), sawp P s K A = sawp P s' K A) (hm : Makes P s') : Makes P s := by
  rcases hm with hm | ⟨k, f, hm⟩
  · exact .inl fun A K => by rw [h]; exact hm A K
  · exact .inr ⟨k, f, fun A K => by rw [h]; exact hm A K⟩

theorem makes_alloc {P : Program} (t : TypeId) : Makes P (Instr.alloc t true (.tuple #[])) := by
  cases hi : P.info? t with
  | none =>
    refine .inl fun A K h => ?_
    unfold Instr.alloc at h
    have h : sawp P (Sem.bind (Sem.bind (typeInfo t) _) _) K A := h
    rw [sawp_bind, sawp_bind] at h
    unfold typeInfo at h
    have h : sawp P (Sem.bind (.program .pure) _) _ A := h
    simp only [Sem.bind, sawp, hi] at h
    exact h.elim
  | some i =>
    cases hz : i.zero with
    | none =>
      refine .inl fun A K h => ?_
      unfold Instr.alloc at h
      have h : sawp P (Sem.bind (Sem.bind (typeInfo t) _) _) K A := h
      rw [sawp_bind, show Sem.bind (typeInfo t) _ = (typeInfo t >>= _) from rfl, sawp_typeInfo hi] at h
      simp only [hz] at h
      exact h.elim
    | some z =>
      refine Makes.congr (s' := do let b ← Sem.new (.cells z.cells t (0, 0)) .pure; pure (.pointer (some ⟨b, 0, none⟩))) (fun A K => ?_) (makes_row t z.cells fun b => .pointer (some ⟨b, 0, none⟩))
      unfold Instr.alloc
      show sawp P (Sem.bind (Sem.bind (typeInfo t) _) _) K A = _
      rw [sawp_bind, show Sem.bind (typeInfo t) _ = (typeInfo t >>= _) from rfl, sawp_typeInfo hi]
      simp only [hz]
      rfl

theorem makes_lit {P : Program} (t : TypeId) (n : Nat) (ps : Array (Nat × Value)) : Makes P (Instr.buildSlice t n ps) := by
  cases hu : P.underlying t with
  | none =>
    refine .inl fun A K h => ?_
    unfold Instr.buildSlice at h
    have h : sawp P (Sem.bind (underlying t) _) K A := h
    rw [sawp_bind] at h
    unfold underlying at h
    have h : sawp P (Sem.bind (.program .pure) _) _ A := h
    simp only [Sem.bind, sawp, hu] at h
    exact h.elim
  | some d =>
    have e1 : ∀ (A : View) (K : Value → View → Prop), sawp P (Instr.buildSlice t n ps) K A = _ := fun A K => by unfold Instr.buildSlice; exact sawp_underlying hu _ K
    cases d with
    | slice e =>
      cases hi : P.info? e with
      | none =>
        refine .inl fun A K h => ?_
        rw [e1] at h
        have h : sawp P (Sem.bind (Sem.bind (typeInfo e) _) _) K A := h
        rw [sawp_bind, sawp_bind] at h
        unfold typeInfo at h
        have h : sawp P (Sem.bind (.program .pure) _) _ A := h
        simp only [Sem.bind, sawp, hi] at h
        exact h.elim
      | some i =>
        by_cases hn : n * i.size > 2 ^ 24
        · refine .inl fun A K h => ?_
          rw [e1] at h
          simp only at h
          rw [sawp_sizeOf (n := i.size) (by simp [hi]), if_pos hn] at h
          exact h.elim
        · have fin : ∀ c : Array Value, Makes P (do
              let some cells := Instr.fill (fun j => some (j * i.size, i.size)) c ps.toList | stuck "buildSlice: a part of the wrong size"
              pure (.slice (some (← newRow e cells)) n n)) := by
            intro c
            cases hf : Instr.fill (fun j => some (j * i.size, i.size)) c ps.toList with
            | none => exact .inl fun A K h => h.elim
            | some cells => exact Makes.congr (s' := do let b ← Sem.new (.cells cells e (0, 0)) .pure; pure (.slice (some ⟨b, 0, none⟩) n n)) (fun A K => rfl) (makes_row e cells fun b => .slice (some ⟨b, 0, none⟩) n n)
          by_cases h0 : n * i.size = 0
          · refine Makes.congr (fun A K => ?_) (fin ((Array.range (n * i.size)).map ((#[] : Array Value)[· % (#[] : Array Value).size]!)))
            rw [e1]
            simp only
            rw [sawp_sizeOf (n := i.size) (by simp [hi]), if_neg hn]
            simp only [h0, if_true]
            rfl
          · cases hz : i.zero with
            | none =>
              refine .inl fun A K h => ?_
              rw [e1] at h
              simp only at h
              rw [sawp_sizeOf (n := i.size) (by simp [hi]), if_neg hn] at h
              simp only [h0, if_false] at h
              have h : sawp P (Sem.bind (Sem.bind (typeInfo e) _) _) K A := h
              rw [sawp_bind, show Sem.bind (typeInfo e) _ = (typeInfo e >>= _) from rfl, sawp_typeInfo hi] at h
              simp only [hz] at h
              exact h.elim
            | some z =>
              refine Makes.congr (fun A K => ?_) (fin ((Array.range (n * i.size)).map (z.cells[· % z.cells.size]!)))
              rw [e1]
              simp only
              rw [sawp_sizeOf (n := i.size) (by simp [hi]), if_neg hn]
              simp only [h0, if_false]
              show sawp P (Sem.bind (Sem.bind (typeInfo e) _) _) K A = _
              rw [sawp_bind, show Sem.bind (typeInfo e) _ = (typeInfo e >>= _) from rfl, sawp_typeInfo hi]
              simp only [hz]
              rfl
    | _ =>
      refine .inl fun A K h => ?_
      rw [e1] at h
      exact h.elim

theorem aop_makes {P : Program} {o : Oper} (ho : allocOp o = true) (ρ : Operand → Value) : (∀ (A : View) (K : Value → View → Prop), ¬ aop P o ρ A K) ∨
    ∃ (k : Blk) (f : Nat → Value), ∀ (A : View) (K : Value → View → Prop), aop P o ρ A K ↔ ∀ b, A b = none → K (f b) (A.set b k) := by
  obtain ⟨dst, op, ty, ps, af, g⟩ := o
  cases op <;> simp only [allocOp] at ho <;> try (simp at ho; done)
  case alloc t =>
    rcases makes_alloc (P := P) t with hm | ⟨k, f, hm⟩
    · exact .inl fun A K => by rw [aop_alloc]; exact hm A K
    · exact .inr ⟨k, f, fun A K => by rw [aop_alloc]; exact hm A K⟩
  case buildSlice t n qs =>
    rcases makes_lit (P := P) t n (qs.map fun (i, x) => (i, ρ x)) with hm | ⟨k, f, hm⟩
    · exact .inl fun A K => by rw [aop_lit]; exact hm A K
    · exact .inr ⟨k, f, fun A K => by rw [aop_lit]; exact hm A K⟩

end Go.Proofs.Ytggklaimbklefaa

/- Regions whose order is drawn: reads and computations first, then what acts, one after the other; whatever order is drawn, it comes to the same. -/
set_option maxHeartbeats 4000000
set_option synthInstance.maxHeartbeats 400000
set_option synthInstance.maxSize 4096
set_option linter.unusedSimpArgs false
set_option linter.unusedVariables false
namespace Go.Proofs.Ytggklaimbklefaa

def needs (o : Oper) : List Nat := (o.after.toList.filter (Region.binds .any)).map (·.on)
def reach (ops : Array Oper) : Nat → Nat → Nat → Bool
  | 0, _, _ => false
  | f + 1, i, j => match ops[j]? with
    | some o => (needs o).any fun k => k == i || reach ops f i k
    | none => false
def quietOp (o : Oper) : Bool := match o.op with
  | .convert .. | .move _ | .assign _ | .pick .. | .load .. | .build .. | .binOp .. | .unOp .. | .fieldAddr .. | .field .. | .indexAddr .. | .index .. | .extract .. | .slice .. | .makeFunc .. | .nilCheck _ => true
  | .call { callee := .builtin .len, .. } => true
  | .call { callee := .builtin .min, .. } => true
  | .call { callee := .builtin .max, .. } => true
  | .call { callee := .builtin .cap, .. } => true
  | .call { callee := .builtin .unsafeSliceData, .. } => true
  | _ => false
def pairOk (ops : Array Oper) (i j : Nat) : Bool := reach ops ops.size i j || (match ops[i]?, ops[j]? with
  | some a, some b => (quietOp a || allocOp b) && a.apart ops b
  | _, _ => false)
def linOk (ops : Array Oper) : List Nat → List Nat → Bool
  | _, [] => true
  | done, i :: L => (match ops[i]? with | some o => (needs o).all (done.contains ·) | none => false) && !L.contains i && L.all (pairOk ops i) && linOk ops (i :: done) L
def planOk (ops : Array Oper) (L : List Nat) : Bool := (List.range ops.size).all (L.contains ·) && L.all (· < ops.size) && linOk ops [] L && Region.noSelect ops

/-- It gives this value, and all that is known stays as it is. -/
def Gives (P : Program) (o : Oper) (ρ : Operand → Value) (A : View) (v : Value) : Prop := aop P o ρ A fun u A' => u = v ∧ A' = A

/-- What has been given, and may be asked for later. -/
structure Got where
  idx : Nat
  fact : View → Prop
  up : ∀ (A : View) (b : Nat) (k : Blk), A b = none → fact A → fact (A.set b k)

theorem gives_up {P : Program} {o : Oper} {ρ : Operand → Value} {v : Value} (A : View) (b : Nat) (k : Blk) (hb : A b = none) (h : Gives P o ρ A v) : Gives P o ρ (A.set b k) v :=
  aop_mono (fun u A' ⟨A2, h1, _, h3, h4⟩ => ⟨h3, by rw [h1, h4]⟩) (aop_aside hb h)
def gotOf (P : Program) (o : Oper) (ρ : Operand → Value) (i : Nat) (v : Value) : Got := ⟨i, fun A => Gives P o ρ A v, fun A b k => gives_up A b k⟩
theorem allocOp_quiet {o : Oper} (h : allocOp o = true) : quietOp o = false := by
  obtain ⟨dst, op, ty, ps, af, g⟩ := o
  cases op <;> simp only [allocOp] at h <;> first | rfl | (simp at h; done)

def keeps (ops : Array Oper) (j : Nat) (A : View) (W : List Got) : Prop := ∀ g ∈ W, reach ops ops.size g.idx j = false → g.fact A

def aseq (P : Program) (ops : Array Oper) (K : Fr → View → Prop) : List Nat → List Got → Fr → View → Prop
  | [], _, fr, A => K fr A
  | i :: L, W, fr, A => match ops[i]? with
    | none => False
    | some o => awant o.guard ops fr
        (if quietOp o then ∃ v, Gives P o (ev fr) A v ∧ aseq P ops K L (gotOf P o (ev fr) i v :: W) (updO fr o.dst v) A
         else aop P o (ev fr) A fun v A' => (allocOp o = false → keeps ops i A' W) ∧ aseq P ops K L W (updO fr o.dst v) A')
        (aseq P ops K L W (updO fr o.dst undef) A)

theorem ev_updO {fr : Fr} {d : Option Tmp} {v : Value} {x : Operand} (h : ∀ t, d = some t → x ≠ .tmp t) : ev (updO fr d v) x = ev fr x := by
  cases d with
  | none => rfl
  | some t =>
    cases x with
    | tmp s =>
      have : s ≠ t := fun e => h t rfl (by rw [e])
      simp [ev, updO, upd, this]
    | _ => rfl

theorem mem_looks {o : Oper} {ops : Array Oper} {t : Tmp} (h : Operand.tmp t ∈ o.op.operands) : t ∈ o.looksAt ops :=
  List.mem_append_left _ (List.mem_filterMap.2 ⟨.tmp t, by simpa using h, rfl⟩)

theorem execOp_updO {o : Oper} {ops : Array Oper} (hs : ∀ cs b, o.op ≠ .select cs b) {fr : Fr} {d : Option Tmp} {v : Value} (h : ∀ t, d = some t → t ∉ o.looksAt ops) : execOp (ev (updO fr d v)) o = execOp (ev fr) o :=
  execOp_congr o hs fun x hx => ev_updO fun t ht he => h t ht (mem_looks (by rw [← he]; exact hx))

theorem aop_updO {P : Program} {o : Oper} {ops : Array Oper} (hs : ∀ cs b, o.op ≠ .select cs b) {fr : Fr} {d : Option Tmp} {v : Value} (h : ∀ t, d = some t → t ∉ o.looksAt ops) (A : View) (K : Value → View → Prop) :
    aop P o (ev (updO fr d v)) A K = aop P o (ev fr) A K := by
  have he := execOp_updO hs (v := v) (fr := fr) h
  have hx : ∀ x ∈ o.op.operands, ev (updO fr d v) x = ev fr x := fun x hx => ev_updO fun t ht he => h t ht (mem_looks (by rw [← he]; exact hx))
  unfold aop
  rw [he]
  cases hop : o.op <;> simp only [hop, Op.operands] at hx <;> try rfl
  case load t x => simp only; rw [hx x (by simp)]
  case store t x y => simp only; rw [hx x (by simp), hx y (by simp)]
  case makeSlice t l c => simp only; rw [hx l (by simp), hx c (by simp)]
  case build t ps =>
    simp only
    have : (ps.map fun (x : Nat × Operand) => (x.1, ev (updO fr d v) x.2)) = (ps.map fun (x : Nat × Operand) => (x.1, ev fr x.2)) := by
      refine Array.map_congr_left fun p hp => ?_
      rw [hx p.2 (by simp; exact ⟨p.1, hp⟩)]
    rw [this]
  case call c =>
    obtain ⟨callee, args, ats⟩ := c
    have ha : args.map (ev (updO fr d v)) = args.map (ev fr) := Array.map_congr_left fun x hxa => hx x (by simp [Call.operands, hxa])
    cases callee with
    | builtin b => cases b <;> simp only [ha, mark_eq]
    | _ => rfl

theorem ayield_updO {o : Oper} {ops : Array Oper} {fr : Fr} {d : Option Tmp} {v : Value} (h : ∀ t, d = some t → t ∉ o.looksAt ops) {j : Nat} {w : Bool} (hg : o.guard = some (j, w)) : ayield ops (updO fr d v) j = ayield ops fr j := by
  cases d with
  | none => rfl
  | some t =>
    unfold ayield yv
    cases hd : (ops[j]?).bind (·.dst) with
    | none => rfl
    | some s =>
      have : s ≠ t := fun e => h t rfl (by subst e; simp [Oper.looksAt, hg, hd])
      simp [updO, upd, this]

theorem awant_updO {o : Oper} {ops : Array Oper} {fr : Fr} {d : Option Tmp} {v : Value} (h : ∀ t, d = some t → t ∉ o.looksAt ops) (p q : Prop) : awant o.guard ops (updO fr d v) p q = awant o.guard ops fr p q := by
  unfold awant
  cases hg : o.guard with
  | none => rfl
  | some jw => obtain ⟨j, w⟩ := jw; simp only [ayield_updO h hg]

theorem awant_imp {g : Option (Nat × Bool)} {ops : Array Oper} {fr : Fr} {p q p' q' : Prop} (h : awant g ops fr p q) (hp : p → p') (hq : q → q') : awant g ops fr p' q' := by
  unfold awant at *
  split at h
  · exact hp h
  · exact ⟨fun e => hp (h.1 e), fun e => hq (h.2 e)⟩

/-- Both, where both are asked under one guard. -/
theorem awant_cases {g : Option (Nat × Bool)} (ops : Array Oper) (fr : Fr) : (∀ p q, awant g ops fr p q ↔ p) ∨ (∀ p q, awant g ops fr p q ↔ q) := by
  unfold awant
  cases g with
  | none => exact .inl fun p q => Iff.rfl
  | some jw =>
    obtain ⟨j, w⟩ := jw
    by_cases h : ayield ops fr j = some w
    · exact .inl fun p q => ⟨fun x => x.1 h, fun x => ⟨fun _ => x, fun y => absurd h y⟩⟩
    · exact .inr fun p q => ⟨fun x => x.2 h, fun x => ⟨fun y => absurd y h, fun _ => x⟩⟩

theorem updO_comm {fr : Fr} {d e : Option Tmp} {u v : Value} (h : ∀ t, d = some t → e ≠ some t) : updO (updO fr d u) e v = updO (updO fr e v) d u := by
  cases d with
  | none => rfl
  | some s =>
    cases e with
    | none => rfl
    | some t =>
      have hne : t ≠ s := fun x => h s rfl (by rw [x])
      funext y
      simp only [updO, upd]
      by_cases h1 : y = t
      · subst h1; simp [hne]
      · simp [h1]

theorem keeps_cons {ops : Array Oper} {j : Nat} {A : View} {g : Got} {W : List Got} : keeps ops j A (g :: W) ↔ (reach ops ops.size g.idx j = false → g.fact A) ∧ keeps ops j A W := by
  unfold keeps
  simp

def Less (W' W : List Got) : Prop := ∀ g ∈ W', ∃ g' ∈ W, g'.idx = g.idx ∧ ∀ A, g'.fact A → g.fact A
theorem Less.cons {W' W : List Got} (h : Less W' W) {g1 g2 : Got} (hi : g2.idx = g1.idx) (hp : ∀ A, g2.fact A → g1.fact A) : Less (g1 :: W') (g2 :: W) := fun g hg => by
  rcases List.mem_cons.1 hg with rfl | hg
  · exact ⟨_, List.mem_cons_self, hi, hp⟩
  · obtain ⟨g', hg', h1, h2⟩ := h g hg
    exact ⟨g', List.mem_cons_of_mem _ hg', h1, h2⟩
theorem Less.refl (W : List Got) : Less W W := fun g hg => ⟨g, hg, rfl, fun _ h => h⟩
theorem Less.keeps {W' W : List Got} (h : Less W' W) {ops : Array Oper} {j : Nat} {A : View} (hk : keeps ops j A W) : keeps ops j A W' := fun g hg hr => by
  obtain ⟨g', hg', h1, h2⟩ := h g hg
  exact h2 A (hk g' hg' (by rw [h1]; exact hr))

theorem aseq_less {P : Program} {ops : Array Oper} {K : Fr → View → Prop} : ∀ (L : List Nat) (W W' : List Got) (fr : Fr) (A : View), Less W' W → aseq P ops K L W fr A → aseq P ops K L W' fr A
  | [], _, _, _, _, _, h => h
  | i :: L, W, W', fr, A, hW, h => by
    simp only [aseq] at h ⊢
    cases ho : ops[i]? with
    | none => simp [ho] at h
    | some o =>
      simp only [ho] at h ⊢
      refine awant_imp h (fun h => ?_) (aseq_less L W W' _ _ hW)
      split at h
      · rename_i hq
        obtain ⟨v, hv, h⟩ := h
        rw [if_pos hq]
        exact ⟨v, hv, aseq_less L _ _ _ _ (hW.cons rfl fun _ h => h) h⟩
      · rename_i hq
        rw [if_neg hq]
        exact aop_mono (fun v A' ⟨hk, h⟩ => ⟨fun e => hW.keeps (hk e), aseq_less L _ _ _ _ hW h⟩) h

/-- A read, and what does not wait for it, change places. -/
theorem aseq_swap {P : Program} {ops : Array Oper} {K : Fr → View → Prop} {i j : Nat} {L : List Nat} {W : List Got} {fr : Fr} {A : View} {oi oj : Oper} (hi : ops[i]? = some oi) (hj : ops[j]? = some oj)
    (hq : quietOp oi = true) (hap : oi.apart ops oj = true) (hr : reach ops ops.size i j = false) (hsi : ∀ cs b, oi.op ≠ .select cs b) (hsj : ∀ cs b, oj.op ≠ .select cs b) (h : aseq P ops K (i :: j :: L) W fr A) : aseq P ops K (j :: i :: L) W fr A := by
  obtain ⟨h1, h2, h3⟩ := Oper.apart_spec hap
  have eqj : ∀ v A (J : Value → View → Prop), aop P oj (ev (updO fr oi.dst v)) A J = aop P oj (ev fr) A J := fun v A J => aop_updO hsj h1 A J
  have eqi : ∀ v A (J : Value → View → Prop), aop P oi (ev (updO fr oj.dst v)) A J = aop P oi (ev fr) A J := fun v A J => aop_updO hsi h3 A J
  have gi : ∀ u A v, Gives P oi (ev fr) A v → Gives P oi (ev (updO fr oj.dst u)) A v := fun u A v h => by unfold Gives at *; rw [eqi]; exact h
  have comm : ∀ u v, updO (updO fr oi.dst u) oj.dst v = updO (updO fr oj.dst v) oi.dst u := fun u v => updO_comm h2
  simp only [aseq, hi, hj, hq, if_true] at h ⊢
  have wantj : ∀ v p q, awant oj.guard ops (updO fr oi.dst v) p q = awant oj.guard ops fr p q := fun v p q => awant_updO h1 p q
  have wanti : ∀ v p q, awant oi.guard ops (updO fr oj.dst v) p q = awant oi.guard ops fr p q := fun v p q => awant_updO h3 p q
  simp only [wantj] at h
  simp only [wanti]
  have two : ∀ (gi gj gi' gj' : Got), gi.idx = gi'.idx → gj.idx = gj'.idx → (∀ A, gi.fact A → gi'.fact A) → (∀ A, gj.fact A → gj'.fact A) → Less (gi' :: gj' :: W) (gj :: gi :: W) := by
    intro gi gj gi' gj' e1 e2 hi hj g hg
    rcases List.mem_cons.1 hg with rfl | hg
    · exact ⟨gi, by simp, e1, hi⟩
    · rcases List.mem_cons.1 hg with rfl | hg
      · exact ⟨gj, by simp, e2, hj⟩
      · exact ⟨g, by simp [hg], rfl, fun _ h => h⟩
  have gj : ∀ u A v, Gives P oj (ev (updO fr oi.dst u)) A v → Gives P oj (ev fr) A v := fun u A v h => by unfold Gives at *; rw [eqj] at h; exact h
  rcases awant_cases (g := oi.guard) ops fr with wi | wi <;> rcases awant_cases (g := oj.guard) ops fr with wj | wj <;> simp only [wi, wj] at h ⊢
  · obtain ⟨v, hv, h⟩ := h
    split at h
    · obtain ⟨u, hu, h⟩ := h
      rename_i hqj
      rw [if_pos hqj]
      rw [comm] at h
      exact ⟨u, gj _ _ _ hu, v, gi u A v hv, aseq_less L _ _ _ _ (two (gotOf P oi (ev fr) i v) (gotOf P oj (ev (updO fr oi.dst v)) j u) (gotOf P oi (ev (updO fr oj.dst u)) i v) (gotOf P oj (ev fr) j u) rfl rfl (fun A h => gi u A v h) (fun A h => gj v A u h)) h⟩
    · rename_i hqj
      rw [if_neg hqj]
      rw [eqj] at h
      cases haj : allocOp oj with
      | false =>
        refine aop_mono (fun u A' ⟨hk, h⟩ => ?_) h
        have hk := hk haj
        rw [keeps_cons] at hk
        rw [comm] at h
        exact ⟨fun _ => hk.2, v, gi u A' v (hk.1 hr), aseq_less L _ _ _ _ ((Less.refl W).cons (g1 := gotOf P oi (ev (updO fr oj.dst u)) i v) (g2 := gotOf P oi (ev fr) i v) rfl fun A h => gi u A v h) h⟩
      | true =>
        rcases aop_makes (P := P) haj (ev fr) with hm | ⟨k, f, hm⟩
        · exact (hm _ _ h).elim
        · rw [hm] at h ⊢
          refine fun b hb => ⟨fun e => by simp at e, v, gi _ _ v (gives_up A b k hb hv), aseq_less L _ _ _ _ ((Less.refl W).cons (g1 := gotOf P oi (ev (updO fr oj.dst (f b))) i v) (g2 := gotOf P oi (ev fr) i v) rfl fun A h => gi _ A v h) ?_⟩
          have := (h b hb).2
          rw [comm] at this
          exact this
  · obtain ⟨v, hv, h⟩ := h
    rw [comm] at h
    exact ⟨v, gi undef A v hv, aseq_less L _ _ _ _ ((Less.refl W).cons (g1 := gotOf P oi (ev (updO fr oj.dst undef)) i v) (g2 := gotOf P oi (ev fr) i v) rfl fun A h => gi undef A v h) h⟩
  · split at h
    · obtain ⟨u, hu, h⟩ := h
      rename_i hqj
      rw [if_pos hqj]
      rw [comm] at h
      exact ⟨u, gj _ _ _ hu, aseq_less L _ _ _ _ ((Less.refl W).cons (g1 := gotOf P oj (ev fr) j u) (g2 := gotOf P oj (ev (updO fr oi.dst undef)) j u) rfl fun A h => gj undef A u h) h⟩
    · rename_i hqj
      rw [if_neg hqj]
      rw [eqj] at h
      refine aop_mono (fun u A' ⟨hk, h⟩ => ?_) h
      rw [comm] at h
      exact ⟨hk, h⟩
  · rw [comm] at h
    exact h

/-- What acts, and a block that is made behind it, change places. -/
theorem aseq_swapA {P : Program} {ops : Array Oper} {K : Fr → View → Prop} {i j : Nat} {L : List Nat} {W : List Got} {fr : Fr} {A : View} {oi oj : Oper} (hi : ops[i]? = some oi) (hj : ops[j]? = some oj)
    (hq : quietOp oi = false) (haj : allocOp oj = true) (hap : oi.apart ops oj = true) (hsi : ∀ cs b, oi.op ≠ .select cs b) (hsj : ∀ cs b, oj.op ≠ .select cs b) (hin : Inh A) (h : aseq P ops K (i :: j :: L) W fr A) : aseq P ops K (j :: i :: L) W fr A := by
  obtain ⟨h1, h2, h3⟩ := Oper.apart_spec hap
  have eqj : ∀ v A (J : Value → View → Prop), aop P oj (ev (updO fr oi.dst v)) A J = aop P oj (ev fr) A J := fun v A J => aop_updO hsj h1 A J
  have eqi : ∀ v A (J : Value → View → Prop), aop P oi (ev (updO fr oj.dst v)) A J = aop P oi (ev fr) A J := fun v A J => aop_updO hsi h3 A J
  have comm : ∀ u v, updO (updO fr oi.dst u) oj.dst v = updO (updO fr oj.dst v) oi.dst u := fun u v => updO_comm h2
  have hqj := allocOp_quiet haj
  simp only [aseq, hi, hj, hq, hqj, Bool.false_eq_true, if_false, haj, Bool.true_eq_false, false_implies, true_and] at h ⊢
  have wantj : ∀ v p q, awant oj.guard ops (updO fr oi.dst v) p q = awant oj.guard ops fr p q := fun v p q => awant_updO h1 p q
  have wanti : ∀ v p q, awant oi.guard ops (updO fr oj.dst v) p q = awant oi.guard ops fr p q := fun v p q => awant_updO h3 p q
  simp only [wantj, eqj] at h
  simp only [wanti, eqi]
  have up : ∀ {b : Nat} {k : Blk} {A2 : View}, A2 b = none → ∀ {e : Prop}, (e → keeps ops i A2 W) → e → keeps ops i (A2.set b k) W := fun hb _ hk he g hg hre => g.up _ _ _ hb (hk he g hg hre)
  rcases awant_cases (g := oi.guard) ops fr with wi | wi <;> rcases awant_cases (g := oj.guard) ops fr with wj | wj <;> simp only [wi, wj] at h ⊢
  · rcases aop_makes (P := P) haj (ev fr) with hm | ⟨k, f, hm⟩
    · obtain ⟨v, A', _, h⟩ := aop_some hin h
      exact (hm _ _ h).elim
    · rw [hm]
      intro b hb
      refine aop_mono (fun u A3 hA3 => ?_) (aop_aside (k := k) hb h)
      obtain ⟨A2, rfl, hb2, hk, h⟩ := hA3
      rw [hm] at h
      have := h b hb2
      rw [comm] at this
      exact ⟨up hb2 hk, this⟩
  · refine aop_mono (fun u A' ⟨hk, h⟩ => ?_) h
    rw [comm] at h
    exact ⟨hk, h⟩
  · refine aop_mono (fun u A' h => ?_) h
    rw [comm] at h
    exact h
  · rw [comm] at h
    exact h

/-! ### whatever order is drawn -/
structure PlanInv (ops : Array Oper) (listed : Array Bool) (L : List Nat) : Prop where
  mem : ∀ k, k ∈ L ↔ k < ops.size ∧ listed.getD k true = false
  pairs : L.Pairwise fun i j => pairOk ops i j = true
  nodup : L.Nodup
  size : listed.size = ops.size
  closed : ∀ k o, ops[k]? = some o → listed.getD k false = true → ∀ d ∈ needs o, listed.getD d false = true
  lin : ∀ L1 i L2, L = L1 ++ i :: L2 → ∀ o, ops[i]? = some o → ∀ d ∈ needs o, listed.getD d false = true ∨ d ∈ L1

theorem needs_ready {ops : Array Oper} {listed : Array Bool} {j : Nat} : j ∈ Region.ready .any ops listed ↔ listed.getD j true = false ∧ ∃ o, ops[j]? = some o ∧ ∀ d ∈ needs o, listed.getD d false = true := by
  rw [mem_ready]
  refine and_congr_right fun _ => exists_congr fun o => and_congr_right fun _ => ?_
  constructor
  · intro h d hd
    obtain ⟨e, he, rfl⟩ := List.mem_map.1 hd
    obtain ⟨he, hb⟩ := List.mem_filter.1 he
    exact h e (by simpa using he) hb
  · intro h e he hb
    exact h e.on (List.mem_map.2 ⟨e, List.mem_filter.2 ⟨by simpa using he, hb⟩, rfl⟩)

theorem reach_listed {ops : Array Oper} {listed : Array Bool} (hc : ∀ k o, ops[k]? = some o → listed.getD k false = true → ∀ d ∈ needs o, listed.getD d false = true) (i : Nat) :
    ∀ (f j : Nat), (∃ o, ops[j]? = some o ∧ ∀ d ∈ needs o, listed.getD d false = true) → reach ops f i j = true → listed.getD i false = true
  | 0, _, _, h => by simp [reach] at h
  | f + 1, j, ⟨o, ho, hd⟩, h => by
    simp only [reach, ho, List.any_eq_true, Bool.or_eq_true, beq_iff_eq] at h
    obtain ⟨k, hk, h⟩ := h
    rcases h with rfl | h
    · exact hd k hk
    · have hl := hd k hk
      cases hok : ops[k]? with
      | none => cases f <;> simp [reach, hok] at h
      | some ok => exact reach_listed hc i f k ⟨ok, hok, hc k ok hok hl⟩ h

theorem aseq_front {P : Program} {ops : Array Oper} {K : Fr → View → Prop} {j : Nat} {oj : Oper} (hj : ops[j]? = some oj) (hs : Region.noSelect ops = true) :
    ∀ (L1 L2 : List Nat) (W : List Got) (fr : Fr) (A : View), Inh A → (∀ i ∈ L1, reach ops ops.size i j = false ∧ pairOk ops i j = true) → aseq P ops K (L1 ++ j :: L2) W fr A → aseq P ops K (j :: (L1 ++ L2)) W fr A
  | [], _, _, _, _, _, _, h => h
  | i :: L1, L2, W, fr, A, hin, hL, h => by
    have hi := hL i (by simp)
    have hp := hi.2
    unfold pairOk at hp
    rw [hi.1, Bool.false_or] at hp
    cases hoi : ops[i]? with
    | none => simp [hoi] at hp
    | some oi =>
      simp only [hoi, hj, Bool.and_eq_true, Bool.or_eq_true] at hp
      have step : ∀ (W : List Got) (fr : Fr) (A : View), Inh A → aseq P ops K (L1 ++ j :: L2) W fr A → aseq P ops K (j :: (L1 ++ L2)) W fr A := fun W fr A hin => aseq_front hj hs L1 L2 W fr A hin fun k hk => hL k (by simp [hk])
      have h' : aseq P ops K (i :: j :: (L1 ++ L2)) W fr A := by
        simp only [List.cons_append] at h ⊢
        unfold aseq at h ⊢
        simp only [hoi] at h ⊢
        refine awant_imp h (fun h => ?_) (step _ _ _ hin)
        split at h
        · rename_i hq
          rw [if_pos hq]
          obtain ⟨v, hv, h⟩ := h
          exact ⟨v, hv, step _ _ _ hin h⟩
        · rename_i hq
          rw [if_neg hq]
          exact aop_mono (fun v A' ⟨⟨hk, h⟩, hin'⟩ => ⟨hk, step _ _ _ hin' h⟩) (aop_inh hin h)
      cases hq : quietOp oi with
      | true => exact aseq_swap hoi hj hq hp.2 hi.1 (fun cs b => Region.noSelect_spec hs i oi cs b hoi) (fun cs b => Region.noSelect_spec hs j oj cs b hj) h'
      | false =>
        have haj : allocOp oj = true := by
          rcases hp.1 with h | h
          · rw [hq] at h; cases h
          · exact h
        exact aseq_swapA hoi hj hq haj hp.2 (fun cs b => Region.noSelect_spec hs i oi cs b hoi) (fun cs b => Region.noSelect_spec hs j oj cs b hj) hin h'

theorem gives_comes {P : Program} {o : Oper} {ρ : Operand → Value} {A : View} {v : Value} (h : Gives P o ρ A v) : aop P o ρ A fun u A' => u = v ∧ A' = A := h

theorem wpAny_aseq {P : Program} {ops : Array Oper} {n : Nat} {K : Fr → View → Prop} {Q : Exit → Act → World → Prop} {A0 : View} {w0 : World} (hok : opsOk n ops.toList = true) (hs : Region.noSelect ops = true)
    (hQ : ∀ fr A a w, K fr A → FR n fr a → Rel A w → Step A0 w0 A w → Q .normal a w) :
    ∀ (m : Nat) (L : List Nat) (listed : Array Bool) (W : List Got) (fr : Fr) (A : View) (a : Act) (w : World), L.length = m → PlanInv ops listed L → aseq P ops K L W fr A → FR n fr a → Rel A w → Step A0 w0 A w →
      wpAny P .any ops Q m listed a w
  | 0, L, listed, W, fr, A, a, w, hm, inv, h, hf, hr, hst => by
    obtain rfl : L = [] := List.eq_nil_of_length_eq_zero hm
    refine wpAny_done ?_ (hQ fr A a w h hf hr hst) 0
    refine List.eq_nil_iff_forall_not_mem.2 fun j hj => ?_
    obtain ⟨h1, o, ho, _⟩ := needs_ready.1 hj
    have := (inv.mem j).2 ⟨(Array.getElem?_eq_some_iff.1 ho).1, h1⟩
    simp at this
  | m + 1, L, listed, W, fr, A, a, w, hm, inv, h, hf, hr, hst => by
    refine ⟨fun h0 => ?_, fun j hj => ?_⟩
    · exfalso
      cases L with
      | nil => simp at hm
      | cons i L =>
        obtain ⟨hi, hl⟩ := (inv.mem i).1 (by simp)
        have ho : ops[i]? = some ops[i] := Array.getElem?_eq_getElem hi
        have : i ∈ Region.ready .any ops listed := needs_ready.2 ⟨hl, _, ho, fun d hd => (inv.lin [] i L rfl _ ho d hd).elim id fun h => by cases h⟩
        rw [h0] at this
        cases this
    · obtain ⟨hun, oj, hoj, hdeps⟩ := needs_ready.1 hj
      have hjs := (Array.getElem?_eq_some_iff.1 hoj).1
      have hjL : j ∈ L := (inv.mem j).2 ⟨hjs, hun⟩
      obtain ⟨L1, L2, rfl⟩ := List.append_of_mem hjL
      have hnd := List.nodup_append.1 inv.nodup
      have hj1 : j ∉ L1 := fun hm => (hnd.2.2 j hm j (by simp)) rfl
      have hj2 : j ∉ L2 := (List.nodup_cons.1 hnd.2.1).1
      have hp := List.pairwise_append.1 inv.pairs
      have hunl : ∀ i ∈ L1, listed.getD i false = false := fun i hi => by
        have := ((inv.mem i).1 (by simp [hi]))
        have hlt : i < listed.size := by rw [inv.size]; exact this.1
        simpa [hlt] using this.2
      have hfront : ∀ i ∈ L1, reach ops ops.size i j = false ∧ pairOk ops i j = true := fun i hi => by
        refine ⟨?_, hp.2.2 i hi j (by simp)⟩
        cases hre : reach ops ops.size i j with
        | false => rfl
        | true =>
          have := reach_listed inv.closed i ops.size j ⟨oj, hoj, hdeps⟩ hre
          rw [hunl i hi] at this
          cases this
      have h := aseq_front hoj hs L1 L2 W fr A ⟨w, hr⟩ hfront h
      have hlj : j < listed.size := by rw [inv.size]; exact hjs
      have inv' : PlanInv ops (listed.setIfInBounds j true) (L1 ++ L2) := by
        refine ⟨fun k => ?_, ?_, ?_, by simp [inv.size], fun k o ho hl d hd => ?_, fun M1 i M2 hM o ho d hd => ?_⟩
        · by_cases hkj : k = j
          · subst hkj
            simp [hj1, hj2, hlj]
          · rw [getD_set_ne true (Ne.symm hkj), ← inv.mem k]
            simp [hkj]
        · exact List.pairwise_append.2 ⟨hp.1, (List.pairwise_cons.1 hp.2.1).2, fun x hx y hy => hp.2.2 x hx y (by simp [hy])⟩
        · exact List.nodup_append.2 ⟨hnd.1, (List.nodup_cons.1 hnd.2.1).2, fun x hx y hy => hnd.2.2 x hx y (by simp [hy])⟩
        · by_cases hkj : k = j
          · subst hkj
            rw [hoj] at ho
            obtain rfl := Option.some.inj ho
            exact getD_set_true (hdeps d hd)
          · rw [getD_set_ne false (Ne.symm hkj)] at hl
            exact getD_set_true (inv.closed k o ho hl d hd)
        · have key : ∀ M1 i M2, L1 ++ L2 = M1 ++ i :: M2 → ∃ N1 N2, L1 ++ j :: L2 = N1 ++ i :: N2 ∧ ∀ d, d ∈ N1 → d ∈ M1 ∨ d = j := by
            intro M1 i M2 hM
            rcases List.append_eq_append_iff.1 hM with ⟨X, hX1, hX2⟩ | ⟨X, hX1, hX2⟩
            · exact ⟨L1 ++ j :: X, M2, by rw [hX2]; simp, fun d hd => by
                rw [hX1]
                simp only [List.mem_append, List.mem_cons] at hd ⊢
                rcases hd with h | h | h
                · exact .inl (.inl h)
                · exact .inr h
                · exact .inl (.inr h)⟩
            · cases X with
              | nil =>
                simp at hX1 hX2
                exact ⟨M1 ++ [j], M2, by rw [hX1, ← hX2]; simp, fun d hd => by simpa using hd⟩
              | cons x X =>
                simp at hX2
                obtain ⟨rfl, hX2⟩ := hX2
                exact ⟨M1, X ++ j :: L2, by rw [hX1]; simp, fun d hd => .inl hd⟩
          obtain ⟨N1, N2, hN, hd'⟩ := key M1 i M2 hM
          rcases inv.lin N1 i N2 hN o ho d hd with h | h
          · exact .inl (getD_set_true h)
          · rcases hd' d h with h | rfl
            · exact .inr h
            · exact .inl (by simp [hlj])
      have hlen : (L1 ++ L2).length = m := by simp at hm ⊢; omega
      have hdst : dstOk n oj = true := by
        have := List.all_eq_true.1 hok oj (by simpa using Array.mem_of_getElem? hoj)
        exact this
      have ih := fun W fr A a w => wpAny_aseq (P := P) (K := K) (Q := Q) (A0 := A0) (w0 := w0) hok hs hQ m (L1 ++ L2) (listed.setIfInBounds j true) W fr A a w hlen inv'
      unfold aseq at h
      simp only [hoj] at h
      unfold wpOp
      simp only [hoj]
      have key : ∀ p q, awant oj.guard ops fr p q → if Region.wanted oj (yielded ops a.tmps) = true then p else q := by
        intro p q h
        unfold awant at h
        unfold Region.wanted
        cases hg : oj.guard with
        | none => rw [hg] at h; simpa using h
        | some jw =>
          obtain ⟨k, want⟩ := jw
          rw [hg] at h
          simp only [hf.yield ops k]
          by_cases hy : ayield ops fr k = some want
          · simp [hy]; exact h.1 hy
          · simp [hy]; exact h.2 hy
      have h' := key _ _ h
      split
      · rename_i hw
        rw [if_pos hw] at h'
        refine .inl ?_
        split at h'
        · obtain ⟨v, hv, h'⟩ := h'
          unfold Gives at hv
          rw [← hf.eval] at hv
          refine Oper.wp_mono ?_ (wp_of_comes (Q := Q) (aop_comes hv) hr)
          rintro a' w' ⟨u, A', rfl, ⟨rfl, rfl⟩, hr', hs'⟩
          exact ih _ _ _ _ _ h' (hf.put oj hdst _) hr' (hst.trans hs')
        · rw [← hf.eval] at h'
          refine Oper.wp_mono ?_ (wp_of_comes (Q := Q) (aop_comes h') hr)
          rintro a' w' ⟨v, A', rfl, ⟨_, hK⟩, hr', hs'⟩
          exact ih _ _ _ _ _ hK (hf.put oj hdst v) hr' (hst.trans hs')
      · rename_i hw
        rw [if_neg hw] at h'
        exact ih _ _ _ _ _ h' (hf.put oj hdst undef) hr hst

theorem linOk_spec {ops : Array Oper} : ∀ (L done : List Nat), linOk ops done L = true →
    L.Pairwise (fun i j => pairOk ops i j = true) ∧ L.Nodup ∧ ∀ L1 i L2, L = L1 ++ i :: L2 → ∀ o, ops[i]? = some o → ∀ d ∈ needs o, d ∈ done ∨ d ∈ L1
  | [], _, _ => ⟨List.Pairwise.nil, List.nodup_nil, fun L1 i L2 h => by simp at h⟩
  | i :: L, done, h => by
    simp only [linOk, Bool.and_eq_true, Bool.not_eq_true', List.all_eq_true] at h
    obtain ⟨⟨⟨h1, h2⟩, h3⟩, h4⟩ := h
    obtain ⟨p1, p2, p3⟩ := linOk_spec L (i :: done) h4
    refine ⟨List.pairwise_cons.2 ⟨h3, p1⟩, List.nodup_cons.2 ⟨by simpa using h2, p2⟩, fun L1 k L2 hL o ho d hd => ?_⟩
    cases L1 with
    | nil =>
      simp at hL
      obtain ⟨rfl, rfl⟩ := hL
      rw [ho] at h1
      exact .inl (by simpa using List.all_eq_true.1 h1 d hd)
    | cons x L1 =>
      simp at hL
      obtain ⟨rfl, hL⟩ := hL
      rcases p3 L1 k L2 hL o ho d hd with h | h
      · rcases List.mem_cons.1 h with rfl | h
        · exact .inr (by simp)
        · exact .inl h
      · exact .inr (by simp [h])

/-- A region whose order is drawn, by a plan. -/
theorem adraw {P : Program} {id : Nat} {ops : Array Oper} {K : Fr → View → Prop} {fr : Fr} {A : View} (L : List Nat) (hp : planOk ops L = true) (hm : P.follows .mixedOrders = true) (h : aseq P ops K L [] fr A) : ADraw P id ops K fr A := by
  intro n a w hok hf hr
  unfold planOk at hp
  simp only [Bool.and_eq_true, List.all_eq_true, decide_eq_true_eq] at hp
  obtain ⟨⟨⟨h1, h2⟩, h3⟩, h4⟩ := hp
  obtain ⟨p1, p2, p3⟩ := linOk_spec L [] h3
  refine wp_region_any hm ?_
  have hlen : L.length = ops.size := by
    have hsub1 : (List.range ops.size) ⊆ L := fun x hx => by simpa using h1 x hx
    have hsub2 : L ⊆ List.range ops.size := fun x hx => by simpa using h2 x hx
    have a1 := List.nodup_range (n := ops.size) |>.length_le_of_subset hsub1
    have a2 := p2.length_le_of_subset hsub2
    simp at a1 a2
    omega
  rw [← hlen]
  refine wpAny_aseq (A0 := A) (w0 := w) hok h4 ?_ L.length L _ [] fr A a _ rfl ⟨fun k => ?_, p1, p2, by simp [hlen], fun k o ho hl => ?_, fun L1 i L2 hL o ho d hd => .inr (by simpa using p3 L1 i L2 hL o ho d hd)⟩ h hf hr.drew (Step.drew A w)
  · intro fr' A' a' w' hK hf' hr' hs'
    exact ⟨fr', A', ⟨rfl, hK⟩, hf', hr', hs'⟩
  · constructor
    · intro hk
      have := h2 k hk
      refine ⟨this, ?_⟩
      simp [hlen, this]
    · intro ⟨hk, _⟩
      simpa using h1 k (by simpa using hk)
  · exfalso
    have : (Array.replicate L.length false).getD k false = false := by
      rw [Array.getD_eq_getD_getElem?, Array.getElem?_replicate]
      split <;> rfl
    rw [this] at hl
    cases hl

end Go.Proofs.Ytggklaimbklefaa

/- Plans with items: computations, reads (early, perhaps late), acts (and which reads they must leave as they were). -/
set_option maxHeartbeats 4000000
set_option synthInstance.maxHeartbeats 400000
set_option synthInstance.maxSize 4096
set_option linter.unusedSimpArgs false
set_option linter.unusedVariables false
namespace Go.Proofs.Ytggklaimbklefaa

def noView : View := fun _ => none

theorem sawp_dom {P : Program} {α : Type} {B : View} {J : α → Prop} (s : Sem α) : ∀ A : View, (∀ N, ∃ b, N ≤ b ∧ A b = none) → sawp P s (fun v A' => A' = B ∧ J v) A → ∀ b, A b ≠ none → B b ≠ none := by
  have fresh : ∀ (A : View) (b0 : Nat) (k : Blk), (∀ N, ∃ b, N ≤ b ∧ A b = none) → ∀ N, ∃ b, N ≤ b ∧ (A.set b0 k) b = none := by
    intro A b0 k hf N
    obtain ⟨b, hb, hn⟩ := hf (max N (b0 + 1))
    exact ⟨b, by omega, by rw [View.set_ne _ _ (by omega)]; exact hn⟩
  induction s with
  | pure a => exact fun A _ h b hb => h.1 ▸ hb
  | program k ih => exact fun A hf h => ih P A hf h
  | mark m k ih => exact fun A hf h => ih A hf h
  | load m a k ih =>
    intro A hf h
    simp only [sawp] at h
    split at h
    · exact ih _ A hf h
    · exact h.elim
  | store m a v k ih =>
    intro A hf h b hb
    simp only [sawp] at h
    split at h
    · refine ih _ (fresh A _ _ hf) h.2.2.2.2 b ?_
      by_cases hba : b = a.block
      · subst hba; rw [View.set_same]; simp
      · rw [View.set_ne _ _ hba]; exact hb
    · exact h.elim
  | new o k ih =>
    intro A hf h b hb
    cases o with
    | cells c e fz =>
      obtain ⟨f1, f2⟩ := fz
      cases f1 with
      | succ => exact h.elim
      | zero =>
        cases f2 with
        | succ => exact h.elim
        | zero =>
          obtain ⟨b0, _, hb0⟩ := hf 0
          refine ih b0 _ (fresh A _ _ hf) (h.2 b0 hb0) b ?_
          by_cases hbb : b = b0
          · subst hbb; rw [View.set_same]; simp
          · rw [View.set_ne _ _ hbb]; exact hb
    | _ => exact h.elim
  | shape r k ih =>
    intro A hf h
    simp only [sawp] at h
    split at h
    · exact ih _ A hf (h _ (Nat.le_refl _))
    · exact h.elim
  | freeze a n k ih =>
    intro A hf h b hb
    simp only [sawp] at h
    split at h
    · refine ih _ (fresh A _ _ hf) h.2 b ?_
      by_cases hba : b = a.block
      · subst hba; rw [View.set_same]; simp
      · rw [View.set_ne _ _ hba]; exact hb
    · exact h.elim
  | choose q k ih => exact fun A hf h => ih _ A hf (h.2 (q.cut 0) (.inr ⟨0, rfl⟩))
  | _ => exact fun A _ h => h.elim

/-- What comes out where nothing is known needs no memory. -/
theorem sawp_pure {P : Program} {α : Type} {J : α → Prop} (s : Sem α) (h : sawp P s (fun v A' => A' = noView ∧ J v) noView) : ∃ v, J v ∧ ∀ A (K : α → View → Prop), K v A → sawp P s K A := by
  induction s with
  | pure a => exact ⟨a, h.2, fun _ _ h => h⟩
  | program k ih => obtain ⟨v, hJ, hk⟩ := ih P h; exact ⟨v, hJ, fun A K h => hk A K h⟩
  | mark m k ih => obtain ⟨v, hJ, hk⟩ := ih h; exact ⟨v, hJ, fun A K h => hk A K h⟩
  | load m a k ih =>
    simp only [sawp] at h
    have : noView.cell a = none := by unfold View.cell noView; split <;> rfl
    rw [this] at h
    exact h.elim
  | store m a v k ih => exact (show False from h).elim
  | new o k ih =>
    cases o with
    | cells c e fz =>
      obtain ⟨f1, f2⟩ := fz
      cases f1 with
      | succ => exact h.elim
      | zero =>
        cases f2 with
        | succ => exact h.elim
        | zero =>
          have := sawp_dom (k 0) _ (fun N => ⟨N + 1, by omega, by rw [View.set_ne _ _ (by omega)]; rfl⟩) (h.2 0 rfl) 0 (by rw [View.set_same]; simp)
          exact absurd rfl this
    | _ => exact h.elim
  | shape r k ih => exact (show False from h).elim
  | freeze a n k ih => exact (show False from h).elim
  | choose q k ih =>
    obtain ⟨⟨b, kb, hb⟩, _⟩ := h
    exact (by cases hb)
  | _ => exact h.elim

def isLoad (o : Oper) : Bool := match o.op with | .load .. => true | _ => false

/-- The kinds of pointers that a check lets by. -/
def nilOk (o : Oper) (ρ : Operand → Value) : Bool := match o.op with
  | .nilCheck x => match ρ x with
    | .pointer (some _) => true
    | .func (.func _) _ _ => true
    | _ => false
  | _ => true

theorem aop_pure {P : Program} {o : Oper} {ρ : Operand → Value} {J : Value → Prop} (hq : quietOp o = true) (hn : nilOk o ρ = true) (hl : isLoad o = false) (h : aop P o ρ noView fun v A' => A' = noView ∧ J v) : ∃ v, J v ∧ ∀ A, Gives P o ρ A v := by
  obtain ⟨dst, op, ty, ps, af, g⟩ := o
  have val : ∀ (s : Sem Value) (he : execOp ρ ⟨dst, op, ty, ps, af, g⟩ = (do pure (Next.value (← s)))) (ha : ∀ A (K : Value → View → Prop), aop P ⟨dst, op, ty, ps, af, g⟩ ρ A K = sawp P (execOp ρ ⟨dst, op, ty, ps, af, g⟩) (nextK P K) A),
      ∃ v, J v ∧ ∀ A, Gives P ⟨dst, op, ty, ps, af, g⟩ ρ A v := by
    intro s he ha
    rw [ha, he, sawp_value] at h
    obtain ⟨v, hJ, hall⟩ := sawp_pure s h
    refine ⟨v, hJ, fun A => ?_⟩
    unfold Gives
    rw [ha, he, sawp_value]
    exact hall A _ ⟨rfl, rfl⟩
  cases op <;> simp only [quietOp, isLoad, nilOk] at hq hl hn <;> try (simp at hq; done)
  case move x => exact ⟨_, h.2, fun A => ⟨rfl, rfl⟩⟩
  case assign x => exact ⟨_, h.2, fun A => ⟨rfl, rfl⟩⟩
  case pick c x y =>
    rw [aop_pick] at h
    unfold apick at h
    split at h
    · rename_i b hb
      exact ⟨_, h.2, fun A => by unfold Gives; rw [aop_pick]; unfold apick; rw [hb]; exact ⟨rfl, rfl⟩⟩
    · exact h.elim
  case load => simp at hl
  case build t qs =>
    rw [aop_build] at h
    unfold abuild at h
    split at h
    · rename_i cells hc
      exact ⟨_, h.2, fun A => by unfold Gives; rw [aop_build]; unfold abuild; rw [hc]; exact ⟨rfl, rfl⟩⟩
    · exact h.elim
  case binOp bop t x y yt => exact val _ rfl fun _ _ => rfl
  case convert s t x => exact val _ rfl fun _ _ => rfl
  case unOp uop t x => exact val _ rfl fun _ _ => rfl
  case makeFunc fn xs ys => exact ⟨_, h.2, fun A => ⟨rfl, rfl⟩⟩
  case slice t x l hh m => exact val _ rfl fun _ _ => rfl
  case fieldAddr t x i => exact val _ rfl fun _ _ => rfl
  case field t x i => exact val _ rfl fun _ _ => rfl
  case indexAddr t x i => exact val _ rfl fun _ _ => rfl
  case index t x i => exact val _ rfl fun _ _ => rfl
  case extract t i => exact val _ rfl fun _ _ => rfl
  case nilCheck x =>
    have ha : ∀ A (K : Value → View → Prop), aop P ⟨dst, .nilCheck x, ty, ps, af, g⟩ ρ A K = sawp P (execOp ρ ⟨dst, .nilCheck x, ty, ps, af, g⟩) (nextK P K) A := fun _ _ => rfl
    rw [ha] at h
    have key : ∀ a, ρ x = .pointer (some a) → ∃ v, J v ∧ ∀ A, Gives P ⟨dst, .nilCheck x, ty, ps, af, g⟩ ρ A v := by
      intro a hx
      have he : execOp ρ ⟨dst, .nilCheck x, ty, ps, af, g⟩ = .pure (.value (.pointer (some a))) := by simp only [execOp, hx]; rfl
      rw [he] at h
      exact ⟨_, h.2, fun A => by unfold Gives; rw [ha, he]; exact ⟨rfl, rfl⟩⟩
    have keyf : ∀ f xs ys, ρ x = .func (.func f) xs ys → ∃ v, J v ∧ ∀ A, Gives P ⟨dst, .nilCheck x, ty, ps, af, g⟩ ρ A v := by
      intro f xs ys hx
      have he : execOp ρ ⟨dst, .nilCheck x, ty, ps, af, g⟩ = .pure (.value (.func (.func f) xs ys)) := by simp only [execOp, hx]; rfl
      rw [he] at h
      exact ⟨_, h.2, fun A => by unfold Gives; rw [ha, he]; exact ⟨rfl, rfl⟩⟩
    cases hx : ρ x with
    | pointer a =>
      cases a with
      | some a => exact key a hx
      | none => simp [hx] at hn
    | func fn xs ys =>
      cases fn with
      | func f => exact keyf f xs ys hx
      | _ => simp [hx] at hn
    | _ => simp [hx] at hn
  case call c =>
    obtain ⟨callee, args, ats⟩ := c
    cases callee with
    | builtin b => cases b <;> simp only [quietOp] at hq <;> first | (simp at hq; done) | exact val _ rfl fun _ _ => rfl
    | _ => simp at hq

/-! ### plans with items -/
/-- q: it computes; l: it reads (late: something that acts may come before it); c: it acts, and leaves what those reads read as it was. -/
inductive PItem where
  | q (i : Nat)
  | l (i : Nat) (late : Bool)
  | c (i : Nat) (ks : List Nat)

def PItem.idx : PItem → Nat
  | .q i => i
  | .l i _ => i
  | .c i _ => i

/-- A read that may still come. -/
structure Rd where
  idx : Nat
  ty : TypeId
  addr : Addr
  val : Value

def rdsKept (P : Program) (A : View) (ks : List Nat) : List Rd → Prop
  | [] => True
  | g :: W => (ks.contains g.idx = true → A.loadv P g.ty g.addr = some g.val) ∧ rdsKept P A ks W

def blate (late : Bool) (i : Nat) (t : TypeId) (a : Addr) (v : Value) (W : List Rd) : List Rd := if late then ⟨i, t, a, v⟩ :: W else W

def bload (P : Program) (x : Value) (t : TypeId) (A : View) (J : Addr → Value → Prop) : Prop := match x with
  | .pointer (some a) => someK (A.loadv P t a) (J a)
  | _ => False

def bitem (P : Program) (ops : Array Oper) (it : PItem) (o : Option Oper) (W : List Rd) (fr : Fr) (A : View) (J : List Rd → Fr → View → Prop) : Prop :=
  match o with
  | none => False
  | some o => match it with
    | .q _ => awant o.guard ops fr (nilOk o (ev fr) = true ∧ aop P o (ev fr) noView fun v A' => A' = noView ∧ J W (updO fr o.dst v) A) (J W (updO fr o.dst undef) A)
    | .l i late => match o.op with
      | .load t x => awant o.guard ops fr (bload P (ev fr x) t A fun a v => J (blate late i t a v W) (updO fr o.dst v) A) (J W (updO fr o.dst undef) A)
      | _ => False
    | .c _ ks => awant o.guard ops fr (aop P o (ev fr) A fun v A' => rdsKept P A' ks W ∧ J W (updO fr o.dst v) A') (J W (updO fr o.dst undef) A)

def bseq (P : Program) (ops : Array Oper) (K : Fr → View → Prop) : List PItem → List Rd → Fr → View → Prop
  | [], _, fr, A => K fr A
  | it :: L, W, fr, A => bitem P ops it ops[it.idx]? W fr A fun W fr A => bseq P ops K L W fr A

def itemsOk (ops : Array Oper) : List (Nat × Bool) → List PItem → Bool
  | _, [] => true
  | seen, .q i :: L => (match ops[i]? with | some o => quietOp o && !isLoad o | none => false) && itemsOk ops seen L
  | seen, .l i late :: L => (match ops[i]? with | some o => quietOp o && isLoad o | none => false) && itemsOk ops ((i, late) :: seen) L
  | seen, .c i ks :: L => (match ops[i]? with | some o => !quietOp o && (allocOp o || seen.all (fun (k, late) => reach ops ops.size k i || (late && ks.contains k))) | none => false) && itemsOk ops seen L

def Cov (P : Program) (seen : List (Nat × Bool)) (W : List Rd) (Wg : List Got) : Prop :=
  ∀ g ∈ Wg, (∀ A, g.fact A) ∨ (g.idx, false) ∈ seen ∨ ((g.idx, true) ∈ seen ∧ ∃ r ∈ W, r.idx = g.idx ∧ ∀ A, A.loadv P r.ty r.addr = some r.val → g.fact A)

theorem rdsKept_mem {P : Program} {A : View} {ks : List Nat} : ∀ {W : List Rd}, rdsKept P A ks W → ∀ r ∈ W, ks.contains r.idx = true → A.loadv P r.ty r.addr = some r.val
  | [], _, r, hr, _ => by cases hr
  | g :: W, h, r, hr, hk => by
    rcases List.mem_cons.1 hr with rfl | hr
    · exact h.1 hk
    · exact rdsKept_mem h.2 r hr hk

theorem bseq_aseq {P : Program} {ops : Array Oper} {K : Fr → View → Prop} : ∀ (L : List PItem) (seen : List (Nat × Bool)) (W : List Rd) (Wg : List Got) (fr : Fr) (A : View), itemsOk ops seen L = true → Cov P seen W Wg →
    bseq P ops K L W fr A → aseq P ops K (L.map (·.idx)) Wg fr A
  | [], _, _, _, _, _, _, _, h => h
  | it :: L, seen, W, Wg, fr, A, hok, hcov, h => by
    unfold bseq bitem at h
    unfold aseq
    simp only [List.map_cons]
    cases ho : ops[it.idx]? with
    | none => rw [ho] at h; exact h.elim
    | some o =>
      rw [ho] at h
      simp only at h ⊢
      cases it with
      | q i =>
        simp only [PItem.idx] at ho
        simp only [itemsOk, ho, Bool.and_eq_true, Bool.not_eq_true'] at hok
        refine awant_imp h (fun ⟨hn, h⟩ => ?_) (bseq_aseq L seen W Wg _ _ hok.2 hcov)
        rw [if_pos hok.1.1]
        obtain ⟨v, hJ, hg⟩ := aop_pure hok.1.1 hn hok.1.2 h
        refine ⟨v, hg A, bseq_aseq L seen W _ _ _ hok.2 (fun g hgm => ?_) hJ⟩
        rcases List.mem_cons.1 hgm with rfl | hgm
        · exact .inl hg
        · exact hcov g hgm
      | l i late =>
        simp only [PItem.idx] at ho
        simp only [itemsOk, ho, Bool.and_eq_true] at hok
        dsimp only at h
        split at h
        · rename_i t x hop
          have gv : ∀ (a : Addr) (v : Value), ev fr x = .pointer (some a) → ∀ B : View, B.loadv P t a = some v → Gives P o (ev fr) B v := by
            intro a v hx B hB
            unfold Gives aop
            rw [hop]
            simp only [hx, hB]
            exact ⟨trivial, trivial⟩
          have covs : ∀ g ∈ Wg, (∀ A, g.fact A) ∨ (g.idx, false) ∈ (i, late) :: seen ∨ ((g.idx, true) ∈ (i, late) :: seen ∧ ∃ r ∈ W, r.idx = g.idx ∧ ∀ A, A.loadv P r.ty r.addr = some r.val → g.fact A) := fun g hg => by
            rcases hcov g hg with h | h | ⟨h, r⟩
            · exact .inl h
            · exact .inr (.inl (List.mem_cons_of_mem _ h))
            · exact .inr (.inr ⟨List.mem_cons_of_mem _ h, r⟩)
          refine awant_imp h (fun h => ?_) (bseq_aseq L _ W Wg _ _ hok.2 covs)
          rw [if_pos hok.1.1]
          unfold bload at h
          split at h
          · rename_i a hx
            cases hl : A.loadv P t a with
            | none => rw [hl] at h; exact h.elim
            | some v =>
              rw [hl] at h
              refine ⟨v, gv a v hx A hl, bseq_aseq L ((i, late) :: seen) _ _ _ _ hok.2 (fun g hgm => ?_) h⟩
              unfold blate
              rcases List.mem_cons.1 hgm with rfl | hgm
              · cases late with
                | false => exact .inr (.inl (by simp [PItem.idx, gotOf]))
                | true => exact .inr (.inr ⟨by simp [PItem.idx, gotOf], ⟨i, t, a, v⟩, by simp, rfl, fun B hB => gv a v hx B hB⟩)
              · rcases covs g hgm with h | h | ⟨h, r, hr, h2⟩
                · exact .inl h
                · exact .inr (.inl h)
                · refine .inr (.inr ⟨h, r, ?_, h2⟩)
                  split
                  · exact List.mem_cons_of_mem _ hr
                  · exact hr
          · exact h.elim
        · exact h.elim
      | c i ks =>
        simp only [PItem.idx] at ho
        simp only [itemsOk, ho, Bool.and_eq_true, Bool.not_eq_true', List.all_eq_true, Bool.or_eq_true] at hok
        refine awant_imp h (fun h => ?_) (bseq_aseq L seen W Wg _ _ hok.2 hcov)
        rw [if_neg (by rw [hok.1.1]; simp)]
        refine aop_mono (fun v A' ⟨hk, h⟩ => ⟨fun hal g hg hre => ?_, bseq_aseq L seen W Wg _ _ hok.2 hcov h⟩) h
        have hseen := hok.1.2.resolve_left (by rw [hal]; simp)
        rcases hcov g hg with h1 | h1 | ⟨h1, r, hr, hri, hrf⟩
        · exact h1 A'
        · have := hseen _ h1
          simp only [PItem.idx] at hre
          simp [hre] at this
        · have := hseen _ h1
          simp only [PItem.idx] at hre
          simp only [hre, Bool.false_eq_true, false_or] at this
          exact hrf A' (rdsKept_mem hk r hr (by rw [hri]; exact this.2))

def drawOk (ops : Array Oper) (L : List PItem) : Bool := planOk ops (L.map (·.idx)) && itemsOk ops [] L

theorem adraw_items {P : Program} {id : Nat} {ops : Array Oper} {K : Fr → View → Prop} {fr : Fr} {A : View} (L : List PItem) (hp : drawOk ops L = true) (hm : P.follows .mixedOrders = true) (h : bseq P ops K L [] fr A) : ADraw P id ops K fr A := by
  unfold drawOk at hp
  simp only [Bool.and_eq_true] at hp
  exact adraw _ hp.1 hm (bseq_aseq L [] [] [] fr A hp.2 (fun g hg => by cases hg) h)

/-! ### for simp -/
section
variable {P : Program} {A : View} {fr : Fr} {ops : Array Oper} {K : Fr → View → Prop} {J : List Rd → Fr → View → Prop} {W : List Rd} {L : List PItem}
theorem bseq_nil : bseq P ops K [] W fr A = K fr A := rfl
theorem bseq_cons (it : PItem) : bseq P ops K (it :: L) W fr A = bitem P ops it ops[it.idx]? W fr A fun W fr A => bseq P ops K L W fr A := rfl
variable (d : Option Tmp) (ty : TypeId) (ps : String) (af : Array Edge)
theorem bitem_q (i : Nat) (op : Op) : bitem P ops (.q i) (some ⟨d, op, ty, ps, af, none⟩) W fr A J = (nilOk ⟨d, op, ty, ps, af, none⟩ (ev fr) = true ∧ aop P ⟨d, op, ty, ps, af, none⟩ (ev fr) noView fun v A' => A' = noView ∧ J W (updO fr d v) A) := rfl
theorem bitem_qg (i j : Nat) (w : Bool) (op : Op) : bitem P ops (.q i) (some ⟨d, op, ty, ps, af, some (j, w)⟩) W fr A J =
    aguard (ayield ops fr j) w (nilOk ⟨d, op, ty, ps, af, some (j, w)⟩ (ev fr) = true ∧ aop P ⟨d, op, ty, ps, af, some (j, w)⟩ (ev fr) noView fun v A' => A' = noView ∧ J W (updO fr d v) A) (J W (updO fr d undef) A) := rfl
theorem bitem_l (i : Nat) (late : Bool) (t : TypeId) (x : Operand) : bitem P ops (.l i late) (some ⟨d, .load t x, ty, ps, af, none⟩) W fr A J = bload P (ev fr x) t A fun a v => J (blate late i t a v W) (updO fr d v) A := rfl
theorem bitem_lg (i : Nat) (late : Bool) (t : TypeId) (x : Operand) (j : Nat) (w : Bool) : bitem P ops (.l i late) (some ⟨d, .load t x, ty, ps, af, some (j, w)⟩) W fr A J =
    aguard (ayield ops fr j) w (bload P (ev fr x) t A fun a v => J (blate late i t a v W) (updO fr d v) A) (J W (updO fr d undef) A) := rfl
theorem bitem_c (i : Nat) (ks : List Nat) (op : Op) : bitem P ops (.c i ks) (some ⟨d, op, ty, ps, af, none⟩) W fr A J = aop P ⟨d, op, ty, ps, af, none⟩ (ev fr) A fun v A' => rdsKept P A' ks W ∧ J W (updO fr d v) A' := rfl
theorem bitem_cg (i : Nat) (ks : List Nat) (op : Op) (j : Nat) (w : Bool) : bitem P ops (.c i ks) (some ⟨d, op, ty, ps, af, some (j, w)⟩) W fr A J =
    aguard (ayield ops fr j) w (aop P ⟨d, op, ty, ps, af, some (j, w)⟩ (ev fr) A fun v A' => rdsKept P A' ks W ∧ J W (updO fr d v) A') (J W (updO fr d undef) A) := rfl
theorem bload_at (t : TypeId) (a : Addr) (J : Addr → Value → Prop) : bload P (.pointer (some a)) t A J = someK (A.loadv P t a) (J a) := rfl
theorem blate_t (i : Nat) (t : TypeId) (a : Addr) (v : Value) : blate true i t a v W = ⟨i, t, a, v⟩ :: W := rfl
theorem blate_f (i : Nat) (t : TypeId) (a : Addr) (v : Value) : blate false i t a v W = W := rfl
theorem rdsKept_nil (ks : List Nat) : rdsKept P A ks [] = True := rfl
theorem rdsKept_none : rdsKept P A [] W = True := by
  induction W with
  | nil => rfl
  | cons g W ih => simp [rdsKept, ih]
theorem rdsKept_in (ks : List Nat) (i : Nat) (t : TypeId) (a : Addr) (v : Value) (h : ks.contains i = true) : rdsKept P A ks (⟨i, t, a, v⟩ :: W) = (A.loadv P t a = some v ∧ rdsKept P A ks W) := by simp only [rdsKept, h, true_implies]
theorem rdsKept_out (ks : List Nat) (i : Nat) (t : TypeId) (a : Addr) (v : Value) (h : ks.contains i = false) : rdsKept P A ks (⟨i, t, a, v⟩ :: W) = rdsKept P A ks W := by simp only [rdsKept, h, Bool.false_eq_true, false_implies, true_and]
theorem ayield_at (j : Nat) : ayield ops fr j = yv (ops[j]?) fr := rfl
end

end Go.Proofs.Ytggklaimbklefaa

/- What views say of Go's data: slices of elements that have a shape; what stays true as memory grows. -/
set_option maxHeartbeats 4000000
set_option synthInstance.maxHeartbeats 400000
set_option synthInstance.maxSize 4096
set_option linter.unusedSimpArgs false
set_option linter.unusedVariables false
namespace Go.Proofs.Ytggklaimbklefaa

instance : LawfulBEq ByteArray where
  eq_of_beq {a b} h := ByteArray.ext (eq_of_beq (show (a.data == b.data) = true from h))
  rfl {a} := show (a.data == a.data) = true from beq_self_eq_true _

/-- All that was known is still known. -/
def Ext (A A' : View) : Prop := ∀ b k, A b = some k → A' b = some k
theorem Ext.refl (A : View) : Ext A A := fun _ _ h => h
theorem Ext.trans {A B C : View} (h : Ext A B) (h' : Ext B C) : Ext A C := fun b k hb => h' b k (h b k hb)
theorem Ext.new {A : View} {b : Nat} (hb : A b = none) (k : Blk) : Ext A (A.set b k) := fun x kx hx => by
  rw [View.set_ne _ _ (fun e => by rw [e, hb] at hx; cases hx)]; exact hx
theorem Ext.kill (A : View) (b : Nat) : Ext (A.kill b) A := fun x k hx => by
  by_cases h : x = b
  · subst h; rw [View.kill_same] at hx; cases hx
  · rwa [View.kill_ne _ h] at hx
theorem Ext.killBoth {A B : View} (h : Ext A B) (b : Nat) : Ext (A.kill b) (B.kill b) := fun x k hx => by
  by_cases hxb : x = b
  · subst hxb; rw [View.kill_same] at hx; cases hx
  · rw [View.kill_ne _ hxb] at hx ⊢; exact h x k hx
theorem Ext.killNew {A : View} {b : Nat} (hb : A b = none) (k : Blk) : Ext A ((A.set b k).kill b) := fun x kx hx => by
  have : x ≠ b := fun e => by rw [e, hb] at hx; cases hx
  rw [View.kill_ne _ this, View.set_ne _ _ this]; exact hx
theorem Ext.setKill {A : View} {b : Nat} (k : Blk) : Ext (A.kill b) (A.set b k) := fun x kx hx => by
  by_cases hxb : x = b
  · subst hxb; rw [View.kill_same] at hx; cases hx
  · rw [View.kill_ne _ hxb] at hx; rw [View.set_ne _ _ hxb]; exact hx
theorem Ext.ne {A : View} {b x : Nat} {k : Blk} (hx : A x = some k) (hb : A b = none) : x ≠ b := fun e => by rw [e, hb] at hx; cases hx
theorem Ext.none {A B : View} (h : Ext A B) {b : Nat} (hb : B b = none) : A b = none := by
  cases hk : A b with
  | none => rfl
  | some k => rw [h b k hk] at hb; cases hb
theorem Ext.cell {A B : View} (h : Ext A B) {a : Addr} {v : Value} (hv : A.cell a = some v) : B.cell a = some v := by
  obtain ⟨hs, ⟨k, hk, hc⟩, h1⟩ := View.cell_some hv
  exact View.cell_mk hs (h _ _ hk) hc h1
theorem Ext.part {A B : View} (h : Ext A B) {a : Addr} {n : Nat} {cs : List Value} (hv : A.part a n = some cs) : B.part a n = some cs := by
  obtain ⟨hs, k, hk, hl, rfl, h1⟩ := View.part_some hv
  exact View.part_mk hs (h _ _ hk) hl h1
theorem Ext.loadv {A B : View} (h : Ext A B) {P : Program} {t : TypeId} {a : Addr} {v : Value} (hv : A.loadv P t a = some v) : B.loadv P t a = some v := by
  unfold View.loadv at hv ⊢
  split at hv
  · cases hp : A.part a _ with
    | none => rw [hp] at hv; cases hv
    | some cs => rw [hp] at hv; rw [h.part hp]; exact hv
  · exact h.cell hv
  · cases hv

theorem cell_at {A : View} {b off : Nat} {k : Blk} {v : Value} (h : A b = some k) (hv : k.cells[off]? = some v) (h1 : v.oneCell' = true) : A.cell ⟨b, off, none⟩ = some v := View.cell_mk rfl h hv h1
theorem part_at {A : View} {b off n : Nat} {k : Blk} (h : A b = some k) (hl : off + n ≤ k.cells.length) (h1 : ∀ v ∈ (k.cells.drop off).take n, v.oneCell' = true) : A.part ⟨b, off, none⟩ n = some ((k.cells.drop off).take n) := View.part_mk rfl h hl h1
theorem add_at (b o n : Nat) : (⟨b, o, none⟩ : Addr).add n = ⟨b, o + n, none⟩ := by unfold Addr.add; split <;> simp_all
theorem addr_add_add (a : Addr) (i j : Nat) : (a.add i).add j = a.add (i + j) := by
  unfold Addr.add
  by_cases hi : i = 0
  · subst hi; simp
  · by_cases hj : j = 0
    · subst hj; simp [hi]
    · simp [hi, hj, show i + j ≠ 0 by omega]; omega
theorem add_block (a : Addr) (i : Nat) : (a.add i).block = a.block := by unfold Addr.add; split <;> rfl
theorem add_off (a : Addr) (i : Nat) : (a.add i).off = a.off + i := by unfold Addr.add; split <;> simp_all
theorem add_spot {a : Addr} (i : Nat) (h : a.spot = none) : (a.add i).spot = none := by unfold Addr.add; split <;> simp_all
theorem View.part_cell {A : View} {a : Addr} {n : Nat} {cs : List Value} (h : A.part a n = some cs) {j : Nat} {v : Value} (hj : cs[j]? = some v) : A.cell (a.add j) = some v := by
  obtain ⟨hs, k, hk, hl, rfl, h1⟩ := View.part_some h
  refine View.cell_mk (k := k) (add_spot j hs) (by rw [add_block]; exact hk) ?_ (h1 _ (List.mem_of_getElem? hj))
  rw [add_off]
  rw [List.getElem?_take] at hj
  split at hj
  · rwa [List.getElem?_drop] at hj
  · simp at hj
theorem View.part_part {A : View} {a : Addr} {n : Nat} {cs : List Value} (h : A.part a n = some cs) {i m : Nat} (hl : i + m ≤ n) : A.part (a.add i) m = some ((cs.drop i).take m) := by
  obtain ⟨hs, k, hk, hle, rfl, h1⟩ := View.part_some h
  have e : (((k.cells.drop a.off).take n).drop i).take m = (k.cells.drop (a.off + i)).take m := by
    rw [List.drop_take, List.take_take, List.drop_drop, Nat.min_eq_left (by omega)]
  have := View.part_mk (A := A) (a := a.add i) (n := m) (add_spot i hs) (by rw [add_block]; exact hk) (by rw [add_off]; omega) (fun v hv => by
    rw [add_off, ← e] at hv
    exact h1 v (List.mem_of_mem_drop (List.mem_of_mem_take hv)))
  rw [this, add_off, e]

/-- The shape of an element: how many cells, and what they say. -/
structure Shape (α : Type) where
  size : Nat
  rel : View → α → List Value → Prop
  mono : ∀ {A B x cs}, Ext A B → rel A x cs → rel B x cs
  len : ∀ {A x cs}, rel A x cs → cs.length = size
  one : ∀ {A x cs}, rel A x cs → ∀ v ∈ cs, v.oneCell' = true

def strS : Shape ByteArray := ⟨1, fun _ x cs => cs = [.string x] ∧ x.size ≤ 140737488355328, fun _ h => h, fun h => by rw [h.1]; rfl, fun h v hv => by rw [h.1] at hv; simp at hv; rw [hv]; rfl⟩
def intS : Shape Int := ⟨1, fun _ x cs => cs = [.int .i64 x] ∧ -9223372036854775808 ≤ x ∧ x < 9223372036854775808, fun _ h => h, fun h => by rw [h.1]; rfl, fun h v hv => by rw [h.1] at hv; simp at hv; rw [hv]; rfl⟩
def boolS : Shape Bool := ⟨1, fun _ x cs => cs = [.bool x], fun _ h => h, fun h => by rw [h]; rfl, fun h v hv => by rw [h] at hv; simp at hv; rw [hv]; rfl⟩
def byteS : Shape UInt8 := ⟨1, fun _ x cs => cs = [.int .u8 x.toNat], fun _ h => h, fun h => by rw [h]; rfl, fun h v hv => by rw [h] at hv; simp at hv; rw [hv]; rfl⟩

section
variable {α : Type}
/-- Elements, one after the other. -/
inductive Elems (S : Shape α) (A : View) : List α → List Value → Prop where
  | nil : Elems S A [] []
  | cons {x : α} {xs : List α} {c cs : List Value} : S.rel A x c → Elems S A xs cs → Elems S A (x :: xs) (c ++ cs)

variable {S : Shape α} {A B : View} {xs ys : List α} {cs ds : List Value}
theorem Elems.mono (h : Elems S A xs cs) (he : Ext A B) : Elems S B xs cs := by
  induction h with
  | nil => exact .nil
  | cons hx _ ih => exact .cons (S.mono he hx) ih
theorem Elems.len (h : Elems S A xs cs) : cs.length = xs.length * S.size := by
  induction h with
  | nil => simp
  | cons hx _ ih => rw [List.length_append, S.len hx, ih, List.length_cons, Nat.add_mul]; omega
theorem Elems.one (h : Elems S A xs cs) : ∀ v ∈ cs, v.oneCell' = true := by
  induction h with
  | nil => intro v hv; cases hv
  | cons hx _ ih => exact fun v hv => (List.mem_append.1 hv).elim (S.one hx v) (ih v)
theorem Elems.append (h : Elems S A xs cs) (h' : Elems S A ys ds) : Elems S A (xs ++ ys) (cs ++ ds) := by
  induction h with
  | nil => exact h'
  | cons hx _ ih => rw [List.append_assoc]; exact .cons hx ih
theorem Elems.single {x : α} {c : List Value} (h : S.rel A x c) : Elems S A [x] c := by
  have := Elems.cons h (.nil (S := S) (A := A))
  rwa [List.append_nil] at this
theorem Elems.at (h : Elems S A xs cs) : ∀ (i : Nat) (hi : i < xs.length), S.rel A xs[i] ((cs.drop (i * S.size)).take S.size) := by
  induction h with
  | nil => intro i hi; simp at hi
  | cons hx hrest ih =>
    intro i hi
    cases i with
    | zero => simpa [S.len hx, List.take_left' (S.len hx)] using hx
    | succ i =>
      have := ih i (by simpa using hi)
      have e : (i + 1) * S.size = S.size + i * S.size := by rw [Nat.add_mul]; omega
      rw [e, ← List.drop_drop, List.drop_left' (S.len hx)]
      exact this
theorem Elems.take (h : Elems S A xs cs) : ∀ (n : Nat), Elems S A (xs.take n) (cs.take (n * S.size)) := by
  induction h with
  | nil => intro n; simp; exact .nil
  | @cons x xs c cs hx hrest ih =>
    intro n
    cases n with
    | zero => simp; exact .nil
    | succ n =>
      have e : (n + 1) * S.size = S.size + n * S.size := by rw [Nat.add_mul]; omega
      have ht : List.take (S.size + n * S.size) c = c := List.take_of_length_le (by rw [S.len hx]; omega)
      rw [List.take_succ_cons, e, List.take_append, S.len hx, Nat.add_sub_cancel_left, ht]
      exact .cons hx (ih n)
theorem Elems.drop (h : Elems S A xs cs) : ∀ (n : Nat), Elems S A (xs.drop n) (cs.drop (n * S.size)) := by
  induction h with
  | nil => intro n; simp; exact .nil
  | cons hx hrest ih =>
    intro n
    cases n with
    | zero => simp; exact .cons hx hrest
    | succ n =>
      have e : (n + 1) * S.size = S.size + n * S.size := by rw [Nat.add_mul]; omega
      rw [List.drop_succ_cons, e, ← List.drop_drop, List.drop_left' (S.len hx)]
      exact ih n
theorem Elems.set (h : Elems S A xs cs) : ∀ (i : Nat) (_ : i < xs.length) (x : α) (c : List Value), S.rel A x c → Elems S A (xs.set i x) (cs.take (i * S.size) ++ c ++ cs.drop (i * S.size + S.size)) := by
  induction h with
  | nil => intro i hi; simp at hi
  | @cons x0 xs d cs hx hrest ih =>
    intro i hi x c hc
    cases i with
    | zero => simp only [Nat.zero_mul, List.take_zero, List.nil_append, Nat.zero_add, List.set_cons_zero]; rw [List.drop_left' (S.len hx)]; exact .cons hc hrest
    | succ i =>
      have e : (i + 1) * S.size = S.size + i * S.size := by rw [Nat.add_mul]; omega
      have h := ih i (by simpa using hi) x c hc
      have ht : List.take (S.size + i * S.size) d = d := List.take_of_length_le (by rw [S.len hx]; omega)
      have hd : List.drop (S.size + i * S.size + S.size) (d ++ cs) = List.drop (i * S.size + S.size) cs := by
        rw [Nat.add_assoc, ← List.drop_drop, List.drop_left' (S.len hx)]
      rw [List.set_cons_succ, e, List.take_append, S.len hx, Nat.add_sub_cancel_left, ht, hd, List.append_assoc, List.append_assoc, ← List.append_assoc (List.take _ _)]
      exact .cons hx h

/-- A slice that is read. -/
def Sl (S : Shape α) (A : View) (v : Value) (xs : List α) : Prop :=
  xs.length ≤ 140737488355328 ∧ ∃ a c, v = .slice a xs.length c ∧ xs.length ≤ c ∧ (0 < xs.length → ∃ ad cs, a = some ad ∧ A.part ad (xs.length * S.size) = some cs ∧ Elems S A xs cs)

theorem Sl.mono {v : Value} (h : Sl S A v xs) (he : Ext A B) : Sl S B v xs := by
  obtain ⟨h0, a, c, h1, h2, h3⟩ := h
  exact ⟨h0, a, c, h1, h2, fun hp => let ⟨ad, cs, e1, e2, e3⟩ := h3 hp; ⟨ad, cs, e1, he.part e2, e3.mono he⟩⟩
theorem Sl.slice {v : Value} (h : Sl S A v xs) : ∃ a c, v = .slice a xs.length c ∧ xs.length ≤ c ∧ xs.length ≤ 140737488355328 := let ⟨h0, a, c, h1, h2, _⟩ := h; ⟨a, c, h1, h2, h0⟩
theorem Sl.nil (S : Shape α) (A : View) : Sl S A (.slice none 0 0) [] := ⟨by simp, none, 0, rfl, Nat.le_refl _, fun h => absurd h (by simp)⟩
theorem Sl.empty (S : Shape α) (A : View) (a : Option Addr) (c : Nat) : Sl S A (.slice a 0 c) [] := ⟨by simp, a, c, rfl, Nat.zero_le _, fun h => absurd h (by simp)⟩
/-- One element of a slice that is read. -/
theorem Sl.at {a : Option Addr} {n c : Nat} (h : Sl S A (.slice a n c) xs) {i : Nat} (hi : i < xs.length) : ∃ ad d, a = some ad ∧ S.rel A xs[i] d ∧ A.part (ad.add (i * S.size)) S.size = some d ∧ ∀ j u, d[j]? = some u → A.cell ((ad.add (i * S.size)).add j) = some u := by
  obtain ⟨h0, a', c', h1, h2, h3⟩ := h
  injection h1 with e1 e2 e3
  obtain ⟨ad, cs, rfl, hp, he⟩ := h3 (by omega)
  have hm : i * S.size + S.size ≤ xs.length * S.size := by
    have := Nat.mul_le_mul_right S.size (show i + 1 ≤ xs.length from hi)
    rw [Nat.add_mul] at this; omega
  have hpp := View.part_part hp hm
  exact ⟨ad, _, e1, he.at i hi, hpp, fun j u hj => View.part_cell hpp hj⟩
/-- The first elements of a slice. -/
theorem Sl.take {a : Option Addr} {n c : Nat} (h : Sl S A (.slice a n c) xs) {k : Nat} (hk : k ≤ xs.length) (es : Nat) : Sl S A (.slice (cutAddr a 0 c es) k c) (xs.take k) := by
  obtain ⟨h0, a', c', h1, h2, h3⟩ := h
  injection h1 with e1 e2 e3
  subst e1; subst e3
  have hlen : (xs.take k).length = k := by simp; omega
  refine ⟨by omega, cutAddr a 0 c es, c, by rw [hlen], by omega, fun hp => ?_⟩
  obtain ⟨ad, cs, rfl, hpart, he⟩ := h3 (by omega)
  have : cutAddr (some ad) 0 c es = some ad := by
    unfold cutAddr
    split
    · rfl
    · simp [Addr.add]
  rw [hlen]
  have hm : k * S.size ≤ xs.length * S.size := Nat.mul_le_mul_right _ hk
  refine ⟨ad, cs.take (k * S.size), this, ?_, he.take k⟩
  have := View.part_part hpart (i := 0) (m := k * S.size) (by omega)
  simpa [Addr.add] using this
/-- What is behind the first elements of a slice. -/
theorem Sl.drop {a : Option Addr} {n c : Nat} (h : Sl S A (.slice a n c) xs) {k : Nat} (hk : k ≤ xs.length) : Sl S A (.slice (cutAddr a k c S.size) (n - k) (c - k)) (xs.drop k) := by
  obtain ⟨h0, a', c', h1, h2, h3⟩ := h
  injection h1 with e1 e2 e3
  subst e1; subst e3
  have hlen : (xs.drop k).length = n - k := by simp; omega
  refine ⟨by omega, cutAddr a k c S.size, c - k, by rw [hlen], by omega, fun hp => ?_⟩
  obtain ⟨ad, cs, rfl, hpart, he⟩ := h3 (by omega)
  have hc : ¬ c = k := by omega
  have : cutAddr (some ad) k c S.size = some (ad.add (k * S.size)) := by
    unfold cutAddr
    rw [if_neg hc]; rfl
  have hm : k * S.size + (xs.drop k).length * S.size = xs.length * S.size := by
    rw [← Nat.add_mul]; congr 1; simp; omega
  refine ⟨_, cs.drop (k * S.size), this, ?_, he.drop k⟩
  have h4 := View.part_part hpart (i := k * S.size) (m := (xs.drop k).length * S.size) (by omega)
  rw [h4, List.take_of_length_le (by rw [List.length_drop, he.len]; omega)]

/-- A slice of one's own: its block holds just its elements, which need nothing of that block. -/
structure Own (S : Shape α) (e : TypeId) (A : View) (b c : Nat) (xs : List α) : Prop where
  ex : ∃ cs, A b = some ⟨e, cs, c * S.size, true⟩ ∧ Elems S (A.kill b) xs cs
  fits : xs.length ≤ c
  small : xs.length ≤ 140737488355328

theorem Own.sl {e : TypeId} {b c : Nat} (h : Own S e A b c xs) : Sl S A (.slice (some ⟨b, 0, none⟩) xs.length c) xs := by
  obtain ⟨⟨cs, hb, he⟩, hf, hs⟩ := h
  refine ⟨hs, _, c, rfl, hf, fun _ => ⟨_, cs, rfl, ?_, he.mono (Ext.kill A b)⟩⟩
  rw [part_at hb (by simp [he.len]) (fun v hv => he.one v (List.mem_of_mem_drop (List.mem_of_mem_take hv)))]
  simp [List.take_of_length_le, he.len]
theorem Own.mono {e : TypeId} {b c : Nat} (h : Own S e A b c xs) (hx : Ext A B) : Own S e B b c xs := by
  obtain ⟨⟨cs, hb, he⟩, hf, hs⟩ := h
  exact ⟨⟨cs, hx _ _ hb, he.mono (hx.killBoth b)⟩, hf, hs⟩
theorem Own.has {e : TypeId} {b c : Nat} (h : Own S e A b c xs) : ∃ k, A b = some k := let ⟨⟨_, hb, _⟩, _, _⟩ := h; ⟨_, hb⟩
theorem Own.lit {e : TypeId} {b n : Nat} (hb : A b = none) (hn : n = xs.length) (hs : n ≤ 140737488355328) (h : Elems S A xs cs) : Own S e (A.set b ⟨e, cs, n * S.size, true⟩) b n xs := by
  subst hn
  exact ⟨⟨cs, View.set_same .., h.mono (Ext.killNew hb _)⟩, Nat.le_refl _, hs⟩
/-- What is appended to a slice of one's own. -/
theorem Own.app {e : TypeId} {b c b' c' : Nat} (h : Own S e A b c xs) (hb : (A.kill b) b' = none) (hd : Elems S (A.kill b) ys ds) (cs : List Value) (hcs : A b = some ⟨e, cs, c * S.size, true⟩) (hc : (xs ++ ys).length ≤ c') (hsm : (xs ++ ys).length ≤ 140737488355328) :
    Own S e ((A.kill b).set b' ⟨e, cs ++ ds, c' * S.size, true⟩) b' c' (xs ++ ys) := by
  obtain ⟨⟨cs', hb', he⟩, hf, hs⟩ := h
  have : cs' = cs := by rw [hcs] at hb'; simpa using hb'.symm
  subst this
  exact ⟨⟨_, View.set_same .., (he.append hd).mono (Ext.killNew hb _)⟩, hc, hsm⟩
end

end Go.Proofs.Ytggklaimbklefaa

/- Arguments in frames; bundles. -/
set_option maxHeartbeats 4000000
set_option synthInstance.maxHeartbeats 400000
set_option synthInstance.maxSize 4096
set_option linter.unusedSimpArgs false
set_option linter.unusedVariables false
namespace Go.Proofs.Ytggklaimbklefaa

section
variable (a b c d e : Value)
theorem fr10 : frame0 #[a] 0 = a := rfl
theorem fr20 : frame0 #[a, b] 0 = a := rfl
theorem fr21 : frame0 #[a, b] 1 = b := rfl
theorem fr30 : frame0 #[a, b, c] 0 = a := rfl
theorem fr31 : frame0 #[a, b, c] 1 = b := rfl
theorem fr32 : frame0 #[a, b, c] 2 = c := rfl
theorem fr40 : frame0 #[a, b, c, d] 0 = a := rfl
theorem fr41 : frame0 #[a, b, c, d] 1 = b := rfl
theorem fr42 : frame0 #[a, b, c, d] 2 = c := rfl
theorem fr43 : frame0 #[a, b, c, d] 3 = d := rfl
end
theorem frs : type_of% (And.intro @fr10 (And.intro @fr20 (And.intro @fr21 (And.intro @fr30 (And.intro @fr31 (And.intro @fr32 (And.intro @fr40 (And.intro @fr41 (And.intro @fr42 @fr43))))))))) := And.intro @fr10 (And.intro @fr20 (And.intro @fr21 (And.intro @fr30 (And.intro @fr31 (And.intro @fr32 (And.intro @fr40 (And.intro @fr41 (And.intro @fr42 @fr43))))))))

/-- The model's stand-in for internal/bytealg.IndexByteString. -/
theorem acall_indexByte {P : Program} {A : View} {K : Value → View → Prop} {f : FuncId} {fn : Func} (hf : P.funcs[f]? = some fn) (hname : (fn.name == "runtime.NumGoroutine") = false)
    (hb : fn.body.isNone = true) (hn : Extern.findNext fn = none) (he : Extern.find fn = some Extern.BytealgIndexByte.indexByte) (s : ByteArray) (c : Int) :
    acall P (.func (.func f) #[] #[]) #[.string s, .int .u8 c] A K = K (.int .i64 (Go.Lib.indexByte s.data.toList c.toNat.toUInt8)) A := by
  rw [← Go.Lib.firstIdx_eq]
  unfold acall
  show sawp P (callFunc f (#[] ++ #[.string s, .int .u8 c] ++ #[])) (nextK P K) A = _
  unfold callFunc
  show sawp P (Sem.bind (.program .pure) _) (nextK P K) A = _
  simp only [Sem.bind, sawp, hf, hname, hb, hn, he, Bool.false_eq_true, if_false, if_true]
  show sawp P (Sem.bind (Extern.BytealgIndexByte.indexByte #[.string s, .int .u8 c]) _) (nextK P K) A = _
  rw [sawp_bind]
  show sawp P (match (List.range s.size).find? fun i => s[i]! == c.toNat.toUInt8 with | some i => pure (goInt i) | none => pure (goInt (-1))) _ A = _
  unfold firstIdx
  split <;> rename_i h <;> rw [h] <;> rfl

theorem ite_tt {α : Type} (a b : α) : (if true = true then a else b) = a := rfl
theorem ite_ff {α : Type} (a b : α) : (if false = true then a else b) = b := rfl
theorem abin_rem {P : Program} {A : View} {K : Value → View → Prop} (k : IntKind) (t : TypeId) (x y : Operand) (a b : Int) (h : ¬ b = 0) : abin P .rem t x y (.int k a) (.int k b) A K = K (.int k (a.tmod b)) A := by
  have e : Op.intDiv .rem k a b = pure (.int k (a.tmod b)) := by unfold Op.intDiv; rw [if_neg h]
  have e2 : binOp .rem t (.int k a) (.int k b) = Op.intDiv .rem k a b := by unfold binOp; simp
  show sawp P (binOp .rem t (.int k a) (.int k b)) K A = _
  rw [e2, e]
  rfl

theorem abin_quo {P : Program} {A : View} {K : Value → View → Prop} (k : IntKind) (t : TypeId) (x y : Operand) (a b : Int) (h : ¬ b = 0) : abin P .quo t x y (.int k a) (.int k b) A K = K (.int k (k.wrap (a.tdiv b))) A := by
  have e : Op.intDiv .quo k a b = pure (.int k (k.wrap (a.tdiv b))) := by unfold Op.intDiv; rw [if_neg h]
  have e2 : binOp .quo t (.int k a) (.int k b) = Op.intDiv .quo k a b := by unfold binOp; simp
  show sawp P (binOp .quo t (.int k a) (.int k b)) K A = _
  rw [e2, e]
  rfl

theorem abox_agg {P : Program} {A : View} {K : Value → View → Prop} (t : TypeId) (l : List Value) (h : l.all (·.oneCell') = true) : abox P t (.agg l.toArray) A K = ∀ b, A b = none → K (.pointer (some ⟨b, 0, none⟩)) (A.set b ⟨t, l, l.length, true⟩) := by
  rw [abox_at (by simpa [Value.cells] using h)]
  simp [Value.cells]

/-! ### conversions -/
theorem sawp_cellsFrom {P : Program} {A : View} (a : Addr) : ∀ (cs : List Value) (i : Nat) (acc : Array Value) (K : Array Value → View → Prop), (∀ j v, cs[j]? = some v → A.cell (a.add (i + j)) = some v) →
    sawp P (loadCellsFrom a i cs.length acc) K A = K (acc ++ cs.toArray) A
  | [], i, acc, K, _ => by show K acc A = _; rw [show acc ++ ([] : List Value).toArray = acc by simp]
  | c :: cs, i, acc, K, h => by
    show sawp P (Sem.bind (.load .plain (a.add i) .pure) fun v => loadCellsFrom a (i + 1) cs.length (acc.push v)) K A = _
    simp only [Sem.bind, sawp]
    have h0 := h 0 c rfl
    rw [Nat.add_zero] at h0
    rw [h0]
    simp only
    rw [sawp_cellsFrom a cs (i + 1) (acc.push c) K (fun j v hj => by
      have := h (j + 1) v hj
      rwa [show i + 1 + j = i + (j + 1) by omega])]
    congr 1
    simp

theorem sawp_forIn_bytes {P : Program} {A : View} (f : Value → ByteArray → Sem (ForInStep ByteArray)) (hf : ∀ (n : Int) (r : ByteArray) (K : ForInStep ByteArray → View → Prop), sawp P (f (.int .u8 n) r) K A = K (.yield (r.push (UInt8.ofNat n.toNat))) A) :
    ∀ (ns : List Int) (s : ByteArray) (K : ByteArray → View → Prop), sawp P (forIn (ns.map (Value.int .u8)) s f) K A = K (ns.foldl (fun r n => r.push (UInt8.ofNat n.toNat)) s) A := by
  intro ns
  induction ns with
  | nil => intro s K; rfl
  | cons n ns ih =>
    intro s K
    simp only [List.map_cons, List.forIn_cons, List.foldl_cons]
    show sawp P (Sem.bind (f (.int .u8 n) s) _) K A = _
    rw [sawp_bind, hf]
    exact ih _ K

/-- Bytes to a string. -/
theorem aconv_bytes {P : Program} {A : View} {K : Value → View → Prop} {src dst e : TypeId} (hs : P.underlying src = some (.slice e)) (he : P.underlying e = some (.int .u8)) (hd : P.underlying dst = some .string) {a : Addr} {ns : List Int} {c : Nat}
    (h : ∀ j v, (ns.map (Value.int .u8))[j]? = some v → A.cell (a.add j) = some v) :
    aconv P src dst (.slice (some a) ns.length c) A K = K (.string (ns.foldl (fun r n => r.push (UInt8.ofNat n.toNat)) ByteArray.empty)) A := by
  unfold aconv convert
  rw [sawp_underlying hs, sawp_underlying hd]
  show sawp P (underlying e >>= _) K A = _
  rw [sawp_underlying he]
  show sawp P (Conv.bytesToString (.slice (some a) ns.length c)) K A = _
  unfold Conv.bytesToString
  show sawp P (Sem.bind (loadCellsFrom a 0 ns.length #[]) _) K A = _
  rw [sawp_bind]
  have := sawp_cellsFrom (P := P) (A := A) a (ns.map (Value.int .u8)) 0 #[] (fun x A => sawp P (do
    let s ← forIn x ByteArray.empty fun c s => do
      let .int .u8 n := c | stuck "bytesToString: byte expected"
      pure (ForInStep.yield (s.push (UInt8.ofNat n.toNat)))
    pure (.string s)) K A) (fun j v hj => by rw [Nat.zero_add]; exact h j v hj)
  rw [List.length_map] at this
  refine this.trans ?_
  rw [show (#[] : Array Value) ++ (ns.map (Value.int .u8)).toArray = (ns.map (Value.int .u8)).toArray by simp, List.forIn_toArray]
  show sawp P (Sem.bind _ _) K A = _
  rw [sawp_bind, sawp_forIn_bytes _ (fun n r K => rfl)]
  rfl

theorem aconv_int {P : Program} {A : View} {K : Value → View → Prop} {src dst : TypeId} {s k : IntKind} (hs : P.underlying src = some (.int s)) (hd : P.underlying dst = some (.int k)) (q : IntKind) (n : Int) :
    aconv P src dst (.int q n) A K = K (.int k (k.wrap n)) A := by
  unfold aconv convert
  rw [sawp_underlying hs, sawp_underlying hd]
  rfl

/-! ### plans, for simp -/
section
variable {P : Program} {A : View} {fr : Fr} {ops : Array Oper} {K : Fr → View → Prop} {J : List Rd → Fr → View → Prop} {W : List Rd} {L : List PItem}
theorem bseq_q (l : List Oper) (i : Nat) : bseq P l.toArray K (.q i :: L) W fr A = bitem P l.toArray (.q i) l[i]? W fr A fun W fr A => bseq P l.toArray K L W fr A := by rw [← List.getElem?_toArray]; rfl
theorem bseq_l (l : List Oper) (i : Nat) (b : Bool) : bseq P l.toArray K (.l i b :: L) W fr A = bitem P l.toArray (.l i b) l[i]? W fr A fun W fr A => bseq P l.toArray K L W fr A := by rw [← List.getElem?_toArray]; rfl
theorem bseq_c (l : List Oper) (i : Nat) (ks : List Nat) : bseq P l.toArray K (.c i ks :: L) W fr A = bitem P l.toArray (.c i ks) l[i]? W fr A fun W fr A => bseq P l.toArray K L W fr A := by rw [← List.getElem?_toArray]; rfl
theorem bitem_zero (it : PItem) (o : Oper) (l : List Oper) : bitem P ops it (o :: l)[0]? W fr A J = bitem P ops it (some o) W fr A J := rfl
theorem bitem_succ (it : PItem) (o : Oper) (l : List Oper) (n : Nat) : bitem P ops it (o :: l)[n + 1]? W fr A J = bitem P ops it l[n]? W fr A J := rfl
theorem rdsKept_cons (ks : List Nat) (i : Nat) (t : TypeId) (a : Addr) (v : Value) : rdsKept P A ks (⟨i, t, a, v⟩ :: W) = ((ks.contains i = true → A.loadv P t a = some v) ∧ rdsKept P A ks W) := rfl
theorem kc_nil (i : Nat) : ([] : List Nat).contains i = false := rfl
theorem kc_cons (i k : Nat) (ks : List Nat) : (k :: ks).contains i = (i == k || ks.contains i) := List.contains_cons
end
@[congr] theorem bseq_congr {P : Program} {A A' : View} {fr fr' : Fr} {ops : Array Oper} {K : Fr → View → Prop} {W : List Rd} {L : List PItem} (h1 : Mark A = A') (h2 : Mark fr = fr') : bseq P ops K L W fr A = bseq P ops K L W fr' A' := by rw [← h1, ← h2, mark_eq, mark_eq]
theorem pln : type_of% (And.intro @bseq_q (And.intro @bseq_l (And.intro @bseq_c (And.intro @bseq_nil (And.intro @bitem_zero (And.intro @bitem_succ (And.intro @bitem_q (And.intro @bitem_qg (And.intro @bitem_l (And.intro @bitem_lg (And.intro @bitem_c (And.intro @bitem_cg (@bload_at))))))))))))) := And.intro @bseq_q (And.intro @bseq_l (And.intro @bseq_c (And.intro @bseq_nil (And.intro @bitem_zero (And.intro @bitem_succ (And.intro @bitem_q (And.intro @bitem_qg (And.intro @bitem_l (And.intro @bitem_lg (And.intro @bitem_c (And.intro @bitem_cg (@bload_at))))))))))))

theorem plv : type_of% (And.intro @blate_t (And.intro @blate_f (And.intro @rdsKept_nil (And.intro @rdsKept_none (And.intro @rdsKept_cons (And.intro @kc_nil (And.intro @kc_cons (@bload_at)))))))) := And.intro @blate_t (And.intro @blate_f (And.intro @rdsKept_nil (And.intro @rdsKept_none (And.intro @rdsKept_cons (And.intro @kc_nil (And.intro @kc_cons (@bload_at)))))))

/-- A slice as one cell. -/
def slS {α : Type} (S : Shape α) : Shape (List α) where
  size := 1
  rel A xs cs := ∃ v, cs = [v] ∧ Sl S A v xs
  mono := fun he ⟨v, h, hs⟩ => ⟨v, h, hs.mono he⟩
  len := fun ⟨v, h, _⟩ => by rw [h]; rfl
  one := fun ⟨v, h, hs⟩ u hu => by
    obtain ⟨a, c, rfl, _⟩ := hs.slice
    rw [h, List.mem_singleton] at hu
    rw [hu]; rfl

def unitS : Shape Unit := ⟨0, fun _ _ cs => cs = [], fun _ h => h, fun h => by rw [h]; rfl, fun h v hv => by rw [h] at hv; cases hv⟩
/-- One behind the other. -/
def consS {α β : Type} (S : Shape α) (T : Shape β) : Shape (α × β) where
  size := S.size + T.size
  rel A x cs := ∃ c d, cs = c ++ d ∧ S.rel A x.1 c ∧ T.rel A x.2 d
  mono := fun he ⟨c, d, h, h1, h2⟩ => ⟨c, d, h, S.mono he h1, T.mono he h2⟩
  len := fun ⟨c, d, h, h1, h2⟩ => by rw [h, List.length_append, S.len h1, T.len h2]
  one := fun ⟨c, d, h, h1, h2⟩ v hv => by
    rw [h] at hv
    exact (List.mem_append.1 hv).elim (S.one h1 v) (T.one h2 v)

end Go.Proofs.Ytggklaimbklefaa

/- From what a statement hands a law: the data that its arguments hold, and that they read the same afterwards. -/
set_option maxHeartbeats 4000000
set_option synthInstance.maxHeartbeats 400000
set_option synthInstance.maxSize 4096
set_option linter.unusedSimpArgs false
set_option linter.unusedVariables false
namespace Go.Proofs.Ytggklaimbklefaa
open Go.ChangeShapes Go.WideShapes Go.ChangeAt Go.RowKit

/-- The view with which a law begins: all blocks are read, none is written. -/
def startV (W : World) : View := fun b => match W.heap[b]? with
  | some (.cells c t _) => some ⟨t, c.toList, c.size, false⟩
  | _ => none

theorem startV_rel (W : World) : Rel (startV W) W := fun b k hb => by
  unfold startV at hb
  split at hb
  · rename_i c t fz hc
    injection hb with hb
    subst hb
    exact ⟨⟨c, fz, hc, Nat.le_refl _, by simp, List.take_of_length_le (Nat.le_refl _), fun h => by cases h⟩, fun h => by cases h⟩
  · cases hb

theorem startV_own (W : World) (b : Nat) (k : Blk) (h : startV W b = some k) : k.own = false := by
  unfold startV at h
  split at h
  · injection h with h; subst h; rfl
  · cases h

theorem startV_cell {W : World} {a : Addr} {v : Value} (h : W.cell? a = some v) (h1 : v.oneCell' = true) : (startV W).cell a = some v := by
  unfold World.cell? at h
  split at h
  · rename_i c t fz hc
    split at h
    · cases h
    · rename_i hs
      refine View.cell_mk (k := ⟨t, c.toList, c.size, false⟩) (by simpa using hs) ?_ (by simpa using h) h1
      unfold startV; rw [hc]
  · cases h

theorem part_of_cells {A : View} {a : Addr} {n : Nat} (hn : 0 < n) (h : ∀ k, k < n → ∃ v, A.cell (a.add k) = some v) : ∃ cs, A.part a n = some cs ∧ cs.length = n ∧ ∀ k v, cs[k]? = some v → A.cell (a.add k) = some v := by
  obtain ⟨v0, h0⟩ := h 0 hn
  obtain ⟨hs, ⟨k, hk, _⟩, _⟩ := View.cell_some h0
  have e0 : a.add 0 = a := rfl
  rw [e0] at hs hk
  have each : ∀ j, j < n → ∃ v, k.cells[a.off + j]? = some v ∧ v.oneCell' = true := fun j hj => by
    obtain ⟨v, hv⟩ := h j hj
    obtain ⟨_, ⟨k', hk', hc⟩, h1⟩ := View.cell_some hv
    rw [add_block, hk] at hk'
    injection hk' with hk'
    subst hk'
    rw [add_off] at hc
    exact ⟨v, hc, h1⟩
  obtain ⟨v, hv, _⟩ := each (n - 1) (by omega)
  have hlt := (List.getElem?_eq_some_iff.1 hv).1
  have hp := View.part_mk (A := A) (a := a) (n := n) hs hk (by omega) (fun v hv => by
    obtain ⟨j, hj, he⟩ := List.getElem_of_mem hv
    rw [List.getElem_take, List.getElem_drop] at he
    have hjn : j < n := by rw [List.length_take] at hj; omega
    obtain ⟨u, hu, h1⟩ := each j hjn
    rw [List.getElem?_eq_getElem (by omega)] at hu
    injection hu with hu
    rw [← he, hu]; exact h1)
  refine ⟨_, hp, ?_, fun j v hj => View.part_cell hp hj⟩
  rw [List.length_take, List.length_drop]
  omega

section
variable {H : Type} {enc : TypeId × Value → H} {P : Program} {W : World} {α : Type}

/-- A type's data has a shape. -/
structure Reads (enc : TypeId × Value → H) (P : Program) (W : World) (S : Shape α) (t : TypeId) : Prop where
  size : P.cellsOf t = S.size
  op : ∀ fuel cs x, DataW.trod enc P W 0 (fun _ => true) true fuel t cs = some x → (∀ n ∈ x.1.weights P t, n ≤ reachBytes) → ∃ a, S.rel (startV W) a cs

theorem reads_str {t : TypeId} (ht : P.underlying t = some .string) (hc : P.cellsOf t = 1) : Reads enc P W strS t where
  size := hc
  op fuel cs x h hw := by
    obtain ⟨s, rfl, rfl, hs⟩ := DataW.trod_string ht h
    have : s.data.toList.length ≤ reachBytes := hw _ (by simp [DataW.weights])
    exact ⟨s, rfl, by simp [reachBytes] at this; show s.size ≤ 140737488355328; omega⟩

theorem reads_int {t : TypeId} (ht : P.underlying t = some (.int .i64)) (hc : P.cellsOf t = 1) : Reads enc P W intS t where
  size := hc
  op fuel cs x h hw := by
    obtain ⟨n, rfl, rfl, hs⟩ := DataW.trod_int ht h
    have := bounds_i64 hs
    exact ⟨n, rfl, this.1, by omega⟩

theorem reads_bool {t : TypeId} (ht : P.underlying t = some .bool) (hc : P.cellsOf t = 1) : Reads enc P W boolS t where
  size := hc
  op fuel cs x h hw := by
    cases fuel with
    | zero => simp [DataW.trod] at h
    | succ n =>
      unfold DataW.trod at h
      rw [ht] at h
      split at h <;> simp_all
      rename_i b
      cases b <;> simp [boolS]

theorem reads_byte {t : TypeId} (ht : P.underlying t = some (.int .u8)) (hc : P.cellsOf t = 1) : Reads enc P W byteS t where
  size := hc
  op fuel cs x h hw := by
    obtain ⟨n, rfl, rfl, hs⟩ := DataW.trod_int ht h
    have := bounds_u8 hs
    refine ⟨UInt8.ofNat n.toNat, ?_⟩
    show [Value.int .u8 n] = [Value.int .u8 ((UInt8.ofNat n.toNat).toNat : Nat)]
    rw [UInt8.toNat_ofNat']
    congr 2
    omega

theorem elems_of {S : Shape α} {A : View} {cs : List Value} (_hp : 0 < S.size) : ∀ (n : Nat), cs.length = n * S.size → (∀ i, i < n → ∃ x, S.rel A x ((cs.drop (i * S.size)).take S.size)) → ∃ xs : List α, xs.length = n ∧ Elems S A xs cs := by
  intro n
  induction n generalizing cs with
  | zero => intro h _; simp at h; subst h; exact ⟨[], rfl, .nil⟩
  | succ n ih =>
    intro h hx
    obtain ⟨x, h0⟩ := hx 0 (by omega)
    simp only [Nat.zero_mul, List.drop_zero] at h0
    rw [Nat.add_mul] at h
    obtain ⟨xs, hl, he⟩ := ih (cs := cs.drop S.size) (by simp; omega) (fun i hi => by
      obtain ⟨y, hy⟩ := hx (i + 1) (by omega)
      refine ⟨y, ?_⟩
      rw [List.drop_drop]
      rw [Nat.add_mul, Nat.one_mul, Nat.add_comm] at hy
      exact hy)
    refine ⟨x :: xs, by simp [hl], ?_⟩
    have := Elems.cons h0 he
    rwa [List.take_append_drop] at this

theorem weights_all {e : TypeId} {l : List (DataW H)} {d : DataW H} (hd : d ∈ l) {n : Nat} (hn : n ∈ d.weights P e) : n ∈ DataW.weightsAll P e l := by
  induction l with
  | nil => cases hd
  | cons a l ih =>
    unfold DataW.weightsAll
    rcases List.mem_cons.1 hd with rfl | h
    · exact List.mem_append_left _ hn
    · exact List.mem_append_right _ (ih h)

theorem reads_slice {S : Shape α} {t e : TypeId} (ht : P.underlying t = some (.slice e)) (hc : P.cellsOf t = 1) (hb : 0 < P.bytesOf e) (hp : 0 < S.size) (hS : Reads enc P W S e) : Reads enc P W (slS S) t where
  size := hc
  op fuel cs x h hw := by
    rcases DataW.trod_slice ht h with ⟨rfl, rfl⟩ | ⟨a, len, cap, elems, rest, n, rfl, rfl, rfl, _, hlc, hm, hlen, hel, hrest, _⟩
    · exact ⟨[], _, rfl, Sl.nil S _⟩
    · simp only [DataW.weights, ht] at hw
      have hlen2 : len ≤ 140737488355328 := by
        have := hw _ (List.mem_cons_self ..)
        simp only [List.length_map, reachBytes] at this
        have h2 := Nat.mul_le_mul_left (elems.length + rest.length) hb
        omega
      have each : ∀ i, i < len → ∃ cs' y, W.cells? 0 (a.add (i * S.size)) S.size = some cs' ∧ S.rel (startV W) y cs' := fun i hi => by
        have hi' : i < elems.length := by omega
        have := hel i hi
        rw [List.getElem?_eq_getElem hi', hS.size] at this
        obtain ⟨cs', h1, h2⟩ := Option.bind_eq_some_iff.1 this
        obtain ⟨y, hy⟩ := hS.op _ _ _ h2 (fun m hm => hw m (List.mem_cons_of_mem _ (List.mem_append_left _ (weights_all (d := elems[i].1) (List.mem_map.2 ⟨_, List.getElem_mem hi', rfl⟩) hm))))
        exact ⟨cs', y, h1, hy⟩
      rcases Nat.eq_zero_or_pos len with h0 | hpos
      · subst h0; exact ⟨[], _, rfl, Sl.empty S _ _ _⟩
      obtain ⟨cells, hpart, hcl, hcell⟩ := part_of_cells (A := startV W) (a := a) (n := len * S.size) (Nat.mul_pos hpos hp) (fun k hk => by
        have hi : k / S.size < len := Nat.div_lt_of_lt_mul (by rwa [Nat.mul_comm] at hk)
        obtain ⟨cs', y, h1, hy⟩ := each _ hi
        obtain ⟨_, hl, hc⟩ := World.cells?_some h1
        have hm : k % S.size < S.size := Nat.mod_lt _ hp
        have := hc _ hm
        rw [addr_add_add, Nat.mul_comm, Nat.div_add_mod, List.getElem?_eq_getElem (by omega)] at this
        exact ⟨_, startV_cell this (S.one hy _ (List.getElem_mem _))⟩)
      obtain ⟨xs, hxl, he⟩ := elems_of (S := S) (A := startV W) (cs := cells) hp len hcl (fun i hi => by
        obtain ⟨cs', y, h1, hy⟩ := each i hi
        obtain ⟨_, hl, hc⟩ := World.cells?_some h1
        have hmul : i * S.size + S.size ≤ len * S.size := by
          have := Nat.mul_le_mul_right S.size (show i + 1 ≤ len from hi)
          rw [Nat.add_mul] at this; omega
        refine ⟨y, ?_⟩
        have : (cells.drop (i * S.size)).take S.size = cs' := by
          refine List.ext_getElem? fun j => ?_
          rw [List.getElem?_take]
          split
          · rename_i hj
            rw [List.getElem?_drop]
            have hjl : i * S.size + j < cells.length := by omega
            rw [List.getElem?_eq_getElem hjl, ← hc j hj, addr_add_add]
            exact ((startV_rel W).cell (hcell _ _ (List.getElem?_eq_getElem hjl))).symm
          · rename_i hj
            rw [List.getElem?_eq_none (by omega)]
        rw [this]; exact hy)
      subst hxl
      exact ⟨xs, _, rfl, hlen2, _, _, rfl, hlc, fun _ => ⟨a, cells, rfl, hpart, he⟩⟩

/-- The fields of a struct, from a place on. -/
def ReadsF {τ : Type} (enc : TypeId × Value → H) (P : Program) (W : World) (T : Shape τ) (o : Nat) (fs : List (TypeId × Nat)) : Prop :=
  ∀ (n : Nat) (cs : List Value) (xs : List (DataW H × List MemPlace)), xs.length = fs.length → (∀ (i : Nat) f, fs[i]? = some f → DataW.trod enc P W 0 (fun _ => true) true n f.1 ((cs.drop f.2).take (P.cellsOf f.1)) = xs[i]?) → cs.length = o + T.size →
    (∀ m ∈ DataW.weightsEach P (fs.map (·.1)) (xs.map (·.1)), m ≤ reachBytes) → ∃ y, T.rel (startV W) y (cs.drop o)

theorem readsF_nil (o : Nat) : ReadsF enc P W unitS o [] := fun n cs xs _ _ hl _ => ⟨(), by
  show cs.drop o = []
  rw [List.drop_eq_nil_iff]
  simp [unitS] at hl
  omega⟩

theorem readsF_cons {β : Type} {S : Shape α} {T : Shape β} {o : Nat} {t : TypeId} {fs : List (TypeId × Nat)} (hS : Reads enc P W S t) (hT : ReadsF enc P W T (o + S.size) fs) : ReadsF enc P W (consS S T) o ((t, o) :: fs) := fun n cs xs hx hf hl hw => by
  cases xs with
  | nil => simp at hx
  | cons x xs =>
    have h0 := hf 0 (t, o) rfl
    simp only [hS.size] at h0
    obtain ⟨a, ha⟩ := hS.op _ _ _ h0 (fun m hm => hw m (by simp only [List.map_cons, DataW.weightsEach]; exact List.mem_append_left _ hm))
    have hl' : cs.length = o + (S.size + T.size) := hl
    obtain ⟨b, hb⟩ := hT n cs xs (by simpa using hx) (fun i g hg => by simpa using hf (i + 1) g (by simpa using hg)) (by omega) (fun m hm => hw m (by simp only [List.map_cons, DataW.weightsEach]; exact List.mem_append_right _ hm))
    refine ⟨(a, b), _, _, ?_, ha, hb⟩
    rw [← List.drop_drop, List.take_append_drop]

def fieldsL (P : Program) (t : TypeId) : Option (List (TypeId × Nat)) := match P.underlying t with
  | some (.struct fs) => some (fs.toList.map fun f => (f.type, f.offset))
  | _ => none

theorem reads_struct {τ : Type} {T : Shape τ} {t : TypeId} {l : List (TypeId × Nat)} (hl : fieldsL P t = some l) (hc : P.cellsOf t = T.size) (hF : ReadsF enc P W T 0 l) : Reads enc P W T t where
  size := hc
  op fuel cs x h hw := by
    unfold fieldsL at hl
    split at hl
    · rename_i fs ht
      injection hl with hl
      subst hl
      obtain ⟨xs, n, rfl, rfl, hl, hlen, hf⟩ := DataW.trod_struct ht h
      simp only [DataW.weights, ht] at hw
      obtain ⟨y, hy⟩ := hF n cs xs (by simpa using hlen) (fun i f hi => by
        rw [List.getElem?_map, Option.map_eq_some_iff] at hi
        obtain ⟨g, hg, rfl⟩ := hi
        exact hf i g (by simpa using hg)) (by rw [hl, hc]; simp) (by rw [List.map_map]; exact hw)
      exact ⟨y, by simpa using hy⟩
    · cases hl

/-- What arguments hold is read again as it was, where the old blocks are as they were. -/
theorem args_stay {W' : World} (hl : laidOutB P = true) {sp : Nat → Bool} (hh : ∀ b, b < W.heap.size → W'.heap[b]? = W.heap[b]?) : ∀ (ts : List TypeId) (vs : List Value) (ds : List (DataW H)) (ps : List MemPlace),
    (∀ t ∈ ts, P.readableRec t = true ∧ t < P.types.size) → (∀ p ∈ ps, p.block < W.heap.size) → (∀ p ∈ ps, sp p.block = true) → DataW.TrodAll enc P W 0 (fun _ => true) true ts vs ds ps → DataW.TrodAll enc P W' 0 sp true ts vs ds ps
  | [], [], [], _, _, _, _, h => h
  | t :: ts, v :: vs, d :: ds, ps, hr, hlt, hsp, ⟨p, q, h1, h2, e⟩ => by
    subst e
    have same : ∀ x ∈ p, W.sameAt W' x := fun x hx => by
      have hb := hh _ (hlt x (List.mem_append_left _ hx))
      cases x with
      | cell b off =>
        show W'.cell? _ = W.cell? _
        unfold World.cell?
        have : W'.heap[b]? = W.heap[b]? := hb
        simp only [this]
      | map b => exact hb
    obtain ⟨n, hn⟩ := h1
    have ht := hr t (List.mem_cons_self ..)
    exact ⟨p, q, ⟨n, DataW.trod_stays (kids_book hl ht.1) (book_sized ht.1) (fun h => by cases h) ⟨ht.2, book_self t⟩ hn same (fun x hx => hsp x (List.mem_append_left _ hx))⟩,
      args_stay hl hh ts vs ds q (fun t ht => hr t (List.mem_cons_of_mem _ ht)) (fun x hx => hlt x (List.mem_append_right _ hx)) (fun x hx => hsp x (List.mem_append_right _ hx)) h2, rfl⟩
end

end Go.Proofs.Ytggklaimbklefaa
