/- From what a statement hands a law: the data that its arguments hold, and that they read the same afterwards. -/
import Derived.Test.YtggklaimbklefaaDoorFw10
import Derived.ProofKit
import Derived.Deep.DeepHandedRow
import Derived.SizedLaws
import Derived.OpenShut
import Derived.WideKeyArgs
set_option maxHeartbeats 4000000
set_option synthInstance.maxHeartbeats 400000
set_option synthInstance.maxSize 4096
set_option linter.unusedSimpArgs false
set_option linter.unusedVariables false
namespace Go.Proofs.YtggklaimbklefaaDoor
open Go.ChangeShapes Go.WideShapes Go.ChangeAt Go.RowKit

/-- The view with which a law begins: all blocks are read, none is written. -/
def startV (W : World) : View := fun b => match W.heap[b]? with
  | some (.cells c t _) => some ⟨t, c.toList, c.size, false⟩
  | _ => none

theorem startV_rel (W : World) : Rel (startV W) W := fun b k hb => by
  unfold startV at hb
  split at hb
  · rename_i c t fz hc
    injection hb with hb
    subst hb
    exact ⟨⟨c, fz, hc, Nat.le_refl _, by simp, List.take_of_length_le (Nat.le_refl _), fun h => by cases h⟩, fun h => (by cases h), fun _ _ => ⟨c, fz, hc, rfl⟩⟩
  · cases hb

theorem startV_own (W : World) (b : Nat) (k : Blk) (h : startV W b = some k) : k.own = false := by
  unfold startV at h
  split at h
  · injection h with h; subst h; rfl
  · cases h

theorem startV_cell {W : World} {a : Addr} {v : Value} (h : W.cell? a = some v) (h1 : v.oneCell' = true) : (startV W).cell a = some v := by
  unfold World.cell? at h
  split at h
  · rename_i c t fz hc
    split at h
    · cases h
    · rename_i hs
      refine View.cell_mk (k := ⟨t, c.toList, c.size, false⟩) (by simpa using hs) ?_ (by simpa using h) h1
      unfold startV; rw [hc]
  · cases h

theorem part_of_cells {A : View} {a : Addr} {n : Nat} (hn : 0 < n) (h : ∀ k, k < n → ∃ v, A.cell (a.add k) = some v) : ∃ cs, A.part a n = some cs ∧ cs.length = n ∧ ∀ k v, cs[k]? = some v → A.cell (a.add k) = some v := by
  obtain ⟨v0, h0⟩ := h 0 hn
  obtain ⟨hs, ⟨k, hk, _⟩, _⟩ := View.cell_some h0
  have e0 : a.add 0 = a := rfl
  rw [e0] at hs hk
  have each : ∀ j, j < n → ∃ v, k.cells[a.off + j]? = some v ∧ v.oneCell' = true := fun j hj => by
    obtain ⟨v, hv⟩ := h j hj
    obtain ⟨_, ⟨k', hk', hc⟩, h1⟩ := View.cell_some hv
    rw [add_block, hk] at hk'
    injection hk' with hk'
    subst hk'
    rw [add_off] at hc
    exact ⟨v, hc, h1⟩
  obtain ⟨v, hv, _⟩ := each (n - 1) (by omega)
  have hlt := (List.getElem?_eq_some_iff.1 hv).1
  have hp := View.part_mk (A := A) (a := a) (n := n) hs hk (by omega) (fun v hv => by
    obtain ⟨j, hj, he⟩ := List.getElem_of_mem hv
    rw [List.getElem_take, List.getElem_drop] at he
    have hjn : j < n := by rw [List.length_take] at hj; omega
    obtain ⟨u, hu, h1⟩ := each j hjn
    rw [List.getElem?_eq_getElem (by omega)] at hu
    injection hu with hu
    rw [← he, hu]; exact h1)
  refine ⟨_, hp, ?_, fun j v hj => View.part_cell hp hj⟩
  rw [List.length_take, List.length_drop]
  omega

section
variable {H : Type} {enc : TypeId × Value → H} {P : Program} {W : World} {α : Type}

/-- A type's data has a shape. -/
structure Reads (enc : TypeId × Value → H) (P : Program) (W : World) (S : Shape α) (t : TypeId) : Prop where
  size : P.cellsOf t = S.size
  op : ∀ fuel cs x, DataW.trod enc P W 0 (fun _ => true) true fuel t cs = some x → (∀ n ∈ x.1.weights P t, n ≤ reachBytes) → ∃ a, S.rel (startV W) a cs

theorem reads_str {t : TypeId} (ht : P.underlying t = some .string) (hc : P.cellsOf t = 1) : Reads enc P W strS t where
  size := hc
  op fuel cs x h hw := by
    obtain ⟨s, rfl, rfl, hs⟩ := DataW.trod_string ht h
    have : s.data.toList.length ≤ reachBytes := hw _ (by simp [DataW.weights])
    exact ⟨s, rfl, by simp [reachBytes] at this; show s.size ≤ 140737488355328; omega⟩

theorem reads_int {t : TypeId} (ht : P.underlying t = some (.int .i64)) (hc : P.cellsOf t = 1) : Reads enc P W intS t where
  size := hc
  op fuel cs x h hw := by
    obtain ⟨n, rfl, rfl, hs⟩ := DataW.trod_int ht h
    have := bounds_i64 hs
    exact ⟨n, rfl, this.1, by omega⟩

theorem reads_bool {t : TypeId} (ht : P.underlying t = some .bool) (hc : P.cellsOf t = 1) : Reads enc P W boolS t where
  size := hc
  op fuel cs x h hw := by
    cases fuel with
    | zero => simp [DataW.trod] at h
    | succ n =>
      unfold DataW.trod at h
      rw [ht] at h
      split at h <;> simp_all
      rename_i b
      cases b <;> simp [boolS]

theorem reads_byte {t : TypeId} (ht : P.underlying t = some (.int .u8)) (hc : P.cellsOf t = 1) : Reads enc P W byteS t where
  size := hc
  op fuel cs x h hw := by
    obtain ⟨n, rfl, rfl, hs⟩ := DataW.trod_int ht h
    have := bounds_u8 hs
    refine ⟨UInt8.ofNat n.toNat, ?_⟩
    show [Value.int .u8 n] = [Value.int .u8 ((UInt8.ofNat n.toNat).toNat : Nat)]
    rw [UInt8.toNat_ofNat']
    congr 2
    omega

theorem elems_of {S : Shape α} {A : View} {cs : List Value} (_hp : 0 < S.size) : ∀ (n : Nat), cs.length = n * S.size → (∀ i, i < n → ∃ x, S.rel A x ((cs.drop (i * S.size)).take S.size)) → ∃ xs : List α, xs.length = n ∧ Elems S A xs cs := by
  intro n
  induction n generalizing cs with
  | zero => intro h _; simp at h; subst h; exact ⟨[], rfl, .nil⟩
  | succ n ih =>
    intro h hx
    obtain ⟨x, h0⟩ := hx 0 (by omega)
    simp only [Nat.zero_mul, List.drop_zero] at h0
    rw [Nat.add_mul] at h
    obtain ⟨xs, hl, he⟩ := ih (cs := cs.drop S.size) (by simp; omega) (fun i hi => by
      obtain ⟨y, hy⟩ := hx (i + 1) (by omega)
      refine ⟨y, ?_⟩
      rw [List.drop_drop]
      rw [Nat.add_mul, Nat.one_mul, Nat.add_comm] at hy
      exact hy)
    refine ⟨x :: xs, by simp [hl], ?_⟩
    have := Elems.cons h0 he
    rwa [List.take_append_drop] at this

theorem weights_all {e : TypeId} {l : List (DataW H)} {d : DataW H} (hd : d ∈ l) {n : Nat} (hn : n ∈ d.weights P e) : n ∈ DataW.weightsAll P e l := by
  induction l with
  | nil => cases hd
  | cons a l ih =>
    unfold DataW.weightsAll
    rcases List.mem_cons.1 hd with rfl | h
    · exact List.mem_append_left _ hn
    · exact List.mem_append_right _ (ih h)

theorem reads_slice {S : Shape α} {t e : TypeId} (ht : P.underlying t = some (.slice e)) (hc : P.cellsOf t = 1) (hb : 0 < P.bytesOf e) (hp : 0 < S.size) (hS : Reads enc P W S e) : Reads enc P W (slS S) t where
  size := hc
  op fuel cs x h hw := by
    rcases DataW.trod_slice ht h with ⟨rfl, rfl⟩ | ⟨a, len, cap, elems, rest, n, rfl, rfl, rfl, _, hlc, hm, hlen, hel, hrest, _⟩
    · exact ⟨[], _, rfl, Sl.nil S _⟩
    · simp only [DataW.weights, ht] at hw
      have hlen2 : len ≤ 140737488355328 := by
        have := hw _ (List.mem_cons_self ..)
        simp only [List.length_map, reachBytes] at this
        have h2 := Nat.mul_le_mul_left (elems.length + rest.length) hb
        omega
      have each : ∀ i, i < len → ∃ cs' y, W.cells? 0 (a.add (i * S.size)) S.size = some cs' ∧ S.rel (startV W) y cs' := fun i hi => by
        have hi' : i < elems.length := by omega
        have := hel i hi
        rw [List.getElem?_eq_getElem hi', hS.size] at this
        obtain ⟨cs', h1, h2⟩ := Option.bind_eq_some_iff.1 this
        obtain ⟨y, hy⟩ := hS.op _ _ _ h2 (fun m hm => hw m (List.mem_cons_of_mem _ (List.mem_append_left _ (weights_all (d := elems[i].1) (List.mem_map.2 ⟨_, List.getElem_mem hi', rfl⟩) hm))))
        exact ⟨cs', y, h1, hy⟩
      rcases Nat.eq_zero_or_pos len with h0 | hpos
      · subst h0; exact ⟨[], _, rfl, Sl.empty S _ _ _⟩
      obtain ⟨cells, hpart, hcl, hcell⟩ := part_of_cells (A := startV W) (a := a) (n := len * S.size) (Nat.mul_pos hpos hp) (fun k hk => by
        have hi : k / S.size < len := Nat.div_lt_of_lt_mul (by rwa [Nat.mul_comm] at hk)
        obtain ⟨cs', y, h1, hy⟩ := each _ hi
        obtain ⟨_, hl, hc⟩ := World.cells?_some h1
        have hm : k % S.size < S.size := Nat.mod_lt _ hp
        have := hc _ hm
        rw [addr_add_add, Nat.mul_comm, Nat.div_add_mod, List.getElem?_eq_getElem (by omega)] at this
        exact ⟨_, startV_cell this (S.one hy _ (List.getElem_mem _))⟩)
      obtain ⟨xs, hxl, he⟩ := elems_of (S := S) (A := startV W) (cs := cells) hp len hcl (fun i hi => by
        obtain ⟨cs', y, h1, hy⟩ := each i hi
        obtain ⟨_, hl, hc⟩ := World.cells?_some h1
        have hmul : i * S.size + S.size ≤ len * S.size := by
          have := Nat.mul_le_mul_right S.size (show i + 1 ≤ len from hi)
          rw [Nat.add_mul] at this; omega
        refine ⟨y, ?_⟩
        have : (cells.drop (i * S.size)).take S.size = cs' := by
          refine List.ext_getElem? fun j => ?_
          rw [List.getElem?_take]
          split
          · rename_i hj
            rw [List.getElem?_drop]
            have hjl : i * S.size + j < cells.length := by omega
            rw [List.getElem?_eq_getElem hjl, ← hc j hj, addr_add_add]
            exact ((startV_rel W).cell (hcell _ _ (List.getElem?_eq_getElem hjl))).symm
          · rename_i hj
            rw [List.getElem?_eq_none (by omega)]
        rw [this]; exact hy)
      subst hxl
      exact ⟨xs, _, rfl, hlen2, _, _, rfl, hlc, fun _ => ⟨a, cells, rfl, hpart, he⟩⟩

/-- The fields of a struct, from a place on. -/
def ReadsF {τ : Type} (enc : TypeId × Value → H) (P : Program) (W : World) (T : Shape τ) (o : Nat) (fs : List (TypeId × Nat)) : Prop :=
  ∀ (n : Nat) (cs : List Value) (xs : List (DataW H × List MemPlace)), xs.length = fs.length → (∀ (i : Nat) f, fs[i]? = some f → DataW.trod enc P W 0 (fun _ => true) true n f.1 ((cs.drop f.2).take (P.cellsOf f.1)) = xs[i]?) → cs.length = o + T.size →
    (∀ m ∈ DataW.weightsEach P (fs.map (·.1)) (xs.map (·.1)), m ≤ reachBytes) → ∃ y, T.rel (startV W) y (cs.drop o)

theorem readsF_nil (o : Nat) : ReadsF enc P W unitS o [] := fun n cs xs _ _ hl _ => ⟨(), by
  show cs.drop o = []
  rw [List.drop_eq_nil_iff]
  simp [unitS] at hl
  omega⟩

theorem readsF_cons {β : Type} {S : Shape α} {T : Shape β} {o : Nat} {t : TypeId} {fs : List (TypeId × Nat)} (hS : Reads enc P W S t) (hT : ReadsF enc P W T (o + S.size) fs) : ReadsF enc P W (consS S T) o ((t, o) :: fs) := fun n cs xs hx hf hl hw => by
  cases xs with
  | nil => simp at hx
  | cons x xs =>
    have h0 := hf 0 (t, o) rfl
    simp only [hS.size] at h0
    obtain ⟨a, ha⟩ := hS.op _ _ _ h0 (fun m hm => hw m (by simp only [List.map_cons, DataW.weightsEach]; exact List.mem_append_left _ hm))
    have hl' : cs.length = o + (S.size + T.size) := hl
    obtain ⟨b, hb⟩ := hT n cs xs (by simpa using hx) (fun i g hg => by simpa using hf (i + 1) g (by simpa using hg)) (by omega) (fun m hm => hw m (by simp only [List.map_cons, DataW.weightsEach]; exact List.mem_append_right _ hm))
    refine ⟨(a, b), _, _, ?_, ha, hb⟩
    rw [← List.drop_drop, List.take_append_drop]

def fieldsL (P : Program) (t : TypeId) : Option (List (TypeId × Nat)) := match P.underlying t with
  | some (.struct fs) => some (fs.toList.map fun f => (f.type, f.offset))
  | _ => none

theorem reads_struct {τ : Type} {T : Shape τ} {t : TypeId} {l : List (TypeId × Nat)} (hl : fieldsL P t = some l) (hc : P.cellsOf t = T.size) (hF : ReadsF enc P W T 0 l) : Reads enc P W T t where
  size := hc
  op fuel cs x h hw := by
    unfold fieldsL at hl
    split at hl
    · rename_i fs ht
      injection hl with hl
      subst hl
      obtain ⟨xs, n, rfl, rfl, hl, hlen, hf⟩ := DataW.trod_struct ht h
      simp only [DataW.weights, ht] at hw
      obtain ⟨y, hy⟩ := hF n cs xs (by simpa using hlen) (fun i f hi => by
        rw [List.getElem?_map, Option.map_eq_some_iff] at hi
        obtain ⟨g, hg, rfl⟩ := hi
        exact hf i g (by simpa using hg)) (by rw [hl, hc]; simp) (by rw [List.map_map]; exact hw)
      exact ⟨y, by simpa using hy⟩
    · cases hl

/-- What arguments hold is read again as it was, where the old blocks are as they were. -/
theorem args_stay {W' : World} (hl : laidOutB P = true) {sp : Nat → Bool} (hh : ∀ b, b < W.heap.size → W'.heap[b]? = W.heap[b]?) : ∀ (ts : List TypeId) (vs : List Value) (ds : List (DataW H)) (ps : List MemPlace),
    (∀ t ∈ ts, P.readableRec t = true ∧ t < P.types.size) → (∀ p ∈ ps, p.block < W.heap.size) → (∀ p ∈ ps, sp p.block = true) → DataW.TrodAll enc P W 0 (fun _ => true) true ts vs ds ps → DataW.TrodAll enc P W' 0 sp true ts vs ds ps
  | [], [], [], _, _, _, _, h => h
  | t :: ts, v :: vs, d :: ds, ps, hr, hlt, hsp, ⟨p, q, h1, h2, e⟩ => by
    subst e
    have same : ∀ x ∈ p, W.sameAt W' x := fun x hx => by
      have hb := hh _ (hlt x (List.mem_append_left _ hx))
      cases x with
      | cell b off =>
        show W'.cell? _ = W.cell? _
        unfold World.cell?
        have : W'.heap[b]? = W.heap[b]? := hb
        simp only [this]
      | map b => exact hb
    obtain ⟨n, hn⟩ := h1
    have ht := hr t (List.mem_cons_self ..)
    exact ⟨p, q, ⟨n, DataW.trod_stays (kids_book hl ht.1) (book_sized ht.1) (fun h => by cases h) ⟨ht.2, book_self t⟩ hn same (fun x hx => hsp x (List.mem_append_left _ hx))⟩,
      args_stay hl hh ts vs ds q (fun t ht => hr t (List.mem_cons_of_mem _ ht)) (fun x hx => hlt x (List.mem_append_right _ hx)) (fun x hx => hsp x (List.mem_append_right _ hx)) h2, rfl⟩
end

end Go.Proofs.YtggklaimbklefaaDoor

