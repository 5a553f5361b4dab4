/- Ledgers: what is one's own, side by side; and kinds of data with their marks. -/
import Derived.Test.YtggklaimbklefaaDoorOw
set_option maxHeartbeats 4000000
set_option synthInstance.maxHeartbeats 400000
set_option synthInstance.maxSize 4096
set_option linter.unusedSimpArgs false
set_option linter.unusedVariables false
namespace Go.Proofs.YtggklaimbklefaaDoor

/-- Something known of some blocks. -/
structure It where
  fp : List Nat
  φ : View → Prop
  stay : ∀ {V W : View}, φ V → (∀ b k, b ∈ fp → V b = some k → W b = some k) → φ W
  has : ∀ {V : View}, φ V → ∀ b, b ∈ fp → ∃ k, V b = some k

/-- A block. -/
def bx (b : Nat) (k : Blk) : It := ⟨[b], fun V => V b = some k, fun h hs => hs b k (List.mem_singleton.2 rfl) h, fun h x hx => by rw [List.mem_singleton] at hx; subst hx; exact ⟨k, h⟩⟩
/-- A slice of one's own. -/
def osl {α : Type} (e : TypeId) (O : OwnS α) (fp : List Nat) (v : Value) (xs : List α) : It := ⟨fp, fun V => OSl e O V fp v xs, fun h hs => h.stay hs, fun h => h.has⟩
/-- Cells of one's own. -/
def oc {α : Type} (O : OwnS α) (fp : List Nat) (x : α) (cs : List Value) : It := ⟨fp, fun V => O.rel V fp x cs, fun h hs => O.stay h hs, fun h => O.has h⟩
/-- Elements of one's own. -/
def oel {α : Type} (O : OwnS α) (fp : List Nat) (xs : List α) (cs : List Value) : It := ⟨fp, fun V => OElems O V fp xs cs, fun h hs => h.stay hs, fun h => h.has⟩

def fps (L : List It) : List Nat := L.flatMap It.fp

/-- What has come since the view 'A': all that was known then is still so, and each thing of the list holds in blocks of its own. -/
structure Led (A : View) (L : List It) (V : View) : Prop where
  ext : Ext A V
  all : ∀ it, it ∈ L → it.φ V
  new : ∀ b, b ∈ fps L → A b = none
  nd : (fps L).Nodup

section
variable {A B V W : View} {L : List It}

theorem Led.nil (A : View) : Led A [] A := ⟨Ext.refl A, fun _ h => (by cases h), fun _ h => (by cases h), List.nodup_nil⟩

theorem Only.empty {V W : View} (h : Ext V W) : Only [] V W := fun b k _ hb => h b k hb
theorem Only.toExt {V W : View} (h : Only [] V W) : Ext V W := fun b k hb => h b k (by simp) hb

theorem mem_fps {it : It} (h : it ∈ L) {b : Nat} (hb : b ∈ it.fp) : b ∈ fps L := List.mem_flatMap.2 ⟨it, h, hb⟩

theorem Led.has (h : Led A L V) {b : Nat} (hb : b ∈ fps L) : ∃ k, V b = some k := by
  obtain ⟨it, hit, hb⟩ := List.mem_flatMap.1 hb
  exact it.has (h.all it hit) b hb

theorem Led.step (h : Led A L V) (he : Ext V W) : Led A L W := ⟨h.ext.trans he, fun it hit => it.stay (h.all it hit) (fun b k _ hb => he b k hb), h.new, h.nd⟩

theorem Led.cons (h : Led A L V) (he : Ext V W) (it : It) (hφ : it.φ W) (hfr : ∀ b, b ∈ it.fp → V b = none) (hnd : it.fp.Nodup) : Led A (it :: L) W := by
  refine ⟨h.ext.trans he, fun x hx => ?_, fun b hb => ?_, ?_⟩
  · rcases List.mem_cons.1 hx with rfl | hx
    · exact hφ
    · exact (h.step he).all x hx
  · rw [fps, List.flatMap_cons] at hb
    rcases List.mem_append.1 hb with hb | hb
    · exact h.ext.none (hfr b hb)
    · exact h.new b hb
  · rw [fps, List.flatMap_cons, List.nodup_append]
    refine ⟨hnd, h.nd, fun x hx y hy e => ?_⟩
    obtain ⟨k, hk⟩ := h.has hy
    rw [← e, hfr x hx] at hk; cases hk

theorem Led.at (h : Led A L V) {i : Nat} {it : It} (hi : L[i]? = some it) : it.φ V := h.all it (List.mem_of_getElem? hi)
theorem Led.fresh (h : Led A L V) {i : Nat} {it : It} (hi : L[i]? = some it) : ∀ b, b ∈ it.fp → A b = none := fun b hb => h.new b (mem_fps (List.mem_of_getElem? hi) hb)

theorem fps_split (L : List It) (i : Nat) (it : It) (hi : L[i]? = some it) : fps L = fps (L.take i) ++ (it.fp ++ fps (L.drop (i + 1))) := by
  have hlt := (List.getElem?_eq_some_iff.1 hi).1
  have e : L = L.take i ++ (it :: L.drop (i + 1)) := by
    have h2 := (List.getElem?_eq_some_iff.1 hi).2
    rw [← h2, List.getElem_cons_drop, List.take_append_drop]
  conv => lhs; rw [e]
  simp only [fps, List.flatMap_append, List.flatMap_cons]

theorem Led.nodup1 (h : Led A L V) {i : Nat} {it : It} (hi : L[i]? = some it) : it.fp.Nodup := by
  have := h.nd
  rw [fps_split L i it hi, List.nodup_append] at this
  exact (List.nodup_append.1 this.2.1).1

theorem fps_dis {L : List It} (hn : (fps L).Nodup) {i j : Nat} {it jt : It} (hi : L[i]? = some it) (hj : L[j]? = some jt) (hij : i ≠ j) : ∀ b, b ∈ it.fp → b ∉ jt.fp := by
  have key : ∀ {L : List It}, (fps L).Nodup → ∀ {i j : Nat} {it jt : It}, L[i]? = some it → L[j]? = some jt → i < j → ∀ b, b ∈ it.fp → b ∉ jt.fp := by
    intro L hn i j it jt hi hj hlt b hb hb2
    rw [fps_split L i it hi, List.nodup_append] at hn
    have h2 := List.nodup_append.1 hn.2.1
    have hm : jt ∈ L.drop (i + 1) := by
      refine List.mem_of_getElem? (i := j - (i + 1)) ?_
      rw [List.getElem?_drop, show i + 1 + (j - (i + 1)) = j by omega]
      exact hj
    exact h2.2.2 b hb b (mem_fps hm hb2) rfl
  intro b hb hb2
  rcases Nat.lt_or_ge i j with h1 | h1
  · exact key hn hi hj h1 b hb hb2
  · exact key hn hj hi (by omega) b hb2 hb

theorem Led.dis (h : Led A L V) {i j : Nat} {it jt : It} (hi : L[i]? = some it) (hj : L[j]? = some jt) (hij : i ≠ j) : ∀ b, b ∈ it.fp → b ∉ jt.fp := fps_dis h.nd hi hj hij

theorem fps_set {L : List It} {i : Nat} {it jt : It} (hi : L[i]? = some it) (hfp : jt.fp = it.fp) : fps (L.set i jt) = fps L := by
  have hlt := (List.getElem?_eq_some_iff.1 hi).1
  have hs : (L.set i jt)[i]? = some jt := by rw [List.getElem?_set_self hlt]
  rw [fps_split L i it hi, fps_split (L.set i jt) i jt hs, hfp, List.take_set_of_le (Nat.le_refl _), List.drop_set_of_lt (by omega)]

/-- One thing is changed, within its blocks. -/
theorem Led.upd (h : Led A L V) {i : Nat} {it jt : It} (hi : L[i]? = some it) (hfp : jt.fp = it.fp) (ho : Only it.fp V W) (hφ : jt.φ W) : Led A (L.set i jt) W := by
  have hfr := h.fresh hi
  refine ⟨fun b k hb => ?_, fun x hx => ?_, fun b hb => ?_, ?_⟩
  · refine ho b k (fun hm => ?_) (h.ext b k hb)
    rw [hfr b hm] at hb; cases hb
  · obtain ⟨j, hj⟩ := List.mem_iff_getElem?.1 hx
    by_cases hij : i = j
    · subst hij
      have hlt := (List.getElem?_eq_some_iff.1 hi).1
      rw [List.getElem?_set_self hlt] at hj
      obtain rfl := Option.some.inj hj
      exact hφ
    · rw [List.getElem?_set_ne hij] at hj
      exact x.stay (h.at hj) fun b k hb hk => ho b k (h.dis hj hi (fun e => hij e.symm) b hb) hk
  · rw [fps_set hi hfp] at hb; exact h.new b hb
  · rw [fps_set hi hfp]; exact h.nd

/-- Things are forgotten, or stand in another order. -/
theorem Led.pick (h : Led A L V) (M : List It) (hs : ∀ it, it ∈ M → it ∈ L) (hn : (fps M).Nodup) : Led A M V :=
  ⟨h.ext, fun it hit => h.all it (hs it hit), fun b hb => by
    obtain ⟨it, hit, hb⟩ := List.mem_flatMap.1 hb
    exact h.new b (mem_fps (hs it hit) hb), hn⟩
theorem fps_sublist {M : List It} (hs : M.Sublist L) : (fps M).Sublist (fps L) := by
  induction hs with
  | slnil => exact List.Sublist.refl _
  | cons a _ ih => exact ih.trans (by simp [fps])
  | cons_cons a _ ih => simp only [fps, List.flatMap_cons]; exact List.Sublist.append (List.Sublist.refl _) ih
theorem Led.sub (h : Led A L V) {M : List It} (hs : M.Sublist L) : Led A M V := h.pick M (fun _ hm => hs.subset hm) ((fps_sublist hs).nodup h.nd)
theorem Led.tail (h : Led A L V) : Led A L.tail V := h.sub (List.tail_sublist L)
theorem Led.unk (h : Led A L V) {b : Nat} (hb : V b = none) : A b = none := h.ext.none hb

/-- What is one's own since a later view is so since an earlier one. -/
theorem Led.base (h : Led B L V) (he : Ext A B) : Led A L V := ⟨he.trans h.ext, h.all, fun b hb => he.none (h.new b hb), h.nd⟩
/-- Side by side. -/
theorem Led.append {M : List It} (h : Led A L B) (h' : Led B M V) : Led A (M ++ L) V := by
  refine ⟨h.ext.trans h'.ext, fun it hit => ?_, fun b hb => ?_, ?_⟩
  · rcases List.mem_append.1 hit with hit | hit
    · exact h'.all it hit
    · exact (h.step h'.ext).all it hit
  · rw [fps, List.flatMap_append] at hb
    rcases List.mem_append.1 hb with hb | hb
    · exact h.ext.none (h'.new b hb)
    · exact h.new b hb
  · rw [fps, List.flatMap_append, List.nodup_append]
    refine ⟨h'.nd, h.nd, fun x hx y hy e => ?_⟩
    obtain ⟨k, hk⟩ := h.has hy
    rw [← e, h'.new x hx] at hk; cases hk

theorem Led.cell (h : Led A L V) {i b : Nat} {k : Blk} (hi : L[i]? = some (bx b k)) {o : Nat} {v : Value} (hc : k.cells[o]? = some v) (h1 : v.oneCell' = true) : V.cell ⟨b, 0 + o, none⟩ = some v := by
  rw [Nat.zero_add]
  exact cell_at (h.at hi) hc h1
theorem Led.part (h : Led A L V) {i b : Nat} {k : Blk} (hi : L[i]? = some (bx b k)) (h1 : k.cells.all (·.oneCell') = true) : V.part ⟨b, 0, none⟩ k.cells.length = some k.cells := by
  have hb : V b = some k := h.at hi
  have := part_at (A := V) (off := 0) (n := k.cells.length) hb (by omega) (fun v hv => List.all_eq_true.1 h1 v (List.mem_of_mem_drop (List.mem_of_mem_take hv)))
  simpa using this

/-! ### operations -/
variable {P : Program} {K : Value → View → Prop}
theorem led_box {t : TypeId} {cs : List Value} (h : Led A L V) (h1 : cs.all (·.oneCell') = true) (hk : ∀ b W, Ext V W → Led A (bx b ⟨t, cs, cs.length, true⟩ :: L) W → K (.pointer (some ⟨b, 0, none⟩)) W) : abox P t (.agg cs.toArray) V K := by
  rw [abox_agg t cs h1]
  exact fun b hb => hk b _ (Ext.new hb _) (h.cons (Ext.new hb _) (bx b _) (View.set_same ..) (fun x hx => by rw [List.mem_singleton.1 hx]; exact hb) (by simp [bx]))
/-- One value in a block of its own. -/
theorem led_box1 {t : TypeId} {v : Value} (h : Led A L V) (h0 : v.cells = #[v]) (h1 : v.oneCell' = true) (hk : ∀ b W, Ext V W → Led A (bx b ⟨t, [v], 1, true⟩ :: L) W → K (.pointer (some ⟨b, 0, none⟩)) W) : abox P t v V K := by
  rw [abox_at (by rw [h0]; simpa using h1)]
  intro b hb
  rw [h0]
  exact hk b _ (Ext.new hb _) (h.cons (Ext.new hb _) (bx b _) (View.set_same ..) (fun x hx => by rw [List.mem_singleton.1 hx]; exact hb) (by simp [bx]))
theorem led_alloc {t : TypeId} {cs : List Value} (hz : zeroCells? P t = some cs) (h : Led A L V) (hk : ∀ b W, Ext V W → Led A (bx b ⟨t, cs, cs.length, true⟩ :: L) W → K (.pointer (some ⟨b, 0, none⟩)) W) : aalloc P t V K := by
  rw [aalloc_at hz]
  exact fun b hb => hk b _ (Ext.new hb _) (h.cons (Ext.new hb _) (bx b _) (View.set_same ..) (fun x hx => by rw [List.mem_singleton.1 hx]; exact hb) (by simp [bx]))
theorem led_set (h : Led A L V) {i b : Nat} {k k' : Blk} (hi : L[i]? = some (bx b k)) : Led A (L.set i (bx b k')) (V.set b k') :=
  h.upd hi rfl (Only.set _ (List.mem_singleton.2 rfl)) (View.set_same ..)
theorem led_store {t e : TypeId} {n b o room : Nat} {v : Value} {cells : List Value} (h : Led A L V) (i : Nat) (hi : L[i]? = some (bx b ⟨e, cells, room, true⟩)) (hs : (P.info? t).map (·.size) = some n) (hn : v.cells.size = n)
    (hl : decide (o + n ≤ cells.length) = true) (h1 : v.cells.toList.all (·.oneCell') = true) (hk : ∀ W, Led A (L.set i (bx b ⟨e, cells.take o ++ v.cells.toList ++ cells.drop (o + n), room, true⟩)) W → K undef W) : astore P t (.pointer (some ⟨b, o, none⟩)) v V K := by
  have hb : V b = some ⟨e, cells, room, true⟩ := h.at hi
  rw [astore_at, storev_set hs (k := ⟨e, cells, room, true⟩) hb rfl rfl hn (of_decide_eq_true hl) h1]
  exact hk _ (led_set h hi)
/-- A whole variable is read. -/
theorem Led.partn (h : Led A L V) {i b n room : Nat} {e : TypeId} {cells : List Value} (hi : L[i]? = some (bx b ⟨e, cells, room, true⟩)) (hn : cells.length = n) (h1 : ∀ v ∈ cells, v.oneCell' = true) : V.part ⟨b, 0, none⟩ n = some cells := by
  subst hn
  exact h.part hi (List.all_eq_true.2 h1)
/-- A whole variable is written. -/
theorem led_storeAll {t e : TypeId} {n b room : Nat} {cells d : List Value} (h : Led A L V) (i : Nat) (hi : L[i]? = some (bx b ⟨e, cells, room, true⟩)) (hs : (P.info? t).map (·.size) = some n) (hn : d.length = n) (hl : cells.length = n)
    (h1 : ∀ v ∈ d, v.oneCell' = true) (hk : ∀ W, Led A (L.set i (bx b ⟨e, d, room, true⟩)) W → K undef W) : astore P t (.pointer (some ⟨b, 0, none⟩)) (.agg d.toArray) V K := by
  have hb : V b = some ⟨e, cells, room, true⟩ := h.at hi
  have hc : (Value.agg d.toArray).cells.toList = d := rfl
  rw [astore_at, storev_set hs (k := ⟨e, cells, room, true⟩) hb rfl rfl (by show d.toArray.size = n; simpa using hn) (by simp; omega) (by rw [hc]; exact List.all_eq_true.2 h1)]
  show K undef _
  have e1 : cells.take 0 ++ (Value.agg d.toArray).cells.toList ++ cells.drop (0 + n) = d := by
    rw [hc, List.take_zero, List.nil_append, List.drop_of_length_le (by omega), List.append_nil]
  simp only [e1]
  exact hk _ (led_set h hi)
theorem led0 (h : ∀ it, it ∈ L → it.φ V) (hn : (fps L).Nodup) : Led (fun _ => none) L V := ⟨(fun b k hb => nomatch hb), h, fun _ _ => rfl, hn⟩
theorem led_mid {t e : TypeId} {b o room : Nat} {v : Value} {c1 c3 d : List Value} (h : Led A L V) (i : Nat) (hi : L[i]? = some (bx b ⟨e, c1 ++ (d ++ c3), room, true⟩)) (hs : (P.info? t).map (·.size) = some 1) {j : Nat} {d' : List Value} (ho : o = c1.length + j)
    (hv : v.cells = #[v] ∧ v.oneCell' = true) (hd : j < d.length ∧ d.set j v = d') (hk : ∀ W, Only [b] V W → Led A (L.set i (bx b ⟨e, c1 ++ (d' ++ c3), room, true⟩)) W → K undef W) : astore P t (.pointer (some ⟨b, o, none⟩)) v V K := by
  subst ho
  obtain ⟨hj, rfl⟩ := hd
  have hb : V b = some ⟨e, c1 ++ (d ++ c3), room, true⟩ := h.at hi
  have hc : v.cells.toList = [v] := by rw [hv.1]
  rw [astore_at, storev_set hs (k := ⟨e, c1 ++ (d ++ c3), room, true⟩) hb rfl rfl (by rw [hv.1]; rfl) (by simp; omega) (by rw [hc]; simpa using hv.2)]
  have e1 : (c1 ++ (d ++ c3)).take (c1.length + j) ++ v.cells.toList ++ (c1 ++ (d ++ c3)).drop (c1.length + j + 1) = c1 ++ (d.set j v ++ c3) := by
    rw [hc, List.take_append, List.take_of_length_le (by omega), Nat.add_sub_cancel_left, List.take_append_of_le_length (by omega), Nat.add_assoc, ← List.drop_drop, List.drop_left' rfl, List.drop_append_of_le_length (by omega), List.set_eq_take_append_cons_drop, if_pos hj]
    simp only [List.append_assoc, List.cons_append, List.nil_append]
  show K undef _
  simp only [e1]
  exact hk _ (Only.set _ (List.mem_singleton.2 rfl)) (led_set h hi)
theorem led_midcell {e : TypeId} {b o room : Nat} {c1 c3 d : List Value} (h : Led A L V) {i : Nat} (hi : L[i]? = some (bx b ⟨e, c1 ++ (d ++ c3), room, true⟩)) {j : Nat} {v : Value} (ho : o = c1.length + j) (hd : d[j]? = some v) (h1 : v.oneCell' = true) : V.cell ⟨b, o, none⟩ = some v := by
  subst ho
  refine cell_at (h.at hi) ?_ h1
  show (c1 ++ (d ++ c3))[c1.length + j]? = _
  rw [List.getElem?_append_right (by omega), Nat.add_sub_cancel_left, List.getElem?_append_left (List.getElem?_eq_some_iff.1 hd).1, hd]
end
theorem OElems.uncons {α : Type} {O : OwnS α} {A : View} {fp : List Nat} {x : α} {xs : List α} {cs : List Value} (h : OElems O A fp (x :: xs) cs) : ∃ f g c d, fp = f ++ g ∧ cs = c ++ d ∧ O.rel A f x c ∧ OElems O A g xs d := by
  cases h with
  | cons h1 h2 => exact ⟨_, _, _, _, rfl, rfl, h1, h2⟩
theorem OElems.nil_inv {α : Type} {O : OwnS α} {A : View} {fp : List Nat} {cs : List Value} (h : OElems O A fp [] cs) : fp = [] ∧ cs = [] := by
  cases h
  exact ⟨rfl, rfl⟩

/-! ### kinds of data -/
/-- A kind of data: its shape, what is its own, how many marks it takes and what it is with them, and its weight. -/
structure GT (α : Type) where mkGT ::
  O : OwnS α
  cnt : α → Nat
  mk : Nat → α → α
  w : α → Nat

def mkBool (k : Nat) : Bool := decide (k % 3 = 0)
section
variable {α β : Type}
def cntL (T : GT α) : List α → Nat
  | [] => 0
  | x :: xs => T.cnt x + cntL T xs
def mkL (T : GT α) : Nat → List α → List α
  | _, [] => []
  | k, x :: xs => T.mk k x :: mkL T (k + T.cnt x) xs
def wL (T : GT α) : List α → Nat
  | [] => 0
  | x :: xs => T.w x + wL T xs
theorem cntL_append (T : GT α) (xs ys : List α) : cntL T (xs ++ ys) = cntL T xs + cntL T ys := by
  induction xs with
  | nil => simp [cntL]
  | cons x xs ih => simp only [List.cons_append, cntL, ih, Nat.add_assoc]
theorem wL_append (T : GT α) (xs ys : List α) : wL T (xs ++ ys) = wL T xs + wL T ys := by
  induction xs with
  | nil => simp [wL]
  | cons x xs ih => simp only [List.cons_append, wL, ih, Nat.add_assoc]
theorem mkL_append (T : GT α) : ∀ (k : Nat) (xs ys : List α), mkL T k (xs ++ ys) = mkL T k xs ++ mkL T (k + cntL T xs) ys
  | k, [], ys => by simp [mkL, cntL]
  | k, x :: xs, ys => by simp only [List.cons_append, mkL, cntL, mkL_append T _ xs ys, Nat.add_assoc]
theorem mkL_len (T : GT α) : ∀ (k : Nat) (xs : List α), (mkL T k xs).length = xs.length
  | _, [] => rfl
  | k, x :: xs => by simp only [mkL, List.length_cons, mkL_len T _ xs]
theorem cntL_take (T : GT α) (xs : List α) {i : Nat} (h : i < xs.length) : cntL T (xs.take (i + 1)) = cntL T (xs.take i) + T.cnt xs[i] := by
  rw [List.take_succ_eq_append_getElem h, cntL_append]; simp [cntL]
theorem mkL_take (T : GT α) (k : Nat) (xs : List α) {i : Nat} (h : i < xs.length) : mkL T k (xs.take (i + 1)) = mkL T k (xs.take i) ++ [T.mk (k + cntL T (xs.take i)) xs[i]] := by
  rw [List.take_succ_eq_append_getElem h, mkL_append]; simp [mkL]
theorem cntL_le (T : GT α) (xs : List α) (i : Nat) : cntL T (xs.take i) ≤ cntL T xs := by
  conv => rhs; rw [← List.take_append_drop i xs, cntL_append]
  omega
theorem cntL_split (T : GT α) (xs : List α) {i : Nat} (h : i < xs.length) : cntL T xs = cntL T (xs.take i) + T.cnt xs[i] + cntL T (xs.drop (i + 1)) := by
  have e1 : xs = xs.take i ++ (xs[i] :: xs.drop (i + 1)) := by rw [List.getElem_cons_drop, List.take_append_drop]
  have e2 := congrArg (cntL T) e1
  rw [cntL_append] at e2
  simp only [cntL] at e2
  omega
theorem mkL_get (T : GT α) : ∀ (k : Nat) (xs : List α) (i : Nat) (h : i < xs.length), (mkL T k xs)[i]'(by rw [mkL_len]; exact h) = T.mk (k + cntL T (xs.take i)) xs[i]
  | k, x :: xs, 0, _ => by simp [mkL, cntL]
  | k, x :: xs, i + 1, h => by
    simp only [mkL, List.getElem_cons_succ, List.take_succ_cons, cntL]
    rw [mkL_get T _ xs i (by simpa using h)]
    simp only [Nat.add_assoc]
theorem wL_mem (T : GT α) {xs : List α} {x : α} (h : x ∈ xs) : T.w x ≤ wL T xs := by
  induction xs with
  | nil => cases h
  | cons y ys ih =>
    simp only [wL]
    rcases List.mem_cons.1 h with rfl | h
    · omega
    · have := ih h; omega
theorem wL_take (T : GT α) (xs : List α) {i : Nat} (h : i < xs.length) : wL T (xs.take (i + 1)) = wL T (xs.take i) + T.w xs[i] := by
  rw [List.take_succ_eq_append_getElem h, wL_append]; simp [wL]

def intT : GT Int := ⟨intO, fun _ => 1, fun k _ => (k : Int), fun _ => 0⟩
def boolT : GT Bool := ⟨boolO, fun _ => 1, fun k _ => mkBool k, fun _ => 0⟩
def unitT : GT Unit := ⟨unitO, fun _ => 0, fun _ x => x, fun _ => 0⟩
def consT (T : GT α) (U : GT β) : GT (α × β) := ⟨consO T.O U.O, fun x => T.cnt x.1 + U.cnt x.2, fun k x => (T.mk k x.1, U.mk (k + T.cnt x.1) x.2), fun x => T.w x.1 + U.w x.2⟩
def slT (e : TypeId) (T : GT α) : GT (List α) := ⟨slO e T.O, cntL T, mkL T, fun xs => xs.length + wL T xs⟩
end

theorem tmod_mk {m : Int} {n : Nat} (h : m = (n : Int)) : decide (m.tmod 3 = 0) = mkBool n := by
  subst h
  unfold mkBool
  rw [show ((n : Int).tmod 3) = ((n % 3 : Nat) : Int) from (Int.ofNat_tmod n 3).symm]
  congr 1
  simp only [eq_iff_iff]
  omega
theorem wL_int (xs : List Int) : wL intT xs = 0 := by
  induction xs with
  | nil => rfl
  | cons x xs ih => simp [wL, intT] at ih ⊢; exact ih
theorem cntL_int (xs : List Int) : cntL intT xs = xs.length := by
  induction xs with
  | nil => rfl
  | cons x xs ih =>
    simp only [cntL, ih, List.length_cons]
    show 1 + _ = _
    omega
theorem cntL_int_le (xs : List Int) : cntL intT xs ≤ 4 * (xs.length + wL intT xs) := by rw [cntL_int]; omega

end Go.Proofs.YtggklaimbklefaaDoor

