/- Pointers compared and turned, bytes that become a text: the operations behind strings.Builder. -/
import Derived.Test.YtggklaimbklefaaDoorC3
import Derived.Test.YtggklaimbklefaaDoorE1
import Derived.Lib.UnsafeStr
import Derived.Lib.MakeNoZero
set_option maxHeartbeats 4000000
set_option synthInstance.maxHeartbeats 400000
set_option synthInstance.maxSize 4096
set_option linter.unusedSimpArgs false
set_option linter.unusedVariables false
namespace Go.Proofs.YtggklaimbklefaaDoor

set_option maxRecDepth 100000

section
variable {P : Program} {A V : View} {K : Value → View → Prop}

theorem sawp_bindB {α β : Type} (s : Sem α) (f : α → Sem β) (K : β → View → Prop) : sawp P (s >>= f) K A = sawp P s (fun a A => sawp P (f a) K A) A := sawp_bind ..

/-- A type of pointers to what takes memory. -/
def isPtrT (P : Program) (t : TypeId) : Bool := match P.underlying t with
  | some (.pointer e) => (match (P.info? e).map (·.size) with
    | some n => decide (n ≠ 0)
    | none => false)
  | _ => false

theorem isPtrT_spec {t : TypeId} (h : isPtrT P t = true) : ∃ e n, P.underlying t = some (.pointer e) ∧ (P.info? e).map (·.size) = some n ∧ n ≠ 0 := by
  unfold isPtrT at h
  split at h
  · rename_i e hu
    split at h
    · rename_i n hn
      exact ⟨e, n, hu, hn, of_decide_eq_true h⟩
    · cases h
  · cases h

theorem sawp_ptrEq {t : TypeId} (h : isPtrT P t = true) (a b : Option Addr) (hn : a = none ∨ b = none ∨ a = b) (J : Bool → View → Prop) : sawp P (Op.equalIn 10000 t (.pointer a) (.pointer b)) J A = J (decide (a = b)) A := by
  obtain ⟨e, n, hu, hs, h0⟩ := isPtrT_spec h
  unfold Op.equalIn
  rw [sawp_underlying hu]
  cases a with
  | none => cases b <;> rfl
  | some a =>
    cases b with
    | none => rfl
    | some b =>
      have e : a = b := by simpa using hn
      subst e
      show sawp P (sizeOf _ >>= _) J A = _
      rw [sawp_sizeOf hs, if_pos h0]
      show sawp P (if (a.block == a.block) = true then _ else _) J A = _
      rw [if_pos (beq_self_eq_true _)]
      show J (a == a) A = _
      rw [beq_self_eq_true, decide_eq_true rfl]

theorem abin_ptr {t : TypeId} (h : isPtrT P t = true) (x y : Operand) (a b : Option Addr) (hn : a = none ∨ b = none ∨ a = b) :
    abin P .eql t x y (.pointer a) (.pointer b) A K = K (.bool (decide (a = b))) A ∧ abin P .neq t x y (.pointer a) (.pointer b) A K = K (.bool (!decide (a = b))) A := by
  constructor
  all_goals
    unfold abin
    show sawp P (Sem.bind (.pure ()) _) K A = _
    simp only [Sem.bind]
    show sawp P (Sem.bind (Op.equalIn 10000 t (.pointer a) (.pointer b)) _) K A = _
    rw [sawp_bind, sawp_ptrEq h a b hn]
    rfl

theorem all_same {p : Prop} (r : Nat) : (∀ n, r ≤ n → p) = p := propext ⟨fun h => h r (Nat.le_refl _), fun h _ _ => h⟩

theorem sawp_shapeB {α : Type} {b : Nat} {k : Blk} (hb : A b = some k) (f : Option (TypeId × Nat) → Sem α) (J : α → View → Prop) : sawp P (shape b >>= f) J A = ∀ n, k.room ≤ n → sawp P (f (some (k.ty, n))) J A := by
  show sawp P (Sem.bind (Sem.shape b Sem.pure) f) J A = _
  rw [sawp_bind]
  simp only [sawp, hb]
theorem sawp_viewAt {α : Type} {b : Nat} {k : Blk} (hb : A b = some k) (f : Option (Addr × TypeId) → Sem α) (J : α → View → Prop) : sawp P (viewAt b >>= f) J A = sawp P (f none) J A := by
  unfold viewAt
  rw [sawp_bindB, sawp_shapeB hb]
  refine Eq.trans (forall_congr fun m => forall_congr fun hm => ?_) (all_same k.room)
  rfl
theorem sawp_cellsIn {α : Type} {b : Nat} {k : Blk} (hb : A b = some k) (f : Option Nat → Sem α) (J : α → View → Prop) : sawp P (cellsIn b >>= f) J A = ∀ n, k.room ≤ n → sawp P (f (some n)) J A := by
  unfold cellsIn
  rw [sawp_bindB, sawp_shapeB hb]
  rfl
theorem sawp_seenAt {α : Type} {a : Addr} {k : Blk} (hb : A a.block = some k) (f : Addr → Sem α) (J : α → View → Prop) : sawp P (Conv.seenAt a >>= f) J A = sawp P (f a) J A := by
  unfold Conv.seenAt
  rw [sawp_bindB, sawp_viewAt hb]
  rfl

/-- A pointer without its type. -/
theorem aconv_to {src dst t : TypeId} {n b : Nat} {k : Blk} (hs : P.underlying src = some (.pointer t)) (hd : P.underlying dst = some .unsafePointer) (ht : (P.info? t).map (·.size) = some n) (h0 : n ≠ 0) (hb : A b = some k) (hr : 0 < k.room) :
    aconv P src dst (.pointer (some ⟨b, 0, none⟩)) A K = K (.pointer (some ⟨b, 0, none⟩)) A := by
  unfold aconv convert
  rw [sawp_underlying hs, sawp_underlying hd]
  show sawp P (Conv.unsafePointer src dst _) K A = _
  unfold Conv.unsafePointer
  rw [sawp_underlying hs, sawp_underlying hd]
  dsimp only
  rw [sawp_seenAt (k := k) hb, sawp_cellsIn hb]
  refine Eq.trans (forall_congr fun m => forall_congr fun hm => ?_) (all_same k.room)
  rw [sawp_sizeOf ht]
  have h1 : (decide (0 ≥ m) && (none : Option Nat).isNone) = false := by
    have : ¬ 0 ≥ m := by omega
    simp [this]
  have h2 : (decide (n = 0) || (decide (0 ≥ m) && (none : Option Nat).isNone)) = false := by rw [h1]; simp [h0]
  show sawp P (if (decide (n = 0) || (decide (0 ≥ m) && (none : Option Nat).isNone)) = true then _ else _) K A = _
  rw [h2]
  rfl

/-- A pointer gets a type, where such a variable lies. -/
theorem aconv_from {src dst u : TypeId} {n b : Nat} {k : Blk} (hs : P.underlying src = some .unsafePointer) (hd : P.underlying dst = some (.pointer u)) (hu : (P.info? u).map (·.size) = some n) (h0 : n ≠ 0) (hb : A b = some k)
    (hl : ∀ m, k.room ≤ m → liesAt P P.depth k.ty (m / P.cellsOf k.ty) 0 u 1 = true) :
    aconv P src dst (.pointer (some ⟨b, 0, none⟩)) A K = K (.pointer (some ⟨b, 0, none⟩)) A := by
  unfold aconv convert
  rw [sawp_underlying hs, sawp_underlying hd]
  show sawp P (Conv.unsafePointer src dst _) K A = _
  unfold Conv.unsafePointer
  rw [sawp_underlying hs, sawp_underlying hd]
  dsimp only
  rw [sawp_seenAt (k := k) hb, sawp_sizeOf hu]
  unfold variablesAt
  show sawp P (Sem.bind (Sem.program Sem.pure) _ >>= _) K A = _
  rw [sawp_bindB]
  show sawp P (shape b >>= _) _ A = _
  rw [sawp_shapeB hb]
  refine Eq.trans (forall_congr fun m => forall_congr fun hm => ?_) (all_same k.room)
  show sawp P (if (decide (n = 0) || liesAt P P.depth k.ty (m / P.cellsOf k.ty) 0 u 1) = true then _ else _) K A = _
  rw [hl m hm, Bool.or_true, if_pos rfl]
  rfl

/-- Where a slice begins. -/
theorem abuiltin_sdata (ts : Array TypeId) (ty : TypeId) (cs : Array Bool) (a : Addr) (n c : Nat) (hc : c ≠ 0) : abuiltin P .unsafeSliceData ts ty cs #[.slice (some a) n c] A K = K (.pointer (some a)) A := by
  obtain ⟨c, rfl⟩ : ∃ d, c = d + 1 := ⟨c - 1, by omega⟩
  exact Eq.trans (sawp_value _) rfl
theorem abuiltin_sdata0 (ts : Array TypeId) (ty : TypeId) (cs : Array Bool) (n c : Nat) : abuiltin P .unsafeSliceData ts ty cs #[.slice none n c] A K = K (.pointer none) A := Eq.trans (sawp_value _) rfl

theorem sawp_loadBytes : ∀ (l : List UInt8) (a : Addr) (acc : ByteArray) (J : ByteArray → View → Prop), (∀ j x, l[j]? = some x → A.cell (a.add j) = some (.int .u8 x.toNat)) → sawp P (loadBytes a acc l.length) J A = J ⟨acc.data ++ l.toArray⟩ A
  | [], a, acc, J, _ => by
    show J acc A = _
    simp
  | x :: l, a, acc, J, h => by
    have h0 : A.cell a = some (.int .u8 x.toNat) := by
      have := h 0 x rfl
      simpa [Addr.add] using this
    have ih := sawp_loadBytes l (a.add 1) (acc.push x) J (fun j y hy => by
      have := h (j + 1) y (by simpa using hy)
      have e : (a.add 1).add j = a.add (j + 1) := by
        unfold Addr.add
        by_cases hj : j = 0
        · subst hj; simp
        · simp [hj]; omega
      rw [e]; exact this)
    have hx : ((x.toNat : Int).toNat).toUInt8 = x := by simp
    rw [List.length_cons]
    unfold loadBytes
    show sawp P (Sem.bind (load a) _) J A = _
    rw [sawp_bind]
    unfold load
    simp only [sawp, h0]
    rw [hx, ih]
    congr 1
    apply ByteArray.ext
    simp [ByteArray.push]

theorem part_byte {b : Nat} {l : List UInt8} {e : TypeId} {room : Nat} {own : Bool} (hb : A b = some ⟨e, Go.Lib.byteCells l, room, own⟩) : ∀ j x, l[j]? = some x → A.cell ((⟨b, 0, none⟩ : Addr).add j) = some (.int .u8 x.toNat) := by
  intro j x hj
  have hc : (Go.Lib.byteCells l)[j]? = some (.int .u8 x.toNat) := by
    unfold Go.Lib.byteCells
    rw [List.getElem?_map, hj]
    rfl
  unfold Addr.add
  split
  · rename_i h
    subst h
    exact View.cell_mk rfl hb hc rfl
  · exact View.cell_mk rfl hb (by simpa using hc) rfl

/-- The text of no bytes. -/
theorem abuiltin_ustr0 (pt it ty : TypeId) (cs : Array Bool) (p : Option Addr) : abuiltin P .unsafeString #[pt, it] ty cs #[.pointer p, .int .i64 0] A K = K (.string ⟨#[]⟩) A := by
  refine (sawp_value _).trans ?_
  cases p with
  | none => rfl
  | some a => rfl
/-- .. and of a row of bytes, which is read alone from then on. -/
theorem abuiltin_ustr {pt it ty e : TypeId} (cs : Array Bool) {b room : Nat} {l : List UInt8} (hp : P.underlying pt = some (.pointer e)) (hc : P.cellsOf e = 1) (h0 : l ≠ []) (hb : A b = some ⟨e, Go.Lib.byteCells l, room, true⟩) (hr : l.length ≤ room) (h63 : l.length ≤ 9223372036854775807) :
    abuiltin P .unsafeString #[pt, it] ty cs #[.pointer (some ⟨b, 0, none⟩), .int .i64 l.length] A K = K (.string ⟨l.toArray⟩) (A.set b ⟨e, [], room, false⟩) := by
  refine (sawp_value _).trans ?_
  have hl : (l.length : Int) ≠ 0 := by
    have : l.length ≠ 0 := by simpa using h0
    omega
  have hmax : IntKind.i64.max = 9223372036854775807 := rfl
  have e1 : ¬ (l.length : Int) < 0 := by omega
  have e2 : ¬ (9223372036854775807 : Int) < (l.length : Int) := by omega
  unfold Builtin.unsafeString_
  change sawp P (Sem.bind (Sem.pure (l.length : Int)) _) K A = _
  simp only [Sem.bind, List.getElem?_toArray, List.getElem?_cons_zero, if_neg e1, hmax, gt_iff_lt, if_neg e2, if_neg hl, Int.toNat_natCast]
  unfold elemOf
  show sawp P ((underlying pt >>= _) >>= _) K A = _
  rw [sawp_bindB, sawp_underlying hp]
  unfold variablesAt
  show sawp P (shape b >>= _ >>= _) K A = _
  rw [sawp_bindB, sawp_shapeB hb]
  refine Eq.trans (forall_congr fun m => forall_congr fun hm => ?_) (all_same room)
  show sawp P (if liesAt P P.depth e (m / P.cellsOf e) 0 e l.length = true then _ else _) K A = _
  rw [if_pos (Go.Lib.liesAt_bytes hc _ _ (by rw [hc, Nat.div_one]; exact Nat.le_trans hr hm)), sawp_bindB, sawp_loadBytes l _ _ _ (part_byte hb)]
  show sawp P (Sem.bind (Sem.freeze ⟨b, 0, none⟩ l.length (.pure ())) _) K A = _
  have hr0 : 0 < room := Nat.lt_of_lt_of_le (List.length_pos_iff.2 h0) hr
  simp only [Sem.bind, sawp, hb, hr0, true_and]
  show K (.string ⟨ByteArray.empty.data ++ l.toArray⟩) _ = _
  congr 2
  apply ByteArray.ext
  show #[] ++ l.toArray = _
  rw [Array.empty_append]
end

end Go.Proofs.YtggklaimbklefaaDoor

