/- How the weakest precondition is computed where a type's layout is asked, and where a function is called. -/
import Derived.Test.YtggklaimbklefaaDoorFw4
set_option maxHeartbeats 4000000
set_option synthInstance.maxHeartbeats 400000
set_option synthInstance.maxSize 4096
set_option linter.unusedSimpArgs false
set_option linter.unusedVariables false
namespace Go.Proofs.YtggklaimbklefaaDoor

variable {P : Program} {A : View} {fr : Fr} {K : Value → View → Prop}

/-! ### layouts, as closed facts -/
def elemSize (P : Program) (t : TypeId) : Option Nat := match P.underlying t with
  | some (.slice e) => (P.info? e).map (·.size)
  | _ => none
def fieldOff (P : Program) (t : TypeId) (i : Nat) : Option Nat := match P.underlying t with
  | some (.struct fs) => match fs[i]? with
    | some f => match (P.info? f.type).map (·.size) with
      | some (_ + 1) => some f.offset
      | _ => none
    | none => none
  | _ => none
def zeroCells? (P : Program) (t : TypeId) : Option (List Value) := match P.info? t with
  | some i => match i.zero with
    | some z => if z.cells.toList.all (·.oneCell') = true then some z.cells.toList else none
    | none => none
  | none => none
def isSliceT (P : Program) (t : TypeId) : Bool := match P.underlying t with | some (.slice _) => true | _ => false
def isStringT (P : Program) (t : TypeId) : Bool := match P.underlying t with | some .string => true | _ => false
def isBoolT (P : Program) (t : TypeId) : Bool := match P.underlying t with | some .bool => true | _ => false
def callable (P : Program) (f : FuncId) : Bool := match P.funcs[f]? with
  | some fn => fn.name != "runtime.NumGoroutine" && fn.body.isSome
  | none => false

theorem loadv_cell {t : TypeId} {n : Nat} (h : lay P t = some (false, n)) (a : Addr) : A.loadv P t a = A.cell a := by simp [View.loadv, h]
theorem loadv_agg {t : TypeId} {n : Nat} (h : lay P t = some (true, n)) (a : Addr) : A.loadv P t a = (A.part a n).map fun cs => .agg cs.toArray := by simp [View.loadv, h]
theorem aload_at (t : TypeId) (a : Addr) : aload P t (.pointer (some a)) A K = someK (A.loadv P t a) (fun v => K v A) := by
  simp only [aload, someK]
  cases A.loadv P t a <;> rfl
theorem astore_at (t : TypeId) (a : Addr) (v : Value) : astore P t (.pointer (some a)) v A K = someK (A.storev P t a v) (fun A' => K undef A') := by
  simp only [astore, someK]
  cases A.storev P t a v <;> rfl
theorem abuild_at (t : TypeId) (ps : Array (Nat × Value)) : abuild P t ps A K = someK (P.built t ps.toList) (fun cells => K (.agg cells) A) := by
  simp only [abuild, someK]
  cases P.built t ps.toList <;> rfl

theorem storev_set {t : TypeId} {n : Nat} (h : (P.info? t).map (·.size) = some n) {a : Addr} {v : Value} {k : Blk} (hk : A a.block = some k) (hs : a.spot = none) (ho : k.own = true) (hn : v.cells.size = n)
    (hl : a.off + n ≤ k.cells.length) (h1 : v.cells.toList.all (·.oneCell') = true) :
    A.storev P t a v = some (A.set a.block ⟨k.ty, k.cells.take a.off ++ v.cells.toList ++ k.cells.drop (a.off + n), k.room, true⟩) := by
  subst hn
  unfold View.storev
  rw [hk]
  simp only
  rw [if_pos ⟨hs, ho, h, hl, h1⟩]

theorem sawp_underlying {α : Type} {t : TypeId} {d : TypeDesc} (h : P.underlying t = some d) (f : TypeDesc → Sem α) (J : α → View → Prop) : sawp P (underlying t >>= f) J A = sawp P (f d) J A := by
  show sawp P ((underlying t).bind f) J A = _
  rw [sawp_bind]
  unfold underlying
  show sawp P (Sem.bind (.program .pure) _) _ A = _
  simp only [Sem.bind, sawp, h]
  rfl
theorem sawp_typeInfo {α : Type} {t : TypeId} {i : TypeInfo} (h : P.info? t = some i) (f : TypeInfo → Sem α) (J : α → View → Prop) : sawp P (typeInfo t >>= f) J A = sawp P (f i) J A := by
  show sawp P ((typeInfo t).bind f) J A = _
  rw [sawp_bind]
  unfold typeInfo
  show sawp P (Sem.bind (.program .pure) _) _ A = _
  simp only [Sem.bind, sawp, h]
  rfl
theorem sawp_sizeOf {α : Type} {t : TypeId} {n : Nat} (h : (P.info? t).map (·.size) = some n) (f : Nat → Sem α) (J : α → View → Prop) : sawp P (sizeOf t >>= f) J A = sawp P (f n) J A := by
  cases hi : P.info? t with
  | none => simp [hi] at h
  | some i =>
    simp [hi] at h
    subst h
    show sawp P (((typeInfo t).bind fun i => .pure i.size).bind f) J A = _
    rw [sawp_bind]
    exact sawp_typeInfo hi _ _
theorem sawp_ok {α β : Type} (s : Sem α) (a : α) (h : ∀ A (J : α → View → Prop), sawp P s J A = J a A) (f : α → Sem β) (J : β → View → Prop) : sawp P (s >>= f) J A = sawp P (f a) J A := by
  show sawp P (s.bind f) J A = _
  rw [sawp_bind, h]

theorem afaddr_at {t : TypeId} {i off : Nat} (h : fieldOff P t i = some off) (a : Addr) : afaddr P t (.pointer (some a)) i A K = K (.pointer (some (a.add off))) A := by
  unfold fieldOff at h
  split at h
  · rename_i fs hu
    split at h
    · rename_i f hf
      split at h
      · rename_i n hn
        simp at h; subst h
        unfold afaddr Instr.fieldAt
        rw [sawp_underlying hu]
        simp only [hf]
        show sawp P (Sem.bind (.pure a) _) K A = _
        simp only [Sem.bind]
        show sawp P ((do pure (Value.pointer (some (← fieldPlace a f)))) : Sem Value) K A = _
        unfold fieldPlace
        show sawp P (Sem.bind (Sem.bind (sizeOf f.type) _) _) K A = _
        rw [sawp_bind, show Sem.bind (sizeOf f.type) _ = (sizeOf f.type >>= _) from rfl, sawp_sizeOf hn]
        simp [sawp, pure]
      · simp at h
    · simp at h
  · simp at h

theorem aiaddr_at {t : TypeId} {es : Nat} (h : elemSize P t = some es) {a : Addr} {n c : Nat} {k : IntKind} {i : Int} (h0 : 0 ≤ i) (h1 : i < n) :
    aiaddr P t (.slice (some a) n c) (.int k i) A K = K (.pointer (some (a.add (i.toNat * es)))) A := by
  unfold elemSize at h
  split at h
  · rename_i e hu
    unfold aiaddr Instr.indexAt
    show sawp P (Sem.bind (.pure (k, i)) _) K A = _
    simp only [Sem.bind]
    rw [sawp_underlying hu]
    simp only
    show sawp P (Sem.bind (.pure _) _) K A = _
    simp only [Sem.bind]
    rw [sawp_underlying hu]
    simp only [h0, h1, and_self, if_true]
    rw [sawp_sizeOf h]
    rfl
  · simp at h

theorem sawp_bound {α : Type} {k : IntKind} {i : Int} {y : Nat} {code : BoundsCode} (h0 : 0 ≤ i) (h1 : i ≤ y) (f : Nat → Sem α) (J : α → View → Prop) :
    sawp P (Instr.sliceBound (.int k i) y code >>= f) J A = sawp P (f i.toNat) J A := by
  show sawp P (Sem.bind (Instr.sliceBound (.int k i) y code) f) J A = _
  rw [sawp_bind]
  unfold Instr.sliceBound
  show sawp P (Sem.bind (.pure (k, i)) _) _ A = _
  simp only [Sem.bind, h0, h1, and_self, if_true]
  rfl

/-- The address behind a slice's cut: it stays where nothing is left. -/
def cutAddr (a : Option Addr) (l m es : Nat) : Option Addr := if m = l then a else a.map (·.add (l * es))

theorem sawp_sliceAt {t : TypeId} {e : TypeId} (hu : P.underlying t = some (.slice e)) (x : Value) (l h m : Option Value) : sawp P (Instr.sliceAt t x l h m) K A = sawp P (Instr.slice t x l h m) K A := by
  unfold Instr.sliceAt
  rw [sawp_underlying hu]

theorem aslice_hi {t : TypeId} {es : Nat} (h : elemSize P t = some es) {a : Option Addr} {n c : Nat} {kh : IntKind} {hi : Int} (h0 : 0 ≤ hi) (h1 : hi ≤ c) :
    aslice P t (.slice a n c) none (some (.int kh hi)) none A K = K (.slice (cutAddr a 0 c es) hi.toNat c) A := by
  unfold elemSize at h
  split at h
  · rename_i e hu
    unfold aslice
    rw [sawp_sliceAt hu]
    unfold Instr.slice
    rw [sawp_underlying hu]
    simp only [Instr.sliceBounds]
    show sawp P (Sem.bind (Sem.bind (.pure c) _) _) K A = _
    simp only [Sem.bind]
    rw [sawp_bind, sawp_bound h0 h1]
    show sawp P (sizeOf e >>= _) K A = _
    rw [sawp_sizeOf h]
    rfl
  · simp at h
theorem aslice_lo {t : TypeId} {es : Nat} (h : elemSize P t = some es) {a : Option Addr} {n c : Nat} {kl : IntKind} {lo : Int} (h0 : 0 ≤ lo) (h1 : lo ≤ n) :
    aslice P t (.slice a n c) (some (.int kl lo)) none none A K = K (.slice (cutAddr a lo.toNat c es) (n - lo.toNat) (c - lo.toNat)) A := by
  unfold elemSize at h
  split at h
  · rename_i e hu
    unfold aslice
    rw [sawp_sliceAt hu]
    unfold Instr.slice
    rw [sawp_underlying hu]
    simp only [Instr.sliceBounds]
    show sawp P (Sem.bind (Sem.bind (.pure c) _) _) K A = _
    simp only [Sem.bind]
    show sawp P (Sem.bind (Sem.bind (.pure n) _) _) K A = _
    simp only [Sem.bind]
    rw [sawp_bind, sawp_bound h0 h1]
    show sawp P (sizeOf e >>= _) K A = _
    rw [sawp_sizeOf h]
    rfl
  · simp at h
theorem aslice_both {t : TypeId} {es : Nat} (h : elemSize P t = some es) {a : Option Addr} {n c : Nat} {kl kh : IntKind} {lo hi : Int} (h0 : 0 ≤ lo) (h1 : lo ≤ hi) (h2 : hi ≤ c) :
    aslice P t (.slice a n c) (some (.int kl lo)) (some (.int kh hi)) none A K = K (.slice (cutAddr a lo.toNat c es) (hi.toNat - lo.toNat) (c - lo.toNat)) A := by
  unfold elemSize at h
  split at h
  · rename_i e hu
    unfold aslice
    rw [sawp_sliceAt hu]
    unfold Instr.slice
    rw [sawp_underlying hu]
    simp only [Instr.sliceBounds]
    show sawp P (Sem.bind (Sem.bind (.pure c) _) _) K A = _
    simp only [Sem.bind]
    rw [sawp_bind, sawp_bound (by omega) h2]
    rw [sawp_bound h0 (by omega)]
    show sawp P (sizeOf e >>= _) K A = _
    rw [sawp_sizeOf h]
    rfl
  · simp at h

theorem sawp_bound1 {k : IntKind} {i : Int} {y : Nat} {code : BoundsCode} (h0 : 0 ≤ i) (h1 : i ≤ y) (J : Nat → View → Prop) : sawp P (Instr.sliceBound (.int k i) y code) J A = J i.toNat A := by
  unfold Instr.sliceBound
  show sawp P (Sem.bind (.pure (k, i)) _) _ A = _
  simp only [Sem.bind, h0, h1, and_self, if_true]
  rfl
theorem aslice_hm {t : TypeId} {es : Nat} (h : elemSize P t = some es) {a : Option Addr} {n c : Nat} {kh km : IntKind} {hi mx : Int} (h0 : 0 ≤ hi) (h1 : hi ≤ mx) (h2 : mx ≤ c) :
    aslice P t (.slice a n c) none (some (.int kh hi)) (some (.int km mx)) A K = K (.slice (cutAddr a 0 mx.toNat es) hi.toNat mx.toNat) A := by
  unfold elemSize at h
  split at h
  · rename_i e hu
    unfold aslice
    rw [sawp_sliceAt hu]
    unfold Instr.slice
    rw [sawp_underlying hu]
    simp only [Instr.sliceBounds]
    show sawp P (Sem.bind (Sem.bind (Instr.sliceBound (.int km mx) c _) _) _) K A = _
    rw [sawp_bind, sawp_bind, sawp_bound1 (by omega) h2]
    rw [sawp_bound h0 (by omega)]
    show sawp P (sizeOf e >>= _) K A = _
    rw [sawp_sizeOf h]
    rfl
  · simp at h
theorem aslice_lhm {t : TypeId} {es : Nat} (h : elemSize P t = some es) {a : Option Addr} {n c : Nat} {kl kh km : IntKind} {lo hi mx : Int} (h0 : 0 ≤ lo) (h1 : lo ≤ hi) (h2 : hi ≤ mx) (h3 : mx ≤ c) :
    aslice P t (.slice a n c) (some (.int kl lo)) (some (.int kh hi)) (some (.int km mx)) A K = K (.slice (cutAddr a lo.toNat mx.toNat es) (hi.toNat - lo.toNat) (mx.toNat - lo.toNat)) A := by
  unfold elemSize at h
  split at h
  · rename_i e hu
    unfold aslice
    rw [sawp_sliceAt hu]
    unfold Instr.slice
    rw [sawp_underlying hu]
    simp only [Instr.sliceBounds]
    show sawp P (Sem.bind (Sem.bind (Instr.sliceBound (.int km mx) c _) _) _) K A = _
    rw [sawp_bind, sawp_bind, sawp_bound1 (by omega) h3]
    rw [sawp_bound (by omega) (by omega)]
    rw [sawp_bound h0 (by omega)]
    show sawp P (sizeOf e >>= _) K A = _
    rw [sawp_sizeOf h]
    rfl
  · simp at h

theorem isStringT_spec {t : TypeId} (h : isStringT P t = true) : P.underlying t = some .string := by
  unfold isStringT at h
  split at h
  · assumption
  · simp at h
theorem sawp_sliceAtS {t : TypeId} (hu : P.underlying t = some .string) (x : Value) (l h m : Option Value) : sawp P (Instr.sliceAt t x l h m) K A = sawp P (Instr.slice t x l h m) K A := by
  unfold Instr.sliceAt
  rw [sawp_underlying hu]
theorem aslice_strlo {t : TypeId} (h : isStringT P t = true) {s : ByteArray} {kl : IntKind} {lo : Int} (h0 : 0 ≤ lo) (h1 : lo ≤ s.size) :
    aslice P t (.string s) (some (.int kl lo)) none none A K = K (.string (s.extract lo.toNat s.size)) A := by
  have hu := isStringT_spec h
  unfold aslice
  rw [sawp_sliceAtS hu]
  unfold Instr.slice
  rw [sawp_underlying hu]
  simp only [Instr.sliceBounds, Option.isSome_none, Bool.false_eq_true, if_false]
  show sawp P (Sem.bind (Sem.bind (.pure s.size) _) _) K A = _
  simp only [Sem.bind]
  show sawp P (Sem.bind (Sem.bind (.pure s.size) _) _) K A = _
  simp only [Sem.bind]
  rw [sawp_bind, sawp_bound h0 h1]
  rfl
theorem aslice_strhi {t : TypeId} (h : isStringT P t = true) {s : ByteArray} {kh : IntKind} {hi : Int} (h0 : 0 ≤ hi) (h1 : hi ≤ s.size) :
    aslice P t (.string s) none (some (.int kh hi)) none A K = K (.string (s.extract 0 hi.toNat)) A := by
  have hu := isStringT_spec h
  unfold aslice
  rw [sawp_sliceAtS hu]
  unfold Instr.slice
  rw [sawp_underlying hu]
  simp only [Instr.sliceBounds, Option.isSome_none, Bool.false_eq_true, if_false]
  show sawp P (Sem.bind (Sem.bind (.pure s.size) _) _) K A = _
  simp only [Sem.bind]
  rw [sawp_bind, sawp_bound h0 h1]
  rfl
theorem aslice_str {t : TypeId} (h : isStringT P t = true) {s : ByteArray} {kl kh : IntKind} {lo hi : Int} (h0 : 0 ≤ lo) (h1 : lo ≤ hi) (h2 : hi ≤ s.size) :
    aslice P t (.string s) (some (.int kl lo)) (some (.int kh hi)) none A K = K (.string (s.extract lo.toNat hi.toNat)) A := by
  have hu := isStringT_spec h
  unfold aslice
  rw [sawp_sliceAtS hu]
  unfold Instr.slice
  rw [sawp_underlying hu]
  simp only [Instr.sliceBounds, Option.isSome_none, Bool.false_eq_true, if_false]
  show sawp P (Sem.bind (Sem.bind (.pure s.size) _) _) K A = _
  simp only [Sem.bind]
  rw [sawp_bind, sawp_bound (by omega) h2]
  rw [sawp_bound h0 (by omega)]
  rfl
/-- A string's byte. -/
def sbyte (s : ByteArray) (i : Nat) : Nat := (s.data[i]?.map UInt8.toNat).getD 0
theorem aindex_at {t : TypeId} (h : isStringT P t = true) {s : ByteArray} {k : IntKind} {i : Int} (h0 : 0 ≤ i) (h1 : i < s.size) : aindex P t (.string s) (.int k i) A K = K (.int .u8 (sbyte s i.toNat)) A := by
  have hu := isStringT_spec h
  unfold aindex Instr.index
  show sawp P (Sem.bind (.pure (k, i)) _) K A = _
  simp only [Sem.bind]
  rw [sawp_underlying hu]
  have hlt : i.toNat < s.size := by omega
  have hd : i.toNat < s.data.size := hlt
  have hb : s[i.toNat]? = some s[i.toNat] := by simp [hlt]
  simp only [h0, if_true, hb]
  have : sbyte s i.toNat = s[i.toNat].toNat := by
    unfold sbyte
    rw [Array.getElem?_eq_getElem hd]
    rfl
  rw [this]
  rfl

theorem aalloc_at {t : TypeId} {cs : List Value} (h : zeroCells? P t = some cs) : aalloc P t A K = ∀ b, A b = none → K (.pointer (some ⟨b, 0, none⟩)) (A.set b ⟨t, cs, cs.length, true⟩) := by
  unfold zeroCells? at h
  split at h
  · rename_i i hi
    split at h
    · rename_i z hz
      split at h
      · rename_i hone
        simp at h; subst h
        unfold aalloc Instr.alloc
        show sawp P (Sem.bind (Sem.bind (typeInfo t) _) _) K A = _
        rw [sawp_bind, show Sem.bind (typeInfo t) _ = (typeInfo t >>= _) from rfl, sawp_typeInfo hi]
        simp only [hz]
        show sawp P (Sem.bind (Sem.bind (Sem.new _ _) _) _) K A = _
        simp only [Sem.bind, sawp, pure]
        rw [eq_iff_iff]
        simp only [Array.length_toList]
        exact ⟨fun h => h.2, fun h => ⟨List.all_eq_true.1 hone, h⟩⟩
      · simp at h
    · simp at h
  · simp at h
theorem abox_at {t : TypeId} {v : Value} (h1 : v.cells.toList.all (·.oneCell') = true) : abox P t v A K = ∀ b, A b = none → K (.pointer (some ⟨b, 0, none⟩)) (A.set b ⟨t, v.cells.toList, v.cells.size, true⟩) := by
  unfold abox Instr.box
  show sawp P (Sem.bind (Sem.bind (Sem.new _ _) _) _) K A = _
  simp only [Sem.bind, sawp, pure]
  rw [eq_iff_iff]
  exact ⟨fun h => h.2, fun h => ⟨List.all_eq_true.1 h1, h⟩⟩

theorem alen_slice {t : TypeId} (h : isSliceT P t = true) (ty : TypeId) (cs : Array Bool) (a : Option Addr) (n c : Nat) : abuiltin P .len #[t] ty cs #[.slice a n c] A K = K (.int .i64 n) A := by
  unfold isSliceT at h
  split at h
  · rename_i e hu
    unfold abuiltin builtin
    rw [sawp_value]
    unfold Builtin.len_
    simp only [List.getElem?_toArray, List.getElem?_cons_zero]
    rw [sawp_underlying hu]
    rfl
  · simp at h
theorem alen_string {t : TypeId} (h : isStringT P t = true) (ty : TypeId) (cs : Array Bool) (s : ByteArray) : abuiltin P .len #[t] ty cs #[.string s] A K = K (.int .i64 s.size) A := by
  have hu := isStringT_spec h
  unfold abuiltin builtin
  rw [sawp_value]
  unfold Builtin.len_
  simp only [List.getElem?_toArray, List.getElem?_cons_zero]
  rw [sawp_underlying hu]
  rfl
theorem amin_int (ts : Array TypeId) (ty : TypeId) (cs : Array Bool) (k : IntKind) (a b : Int) : abuiltin P .min ts ty cs #[.int k a, .int k b] A K = K (.int k (if b < a then b else a)) A := rfl
theorem amax_int (ts : Array TypeId) (ty : TypeId) (cs : Array Bool) (k : IntKind) (a b : Int) : abuiltin P .max ts ty cs #[.int k a, .int k b] A K = K (.int k (if b > a then b else a)) A := rfl

theorem acall_at {f : FuncId} (h : callable P f = true) (first cap vs : Array Value) : acall P (.func (.func f) first cap) vs A K = ACalls P f (first ++ vs ++ cap) A K := by
  unfold callable at h
  split at h
  · rename_i fn hf
    simp only [bne, Bool.and_eq_true, Bool.not_eq_true', beq_eq_false_iff_ne, ne_eq] at h
    unfold acall
    show sawp P (callFunc f (first ++ vs ++ cap)) (nextK P K) A = _
    unfold callFunc
    show sawp P (Sem.bind (.program .pure) _) (nextK P K) A = _
    simp only [Sem.bind, sawp, hf]
    have h1 : (fn.name == "runtime.NumGoroutine") = false := by simpa using h.1
    have h2 : fn.body.isNone = false := by cases hb : fn.body <;> simp_all
    simp only [h1, h2, Bool.false_eq_true, if_false]
    rfl
  · simp at h

theorem abin_eqb {t : TypeId} (h : isBoolT P t = true) (x y : Operand) (a b : Bool) : abin P .eql t x y (.bool a) (.bool b) A K = K (.bool (a == b)) A := by
  unfold isBoolT at h
  split at h
  · rename_i hu
    unfold abin
    show sawp P (Sem.bind (.pure ()) _) K A = _
    simp only [Sem.bind]
    show sawp P (Sem.bind (Op.equalIn 10000 t (.bool a) (.bool b)) _) K A = _
    rw [sawp_bind]
    unfold Op.equalIn
    rw [sawp_underlying hu]
    rfl
  · simp at h
theorem abin_neb {t : TypeId} (h : isBoolT P t = true) (x y : Operand) (a b : Bool) : abin P .neq t x y (.bool a) (.bool b) A K = K (.bool (!(a == b))) A := by
  unfold isBoolT at h
  split at h
  · rename_i hu
    unfold abin
    show sawp P (Sem.bind (.pure ()) _) K A = _
    simp only [Sem.bind]
    show sawp P (Sem.bind (Op.equalIn 10000 t (.bool a) (.bool b)) _) K A = _
    rw [sawp_bind]
    unfold Op.equalIn
    rw [sawp_underlying hu]
    rfl
  · simp at h
theorem abin_cat (t : TypeId) (x y : Operand) {a b : ByteArray} (h : a.size + b.size ≤ 9223372036854775807) : abin P .add t x y (.string a) (.string b) A K = K (.string (a ++ b)) A := by
  unfold abin
  show sawp P (Sem.bind (.pure ()) _) K A = _
  simp only [Sem.bind]
  show sawp P (Op.stringOp .add a b) K A = _
  unfold Op.stringOp
  have : ¬ (((a.size + b.size : Nat) : Int) > IntKind.i64.max) := by
    show ¬ (((a.size + b.size : Nat) : Int) > 9223372036854775807)
    omega
  simp only [this, if_false]
  rfl
theorem abin_slice_nil {t : TypeId} (h : isSliceT P t = true) (x y : Operand) (a b : Option Addr) (n c m d : Nat) (hn : a = none ∨ b = none) :
    abin P .eql t x y (.slice a n c) (.slice b m d) A K = K (.bool (a.isNone && b.isNone)) A ∧ abin P .neq t x y (.slice a n c) (.slice b m d) A K = K (.bool (!(a.isNone && b.isNone))) A := by
  unfold isSliceT at h
  split at h
  · rename_i e hu
    constructor
    all_goals
      unfold abin
      show sawp P (Sem.bind (.pure ()) _) K A = _
      simp only [Sem.bind]
      show sawp P (Sem.bind (Op.equalIn 10000 t (.slice a n c) (.slice b m d)) _) K A = _
      rw [sawp_bind]
      unfold Op.equalIn
      rw [sawp_underlying hu]
      cases a <;> cases b <;> first | rfl | (simp at hn)
  · simp at h

end Go.Proofs.YtggklaimbklefaaDoor

