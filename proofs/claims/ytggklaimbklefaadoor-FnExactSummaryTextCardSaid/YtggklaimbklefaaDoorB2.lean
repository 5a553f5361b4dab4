/- strings.Builder: a buffer of bytes of one's own, behind a block of two cells. -/
import Derived.Test.YtggklaimbklefaaDoorB1
import Derived.Test.YtggklaimbklefaaDoorZ0
set_option maxHeartbeats 4000000
set_option synthInstance.maxHeartbeats 400000
set_option synthInstance.maxSize 4096
set_option linter.unusedSimpArgs false
set_option linter.unusedVariables false
namespace Go.Proofs.YtggklaimbklefaaDoor

set_option maxRecDepth 100000

/-- A builder's buffer: nothing yet, or a row of bytes with room. -/
def Buf (V : View) (fp : List Nat) (v : Value) (bs : List UInt8) : Prop :=
  (v = .slice none 0 0 ∧ bs = [] ∧ fp = []) ∨ ∃ g c, v = .slice (some ⟨g, 0, none⟩) bs.length c ∧ bs.length ≤ c ∧ 0 < c ∧ fp = [g] ∧ V g = some ⟨5, Go.Lib.byteCells bs, c, true⟩
theorem Buf.stay {V W : View} {fp : List Nat} {v : Value} {bs : List UInt8} (h : Buf V fp v bs) (hs : ∀ b k, b ∈ fp → V b = some k → W b = some k) : Buf W fp v bs := by
  rcases h with h | ⟨g, c, h1, h2, h3, rfl, h5⟩
  · exact .inl h
  · exact .inr ⟨g, c, h1, h2, h3, rfl, hs g _ (List.mem_singleton.2 rfl) h5⟩
theorem Buf.has {V : View} {fp : List Nat} {v : Value} {bs : List UInt8} (h : Buf V fp v bs) : ∀ b, b ∈ fp → ∃ k, V b = some k := by
  rcases h with ⟨_, _, rfl⟩ | ⟨g, c, _, _, _, rfl, h5⟩
  · intro b hb; cases hb
  · intro b hb
    rw [List.mem_singleton] at hb
    subst hb
    exact ⟨_, h5⟩
theorem Buf.one {V : View} {fp : List Nat} {v : Value} {bs : List UInt8} (h : Buf V fp v bs) : v.cells = #[v] ∧ v.oneCell' = true ∧ ∃ a c, v = .slice a bs.length c := by
  rcases h with ⟨rfl, rfl, _⟩ | ⟨g, c, rfl, _⟩
  · exact ⟨rfl, rfl, _, _, rfl⟩
  · exact ⟨rfl, rfl, _, _, rfl⟩
def buf (fp : List Nat) (v : Value) (bs : List UInt8) : It := ⟨fp, fun V => Buf V fp v bs, fun h hs => h.stay hs, fun h => h.has⟩
/-- A builder. -/
def wb (q : Nat) (fp : List Nat) (bs : List UInt8) : It where
  fp := q :: fp
  φ V := ∃ (p : Option Addr) (v : Value), (p = none ∨ p = some ⟨q, 0, none⟩) ∧ V q = some ⟨52, [.pointer p, v], 2, true⟩ ∧ Buf V fp v bs
  stay := fun ⟨p, v, h1, h2, h3⟩ hs => ⟨p, v, h1, hs q _ (List.mem_cons_self ..) h2, h3.stay fun b k hb => hs b k (List.mem_cons_of_mem _ hb)⟩
  has := fun ⟨p, v, h1, h2, h3⟩ b hb => by
    rcases List.mem_cons.1 hb with rfl | hb
    · exact ⟨_, h2⟩
    · exact h3.has b hb

section
variable {A B V W : View} {L : List It} {K : Value → View → Prop}

theorem wb_open {q : Nat} {fp : List Nat} {bs : List UInt8} (l : Led B (wb q fp bs :: L) V) : ∃ (p : Option Addr) (v : Value), (p = none ∨ p = some ⟨q, 0, none⟩) ∧ Led B (bx q ⟨52, [.pointer p, v], 2, true⟩ :: buf fp v bs :: L) V := by
  obtain ⟨p, v, h1, h2, h3⟩ := (show (wb q fp bs).φ V from l.at (i := 0) rfl)
  refine ⟨p, v, h1, l.ext, fun it hit => ?_, l.new, l.nd⟩
  rcases List.mem_cons.1 hit with rfl | hit
  · exact h2
  · rcases List.mem_cons.1 hit with rfl | hit
    · exact h3
    · exact l.all it (List.mem_cons_of_mem _ hit)
theorem wb_close {q : Nat} {fp : List Nat} {bs : List UInt8} {p : Option Addr} {v : Value} (hp : p = none ∨ p = some ⟨q, 0, none⟩) (l : Led B (bx q ⟨52, [.pointer p, v], 2, true⟩ :: buf fp v bs :: L) V) : Led B (wb q fp bs :: L) V := by
  refine ⟨l.ext, fun it hit => ?_, l.new, l.nd⟩
  rcases List.mem_cons.1 hit with rfl | hit
  · exact ⟨p, v, hp, l.at (i := 0) rfl, l.at (i := 1) rfl⟩
  · exact l.all it (List.mem_cons_of_mem _ (List.mem_cons_of_mem _ hit))
theorem wb_new {q : Nat} (l : Led B (bx q ⟨52, [.pointer none, .slice none 0 0], 2, true⟩ :: L) V) : Led B (wb q [] [] :: L) V := by
  refine ⟨l.ext, fun it hit => ?_, l.new, l.nd⟩
  rcases List.mem_cons.1 hit with rfl | hit
  · exact ⟨none, _, .inl rfl, l.at (i := 0) rfl, .inl ⟨rfl, rfl, rfl⟩⟩
  · exact l.all it (List.mem_cons_of_mem _ hit)

theorem bd_eq (x y : Operand) (a : Option Addr) : abin Tryd.prog .eql 49 x y (.pointer a) (.pointer none) A K = K (.bool (decide (a = none))) A := (abin_ptr (by kernel_rfl) x y a none (.inr (.inl rfl))).1
theorem bd_ne (x y : Operand) (a : Addr) : abin Tryd.prog .neq 49 x y (.pointer (some a)) (.pointer (some a)) A K = K (.bool false) A := by
  refine (abin_ptr (by kernel_rfl) x y (some a) (some a) (.inr (.inr rfl))).2.trans ?_
  rw [decide_eq_true rfl]
  rfl
theorem bd_to {q room : Nat} {e : TypeId} {cs : List Value} (hr : 0 < room) (hb : A q = some ⟨e, cs, room, true⟩) : aconv Tryd.prog 49 68 (.pointer (some ⟨q, 0, none⟩)) A K = K (.pointer (some ⟨q, 0, none⟩)) A :=
  aconv_to (t := 52) (n := 2) (by kernel_rfl) (by kernel_rfl) (by kernel_rfl) (by decide) hb hr
theorem bd_cells : Tryd.prog.cellsOf 52 = 2 := by kernel_rfl
theorem byte_cells : Tryd.prog.cellsOf 5 = 1 := by kernel_rfl
theorem bd_lies (m : Nat) (hm : 2 ≤ m) : liesAt Tryd.prog Tryd.prog.depth 52 (m / Tryd.prog.cellsOf 52) 0 52 1 = true := by
  rw [bd_cells]
  have h1 : 1 ≤ m / 2 := by omega
  generalize m / 2 = count at h1
  have hd : Tryd.prog.depth = (2 * (Tryd.prog.types.size + Made.depth) + 1) + 1 := rfl
  rw [hd]
  simp only [liesAt, Bool.or_eq_true]
  left
  rw [hd]
  simp [rowAt, bd_cells, h1, sameLayout]
theorem bd_from {q : Nat} {cs : List Value} (hb : A q = some ⟨52, cs, 2, true⟩) : aconv Tryd.prog 68 49 (.pointer (some ⟨q, 0, none⟩)) A K = K (.pointer (some ⟨q, 0, none⟩)) A :=
  aconv_from (u := 52) (n := 2) (by kernel_rfl) (by kernel_rfl) (by kernel_rfl) (by decide) hb fun m hm => bd_lies m hm

theorem acall_same {P : Program} {f : FuncId} {fn : Func} (hf : P.funcs[f]? = some fn) (hname : (fn.name == "runtime.NumGoroutine") = false)
    (hb : fn.body.isNone = true) (hn : Extern.findNext fn = none) (he : Extern.find fn = some Extern.AbiNoEscape.same) (v : Value) :
    acall P (.func (.func f) #[] #[]) #[v] A K = K v A := by
  unfold acall
  show sawp P (callFunc f (#[] ++ #[v] ++ #[])) (nextK P K) A = _
  unfold callFunc
  show sawp P (Sem.bind (.program .pure) _) (nextK P K) A = _
  simp only [Sem.bind, sawp, hf, hname, hb, hn, he, Bool.false_eq_true, if_false, if_true]
  rfl
theorem bd_noescape (v : Value) : acall Tryd.prog (.func (.func 37) #[] #[]) #[v] A K = K v A := acall_same Tryd.func37 rfl rfl (by kernel_rfl) (by kernel_rfl) v
end

theorem copyCheck_c (B A : View) (L : List It) (q : Nat) (p : Option Addr) (v : Value) (hp : p = none ∨ p = some ⟨q, 0, none⟩) (l : Led B (bx q ⟨52, [.pointer p, v], 2, true⟩ :: L) A) :
    ACalls Tryd.prog 31 #[.pointer (some ⟨q, 0, none⟩)] A fun _ V => Led B (bx q ⟨52, [.pointer (some ⟨q, 0, none⟩), v], 2, true⟩ :: L) V := by
  have k0 := l.cell (i := 0) rfl (o := 0) rfl rfl
  have kb : A q = some ⟨52, [.pointer p, v], 2, true⟩ := l.at (i := 0) rfl
  refine acalls Tryd.func31 rfl (by kernel_rfl) ?_
  simp (disch := omega) only [↓stq, amv_at, vls, inf, frs, mark_eq, ↓reduceIte, Nat.reduceEqDiff, ite_tt, ite_ff, eq_self, and_true, true_and, and_self, implies_true, Bool.true_eq_false, Bool.false_eq_true, decide_true, decide_false, decide_eq_true_eq, decide_eq_false_iff_not, ne_eq, not_true_eq_false, not_false_eq_true, Bool.not_eq_true', Bool.not_eq_false', beq_self_eq_true, Bool.not_true, Bool.not_false, List.getElem?_toArray, List.getElem?_cons_zero, List.getElem?_cons_succ]
  rcases hp with rfl | rfl
  · simp (disch := omega) only [↓stq, amv_at, vls, inf, frs, mark_eq, ↓reduceIte, Nat.reduceEqDiff, ite_tt, ite_ff, eq_self, and_true, true_and, and_self, implies_true, Bool.true_eq_false, Bool.false_eq_true, decide_true, decide_false, decide_eq_true_eq, decide_eq_false_iff_not, ne_eq, not_true_eq_false, not_false_eq_true, Bool.not_eq_true', Bool.not_eq_false', beq_self_eq_true, Bool.not_true, Bool.not_false, List.getElem?_toArray, List.getElem?_cons_zero, List.getElem?_cons_succ, ↓aop_nilV, anilV_ptr, add_at, k0, bd_eq, bd_ne, bd_to (by decide) kb, bd_from kb, bd_noescape]
    refine led_store l 0 rfl sz49 (by rfl) (by rfl) (by rfl) fun V l => ?_
    simp (disch := omega) only [↓stq, amv_at, vls, inf, frs, mark_eq, ↓reduceIte, Nat.reduceEqDiff, ite_tt, ite_ff, eq_self, and_true, true_and, and_self, implies_true, Bool.true_eq_false, Bool.false_eq_true, decide_true, decide_false, decide_eq_true_eq, decide_eq_false_iff_not, ne_eq, not_true_eq_false, not_false_eq_true, Bool.not_eq_true', Bool.not_eq_false', beq_self_eq_true, Bool.not_true, Bool.not_false, List.getElem?_toArray, List.getElem?_cons_zero, List.getElem?_cons_succ]
    exact l
  · simp (disch := omega) only [↓stq, amv_at, vls, inf, frs, mark_eq, ↓reduceIte, Nat.reduceEqDiff, ite_tt, ite_ff, eq_self, and_true, true_and, and_self, implies_true, Bool.true_eq_false, Bool.false_eq_true, decide_true, decide_false, decide_eq_true_eq, decide_eq_false_iff_not, ne_eq, not_true_eq_false, not_false_eq_true, Bool.not_eq_true', Bool.not_eq_false', beq_self_eq_true, Bool.not_true, Bool.not_false, List.getElem?_toArray, List.getElem?_cons_zero, List.getElem?_cons_succ, ↓aop_nilV, anilV_ptr, add_at, k0, bd_eq, bd_ne, reduceCtorEq]
    exact l

end Go.Proofs.YtggklaimbklefaaDoor

