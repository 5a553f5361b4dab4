/- How the weakest precondition is computed, operation by operation. -/
import Derived.Test.YtggklaimbklefaaDoorFw2
import Derived.IntWalk
import Derived.Lib.IndexBytes
set_option maxHeartbeats 4000000
set_option synthInstance.maxHeartbeats 400000
set_option synthInstance.maxSize 4096
set_option linter.unusedSimpArgs false
set_option linter.unusedVariables false
namespace Go.Proofs.YtggklaimbklefaaDoor

variable {P : Program} {A : View} {fr : Fr} {K : Value → View → Prop}

theorem sawp_value (s : Sem Value) : sawp P (do pure (Next.value (← s))) (nextK P K) A = sawp P s K A := by
  show sawp P (s.bind fun a => .pure (Next.value a)) (nextK P K) A = _
  rw [sawp_bind]
  rfl
theorem sawp_skip (s : Sem Unit) : sawp P (do s; pure Next.skip) (nextK P K) A = sawp P s (fun _ A => K undef A) A := by
  show sawp P (s.bind fun _ => .pure Next.skip) (nextK P K) A = _
  rw [sawp_bind]
  rfl

/-! ### what each kind of operation asks -/
def someK {α : Type} (o : Option α) (J : α → Prop) : Prop := match o with | some v => J v | none => False
theorem someK_some {α : Type} (v : α) (J : α → Prop) : someK (some v) J = J v := rfl
def abin (P : Program) (op : BinOp) (t : TypeId) (x y : Operand) (xv yv : Value) (A : View) (K : Value → View → Prop) : Prop := sawp P (do eqGuard op t x y xv yv; binOp op t xv yv) K A
def aun (P : Program) (op : UnOp) (v : Value) (A : View) (K : Value → View → Prop) : Prop := sawp P (Op.unary op v) K A
def apick (c x y : Value) (A : View) (K : Value → View → Prop) : Prop := match c with | .bool b => K (if b then x else y) A | _ => False
def aalloc (P : Program) (t : TypeId) (A : View) (K : Value → View → Prop) : Prop := sawp P (Instr.alloc t true (.tuple #[])) K A
def abox (P : Program) (t : TypeId) (v : Value) (A : View) (K : Value → View → Prop) : Prop := sawp P (Instr.box t v) K A
def abuild (P : Program) (t : TypeId) (ps : Array (Nat × Value)) (A : View) (K : Value → View → Prop) : Prop := match P.built t ps.toList with
  | some cells => K (.agg cells) A
  | none => False
def alit (P : Program) (t : TypeId) (n : Nat) (ps : Array (Nat × Value)) (A : View) (K : Value → View → Prop) : Prop := sawp P (Instr.buildSlice t n ps) K A
def aload (P : Program) (t : TypeId) (v : Value) (A : View) (K : Value → View → Prop) : Prop := match v with
  | .pointer (some a) => match A.loadv P t a with
    | some v => K v A
    | none => False
  | _ => False
def astore (P : Program) (t : TypeId) (a v : Value) (A : View) (K : Value → View → Prop) : Prop := match a with
  | .pointer (some a) => match A.storev P t a v with
    | some A' => K undef A'
    | none => False
  | _ => False
def anil (P : Program) (v : Value) (A : View) (K : Value → View → Prop) : Prop := match v with
  | .pointer (some a) => K (.pointer (some a)) A
  | .func (.func f) x y => K (.func (.func f) x y) A
  | _ => False
def aconv (P : Program) (s d : TypeId) (v : Value) (A : View) (K : Value → View → Prop) : Prop := sawp P (convert s d v) K A
def amake (P : Program) (t : TypeId) (l c : Value) (A : View) (K : Value → View → Prop) : Prop := Comes1 P (Instr.makeSlice t l c) K A
def aslice (P : Program) (t : TypeId) (v : Value) (l h m : Option Value) (A : View) (K : Value → View → Prop) : Prop := sawp P (Instr.sliceAt t v l h m) K A
def afaddr (P : Program) (t : TypeId) (v : Value) (i : Nat) (A : View) (K : Value → View → Prop) : Prop := sawp P (Instr.fieldAt t v i) K A
def afield (P : Program) (t : TypeId) (v : Value) (i : Nat) (A : View) (K : Value → View → Prop) : Prop := sawp P (Instr.field t v i) K A
def aiaddr (P : Program) (t : TypeId) (v i : Value) (A : View) (K : Value → View → Prop) : Prop := sawp P (Instr.indexAt t v i) K A
def aindex (P : Program) (t : TypeId) (v i : Value) (A : View) (K : Value → View → Prop) : Prop := sawp P (Instr.index t v i) K A
def aextract (v : Value) (i : Nat) (A : View) (K : Value → View → Prop) : Prop := match v with
  | .tuple vs => match vs[i]? with
    | some v => K v A
    | none => False
  | _ => False
def abuiltin (P : Program) (b : Builtin) (ats : Array TypeId) (t : TypeId) (cs : Array Bool) (vs : Array Value) (A : View) (K : Value → View → Prop) : Prop := sawp P (builtin b ats t cs vs) (nextK P K) A
def acall (P : Program) (f : Value) (vs : Array Value) (A : View) (K : Value → View → Prop) : Prop := sawp P (do let d ← Deferred.ofValue f vs; invoke d.target d.args) (nextK P K) A

/-! ### each operation, in these words -/
section
variable (d : Option Tmp) (ty : TypeId) (ps : String) (af : Array Edge) (g : Option (Nat × Bool)) (ρ : Operand → Value)
theorem aop_move (x : Operand) : aop P ⟨d, .move x, ty, ps, af, g⟩ ρ A K = K (ρ x) A := rfl
theorem aop_assign (x : Operand) : aop P ⟨d, .assign x, ty, ps, af, g⟩ ρ A K = K (ρ x) A := rfl
theorem aop_pick (c x y : Operand) : aop P ⟨d, .pick c x y, ty, ps, af, g⟩ ρ A K = apick (ρ c) (ρ x) (ρ y) A K := by
  simp only [aop, execOp, apick]
  cases ρ c <;> rfl
theorem aop_alloc (t : TypeId) : aop P ⟨d, .alloc t, ty, ps, af, g⟩ ρ A K = aalloc P t A K := sawp_value _
theorem aop_box (t : TypeId) (x : Operand) : aop P ⟨d, .box t x, ty, ps, af, g⟩ ρ A K = abox P t (ρ x) A K := sawp_value _
theorem aop_build (t : TypeId) (qs : Array (Nat × Operand)) : aop P ⟨d, .build t qs, ty, ps, af, g⟩ ρ A K = abuild P t (qs.map fun (i, x) => (i, ρ x)) A K := rfl
theorem aop_lit (t : TypeId) (n : Nat) (qs : Array (Nat × Operand)) : aop P ⟨d, .buildSlice t n qs, ty, ps, af, g⟩ ρ A K = alit P t n (qs.map fun (i, x) => (i, ρ x)) A K := sawp_value _
theorem aop_load (t : TypeId) (x : Operand) : aop P ⟨d, .load t x, ty, ps, af, g⟩ ρ A K = aload P t (ρ x) A K := rfl
theorem aop_store (t : TypeId) (x v : Operand) : aop P ⟨d, .store t x v, ty, ps, af, g⟩ ρ A K = astore P t (ρ x) (ρ v) A K := rfl
theorem aop_bin (op : BinOp) (t : TypeId) (x y : Operand) (yt : TypeId) : aop P ⟨d, .binOp op t x y yt, ty, ps, af, g⟩ ρ A K = abin P op t x y (ρ x) (ρ y) A K := sawp_value _
theorem aop_un (op : UnOp) (t : TypeId) (x : Operand) : aop P ⟨d, .unOp op t x, ty, ps, af, g⟩ ρ A K = aun P op (ρ x) A K := sawp_value _
theorem aop_conv (s t : TypeId) (x : Operand) : aop P ⟨d, .convert s t x, ty, ps, af, g⟩ ρ A K = aconv P s t (ρ x) A K := sawp_value _
theorem aop_func (fn : Fn) (xs ys : Array Operand) : aop P ⟨d, .makeFunc fn xs ys, ty, ps, af, g⟩ ρ A K = K (.func fn (xs.map ρ) (ys.map ρ)) A := rfl
theorem aop_make (t : TypeId) (l c : Operand) : aop P ⟨d, .makeSlice t l c, ty, ps, af, g⟩ ρ A K = amake P t (ρ l) (ρ c) A K := rfl
theorem aop_slice (t : TypeId) (x : Operand) (l h m : Option Operand) : aop P ⟨d, .slice t x l h m, ty, ps, af, g⟩ ρ A K = aslice P t (ρ x) (l.map ρ) (h.map ρ) (m.map ρ) A K := sawp_value _
theorem aop_faddr (t : TypeId) (x : Operand) (i : Nat) : aop P ⟨d, .fieldAddr t x i, ty, ps, af, g⟩ ρ A K = afaddr P t (ρ x) i A K := sawp_value _
theorem aop_field (t : TypeId) (x : Operand) (i : Nat) : aop P ⟨d, .field t x i, ty, ps, af, g⟩ ρ A K = afield P t (ρ x) i A K := sawp_value _
theorem aop_iaddr (t : TypeId) (x i : Operand) : aop P ⟨d, .indexAddr t x i, ty, ps, af, g⟩ ρ A K = aiaddr P t (ρ x) (ρ i) A K := sawp_value _
theorem aop_index (t : TypeId) (x i : Operand) : aop P ⟨d, .index t x i, ty, ps, af, g⟩ ρ A K = aindex P t (ρ x) (ρ i) A K := sawp_value _
theorem aop_extract (x : Operand) (i : Nat) : aop P ⟨d, .extract x i, ty, ps, af, g⟩ ρ A K = aextract (ρ x) i A K := by
  show sawp P (do pure (Next.value (← Instr.extract (ρ x) i))) _ _ = _
  rw [sawp_value]
  unfold Instr.extract aextract
  cases ρ x <;> try rfl
  simp only
  split <;> rename_i h <;> simp only [h] <;> rfl
theorem aop_nil (x : Operand) : aop P ⟨d, .nilCheck x, ty, ps, af, g⟩ ρ A K = sawp P (execOp ρ ⟨d, .nilCheck x, ty, ps, af, g⟩) (nextK P K) A := rfl
theorem aop_call (f : Operand) (xs : Array Operand) (ats : Array TypeId) : aop P ⟨d, .call ⟨.value f, xs, ats⟩, ty, ps, af, g⟩ ρ A K = acall P (ρ f) (xs.map ρ) A K := rfl
theorem aop_append (xs : Array Operand) (ats : Array TypeId) : aop P ⟨d, .call ⟨.builtin .append, xs, ats⟩, ty, ps, af, g⟩ ρ A K = aappend P ats ty (xs.map ρ) A K := rfl
theorem aop_copy (xs : Array Operand) (ats : Array TypeId) : aop P ⟨d, .call ⟨.builtin .copy, xs, ats⟩, ty, ps, af, g⟩ ρ A K = acopy P ats ty (xs.map ρ) A K := rfl
theorem aop_clear (xs : Array Operand) (ats : Array TypeId) : aop P ⟨d, .call ⟨.builtin .clear, xs, ats⟩, ty, ps, af, g⟩ ρ A K = aclear P ats ty (xs.map ρ) A K := rfl
theorem aop_len (xs : Array Operand) (ats : Array TypeId) : aop P ⟨d, .call ⟨.builtin .len, xs, ats⟩, ty, ps, af, g⟩ ρ A K = abuiltin P .len ats ty (xs.map fun | .const _ => true | _ => false) (xs.map ρ) A K := rfl
theorem aop_cap (xs : Array Operand) (ats : Array TypeId) : aop P ⟨d, .call ⟨.builtin .cap, xs, ats⟩, ty, ps, af, g⟩ ρ A K = abuiltin P .cap ats ty (xs.map fun | .const _ => true | _ => false) (xs.map ρ) A K := rfl
theorem aop_min (xs : Array Operand) (ats : Array TypeId) : aop P ⟨d, .call ⟨.builtin .min, xs, ats⟩, ty, ps, af, g⟩ ρ A K = abuiltin P .min ats ty (xs.map fun | .const _ => true | _ => false) (xs.map ρ) A K := rfl
theorem aop_max (xs : Array Operand) (ats : Array TypeId) : aop P ⟨d, .call ⟨.builtin .max, xs, ats⟩, ty, ps, af, g⟩ ρ A K = abuiltin P .max ats ty (xs.map fun | .const _ => true | _ => false) (xs.map ρ) A K := rfl
end

/-! ### regions and code, step by step -/
theorem aops_nil (ops : Array Oper) (K : Fr → View → Prop) : aops P ops K [] fr A = K fr A := rfl
theorem aops_plain (ops : Array Oper) (K : Fr → View → Prop) (d : Option Tmp) (op : Op) (ty : TypeId) (ps : String) (af : Array Edge) (rest : List Oper) :
    aops P ops K (⟨d, op, ty, ps, af, none⟩ :: rest) fr A = aop P ⟨d, op, ty, ps, af, none⟩ (ev fr) A fun v A' => aops P ops K rest (updO fr d v) A' := rfl
def aguard (y : Option Bool) (want : Bool) (p q : Prop) : Prop := (y = some want → p) ∧ (y ≠ some want → q)
theorem aops_guard (ops : Array Oper) (K : Fr → View → Prop) (d : Option Tmp) (op : Op) (ty : TypeId) (ps : String) (af : Array Edge) (j : Nat) (want : Bool) (rest : List Oper) :
    aops P ops K (⟨d, op, ty, ps, af, some (j, want)⟩ :: rest) fr A =
      aguard (ayield ops fr j) want (aop P ⟨d, op, ty, ps, af, some (j, want)⟩ (ev fr) A fun v A' => aops P ops K rest (updO fr d v) A') (aops P ops K rest (updO fr d undef) A) := rfl
theorem aguard_some (b want : Bool) (p q : Prop) : aguard (some b) want p q ↔ (b = want → p) ∧ (b ≠ want → q) := by simp [aguard]
theorem aguard_true (want : Bool) (p q : Prop) : aguard (some want) want p q = p := by simp [aguard]
theorem aguard_tf (p q : Prop) : aguard (some true) false p q = q := by simp [aguard]
theorem aguard_ft (p q : Prop) : aguard (some false) true p q = q := by simp [aguard]

theorem awp_region (id : Nat) (l : List Oper) (K : Post) : awp P (.region id l.toArray false) K fr A = aops P l.toArray (K .normal) l fr A := rfl
theorem awp_draw (id : Nat) (ops : Array Oper) (K : Post) : awp P (.region id ops true) K fr A = ADraw P id ops (K .normal) fr A := rfl
theorem awp_seq (a b : Code) (K : Post) : awp P (.seq a b) K fr A = awp P a (seqK (awp P b K) K) fr A := rfl
theorem awp_cond (c : Operand) (a b : Code) (K : Post) : awp P (.cond c a b) K fr A = acond (ev fr c) (awp P a K fr A) (awp P b K fr A) := rfl
theorem awp_block (id : Nat) (c : Code) (K : Post) : awp P (.block id c) K fr A = awp P c (blockK id K) fr A := rfl
theorem awp_loop (c : Code) (K : Post) : awp P (.loop c) K fr A = ALoop P c K fr A := rfl
theorem awp_exit (id : Nat) (K : Post) : awp P (.exit id) K fr A = K (.exit id) fr A := rfl
theorem awp_ret (K : Post) : awp P .ret K fr A = K .ret fr A := rfl
theorem awp_skip (K : Post) : awp P .skip K fr A = K .normal fr A := rfl
theorem seqK_normal (K1 : Fr → View → Prop) (K : Post) : seqK K1 K .normal fr A = K1 fr A := rfl
theorem seqK_ret (K1 : Fr → View → Prop) (K : Post) : seqK K1 K .ret fr A = K .ret fr A := rfl
theorem seqK_exit (K1 : Fr → View → Prop) (K : Post) (i : Nat) : seqK K1 K (.exit i) fr A = K (.exit i) fr A := rfl
theorem blockK_normal (id : Nat) (K : Post) : blockK id K .normal fr A = K .normal fr A := rfl
theorem blockK_ret (id : Nat) (K : Post) : blockK id K .ret fr A = K .ret fr A := rfl
theorem blockK_same (id : Nat) (K : Post) : blockK id K (.exit id) fr A = K .normal fr A := by simp [blockK]
theorem blockK_other (id i : Nat) (K : Post) (h : (i == id) = false) : blockK id K (.exit i) fr A = K (.exit i) fr A := by
  have : i ≠ id := by simpa using h
  simp [blockK, this]
theorem blockK_ne (id i : Nat) (K : Post) (h : i ≠ id) : blockK id K (.exit i) fr A = K (.exit i) fr A := by simp [blockK, h]
theorem acond_true (p q : Prop) : acond (.bool true) p q = p := by simp [acond]
theorem acond_false (p q : Prop) : acond (.bool false) p q = q := by simp [acond]
/-- A branch: what simp leaves alone. -/
def abr (c p : Prop) : Prop := c → p
theorem abr_true (p : Prop) : abr True p = p := by simp [abr]
theorem abr_false (p : Prop) : abr False p = True := by simp [abr]
theorem acond_decide (c : Prop) [Decidable c] (p q : Prop) : acond (.bool (decide c)) p q = (abr c p ∧ abr (¬ c) q) := by simp [acond, abr]
theorem acond_bool (b : Bool) (p q : Prop) : acond (.bool b) p q = (abr (b = true) p ∧ abr (b = false) q) := by simp [acond, abr]
theorem aguard_bt (b : Bool) (p q : Prop) : aguard (some b) true p q = (abr (b = true) p ∧ abr (b = false) q) := by simp [aguard, abr]
theorem aguard_bf (b : Bool) (p q : Prop) : aguard (some b) false p q = (abr (b = false) p ∧ abr (b = true) q) := by simp [aguard, abr]
theorem fnPost_normal (fn : Func) (R : Value → View → Prop) : fnPost P fn R .normal fr A = ares P R fr A fn.results.toList := rfl
theorem fnPost_ret (fn : Func) (R : Value → View → Prop) : fnPost P fn R .ret fr A = ares P R fr A fn.results.toList := rfl

theorem ev_tmp (t : Tmp) : ev fr (.tmp t) = fr t := rfl
theorem ev_const (v : Value) : ev fr (.const v) = v := rfl
theorem ev_func (f : FuncId) : ev fr (.func f) = .func (.func f) #[] #[] := rfl
theorem updO_at (d s : Tmp) (v : Value) : updO fr (some d) v s = if s = d then v else fr s := rfl
theorem updO_same (d : Tmp) (v : Value) : updO fr (some d) v d = v := by simp [updO, upd]
theorem updO_other (d s : Tmp) (v : Value) (h : (s == d) = false) : updO fr (some d) v s = fr s := by
  have : s ≠ d := by simpa using h
  simp [updO, upd, this]
theorem updO_none (v : Value) (s : Tmp) : updO fr none v s = fr s := rfl
theorem frame0_at (args : Array Value) (t : Tmp) : frame0 args t = args.getD t undef := rfl

/-! ### values -/
theorem abin_add (k : IntKind) (t : TypeId) (x y : Operand) (a b : Int) : abin P .add t x y (.int k a) (.int k b) A K = K (.int k (k.wrap (a + b))) A := by cases k <;> rfl
theorem abin_sub (k : IntKind) (t : TypeId) (x y : Operand) (a b : Int) : abin P .sub t x y (.int k a) (.int k b) A K = K (.int k (k.wrap (a - b))) A := by cases k <;> rfl
theorem abin_mul (k : IntKind) (t : TypeId) (x y : Operand) (a b : Int) : abin P .mul t x y (.int k a) (.int k b) A K = K (.int k (k.wrap (a * b))) A := by cases k <;> rfl
theorem abin_lss (k : IntKind) (t : TypeId) (x y : Operand) (a b : Int) : abin P .lss t x y (.int k a) (.int k b) A K = K (.bool (decide (a < b))) A := by cases k <;> rfl
theorem abin_leq (k : IntKind) (t : TypeId) (x y : Operand) (a b : Int) : abin P .leq t x y (.int k a) (.int k b) A K = K (.bool (decide (a ≤ b))) A := by cases k <;> rfl
theorem abin_gtr (k : IntKind) (t : TypeId) (x y : Operand) (a b : Int) : abin P .gtr t x y (.int k a) (.int k b) A K = K (.bool (decide (b < a))) A := by cases k <;> rfl
theorem abin_geq (k : IntKind) (t : TypeId) (x y : Operand) (a b : Int) : abin P .geq t x y (.int k a) (.int k b) A K = K (.bool (decide (b ≤ a))) A := by cases k <;> rfl
theorem abin_eql (k : IntKind) (t : TypeId) (x y : Operand) (a b : Int) : abin P .eql t x y (.int k a) (.int k b) A K = K (.bool (decide (a = b))) A := by
  have : (a == b) = decide (a = b) := rfl
  rw [← this]; cases k <;> rfl
theorem abin_neq (k : IntKind) (t : TypeId) (x y : Operand) (a b : Int) : abin P .neq t x y (.int k a) (.int k b) A K = K (.bool (decide (a ≠ b))) A := by
  have : (a != b) = decide (a ≠ b) := by rw [Bool.eq_iff_iff]; simp
  rw [← this]; cases k <;> rfl
theorem bytes_eq (a b : ByteArray) : (a.toList == b.toList) = decide (a = b) := by
  rw [Bool.eq_iff_iff]
  simp only [beq_iff_eq, decide_eq_true_eq]
  refine ⟨fun h => ?_, fun h => by rw [h]⟩
  rw [Lib.toList_data, Lib.toList_data] at h
  exact ByteArray.ext (Array.toList_inj.1 h)
theorem abin_eqs (t : TypeId) (x y : Operand) (a b : ByteArray) : abin P .eql t x y (.string a) (.string b) A K = K (.bool (decide (a = b))) A := by
  rw [← bytes_eq]; rfl
theorem abin_nes (t : TypeId) (x y : Operand) (a b : ByteArray) : abin P .neq t x y (.string a) (.string b) A K = K (.bool (decide (a ≠ b))) A := by
  have : (!(a.toList == b.toList)) = decide (a ≠ b) := by rw [bytes_eq]; simp
  rw [← this]; rfl
theorem aun_not (b : Bool) : aun P .not (.bool b) A K = K (.bool (!b)) A := rfl
theorem apick_bool (b : Bool) (x y : Value) : apick (.bool b) x y A K = K (if b then x else y) A := rfl
theorem aextract_at (vs : Array Value) (i : Nat) : aextract (.tuple vs) i A K = someK vs[i]? (fun v => K v A) := by
  simp only [aextract, someK]
  cases vs[i]? <;> rfl
theorem wrap_id {n : Int} (h1 : -9223372036854775808 ≤ n) (h2 : n ≤ 9223372036854775807) : IntKind.i64.wrap n = n := IntWalk.i64_in _ ⟨h1, h2⟩

/-- A mark by which simp takes a congruence to have done something. -/
def Mark {α : Sort _} (v : α) : α := v
theorem mark_eq {α : Sort _} (v : α) : Mark v = v := Eq.trans (Eq.refl _) (Eq.refl _)

/-! ### what simp may look into -/
section
variable {t : TypeId} {ops : Array Oper} {K1 : Fr → View → Prop} {l : List Oper} {op : BinOp} {x y : Operand} {v v' u u' w w' : Value} {n : Nat} {p q : Prop} {b : Builtin} {ts : Array TypeId} {bs : Array Bool} {vs vs' : Array Value} {ps ps' : Array (Nat × Value)} {o o' o1 o1' o2 o2' : Option Value} {c : Code} {K2 : Post} {uop : UnOp} {f : FuncId}
@[congr] theorem aops_congr {A' : View} {fr' : Fr} (h1 : Mark A = A') (h2 : Mark fr = fr') : aops P ops K1 l fr A = aops P ops K1 l fr' A' := by rw [← h1, ← h2, mark_eq, mark_eq]
@[congr] theorem awp_congr {A' : View} {fr' : Fr} (h1 : Mark A = A') (h2 : Mark fr = fr') : awp P c K2 fr A = awp P c K2 fr' A' := by rw [← h1, ← h2, mark_eq, mark_eq]
@[congr] theorem ALoop_congr {A' : View} {fr' : Fr} (h1 : Mark A = A') (h2 : Mark fr = fr') : ALoop P c K2 fr A = ALoop P c K2 fr' A' := by rw [← h1, ← h2, mark_eq, mark_eq]
@[congr] theorem ADraw_congr {A' : View} {fr' : Fr} (h1 : Mark A = A') (h2 : Mark fr = fr') : ADraw P n ops K1 fr A = ADraw P n ops K1 fr' A' := by rw [← h1, ← h2, mark_eq, mark_eq]
@[congr] theorem abin_congr (h1 : Mark v = v') (h2 : Mark u = u') : abin P op t x y v u A K = abin P op t x y v' u' A K := by rw [← h1, ← h2, mark_eq, mark_eq]
@[congr] theorem aop_congr {oo : Oper} {ρ : Operand → Value} {A' : View} (h1 : Mark A = A') : aop P oo ρ A K = aop P oo ρ A' K := by rw [← h1, mark_eq]
@[congr] theorem aun_congr (h1 : Mark v = v') : aun P uop v A K = aun P uop v' A K := by rw [← h1, mark_eq]
@[congr] theorem apick_congr (h1 : Mark v = v') (h2 : Mark u = u') (h3 : Mark w = w') : apick v u w A K = apick v' u' w' A K := by rw [← h1, ← h2, ← h3, mark_eq, mark_eq, mark_eq]
@[congr] theorem aalloc_congr {A' : View} (h1 : Mark A = A') : aalloc P t A K = aalloc P t A' K := by rw [← h1, mark_eq]
@[congr] theorem abox_congr (h1 : Mark v = v') : abox P t v A K = abox P t v' A K := by rw [← h1, mark_eq]
@[congr] theorem abuild_congr (h1 : Mark ps = ps') : abuild P t ps A K = abuild P t ps' A K := by rw [← h1, mark_eq]
@[congr] theorem alit_congr (h1 : Mark ps = ps') : alit P t n ps A K = alit P t n ps' A K := by rw [← h1, mark_eq]
@[congr] theorem aload_congr (h1 : Mark v = v') : aload P t v A K = aload P t v' A K := by rw [← h1, mark_eq]
@[congr] theorem astore_congr (h1 : Mark v = v') (h2 : Mark u = u') : astore P t v u A K = astore P t v' u' A K := by rw [← h1, ← h2, mark_eq, mark_eq]
@[congr] theorem aconv_congr {s : TypeId} (h1 : Mark v = v') : aconv P s t v A K = aconv P s t v' A K := by rw [← h1, mark_eq]
@[congr] theorem amake_congr (h1 : Mark v = v') (h2 : Mark u = u') : amake P t v u A K = amake P t v' u' A K := by rw [← h1, ← h2, mark_eq, mark_eq]
@[congr] theorem aslice_congr (h1 : Mark v = v') (h2 : Mark o = o') (h3 : Mark o1 = o1') (h4 : Mark o2 = o2') : aslice P t v o o1 o2 A K = aslice P t v' o' o1' o2' A K := by rw [← h1, ← h2, ← h3, ← h4, mark_eq, mark_eq, mark_eq, mark_eq]
@[congr] theorem afaddr_congr (h1 : Mark v = v') : afaddr P t v n A K = afaddr P t v' n A K := by rw [← h1, mark_eq]
@[congr] theorem afield_congr (h1 : Mark v = v') : afield P t v n A K = afield P t v' n A K := by rw [← h1, mark_eq]
@[congr] theorem aiaddr_congr (h1 : Mark v = v') (h2 : Mark u = u') : aiaddr P t v u A K = aiaddr P t v' u' A K := by rw [← h1, ← h2, mark_eq, mark_eq]
@[congr] theorem aindex_congr (h1 : Mark v = v') (h2 : Mark u = u') : aindex P t v u A K = aindex P t v' u' A K := by rw [← h1, ← h2, mark_eq, mark_eq]
@[congr] theorem aextract_congr (h1 : Mark v = v') : aextract v n A K = aextract v' n A K := by rw [← h1, mark_eq]
@[congr] theorem abuiltin_congr (h1 : Mark vs = vs') : abuiltin P b ts t bs vs A K = abuiltin P b ts t bs vs' A K := by rw [← h1, mark_eq]
@[congr] theorem acall_congr (h1 : Mark v = v') (h2 : Mark vs = vs') : acall P v vs A K = acall P v' vs' A K := by rw [← h1, ← h2, mark_eq, mark_eq]
@[congr] theorem ACalls_congr (h2 : Mark vs = vs') : ACalls P f vs A K = ACalls P f vs' A K := by rw [← h2, mark_eq]
@[congr] theorem aappend_congr (h2 : Mark vs = vs') : aappend P ts t vs A K = aappend P ts t vs' A K := by rw [← h2, mark_eq]
@[congr] theorem acopy_congr (h2 : Mark vs = vs') : acopy P ts t vs A K = acopy P ts t vs' A K := by rw [← h2, mark_eq]
@[congr] theorem aclear_congr (h2 : Mark vs = vs') : aclear P ts t vs A K = aclear P ts t vs' A K := by rw [← h2, mark_eq]
@[congr] theorem abr_congr {c c' : Prop} (h1 : Mark c = c') : abr c p = abr c' p := by rw [← h1, mark_eq]
@[congr] theorem acond_congr (h1 : Mark v = v') : acond v p q = acond v' p q := by rw [← h1, mark_eq]
@[congr] theorem aguard_congr {z z' : Option Bool} {wn : Bool} (h1 : Mark z = z') : aguard z wn p q = aguard z' wn p q := by rw [← h1, mark_eq]
@[congr] theorem someK_congr {α : Type} {z z' : Option α} {J : α → Prop} (h1 : Mark z = z') : someK z J = someK z' J := by rw [← h1, mark_eq]
end

end Go.Proofs.YtggklaimbklefaaDoor

