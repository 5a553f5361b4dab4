/- Arguments in frames; bundles. -/
import Derived.Test.YtggklaimbklefaaDoorFw9
import Derived.Lib.Bytealg
set_option maxHeartbeats 4000000
set_option synthInstance.maxHeartbeats 400000
set_option synthInstance.maxSize 4096
set_option linter.unusedSimpArgs false
set_option linter.unusedVariables false
namespace Go.Proofs.YtggklaimbklefaaDoor

section
variable (a b c d e : Value)
theorem fr10 : frame0 #[a] 0 = a := rfl
theorem fr20 : frame0 #[a, b] 0 = a := rfl
theorem fr21 : frame0 #[a, b] 1 = b := rfl
theorem fr30 : frame0 #[a, b, c] 0 = a := rfl
theorem fr31 : frame0 #[a, b, c] 1 = b := rfl
theorem fr32 : frame0 #[a, b, c] 2 = c := rfl
theorem fr40 : frame0 #[a, b, c, d] 0 = a := rfl
theorem fr41 : frame0 #[a, b, c, d] 1 = b := rfl
theorem fr42 : frame0 #[a, b, c, d] 2 = c := rfl
theorem fr43 : frame0 #[a, b, c, d] 3 = d := rfl
end
theorem frs : type_of% (And.intro @fr10 (And.intro @fr20 (And.intro @fr21 (And.intro @fr30 (And.intro @fr31 (And.intro @fr32 (And.intro @fr40 (And.intro @fr41 (And.intro @fr42 @fr43))))))))) := And.intro @fr10 (And.intro @fr20 (And.intro @fr21 (And.intro @fr30 (And.intro @fr31 (And.intro @fr32 (And.intro @fr40 (And.intro @fr41 (And.intro @fr42 @fr43))))))))

/-- The model's stand-in for internal/bytealg.IndexByteString. -/
theorem acall_indexByte {P : Program} {A : View} {K : Value → View → Prop} {f : FuncId} {fn : Func} (hf : P.funcs[f]? = some fn) (hname : (fn.name == "runtime.NumGoroutine") = false)
    (hb : fn.body.isNone = true) (hn : Extern.findNext fn = none) (he : Extern.find fn = some Extern.BytealgIndexByte.indexByte) (s : ByteArray) (c : Int) :
    acall P (.func (.func f) #[] #[]) #[.string s, .int .u8 c] A K = K (.int .i64 (Go.Lib.indexByte s.data.toList c.toNat.toUInt8)) A := by
  rw [← Go.Lib.firstIdx_eq]
  unfold acall
  show sawp P (callFunc f (#[] ++ #[.string s, .int .u8 c] ++ #[])) (nextK P K) A = _
  unfold callFunc
  show sawp P (Sem.bind (.program .pure) _) (nextK P K) A = _
  simp only [Sem.bind, sawp, hf, hname, hb, hn, he, Bool.false_eq_true, if_false, if_true]
  show sawp P (Sem.bind (Extern.BytealgIndexByte.indexByte #[.string s, .int .u8 c]) _) (nextK P K) A = _
  rw [sawp_bind]
  show sawp P (match (List.range s.size).find? fun i => s[i]! == c.toNat.toUInt8 with | some i => pure (goInt i) | none => pure (goInt (-1))) _ A = _
  unfold firstIdx
  split <;> rename_i h <;> rw [h] <;> rfl

theorem ite_tt {α : Type} (a b : α) : (if true = true then a else b) = a := rfl
theorem ite_ff {α : Type} (a b : α) : (if false = true then a else b) = b := rfl
theorem abin_rem {P : Program} {A : View} {K : Value → View → Prop} (k : IntKind) (t : TypeId) (x y : Operand) (a b : Int) (h : ¬ b = 0) : abin P .rem t x y (.int k a) (.int k b) A K = K (.int k (a.tmod b)) A := by
  have e : Op.intDiv .rem k a b = pure (.int k (a.tmod b)) := by unfold Op.intDiv; rw [if_neg h]
  have e2 : binOp .rem t (.int k a) (.int k b) = Op.intDiv .rem k a b := by unfold binOp; simp
  show sawp P (binOp .rem t (.int k a) (.int k b)) K A = _
  rw [e2, e]
  rfl

theorem abin_quo {P : Program} {A : View} {K : Value → View → Prop} (k : IntKind) (t : TypeId) (x y : Operand) (a b : Int) (h : ¬ b = 0) : abin P .quo t x y (.int k a) (.int k b) A K = K (.int k (k.wrap (a.tdiv b))) A := by
  have e : Op.intDiv .quo k a b = pure (.int k (k.wrap (a.tdiv b))) := by unfold Op.intDiv; rw [if_neg h]
  have e2 : binOp .quo t (.int k a) (.int k b) = Op.intDiv .quo k a b := by unfold binOp; simp
  show sawp P (binOp .quo t (.int k a) (.int k b)) K A = _
  rw [e2, e]
  rfl

theorem abox_agg {P : Program} {A : View} {K : Value → View → Prop} (t : TypeId) (l : List Value) (h : l.all (·.oneCell') = true) : abox P t (.agg l.toArray) A K = ∀ b, A b = none → K (.pointer (some ⟨b, 0, none⟩)) (A.set b ⟨t, l, l.length, true⟩) := by
  rw [abox_at (by simpa [Value.cells] using h)]
  simp [Value.cells]

/-! ### conversions -/
theorem sawp_cellsFrom {P : Program} {A : View} (a : Addr) : ∀ (cs : List Value) (i : Nat) (acc : Array Value) (K : Array Value → View → Prop), (∀ j v, cs[j]? = some v → A.cell (a.add (i + j)) = some v) →
    sawp P (loadCellsFrom a i cs.length acc) K A = K (acc ++ cs.toArray) A
  | [], i, acc, K, _ => by show K acc A = _; rw [show acc ++ ([] : List Value).toArray = acc by simp]
  | c :: cs, i, acc, K, h => by
    show sawp P (Sem.bind (.load .plain (a.add i) .pure) fun v => loadCellsFrom a (i + 1) cs.length (acc.push v)) K A = _
    simp only [Sem.bind, sawp]
    have h0 := h 0 c rfl
    rw [Nat.add_zero] at h0
    rw [h0]
    simp only
    rw [sawp_cellsFrom a cs (i + 1) (acc.push c) K (fun j v hj => by
      have := h (j + 1) v hj
      rwa [show i + 1 + j = i + (j + 1) by omega])]
    congr 1
    simp

theorem sawp_forIn_bytes {P : Program} {A : View} (f : Value → ByteArray → Sem (ForInStep ByteArray)) (hf : ∀ (n : Int) (r : ByteArray) (K : ForInStep ByteArray → View → Prop), sawp P (f (.int .u8 n) r) K A = K (.yield (r.push (UInt8.ofNat n.toNat))) A) :
    ∀ (ns : List Int) (s : ByteArray) (K : ByteArray → View → Prop), sawp P (forIn (ns.map (Value.int .u8)) s f) K A = K (ns.foldl (fun r n => r.push (UInt8.ofNat n.toNat)) s) A := by
  intro ns
  induction ns with
  | nil => intro s K; rfl
  | cons n ns ih =>
    intro s K
    simp only [List.map_cons, List.forIn_cons, List.foldl_cons]
    show sawp P (Sem.bind (f (.int .u8 n) s) _) K A = _
    rw [sawp_bind, hf]
    exact ih _ K

/-- Bytes to a string. -/
theorem aconv_bytes {P : Program} {A : View} {K : Value → View → Prop} {src dst e : TypeId} (hs : P.underlying src = some (.slice e)) (he : P.underlying e = some (.int .u8)) (hd : P.underlying dst = some .string) {a : Addr} {ns : List Int} {c : Nat}
    (h : ∀ j v, (ns.map (Value.int .u8))[j]? = some v → A.cell (a.add j) = some v) :
    aconv P src dst (.slice (some a) ns.length c) A K = K (.string (ns.foldl (fun r n => r.push (UInt8.ofNat n.toNat)) ByteArray.empty)) A := by
  unfold aconv convert
  rw [sawp_underlying hs, sawp_underlying hd]
  show sawp P (underlying e >>= _) K A = _
  rw [sawp_underlying he]
  show sawp P (Conv.bytesToString (.slice (some a) ns.length c)) K A = _
  unfold Conv.bytesToString
  show sawp P (Sem.bind (loadCellsFrom a 0 ns.length #[]) _) K A = _
  rw [sawp_bind]
  have := sawp_cellsFrom (P := P) (A := A) a (ns.map (Value.int .u8)) 0 #[] (fun x A => sawp P (do
    let s ← forIn x ByteArray.empty fun c s => do
      let .int .u8 n := c | stuck "bytesToString: byte expected"
      pure (ForInStep.yield (s.push (UInt8.ofNat n.toNat)))
    pure (.string s)) K A) (fun j v hj => by rw [Nat.zero_add]; exact h j v hj)
  rw [List.length_map] at this
  refine this.trans ?_
  rw [show (#[] : Array Value) ++ (ns.map (Value.int .u8)).toArray = (ns.map (Value.int .u8)).toArray by simp, List.forIn_toArray]
  show sawp P (Sem.bind _ _) K A = _
  rw [sawp_bind, sawp_forIn_bytes _ (fun n r K => rfl)]
  rfl

theorem aconv_int {P : Program} {A : View} {K : Value → View → Prop} {src dst : TypeId} {s k : IntKind} (hs : P.underlying src = some (.int s)) (hd : P.underlying dst = some (.int k)) (q : IntKind) (n : Int) :
    aconv P src dst (.int q n) A K = K (.int k (k.wrap n)) A := by
  unfold aconv convert
  rw [sawp_underlying hs, sawp_underlying hd]
  rfl

/-! ### plans, for simp -/
section
variable {P : Program} {A : View} {fr : Fr} {ops : Array Oper} {K : Fr → View → Prop} {J : List Rd → Fr → View → Prop} {W : List Rd} {L : List PItem}
theorem bseq_q (l : List Oper) (i : Nat) : bseq P l.toArray K (.q i :: L) W fr A = bitem P l.toArray (.q i) l[i]? W fr A fun W fr A => bseq P l.toArray K L W fr A := by rw [← List.getElem?_toArray]; rfl
theorem bseq_l (l : List Oper) (i : Nat) (b : Bool) : bseq P l.toArray K (.l i b :: L) W fr A = bitem P l.toArray (.l i b) l[i]? W fr A fun W fr A => bseq P l.toArray K L W fr A := by rw [← List.getElem?_toArray]; rfl
theorem bseq_c (l : List Oper) (i : Nat) (ks : List Nat) : bseq P l.toArray K (.c i ks :: L) W fr A = bitem P l.toArray (.c i ks) l[i]? W fr A fun W fr A => bseq P l.toArray K L W fr A := by rw [← List.getElem?_toArray]; rfl
theorem bitem_zero (it : PItem) (o : Oper) (l : List Oper) : bitem P ops it (o :: l)[0]? W fr A J = bitem P ops it (some o) W fr A J := rfl
theorem bitem_succ (it : PItem) (o : Oper) (l : List Oper) (n : Nat) : bitem P ops it (o :: l)[n + 1]? W fr A J = bitem P ops it l[n]? W fr A J := rfl
theorem rdsKept_cons (ks : List Nat) (i : Nat) (t : TypeId) (a : Addr) (v : Value) : rdsKept P A ks (⟨i, t, a, v⟩ :: W) = ((ks.contains i = true → A.loadv P t a = some v) ∧ rdsKept P A ks W) := rfl
theorem kc_nil (i : Nat) : ([] : List Nat).contains i = false := rfl
theorem kc_cons (i k : Nat) (ks : List Nat) : (k :: ks).contains i = (i == k || ks.contains i) := List.contains_cons
end
@[congr] theorem bseq_congr {P : Program} {A A' : View} {fr fr' : Fr} {ops : Array Oper} {K : Fr → View → Prop} {W : List Rd} {L : List PItem} (h1 : Mark A = A') (h2 : Mark fr = fr') : bseq P ops K L W fr A = bseq P ops K L W fr' A' := by rw [← h1, ← h2, mark_eq, mark_eq]
theorem pln : type_of% (And.intro @bseq_q (And.intro @bseq_l (And.intro @bseq_c (And.intro @bseq_nil (And.intro @bitem_zero (And.intro @bitem_succ (And.intro @bitem_q (And.intro @bitem_qg (And.intro @bitem_l (And.intro @bitem_lg (And.intro @bitem_c (And.intro @bitem_cg (@bload_at))))))))))))) := And.intro @bseq_q (And.intro @bseq_l (And.intro @bseq_c (And.intro @bseq_nil (And.intro @bitem_zero (And.intro @bitem_succ (And.intro @bitem_q (And.intro @bitem_qg (And.intro @bitem_l (And.intro @bitem_lg (And.intro @bitem_c (And.intro @bitem_cg (@bload_at))))))))))))

theorem plv : type_of% (And.intro @blate_t (And.intro @blate_f (And.intro @rdsKept_nil (And.intro @rdsKept_none (And.intro @rdsKept_cons (And.intro @kc_nil (And.intro @kc_cons (@bload_at)))))))) := And.intro @blate_t (And.intro @blate_f (And.intro @rdsKept_nil (And.intro @rdsKept_none (And.intro @rdsKept_cons (And.intro @kc_nil (And.intro @kc_cons (@bload_at)))))))

/-- A slice as one cell. -/
def slS {α : Type} (S : Shape α) : Shape (List α) where
  size := 1
  rel A xs cs := ∃ v, cs = [v] ∧ Sl S A v xs
  mono := fun he ⟨v, h, hs⟩ => ⟨v, h, hs.mono he⟩
  len := fun ⟨v, h, _⟩ => by rw [h]; rfl
  one := fun ⟨v, h, hs⟩ u hu => by
    obtain ⟨a, c, rfl, _⟩ := hs.slice
    rw [h, List.mem_singleton] at hu
    rw [hu]; rfl

def unitS : Shape Unit := ⟨0, fun _ _ cs => cs = [], fun _ h => h, fun h => by rw [h]; rfl, fun h v hv => by rw [h] at hv; cases hv⟩
/-- One behind the other. -/
def consS {α β : Type} (S : Shape α) (T : Shape β) : Shape (α × β) where
  size := S.size + T.size
  rel A x cs := ∃ c d, cs = c ++ d ∧ S.rel A x.1 c ∧ T.rel A x.2 d
  mono := fun he ⟨c, d, h, h1, h2⟩ => ⟨c, d, h, S.mono he h1, T.mono he h2⟩
  len := fun ⟨c, d, h, h1, h2⟩ => by rw [h, List.length_append, S.len h1, T.len h2]
  one := fun ⟨c, d, h, h1, h2⟩ v hv => by
    rw [h] at hv
    exact (List.mem_append.1 hv).elim (S.one h1 v) (T.one h2 v)

end Go.Proofs.YtggklaimbklefaaDoor

