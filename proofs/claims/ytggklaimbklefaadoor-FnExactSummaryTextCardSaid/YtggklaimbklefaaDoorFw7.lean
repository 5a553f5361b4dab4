/- Regions whose order is drawn: reads and computations first, then what acts, one after the other; whatever order is drawn, it comes to the same. -/
import Derived.Test.YtggklaimbklefaaDoorFw6b
set_option maxHeartbeats 4000000
set_option synthInstance.maxHeartbeats 400000
set_option synthInstance.maxSize 4096
set_option linter.unusedSimpArgs false
set_option linter.unusedVariables false
namespace Go.Proofs.YtggklaimbklefaaDoor

def needs (o : Oper) : List Nat := (o.after.toList.filter (Region.binds .any)).map (·.on)
def reach (ops : Array Oper) : Nat → Nat → Nat → Bool
  | 0, _, _ => false
  | f + 1, i, j => match ops[j]? with
    | some o => (needs o).any fun k => k == i || reach ops f i k
    | none => false
def quietOp (o : Oper) : Bool := match o.op with
  | .convert .. | .move _ | .assign _ | .pick .. | .load .. | .build .. | .binOp .. | .unOp .. | .fieldAddr .. | .field .. | .indexAddr .. | .index .. | .extract .. | .slice .. | .makeFunc .. | .nilCheck _ => true
  | .call { callee := .builtin .len, .. } => true
  | .call { callee := .builtin .min, .. } => true
  | .call { callee := .builtin .max, .. } => true
  | .call { callee := .builtin .cap, .. } => true
  | .call { callee := .builtin .unsafeSliceData, .. } => true
  | _ => false
def pairOk (ops : Array Oper) (i j : Nat) : Bool := reach ops ops.size i j || (match ops[i]?, ops[j]? with
  | some a, some b => (quietOp a || allocOp b) && a.apart ops b
  | _, _ => false)
def linOk (ops : Array Oper) : List Nat → List Nat → Bool
  | _, [] => true
  | done, i :: L => (match ops[i]? with | some o => (needs o).all (done.contains ·) | none => false) && !L.contains i && L.all (pairOk ops i) && linOk ops (i :: done) L
def planOk (ops : Array Oper) (L : List Nat) : Bool := (List.range ops.size).all (L.contains ·) && L.all (· < ops.size) && linOk ops [] L && Region.noSelect ops

/-- It gives this value, and all that is known stays as it is. -/
def Gives (P : Program) (o : Oper) (ρ : Operand → Value) (A : View) (v : Value) : Prop := aop P o ρ A fun u A' => u = v ∧ A' = A

/-- What has been given, and may be asked for later. -/
structure Got where
  idx : Nat
  fact : View → Prop
  up : ∀ (A : View) (b : Nat) (k : Blk), A b = none → fact A → fact (A.set b k)

theorem gives_up {P : Program} {o : Oper} {ρ : Operand → Value} {v : Value} (A : View) (b : Nat) (k : Blk) (hb : A b = none) (h : Gives P o ρ A v) : Gives P o ρ (A.set b k) v :=
  aop_mono (fun u A' ⟨A2, h1, _, h3, h4⟩ => ⟨h3, by rw [h1, h4]⟩) (aop_aside hb h)
def gotOf (P : Program) (o : Oper) (ρ : Operand → Value) (i : Nat) (v : Value) : Got := ⟨i, fun A => Gives P o ρ A v, fun A b k => gives_up A b k⟩
theorem allocOp_quiet {o : Oper} (h : allocOp o = true) : quietOp o = false := by
  obtain ⟨dst, op, ty, ps, af, g⟩ := o
  cases op <;> simp only [allocOp] at h <;> first | rfl | (simp at h; done)

def keeps (ops : Array Oper) (j : Nat) (A : View) (W : List Got) : Prop := ∀ g ∈ W, reach ops ops.size g.idx j = false → g.fact A

def aseq (P : Program) (ops : Array Oper) (K : Fr → View → Prop) : List Nat → List Got → Fr → View → Prop
  | [], _, fr, A => K fr A
  | i :: L, W, fr, A => match ops[i]? with
    | none => False
    | some o => awant o.guard ops fr
        (if quietOp o then ∃ v, Gives P o (ev fr) A v ∧ aseq P ops K L (gotOf P o (ev fr) i v :: W) (updO fr o.dst v) A
         else aop P o (ev fr) A fun v A' => (allocOp o = false → keeps ops i A' W) ∧ aseq P ops K L W (updO fr o.dst v) A')
        (aseq P ops K L W (updO fr o.dst undef) A)

theorem ev_updO {fr : Fr} {d : Option Tmp} {v : Value} {x : Operand} (h : ∀ t, d = some t → x ≠ .tmp t) : ev (updO fr d v) x = ev fr x := by
  cases d with
  | none => rfl
  | some t =>
    cases x with
    | tmp s =>
      have : s ≠ t := fun e => h t rfl (by rw [e])
      simp [ev, updO, upd, this]
    | _ => rfl

theorem mem_looks {o : Oper} {ops : Array Oper} {t : Tmp} (h : Operand.tmp t ∈ o.op.operands) : t ∈ o.looksAt ops :=
  List.mem_append_left _ (List.mem_filterMap.2 ⟨.tmp t, by simpa using h, rfl⟩)

theorem execOp_updO {o : Oper} {ops : Array Oper} (hs : ∀ cs b, o.op ≠ .select cs b) {fr : Fr} {d : Option Tmp} {v : Value} (h : ∀ t, d = some t → t ∉ o.looksAt ops) : execOp (ev (updO fr d v)) o = execOp (ev fr) o :=
  execOp_congr o hs fun x hx => ev_updO fun t ht he => h t ht (mem_looks (by rw [← he]; exact hx))

theorem aop_updO {P : Program} {o : Oper} {ops : Array Oper} (hs : ∀ cs b, o.op ≠ .select cs b) {fr : Fr} {d : Option Tmp} {v : Value} (h : ∀ t, d = some t → t ∉ o.looksAt ops) (A : View) (K : Value → View → Prop) :
    aop P o (ev (updO fr d v)) A K = aop P o (ev fr) A K := by
  have he := execOp_updO hs (v := v) (fr := fr) h
  have hx : ∀ x ∈ o.op.operands, ev (updO fr d v) x = ev fr x := fun x hx => ev_updO fun t ht he => h t ht (mem_looks (by rw [← he]; exact hx))
  unfold aop
  rw [he]
  cases hop : o.op <;> simp only [hop, Op.operands] at hx <;> try rfl
  case load t x => simp only; rw [hx x (by simp)]
  case store t x y => simp only; rw [hx x (by simp), hx y (by simp)]
  case makeSlice t l c => simp only; rw [hx l (by simp), hx c (by simp)]
  case build t ps =>
    simp only
    have : (ps.map fun (x : Nat × Operand) => (x.1, ev (updO fr d v) x.2)) = (ps.map fun (x : Nat × Operand) => (x.1, ev fr x.2)) := by
      refine Array.map_congr_left fun p hp => ?_
      rw [hx p.2 (by simp; exact ⟨p.1, hp⟩)]
    rw [this]
  case call c =>
    obtain ⟨callee, args, ats⟩ := c
    have ha : args.map (ev (updO fr d v)) = args.map (ev fr) := Array.map_congr_left fun x hxa => hx x (by simp [Call.operands, hxa])
    cases callee with
    | builtin b => cases b <;> simp only [ha, mark_eq]
    | _ => rfl

theorem ayield_updO {o : Oper} {ops : Array Oper} {fr : Fr} {d : Option Tmp} {v : Value} (h : ∀ t, d = some t → t ∉ o.looksAt ops) {j : Nat} {w : Bool} (hg : o.guard = some (j, w)) : ayield ops (updO fr d v) j = ayield ops fr j := by
  cases d with
  | none => rfl
  | some t =>
    unfold ayield yv
    cases hd : (ops[j]?).bind (·.dst) with
    | none => rfl
    | some s =>
      have : s ≠ t := fun e => h t rfl (by subst e; simp [Oper.looksAt, hg, hd])
      simp [updO, upd, this]

theorem awant_updO {o : Oper} {ops : Array Oper} {fr : Fr} {d : Option Tmp} {v : Value} (h : ∀ t, d = some t → t ∉ o.looksAt ops) (p q : Prop) : awant o.guard ops (updO fr d v) p q = awant o.guard ops fr p q := by
  unfold awant
  cases hg : o.guard with
  | none => rfl
  | some jw => obtain ⟨j, w⟩ := jw; simp only [ayield_updO h hg]

theorem awant_imp {g : Option (Nat × Bool)} {ops : Array Oper} {fr : Fr} {p q p' q' : Prop} (h : awant g ops fr p q) (hp : p → p') (hq : q → q') : awant g ops fr p' q' := by
  unfold awant at *
  split at h
  · exact hp h
  · exact ⟨fun e => hp (h.1 e), fun e => hq (h.2 e)⟩

/-- Both, where both are asked under one guard. -/
theorem awant_cases {g : Option (Nat × Bool)} (ops : Array Oper) (fr : Fr) : (∀ p q, awant g ops fr p q ↔ p) ∨ (∀ p q, awant g ops fr p q ↔ q) := by
  unfold awant
  cases g with
  | none => exact .inl fun p q => Iff.rfl
  | some jw =>
    obtain ⟨j, w⟩ := jw
    by_cases h : ayield ops fr j = some w
    · exact .inl fun p q => ⟨fun x => x.1 h, fun x => ⟨fun _ => x, fun y => absurd h y⟩⟩
    · exact .inr fun p q => ⟨fun x => x.2 h, fun x => ⟨fun y => absurd y h, fun _ => x⟩⟩

theorem updO_comm {fr : Fr} {d e : Option Tmp} {u v : Value} (h : ∀ t, d = some t → e ≠ some t) : updO (updO fr d u) e v = updO (updO fr e v) d u := by
  cases d with
  | none => rfl
  | some s =>
    cases e with
    | none => rfl
    | some t =>
      have hne : t ≠ s := fun x => h s rfl (by rw [x])
      funext y
      simp only [updO, upd]
      by_cases h1 : y = t
      · subst h1; simp [hne]
      · simp [h1]

theorem keeps_cons {ops : Array Oper} {j : Nat} {A : View} {g : Got} {W : List Got} : keeps ops j A (g :: W) ↔ (reach ops ops.size g.idx j = false → g.fact A) ∧ keeps ops j A W := by
  unfold keeps
  simp

def Less (W' W : List Got) : Prop := ∀ g ∈ W', ∃ g' ∈ W, g'.idx = g.idx ∧ ∀ A, g'.fact A → g.fact A
theorem Less.cons {W' W : List Got} (h : Less W' W) {g1 g2 : Got} (hi : g2.idx = g1.idx) (hp : ∀ A, g2.fact A → g1.fact A) : Less (g1 :: W') (g2 :: W) := fun g hg => by
  rcases List.mem_cons.1 hg with rfl | hg
  · exact ⟨_, List.mem_cons_self, hi, hp⟩
  · obtain ⟨g', hg', h1, h2⟩ := h g hg
    exact ⟨g', List.mem_cons_of_mem _ hg', h1, h2⟩
theorem Less.refl (W : List Got) : Less W W := fun g hg => ⟨g, hg, rfl, fun _ h => h⟩
theorem Less.keeps {W' W : List Got} (h : Less W' W) {ops : Array Oper} {j : Nat} {A : View} (hk : keeps ops j A W) : keeps ops j A W' := fun g hg hr => by
  obtain ⟨g', hg', h1, h2⟩ := h g hg
  exact h2 A (hk g' hg' (by rw [h1]; exact hr))

theorem aseq_less {P : Program} {ops : Array Oper} {K : Fr → View → Prop} : ∀ (L : List Nat) (W W' : List Got) (fr : Fr) (A : View), Less W' W → aseq P ops K L W fr A → aseq P ops K L W' fr A
  | [], _, _, _, _, _, h => h
  | i :: L, W, W', fr, A, hW, h => by
    simp only [aseq] at h ⊢
    cases ho : ops[i]? with
    | none => simp [ho] at h
    | some o =>
      simp only [ho] at h ⊢
      refine awant_imp h (fun h => ?_) (aseq_less L W W' _ _ hW)
      split at h
      · rename_i hq
        obtain ⟨v, hv, h⟩ := h
        rw [if_pos hq]
        exact ⟨v, hv, aseq_less L _ _ _ _ (hW.cons rfl fun _ h => h) h⟩
      · rename_i hq
        rw [if_neg hq]
        exact aop_mono (fun v A' ⟨hk, h⟩ => ⟨fun e => hW.keeps (hk e), aseq_less L _ _ _ _ hW h⟩) h

/-- A read, and what does not wait for it, change places. -/
theorem aseq_swap {P : Program} {ops : Array Oper} {K : Fr → View → Prop} {i j : Nat} {L : List Nat} {W : List Got} {fr : Fr} {A : View} {oi oj : Oper} (hi : ops[i]? = some oi) (hj : ops[j]? = some oj)
    (hq : quietOp oi = true) (hap : oi.apart ops oj = true) (hr : reach ops ops.size i j = false) (hsi : ∀ cs b, oi.op ≠ .select cs b) (hsj : ∀ cs b, oj.op ≠ .select cs b) (h : aseq P ops K (i :: j :: L) W fr A) : aseq P ops K (j :: i :: L) W fr A := by
  obtain ⟨h1, h2, h3⟩ := Oper.apart_spec hap
  have eqj : ∀ v A (J : Value → View → Prop), aop P oj (ev (updO fr oi.dst v)) A J = aop P oj (ev fr) A J := fun v A J => aop_updO hsj h1 A J
  have eqi : ∀ v A (J : Value → View → Prop), aop P oi (ev (updO fr oj.dst v)) A J = aop P oi (ev fr) A J := fun v A J => aop_updO hsi h3 A J
  have gi : ∀ u A v, Gives P oi (ev fr) A v → Gives P oi (ev (updO fr oj.dst u)) A v := fun u A v h => by unfold Gives at *; rw [eqi]; exact h
  have comm : ∀ u v, updO (updO fr oi.dst u) oj.dst v = updO (updO fr oj.dst v) oi.dst u := fun u v => updO_comm h2
  simp only [aseq, hi, hj, hq, if_true] at h ⊢
  have wantj : ∀ v p q, awant oj.guard ops (updO fr oi.dst v) p q = awant oj.guard ops fr p q := fun v p q => awant_updO h1 p q
  have wanti : ∀ v p q, awant oi.guard ops (updO fr oj.dst v) p q = awant oi.guard ops fr p q := fun v p q => awant_updO h3 p q
  simp only [wantj] at h
  simp only [wanti]
  have two : ∀ (gi gj gi' gj' : Got), gi.idx = gi'.idx → gj.idx = gj'.idx → (∀ A, gi.fact A → gi'.fact A) → (∀ A, gj.fact A → gj'.fact A) → Less (gi' :: gj' :: W) (gj :: gi :: W) := by
    intro gi gj gi' gj' e1 e2 hi hj g hg
    rcases List.mem_cons.1 hg with rfl | hg
    · exact ⟨gi, by simp, e1, hi⟩
    · rcases List.mem_cons.1 hg with rfl | hg
      · exact ⟨gj, by simp, e2, hj⟩
      · exact ⟨g, by simp [hg], rfl, fun _ h => h⟩
  have gj : ∀ u A v, Gives P oj (ev (updO fr oi.dst u)) A v → Gives P oj (ev fr) A v := fun u A v h => by unfold Gives at *; rw [eqj] at h; exact h
  rcases awant_cases (g := oi.guard) ops fr with wi | wi <;> rcases awant_cases (g := oj.guard) ops fr with wj | wj <;> simp only [wi, wj] at h ⊢
  · obtain ⟨v, hv, h⟩ := h
    split at h
    · obtain ⟨u, hu, h⟩ := h
      rename_i hqj
      rw [if_pos hqj]
      rw [comm] at h
      exact ⟨u, gj _ _ _ hu, v, gi u A v hv, aseq_less L _ _ _ _ (two (gotOf P oi (ev fr) i v) (gotOf P oj (ev (updO fr oi.dst v)) j u) (gotOf P oi (ev (updO fr oj.dst u)) i v) (gotOf P oj (ev fr) j u) rfl rfl (fun A h => gi u A v h) (fun A h => gj v A u h)) h⟩
    · rename_i hqj
      rw [if_neg hqj]
      rw [eqj] at h
      cases haj : allocOp oj with
      | false =>
        refine aop_mono (fun u A' ⟨hk, h⟩ => ?_) h
        have hk := hk haj
        rw [keeps_cons] at hk
        rw [comm] at h
        exact ⟨fun _ => hk.2, v, gi u A' v (hk.1 hr), aseq_less L _ _ _ _ ((Less.refl W).cons (g1 := gotOf P oi (ev (updO fr oj.dst u)) i v) (g2 := gotOf P oi (ev fr) i v) rfl fun A h => gi u A v h) h⟩
      | true =>
        rcases aop_makes (P := P) haj (ev fr) with hm | ⟨k, f, hm⟩
        · exact (hm _ _ h).elim
        · rw [hm] at h ⊢
          refine fun b hb => ⟨fun e => by simp at e, v, gi _ _ v (gives_up A b k hb hv), aseq_less L _ _ _ _ ((Less.refl W).cons (g1 := gotOf P oi (ev (updO fr oj.dst (f b))) i v) (g2 := gotOf P oi (ev fr) i v) rfl fun A h => gi _ A v h) ?_⟩
          have := (h b hb).2
          rw [comm] at this
          exact this
  · obtain ⟨v, hv, h⟩ := h
    rw [comm] at h
    exact ⟨v, gi undef A v hv, aseq_less L _ _ _ _ ((Less.refl W).cons (g1 := gotOf P oi (ev (updO fr oj.dst undef)) i v) (g2 := gotOf P oi (ev fr) i v) rfl fun A h => gi undef A v h) h⟩
  · split at h
    · obtain ⟨u, hu, h⟩ := h
      rename_i hqj
      rw [if_pos hqj]
      rw [comm] at h
      exact ⟨u, gj _ _ _ hu, aseq_less L _ _ _ _ ((Less.refl W).cons (g1 := gotOf P oj (ev fr) j u) (g2 := gotOf P oj (ev (updO fr oi.dst undef)) j u) rfl fun A h => gj undef A u h) h⟩
    · rename_i hqj
      rw [if_neg hqj]
      rw [eqj] at h
      refine aop_mono (fun u A' ⟨hk, h⟩ => ?_) h
      rw [comm] at h
      exact ⟨hk, h⟩
  · rw [comm] at h
    exact h

/-- What acts, and a block that is made behind it, change places. -/
theorem aseq_swapA {P : Program} {ops : Array Oper} {K : Fr → View → Prop} {i j : Nat} {L : List Nat} {W : List Got} {fr : Fr} {A : View} {oi oj : Oper} (hi : ops[i]? = some oi) (hj : ops[j]? = some oj)
    (hq : quietOp oi = false) (haj : allocOp oj = true) (hap : oi.apart ops oj = true) (hsi : ∀ cs b, oi.op ≠ .select cs b) (hsj : ∀ cs b, oj.op ≠ .select cs b) (hin : Inh A) (h : aseq P ops K (i :: j :: L) W fr A) : aseq P ops K (j :: i :: L) W fr A := by
  obtain ⟨h1, h2, h3⟩ := Oper.apart_spec hap
  have eqj : ∀ v A (J : Value → View → Prop), aop P oj (ev (updO fr oi.dst v)) A J = aop P oj (ev fr) A J := fun v A J => aop_updO hsj h1 A J
  have eqi : ∀ v A (J : Value → View → Prop), aop P oi (ev (updO fr oj.dst v)) A J = aop P oi (ev fr) A J := fun v A J => aop_updO hsi h3 A J
  have comm : ∀ u v, updO (updO fr oi.dst u) oj.dst v = updO (updO fr oj.dst v) oi.dst u := fun u v => updO_comm h2
  have hqj := allocOp_quiet haj
  simp only [aseq, hi, hj, hq, hqj, Bool.false_eq_true, if_false, haj, Bool.true_eq_false, false_implies, true_and] at h ⊢
  have wantj : ∀ v p q, awant oj.guard ops (updO fr oi.dst v) p q = awant oj.guard ops fr p q := fun v p q => awant_updO h1 p q
  have wanti : ∀ v p q, awant oi.guard ops (updO fr oj.dst v) p q = awant oi.guard ops fr p q := fun v p q => awant_updO h3 p q
  simp only [wantj, eqj] at h
  simp only [wanti, eqi]
  have up : ∀ {b : Nat} {k : Blk} {A2 : View}, A2 b = none → ∀ {e : Prop}, (e → keeps ops i A2 W) → e → keeps ops i (A2.set b k) W := fun hb _ hk he g hg hre => g.up _ _ _ hb (hk he g hg hre)
  rcases awant_cases (g := oi.guard) ops fr with wi | wi <;> rcases awant_cases (g := oj.guard) ops fr with wj | wj <;> simp only [wi, wj] at h ⊢
  · rcases aop_makes (P := P) haj (ev fr) with hm | ⟨k, f, hm⟩
    · obtain ⟨v, A', _, h⟩ := aop_some hin h
      exact (hm _ _ h).elim
    · rw [hm]
      intro b hb
      refine aop_mono (fun u A3 hA3 => ?_) (aop_aside (k := k) hb h)
      obtain ⟨A2, rfl, hb2, hk, h⟩ := hA3
      rw [hm] at h
      have := h b hb2
      rw [comm] at this
      exact ⟨up hb2 hk, this⟩
  · refine aop_mono (fun u A' ⟨hk, h⟩ => ?_) h
    rw [comm] at h
    exact ⟨hk, h⟩
  · refine aop_mono (fun u A' h => ?_) h
    rw [comm] at h
    exact h
  · rw [comm] at h
    exact h

/-! ### whatever order is drawn -/
structure PlanInv (ops : Array Oper) (listed : Array Bool) (L : List Nat) : Prop where
  mem : ∀ k, k ∈ L ↔ k < ops.size ∧ listed.getD k true = false
  pairs : L.Pairwise fun i j => pairOk ops i j = true
  nodup : L.Nodup
  size : listed.size = ops.size
  closed : ∀ k o, ops[k]? = some o → listed.getD k false = true → ∀ d ∈ needs o, listed.getD d false = true
  lin : ∀ L1 i L2, L = L1 ++ i :: L2 → ∀ o, ops[i]? = some o → ∀ d ∈ needs o, listed.getD d false = true ∨ d ∈ L1

theorem needs_ready {ops : Array Oper} {listed : Array Bool} {j : Nat} : j ∈ Region.ready .any ops listed ↔ listed.getD j true = false ∧ ∃ o, ops[j]? = some o ∧ ∀ d ∈ needs o, listed.getD d false = true := by
  rw [mem_ready]
  refine and_congr_right fun _ => exists_congr fun o => and_congr_right fun _ => ?_
  constructor
  · intro h d hd
    obtain ⟨e, he, rfl⟩ := List.mem_map.1 hd
    obtain ⟨he, hb⟩ := List.mem_filter.1 he
    exact h e (by simpa using he) hb
  · intro h e he hb
    exact h e.on (List.mem_map.2 ⟨e, List.mem_filter.2 ⟨by simpa using he, hb⟩, rfl⟩)

theorem reach_listed {ops : Array Oper} {listed : Array Bool} (hc : ∀ k o, ops[k]? = some o → listed.getD k false = true → ∀ d ∈ needs o, listed.getD d false = true) (i : Nat) :
    ∀ (f j : Nat), (∃ o, ops[j]? = some o ∧ ∀ d ∈ needs o, listed.getD d false = true) → reach ops f i j = true → listed.getD i false = true
  | 0, _, _, h => by simp [reach] at h
  | f + 1, j, ⟨o, ho, hd⟩, h => by
    simp only [reach, ho, List.any_eq_true, Bool.or_eq_true, beq_iff_eq] at h
    obtain ⟨k, hk, h⟩ := h
    rcases h with rfl | h
    · exact hd k hk
    · have hl := hd k hk
      cases hok : ops[k]? with
      | none => cases f <;> simp [reach, hok] at h
      | some ok => exact reach_listed hc i f k ⟨ok, hok, hc k ok hok hl⟩ h

theorem aseq_front {P : Program} {ops : Array Oper} {K : Fr → View → Prop} {j : Nat} {oj : Oper} (hj : ops[j]? = some oj) (hs : Region.noSelect ops = true) :
    ∀ (L1 L2 : List Nat) (W : List Got) (fr : Fr) (A : View), Inh A → (∀ i ∈ L1, reach ops ops.size i j = false ∧ pairOk ops i j = true) → aseq P ops K (L1 ++ j :: L2) W fr A → aseq P ops K (j :: (L1 ++ L2)) W fr A
  | [], _, _, _, _, _, _, h => h
  | i :: L1, L2, W, fr, A, hin, hL, h => by
    have hi := hL i (by simp)
    have hp := hi.2
    unfold pairOk at hp
    rw [hi.1, Bool.false_or] at hp
    cases hoi : ops[i]? with
    | none => simp [hoi] at hp
    | some oi =>
      simp only [hoi, hj, Bool.and_eq_true, Bool.or_eq_true] at hp
      have step : ∀ (W : List Got) (fr : Fr) (A : View), Inh A → aseq P ops K (L1 ++ j :: L2) W fr A → aseq P ops K (j :: (L1 ++ L2)) W fr A := fun W fr A hin => aseq_front hj hs L1 L2 W fr A hin fun k hk => hL k (by simp [hk])
      have h' : aseq P ops K (i :: j :: (L1 ++ L2)) W fr A := by
        simp only [List.cons_append] at h ⊢
        unfold aseq at h ⊢
        simp only [hoi] at h ⊢
        refine awant_imp h (fun h => ?_) (step _ _ _ hin)
        split at h
        · rename_i hq
          rw [if_pos hq]
          obtain ⟨v, hv, h⟩ := h
          exact ⟨v, hv, step _ _ _ hin h⟩
        · rename_i hq
          rw [if_neg hq]
          exact aop_mono (fun v A' ⟨⟨hk, h⟩, hin'⟩ => ⟨hk, step _ _ _ hin' h⟩) (aop_inh hin h)
      cases hq : quietOp oi with
      | true => exact aseq_swap hoi hj hq hp.2 hi.1 (fun cs b => Region.noSelect_spec hs i oi cs b hoi) (fun cs b => Region.noSelect_spec hs j oj cs b hj) h'
      | false =>
        have haj : allocOp oj = true := by
          rcases hp.1 with h | h
          · rw [hq] at h; cases h
          · exact h
        exact aseq_swapA hoi hj hq haj hp.2 (fun cs b => Region.noSelect_spec hs i oi cs b hoi) (fun cs b => Region.noSelect_spec hs j oj cs b hj) hin h'

theorem gives_comes {P : Program} {o : Oper} {ρ : Operand → Value} {A : View} {v : Value} (h : Gives P o ρ A v) : aop P o ρ A fun u A' => u = v ∧ A' = A := h

theorem wpAny_aseq {P : Program} {ops : Array Oper} {n : Nat} {K : Fr → View → Prop} {Q : Exit → Act → World → Prop} {A0 : View} {w0 : World} (hok : opsOk n ops.toList = true) (hs : Region.noSelect ops = true)
    (hQ : ∀ fr A a w, K fr A → FR n fr a → Rel A w → Step A0 w0 A w → Q .normal a w) :
    ∀ (m : Nat) (L : List Nat) (listed : Array Bool) (W : List Got) (fr : Fr) (A : View) (a : Act) (w : World), L.length = m → PlanInv ops listed L → aseq P ops K L W fr A → FR n fr a → Rel A w → Step A0 w0 A w →
      wpAny P .any ops Q m listed a w
  | 0, L, listed, W, fr, A, a, w, hm, inv, h, hf, hr, hst => by
    obtain rfl : L = [] := List.eq_nil_of_length_eq_zero hm
    refine wpAny_done ?_ (hQ fr A a w h hf hr hst) 0
    refine List.eq_nil_iff_forall_not_mem.2 fun j hj => ?_
    obtain ⟨h1, o, ho, _⟩ := needs_ready.1 hj
    have := (inv.mem j).2 ⟨(Array.getElem?_eq_some_iff.1 ho).1, h1⟩
    simp at this
  | m + 1, L, listed, W, fr, A, a, w, hm, inv, h, hf, hr, hst => by
    refine ⟨fun h0 => ?_, fun j hj => ?_⟩
    · exfalso
      cases L with
      | nil => simp at hm
      | cons i L =>
        obtain ⟨hi, hl⟩ := (inv.mem i).1 (by simp)
        have ho : ops[i]? = some ops[i] := Array.getElem?_eq_getElem hi
        have : i ∈ Region.ready .any ops listed := needs_ready.2 ⟨hl, _, ho, fun d hd => (inv.lin [] i L rfl _ ho d hd).elim id fun h => by cases h⟩
        rw [h0] at this
        cases this
    · obtain ⟨hun, oj, hoj, hdeps⟩ := needs_ready.1 hj
      have hjs := (Array.getElem?_eq_some_iff.1 hoj).1
      have hjL : j ∈ L := (inv.mem j).2 ⟨hjs, hun⟩
      obtain ⟨L1, L2, rfl⟩ := List.append_of_mem hjL
      have hnd := List.nodup_append.1 inv.nodup
      have hj1 : j ∉ L1 := fun hm => (hnd.2.2 j hm j (by simp)) rfl
      have hj2 : j ∉ L2 := (List.nodup_cons.1 hnd.2.1).1
      have hp := List.pairwise_append.1 inv.pairs
      have hunl : ∀ i ∈ L1, listed.getD i false = false := fun i hi => by
        have := ((inv.mem i).1 (by simp [hi]))
        have hlt : i < listed.size := by rw [inv.size]; exact this.1
        simpa [hlt] using this.2
      have hfront : ∀ i ∈ L1, reach ops ops.size i j = false ∧ pairOk ops i j = true := fun i hi => by
        refine ⟨?_, hp.2.2 i hi j (by simp)⟩
        cases hre : reach ops ops.size i j with
        | false => rfl
        | true =>
          have := reach_listed inv.closed i ops.size j ⟨oj, hoj, hdeps⟩ hre
          rw [hunl i hi] at this
          cases this
      have h := aseq_front hoj hs L1 L2 W fr A ⟨w, hr⟩ hfront h
      have hlj : j < listed.size := by rw [inv.size]; exact hjs
      have inv' : PlanInv ops (listed.setIfInBounds j true) (L1 ++ L2) := by
        refine ⟨fun k => ?_, ?_, ?_, by simp [inv.size], fun k o ho hl d hd => ?_, fun M1 i M2 hM o ho d hd => ?_⟩
        · by_cases hkj : k = j
          · subst hkj
            simp [hj1, hj2, hlj]
          · rw [getD_set_ne true (Ne.symm hkj), ← inv.mem k]
            simp [hkj]
        · exact List.pairwise_append.2 ⟨hp.1, (List.pairwise_cons.1 hp.2.1).2, fun x hx y hy => hp.2.2 x hx y (by simp [hy])⟩
        · exact List.nodup_append.2 ⟨hnd.1, (List.nodup_cons.1 hnd.2.1).2, fun x hx y hy => hnd.2.2 x hx y (by simp [hy])⟩
        · by_cases hkj : k = j
          · subst hkj
            rw [hoj] at ho
            obtain rfl := Option.some.inj ho
            exact getD_set_true (hdeps d hd)
          · rw [getD_set_ne false (Ne.symm hkj)] at hl
            exact getD_set_true (inv.closed k o ho hl d hd)
        · have key : ∀ M1 i M2, L1 ++ L2 = M1 ++ i :: M2 → ∃ N1 N2, L1 ++ j :: L2 = N1 ++ i :: N2 ∧ ∀ d, d ∈ N1 → d ∈ M1 ∨ d = j := by
            intro M1 i M2 hM
            rcases List.append_eq_append_iff.1 hM with ⟨X, hX1, hX2⟩ | ⟨X, hX1, hX2⟩
            · exact ⟨L1 ++ j :: X, M2, by rw [hX2]; simp, fun d hd => by
                rw [hX1]
                simp only [List.mem_append, List.mem_cons] at hd ⊢
                rcases hd with h | h | h
                · exact .inl (.inl h)
                · exact .inr h
                · exact .inl (.inr h)⟩
            · cases X with
              | nil =>
                simp at hX1 hX2
                exact ⟨M1 ++ [j], M2, by rw [hX1, ← hX2]; simp, fun d hd => by simpa using hd⟩
              | cons x X =>
                simp at hX2
                obtain ⟨rfl, hX2⟩ := hX2
                exact ⟨M1, X ++ j :: L2, by rw [hX1]; simp, fun d hd => .inl hd⟩
          obtain ⟨N1, N2, hN, hd'⟩ := key M1 i M2 hM
          rcases inv.lin N1 i N2 hN o ho d hd with h | h
          · exact .inl (getD_set_true h)
          · rcases hd' d h with h | rfl
            · exact .inr h
            · exact .inl (by simp [hlj])
      have hlen : (L1 ++ L2).length = m := by simp at hm ⊢; omega
      have hdst : dstOk n oj = true := by
        have := List.all_eq_true.1 hok oj (by simpa using Array.mem_of_getElem? hoj)
        exact this
      have ih := fun W fr A a w => wpAny_aseq (P := P) (K := K) (Q := Q) (A0 := A0) (w0 := w0) hok hs hQ m (L1 ++ L2) (listed.setIfInBounds j true) W fr A a w hlen inv'
      unfold aseq at h
      simp only [hoj] at h
      unfold wpOp
      simp only [hoj]
      have key : ∀ p q, awant oj.guard ops fr p q → if Region.wanted oj (yielded ops a.tmps) = true then p else q := by
        intro p q h
        unfold awant at h
        unfold Region.wanted
        cases hg : oj.guard with
        | none => rw [hg] at h; simpa using h
        | some jw =>
          obtain ⟨k, want⟩ := jw
          rw [hg] at h
          simp only [hf.yield ops k]
          by_cases hy : ayield ops fr k = some want
          · simp [hy]; exact h.1 hy
          · simp [hy]; exact h.2 hy
      have h' := key _ _ h
      split
      · rename_i hw
        rw [if_pos hw] at h'
        refine .inl ?_
        split at h'
        · obtain ⟨v, hv, h'⟩ := h'
          unfold Gives at hv
          rw [← hf.eval] at hv
          refine Oper.wp_mono ?_ (wp_of_comes (Q := Q) (aop_comes hv) hr)
          rintro a' w' ⟨u, A', rfl, ⟨rfl, rfl⟩, hr', hs'⟩
          exact ih _ _ _ _ _ h' (hf.put oj hdst _) hr' (hst.trans hs')
        · rw [← hf.eval] at h'
          refine Oper.wp_mono ?_ (wp_of_comes (Q := Q) (aop_comes h') hr)
          rintro a' w' ⟨v, A', rfl, ⟨_, hK⟩, hr', hs'⟩
          exact ih _ _ _ _ _ hK (hf.put oj hdst v) hr' (hst.trans hs')
      · rename_i hw
        rw [if_neg hw] at h'
        exact ih _ _ _ _ _ h' (hf.put oj hdst undef) hr hst

theorem linOk_spec {ops : Array Oper} : ∀ (L done : List Nat), linOk ops done L = true →
    L.Pairwise (fun i j => pairOk ops i j = true) ∧ L.Nodup ∧ ∀ L1 i L2, L = L1 ++ i :: L2 → ∀ o, ops[i]? = some o → ∀ d ∈ needs o, d ∈ done ∨ d ∈ L1
  | [], _, _ => ⟨List.Pairwise.nil, List.nodup_nil, fun L1 i L2 h => by simp at h⟩
  | i :: L, done, h => by
    simp only [linOk, Bool.and_eq_true, Bool.not_eq_true', List.all_eq_true] at h
    obtain ⟨⟨⟨h1, h2⟩, h3⟩, h4⟩ := h
    obtain ⟨p1, p2, p3⟩ := linOk_spec L (i :: done) h4
    refine ⟨List.pairwise_cons.2 ⟨h3, p1⟩, List.nodup_cons.2 ⟨by simpa using h2, p2⟩, fun L1 k L2 hL o ho d hd => ?_⟩
    cases L1 with
    | nil =>
      simp at hL
      obtain ⟨rfl, rfl⟩ := hL
      rw [ho] at h1
      exact .inl (by simpa using List.all_eq_true.1 h1 d hd)
    | cons x L1 =>
      simp at hL
      obtain ⟨rfl, hL⟩ := hL
      rcases p3 L1 k L2 hL o ho d hd with h | h
      · rcases List.mem_cons.1 h with rfl | h
        · exact .inr (by simp)
        · exact .inl h
      · exact .inr (by simp [h])

/-- A region whose order is drawn, by a plan. -/
theorem adraw {P : Program} {id : Nat} {ops : Array Oper} {K : Fr → View → Prop} {fr : Fr} {A : View} (L : List Nat) (hp : planOk ops L = true) (hm : P.follows .mixedOrders = true) (h : aseq P ops K L [] fr A) : ADraw P id ops K fr A := by
  intro n a w hok hf hr
  unfold planOk at hp
  simp only [Bool.and_eq_true, List.all_eq_true, decide_eq_true_eq] at hp
  obtain ⟨⟨⟨h1, h2⟩, h3⟩, h4⟩ := hp
  obtain ⟨p1, p2, p3⟩ := linOk_spec L [] h3
  refine wp_region_any hm ?_
  have hlen : L.length = ops.size := by
    have hsub1 : (List.range ops.size) ⊆ L := fun x hx => by simpa using h1 x hx
    have hsub2 : L ⊆ List.range ops.size := fun x hx => by simpa using h2 x hx
    have a1 := List.nodup_range (n := ops.size) |>.length_le_of_subset hsub1
    have a2 := p2.length_le_of_subset hsub2
    simp at a1 a2
    omega
  rw [← hlen]
  refine wpAny_aseq (A0 := A) (w0 := w) hok h4 ?_ L.length L _ [] fr A a _ rfl ⟨fun k => ?_, p1, p2, by simp [hlen], fun k o ho hl => ?_, fun L1 i L2 hL o ho d hd => .inr (by simpa using p3 L1 i L2 hL o ho d hd)⟩ h hf hr.drew (Step.drew A w)
  · intro fr' A' a' w' hK hf' hr' hs'
    exact ⟨fr', A', ⟨rfl, hK⟩, hf', hr', hs'⟩
  · constructor
    · intro hk
      have := h2 k hk
      refine ⟨this, ?_⟩
      simp [hlen, this]
    · intro ⟨hk, _⟩
      simpa using h1 k (by simpa using hk)
  · exfalso
    have : (Array.replicate L.length false).getD k false = false := by
      rw [Array.getD_eq_getD_getElem?, Array.getElem?_replicate]
      split <;> rfl
    rw [this] at hl
    cases hl

end Go.Proofs.YtggklaimbklefaaDoor

