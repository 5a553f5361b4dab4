/- From a law's contract to its statement. -/
import Derived.Test.YtggklaimbklefaaDoorOp
import Derived.Test.YtggklaimbklefaaDoorRows
import Derived.Test.YtggklaimbklefaaDoorInfo
import Derived.HandedShaped
set_option maxHeartbeats 4000000
set_option synthInstance.maxHeartbeats 400000
set_option synthInstance.maxSize 4096
set_option linter.unusedSimpArgs false
set_option linter.unusedVariables false
namespace Go.Proofs.YtggklaimbklefaaDoor
open Go.ChangeShapes Go.WideShapes Go.ChangeAt Go.RowKit

section
variable {H : Type} {enc : TypeId × Value → H} {P : Program} {W W' : World}

theorem step_heap {A' : View} (h : Step (startV W) W A' W') : ∀ b, b < W.heap.size → W'.heap[b]? = W.heap[b]? :=
  fun b hb => h.kept b hb (fun k hk => startV_own W b k hk)

theorem step_keptBut {A' : View} (h : Step (startV W) W A' W') (may : MemPlace → Prop) : W.keptBut W' may := by
  refine ⟨h.os, h.output, fun i hi => ?_⟩
  rw [step_heap h i hi]
  split
  · rename_i h1 h2
    rw [h1] at h2
    injection h2 with h2
    injection h2 with e1 e2 e3
    subst e1; subst e2; subst e3
    exact ⟨rfl, rfl, rfl, fun _ _ => rfl⟩
  · rename_i h1 h2
    rw [h1] at h2
    injection h2 with h2
    injection h2 with e1 e2
    exact .inr ⟨e1.symm, e2.symm⟩
  · rfl

/-- As 'post_of_same', with what is frozen told of the places that were there alone. -/
theorem post_same {f : Func} {s : ChangeSpec} {apart fresh handsOn again : Bool} {args : Array Value} {v : Value} {ds gs : List (DataW H)} {before pa pv : List MemPlace}
    (hW : DataW.Whole enc P f.params.toList s.vars apart W args.toList ds gs before)
    (hres : ∀ (b : Nat) (sp : Nat → Bool) (hd : Bool), DataW.TrodAll enc P W' b sp hd f.resultTypes.toList (v.resultList f.resultTypes.size) (s.fn H (ds ++ gs)).results [])
    (hargs : ∀ sp : Nat → Bool, (∀ p ∈ before, sp p.block = true) → DataW.TrodAll enc P W' 0 sp true f.params.toList args.toList (s.fn H (ds ++ gs)).args pa)
    (hvars : ∀ sp : Nat → Bool, (∀ p ∈ before, sp p.block = true) → DataW.TrodVars enc P W' sp s.vars (s.fn H (ds ++ gs)).vars pv)
    (hps : before = pa ++ pv) (hk : W.keptBut W' (· ∈ before)) (hh : ∀ b, b < W.heap.size → W'.heap[b]? = W.heap[b]?)
    (hok : ∀ (j : Nat) (t : TypeId) (r : Value), f.resultTypes[j]? = some t → (v.resultList f.resultTypes.size)[j]? = some r → Value.okWide P W' .any 0 t r) :
    s.post enc P f apart fresh handsOn again W args v W' := by
  have hold : ∀ p ∈ before, p.block < W.heap.size := fun p hp => by simpa using hW.lt p hp
  have hold2 : ∀ p ∈ before, (fun b => decide (b < W.heap.size)) p.block = true := fun p hp => by simpa using hold p hp
  subst hps
  refine ⟨ds, gs, _, [], pa, pv, hW, hres _ _ _, hargs _ hold2, hvars _ hold2, World.keptBut_mono (fun p hp => ⟨hp, .inr (List.mem_append.1 hp)⟩) hk, fun _ => ?_⟩
  obtain ⟨_, _, _, _, _, hz, hn⟩ := hW
  refine ⟨hok, _, _, ([] ++ pa) ++ pv, ⟨[] ++ pa, pv, trodAll_append (hargs _ (fun _ _ => rfl)) (hres _ _ _), hvars _ (fun _ _ => rfl), rfl, fun b off hp => ?_, fun ha => by simpa using hn ha⟩, fun p hp _ => by simpa using hp⟩
  have e : ∀ a : Addr, a.block = b → W'.frozen? a = W.frozen? a := fun a ha => by
    unfold World.frozen?
    rw [ha, hh b (hold (.cell b off) (by simpa using hp))]
  rw [e _ rfl]
  exact hz b off (by simpa using hp)

theorem law_post {fn : Func} {s : ChangeSpec} {apart fresh handsOn again : Bool} {args : Array Value} {ds gs : List (DataW H)} {before : List MemPlace} {tb : TypeId} (hl : laidOutB P = true)
    (hb : P.underlying tb = some .bool) (hres : fn.resultTypes = #[tb]) (hvars : s.vars = []) (hfn : (s.fn H (ds ++ gs)).results = [.lit (.bool true)] ∧ (s.fn H (ds ++ gs)).args = ds ∧ (s.fn H (ds ++ gs)).vars = [])
    (hread : ∀ t ∈ fn.params.toList, P.readableRec t = true ∧ t < P.types.size)
    (hW : DataW.Whole enc P fn.params.toList s.vars apart W args.toList ds gs before) {A' : View} (hs : Step (startV W) W A' W') : s.post enc P fn apart fresh handsOn again W args (.bool true) W' := by
  have hlt : ∀ p ∈ before, p.block < W.heap.size := fun p hp => by simpa using hW.lt p hp
  have hW0 := hW
  obtain ⟨p, q, hA, hV, rfl, _, _⟩ := hW0
  rw [hvars] at hV
  obtain ⟨rfl, rfl⟩ := trodVars_none hV
  refine post_same (pa := p) (pv := []) hW ?_ ?_ ?_ (by simp) (step_keptBut hs _) (step_heap hs) ?_
  · intro b sp hd
    rw [hres, hfn.1]
    exact trodAll_cons_mk (shut_bool hb _) trodAll_mk0
  · intro sp hsp
    rw [hfn.2.1]
    exact args_stay hl (step_heap hs) _ _ _ _ hread (fun x hx => hlt x (List.mem_append_left _ hx)) (fun x hx => hsp x (List.mem_append_left _ hx)) hA
  · intro sp _
    rw [hvars, hfn.2.2]
    rfl
  · exact ok_one hres rfl (okWide_bool_mk hb _)

theorem law_calls {f : FuncId} {fn : Func} {s : ChangeSpec} {apart fresh handsOn again : Bool} {args : Array Value} {ds gs : List (DataW H)} {before : List MemPlace} {tb : TypeId} (hl : laidOutB P = true)
    (hb : P.underlying tb = some .bool) (hres : fn.resultTypes = #[tb]) (hvars : s.vars = []) (hfn : (s.fn H (ds ++ gs)).results = [.lit (.bool true)] ∧ (s.fn H (ds ++ gs)).args = ds ∧ (s.fn H (ds ++ gs)).vars = [])
    (hread : ∀ t ∈ fn.params.toList, P.readableRec t = true ∧ t < P.types.size)
    (hW : DataW.Whole enc P fn.params.toList s.vars apart W args.toList ds gs before) (hc : ACalls P f args (startV W) fun r _ => r = .bool true) :
    Calls P f args W fun e W' => ∃ v, e = .returned v ∧ s.post enc P fn apart fresh handsOn again W args v W' :=
  (hc W (startV_rel W)).mono fun _ _ ⟨v, A', he, hv, _, hs⟩ => ⟨v, he, by subst hv; exact law_post hl hb hres hvars hfn hread hW hs⟩

/-- What an argument holds. -/
theorem arg_of {α : Type} {S : Shape α} {t : TypeId} {v : Value} {d : DataW H} {p : List MemPlace} (hS : Reads enc P W S t) (h : DataW.Trod enc P W 0 (fun _ => true) true t v d p)
    (hw : ∀ n ∈ d.weights P t, n ≤ reachBytes) : ∃ a, S.rel (startV W) a v.cells.toList := by
  obtain ⟨fuel, hf⟩ := h
  exact hS.op _ _ _ hf hw
end

theorem okWide_structB {P : Program} {W : World} {within : Reach} {base : Nat} {t : TypeId} {v : Value} (h : (match P.underlying t with | some (.struct _) => true | _ => false) = true) (hv : Value.okWide P W within base t v) : ∃ cs, v = .agg cs := by
  match hu : P.underlying t, h with
  | some (.struct fs), _ =>
    obtain ⟨cs, rfl, _⟩ := okWide_struct hu hv
    exact ⟨cs, rfl⟩

end Go.Proofs.YtggklaimbklefaaDoor

