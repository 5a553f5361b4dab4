/- FnExactSummaryText: the law holds for all arguments: the program gives what the reference gives. -/
import Derived.Test.YtggklaimbklefaaDoorTop
import Derived.Test.YtggklaimbklefaaDoorLcExactSummaryText
import Derived.Test.YtggklaimbklefaaDoorCards
import Derived.Test.YtggklaimbklefaaDoorTie
import Derived.Lay
import Derived.MakeChecks
import Derived.SevenTiedAt
set_option maxHeartbeats 4000000
set_option synthInstance.maxHeartbeats 400000
set_option synthInstance.maxSize 4096
set_option linter.unusedSimpArgs false
set_option linter.unusedVariables false
namespace Go.Proofs.YtggklaimbklefaaDoor
open Go.ChangeShapes Go.WideShapes Go.ChangeAt Go.RowKit

set_option maxRecDepth 100000

theorem own : ownKnob Tryd.prog.godebug = none := by kernel_rfl

theorem laidOut : laidOutB Tryd.prog = true := by kernel_rfl

section
variable {H : Type} {enc : TypeId × Value → H} {W : World}

theorem rd_int : Reads enc Tryd.prog W intS 3 := reads_int (by kernel_rfl) (by kernel_rfl)

theorem rd_str : Reads enc Tryd.prog W strS 9 := reads_str (by kernel_rfl) (by kernel_rfl)

theorem rd_bool : Reads enc Tryd.prog W boolS 4 := reads_bool (by kernel_rfl) (by kernel_rfl)

theorem rd_byte : Reads enc Tryd.prog W byteS 5 := reads_byte (by kernel_rfl) (by kernel_rfl)

theorem rd_strs : Reads enc Tryd.prog W (slS strS) 23 := reads_slice (e := 9) (by kernel_rfl) (by kernel_rfl) (of_decide_eq_true (by kernel_rfl)) (by decide) rd_str

theorem rd_bytes : Reads enc Tryd.prog W (slS byteS) 50 := reads_slice (e := 5) (by kernel_rfl) (by kernel_rfl) (of_decide_eq_true (by kernel_rfl)) (by decide) rd_byte

theorem rd_result : Reads enc Tryd.prog W resultS 46 := reads_struct (l := [(9, 0), (3, 1)]) (by kernel_rfl) (by kernel_rfl) (readsF_cons rd_str (readsF_cons rd_int (readsF_nil _)))

theorem rd_results : Reads enc Tryd.prog W (slS resultS) 22 := reads_slice (e := 46) (by kernel_rfl) (by kernel_rfl) (of_decide_eq_true (by kernel_rfl)) (by decide) rd_result

theorem rd_report : Reads enc Tryd.prog W reportS 25 := reads_struct (l := [(22, 0), (23, 1)]) (by kernel_rfl) (by kernel_rfl) (readsF_cons rd_results (readsF_cons rd_strs (readsF_nil _)))

end

/-- What the statement tells of the table of the powers of ten. -/
theorem tab_of_laid {W : World} (h : laidMetH Tryd.prog Rows.fnExactSummaryTextRow.laid W) : TabV (startV W) := by
  rw [MakeChecks.laidMetH_plain _ _ _ (by kernel_rfl)] at h
  obtain ⟨ps, ⟨g0, t0, cs0, f0, p0, q0, _, _, _, _, ⟨g1, t1, cs1, f1, p1, q1, _, _, _, _, ⟨g, t, cs, f2, p2, q2, hg, ht, hv, hd, _, _⟩, _⟩, _⟩, _, _⟩ := h
  have hgn : Tryd.prog.globalNamed "internal/strconv.uint64pow10" = some 0 := by kernel_rfl
  have htn : (Tryd.prog.globals[0]?).map (·.type) = some 73 := by kernel_rfl
  obtain rfl := Option.some.inj (hgn.symm.trans hg)
  obtain rfl := Option.some.inj (htn.symm.trans ht)
  have hlaid : (Rows.laid_internal_strconv_uint64pow10 : DataW Unit) = Go.Lib.tabData .u64 Go.Lib.pow10Tab := by kernel_rfl
  rw [hlaid] at hd
  have hcs := Go.Lib.cells_of_tab (show Tryd.prog.underlying 73 = some (.array 20 63) by kernel_rfl) (show Tryd.prog.underlying 63 = some (.int .u64) by kernel_rfl) (by kernel_rfl) (by kernel_rfl) hd
  have heap : ∀ {w : World} {cs : Array Value}, w.var? Tryd.prog "internal/strconv.uint64pow10" = some cs ↔ ∃ ty fz, w.heap[0]? = some (.cells cs ty fz) := by
    intro w cs
    unfold World.var?
    rw [hgn]
    rw [Option.bind_some]
    split
    · rename_i c ty fz hc
      constructor
      · intro e
        injection e with e
        subst e
        exact ⟨ty, fz, hc⟩
      · rintro ⟨ty', fz', e⟩
        rw [hc] at e
        injection e with e
        injection e with e
        rw [e]
    · rename_i hn
      constructor
      · intro e; cases e
      · rintro ⟨ty, fz, e⟩
        exact absurd e (hn _ _ _)
  obtain ⟨ty, fz, hW⟩ := heap.1 hv
  have hst : startV W 0 = some ⟨ty, cs.toList, cs.size, false⟩ := by
    unfold startV
    rw [hW]
  intro w hw
  have hf := hw 0 _ hst
  obtain ⟨c, fz', hc, hsz⟩ := hf.full rfl (by simp)
  obtain ⟨c2, fz2, hc2, _, _, htk, _⟩ := hf.ex
  rw [hc] at hc2
  injection hc2 with hc2
  injection hc2 with hc2
  subst hc2
  have hsz : c.size = cs.size := hsz
  have htk : c.toList.take cs.toList.length = cs.toList := htk
  rw [List.take_of_length_le (by rw [Array.length_toList, Array.length_toList, hsz]; exact Nat.le_refl _)] at htk
  unfold Go.Lib.TabIs
  rw [heap.2 ⟨ty, fz', hc⟩]
  congr 1
  apply Array.toList_inj.1
  rw [htk, hcs]

namespace lawFnExactSummaryText
theorem lifted (os : Os) (started : os.Started) (H : Type) (enc : TypeId × Value → H) :
    ReturnsInHanded {} Tryd.checked os 3 .any (fun w args => (Rows.fnExactSummaryTextSpec.pre enc Tryd.prog Tryd.f3 [] false w args ∧ laidMetH Tryd.prog Rows.fnExactSummaryTextRow.laid w) ∧ sizedMet enc Tryd.prog Tryd.f3 (OpenSpec.ofChange Rows.fnExactSummaryTextSpec) false w args)
      (Rows.fnExactSummaryTextSpec.post enc Tryd.prog Tryd.f3 false true false false) := by
  refine returnsInHanded_of_change_and (C := Tryd.checked) (X := fun w _ => laidMetH Tryd.prog Rows.fnExactSummaryTextRow.laid w) (fun _ _ _ hh h => h.of_heap hh) own started (by kernel_rfl) Tryd.func3
    (ChangeSpec.witness_shaped (enc := enc) (C := Tryd.checked) (os := os) (X := fun w _ => laidMetH Tryd.prog Rows.fnExactSummaryTextRow.laid w) false (World.laidAll Tryd.prog os Rows.fnExactSummaryTextRow.laid) #[.agg #[.slice none 0 0, .slice none 0 0]] 8 (World.laidAll_os _ _ _)
      (World.shaped_of_ZipB (by kernel_rfl) (by kernel_rfl)) (by kernel_rfl) (by kernel_rfl) (by kernel_rfl)
      (by rw [MakeChecks.laidMetH_plain _ _ _ (by kernel_rfl)]; exact laidMet_laidAll _ (by kernel_rfl) (by kernel_rfl))) ?_
  intro W base args ds gs before hval0 hW _ hsz0 hL _
  have hsz : (DataW.weightsEach Tryd.prog (Tryd.f3.params.toList ++ Rows.fnExactSummaryTextSpec.plain.varTypes Tryd.prog) (ds ++ gs)).all (· ≤ reachBytes) = true := hsz0
  clear hsz0
  have hval : ∀ (j : Nat) t v, Tryd.f3.params[j]? = some t → args[j]? = some v → Value.okWide Tryd.prog W .any base t v := hval0
  have hW' := hW
  obtain ⟨p, q, hA0, hV, rfl, _, _⟩ := hW
  have hA : DataW.TrodAll enc Tryd.prog W 0 (fun _ => true) true Tryd.f3.params.toList args.toList ds p := hA0
  rw [Tryd.params3] at hA hval hsz
  obtain ⟨v0, d0, rfl, rfl, h0⟩ := trodAll_one hA
  obtain ⟨rfl, rfl⟩ := trodVars_none hV
  rw [List.all_eq_true] at hsz
  have hw0 := fun n hn => of_decide_eq_true (hsz n (DataW.weights_mem_each (j := 0) rfl rfl n hn))
  obtain ⟨x0, hx0⟩ := arg_of rd_report h0 hw0
  obtain ⟨⟨cs0⟩, rfl⟩ := okWide_structB (t := 25) (by kernel_rfl) (hval 0 25 v0 rfl rfl)
  simp only [Value.cells] at hx0
  exact law_calls (tb := 4) laidOut (by kernel_rfl) (by kernel_rfl) rfl ⟨rfl, rfl, rfl⟩ (by
    rw [Tryd.params3]
    intro t ht
    have : t = 25 := by simpa using ht
    subst this
    exact ⟨by kernel_rfl, of_decide_eq_true (by kernel_rfl)⟩) hW' (law_FnExactSummaryText _ _ x0 hx0 (tab_of_laid hL))
theorem row_proved : Rows.FnExactSummaryTextSaid :=
  OpenClaim.holds_of_wide 3 Tryd.f3 rfl rfl rfl rfl rfl rfl rfl ⟨rfl, rfl, rfl, rfl, rfl⟩ rfl rfl rfl rfl rfl (by kernel_rfl) Tryd.func3 (by kernel_rfl)
    (of_decide_eq_true (by kernel_rfl)) (by unfold Func.isWrapper; first | (rw [if_pos (by decide +kernel)]; kernel_rfl) | (rw [if_neg (by decide +kernel)]; exact ⟨rfl, rfl⟩))
    (fun os started H enc _ => lifted os started H enc)
theorem proved : Rows.FnExactSummaryTextCardSaid :=
  Claim7.holds_tied_plain_at .later [] [.data, .data, .data] true Rows.fnExactSummaryTextCard.stood.harness false
    row_proved (fun _ h => by cases h) (by kernel_rfl) (fun _ h => by cases h) fnExactSummaryText_row_tie rfl ⟨rfl, rfl⟩ (by kernel_rfl) rfl
    (fun f fn hf hfn => by
      obtain rfl : f = 3 := Option.some.inj ((show Tryd.prog.funcNamed Rows.fnExactSummaryTextRow.func = some 3 by kernel_rfl).symm.trans hf) |>.symm
      obtain rfl : fn = Tryd.f3 := (Option.some.inj (Tryd.func3.symm.trans hfn)).symm
      exact ⟨by kernel_rfl, fun j t ht => by
        rw [Tryd.params3] at ht
        have hm : t ∈ [25] := by simpa using Array.mem_of_getElem? ht
        have hall : ([25].all fun u => !Tryd.prog.wantsStandIn u) = true := by kernel_rfl
        exact (show Tryd.prog.wantsStandIn t = false by simpa using List.all_eq_true.1 hall t hm)⟩)
    (by kernel_rfl)
end lawFnExactSummaryText

end Go.Proofs.YtggklaimbklefaaDoor

