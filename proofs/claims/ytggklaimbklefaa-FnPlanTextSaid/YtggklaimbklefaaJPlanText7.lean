/- FnPlanText: the law holds for all arguments: the program gives what the reference gives. -/
import Derived.Test.YtggklaimbklefaaJPlanText2
import Derived.Test.YtggklaimbklefaaJPlanText6

set_option maxHeartbeats 4000000
set_option synthInstance.maxHeartbeats 400000
set_option synthInstance.maxSize 4096
set_option linter.unusedSimpArgs false
set_option linter.unusedVariables false
namespace Go.Proofs.Ytggklaimbklefaa
open Go.ChangeShapes Go.WideShapes Go.ChangeAt Go.RowKit

set_option maxRecDepth 100000

theorem own : ownKnob Try.prog.godebug = none := by kernel_rfl

theorem laidOut : laidOutB Try.prog = true := by kernel_rfl

section
variable {H : Type} {enc : TypeId × Value → H} {W : World}

theorem rd_int : Reads enc Try.prog W intS 3 := reads_int (by kernel_rfl) (by kernel_rfl)

theorem rd_str : Reads enc Try.prog W strS 9 := reads_str (by kernel_rfl) (by kernel_rfl)

theorem rd_bool : Reads enc Try.prog W boolS 4 := reads_bool (by kernel_rfl) (by kernel_rfl)

theorem rd_byte : Reads enc Try.prog W byteS 5 := reads_byte (by kernel_rfl) (by kernel_rfl)

theorem rd_ints : Reads enc Try.prog W (slS intS) 90 := reads_slice (e := 3) (by kernel_rfl) (by kernel_rfl) (of_decide_eq_true (by kernel_rfl)) (by decide) rd_int

theorem rd_strs : Reads enc Try.prog W (slS strS) 54 := reads_slice (e := 9) (by kernel_rfl) (by kernel_rfl) (of_decide_eq_true (by kernel_rfl)) (by decide) rd_str

theorem rd_bytes : Reads enc Try.prog W (slS byteS) 22 := reads_slice (e := 5) (by kernel_rfl) (by kernel_rfl) (of_decide_eq_true (by kernel_rfl)) (by decide) rd_byte

end

namespace lawFnPlanText
theorem lifted (os : Os) (started : os.Started) (H : Type) (enc : TypeId × Value → H) :
    ReturnsInHanded {} Try.checked os 4 .any (Rows.fnPlanTextSpec.pre6 enc Try.prog Try.f4 Rows.fnPlanTextRow.domain false) (Rows.fnPlanTextSpec.post enc Try.prog Try.f4 false true false false) := by
  refine returnsInHanded_of_change_shaped (C := Try.checked) own started (by kernel_rfl) Try.func4
    (ChangeSpec.witness6 (enc := enc) (C := Try.checked) false ⟨#[], #[.slice none 0 0], []⟩ 8 (by kernel_rfl) (by kernel_rfl) (by kernel_rfl) (by kernel_rfl)) ?_
  intro W base args ds gs before hval0 hW _ hsz0 _ _
  have hsz : (DataW.weightsEach Try.prog (Try.f4.params.toList ++ Rows.fnPlanTextSpec.plain.varTypes Try.prog) (ds ++ gs)).all (· ≤ reachBytes) = true := hsz0
  clear hsz0
  have hval : ∀ (j : Nat) t v, Try.f4.params[j]? = some t → args[j]? = some v → Value.okWide Try.prog W .any base t v := hval0
  have hW' := hW
  obtain ⟨p, q, hA0, hV, rfl, _, _⟩ := hW
  have hA : DataW.TrodAll enc Try.prog W 0 (fun _ => true) true Try.f4.params.toList args.toList ds p := hA0
  rw [Try.params4] at hA hval hsz
  obtain ⟨v0, d0, rfl, rfl, h0⟩ := trodAll_one hA
  obtain ⟨rfl, rfl⟩ := trodVars_none hV
  rw [List.all_eq_true] at hsz
  have hw0 := fun n hn => of_decide_eq_true (hsz n (DataW.weights_mem_each (j := 0) rfl rfl n hn))
  obtain ⟨x0, _, hc0, hx0⟩ := arg_of rd_bytes h0 hw0
  obtain ⟨a0, n0, c0, rfl⟩ := okWide_slice (show Try.prog.underlying 22 = some (.slice 5) by kernel_rfl) (hval 0 22 v0 rfl rfl)
  simp only [Value.cells] at hc0
  injection hc0 with hc0
  subst hc0
  exact law_calls (tb := 4) laidOut (by kernel_rfl) (by kernel_rfl) rfl ⟨rfl, rfl, rfl⟩ (by
    rw [Try.params4]
    intro t ht
    have : t = 22 := by simpa using ht
    subst this
    exact ⟨by kernel_rfl, of_decide_eq_true (by kernel_rfl)⟩) hW' (law_FnPlanText _ _ x0 hx0)
theorem proved : Rows.FnPlanTextSaid :=
  OpenClaim.holds_of_wide 4 Try.f4 rfl rfl rfl rfl rfl rfl rfl ⟨rfl, rfl, rfl, rfl, rfl⟩ rfl rfl rfl rfl rfl (by kernel_rfl) Try.func4 (by kernel_rfl)
    (of_decide_eq_true (by kernel_rfl)) (by unfold Func.isWrapper; first | (rw [if_pos (by decide +kernel)]; kernel_rfl) | (rw [if_neg (by decide +kernel)]; exact ⟨rfl, rfl⟩))
    (fun os started H enc _ => lifted os started H enc)
end lawFnPlanText

end Go.Proofs.Ytggklaimbklefaa
