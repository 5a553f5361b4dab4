/- FnExactSuiteText: the law holds for all arguments: the program gives what the reference gives. -/
import Derived.Test.YtggklaimbklefaaJExactSuiteText2
import Derived.Test.YtggklaimbklefaaJExactSuiteText5

set_option maxHeartbeats 4000000
set_option synthInstance.maxHeartbeats 400000
set_option synthInstance.maxSize 4096
set_option linter.unusedSimpArgs false
set_option linter.unusedVariables false
namespace Go.Proofs.Ytggklaimbklefaa
open Go.ChangeShapes Go.WideShapes Go.ChangeAt Go.RowKit

set_option maxRecDepth 100000

theorem own : ownKnob Try.prog.godebug = none := by kernel_rfl

theorem laidOut : laidOutB Try.prog = true := by kernel_rfl

section
variable {H : Type} {enc : TypeId × Value → H} {W : World}

theorem rd_int : Reads enc Try.prog W intS 3 := reads_int (by kernel_rfl) (by kernel_rfl)

theorem rd_str : Reads enc Try.prog W strS 9 := reads_str (by kernel_rfl) (by kernel_rfl)

theorem rd_bool : Reads enc Try.prog W boolS 4 := reads_bool (by kernel_rfl) (by kernel_rfl)

theorem rd_byte : Reads enc Try.prog W byteS 5 := reads_byte (by kernel_rfl) (by kernel_rfl)

theorem rd_ints : Reads enc Try.prog W (slS intS) 90 := reads_slice (e := 3) (by kernel_rfl) (by kernel_rfl) (of_decide_eq_true (by kernel_rfl)) (by decide) rd_int

theorem rd_strs : Reads enc Try.prog W (slS strS) 54 := reads_slice (e := 9) (by kernel_rfl) (by kernel_rfl) (of_decide_eq_true (by kernel_rfl)) (by decide) rd_str

theorem rd_bytes : Reads enc Try.prog W (slS byteS) 22 := reads_slice (e := 5) (by kernel_rfl) (by kernel_rfl) (of_decide_eq_true (by kernel_rfl)) (by decide) rd_byte

theorem rd_fixture : Reads enc Try.prog W fixtureS 98 := reads_struct (l := [(9, 0), (3, 1), (54, 2), (4, 3)]) (by kernel_rfl) (by kernel_rfl) (readsF_cons rd_str (readsF_cons rd_int (readsF_cons rd_strs (readsF_cons rd_bool (readsF_nil _)))))

theorem rd_fixtures : Reads enc Try.prog W (slS fixtureS) 32 := reads_slice (e := 98) (by kernel_rfl) (by kernel_rfl) (of_decide_eq_true (by kernel_rfl)) (by decide) rd_fixture

theorem rd_test : Reads enc Try.prog W testS 100 := reads_struct (l := [(9, 0), (9, 1), (54, 2), (54, 3)]) (by kernel_rfl) (by kernel_rfl) (readsF_cons rd_str (readsF_cons rd_str (readsF_cons rd_strs (readsF_cons rd_strs (readsF_nil _)))))

theorem rd_tests : Reads enc Try.prog W (slS testS) 33 := reads_slice (e := 100) (by kernel_rfl) (by kernel_rfl) (of_decide_eq_true (by kernel_rfl)) (by decide) rd_test

theorem rd_suite : Reads enc Try.prog W suiteS 35 := reads_struct (l := [(32, 0), (33, 1)]) (by kernel_rfl) (by kernel_rfl) (readsF_cons rd_fixtures (readsF_cons rd_tests (readsF_nil _)))

end

namespace lawFnExactSuiteText
theorem lifted (os : Os) (started : os.Started) (H : Type) (enc : TypeId × Value → H) :
    ReturnsInHanded {} Try.checked os 5 .any (Rows.fnExactSuiteTextSpec.pre6 enc Try.prog Try.f5 Rows.fnExactSuiteTextRow.domain false) (Rows.fnExactSuiteTextSpec.post enc Try.prog Try.f5 false true false false) := by
  refine returnsInHanded_of_change_shaped (C := Try.checked) own started (by kernel_rfl) Try.func5
    (ChangeSpec.witness6 (enc := enc) (C := Try.checked) false ⟨#[], #[.agg #[.slice none 0 0, .slice none 0 0]], []⟩ 8 (by kernel_rfl) (by kernel_rfl) (by kernel_rfl) (by kernel_rfl)) ?_
  intro W base args ds gs before hval0 hW _ hsz0 _ _
  have hsz : (DataW.weightsEach Try.prog (Try.f5.params.toList ++ Rows.fnExactSuiteTextSpec.plain.varTypes Try.prog) (ds ++ gs)).all (· ≤ reachBytes) = true := hsz0
  clear hsz0
  have hval : ∀ (j : Nat) t v, Try.f5.params[j]? = some t → args[j]? = some v → Value.okWide Try.prog W .any base t v := hval0
  have hW' := hW
  obtain ⟨p, q, hA0, hV, rfl, _, _⟩ := hW
  have hA : DataW.TrodAll enc Try.prog W 0 (fun _ => true) true Try.f5.params.toList args.toList ds p := hA0
  rw [Try.params5] at hA hval hsz
  obtain ⟨v0, d0, rfl, rfl, h0⟩ := trodAll_one hA
  obtain ⟨rfl, rfl⟩ := trodVars_none hV
  rw [List.all_eq_true] at hsz
  have hw0 := fun n hn => of_decide_eq_true (hsz n (DataW.weights_mem_each (j := 0) rfl rfl n hn))
  obtain ⟨x0, hx0⟩ := arg_of rd_suite h0 hw0
  obtain ⟨⟨cs0⟩, rfl⟩ := okWide_structB (t := 35) (by kernel_rfl) (hval 0 35 v0 rfl rfl)
  simp only [Value.cells] at hx0
  exact law_calls (tb := 4) laidOut (by kernel_rfl) (by kernel_rfl) rfl ⟨rfl, rfl, rfl⟩ (by
    rw [Try.params5]
    intro t ht
    have : t = 35 := by simpa using ht
    subst this
    exact ⟨by kernel_rfl, of_decide_eq_true (by kernel_rfl)⟩) hW' (law_FnExactSuiteText _ _ x0 hx0)
theorem proved : Rows.FnExactSuiteTextSaid :=
  OpenClaim.holds_of_wide 5 Try.f5 rfl rfl rfl rfl rfl rfl rfl ⟨rfl, rfl, rfl, rfl, rfl⟩ rfl rfl rfl rfl rfl (by kernel_rfl) Try.func5 (by kernel_rfl)
    (of_decide_eq_true (by kernel_rfl)) (by unfold Func.isWrapper; first | (rw [if_pos (by decide +kernel)]; kernel_rfl) | (rw [if_neg (by decide +kernel)]; exact ⟨rfl, rfl⟩))
    (fun os started H enc _ => lifted os started H enc)
end lawFnExactSuiteText

end Go.Proofs.Ytggklaimbklefaa
