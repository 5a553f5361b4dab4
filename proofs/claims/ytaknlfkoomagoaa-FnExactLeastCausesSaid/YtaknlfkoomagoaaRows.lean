/-
  No cell of these rows narrows 'for every input' (looked for: loops, veiled, ifaces, maps, wideKeys, modest, calm, conditions, laid).
  DERIVED. THE GIVEN ROWS OF THIS SEAT. 10 by the template 'for every input the law returns true; each argument reads behind the call as it read before'; 0 by the template 'total and deterministic' (their statements: YtaknlfkoomagoaaTotals.lean).
  GIVEN WITH THE SEED: the statements are not yours to turn. If you find one false, say at which input.
  Laid BY PROGRAM, IN A SANDBOX (cutbox-rows.mjs): the forced cells as the released guide's own fill.sh prints them over the translation f0ef26445fc0bef6… (all of the seat's roots in one cut). By AI agents, Wed Nov 11 2026. No macro, syntax, notation, axiom, sorry.
-/
import Derived.Test.YtaknlfkoomagoaaChecked
import GoSem.Claim
import GoSem.ClaimJoined
import GoSem.ClaimMapViews
import Derived.JoinedTies
import Derived.KernelRfl
namespace Go.Proofs.Ytaknlfkoomagoaa
/- THE CELL 'sum', in the pinned program and in every row, IS THE sha256 OF THE DUMP (.gsa) THAT YtaknlfkoomagoaaProg.lean LOADS. Nothing in Lean hashes anything: it is a label: what it is worth is what the hold of that sum in a sandbox is worth. -/
noncomputable def Try.pinned : Pinned := { name := "ytaknlfkoomagoaa", sum := "f0ef26445fc0bef648a347be0c543d17b901f585dd6e9f1ac3a0dd9eae0f699f", checked := Try.checked }
namespace Rows
def none {H : Type} : Left H := { results := [], args := [] }

/-- 'laws.FnExactTouchedBy': WHATEVER THE INPUT: true; the input reads as it did. -/
def fnExactTouchedBySpec : ChangeSpec := { name := "fnExactTouchedBy", fn := fun _ => fun
  | [d1, d2] => { results := [.lit (.bool true)], args := [d1, d2] }
  | _ => none }
def fnExactTouchedByRow : OpenClaim := { program := "ytaknlfkoomagoaa", sum := "f0ef26445fc0bef648a347be0c543d17b901f585dd6e9f1ac3a0dd9eae0f699f", func := "loop.example/fixturehouse/laws.FnExactTouchedBy", spec := "fnExactTouchedBy", inPlace := ["internal/bytealg.IndexByteString", "internal/bytealg.IndexString"], unfollowed := true, recurses := true, named := ["internal/bytealg.MaxLen"], apart := false }
def FnExactTouchedBySaid : Prop := fnExactTouchedByRow.holds Try.pinned (OpenSpec.ofChange fnExactTouchedBySpec)

/-- ITS FALSE NEIGHBOUR: 'it returns false'. Refute it at one input. -/
def fnExactTouchedByWrong : ChangeSpec := { name := "fnExactTouchedBy", fn := fun _ => fun
  | [d1, d2] => { results := [.lit (.bool false)], args := [d1, d2] }
  | _ => none }
def FnExactTouchedByWrongFalsely : Prop := fnExactTouchedByRow.holds Try.pinned (OpenSpec.ofChange fnExactTouchedByWrong)

/-- 'laws.FnExactPickBudget': WHATEVER THE INPUT: true; the input reads as it did. -/
def fnExactPickBudgetSpec : ChangeSpec := { name := "fnExactPickBudget", fn := fun _ => fun
  | [d1, d2, d3] => { results := [.lit (.bool true)], args := [d1, d2, d3] }
  | _ => none }
def fnExactPickBudgetRow : OpenClaim := { program := "ytaknlfkoomagoaa", sum := "f0ef26445fc0bef648a347be0c543d17b901f585dd6e9f1ac3a0dd9eae0f699f", func := "loop.example/fixturehouse/laws.FnExactPickBudget", spec := "fnExactPickBudget", inPlace := ["internal/bytealg.IndexByteString", "internal/bytealg.IndexString"], unfollowed := true, recurses := true, named := ["internal/bytealg.MaxLen"], apart := false }
def FnExactPickBudgetSaid : Prop := fnExactPickBudgetRow.holds Try.pinned (OpenSpec.ofChange fnExactPickBudgetSpec)

/-- ITS FALSE NEIGHBOUR: 'it returns false'. Refute it at one input. -/
def fnExactPickBudgetWrong : ChangeSpec := { name := "fnExactPickBudget", fn := fun _ => fun
  | [d1, d2, d3] => { results := [.lit (.bool false)], args := [d1, d2, d3] }
  | _ => none }
def FnExactPickBudgetWrongFalsely : Prop := fnExactPickBudgetRow.holds Try.pinned (OpenSpec.ofChange fnExactPickBudgetWrong)

/-- 'laws.FnExactShrinkIds': WHATEVER THE INPUT: true; the input reads as it did. -/
def fnExactShrinkIdsSpec : ChangeSpec := { name := "fnExactShrinkIds", fn := fun _ => fun
  | [d1, d2] => { results := [.lit (.bool true)], args := [d1, d2] }
  | _ => none }
def fnExactShrinkIdsRow : OpenClaim := { program := "ytaknlfkoomagoaa", sum := "f0ef26445fc0bef648a347be0c543d17b901f585dd6e9f1ac3a0dd9eae0f699f", func := "loop.example/fixturehouse/laws.FnExactShrinkIds", spec := "fnExactShrinkIds", inPlace := ["internal/bytealg.IndexByteString", "internal/bytealg.IndexString"], unfollowed := true, recurses := true, named := ["internal/bytealg.MaxLen"], apart := false }
def FnExactShrinkIdsSaid : Prop := fnExactShrinkIdsRow.holds Try.pinned (OpenSpec.ofChange fnExactShrinkIdsSpec)

/-- ITS FALSE NEIGHBOUR: 'it returns false'. Refute it at one input. -/
def fnExactShrinkIdsWrong : ChangeSpec := { name := "fnExactShrinkIds", fn := fun _ => fun
  | [d1, d2] => { results := [.lit (.bool false)], args := [d1, d2] }
  | _ => none }
def FnExactShrinkIdsWrongFalsely : Prop := fnExactShrinkIdsRow.holds Try.pinned (OpenSpec.ofChange fnExactShrinkIdsWrong)

/-- 'laws.FnExactHalveIds': WHATEVER THE INPUT: true; the input reads as it did. -/
def fnExactHalveIdsSpec : ChangeSpec := { name := "fnExactHalveIds", fn := fun _ => fun
  | [d1, d2] => { results := [.lit (.bool true)], args := [d1, d2] }
  | _ => none }
def fnExactHalveIdsRow : OpenClaim := { program := "ytaknlfkoomagoaa", sum := "f0ef26445fc0bef648a347be0c543d17b901f585dd6e9f1ac3a0dd9eae0f699f", func := "loop.example/fixturehouse/laws.FnExactHalveIds", spec := "fnExactHalveIds", inPlace := ["internal/bytealg.IndexByteString", "internal/bytealg.IndexString"], unfollowed := true, recurses := true, named := ["internal/bytealg.MaxLen"], apart := false }
def FnExactHalveIdsSaid : Prop := fnExactHalveIdsRow.holds Try.pinned (OpenSpec.ofChange fnExactHalveIdsSpec)

/-- ITS FALSE NEIGHBOUR: 'it returns false'. Refute it at one input. -/
def fnExactHalveIdsWrong : ChangeSpec := { name := "fnExactHalveIds", fn := fun _ => fun
  | [d1, d2] => { results := [.lit (.bool false)], args := [d1, d2] }
  | _ => none }
def FnExactHalveIdsWrongFalsely : Prop := fnExactHalveIdsRow.holds Try.pinned (OpenSpec.ofChange fnExactHalveIdsWrong)

/-- 'laws.FnExactLeastCauses': WHATEVER THE INPUT: true; the input reads as it did. -/
def fnExactLeastCausesSpec : ChangeSpec := { name := "fnExactLeastCauses", fn := fun _ => fun
  | [d1, d2] => { results := [.lit (.bool true)], args := [d1, d2] }
  | _ => none }
def fnExactLeastCausesRow : OpenClaim := { program := "ytaknlfkoomagoaa", sum := "f0ef26445fc0bef648a347be0c543d17b901f585dd6e9f1ac3a0dd9eae0f699f", func := "loop.example/fixturehouse/laws.FnExactLeastCauses", spec := "fnExactLeastCauses", inPlace := ["internal/bytealg.IndexByteString", "internal/bytealg.IndexString"], unfollowed := true, recurses := true, named := ["internal/bytealg.MaxLen"], apart := false }
def FnExactLeastCausesSaid : Prop := fnExactLeastCausesRow.holds Try.pinned (OpenSpec.ofChange fnExactLeastCausesSpec)

/-- ITS FALSE NEIGHBOUR: 'it returns false'. Refute it at one input. -/
def fnExactLeastCausesWrong : ChangeSpec := { name := "fnExactLeastCauses", fn := fun _ => fun
  | [d1, d2] => { results := [.lit (.bool false)], args := [d1, d2] }
  | _ => none }
def FnExactLeastCausesWrongFalsely : Prop := fnExactLeastCausesRow.holds Try.pinned (OpenSpec.ofChange fnExactLeastCausesWrong)

/-- 'laws.FnFailsWith': WHATEVER THE INPUT: true; the input reads as it did. -/
def fnFailsWithSpec : ChangeSpec := { name := "fnFailsWith", fn := fun _ => fun
  | [d] => { results := [.lit (.bool true)], args := [d] }
  | _ => none }
def fnFailsWithRow : OpenClaim := { program := "ytaknlfkoomagoaa", sum := "f0ef26445fc0bef648a347be0c543d17b901f585dd6e9f1ac3a0dd9eae0f699f", func := "loop.example/fixturehouse/laws.FnFailsWith", spec := "fnFailsWith", inPlace := ["internal/bytealg.IndexByteString", "internal/bytealg.IndexString"], unfollowed := true, recurses := true, named := ["internal/bytealg.MaxLen"], apart := false }
def FnFailsWithSaid : Prop := fnFailsWithRow.holds Try.pinned (OpenSpec.ofChange fnFailsWithSpec)

/-- ITS FALSE NEIGHBOUR: 'it returns false'. Refute it at one input. -/
def fnFailsWithWrong : ChangeSpec := { name := "fnFailsWith", fn := fun _ => fun
  | [d] => { results := [.lit (.bool false)], args := [d] }
  | _ => none }
def FnFailsWithWrongFalsely : Prop := fnFailsWithRow.holds Try.pinned (OpenSpec.ofChange fnFailsWithWrong)

/-- 'laws.FnIsLeast': WHATEVER THE INPUT: true; the input reads as it did. -/
def fnIsLeastSpec : ChangeSpec := { name := "fnIsLeast", fn := fun _ => fun
  | [d] => { results := [.lit (.bool true)], args := [d] }
  | _ => none }
def fnIsLeastRow : OpenClaim := { program := "ytaknlfkoomagoaa", sum := "f0ef26445fc0bef648a347be0c543d17b901f585dd6e9f1ac3a0dd9eae0f699f", func := "loop.example/fixturehouse/laws.FnIsLeast", spec := "fnIsLeast", inPlace := ["internal/bytealg.IndexByteString", "internal/bytealg.IndexString"], unfollowed := true, recurses := true, named := ["internal/bytealg.MaxLen"], apart := false }
def FnIsLeastSaid : Prop := fnIsLeastRow.holds Try.pinned (OpenSpec.ofChange fnIsLeastSpec)

/-- ITS FALSE NEIGHBOUR: 'it returns false'. Refute it at one input. -/
def fnIsLeastWrong : ChangeSpec := { name := "fnIsLeast", fn := fun _ => fun
  | [d] => { results := [.lit (.bool false)], args := [d] }
  | _ => none }
def FnIsLeastWrongFalsely : Prop := fnIsLeastRow.holds Try.pinned (OpenSpec.ofChange fnIsLeastWrong)

/-- 'laws.FnHalveIds': WHATEVER THE INPUT: true; the input reads as it did. -/
def fnHalveIdsSpec : ChangeSpec := { name := "fnHalveIds", fn := fun _ => fun
  | [d] => { results := [.lit (.bool true)], args := [d] }
  | _ => none }
def fnHalveIdsRow : OpenClaim := { program := "ytaknlfkoomagoaa", sum := "f0ef26445fc0bef648a347be0c543d17b901f585dd6e9f1ac3a0dd9eae0f699f", func := "loop.example/fixturehouse/laws.FnHalveIds", spec := "fnHalveIds", inPlace := ["internal/bytealg.IndexByteString", "internal/bytealg.IndexString"], unfollowed := true, recurses := true, named := ["internal/bytealg.MaxLen"], apart := false }
def FnHalveIdsSaid : Prop := fnHalveIdsRow.holds Try.pinned (OpenSpec.ofChange fnHalveIdsSpec)

/-- ITS FALSE NEIGHBOUR: 'it returns false'. Refute it at one input. -/
def fnHalveIdsWrong : ChangeSpec := { name := "fnHalveIds", fn := fun _ => fun
  | [d] => { results := [.lit (.bool false)], args := [d] }
  | _ => none }
def FnHalveIdsWrongFalsely : Prop := fnHalveIdsRow.holds Try.pinned (OpenSpec.ofChange fnHalveIdsWrong)

/-- 'laws.FnShrinkIds': WHATEVER THE INPUT: true; the input reads as it did. -/
def fnShrinkIdsSpec : ChangeSpec := { name := "fnShrinkIds", fn := fun _ => fun
  | [d] => { results := [.lit (.bool true)], args := [d] }
  | _ => none }
def fnShrinkIdsRow : OpenClaim := { program := "ytaknlfkoomagoaa", sum := "f0ef26445fc0bef648a347be0c543d17b901f585dd6e9f1ac3a0dd9eae0f699f", func := "loop.example/fixturehouse/laws.FnShrinkIds", spec := "fnShrinkIds", inPlace := ["internal/bytealg.IndexByteString", "internal/bytealg.IndexString"], unfollowed := true, recurses := true, named := ["internal/bytealg.MaxLen"], apart := false }
def FnShrinkIdsSaid : Prop := fnShrinkIdsRow.holds Try.pinned (OpenSpec.ofChange fnShrinkIdsSpec)

/-- ITS FALSE NEIGHBOUR: 'it returns false'. Refute it at one input. -/
def fnShrinkIdsWrong : ChangeSpec := { name := "fnShrinkIds", fn := fun _ => fun
  | [d] => { results := [.lit (.bool false)], args := [d] }
  | _ => none }
def FnShrinkIdsWrongFalsely : Prop := fnShrinkIdsRow.holds Try.pinned (OpenSpec.ofChange fnShrinkIdsWrong)

/-- 'laws.FnLeastCauses': WHATEVER THE INPUT: true; the input reads as it did. -/
def fnLeastCausesSpec : ChangeSpec := { name := "fnLeastCauses", fn := fun _ => fun
  | [d] => { results := [.lit (.bool true)], args := [d] }
  | _ => none }
def fnLeastCausesRow : OpenClaim := { program := "ytaknlfkoomagoaa", sum := "f0ef26445fc0bef648a347be0c543d17b901f585dd6e9f1ac3a0dd9eae0f699f", func := "loop.example/fixturehouse/laws.FnLeastCauses", spec := "fnLeastCauses", inPlace := ["internal/bytealg.IndexByteString", "internal/bytealg.IndexString"], unfollowed := true, recurses := true, named := ["internal/bytealg.MaxLen"], apart := false }
def FnLeastCausesSaid : Prop := fnLeastCausesRow.holds Try.pinned (OpenSpec.ofChange fnLeastCausesSpec)

/-- ITS FALSE NEIGHBOUR: 'it returns false'. Refute it at one input. -/
def fnLeastCausesWrong : ChangeSpec := { name := "fnLeastCauses", fn := fun _ => fun
  | [d] => { results := [.lit (.bool false)], args := [d] }
  | _ => none }
def FnLeastCausesWrongFalsely : Prop := fnLeastCausesRow.holds Try.pinned (OpenSpec.ofChange fnLeastCausesWrong)

/- THE SECOND FORM. 'bulk': how many values and letters a reading holds, each counted each time it is reached (what is shared counts as often as it is met; a slice's spare places count too). A statement '..UptoSaid' is the law's where the arguments, and the package variables that the reading takes, are together of bulk at most 1048576: NARROWER than '..Said'. Prove '..Said' where nothing that the law and all that it calls make is longer than what came in: it says more and counts as full. Else prove '..UptoSaid'. A law counts once. -/
mutual
def uptoBulk {H : Type} : DataW H → Nat
  | .lit (.string bytes) => bytes.length + 1
  | .lit _ => 1
  | .nil => 1
  | .ptr d => uptoBulk d + 1
  | .slice elems spare => uptoBulkAll elems + uptoBulkAll spare + 1
  | .agg parts => uptoBulkAll parts + 1
  | .iface _ d => uptoBulk d + 1
  | .map entries => uptoBulkEntries entries + 1
  | .held _ => 1
def uptoBulkAll {H : Type} : List (DataW H) → Nat
  | [] => 0
  | d :: r => uptoBulk d + uptoBulkAll r
def uptoBulkEntries {H : Type} : List (Lit × DataW H) → Nat
  | [] => 0
  | x :: r => uptoBulkEntry x + uptoBulkEntries r
def uptoBulkEntry {H : Type} : Lit × DataW H → Nat
  | (.string bytes, d) => bytes.length + uptoBulk d + 1
  | (_, d) => uptoBulk d + 1
 end
def uptoSmall : (H : Type) → List (DataW H) → Bool := fun _ ds => decide (uptoBulkAll ds ≤ 1048576)
def OpenSpec.upto (s : _root_.Go.ChangeSpec) : _root_.Go.OpenSpec := { _root_.Go.OpenSpec.ofChange s with cond := some uptoSmall }

/-- 'laws.FnExactTouchedBy', WHERE WHAT IT READS IS OF BULK AT MOST 1048576: true; the input reads as it did. -/
def fnExactTouchedByUptoRow : OpenClaim := { program := "ytaknlfkoomagoaa", sum := "f0ef26445fc0bef648a347be0c543d17b901f585dd6e9f1ac3a0dd9eae0f699f", func := "loop.example/fixturehouse/laws.FnExactTouchedBy", spec := "fnExactTouchedBy", inPlace := ["internal/bytealg.IndexByteString", "internal/bytealg.IndexString"], unfollowed := true, recurses := true, named := ["internal/bytealg.MaxLen"], apart := false, narrowed := true }
def FnExactTouchedByUptoSaid : Prop := fnExactTouchedByUptoRow.holds Try.pinned (OpenSpec.upto fnExactTouchedBySpec)

/-- 'laws.FnExactPickBudget', WHERE WHAT IT READS IS OF BULK AT MOST 1048576: true; the input reads as it did. -/
def fnExactPickBudgetUptoRow : OpenClaim := { program := "ytaknlfkoomagoaa", sum := "f0ef26445fc0bef648a347be0c543d17b901f585dd6e9f1ac3a0dd9eae0f699f", func := "loop.example/fixturehouse/laws.FnExactPickBudget", spec := "fnExactPickBudget", inPlace := ["internal/bytealg.IndexByteString", "internal/bytealg.IndexString"], unfollowed := true, recurses := true, named := ["internal/bytealg.MaxLen"], apart := false, narrowed := true }
def FnExactPickBudgetUptoSaid : Prop := fnExactPickBudgetUptoRow.holds Try.pinned (OpenSpec.upto fnExactPickBudgetSpec)

/-- 'laws.FnExactShrinkIds', WHERE WHAT IT READS IS OF BULK AT MOST 1048576: true; the input reads as it did. -/
def fnExactShrinkIdsUptoRow : OpenClaim := { program := "ytaknlfkoomagoaa", sum := "f0ef26445fc0bef648a347be0c543d17b901f585dd6e9f1ac3a0dd9eae0f699f", func := "loop.example/fixturehouse/laws.FnExactShrinkIds", spec := "fnExactShrinkIds", inPlace := ["internal/bytealg.IndexByteString", "internal/bytealg.IndexString"], unfollowed := true, recurses := true, named := ["internal/bytealg.MaxLen"], apart := false, narrowed := true }
def FnExactShrinkIdsUptoSaid : Prop := fnExactShrinkIdsUptoRow.holds Try.pinned (OpenSpec.upto fnExactShrinkIdsSpec)

/-- 'laws.FnExactHalveIds', WHERE WHAT IT READS IS OF BULK AT MOST 1048576: true; the input reads as it did. -/
def fnExactHalveIdsUptoRow : OpenClaim := { program := "ytaknlfkoomagoaa", sum := "f0ef26445fc0bef648a347be0c543d17b901f585dd6e9f1ac3a0dd9eae0f699f", func := "loop.example/fixturehouse/laws.FnExactHalveIds", spec := "fnExactHalveIds", inPlace := ["internal/bytealg.IndexByteString", "internal/bytealg.IndexString"], unfollowed := true, recurses := true, named := ["internal/bytealg.MaxLen"], apart := false, narrowed := true }
def FnExactHalveIdsUptoSaid : Prop := fnExactHalveIdsUptoRow.holds Try.pinned (OpenSpec.upto fnExactHalveIdsSpec)

/-- 'laws.FnExactLeastCauses', WHERE WHAT IT READS IS OF BULK AT MOST 1048576: true; the input reads as it did. -/
def fnExactLeastCausesUptoRow : OpenClaim := { program := "ytaknlfkoomagoaa", sum := "f0ef26445fc0bef648a347be0c543d17b901f585dd6e9f1ac3a0dd9eae0f699f", func := "loop.example/fixturehouse/laws.FnExactLeastCauses", spec := "fnExactLeastCauses", inPlace := ["internal/bytealg.IndexByteString", "internal/bytealg.IndexString"], unfollowed := true, recurses := true, named := ["internal/bytealg.MaxLen"], apart := false, narrowed := true }
def FnExactLeastCausesUptoSaid : Prop := fnExactLeastCausesUptoRow.holds Try.pinned (OpenSpec.upto fnExactLeastCausesSpec)

/-- 'laws.FnFailsWith', WHERE WHAT IT READS IS OF BULK AT MOST 1048576: true; the input reads as it did. -/
def fnFailsWithUptoRow : OpenClaim := { program := "ytaknlfkoomagoaa", sum := "f0ef26445fc0bef648a347be0c543d17b901f585dd6e9f1ac3a0dd9eae0f699f", func := "loop.example/fixturehouse/laws.FnFailsWith", spec := "fnFailsWith", inPlace := ["internal/bytealg.IndexByteString", "internal/bytealg.IndexString"], unfollowed := true, recurses := true, named := ["internal/bytealg.MaxLen"], apart := false, narrowed := true }
def FnFailsWithUptoSaid : Prop := fnFailsWithUptoRow.holds Try.pinned (OpenSpec.upto fnFailsWithSpec)

/-- 'laws.FnIsLeast', WHERE WHAT IT READS IS OF BULK AT MOST 1048576: true; the input reads as it did. -/
def fnIsLeastUptoRow : OpenClaim := { program := "ytaknlfkoomagoaa", sum := "f0ef26445fc0bef648a347be0c543d17b901f585dd6e9f1ac3a0dd9eae0f699f", func := "loop.example/fixturehouse/laws.FnIsLeast", spec := "fnIsLeast", inPlace := ["internal/bytealg.IndexByteString", "internal/bytealg.IndexString"], unfollowed := true, recurses := true, named := ["internal/bytealg.MaxLen"], apart := false, narrowed := true }
def FnIsLeastUptoSaid : Prop := fnIsLeastUptoRow.holds Try.pinned (OpenSpec.upto fnIsLeastSpec)

/-- 'laws.FnHalveIds', WHERE WHAT IT READS IS OF BULK AT MOST 1048576: true; the input reads as it did. -/
def fnHalveIdsUptoRow : OpenClaim := { program := "ytaknlfkoomagoaa", sum := "f0ef26445fc0bef648a347be0c543d17b901f585dd6e9f1ac3a0dd9eae0f699f", func := "loop.example/fixturehouse/laws.FnHalveIds", spec := "fnHalveIds", inPlace := ["internal/bytealg.IndexByteString", "internal/bytealg.IndexString"], unfollowed := true, recurses := true, named := ["internal/bytealg.MaxLen"], apart := false, narrowed := true }
def FnHalveIdsUptoSaid : Prop := fnHalveIdsUptoRow.holds Try.pinned (OpenSpec.upto fnHalveIdsSpec)

/-- 'laws.FnShrinkIds', WHERE WHAT IT READS IS OF BULK AT MOST 1048576: true; the input reads as it did. -/
def fnShrinkIdsUptoRow : OpenClaim := { program := "ytaknlfkoomagoaa", sum := "f0ef26445fc0bef648a347be0c543d17b901f585dd6e9f1ac3a0dd9eae0f699f", func := "loop.example/fixturehouse/laws.FnShrinkIds", spec := "fnShrinkIds", inPlace := ["internal/bytealg.IndexByteString", "internal/bytealg.IndexString"], unfollowed := true, recurses := true, named := ["internal/bytealg.MaxLen"], apart := false, narrowed := true }
def FnShrinkIdsUptoSaid : Prop := fnShrinkIdsUptoRow.holds Try.pinned (OpenSpec.upto fnShrinkIdsSpec)

/-- 'laws.FnLeastCauses', WHERE WHAT IT READS IS OF BULK AT MOST 1048576: true; the input reads as it did. -/
def fnLeastCausesUptoRow : OpenClaim := { program := "ytaknlfkoomagoaa", sum := "f0ef26445fc0bef648a347be0c543d17b901f585dd6e9f1ac3a0dd9eae0f699f", func := "loop.example/fixturehouse/laws.FnLeastCauses", spec := "fnLeastCauses", inPlace := ["internal/bytealg.IndexByteString", "internal/bytealg.IndexString"], unfollowed := true, recurses := true, named := ["internal/bytealg.MaxLen"], apart := false, narrowed := true }
def FnLeastCausesUptoSaid : Prop := fnLeastCausesUptoRow.holds Try.pinned (OpenSpec.upto fnLeastCausesSpec)

end Rows
end Go.Proofs.Ytaknlfkoomagoaa
