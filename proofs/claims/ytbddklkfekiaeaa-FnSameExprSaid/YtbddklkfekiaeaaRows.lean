/-
  No cell of these rows narrows 'for every input' (looked for: loops, veiled, ifaces, maps, wideKeys, modest, calm, conditions, laid).
  DERIVED. THE GIVEN ROWS OF THIS SEAT. 10 by the template 'for every input the law returns true; each argument reads behind the call as it read before'; 0 by the template 'total and deterministic' (their statements: YtbddklkfekiaeaaTotals.lean).
  GIVEN WITH THE SEED: the statements are not yours to turn. If you find one false, say at which input.
  Laid BY PROGRAM, IN A SANDBOX (cutbox-rows.mjs): the forced cells as the released guide's own fill.sh prints them over the translation d33308bc06f14d5a… (all of the seat's roots in one cut). By AI agents, Wed Nov 11 2026. No macro, syntax, notation, axiom, sorry.
-/
import Derived.Test.YtbddklkfekiaeaaChecked
import GoSem.Claim
import GoSem.ClaimJoined
import GoSem.ClaimMapViews
import Derived.JoinedTies
import Derived.KernelRfl
namespace Go.Proofs.Ytbddklkfekiaeaa
/- THE CELL 'sum', in the pinned program and in every row, IS THE sha256 OF THE DUMP (.gsa) THAT YtbddklkfekiaeaaProg.lean LOADS. Nothing in Lean hashes anything: it is a label: what it is worth is what the hold of that sum in a sandbox is worth. -/
noncomputable def Try.pinned : Pinned := { name := "ytbddklkfekiaeaa", sum := "d33308bc06f14d5a3bc5c4245f9985fb9dfbd8979d12b908098a9c99bbddefa5", checked := Try.checked }
namespace Rows
def none {H : Type} : Left H := { results := [], args := [] }

/-- 'laws.FnIdsOf': WHATEVER THE INPUT: true; the input reads as it did. -/
def fnIdsOfSpec : ChangeSpec := { name := "fnIdsOf", fn := fun _ => fun
  | [d] => { results := [.lit (.bool true)], args := [d] }
  | _ => none }
def fnIdsOfRow : OpenClaim := { program := "ytbddklkfekiaeaa", sum := "d33308bc06f14d5a3bc5c4245f9985fb9dfbd8979d12b908098a9c99bbddefa5", func := "loop.example/fixturehouse/laws.FnIdsOf", spec := "fnIdsOf", unfollowed := true, recurses := true, apart := false }
def FnIdsOfSaid : Prop := fnIdsOfRow.holds Try.pinned (OpenSpec.ofChange fnIdsOfSpec)

/-- ITS FALSE NEIGHBOUR: 'it returns false'. Refute it at one input. -/
def fnIdsOfWrong : ChangeSpec := { name := "fnIdsOf", fn := fun _ => fun
  | [d] => { results := [.lit (.bool false)], args := [d] }
  | _ => none }
def FnIdsOfWrongFalsely : Prop := fnIdsOfRow.holds Try.pinned (OpenSpec.ofChange fnIdsOfWrong)

/-- 'laws.FnGroupModules': WHATEVER THE INPUT: true; the input reads as it did. -/
def fnGroupModulesSpec : ChangeSpec := { name := "fnGroupModules", fn := fun _ => fun
  | [d] => { results := [.lit (.bool true)], args := [d] }
  | _ => none }
def fnGroupModulesRow : OpenClaim := { program := "ytbddklkfekiaeaa", sum := "d33308bc06f14d5a3bc5c4245f9985fb9dfbd8979d12b908098a9c99bbddefa5", func := "loop.example/fixturehouse/laws.FnGroupModules", spec := "fnGroupModules", unfollowed := true, recurses := true, apart := false }
def FnGroupModulesSaid : Prop := fnGroupModulesRow.holds Try.pinned (OpenSpec.ofChange fnGroupModulesSpec)

/-- ITS FALSE NEIGHBOUR: 'it returns false'. Refute it at one input. -/
def fnGroupModulesWrong : ChangeSpec := { name := "fnGroupModules", fn := fun _ => fun
  | [d] => { results := [.lit (.bool false)], args := [d] }
  | _ => none }
def FnGroupModulesWrongFalsely : Prop := fnGroupModulesRow.holds Try.pinned (OpenSpec.ofChange fnGroupModulesWrong)

/-- 'laws.FnMatches': WHATEVER THE INPUT: true; the input reads as it did. -/
def fnMatchesSpec : ChangeSpec := { name := "fnMatches", fn := fun _ => fun
  | [d] => { results := [.lit (.bool true)], args := [d] }
  | _ => none }
def fnMatchesRow : OpenClaim := { program := "ytbddklkfekiaeaa", sum := "d33308bc06f14d5a3bc5c4245f9985fb9dfbd8979d12b908098a9c99bbddefa5", func := "loop.example/fixturehouse/laws.FnMatches", spec := "fnMatches", unfollowed := true, recurses := true, apart := false }
def FnMatchesSaid : Prop := fnMatchesRow.holds Try.pinned (OpenSpec.ofChange fnMatchesSpec)

/-- ITS FALSE NEIGHBOUR: 'it returns false'. Refute it at one input. -/
def fnMatchesWrong : ChangeSpec := { name := "fnMatches", fn := fun _ => fun
  | [d] => { results := [.lit (.bool false)], args := [d] }
  | _ => none }
def FnMatchesWrongFalsely : Prop := fnMatchesRow.holds Try.pinned (OpenSpec.ofChange fnMatchesWrong)

/-- 'laws.FnSameExpr': WHATEVER THE INPUT: true; the input reads as it did. -/
def fnSameExprSpec : ChangeSpec := { name := "fnSameExpr", fn := fun _ => fun
  | [d] => { results := [.lit (.bool true)], args := [d] }
  | _ => none }
def fnSameExprRow : OpenClaim := { program := "ytbddklkfekiaeaa", sum := "d33308bc06f14d5a3bc5c4245f9985fb9dfbd8979d12b908098a9c99bbddefa5", func := "loop.example/fixturehouse/laws.FnSameExpr", spec := "fnSameExpr", unfollowed := true, recurses := true, apart := false }
def FnSameExprSaid : Prop := fnSameExprRow.holds Try.pinned (OpenSpec.ofChange fnSameExprSpec)

/-- ITS FALSE NEIGHBOUR: 'it returns false'. Refute it at one input. -/
def fnSameExprWrong : ChangeSpec := { name := "fnSameExpr", fn := fun _ => fun
  | [d] => { results := [.lit (.bool false)], args := [d] }
  | _ => none }
def FnSameExprWrongFalsely : Prop := fnSameExprRow.holds Try.pinned (OpenSpec.ofChange fnSameExprWrong)

/-- 'laws.FnExactRejectTests': WHATEVER THE INPUT: true; the input reads as it did. -/
def fnExactRejectTestsSpec : ChangeSpec := { name := "fnExactRejectTests", fn := fun _ => fun
  | [d1, d2] => { results := [.lit (.bool true)], args := [d1, d2] }
  | _ => none }
def fnExactRejectTestsRow : OpenClaim := { program := "ytbddklkfekiaeaa", sum := "d33308bc06f14d5a3bc5c4245f9985fb9dfbd8979d12b908098a9c99bbddefa5", func := "loop.example/fixturehouse/laws.FnExactRejectTests", spec := "fnExactRejectTests", unfollowed := true, recurses := true, apart := false }
def FnExactRejectTestsSaid : Prop := fnExactRejectTestsRow.holds Try.pinned (OpenSpec.ofChange fnExactRejectTestsSpec)

/-- ITS FALSE NEIGHBOUR: 'it returns false'. Refute it at one input. -/
def fnExactRejectTestsWrong : ChangeSpec := { name := "fnExactRejectTests", fn := fun _ => fun
  | [d1, d2] => { results := [.lit (.bool false)], args := [d1, d2] }
  | _ => none }
def FnExactRejectTestsWrongFalsely : Prop := fnExactRejectTestsRow.holds Try.pinned (OpenSpec.ofChange fnExactRejectTestsWrong)

/-- 'laws.FnExactSelectTests': WHATEVER THE INPUT: true; the input reads as it did. -/
def fnExactSelectTestsSpec : ChangeSpec := { name := "fnExactSelectTests", fn := fun _ => fun
  | [d1, d2] => { results := [.lit (.bool true)], args := [d1, d2] }
  | _ => none }
def fnExactSelectTestsRow : OpenClaim := { program := "ytbddklkfekiaeaa", sum := "d33308bc06f14d5a3bc5c4245f9985fb9dfbd8979d12b908098a9c99bbddefa5", func := "loop.example/fixturehouse/laws.FnExactSelectTests", spec := "fnExactSelectTests", unfollowed := true, recurses := true, apart := false }
def FnExactSelectTestsSaid : Prop := fnExactSelectTestsRow.holds Try.pinned (OpenSpec.ofChange fnExactSelectTestsSpec)

/-- ITS FALSE NEIGHBOUR: 'it returns false'. Refute it at one input. -/
def fnExactSelectTestsWrong : ChangeSpec := { name := "fnExactSelectTests", fn := fun _ => fun
  | [d1, d2] => { results := [.lit (.bool false)], args := [d1, d2] }
  | _ => none }
def FnExactSelectTestsWrongFalsely : Prop := fnExactSelectTestsRow.holds Try.pinned (OpenSpec.ofChange fnExactSelectTestsWrong)

/-- 'laws.FnExactSortTests': WHATEVER THE INPUT: true; the input reads as it did. -/
def fnExactSortTestsSpec : ChangeSpec := { name := "fnExactSortTests", fn := fun _ => fun
  | [d] => { results := [.lit (.bool true)], args := [d] }
  | _ => none }
def fnExactSortTestsRow : OpenClaim := { program := "ytbddklkfekiaeaa", sum := "d33308bc06f14d5a3bc5c4245f9985fb9dfbd8979d12b908098a9c99bbddefa5", func := "loop.example/fixturehouse/laws.FnExactSortTests", spec := "fnExactSortTests", inPlace := ["internal/bytealg.abigen_runtime_cmpstring"], unfollowed := true, recurses := true, apart := false }
def FnExactSortTestsSaid : Prop := fnExactSortTestsRow.holds Try.pinned (OpenSpec.ofChange fnExactSortTestsSpec)

/-- ITS FALSE NEIGHBOUR: 'it returns false'. Refute it at one input. -/
def fnExactSortTestsWrong : ChangeSpec := { name := "fnExactSortTests", fn := fun _ => fun
  | [d] => { results := [.lit (.bool false)], args := [d] }
  | _ => none }
def FnExactSortTestsWrongFalsely : Prop := fnExactSortTestsRow.holds Try.pinned (OpenSpec.ofChange fnExactSortTestsWrong)

/-- 'laws.FnSelectTests': WHATEVER THE INPUT: true; the input reads as it did. -/
def fnSelectTestsSpec : ChangeSpec := { name := "fnSelectTests", fn := fun _ => fun
  | [d] => { results := [.lit (.bool true)], args := [d] }
  | _ => none }
def fnSelectTestsRow : OpenClaim := { program := "ytbddklkfekiaeaa", sum := "d33308bc06f14d5a3bc5c4245f9985fb9dfbd8979d12b908098a9c99bbddefa5", func := "loop.example/fixturehouse/laws.FnSelectTests", spec := "fnSelectTests", unfollowed := true, recurses := true, apart := false }
def FnSelectTestsSaid : Prop := fnSelectTestsRow.holds Try.pinned (OpenSpec.ofChange fnSelectTestsSpec)

/-- ITS FALSE NEIGHBOUR: 'it returns false'. Refute it at one input. -/
def fnSelectTestsWrong : ChangeSpec := { name := "fnSelectTests", fn := fun _ => fun
  | [d] => { results := [.lit (.bool false)], args := [d] }
  | _ => none }
def FnSelectTestsWrongFalsely : Prop := fnSelectTestsRow.holds Try.pinned (OpenSpec.ofChange fnSelectTestsWrong)

/-- 'laws.FnSortTests': WHATEVER THE INPUT: true; the input reads as it did. -/
def fnSortTestsSpec : ChangeSpec := { name := "fnSortTests", fn := fun _ => fun
  | [d] => { results := [.lit (.bool true)], args := [d] }
  | _ => none }
def fnSortTestsRow : OpenClaim := { program := "ytbddklkfekiaeaa", sum := "d33308bc06f14d5a3bc5c4245f9985fb9dfbd8979d12b908098a9c99bbddefa5", func := "loop.example/fixturehouse/laws.FnSortTests", spec := "fnSortTests", inPlace := ["internal/bytealg.abigen_runtime_cmpstring"], unfollowed := true, recurses := true, apart := false }
def FnSortTestsSaid : Prop := fnSortTestsRow.holds Try.pinned (OpenSpec.ofChange fnSortTestsSpec)

/-- ITS FALSE NEIGHBOUR: 'it returns false'. Refute it at one input. -/
def fnSortTestsWrong : ChangeSpec := { name := "fnSortTests", fn := fun _ => fun
  | [d] => { results := [.lit (.bool false)], args := [d] }
  | _ => none }
def FnSortTestsWrongFalsely : Prop := fnSortTestsRow.holds Try.pinned (OpenSpec.ofChange fnSortTestsWrong)

/-- 'laws.FnRejectTests': WHATEVER THE INPUT: true; the input reads as it did. -/
def fnRejectTestsSpec : ChangeSpec := { name := "fnRejectTests", fn := fun _ => fun
  | [d] => { results := [.lit (.bool true)], args := [d] }
  | _ => none }
def fnRejectTestsRow : OpenClaim := { program := "ytbddklkfekiaeaa", sum := "d33308bc06f14d5a3bc5c4245f9985fb9dfbd8979d12b908098a9c99bbddefa5", func := "loop.example/fixturehouse/laws.FnRejectTests", spec := "fnRejectTests", unfollowed := true, recurses := true, apart := false }
def FnRejectTestsSaid : Prop := fnRejectTestsRow.holds Try.pinned (OpenSpec.ofChange fnRejectTestsSpec)

/-- ITS FALSE NEIGHBOUR: 'it returns false'. Refute it at one input. -/
def fnRejectTestsWrong : ChangeSpec := { name := "fnRejectTests", fn := fun _ => fun
  | [d] => { results := [.lit (.bool false)], args := [d] }
  | _ => none }
def FnRejectTestsWrongFalsely : Prop := fnRejectTestsRow.holds Try.pinned (OpenSpec.ofChange fnRejectTestsWrong)

/- THE SECOND FORM. 'bulk': how many values and letters a reading holds, each counted each time it is reached (what is shared counts as often as it is met; a slice's spare places count too). A statement '..UptoSaid' is the law's where the arguments, and the package variables that the reading takes, are together of bulk at most 1048576: NARROWER than '..Said'. Prove '..Said' where nothing that the law and all that it calls make is longer than what came in: it says more and counts as full. Else prove '..UptoSaid'. A law counts once. -/
mutual
def uptoBulk {H : Type} : DataW H → Nat
  | .lit (.string bytes) => bytes.length + 1
  | .lit _ => 1
  | .nil => 1
  | .ptr d => uptoBulk d + 1
  | .slice elems spare => uptoBulkAll elems + uptoBulkAll spare + 1
  | .agg parts => uptoBulkAll parts + 1
  | .iface _ d => uptoBulk d + 1
  | .map entries => uptoBulkEntries entries + 1
  | .held _ => 1
def uptoBulkAll {H : Type} : List (DataW H) → Nat
  | [] => 0
  | d :: r => uptoBulk d + uptoBulkAll r
def uptoBulkEntries {H : Type} : List (Lit × DataW H) → Nat
  | [] => 0
  | x :: r => uptoBulkEntry x + uptoBulkEntries r
def uptoBulkEntry {H : Type} : Lit × DataW H → Nat
  | (.string bytes, d) => bytes.length + uptoBulk d + 1
  | (_, d) => uptoBulk d + 1
 end
def uptoSmall : (H : Type) → List (DataW H) → Bool := fun _ ds => decide (uptoBulkAll ds ≤ 1048576)
def OpenSpec.upto (s : _root_.Go.ChangeSpec) : _root_.Go.OpenSpec := { _root_.Go.OpenSpec.ofChange s with cond := some uptoSmall }

/-- 'laws.FnIdsOf', WHERE WHAT IT READS IS OF BULK AT MOST 1048576: true; the input reads as it did. -/
def fnIdsOfUptoRow : OpenClaim := { program := "ytbddklkfekiaeaa", sum := "d33308bc06f14d5a3bc5c4245f9985fb9dfbd8979d12b908098a9c99bbddefa5", func := "loop.example/fixturehouse/laws.FnIdsOf", spec := "fnIdsOf", unfollowed := true, recurses := true, apart := false, narrowed := true }
def FnIdsOfUptoSaid : Prop := fnIdsOfUptoRow.holds Try.pinned (OpenSpec.upto fnIdsOfSpec)

/-- 'laws.FnGroupModules', WHERE WHAT IT READS IS OF BULK AT MOST 1048576: true; the input reads as it did. -/
def fnGroupModulesUptoRow : OpenClaim := { program := "ytbddklkfekiaeaa", sum := "d33308bc06f14d5a3bc5c4245f9985fb9dfbd8979d12b908098a9c99bbddefa5", func := "loop.example/fixturehouse/laws.FnGroupModules", spec := "fnGroupModules", unfollowed := true, recurses := true, apart := false, narrowed := true }
def FnGroupModulesUptoSaid : Prop := fnGroupModulesUptoRow.holds Try.pinned (OpenSpec.upto fnGroupModulesSpec)

/-- 'laws.FnMatches', WHERE WHAT IT READS IS OF BULK AT MOST 1048576: true; the input reads as it did. -/
def fnMatchesUptoRow : OpenClaim := { program := "ytbddklkfekiaeaa", sum := "d33308bc06f14d5a3bc5c4245f9985fb9dfbd8979d12b908098a9c99bbddefa5", func := "loop.example/fixturehouse/laws.FnMatches", spec := "fnMatches", unfollowed := true, recurses := true, apart := false, narrowed := true }
def FnMatchesUptoSaid : Prop := fnMatchesUptoRow.holds Try.pinned (OpenSpec.upto fnMatchesSpec)

/-- 'laws.FnSameExpr', WHERE WHAT IT READS IS OF BULK AT MOST 1048576: true; the input reads as it did. -/
def fnSameExprUptoRow : OpenClaim := { program := "ytbddklkfekiaeaa", sum := "d33308bc06f14d5a3bc5c4245f9985fb9dfbd8979d12b908098a9c99bbddefa5", func := "loop.example/fixturehouse/laws.FnSameExpr", spec := "fnSameExpr", unfollowed := true, recurses := true, apart := false, narrowed := true }
def FnSameExprUptoSaid : Prop := fnSameExprUptoRow.holds Try.pinned (OpenSpec.upto fnSameExprSpec)

/-- 'laws.FnExactRejectTests', WHERE WHAT IT READS IS OF BULK AT MOST 1048576: true; the input reads as it did. -/
def fnExactRejectTestsUptoRow : OpenClaim := { program := "ytbddklkfekiaeaa", sum := "d33308bc06f14d5a3bc5c4245f9985fb9dfbd8979d12b908098a9c99bbddefa5", func := "loop.example/fixturehouse/laws.FnExactRejectTests", spec := "fnExactRejectTests", unfollowed := true, recurses := true, apart := false, narrowed := true }
def FnExactRejectTestsUptoSaid : Prop := fnExactRejectTestsUptoRow.holds Try.pinned (OpenSpec.upto fnExactRejectTestsSpec)

/-- 'laws.FnExactSelectTests', WHERE WHAT IT READS IS OF BULK AT MOST 1048576: true; the input reads as it did. -/
def fnExactSelectTestsUptoRow : OpenClaim := { program := "ytbddklkfekiaeaa", sum := "d33308bc06f14d5a3bc5c4245f9985fb9dfbd8979d12b908098a9c99bbddefa5", func := "loop.example/fixturehouse/laws.FnExactSelectTests", spec := "fnExactSelectTests", unfollowed := true, recurses := true, apart := false, narrowed := true }
def FnExactSelectTestsUptoSaid : Prop := fnExactSelectTestsUptoRow.holds Try.pinned (OpenSpec.upto fnExactSelectTestsSpec)

/-- 'laws.FnExactSortTests', WHERE WHAT IT READS IS OF BULK AT MOST 1048576: true; the input reads as it did. -/
def fnExactSortTestsUptoRow : OpenClaim := { program := "ytbddklkfekiaeaa", sum := "d33308bc06f14d5a3bc5c4245f9985fb9dfbd8979d12b908098a9c99bbddefa5", func := "loop.example/fixturehouse/laws.FnExactSortTests", spec := "fnExactSortTests", inPlace := ["internal/bytealg.abigen_runtime_cmpstring"], unfollowed := true, recurses := true, apart := false, narrowed := true }
def FnExactSortTestsUptoSaid : Prop := fnExactSortTestsUptoRow.holds Try.pinned (OpenSpec.upto fnExactSortTestsSpec)

/-- 'laws.FnSelectTests', WHERE WHAT IT READS IS OF BULK AT MOST 1048576: true; the input reads as it did. -/
def fnSelectTestsUptoRow : OpenClaim := { program := "ytbddklkfekiaeaa", sum := "d33308bc06f14d5a3bc5c4245f9985fb9dfbd8979d12b908098a9c99bbddefa5", func := "loop.example/fixturehouse/laws.FnSelectTests", spec := "fnSelectTests", unfollowed := true, recurses := true, apart := false, narrowed := true }
def FnSelectTestsUptoSaid : Prop := fnSelectTestsUptoRow.holds Try.pinned (OpenSpec.upto fnSelectTestsSpec)

/-- 'laws.FnSortTests', WHERE WHAT IT READS IS OF BULK AT MOST 1048576: true; the input reads as it did. -/
def fnSortTestsUptoRow : OpenClaim := { program := "ytbddklkfekiaeaa", sum := "d33308bc06f14d5a3bc5c4245f9985fb9dfbd8979d12b908098a9c99bbddefa5", func := "loop.example/fixturehouse/laws.FnSortTests", spec := "fnSortTests", inPlace := ["internal/bytealg.abigen_runtime_cmpstring"], unfollowed := true, recurses := true, apart := false, narrowed := true }
def FnSortTestsUptoSaid : Prop := fnSortTestsUptoRow.holds Try.pinned (OpenSpec.upto fnSortTestsSpec)

/-- 'laws.FnRejectTests', WHERE WHAT IT READS IS OF BULK AT MOST 1048576: true; the input reads as it did. -/
def fnRejectTestsUptoRow : OpenClaim := { program := "ytbddklkfekiaeaa", sum := "d33308bc06f14d5a3bc5c4245f9985fb9dfbd8979d12b908098a9c99bbddefa5", func := "loop.example/fixturehouse/laws.FnRejectTests", spec := "fnRejectTests", unfollowed := true, recurses := true, apart := false, narrowed := true }
def FnRejectTestsUptoSaid : Prop := fnRejectTestsUptoRow.holds Try.pinned (OpenSpec.upto fnRejectTestsSpec)

end Rows
end Go.Proofs.Ytbddklkfekiaeaa
