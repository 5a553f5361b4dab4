/-
  No cell of these rows narrows 'for every input' (looked for: loops, veiled, ifaces, maps, wideKeys, modest, calm, conditions, laid).
  DERIVED. THE GIVEN ROWS OF THIS SEAT. 7 by the template 'for every input the law returns true; each argument reads behind the call as it read before'; 0 by the template 'total and deterministic' (their statements: YtbbhhdcimmofoaaTotals.lean).
  GIVEN WITH THE SEED: the statements are not yours to turn. If you find one false, say at which input.
  Laid BY PROGRAM, IN A SANDBOX (cutbox-rows.mjs): the forced cells as the released guide's own fill.sh prints them over the translation 25513850c72c710a… (all of the seat's roots in one cut). By AI agents, Wed Nov 11 2026. No macro, syntax, notation, axiom, sorry.
-/
import Derived.Test.YtbbhhdcimmofoaaChecked
import GoSem.Claim
import GoSem.ClaimJoined
import GoSem.ClaimMapViews
import Derived.JoinedTies
import Derived.KernelRfl
namespace Go.Proofs.Ytbbhhdcimmofoaa
/- THE CELL 'sum', in the pinned program and in every row, IS THE sha256 OF THE DUMP (.gsa) THAT YtbbhhdcimmofoaaProg.lean LOADS. Nothing in Lean hashes anything: it is a label: what it is worth is what the hold of that sum in a sandbox is worth. -/
noncomputable def Try.pinned : Pinned := { name := "ytbbhhdcimmofoaa", sum := "25513850c72c710a03e2ebf675044d5dc56ab8834a5d34b98425b8e76edff5e2", checked := Try.checked }
namespace Rows
def none {H : Type} : Left H := { results := [], args := [] }

/-- 'laws.FnFailsWith': WHATEVER THE INPUT: true; the input reads as it did. -/
def fnFailsWithSpec : ChangeSpec := { name := "fnFailsWith", fn := fun _ => fun
  | [d] => { results := [.lit (.bool true)], args := [d] }
  | _ => none }
def fnFailsWithRow : OpenClaim := { program := "ytbbhhdcimmofoaa", sum := "25513850c72c710a03e2ebf675044d5dc56ab8834a5d34b98425b8e76edff5e2", func := "loop.example/fixturehouse/laws.FnFailsWith", spec := "fnFailsWith", inPlace := ["internal/bytealg.IndexByteString", "internal/bytealg.IndexString"], unfollowed := true, recurses := true, named := ["internal/bytealg.MaxLen"], apart := false }
def FnFailsWithSaid : Prop := fnFailsWithRow.holds Try.pinned (OpenSpec.ofChange fnFailsWithSpec)

/-- ITS FALSE NEIGHBOUR: 'it returns false'. Refute it at one input. -/
def fnFailsWithWrong : ChangeSpec := { name := "fnFailsWith", fn := fun _ => fun
  | [d] => { results := [.lit (.bool false)], args := [d] }
  | _ => none }
def FnFailsWithWrongFalsely : Prop := fnFailsWithRow.holds Try.pinned (OpenSpec.ofChange fnFailsWithWrong)

/-- 'laws.FnIsLeast': WHATEVER THE INPUT: true; the input reads as it did. -/
def fnIsLeastSpec : ChangeSpec := { name := "fnIsLeast", fn := fun _ => fun
  | [d] => { results := [.lit (.bool true)], args := [d] }
  | _ => none }
def fnIsLeastRow : OpenClaim := { program := "ytbbhhdcimmofoaa", sum := "25513850c72c710a03e2ebf675044d5dc56ab8834a5d34b98425b8e76edff5e2", func := "loop.example/fixturehouse/laws.FnIsLeast", spec := "fnIsLeast", inPlace := ["internal/bytealg.IndexByteString", "internal/bytealg.IndexString"], unfollowed := true, recurses := true, named := ["internal/bytealg.MaxLen"], apart := false }
def FnIsLeastSaid : Prop := fnIsLeastRow.holds Try.pinned (OpenSpec.ofChange fnIsLeastSpec)

/-- ITS FALSE NEIGHBOUR: 'it returns false'. Refute it at one input. -/
def fnIsLeastWrong : ChangeSpec := { name := "fnIsLeast", fn := fun _ => fun
  | [d] => { results := [.lit (.bool false)], args := [d] }
  | _ => none }
def FnIsLeastWrongFalsely : Prop := fnIsLeastRow.holds Try.pinned (OpenSpec.ofChange fnIsLeastWrong)

/-- 'laws.FnHalveIds': WHATEVER THE INPUT: true; the input reads as it did. -/
def fnHalveIdsSpec : ChangeSpec := { name := "fnHalveIds", fn := fun _ => fun
  | [d] => { results := [.lit (.bool true)], args := [d] }
  | _ => none }
def fnHalveIdsRow : OpenClaim := { program := "ytbbhhdcimmofoaa", sum := "25513850c72c710a03e2ebf675044d5dc56ab8834a5d34b98425b8e76edff5e2", func := "loop.example/fixturehouse/laws.FnHalveIds", spec := "fnHalveIds", inPlace := ["internal/bytealg.IndexByteString", "internal/bytealg.IndexString"], unfollowed := true, recurses := true, named := ["internal/bytealg.MaxLen"], apart := false }
def FnHalveIdsSaid : Prop := fnHalveIdsRow.holds Try.pinned (OpenSpec.ofChange fnHalveIdsSpec)

/-- ITS FALSE NEIGHBOUR: 'it returns false'. Refute it at one input. -/
def fnHalveIdsWrong : ChangeSpec := { name := "fnHalveIds", fn := fun _ => fun
  | [d] => { results := [.lit (.bool false)], args := [d] }
  | _ => none }
def FnHalveIdsWrongFalsely : Prop := fnHalveIdsRow.holds Try.pinned (OpenSpec.ofChange fnHalveIdsWrong)

/-- 'laws.FnShrinkIds': WHATEVER THE INPUT: true; the input reads as it did. -/
def fnShrinkIdsSpec : ChangeSpec := { name := "fnShrinkIds", fn := fun _ => fun
  | [d] => { results := [.lit (.bool true)], args := [d] }
  | _ => none }
def fnShrinkIdsRow : OpenClaim := { program := "ytbbhhdcimmofoaa", sum := "25513850c72c710a03e2ebf675044d5dc56ab8834a5d34b98425b8e76edff5e2", func := "loop.example/fixturehouse/laws.FnShrinkIds", spec := "fnShrinkIds", inPlace := ["internal/bytealg.IndexByteString", "internal/bytealg.IndexString"], unfollowed := true, recurses := true, named := ["internal/bytealg.MaxLen"], apart := false }
def FnShrinkIdsSaid : Prop := fnShrinkIdsRow.holds Try.pinned (OpenSpec.ofChange fnShrinkIdsSpec)

/-- ITS FALSE NEIGHBOUR: 'it returns false'. Refute it at one input. -/
def fnShrinkIdsWrong : ChangeSpec := { name := "fnShrinkIds", fn := fun _ => fun
  | [d] => { results := [.lit (.bool false)], args := [d] }
  | _ => none }
def FnShrinkIdsWrongFalsely : Prop := fnShrinkIdsRow.holds Try.pinned (OpenSpec.ofChange fnShrinkIdsWrong)

/-- 'laws.FnLeastCauses': WHATEVER THE INPUT: true; the input reads as it did. -/
def fnLeastCausesSpec : ChangeSpec := { name := "fnLeastCauses", fn := fun _ => fun
  | [d] => { results := [.lit (.bool true)], args := [d] }
  | _ => none }
def fnLeastCausesRow : OpenClaim := { program := "ytbbhhdcimmofoaa", sum := "25513850c72c710a03e2ebf675044d5dc56ab8834a5d34b98425b8e76edff5e2", func := "loop.example/fixturehouse/laws.FnLeastCauses", spec := "fnLeastCauses", inPlace := ["internal/bytealg.IndexByteString", "internal/bytealg.IndexString"], unfollowed := true, recurses := true, named := ["internal/bytealg.MaxLen"], apart := false }
def FnLeastCausesSaid : Prop := fnLeastCausesRow.holds Try.pinned (OpenSpec.ofChange fnLeastCausesSpec)

/-- ITS FALSE NEIGHBOUR: 'it returns false'. Refute it at one input. -/
def fnLeastCausesWrong : ChangeSpec := { name := "fnLeastCauses", fn := fun _ => fun
  | [d] => { results := [.lit (.bool false)], args := [d] }
  | _ => none }
def FnLeastCausesWrongFalsely : Prop := fnLeastCausesRow.holds Try.pinned (OpenSpec.ofChange fnLeastCausesWrong)

/-- 'laws.FnSlowFirst': WHATEVER THE INPUT: true; the input reads as it did. -/
def fnSlowFirstSpec : ChangeSpec := { name := "fnSlowFirst", fn := fun _ => fun
  | [d] => { results := [.lit (.bool true)], args := [d] }
  | _ => none }
def fnSlowFirstRow : OpenClaim := { program := "ytbbhhdcimmofoaa", sum := "25513850c72c710a03e2ebf675044d5dc56ab8834a5d34b98425b8e76edff5e2", func := "loop.example/fixturehouse/laws.FnSlowFirst", spec := "fnSlowFirst", inPlace := ["internal/bytealg.IndexByteString", "internal/bytealg.IndexString"], unfollowed := true, recurses := true, named := ["internal/bytealg.MaxLen"], apart := false }
def FnSlowFirstSaid : Prop := fnSlowFirstRow.holds Try.pinned (OpenSpec.ofChange fnSlowFirstSpec)

/-- ITS FALSE NEIGHBOUR: 'it returns false'. Refute it at one input. -/
def fnSlowFirstWrong : ChangeSpec := { name := "fnSlowFirst", fn := fun _ => fun
  | [d] => { results := [.lit (.bool false)], args := [d] }
  | _ => none }
def FnSlowFirstWrongFalsely : Prop := fnSlowFirstRow.holds Try.pinned (OpenSpec.ofChange fnSlowFirstWrong)

/-- 'laws.FnShardIds': WHATEVER THE INPUT: true; the input reads as it did. -/
def fnShardIdsSpec : ChangeSpec := { name := "fnShardIds", fn := fun _ => fun
  | [d] => { results := [.lit (.bool true)], args := [d] }
  | _ => none }
def fnShardIdsRow : OpenClaim := { program := "ytbbhhdcimmofoaa", sum := "25513850c72c710a03e2ebf675044d5dc56ab8834a5d34b98425b8e76edff5e2", func := "loop.example/fixturehouse/laws.FnShardIds", spec := "fnShardIds", inPlace := ["internal/bytealg.IndexByteString", "internal/bytealg.IndexString"], unfollowed := true, recurses := true, named := ["internal/bytealg.MaxLen"], apart := false }
def FnShardIdsSaid : Prop := fnShardIdsRow.holds Try.pinned (OpenSpec.ofChange fnShardIdsSpec)

/-- ITS FALSE NEIGHBOUR: 'it returns false'. Refute it at one input. -/
def fnShardIdsWrong : ChangeSpec := { name := "fnShardIds", fn := fun _ => fun
  | [d] => { results := [.lit (.bool false)], args := [d] }
  | _ => none }
def FnShardIdsWrongFalsely : Prop := fnShardIdsRow.holds Try.pinned (OpenSpec.ofChange fnShardIdsWrong)

/- THE SECOND FORM. 'bulk': how many values and letters a reading holds, each counted each time it is reached (what is shared counts as often as it is met; a slice's spare places count too). A statement '..UptoSaid' is the law's where the arguments, and the package variables that the reading takes, are together of bulk at most 1048576: NARROWER than '..Said'. Prove '..Said' where nothing that the law and all that it calls make is longer than what came in: it says more and counts as full. Else prove '..UptoSaid'. A law counts once. -/
mutual
def uptoBulk {H : Type} : DataW H → Nat
  | .lit (.string bytes) => bytes.length + 1
  | .lit _ => 1
  | .nil => 1
  | .ptr d => uptoBulk d + 1
  | .slice elems spare => uptoBulkAll elems + uptoBulkAll spare + 1
  | .agg parts => uptoBulkAll parts + 1
  | .iface _ d => uptoBulk d + 1
  | .map entries => uptoBulkEntries entries + 1
  | .held _ => 1
def uptoBulkAll {H : Type} : List (DataW H) → Nat
  | [] => 0
  | d :: r => uptoBulk d + uptoBulkAll r
def uptoBulkEntries {H : Type} : List (Lit × DataW H) → Nat
  | [] => 0
  | x :: r => uptoBulkEntry x + uptoBulkEntries r
def uptoBulkEntry {H : Type} : Lit × DataW H → Nat
  | (.string bytes, d) => bytes.length + uptoBulk d + 1
  | (_, d) => uptoBulk d + 1
 end
def uptoSmall : (H : Type) → List (DataW H) → Bool := fun _ ds => decide (uptoBulkAll ds ≤ 1048576)
def OpenSpec.upto (s : _root_.Go.ChangeSpec) : _root_.Go.OpenSpec := { _root_.Go.OpenSpec.ofChange s with cond := some uptoSmall }

/-- 'laws.FnFailsWith', WHERE WHAT IT READS IS OF BULK AT MOST 1048576: true; the input reads as it did. -/
def fnFailsWithUptoRow : OpenClaim := { program := "ytbbhhdcimmofoaa", sum := "25513850c72c710a03e2ebf675044d5dc56ab8834a5d34b98425b8e76edff5e2", func := "loop.example/fixturehouse/laws.FnFailsWith", spec := "fnFailsWith", inPlace := ["internal/bytealg.IndexByteString", "internal/bytealg.IndexString"], unfollowed := true, recurses := true, named := ["internal/bytealg.MaxLen"], apart := false, narrowed := true }
def FnFailsWithUptoSaid : Prop := fnFailsWithUptoRow.holds Try.pinned (OpenSpec.upto fnFailsWithSpec)

/-- 'laws.FnIsLeast', WHERE WHAT IT READS IS OF BULK AT MOST 1048576: true; the input reads as it did. -/
def fnIsLeastUptoRow : OpenClaim := { program := "ytbbhhdcimmofoaa", sum := "25513850c72c710a03e2ebf675044d5dc56ab8834a5d34b98425b8e76edff5e2", func := "loop.example/fixturehouse/laws.FnIsLeast", spec := "fnIsLeast", inPlace := ["internal/bytealg.IndexByteString", "internal/bytealg.IndexString"], unfollowed := true, recurses := true, named := ["internal/bytealg.MaxLen"], apart := false, narrowed := true }
def FnIsLeastUptoSaid : Prop := fnIsLeastUptoRow.holds Try.pinned (OpenSpec.upto fnIsLeastSpec)

/-- 'laws.FnHalveIds', WHERE WHAT IT READS IS OF BULK AT MOST 1048576: true; the input reads as it did. -/
def fnHalveIdsUptoRow : OpenClaim := { program := "ytbbhhdcimmofoaa", sum := "25513850c72c710a03e2ebf675044d5dc56ab8834a5d34b98425b8e76edff5e2", func := "loop.example/fixturehouse/laws.FnHalveIds", spec := "fnHalveIds", inPlace := ["internal/bytealg.IndexByteString", "internal/bytealg.IndexString"], unfollowed := true, recurses := true, named := ["internal/bytealg.MaxLen"], apart := false, narrowed := true }
def FnHalveIdsUptoSaid : Prop := fnHalveIdsUptoRow.holds Try.pinned (OpenSpec.upto fnHalveIdsSpec)

/-- 'laws.FnShrinkIds', WHERE WHAT IT READS IS OF BULK AT MOST 1048576: true; the input reads as it did. -/
def fnShrinkIdsUptoRow : OpenClaim := { program := "ytbbhhdcimmofoaa", sum := "25513850c72c710a03e2ebf675044d5dc56ab8834a5d34b98425b8e76edff5e2", func := "loop.example/fixturehouse/laws.FnShrinkIds", spec := "fnShrinkIds", inPlace := ["internal/bytealg.IndexByteString", "internal/bytealg.IndexString"], unfollowed := true, recurses := true, named := ["internal/bytealg.MaxLen"], apart := false, narrowed := true }
def FnShrinkIdsUptoSaid : Prop := fnShrinkIdsUptoRow.holds Try.pinned (OpenSpec.upto fnShrinkIdsSpec)

/-- 'laws.FnLeastCauses', WHERE WHAT IT READS IS OF BULK AT MOST 1048576: true; the input reads as it did. -/
def fnLeastCausesUptoRow : OpenClaim := { program := "ytbbhhdcimmofoaa", sum := "25513850c72c710a03e2ebf675044d5dc56ab8834a5d34b98425b8e76edff5e2", func := "loop.example/fixturehouse/laws.FnLeastCauses", spec := "fnLeastCauses", inPlace := ["internal/bytealg.IndexByteString", "internal/bytealg.IndexString"], unfollowed := true, recurses := true, named := ["internal/bytealg.MaxLen"], apart := false, narrowed := true }
def FnLeastCausesUptoSaid : Prop := fnLeastCausesUptoRow.holds Try.pinned (OpenSpec.upto fnLeastCausesSpec)

/-- 'laws.FnSlowFirst', WHERE WHAT IT READS IS OF BULK AT MOST 1048576: true; the input reads as it did. -/
def fnSlowFirstUptoRow : OpenClaim := { program := "ytbbhhdcimmofoaa", sum := "25513850c72c710a03e2ebf675044d5dc56ab8834a5d34b98425b8e76edff5e2", func := "loop.example/fixturehouse/laws.FnSlowFirst", spec := "fnSlowFirst", inPlace := ["internal/bytealg.IndexByteString", "internal/bytealg.IndexString"], unfollowed := true, recurses := true, named := ["internal/bytealg.MaxLen"], apart := false, narrowed := true }
def FnSlowFirstUptoSaid : Prop := fnSlowFirstUptoRow.holds Try.pinned (OpenSpec.upto fnSlowFirstSpec)

/-- 'laws.FnShardIds', WHERE WHAT IT READS IS OF BULK AT MOST 1048576: true; the input reads as it did. -/
def fnShardIdsUptoRow : OpenClaim := { program := "ytbbhhdcimmofoaa", sum := "25513850c72c710a03e2ebf675044d5dc56ab8834a5d34b98425b8e76edff5e2", func := "loop.example/fixturehouse/laws.FnShardIds", spec := "fnShardIds", inPlace := ["internal/bytealg.IndexByteString", "internal/bytealg.IndexString"], unfollowed := true, recurses := true, named := ["internal/bytealg.MaxLen"], apart := false, narrowed := true }
def FnShardIdsUptoSaid : Prop := fnShardIdsUptoRow.holds Try.pinned (OpenSpec.upto fnShardIdsSpec)

end Rows
end Go.Proofs.Ytbbhhdcimmofoaa
