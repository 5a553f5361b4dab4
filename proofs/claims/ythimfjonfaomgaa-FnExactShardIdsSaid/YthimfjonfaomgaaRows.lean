/-
  No cell of these rows narrows 'for every input' (looked for: loops, veiled, ifaces, maps, wideKeys, modest, calm, conditions, laid).
  DERIVED. THE GIVEN ROWS OF THIS SEAT. 5 by the template 'for every input the law returns true; each argument reads behind the call as it read before'; 0 by the template 'total and deterministic' (their statements: YthimfjonfaomgaaTotals.lean).
  GIVEN WITH THE SEED: the statements are not yours to turn. If you find one false, say at which input.
  Laid BY PROGRAM, IN A SANDBOX (cutbox-rows.mjs): the forced cells as the released guide's own fill.sh prints them over the translation 58fed3254b1f9753… (all of the seat's roots in one cut). By AI agents, Wed Nov 11 2026. No macro, syntax, notation, axiom, sorry.
-/
import Derived.Test.YthimfjonfaomgaaChecked
import GoSem.Claim
import GoSem.ClaimJoined
import GoSem.ClaimMapViews
import Derived.JoinedTies
import Derived.KernelRfl
namespace Go.Proofs.Ythimfjonfaomgaa
/- THE CELL 'sum', in the pinned program and in every row, IS THE sha256 OF THE DUMP (.gsa) THAT YthimfjonfaomgaaProg.lean LOADS. Nothing in Lean hashes anything: it is a label: what it is worth is what the hold of that sum in a sandbox is worth. -/
noncomputable def Try.pinned : Pinned := { name := "ythimfjonfaomgaa", sum := "58fed3254b1f97533a2fe35d5f782989dd75c92c605419dea970e661aad5cf7a", checked := Try.checked }
namespace Rows
def none {H : Type} : Left H := { results := [], args := [] }

/-- 'laws.FnExactLearnPast': WHATEVER THE INPUT: true; the input reads as it did. -/
def fnExactLearnPastSpec : ChangeSpec := { name := "fnExactLearnPast", fn := fun _ => fun
  | [d1, d2] => { results := [.lit (.bool true)], args := [d1, d2] }
  | _ => none }
def fnExactLearnPastRow : OpenClaim := { program := "ythimfjonfaomgaa", sum := "58fed3254b1f97533a2fe35d5f782989dd75c92c605419dea970e661aad5cf7a", func := "loop.example/fixturehouse/laws.FnExactLearnPast", spec := "fnExactLearnPast", inPlace := ["internal/bytealg.IndexByteString", "internal/bytealg.IndexString"], unfollowed := true, recurses := true, named := ["internal/bytealg.MaxLen"], apart := false }
def FnExactLearnPastSaid : Prop := fnExactLearnPastRow.holds Try.pinned (OpenSpec.ofChange fnExactLearnPastSpec)

/-- ITS FALSE NEIGHBOUR: 'it returns false'. Refute it at one input. -/
def fnExactLearnPastWrong : ChangeSpec := { name := "fnExactLearnPast", fn := fun _ => fun
  | [d1, d2] => { results := [.lit (.bool false)], args := [d1, d2] }
  | _ => none }
def FnExactLearnPastWrongFalsely : Prop := fnExactLearnPastRow.holds Try.pinned (OpenSpec.ofChange fnExactLearnPastWrong)

/-- 'laws.FnSlowFirst': WHATEVER THE INPUT: true; the input reads as it did. -/
def fnSlowFirstSpec : ChangeSpec := { name := "fnSlowFirst", fn := fun _ => fun
  | [d] => { results := [.lit (.bool true)], args := [d] }
  | _ => none }
def fnSlowFirstRow : OpenClaim := { program := "ythimfjonfaomgaa", sum := "58fed3254b1f97533a2fe35d5f782989dd75c92c605419dea970e661aad5cf7a", func := "loop.example/fixturehouse/laws.FnSlowFirst", spec := "fnSlowFirst", inPlace := ["internal/bytealg.IndexByteString", "internal/bytealg.IndexString"], unfollowed := true, recurses := true, named := ["internal/bytealg.MaxLen"], apart := false }
def FnSlowFirstSaid : Prop := fnSlowFirstRow.holds Try.pinned (OpenSpec.ofChange fnSlowFirstSpec)

/-- ITS FALSE NEIGHBOUR: 'it returns false'. Refute it at one input. -/
def fnSlowFirstWrong : ChangeSpec := { name := "fnSlowFirst", fn := fun _ => fun
  | [d] => { results := [.lit (.bool false)], args := [d] }
  | _ => none }
def FnSlowFirstWrongFalsely : Prop := fnSlowFirstRow.holds Try.pinned (OpenSpec.ofChange fnSlowFirstWrong)

/-- 'laws.FnExactSlowFirst': WHATEVER THE INPUT: true; the input reads as it did. -/
def fnExactSlowFirstSpec : ChangeSpec := { name := "fnExactSlowFirst", fn := fun _ => fun
  | [d1, d2] => { results := [.lit (.bool true)], args := [d1, d2] }
  | _ => none }
def fnExactSlowFirstRow : OpenClaim := { program := "ythimfjonfaomgaa", sum := "58fed3254b1f97533a2fe35d5f782989dd75c92c605419dea970e661aad5cf7a", func := "loop.example/fixturehouse/laws.FnExactSlowFirst", spec := "fnExactSlowFirst", inPlace := ["internal/bytealg.IndexByteString", "internal/bytealg.IndexString"], unfollowed := true, recurses := true, named := ["internal/bytealg.MaxLen"], apart := false }
def FnExactSlowFirstSaid : Prop := fnExactSlowFirstRow.holds Try.pinned (OpenSpec.ofChange fnExactSlowFirstSpec)

/-- ITS FALSE NEIGHBOUR: 'it returns false'. Refute it at one input. -/
def fnExactSlowFirstWrong : ChangeSpec := { name := "fnExactSlowFirst", fn := fun _ => fun
  | [d1, d2] => { results := [.lit (.bool false)], args := [d1, d2] }
  | _ => none }
def FnExactSlowFirstWrongFalsely : Prop := fnExactSlowFirstRow.holds Try.pinned (OpenSpec.ofChange fnExactSlowFirstWrong)

/-- 'laws.FnShardIds': WHATEVER THE INPUT: true; the input reads as it did. -/
def fnShardIdsSpec : ChangeSpec := { name := "fnShardIds", fn := fun _ => fun
  | [d] => { results := [.lit (.bool true)], args := [d] }
  | _ => none }
def fnShardIdsRow : OpenClaim := { program := "ythimfjonfaomgaa", sum := "58fed3254b1f97533a2fe35d5f782989dd75c92c605419dea970e661aad5cf7a", func := "loop.example/fixturehouse/laws.FnShardIds", spec := "fnShardIds", inPlace := ["internal/bytealg.IndexByteString", "internal/bytealg.IndexString"], unfollowed := true, recurses := true, named := ["internal/bytealg.MaxLen"], apart := false }
def FnShardIdsSaid : Prop := fnShardIdsRow.holds Try.pinned (OpenSpec.ofChange fnShardIdsSpec)

/-- ITS FALSE NEIGHBOUR: 'it returns false'. Refute it at one input. -/
def fnShardIdsWrong : ChangeSpec := { name := "fnShardIds", fn := fun _ => fun
  | [d] => { results := [.lit (.bool false)], args := [d] }
  | _ => none }
def FnShardIdsWrongFalsely : Prop := fnShardIdsRow.holds Try.pinned (OpenSpec.ofChange fnShardIdsWrong)

/-- 'laws.FnExactShardIds': WHATEVER THE INPUT: true; the input reads as it did. -/
def fnExactShardIdsSpec : ChangeSpec := { name := "fnExactShardIds", fn := fun _ => fun
  | [d1, d2, d3] => { results := [.lit (.bool true)], args := [d1, d2, d3] }
  | _ => none }
def fnExactShardIdsRow : OpenClaim := { program := "ythimfjonfaomgaa", sum := "58fed3254b1f97533a2fe35d5f782989dd75c92c605419dea970e661aad5cf7a", func := "loop.example/fixturehouse/laws.FnExactShardIds", spec := "fnExactShardIds", inPlace := ["internal/bytealg.IndexByteString", "internal/bytealg.IndexString"], unfollowed := true, recurses := true, named := ["internal/bytealg.MaxLen"], apart := false }
def FnExactShardIdsSaid : Prop := fnExactShardIdsRow.holds Try.pinned (OpenSpec.ofChange fnExactShardIdsSpec)

/-- ITS FALSE NEIGHBOUR: 'it returns false'. Refute it at one input. -/
def fnExactShardIdsWrong : ChangeSpec := { name := "fnExactShardIds", fn := fun _ => fun
  | [d1, d2, d3] => { results := [.lit (.bool false)], args := [d1, d2, d3] }
  | _ => none }
def FnExactShardIdsWrongFalsely : Prop := fnExactShardIdsRow.holds Try.pinned (OpenSpec.ofChange fnExactShardIdsWrong)

/- THE SECOND FORM. 'bulk': how many values and letters a reading holds, each counted each time it is reached (what is shared counts as often as it is met; a slice's spare places count too). A statement '..UptoSaid' is the law's where the arguments, and the package variables that the reading takes, are together of bulk at most 1048576: NARROWER than '..Said'. Prove '..Said' where nothing that the law and all that it calls make is longer than what came in: it says more and counts as full. Else prove '..UptoSaid'. A law counts once. -/
mutual
def uptoBulk {H : Type} : DataW H → Nat
  | .lit (.string bytes) => bytes.length + 1
  | .lit _ => 1
  | .nil => 1
  | .ptr d => uptoBulk d + 1
  | .slice elems spare => uptoBulkAll elems + uptoBulkAll spare + 1
  | .agg parts => uptoBulkAll parts + 1
  | .iface _ d => uptoBulk d + 1
  | .map entries => uptoBulkEntries entries + 1
  | .held _ => 1
def uptoBulkAll {H : Type} : List (DataW H) → Nat
  | [] => 0
  | d :: r => uptoBulk d + uptoBulkAll r
def uptoBulkEntries {H : Type} : List (Lit × DataW H) → Nat
  | [] => 0
  | x :: r => uptoBulkEntry x + uptoBulkEntries r
def uptoBulkEntry {H : Type} : Lit × DataW H → Nat
  | (.string bytes, d) => bytes.length + uptoBulk d + 1
  | (_, d) => uptoBulk d + 1
 end
def uptoSmall : (H : Type) → List (DataW H) → Bool := fun _ ds => decide (uptoBulkAll ds ≤ 1048576)
def OpenSpec.upto (s : _root_.Go.ChangeSpec) : _root_.Go.OpenSpec := { _root_.Go.OpenSpec.ofChange s with cond := some uptoSmall }

/-- 'laws.FnExactLearnPast', WHERE WHAT IT READS IS OF BULK AT MOST 1048576: true; the input reads as it did. -/
def fnExactLearnPastUptoRow : OpenClaim := { program := "ythimfjonfaomgaa", sum := "58fed3254b1f97533a2fe35d5f782989dd75c92c605419dea970e661aad5cf7a", func := "loop.example/fixturehouse/laws.FnExactLearnPast", spec := "fnExactLearnPast", inPlace := ["internal/bytealg.IndexByteString", "internal/bytealg.IndexString"], unfollowed := true, recurses := true, named := ["internal/bytealg.MaxLen"], apart := false, narrowed := true }
def FnExactLearnPastUptoSaid : Prop := fnExactLearnPastUptoRow.holds Try.pinned (OpenSpec.upto fnExactLearnPastSpec)

/-- 'laws.FnSlowFirst', WHERE WHAT IT READS IS OF BULK AT MOST 1048576: true; the input reads as it did. -/
def fnSlowFirstUptoRow : OpenClaim := { program := "ythimfjonfaomgaa", sum := "58fed3254b1f97533a2fe35d5f782989dd75c92c605419dea970e661aad5cf7a", func := "loop.example/fixturehouse/laws.FnSlowFirst", spec := "fnSlowFirst", inPlace := ["internal/bytealg.IndexByteString", "internal/bytealg.IndexString"], unfollowed := true, recurses := true, named := ["internal/bytealg.MaxLen"], apart := false, narrowed := true }
def FnSlowFirstUptoSaid : Prop := fnSlowFirstUptoRow.holds Try.pinned (OpenSpec.upto fnSlowFirstSpec)

/-- 'laws.FnExactSlowFirst', WHERE WHAT IT READS IS OF BULK AT MOST 1048576: true; the input reads as it did. -/
def fnExactSlowFirstUptoRow : OpenClaim := { program := "ythimfjonfaomgaa", sum := "58fed3254b1f97533a2fe35d5f782989dd75c92c605419dea970e661aad5cf7a", func := "loop.example/fixturehouse/laws.FnExactSlowFirst", spec := "fnExactSlowFirst", inPlace := ["internal/bytealg.IndexByteString", "internal/bytealg.IndexString"], unfollowed := true, recurses := true, named := ["internal/bytealg.MaxLen"], apart := false, narrowed := true }
def FnExactSlowFirstUptoSaid : Prop := fnExactSlowFirstUptoRow.holds Try.pinned (OpenSpec.upto fnExactSlowFirstSpec)

/-- 'laws.FnShardIds', WHERE WHAT IT READS IS OF BULK AT MOST 1048576: true; the input reads as it did. -/
def fnShardIdsUptoRow : OpenClaim := { program := "ythimfjonfaomgaa", sum := "58fed3254b1f97533a2fe35d5f782989dd75c92c605419dea970e661aad5cf7a", func := "loop.example/fixturehouse/laws.FnShardIds", spec := "fnShardIds", inPlace := ["internal/bytealg.IndexByteString", "internal/bytealg.IndexString"], unfollowed := true, recurses := true, named := ["internal/bytealg.MaxLen"], apart := false, narrowed := true }
def FnShardIdsUptoSaid : Prop := fnShardIdsUptoRow.holds Try.pinned (OpenSpec.upto fnShardIdsSpec)

/-- 'laws.FnExactShardIds', WHERE WHAT IT READS IS OF BULK AT MOST 1048576: true; the input reads as it did. -/
def fnExactShardIdsUptoRow : OpenClaim := { program := "ythimfjonfaomgaa", sum := "58fed3254b1f97533a2fe35d5f782989dd75c92c605419dea970e661aad5cf7a", func := "loop.example/fixturehouse/laws.FnExactShardIds", spec := "fnExactShardIds", inPlace := ["internal/bytealg.IndexByteString", "internal/bytealg.IndexString"], unfollowed := true, recurses := true, named := ["internal/bytealg.MaxLen"], apart := false, narrowed := true }
def FnExactShardIdsUptoSaid : Prop := fnExactShardIdsUptoRow.holds Try.pinned (OpenSpec.upto fnExactShardIdsSpec)

end Rows
end Go.Proofs.Ythimfjonfaomgaa
