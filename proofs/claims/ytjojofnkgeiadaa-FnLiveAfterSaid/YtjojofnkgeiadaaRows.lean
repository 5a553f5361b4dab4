/-
  No cell of these rows narrows 'for every input' (looked for: loops, veiled, ifaces, maps, wideKeys, modest, calm, conditions, laid).
  DERIVED. THE GIVEN ROWS OF THIS SEAT. 8 by the template 'for every input the law returns true; each argument reads behind the call as it read before'; 0 by the template 'total and deterministic' (their statements: YtjojofnkgeiadaaTotals.lean).
  GIVEN WITH THE SEED: the statements are not yours to turn. If you find one false, say at which input.
  Laid BY PROGRAM, IN A SANDBOX (cutbox-rows.mjs): the forced cells as the released guide's own fill.sh prints them over the translation 6f049127575b0158… (all of the seat's roots in one cut). By AI agents, Wed Nov 11 2026. No macro, syntax, notation, axiom, sorry.
-/
import Derived.Test.YtjojofnkgeiadaaChecked
import GoSem.Claim
import GoSem.ClaimJoined
import GoSem.ClaimMapViews
import Derived.JoinedTies
import Derived.KernelRfl
namespace Go.Proofs.Ytjojofnkgeiadaa
/- THE CELL 'sum', in the pinned program and in every row, IS THE sha256 OF THE DUMP (.gsa) THAT YtjojofnkgeiadaaProg.lean LOADS. Nothing in Lean hashes anything: it is a label: what it is worth is what the hold of that sum in a sandbox is worth. -/
noncomputable def Try.pinned : Pinned := { name := "ytjojofnkgeiadaa", sum := "6f049127575b0158f80f7de297ccf3406bf6dae85c920bf0f32a421b4dbc96ea", checked := Try.checked }
namespace Rows
def none {H : Type} : Left H := { results := [], args := [] }

/-- 'laws.FnSuiteProblems': WHATEVER THE INPUT: true; the input reads as it did. -/
def fnSuiteProblemsSpec : ChangeSpec := { name := "fnSuiteProblems", fn := fun _ => fun
  | [d] => { results := [.lit (.bool true)], args := [d] }
  | _ => none }
def fnSuiteProblemsRow : OpenClaim := { program := "ytjojofnkgeiadaa", sum := "6f049127575b0158f80f7de297ccf3406bf6dae85c920bf0f32a421b4dbc96ea", func := "loop.example/fixturehouse/laws.FnSuiteProblems", spec := "fnSuiteProblems", unfollowed := true, recurses := true, apart := false }
def FnSuiteProblemsSaid : Prop := fnSuiteProblemsRow.holds Try.pinned (OpenSpec.ofChange fnSuiteProblemsSpec)

/-- ITS FALSE NEIGHBOUR: 'it returns false'. Refute it at one input. -/
def fnSuiteProblemsWrong : ChangeSpec := { name := "fnSuiteProblems", fn := fun _ => fun
  | [d] => { results := [.lit (.bool false)], args := [d] }
  | _ => none }
def FnSuiteProblemsWrongFalsely : Prop := fnSuiteProblemsRow.holds Try.pinned (OpenSpec.ofChange fnSuiteProblemsWrong)

/-- 'laws.FnClosureOf': WHATEVER THE INPUT: true; the input reads as it did. -/
def fnClosureOfSpec : ChangeSpec := { name := "fnClosureOf", fn := fun _ => fun
  | [d] => { results := [.lit (.bool true)], args := [d] }
  | _ => none }
def fnClosureOfRow : OpenClaim := { program := "ytjojofnkgeiadaa", sum := "6f049127575b0158f80f7de297ccf3406bf6dae85c920bf0f32a421b4dbc96ea", func := "loop.example/fixturehouse/laws.FnClosureOf", spec := "fnClosureOf", unfollowed := true, recurses := true, apart := false }
def FnClosureOfSaid : Prop := fnClosureOfRow.holds Try.pinned (OpenSpec.ofChange fnClosureOfSpec)

/-- ITS FALSE NEIGHBOUR: 'it returns false'. Refute it at one input. -/
def fnClosureOfWrong : ChangeSpec := { name := "fnClosureOf", fn := fun _ => fun
  | [d] => { results := [.lit (.bool false)], args := [d] }
  | _ => none }
def FnClosureOfWrongFalsely : Prop := fnClosureOfRow.holds Try.pinned (OpenSpec.ofChange fnClosureOfWrong)

/-- 'laws.FnClosureOfLeast': WHATEVER THE INPUT: true; the input reads as it did. -/
def fnClosureOfLeastSpec : ChangeSpec := { name := "fnClosureOfLeast", fn := fun _ => fun
  | [d] => { results := [.lit (.bool true)], args := [d] }
  | _ => none }
def fnClosureOfLeastRow : OpenClaim := { program := "ytjojofnkgeiadaa", sum := "6f049127575b0158f80f7de297ccf3406bf6dae85c920bf0f32a421b4dbc96ea", func := "loop.example/fixturehouse/laws.FnClosureOfLeast", spec := "fnClosureOfLeast", unfollowed := true, recurses := true, apart := false }
def FnClosureOfLeastSaid : Prop := fnClosureOfLeastRow.holds Try.pinned (OpenSpec.ofChange fnClosureOfLeastSpec)

/-- ITS FALSE NEIGHBOUR: 'it returns false'. Refute it at one input. -/
def fnClosureOfLeastWrong : ChangeSpec := { name := "fnClosureOfLeast", fn := fun _ => fun
  | [d] => { results := [.lit (.bool false)], args := [d] }
  | _ => none }
def FnClosureOfLeastWrongFalsely : Prop := fnClosureOfLeastRow.holds Try.pinned (OpenSpec.ofChange fnClosureOfLeastWrong)

/-- 'laws.FnMostLive': WHATEVER THE INPUT: true; the input reads as it did. -/
def fnMostLiveSpec : ChangeSpec := { name := "fnMostLive", fn := fun _ => fun
  | [d] => { results := [.lit (.bool true)], args := [d] }
  | _ => none }
def fnMostLiveRow : OpenClaim := { program := "ytjojofnkgeiadaa", sum := "6f049127575b0158f80f7de297ccf3406bf6dae85c920bf0f32a421b4dbc96ea", func := "loop.example/fixturehouse/laws.FnMostLive", spec := "fnMostLive", recurses := true, apart := false }
def FnMostLiveSaid : Prop := fnMostLiveRow.holds Try.pinned (OpenSpec.ofChange fnMostLiveSpec)

/-- ITS FALSE NEIGHBOUR: 'it returns false'. Refute it at one input. -/
def fnMostLiveWrong : ChangeSpec := { name := "fnMostLive", fn := fun _ => fun
  | [d] => { results := [.lit (.bool false)], args := [d] }
  | _ => none }
def FnMostLiveWrongFalsely : Prop := fnMostLiveRow.holds Try.pinned (OpenSpec.ofChange fnMostLiveWrong)

/-- 'laws.FnLiveAfter': WHATEVER THE INPUT: true; the input reads as it did. -/
def fnLiveAfterSpec : ChangeSpec := { name := "fnLiveAfter", fn := fun _ => fun
  | [d] => { results := [.lit (.bool true)], args := [d] }
  | _ => none }
def fnLiveAfterRow : OpenClaim := { program := "ytjojofnkgeiadaa", sum := "6f049127575b0158f80f7de297ccf3406bf6dae85c920bf0f32a421b4dbc96ea", func := "loop.example/fixturehouse/laws.FnLiveAfter", spec := "fnLiveAfter", recurses := true, apart := false }
def FnLiveAfterSaid : Prop := fnLiveAfterRow.holds Try.pinned (OpenSpec.ofChange fnLiveAfterSpec)

/-- ITS FALSE NEIGHBOUR: 'it returns false'. Refute it at one input. -/
def fnLiveAfterWrong : ChangeSpec := { name := "fnLiveAfter", fn := fun _ => fun
  | [d] => { results := [.lit (.bool false)], args := [d] }
  | _ => none }
def FnLiveAfterWrongFalsely : Prop := fnLiveAfterRow.holds Try.pinned (OpenSpec.ofChange fnLiveAfterWrong)

/-- 'laws.FnPlanText': WHATEVER THE INPUT: true; the input reads as it did. -/
def fnPlanTextSpec : ChangeSpec := { name := "fnPlanText", fn := fun _ => fun
  | [d] => { results := [.lit (.bool true)], args := [d] }
  | _ => none }
def fnPlanTextRow : OpenClaim := { program := "ytjojofnkgeiadaa", sum := "6f049127575b0158f80f7de297ccf3406bf6dae85c920bf0f32a421b4dbc96ea", func := "loop.example/fixturehouse/laws.FnPlanText", spec := "fnPlanText", inPlace := ["internal/abi.NoEscape", "internal/bytealg.IndexByteString", "internal/bytealg.IndexString"], recurses := true, named := ["internal/bytealg.MaxLen"], apart := false }
def FnPlanTextSaid : Prop := fnPlanTextRow.holds Try.pinned (OpenSpec.ofChange fnPlanTextSpec)

/-- ITS FALSE NEIGHBOUR: 'it returns false'. Refute it at one input. -/
def fnPlanTextWrong : ChangeSpec := { name := "fnPlanText", fn := fun _ => fun
  | [d] => { results := [.lit (.bool false)], args := [d] }
  | _ => none }
def FnPlanTextWrongFalsely : Prop := fnPlanTextRow.holds Try.pinned (OpenSpec.ofChange fnPlanTextWrong)

/-- 'laws.FnParsePlan': WHATEVER THE INPUT: true; the input reads as it did. -/
def fnParsePlanSpec : ChangeSpec := { name := "fnParsePlan", fn := fun _ => fun
  | [d] => { results := [.lit (.bool true)], args := [d] }
  | _ => none }
def fnParsePlanRow : OpenClaim := { program := "ytjojofnkgeiadaa", sum := "6f049127575b0158f80f7de297ccf3406bf6dae85c920bf0f32a421b4dbc96ea", func := "loop.example/fixturehouse/laws.FnParsePlan", spec := "fnParsePlan", inPlace := ["internal/bytealg.IndexByteString", "internal/bytealg.IndexString", "internal/abi.NoEscape"], recurses := true, named := ["internal/bytealg.MaxLen"], apart := false }
def FnParsePlanSaid : Prop := fnParsePlanRow.holds Try.pinned (OpenSpec.ofChange fnParsePlanSpec)

/-- ITS FALSE NEIGHBOUR: 'it returns false'. Refute it at one input. -/
def fnParsePlanWrong : ChangeSpec := { name := "fnParsePlan", fn := fun _ => fun
  | [d] => { results := [.lit (.bool false)], args := [d] }
  | _ => none }
def FnParsePlanWrongFalsely : Prop := fnParsePlanRow.holds Try.pinned (OpenSpec.ofChange fnParsePlanWrong)

/-- 'laws.FnExactSuiteText': WHATEVER THE INPUT: true; the input reads as it did. -/
def fnExactSuiteTextSpec : ChangeSpec := { name := "fnExactSuiteText", fn := fun _ => fun
  | [d] => { results := [.lit (.bool true)], args := [d] }
  | _ => none }
def fnExactSuiteTextRow : OpenClaim := { program := "ytjojofnkgeiadaa", sum := "6f049127575b0158f80f7de297ccf3406bf6dae85c920bf0f32a421b4dbc96ea", func := "loop.example/fixturehouse/laws.FnExactSuiteText", spec := "fnExactSuiteText", inPlace := ["internal/abi.NoEscape", "internal/bytealg.MakeNoZero"], unfollowed := true, recurses := true, apart := false }
def FnExactSuiteTextSaid : Prop := fnExactSuiteTextRow.holds Try.pinned (OpenSpec.ofChange fnExactSuiteTextSpec)

/-- ITS FALSE NEIGHBOUR: 'it returns false'. Refute it at one input. -/
def fnExactSuiteTextWrong : ChangeSpec := { name := "fnExactSuiteText", fn := fun _ => fun
  | [d] => { results := [.lit (.bool false)], args := [d] }
  | _ => none }
def FnExactSuiteTextWrongFalsely : Prop := fnExactSuiteTextRow.holds Try.pinned (OpenSpec.ofChange fnExactSuiteTextWrong)

/- THE SECOND FORM. 'bulk': how many values and letters a reading holds, each counted each time it is reached (what is shared counts as often as it is met; a slice's spare places count too). A statement '..UptoSaid' is the law's where the arguments, and the package variables that the reading takes, are together of bulk at most 1048576: NARROWER than '..Said'. Prove '..Said' where nothing that the law and all that it calls make is longer than what came in: it says more and counts as full. Else prove '..UptoSaid'. A law counts once. -/
mutual
def uptoBulk {H : Type} : DataW H → Nat
  | .lit (.string bytes) => bytes.length + 1
  | .lit _ => 1
  | .nil => 1
  | .ptr d => uptoBulk d + 1
  | .slice elems spare => uptoBulkAll elems + uptoBulkAll spare + 1
  | .agg parts => uptoBulkAll parts + 1
  | .iface _ d => uptoBulk d + 1
  | .map entries => uptoBulkEntries entries + 1
  | .held _ => 1
def uptoBulkAll {H : Type} : List (DataW H) → Nat
  | [] => 0
  | d :: r => uptoBulk d + uptoBulkAll r
def uptoBulkEntries {H : Type} : List (Lit × DataW H) → Nat
  | [] => 0
  | x :: r => uptoBulkEntry x + uptoBulkEntries r
def uptoBulkEntry {H : Type} : Lit × DataW H → Nat
  | (.string bytes, d) => bytes.length + uptoBulk d + 1
  | (_, d) => uptoBulk d + 1
 end
def uptoSmall : (H : Type) → List (DataW H) → Bool := fun _ ds => decide (uptoBulkAll ds ≤ 1048576)
def OpenSpec.upto (s : _root_.Go.ChangeSpec) : _root_.Go.OpenSpec := { _root_.Go.OpenSpec.ofChange s with cond := some uptoSmall }

/-- 'laws.FnSuiteProblems', WHERE WHAT IT READS IS OF BULK AT MOST 1048576: true; the input reads as it did. -/
def fnSuiteProblemsUptoRow : OpenClaim := { program := "ytjojofnkgeiadaa", sum := "6f049127575b0158f80f7de297ccf3406bf6dae85c920bf0f32a421b4dbc96ea", func := "loop.example/fixturehouse/laws.FnSuiteProblems", spec := "fnSuiteProblems", unfollowed := true, recurses := true, apart := false, narrowed := true }
def FnSuiteProblemsUptoSaid : Prop := fnSuiteProblemsUptoRow.holds Try.pinned (OpenSpec.upto fnSuiteProblemsSpec)

/-- 'laws.FnClosureOf', WHERE WHAT IT READS IS OF BULK AT MOST 1048576: true; the input reads as it did. -/
def fnClosureOfUptoRow : OpenClaim := { program := "ytjojofnkgeiadaa", sum := "6f049127575b0158f80f7de297ccf3406bf6dae85c920bf0f32a421b4dbc96ea", func := "loop.example/fixturehouse/laws.FnClosureOf", spec := "fnClosureOf", unfollowed := true, recurses := true, apart := false, narrowed := true }
def FnClosureOfUptoSaid : Prop := fnClosureOfUptoRow.holds Try.pinned (OpenSpec.upto fnClosureOfSpec)

/-- 'laws.FnClosureOfLeast', WHERE WHAT IT READS IS OF BULK AT MOST 1048576: true; the input reads as it did. -/
def fnClosureOfLeastUptoRow : OpenClaim := { program := "ytjojofnkgeiadaa", sum := "6f049127575b0158f80f7de297ccf3406bf6dae85c920bf0f32a421b4dbc96ea", func := "loop.example/fixturehouse/laws.FnClosureOfLeast", spec := "fnClosureOfLeast", unfollowed := true, recurses := true, apart := false, narrowed := true }
def FnClosureOfLeastUptoSaid : Prop := fnClosureOfLeastUptoRow.holds Try.pinned (OpenSpec.upto fnClosureOfLeastSpec)

/-- 'laws.FnMostLive', WHERE WHAT IT READS IS OF BULK AT MOST 1048576: true; the input reads as it did. -/
def fnMostLiveUptoRow : OpenClaim := { program := "ytjojofnkgeiadaa", sum := "6f049127575b0158f80f7de297ccf3406bf6dae85c920bf0f32a421b4dbc96ea", func := "loop.example/fixturehouse/laws.FnMostLive", spec := "fnMostLive", recurses := true, apart := false, narrowed := true }
def FnMostLiveUptoSaid : Prop := fnMostLiveUptoRow.holds Try.pinned (OpenSpec.upto fnMostLiveSpec)

/-- 'laws.FnLiveAfter', WHERE WHAT IT READS IS OF BULK AT MOST 1048576: true; the input reads as it did. -/
def fnLiveAfterUptoRow : OpenClaim := { program := "ytjojofnkgeiadaa", sum := "6f049127575b0158f80f7de297ccf3406bf6dae85c920bf0f32a421b4dbc96ea", func := "loop.example/fixturehouse/laws.FnLiveAfter", spec := "fnLiveAfter", recurses := true, apart := false, narrowed := true }
def FnLiveAfterUptoSaid : Prop := fnLiveAfterUptoRow.holds Try.pinned (OpenSpec.upto fnLiveAfterSpec)

/-- 'laws.FnPlanText', WHERE WHAT IT READS IS OF BULK AT MOST 1048576: true; the input reads as it did. -/
def fnPlanTextUptoRow : OpenClaim := { program := "ytjojofnkgeiadaa", sum := "6f049127575b0158f80f7de297ccf3406bf6dae85c920bf0f32a421b4dbc96ea", func := "loop.example/fixturehouse/laws.FnPlanText", spec := "fnPlanText", inPlace := ["internal/abi.NoEscape", "internal/bytealg.IndexByteString", "internal/bytealg.IndexString"], recurses := true, named := ["internal/bytealg.MaxLen"], apart := false, narrowed := true }
def FnPlanTextUptoSaid : Prop := fnPlanTextUptoRow.holds Try.pinned (OpenSpec.upto fnPlanTextSpec)

/-- 'laws.FnParsePlan', WHERE WHAT IT READS IS OF BULK AT MOST 1048576: true; the input reads as it did. -/
def fnParsePlanUptoRow : OpenClaim := { program := "ytjojofnkgeiadaa", sum := "6f049127575b0158f80f7de297ccf3406bf6dae85c920bf0f32a421b4dbc96ea", func := "loop.example/fixturehouse/laws.FnParsePlan", spec := "fnParsePlan", inPlace := ["internal/bytealg.IndexByteString", "internal/bytealg.IndexString", "internal/abi.NoEscape"], recurses := true, named := ["internal/bytealg.MaxLen"], apart := false, narrowed := true }
def FnParsePlanUptoSaid : Prop := fnParsePlanUptoRow.holds Try.pinned (OpenSpec.upto fnParsePlanSpec)

/-- 'laws.FnExactSuiteText', WHERE WHAT IT READS IS OF BULK AT MOST 1048576: true; the input reads as it did. -/
def fnExactSuiteTextUptoRow : OpenClaim := { program := "ytjojofnkgeiadaa", sum := "6f049127575b0158f80f7de297ccf3406bf6dae85c920bf0f32a421b4dbc96ea", func := "loop.example/fixturehouse/laws.FnExactSuiteText", spec := "fnExactSuiteText", inPlace := ["internal/abi.NoEscape", "internal/bytealg.MakeNoZero"], unfollowed := true, recurses := true, apart := false, narrowed := true }
def FnExactSuiteTextUptoSaid : Prop := fnExactSuiteTextUptoRow.holds Try.pinned (OpenSpec.upto fnExactSuiteTextSpec)

end Rows
end Go.Proofs.Ytjojofnkgeiadaa
