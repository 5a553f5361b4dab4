/-
  No cell of these rows narrows 'for every input' (looked for: loops, veiled, ifaces, maps, wideKeys, modest, calm, conditions, laid).
  DERIVED. THE GIVEN ROWS OF THIS SEAT. 3 by the template 'for every input the law returns true; each argument reads behind the call as it read before'; 0 by the template 'total and deterministic' (their statements: YtggklaimbklefaaTotals.lean).
  GIVEN WITH THE SEED: the statements are not yours to turn. If you find one false, say at which input.
  Laid BY PROGRAM, IN A SANDBOX (cutbox-rows.mjs): the forced cells as the released guide's own fill.sh prints them over the translation e7d05d65ec0b2310… (all of the seat's roots in one cut). By AI agents, Wed Nov 11 2026. No macro, syntax, notation, axiom, sorry.
-/
import Derived.Test.YtggklaimbklefaaChecked
import GoSem.Claim
import GoSem.ClaimJoined
import GoSem.ClaimMapViews
import Derived.JoinedTies
import Derived.KernelRfl
namespace Go.Proofs.Ytggklaimbklefaa
/- THE CELL 'sum', in the pinned program and in every row, IS THE sha256 OF THE DUMP (.gsa) THAT YtggklaimbklefaaProg.lean LOADS. Nothing in Lean hashes anything: it is a label: what it is worth is what the hold of that sum in a sandbox is worth. -/
noncomputable def Try.pinned : Pinned := { name := "ytggklaimbklefaa", sum := "e7d05d65ec0b231090895ee3d9e83d7cbdb650f6226d2d6cc912f5d50b404d53", checked := Try.checked }
namespace Rows
def none {H : Type} : Left H := { results := [], args := [] }

/-- 'laws.FnParsePlan': WHATEVER THE INPUT: true; the input reads as it did. -/
def fnParsePlanSpec : ChangeSpec := { name := "fnParsePlan", fn := fun _ => fun
  | [d] => { results := [.lit (.bool true)], args := [d] }
  | _ => none }
def fnParsePlanRow : OpenClaim := { program := "ytggklaimbklefaa", sum := "e7d05d65ec0b231090895ee3d9e83d7cbdb650f6226d2d6cc912f5d50b404d53", func := "loop.example/fixturehouse/laws.FnParsePlan", spec := "fnParsePlan", inPlace := ["internal/bytealg.IndexByteString", "internal/bytealg.IndexString", "internal/abi.NoEscape"], recurses := true, named := ["internal/bytealg.MaxLen"], apart := false }
def FnParsePlanSaid : Prop := fnParsePlanRow.holds Try.pinned (OpenSpec.ofChange fnParsePlanSpec)

/-- ITS FALSE NEIGHBOUR: 'it returns false'. Refute it at one input. -/
def fnParsePlanWrong : ChangeSpec := { name := "fnParsePlan", fn := fun _ => fun
  | [d] => { results := [.lit (.bool false)], args := [d] }
  | _ => none }
def FnParsePlanWrongFalsely : Prop := fnParsePlanRow.holds Try.pinned (OpenSpec.ofChange fnParsePlanWrong)

/-- 'laws.FnPlanText': WHATEVER THE INPUT: true; the input reads as it did. -/
def fnPlanTextSpec : ChangeSpec := { name := "fnPlanText", fn := fun _ => fun
  | [d] => { results := [.lit (.bool true)], args := [d] }
  | _ => none }
def fnPlanTextRow : OpenClaim := { program := "ytggklaimbklefaa", sum := "e7d05d65ec0b231090895ee3d9e83d7cbdb650f6226d2d6cc912f5d50b404d53", func := "loop.example/fixturehouse/laws.FnPlanText", spec := "fnPlanText", inPlace := ["internal/abi.NoEscape", "internal/bytealg.IndexByteString", "internal/bytealg.IndexString"], recurses := true, named := ["internal/bytealg.MaxLen"], apart := false }
def FnPlanTextSaid : Prop := fnPlanTextRow.holds Try.pinned (OpenSpec.ofChange fnPlanTextSpec)

/-- ITS FALSE NEIGHBOUR: 'it returns false'. Refute it at one input. -/
def fnPlanTextWrong : ChangeSpec := { name := "fnPlanText", fn := fun _ => fun
  | [d] => { results := [.lit (.bool false)], args := [d] }
  | _ => none }
def FnPlanTextWrongFalsely : Prop := fnPlanTextRow.holds Try.pinned (OpenSpec.ofChange fnPlanTextWrong)

/-- 'laws.FnExactSuiteText': WHATEVER THE INPUT: true; the input reads as it did. -/
def fnExactSuiteTextSpec : ChangeSpec := { name := "fnExactSuiteText", fn := fun _ => fun
  | [d] => { results := [.lit (.bool true)], args := [d] }
  | _ => none }
def fnExactSuiteTextRow : OpenClaim := { program := "ytggklaimbklefaa", sum := "e7d05d65ec0b231090895ee3d9e83d7cbdb650f6226d2d6cc912f5d50b404d53", func := "loop.example/fixturehouse/laws.FnExactSuiteText", spec := "fnExactSuiteText", inPlace := ["internal/abi.NoEscape", "internal/bytealg.MakeNoZero"], unfollowed := true, recurses := true, apart := false }
def FnExactSuiteTextSaid : Prop := fnExactSuiteTextRow.holds Try.pinned (OpenSpec.ofChange fnExactSuiteTextSpec)

/-- ITS FALSE NEIGHBOUR: 'it returns false'. Refute it at one input. -/
def fnExactSuiteTextWrong : ChangeSpec := { name := "fnExactSuiteText", fn := fun _ => fun
  | [d] => { results := [.lit (.bool false)], args := [d] }
  | _ => none }
def FnExactSuiteTextWrongFalsely : Prop := fnExactSuiteTextRow.holds Try.pinned (OpenSpec.ofChange fnExactSuiteTextWrong)

/- THE SECOND FORM. 'bulk': how many values and letters a reading holds, each counted each time it is reached (what is shared counts as often as it is met; a slice's spare places count too). A statement '..UptoSaid' is the law's where the arguments, and the package variables that the reading takes, are together of bulk at most 1048576: NARROWER than '..Said'. Prove '..Said' where nothing that the law and all that it calls make is longer than what came in: it says more and counts as full. Else prove '..UptoSaid'. A law counts once. -/
mutual
def uptoBulk {H : Type} : DataW H → Nat
  | .lit (.string bytes) => bytes.length + 1
  | .lit _ => 1
  | .nil => 1
  | .ptr d => uptoBulk d + 1
  | .slice elems spare => uptoBulkAll elems + uptoBulkAll spare + 1
  | .agg parts => uptoBulkAll parts + 1
  | .iface _ d => uptoBulk d + 1
  | .map entries => uptoBulkEntries entries + 1
  | .held _ => 1
def uptoBulkAll {H : Type} : List (DataW H) → Nat
  | [] => 0
  | d :: r => uptoBulk d + uptoBulkAll r
def uptoBulkEntries {H : Type} : List (Lit × DataW H) → Nat
  | [] => 0
  | x :: r => uptoBulkEntry x + uptoBulkEntries r
def uptoBulkEntry {H : Type} : Lit × DataW H → Nat
  | (.string bytes, d) => bytes.length + uptoBulk d + 1
  | (_, d) => uptoBulk d + 1
 end
def uptoSmall : (H : Type) → List (DataW H) → Bool := fun _ ds => decide (uptoBulkAll ds ≤ 1048576)
def OpenSpec.upto (s : _root_.Go.ChangeSpec) : _root_.Go.OpenSpec := { _root_.Go.OpenSpec.ofChange s with cond := some uptoSmall }

/-- 'laws.FnParsePlan', WHERE WHAT IT READS IS OF BULK AT MOST 1048576: true; the input reads as it did. -/
def fnParsePlanUptoRow : OpenClaim := { program := "ytggklaimbklefaa", sum := "e7d05d65ec0b231090895ee3d9e83d7cbdb650f6226d2d6cc912f5d50b404d53", func := "loop.example/fixturehouse/laws.FnParsePlan", spec := "fnParsePlan", inPlace := ["internal/bytealg.IndexByteString", "internal/bytealg.IndexString", "internal/abi.NoEscape"], recurses := true, named := ["internal/bytealg.MaxLen"], apart := false, narrowed := true }
def FnParsePlanUptoSaid : Prop := fnParsePlanUptoRow.holds Try.pinned (OpenSpec.upto fnParsePlanSpec)

/-- 'laws.FnPlanText', WHERE WHAT IT READS IS OF BULK AT MOST 1048576: true; the input reads as it did. -/
def fnPlanTextUptoRow : OpenClaim := { program := "ytggklaimbklefaa", sum := "e7d05d65ec0b231090895ee3d9e83d7cbdb650f6226d2d6cc912f5d50b404d53", func := "loop.example/fixturehouse/laws.FnPlanText", spec := "fnPlanText", inPlace := ["internal/abi.NoEscape", "internal/bytealg.IndexByteString", "internal/bytealg.IndexString"], recurses := true, named := ["internal/bytealg.MaxLen"], apart := false, narrowed := true }
def FnPlanTextUptoSaid : Prop := fnPlanTextUptoRow.holds Try.pinned (OpenSpec.upto fnPlanTextSpec)

/-- 'laws.FnExactSuiteText', WHERE WHAT IT READS IS OF BULK AT MOST 1048576: true; the input reads as it did. -/
def fnExactSuiteTextUptoRow : OpenClaim := { program := "ytggklaimbklefaa", sum := "e7d05d65ec0b231090895ee3d9e83d7cbdb650f6226d2d6cc912f5d50b404d53", func := "loop.example/fixturehouse/laws.FnExactSuiteText", spec := "fnExactSuiteText", inPlace := ["internal/abi.NoEscape", "internal/bytealg.MakeNoZero"], unfollowed := true, recurses := true, apart := false, narrowed := true }
def FnExactSuiteTextUptoSaid : Prop := fnExactSuiteTextUptoRow.holds Try.pinned (OpenSpec.upto fnExactSuiteTextSpec)

end Rows
end Go.Proofs.Ytggklaimbklefaa
