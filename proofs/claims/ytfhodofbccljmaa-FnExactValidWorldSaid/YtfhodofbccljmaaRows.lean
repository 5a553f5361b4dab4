/-
  No cell of these rows narrows 'for every input' (looked for: loops, veiled, ifaces, maps, wideKeys, modest, calm, conditions, laid).
  DERIVED. THE GIVEN ROWS OF THIS SEAT. 11 by the template 'for every input the law returns true; each argument reads behind the call as it read before'; 0 by the template 'total and deterministic' (their statements: YtfhodofbccljmaaTotals.lean).
  GIVEN WITH THE SEED: the statements are not yours to turn. If you find one false, say at which input.
  Laid BY PROGRAM, IN A SANDBOX (cutbox-rows.mjs): the forced cells as the released guide's own fill.sh prints them over the translation bd89a5226a8a6fe1… (all of the seat's roots in one cut). By AI agents, Wed Nov 11 2026. No macro, syntax, notation, axiom, sorry.
-/
import Derived.Test.YtfhodofbccljmaaChecked
import GoSem.Claim
import GoSem.ClaimJoined
import GoSem.ClaimMapViews
import Derived.JoinedTies
import Derived.KernelRfl
namespace Go.Proofs.Ytfhodofbccljmaa
/- THE CELL 'sum', in the pinned program and in every row, IS THE sha256 OF THE DUMP (.gsa) THAT YtfhodofbccljmaaProg.lean LOADS. Nothing in Lean hashes anything: it is a label: what it is worth is what the hold of that sum in a sandbox is worth. -/
noncomputable def Try.pinned : Pinned := { name := "ytfhodofbccljmaa", sum := "bd89a5226a8a6fe1ed9cb8d16986ab7b1034850b455084edf364813e0cdae9f3", checked := Try.checked }
namespace Rows
def none {H : Type} : Left H := { results := [], args := [] }

/-- 'laws.FnExactDropTest': WHATEVER THE INPUT: true; the input reads as it did. -/
def fnExactDropTestSpec : ChangeSpec := { name := "fnExactDropTest", fn := fun _ => fun
  | [d1, d2] => { results := [.lit (.bool true)], args := [d1, d2] }
  | _ => none }
def fnExactDropTestRow : OpenClaim := { program := "ytfhodofbccljmaa", sum := "bd89a5226a8a6fe1ed9cb8d16986ab7b1034850b455084edf364813e0cdae9f3", func := "loop.example/fixturehouse/laws.FnExactDropTest", spec := "fnExactDropTest", unfollowed := true, recurses := true, apart := false }
def FnExactDropTestSaid : Prop := fnExactDropTestRow.holds Try.pinned (OpenSpec.ofChange fnExactDropTestSpec)

/-- ITS FALSE NEIGHBOUR: 'it returns false'. Refute it at one input. -/
def fnExactDropTestWrong : ChangeSpec := { name := "fnExactDropTest", fn := fun _ => fun
  | [d1, d2] => { results := [.lit (.bool false)], args := [d1, d2] }
  | _ => none }
def FnExactDropTestWrongFalsely : Prop := fnExactDropTestRow.holds Try.pinned (OpenSpec.ofChange fnExactDropTestWrong)

/-- 'laws.FnExactAddNeed': WHATEVER THE INPUT: true; the input reads as it did. -/
def fnExactAddNeedSpec : ChangeSpec := { name := "fnExactAddNeed", fn := fun _ => fun
  | [d1, d2, d3] => { results := [.lit (.bool true)], args := [d1, d2, d3] }
  | _ => none }
def fnExactAddNeedRow : OpenClaim := { program := "ytfhodofbccljmaa", sum := "bd89a5226a8a6fe1ed9cb8d16986ab7b1034850b455084edf364813e0cdae9f3", func := "loop.example/fixturehouse/laws.FnExactAddNeed", spec := "fnExactAddNeed", unfollowed := true, recurses := true, apart := false }
def FnExactAddNeedSaid : Prop := fnExactAddNeedRow.holds Try.pinned (OpenSpec.ofChange fnExactAddNeedSpec)

/-- ITS FALSE NEIGHBOUR: 'it returns false'. Refute it at one input. -/
def fnExactAddNeedWrong : ChangeSpec := { name := "fnExactAddNeed", fn := fun _ => fun
  | [d1, d2, d3] => { results := [.lit (.bool false)], args := [d1, d2, d3] }
  | _ => none }
def FnExactAddNeedWrongFalsely : Prop := fnExactAddNeedRow.holds Try.pinned (OpenSpec.ofChange fnExactAddNeedWrong)

/-- 'laws.FnExactDropFixture': WHATEVER THE INPUT: true; the input reads as it did. -/
def fnExactDropFixtureSpec : ChangeSpec := { name := "fnExactDropFixture", fn := fun _ => fun
  | [d1, d2] => { results := [.lit (.bool true)], args := [d1, d2] }
  | _ => none }
def fnExactDropFixtureRow : OpenClaim := { program := "ytfhodofbccljmaa", sum := "bd89a5226a8a6fe1ed9cb8d16986ab7b1034850b455084edf364813e0cdae9f3", func := "loop.example/fixturehouse/laws.FnExactDropFixture", spec := "fnExactDropFixture", unfollowed := true, recurses := true, apart := false }
def FnExactDropFixtureSaid : Prop := fnExactDropFixtureRow.holds Try.pinned (OpenSpec.ofChange fnExactDropFixtureSpec)

/-- ITS FALSE NEIGHBOUR: 'it returns false'. Refute it at one input. -/
def fnExactDropFixtureWrong : ChangeSpec := { name := "fnExactDropFixture", fn := fun _ => fun
  | [d1, d2] => { results := [.lit (.bool false)], args := [d1, d2] }
  | _ => none }
def FnExactDropFixtureWrongFalsely : Prop := fnExactDropFixtureRow.holds Try.pinned (OpenSpec.ofChange fnExactDropFixtureWrong)

/-- 'laws.FnExactValidSuite': WHATEVER THE INPUT: true; the input reads as it did. -/
def fnExactValidSuiteSpec : ChangeSpec := { name := "fnExactValidSuite", fn := fun _ => fun
  | [d] => { results := [.lit (.bool true)], args := [d] }
  | _ => none }
def fnExactValidSuiteRow : OpenClaim := { program := "ytfhodofbccljmaa", sum := "bd89a5226a8a6fe1ed9cb8d16986ab7b1034850b455084edf364813e0cdae9f3", func := "loop.example/fixturehouse/laws.FnExactValidSuite", spec := "fnExactValidSuite", unfollowed := true, recurses := true, apart := false }
def FnExactValidSuiteSaid : Prop := fnExactValidSuiteRow.holds Try.pinned (OpenSpec.ofChange fnExactValidSuiteSpec)

/-- ITS FALSE NEIGHBOUR: 'it returns false'. Refute it at one input. -/
def fnExactValidSuiteWrong : ChangeSpec := { name := "fnExactValidSuite", fn := fun _ => fun
  | [d] => { results := [.lit (.bool false)], args := [d] }
  | _ => none }
def FnExactValidSuiteWrongFalsely : Prop := fnExactValidSuiteRow.holds Try.pinned (OpenSpec.ofChange fnExactValidSuiteWrong)

/-- 'laws.FnExactFixtureAt': WHATEVER THE INPUT: true; the input reads as it did. -/
def fnExactFixtureAtSpec : ChangeSpec := { name := "fnExactFixtureAt", fn := fun _ => fun
  | [d1, d2] => { results := [.lit (.bool true)], args := [d1, d2] }
  | _ => none }
def fnExactFixtureAtRow : OpenClaim := { program := "ytfhodofbccljmaa", sum := "bd89a5226a8a6fe1ed9cb8d16986ab7b1034850b455084edf364813e0cdae9f3", func := "loop.example/fixturehouse/laws.FnExactFixtureAt", spec := "fnExactFixtureAt", unfollowed := true, recurses := true, apart := false }
def FnExactFixtureAtSaid : Prop := fnExactFixtureAtRow.holds Try.pinned (OpenSpec.ofChange fnExactFixtureAtSpec)

/-- ITS FALSE NEIGHBOUR: 'it returns false'. Refute it at one input. -/
def fnExactFixtureAtWrong : ChangeSpec := { name := "fnExactFixtureAt", fn := fun _ => fun
  | [d1, d2] => { results := [.lit (.bool false)], args := [d1, d2] }
  | _ => none }
def FnExactFixtureAtWrongFalsely : Prop := fnExactFixtureAtRow.holds Try.pinned (OpenSpec.ofChange fnExactFixtureAtWrong)

/-- 'laws.FnExactNeedsOf': WHATEVER THE INPUT: true; the input reads as it did. -/
def fnExactNeedsOfSpec : ChangeSpec := { name := "fnExactNeedsOf", fn := fun _ => fun
  | [d1, d2] => { results := [.lit (.bool true)], args := [d1, d2] }
  | _ => none }
def fnExactNeedsOfRow : OpenClaim := { program := "ytfhodofbccljmaa", sum := "bd89a5226a8a6fe1ed9cb8d16986ab7b1034850b455084edf364813e0cdae9f3", func := "loop.example/fixturehouse/laws.FnExactNeedsOf", spec := "fnExactNeedsOf", unfollowed := true, recurses := true, apart := false }
def FnExactNeedsOfSaid : Prop := fnExactNeedsOfRow.holds Try.pinned (OpenSpec.ofChange fnExactNeedsOfSpec)

/-- ITS FALSE NEIGHBOUR: 'it returns false'. Refute it at one input. -/
def fnExactNeedsOfWrong : ChangeSpec := { name := "fnExactNeedsOf", fn := fun _ => fun
  | [d1, d2] => { results := [.lit (.bool false)], args := [d1, d2] }
  | _ => none }
def FnExactNeedsOfWrongFalsely : Prop := fnExactNeedsOfRow.holds Try.pinned (OpenSpec.ofChange fnExactNeedsOfWrong)

/-- 'laws.FnExactSuiteProblems': WHATEVER THE INPUT: true; the input reads as it did. -/
def fnExactSuiteProblemsSpec : ChangeSpec := { name := "fnExactSuiteProblems", fn := fun _ => fun
  | [d] => { results := [.lit (.bool true)], args := [d] }
  | _ => none }
def fnExactSuiteProblemsRow : OpenClaim := { program := "ytfhodofbccljmaa", sum := "bd89a5226a8a6fe1ed9cb8d16986ab7b1034850b455084edf364813e0cdae9f3", func := "loop.example/fixturehouse/laws.FnExactSuiteProblems", spec := "fnExactSuiteProblems", unfollowed := true, recurses := true, apart := false }
def FnExactSuiteProblemsSaid : Prop := fnExactSuiteProblemsRow.holds Try.pinned (OpenSpec.ofChange fnExactSuiteProblemsSpec)

/-- ITS FALSE NEIGHBOUR: 'it returns false'. Refute it at one input. -/
def fnExactSuiteProblemsWrong : ChangeSpec := { name := "fnExactSuiteProblems", fn := fun _ => fun
  | [d] => { results := [.lit (.bool false)], args := [d] }
  | _ => none }
def FnExactSuiteProblemsWrongFalsely : Prop := fnExactSuiteProblemsRow.holds Try.pinned (OpenSpec.ofChange fnExactSuiteProblemsWrong)

/-- 'laws.FnExactWithTests': WHATEVER THE INPUT: true; the input reads as it did. -/
def fnExactWithTestsSpec : ChangeSpec := { name := "fnExactWithTests", fn := fun _ => fun
  | [d1, d2] => { results := [.lit (.bool true)], args := [d1, d2] }
  | _ => none }
def fnExactWithTestsRow : OpenClaim := { program := "ytfhodofbccljmaa", sum := "bd89a5226a8a6fe1ed9cb8d16986ab7b1034850b455084edf364813e0cdae9f3", func := "loop.example/fixturehouse/laws.FnExactWithTests", spec := "fnExactWithTests", unfollowed := true, recurses := true, apart := false }
def FnExactWithTestsSaid : Prop := fnExactWithTestsRow.holds Try.pinned (OpenSpec.ofChange fnExactWithTestsSpec)

/-- ITS FALSE NEIGHBOUR: 'it returns false'. Refute it at one input. -/
def fnExactWithTestsWrong : ChangeSpec := { name := "fnExactWithTests", fn := fun _ => fun
  | [d1, d2] => { results := [.lit (.bool false)], args := [d1, d2] }
  | _ => none }
def FnExactWithTestsWrongFalsely : Prop := fnExactWithTestsRow.holds Try.pinned (OpenSpec.ofChange fnExactWithTestsWrong)

/-- 'laws.FnExactSetScope': WHATEVER THE INPUT: true; the input reads as it did. -/
def fnExactSetScopeSpec : ChangeSpec := { name := "fnExactSetScope", fn := fun _ => fun
  | [d1, d2, d3] => { results := [.lit (.bool true)], args := [d1, d2, d3] }
  | _ => none }
def fnExactSetScopeRow : OpenClaim := { program := "ytfhodofbccljmaa", sum := "bd89a5226a8a6fe1ed9cb8d16986ab7b1034850b455084edf364813e0cdae9f3", func := "loop.example/fixturehouse/laws.FnExactSetScope", spec := "fnExactSetScope", unfollowed := true, recurses := true, apart := false }
def FnExactSetScopeSaid : Prop := fnExactSetScopeRow.holds Try.pinned (OpenSpec.ofChange fnExactSetScopeSpec)

/-- ITS FALSE NEIGHBOUR: 'it returns false'. Refute it at one input. -/
def fnExactSetScopeWrong : ChangeSpec := { name := "fnExactSetScope", fn := fun _ => fun
  | [d1, d2, d3] => { results := [.lit (.bool false)], args := [d1, d2, d3] }
  | _ => none }
def FnExactSetScopeWrongFalsely : Prop := fnExactSetScopeRow.holds Try.pinned (OpenSpec.ofChange fnExactSetScopeWrong)

/-- 'laws.FnExactValidWorld': WHATEVER THE INPUT: true; the input reads as it did. -/
def fnExactValidWorldSpec : ChangeSpec := { name := "fnExactValidWorld", fn := fun _ => fun
  | [d1, d2] => { results := [.lit (.bool true)], args := [d1, d2] }
  | _ => none }
def fnExactValidWorldRow : OpenClaim := { program := "ytfhodofbccljmaa", sum := "bd89a5226a8a6fe1ed9cb8d16986ab7b1034850b455084edf364813e0cdae9f3", func := "loop.example/fixturehouse/laws.FnExactValidWorld", spec := "fnExactValidWorld", unfollowed := true, recurses := true, apart := false }
def FnExactValidWorldSaid : Prop := fnExactValidWorldRow.holds Try.pinned (OpenSpec.ofChange fnExactValidWorldSpec)

/-- ITS FALSE NEIGHBOUR: 'it returns false'. Refute it at one input. -/
def fnExactValidWorldWrong : ChangeSpec := { name := "fnExactValidWorld", fn := fun _ => fun
  | [d1, d2] => { results := [.lit (.bool false)], args := [d1, d2] }
  | _ => none }
def FnExactValidWorldWrongFalsely : Prop := fnExactValidWorldRow.holds Try.pinned (OpenSpec.ofChange fnExactValidWorldWrong)

/-- 'laws.FnExactSuiteText': WHATEVER THE INPUT: true; the input reads as it did. -/
def fnExactSuiteTextSpec : ChangeSpec := { name := "fnExactSuiteText", fn := fun _ => fun
  | [d] => { results := [.lit (.bool true)], args := [d] }
  | _ => none }
def fnExactSuiteTextRow : OpenClaim := { program := "ytfhodofbccljmaa", sum := "bd89a5226a8a6fe1ed9cb8d16986ab7b1034850b455084edf364813e0cdae9f3", func := "loop.example/fixturehouse/laws.FnExactSuiteText", spec := "fnExactSuiteText", inPlace := ["internal/abi.NoEscape", "internal/bytealg.MakeNoZero"], unfollowed := true, recurses := true, apart := false }
def FnExactSuiteTextSaid : Prop := fnExactSuiteTextRow.holds Try.pinned (OpenSpec.ofChange fnExactSuiteTextSpec)

/-- ITS FALSE NEIGHBOUR: 'it returns false'. Refute it at one input. -/
def fnExactSuiteTextWrong : ChangeSpec := { name := "fnExactSuiteText", fn := fun _ => fun
  | [d] => { results := [.lit (.bool false)], args := [d] }
  | _ => none }
def FnExactSuiteTextWrongFalsely : Prop := fnExactSuiteTextRow.holds Try.pinned (OpenSpec.ofChange fnExactSuiteTextWrong)

/- THE SECOND FORM. 'bulk': how many values and letters a reading holds, each counted each time it is reached (what is shared counts as often as it is met; a slice's spare places count too). A statement '..UptoSaid' is the law's where the arguments, and the package variables that the reading takes, are together of bulk at most 1048576: NARROWER than '..Said'. Prove '..Said' where nothing that the law and all that it calls make is longer than what came in: it says more and counts as full. Else prove '..UptoSaid'. A law counts once. -/
mutual
def uptoBulk {H : Type} : DataW H → Nat
  | .lit (.string bytes) => bytes.length + 1
  | .lit _ => 1
  | .nil => 1
  | .ptr d => uptoBulk d + 1
  | .slice elems spare => uptoBulkAll elems + uptoBulkAll spare + 1
  | .agg parts => uptoBulkAll parts + 1
  | .iface _ d => uptoBulk d + 1
  | .map entries => uptoBulkEntries entries + 1
  | .held _ => 1
def uptoBulkAll {H : Type} : List (DataW H) → Nat
  | [] => 0
  | d :: r => uptoBulk d + uptoBulkAll r
def uptoBulkEntries {H : Type} : List (Lit × DataW H) → Nat
  | [] => 0
  | x :: r => uptoBulkEntry x + uptoBulkEntries r
def uptoBulkEntry {H : Type} : Lit × DataW H → Nat
  | (.string bytes, d) => bytes.length + uptoBulk d + 1
  | (_, d) => uptoBulk d + 1
 end
def uptoSmall : (H : Type) → List (DataW H) → Bool := fun _ ds => decide (uptoBulkAll ds ≤ 1048576)
def OpenSpec.upto (s : _root_.Go.ChangeSpec) : _root_.Go.OpenSpec := { _root_.Go.OpenSpec.ofChange s with cond := some uptoSmall }

/-- 'laws.FnExactDropTest', WHERE WHAT IT READS IS OF BULK AT MOST 1048576: true; the input reads as it did. -/
def fnExactDropTestUptoRow : OpenClaim := { program := "ytfhodofbccljmaa", sum := "bd89a5226a8a6fe1ed9cb8d16986ab7b1034850b455084edf364813e0cdae9f3", func := "loop.example/fixturehouse/laws.FnExactDropTest", spec := "fnExactDropTest", unfollowed := true, recurses := true, apart := false, narrowed := true }
def FnExactDropTestUptoSaid : Prop := fnExactDropTestUptoRow.holds Try.pinned (OpenSpec.upto fnExactDropTestSpec)

/-- 'laws.FnExactAddNeed', WHERE WHAT IT READS IS OF BULK AT MOST 1048576: true; the input reads as it did. -/
def fnExactAddNeedUptoRow : OpenClaim := { program := "ytfhodofbccljmaa", sum := "bd89a5226a8a6fe1ed9cb8d16986ab7b1034850b455084edf364813e0cdae9f3", func := "loop.example/fixturehouse/laws.FnExactAddNeed", spec := "fnExactAddNeed", unfollowed := true, recurses := true, apart := false, narrowed := true }
def FnExactAddNeedUptoSaid : Prop := fnExactAddNeedUptoRow.holds Try.pinned (OpenSpec.upto fnExactAddNeedSpec)

/-- 'laws.FnExactDropFixture', WHERE WHAT IT READS IS OF BULK AT MOST 1048576: true; the input reads as it did. -/
def fnExactDropFixtureUptoRow : OpenClaim := { program := "ytfhodofbccljmaa", sum := "bd89a5226a8a6fe1ed9cb8d16986ab7b1034850b455084edf364813e0cdae9f3", func := "loop.example/fixturehouse/laws.FnExactDropFixture", spec := "fnExactDropFixture", unfollowed := true, recurses := true, apart := false, narrowed := true }
def FnExactDropFixtureUptoSaid : Prop := fnExactDropFixtureUptoRow.holds Try.pinned (OpenSpec.upto fnExactDropFixtureSpec)

/-- 'laws.FnExactValidSuite', WHERE WHAT IT READS IS OF BULK AT MOST 1048576: true; the input reads as it did. -/
def fnExactValidSuiteUptoRow : OpenClaim := { program := "ytfhodofbccljmaa", sum := "bd89a5226a8a6fe1ed9cb8d16986ab7b1034850b455084edf364813e0cdae9f3", func := "loop.example/fixturehouse/laws.FnExactValidSuite", spec := "fnExactValidSuite", unfollowed := true, recurses := true, apart := false, narrowed := true }
def FnExactValidSuiteUptoSaid : Prop := fnExactValidSuiteUptoRow.holds Try.pinned (OpenSpec.upto fnExactValidSuiteSpec)

/-- 'laws.FnExactFixtureAt', WHERE WHAT IT READS IS OF BULK AT MOST 1048576: true; the input reads as it did. -/
def fnExactFixtureAtUptoRow : OpenClaim := { program := "ytfhodofbccljmaa", sum := "bd89a5226a8a6fe1ed9cb8d16986ab7b1034850b455084edf364813e0cdae9f3", func := "loop.example/fixturehouse/laws.FnExactFixtureAt", spec := "fnExactFixtureAt", unfollowed := true, recurses := true, apart := false, narrowed := true }
def FnExactFixtureAtUptoSaid : Prop := fnExactFixtureAtUptoRow.holds Try.pinned (OpenSpec.upto fnExactFixtureAtSpec)

/-- 'laws.FnExactNeedsOf', WHERE WHAT IT READS IS OF BULK AT MOST 1048576: true; the input reads as it did. -/
def fnExactNeedsOfUptoRow : OpenClaim := { program := "ytfhodofbccljmaa", sum := "bd89a5226a8a6fe1ed9cb8d16986ab7b1034850b455084edf364813e0cdae9f3", func := "loop.example/fixturehouse/laws.FnExactNeedsOf", spec := "fnExactNeedsOf", unfollowed := true, recurses := true, apart := false, narrowed := true }
def FnExactNeedsOfUptoSaid : Prop := fnExactNeedsOfUptoRow.holds Try.pinned (OpenSpec.upto fnExactNeedsOfSpec)

/-- 'laws.FnExactSuiteProblems', WHERE WHAT IT READS IS OF BULK AT MOST 1048576: true; the input reads as it did. -/
def fnExactSuiteProblemsUptoRow : OpenClaim := { program := "ytfhodofbccljmaa", sum := "bd89a5226a8a6fe1ed9cb8d16986ab7b1034850b455084edf364813e0cdae9f3", func := "loop.example/fixturehouse/laws.FnExactSuiteProblems", spec := "fnExactSuiteProblems", unfollowed := true, recurses := true, apart := false, narrowed := true }
def FnExactSuiteProblemsUptoSaid : Prop := fnExactSuiteProblemsUptoRow.holds Try.pinned (OpenSpec.upto fnExactSuiteProblemsSpec)

/-- 'laws.FnExactWithTests', WHERE WHAT IT READS IS OF BULK AT MOST 1048576: true; the input reads as it did. -/
def fnExactWithTestsUptoRow : OpenClaim := { program := "ytfhodofbccljmaa", sum := "bd89a5226a8a6fe1ed9cb8d16986ab7b1034850b455084edf364813e0cdae9f3", func := "loop.example/fixturehouse/laws.FnExactWithTests", spec := "fnExactWithTests", unfollowed := true, recurses := true, apart := false, narrowed := true }
def FnExactWithTestsUptoSaid : Prop := fnExactWithTestsUptoRow.holds Try.pinned (OpenSpec.upto fnExactWithTestsSpec)

/-- 'laws.FnExactSetScope', WHERE WHAT IT READS IS OF BULK AT MOST 1048576: true; the input reads as it did. -/
def fnExactSetScopeUptoRow : OpenClaim := { program := "ytfhodofbccljmaa", sum := "bd89a5226a8a6fe1ed9cb8d16986ab7b1034850b455084edf364813e0cdae9f3", func := "loop.example/fixturehouse/laws.FnExactSetScope", spec := "fnExactSetScope", unfollowed := true, recurses := true, apart := false, narrowed := true }
def FnExactSetScopeUptoSaid : Prop := fnExactSetScopeUptoRow.holds Try.pinned (OpenSpec.upto fnExactSetScopeSpec)

/-- 'laws.FnExactValidWorld', WHERE WHAT IT READS IS OF BULK AT MOST 1048576: true; the input reads as it did. -/
def fnExactValidWorldUptoRow : OpenClaim := { program := "ytfhodofbccljmaa", sum := "bd89a5226a8a6fe1ed9cb8d16986ab7b1034850b455084edf364813e0cdae9f3", func := "loop.example/fixturehouse/laws.FnExactValidWorld", spec := "fnExactValidWorld", unfollowed := true, recurses := true, apart := false, narrowed := true }
def FnExactValidWorldUptoSaid : Prop := fnExactValidWorldUptoRow.holds Try.pinned (OpenSpec.upto fnExactValidWorldSpec)

/-- 'laws.FnExactSuiteText', WHERE WHAT IT READS IS OF BULK AT MOST 1048576: true; the input reads as it did. -/
def fnExactSuiteTextUptoRow : OpenClaim := { program := "ytfhodofbccljmaa", sum := "bd89a5226a8a6fe1ed9cb8d16986ab7b1034850b455084edf364813e0cdae9f3", func := "loop.example/fixturehouse/laws.FnExactSuiteText", spec := "fnExactSuiteText", inPlace := ["internal/abi.NoEscape", "internal/bytealg.MakeNoZero"], unfollowed := true, recurses := true, apart := false, narrowed := true }
def FnExactSuiteTextUptoSaid : Prop := fnExactSuiteTextUptoRow.holds Try.pinned (OpenSpec.upto fnExactSuiteTextSpec)

end Rows
end Go.Proofs.Ytfhodofbccljmaa
