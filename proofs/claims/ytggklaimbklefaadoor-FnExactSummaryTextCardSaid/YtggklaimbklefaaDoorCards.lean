/-
  DERIVED. GIVEN WITH THE SEED: THE CARDS: each row of YtggklaimbklefaaDoorRows.lean that lists a variable, with what it lists TIED to the program's text (the seventh form; the later family's looks); each row that meets fmt, with fmt's text TOLD by the authors' own Lean function (tested against real Go, not proved from fmt's source: count such statements apart). THE CARD IS WHAT COUNTS. Prove the row's statement (the work); the ties are given (YtggklaimbklefaaDoorTie.lean); close each card by the builder's one call (the guide's Derived/Test/ToyasCard.lean, 'card_holds'). Laid BY PROGRAM, IN A SANDBOX (cutbox-door.mjs). By AI agents, Wed Nov 11 2026. No macro, syntax, notation, axiom, sorry.
-/
import Derived.Test.YtggklaimbklefaaDoorRows
import GoSem.ClaimSeven
namespace Go.Proofs.YtggklaimbklefaaDoor
namespace Rows

/-- THE TIED CARD OF 'laws.FnExactSummaryText'. -/
def fnExactSummaryTextCard : Claim7 := { stood := { row := fnExactSummaryTextRow, standIns := [], harness := (true, "6beb01b00e406e3679f8cce5f7d8e9149c81078b4715b9bacfbd30481e1dc52a"), looks := false }, kinds := [], alts := [], laidByText := true, laidKinds := [.data, .data, .data], laidTests := true, laidLooks := .later }
def FnExactSummaryTextCardSaid : Prop := Claim7.holds Tryd.pinned (.plain (OpenSpec.ofChange fnExactSummaryTextSpec)) fnExactSummaryTextCard

/-- THE SECOND FORM's CARD OF 'laws.FnExactSummaryText'. -/
def fnExactSummaryTextUptoCard : Claim7 := { stood := { row := fnExactSummaryTextUptoRow, standIns := [], harness := (true, "6beb01b00e406e3679f8cce5f7d8e9149c81078b4715b9bacfbd30481e1dc52a"), looks := false }, kinds := [], alts := [], laidByText := true, laidKinds := [.data, .data, .data], laidTests := true, laidLooks := .later }
def FnExactSummaryTextUptoCardSaid : Prop := Claim7.holds Tryd.pinned (.plain (OpenSpec.upto fnExactSummaryTextSpec)) fnExactSummaryTextUptoCard
end Rows
end Go.Proofs.YtggklaimbklefaaDoor
