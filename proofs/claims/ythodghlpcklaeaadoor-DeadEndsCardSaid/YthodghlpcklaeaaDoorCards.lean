/-
  DERIVED. GIVEN WITH THE SEED: THE CARDS: each row of YthodghlpcklaeaaDoorRows.lean that lists a variable, with what it lists TIED to the program's text (the seventh form; the later family's looks); each row that meets fmt, with fmt's text TOLD by the authors' own Lean function (tested against real Go, not proved from fmt's source: count such statements apart). THE CARD IS WHAT COUNTS. Prove the row's statement (the work); the ties are given (YthodghlpcklaeaaDoorTie.lean); close each card by the builder's one call (the guide's Derived/Test/ToyasCard.lean, 'card_holds'). Laid BY PROGRAM, IN A SANDBOX (cutbox-door.mjs). By AI agents, Wed Nov 11 2026. No macro, syntax, notation, axiom, sorry.
-/
import Derived.Test.YthodghlpcklaeaaDoorRows
import GoSem.ClaimSeven
namespace Go.Proofs.YthodghlpcklaeaaDoor
namespace Rows

/-- THE TIED CARD OF 'treenaillaw19.DeadEnds'. -/
def deadEndsCard : Claim7 := { stood := { row := deadEndsRow, standIns := [], harness := (true, "7c0682ca06236c3e8cb02a065b554307d20d3ad95d05bddf9224fdfcfead9850"), looks := false }, kinds := [], alts := [], laidByText := true, laidKinds := [.widerDeep], laidTests := true, laidLooks := .later }
def DeadEndsCardSaid : Prop := Claim7.holds Tryd.pinned (.plain (OpenSpec.ofChange deadEndsSpec)) deadEndsCard

/-- THE TIED CARD OF 'treenaillaw19.DeadOrders'. -/
def deadOrdersCard : Claim7 := { stood := { row := deadOrdersRow, standIns := [], harness := (true, "7c0682ca06236c3e8cb02a065b554307d20d3ad95d05bddf9224fdfcfead9850"), looks := false }, kinds := [], alts := [], laidByText := true, laidKinds := [.widerDeep], laidTests := true, laidLooks := .later }
def DeadOrdersCardSaid : Prop := Claim7.holds Tryd.pinned (.plain (OpenSpec.ofChange deadOrdersSpec)) deadOrdersCard

/-- THE SECOND FORM's CARD OF 'treenaillaw19.DeadEnds'. -/
def deadEndsUptoCard : Claim7 := { stood := { row := deadEndsUptoRow, standIns := [], harness := (true, "7c0682ca06236c3e8cb02a065b554307d20d3ad95d05bddf9224fdfcfead9850"), looks := false }, kinds := [], alts := [], laidByText := true, laidKinds := [.widerDeep], laidTests := true, laidLooks := .later }
def DeadEndsUptoCardSaid : Prop := Claim7.holds Tryd.pinned (.plain (OpenSpec.upto deadEndsSpec)) deadEndsUptoCard

/-- THE SECOND FORM's CARD OF 'treenaillaw19.DeadOrders'. -/
def deadOrdersUptoCard : Claim7 := { stood := { row := deadOrdersUptoRow, standIns := [], harness := (true, "7c0682ca06236c3e8cb02a065b554307d20d3ad95d05bddf9224fdfcfead9850"), looks := false }, kinds := [], alts := [], laidByText := true, laidKinds := [.widerDeep], laidTests := true, laidLooks := .later }
def DeadOrdersUptoCardSaid : Prop := Claim7.holds Tryd.pinned (.plain (OpenSpec.upto deadOrdersSpec)) deadOrdersUptoCard
end Rows
end Go.Proofs.YthodghlpcklaeaaDoor
