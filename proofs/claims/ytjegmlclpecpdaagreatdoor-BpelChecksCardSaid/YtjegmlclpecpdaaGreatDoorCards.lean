/-
  DERIVED. GIVEN WITH THE SEED: THE CARDS: each row of YtjegmlclpecpdaaGreatDoorRows.lean that lists a variable, with what it lists TIED to the program's text (the seventh form; the later family's looks); each row that meets fmt, with fmt's text TOLD by the authors' own Lean function (tested against real Go, not proved from fmt's source: count such statements apart). THE CARD IS WHAT COUNTS. Prove the row's statement (the work); the ties are given (YtjegmlclpecpdaaGreatDoorTie.lean); close each card by the builder's one call (the guide's Derived/Test/ToyasCard.lean, 'card_holds'). Laid BY PROGRAM, IN A SANDBOX (cutbox-door.mjs). By AI agents, Wed Nov 11 2026. No macro, syntax, notation, axiom, sorry.
-/
import Derived.Test.YtjegmlclpecpdaaGreatDoorRows
import GoSem.ClaimSeven
namespace Go.Proofs.YtjegmlclpecpdaaGreatDoor
namespace Rows

/-- THE TIED CARD OF 'treenaillaw16.BpelChecks'. -/
def bpelChecksCard : Claim7 := { stood := { row := bpelChecksRow, standIns := [], harness := (true, "decb68e04932229aa7f73ee9ad96218a16c0d2a9a82d712f3b55d07e2503fc6a"), looks := false }, kinds := [], alts := [], laidByText := true, laidKinds := [.widerDeep], laidTests := true, laidLooks := .later }
def BpelChecksCardSaid : Prop := Claim7.holds Tryz.pinned (.plain (OpenSpec.ofChange bpelChecksSpec)) bpelChecksCard

/-- THE TIED CARD OF 'treenaillaw16.BpelRow'. -/
def bpelRowCard : Claim7 := { stood := { row := bpelRowRow, standIns := [], harness := (true, "decb68e04932229aa7f73ee9ad96218a16c0d2a9a82d712f3b55d07e2503fc6a"), looks := false }, kinds := [], alts := [], laidByText := true, laidKinds := [.widerDeep], laidTests := true, laidLooks := .later }
def BpelRowCardSaid : Prop := Claim7.holds Tryz.pinned (.plain (OpenSpec.ofChange bpelRowSpec)) bpelRowCard

/-- THE SECOND FORM's CARD OF 'treenaillaw16.BpelChecks'. -/
def bpelChecksUptoCard : Claim7 := { stood := { row := bpelChecksUptoRow, standIns := [], harness := (true, "decb68e04932229aa7f73ee9ad96218a16c0d2a9a82d712f3b55d07e2503fc6a"), looks := false }, kinds := [], alts := [], laidByText := true, laidKinds := [.widerDeep], laidTests := true, laidLooks := .later }
def BpelChecksUptoCardSaid : Prop := Claim7.holds Tryz.pinned (.plain (OpenSpec.upto bpelChecksSpec)) bpelChecksUptoCard

/-- THE SECOND FORM's CARD OF 'treenaillaw16.BpelRow'. -/
def bpelRowUptoCard : Claim7 := { stood := { row := bpelRowUptoRow, standIns := [], harness := (true, "decb68e04932229aa7f73ee9ad96218a16c0d2a9a82d712f3b55d07e2503fc6a"), looks := false }, kinds := [], alts := [], laidByText := true, laidKinds := [.widerDeep], laidTests := true, laidLooks := .later }
def BpelRowUptoCardSaid : Prop := Claim7.holds Tryz.pinned (.plain (OpenSpec.upto bpelRowSpec)) bpelRowUptoCard
end Rows
end Go.Proofs.YtjegmlclpecpdaaGreatDoor
