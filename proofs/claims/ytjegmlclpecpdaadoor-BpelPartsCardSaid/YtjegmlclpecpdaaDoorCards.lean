/-
  DERIVED. GIVEN WITH THE SEED: THE CARDS: each row of YtjegmlclpecpdaaDoorRows.lean that lists a variable, with what it lists TIED to the program's text (the seventh form; the later family's looks); each row that meets fmt, with fmt's text TOLD by the authors' own Lean function (tested against real Go, not proved from fmt's source: count such statements apart). THE CARD IS WHAT COUNTS. Prove the row's statement (the work); the ties are given (YtjegmlclpecpdaaDoorTie.lean); close each card by the builder's one call (the guide's Derived/Test/ToyasCard.lean, 'card_holds'). Laid BY PROGRAM, IN A SANDBOX (cutbox-door.mjs). By AI agents, Wed Nov 11 2026. No macro, syntax, notation, axiom, sorry.
-/
import Derived.Test.YtjegmlclpecpdaaDoorRows
import GoSem.ClaimSeven
namespace Go.Proofs.YtjegmlclpecpdaaDoor
namespace Rows

/-- THE TIED CARD OF 'treenaillaw16.BpelItems'. -/
def bpelItemsCard : Claim7 := { stood := { row := bpelItemsRow, standIns := [], harness := (true, "be30570d0d446be7812f3da72eb14e9020f70b4a1e78f06f7345ec2b86accf9a"), looks := false }, kinds := [], alts := [], laidByText := true, laidKinds := [.widerDeep], laidTests := true, laidLooks := .later }
def BpelItemsCardSaid : Prop := Claim7.holds Tryd.pinned (.plain (OpenSpec.ofChange bpelItemsSpec)) bpelItemsCard

/-- THE TIED CARD OF 'treenaillaw16.BpelSame'. -/
def bpelSameCard : Claim7 := { stood := { row := bpelSameRow, standIns := [], harness := (true, "be30570d0d446be7812f3da72eb14e9020f70b4a1e78f06f7345ec2b86accf9a"), looks := false }, kinds := [], alts := [], laidByText := true, laidKinds := [.widerDeep], laidTests := true, laidLooks := .later }
def BpelSameCardSaid : Prop := Claim7.holds Tryd.pinned (.plain (OpenSpec.ofChange bpelSameSpec)) bpelSameCard

/-- THE TIED CARD OF 'treenaillaw16.BpelParts'. -/
def bpelPartsCard : Claim7 := { stood := { row := bpelPartsRow, standIns := [], harness := (true, "be30570d0d446be7812f3da72eb14e9020f70b4a1e78f06f7345ec2b86accf9a"), looks := false }, kinds := [], alts := [], laidByText := true, laidKinds := [.widerDeep], laidTests := true, laidLooks := .later }
def BpelPartsCardSaid : Prop := Claim7.holds Tryd.pinned (.plain (OpenSpec.ofChange bpelPartsSpec)) bpelPartsCard

/-- THE TIED CARD OF 'treenaillaw16.BpelAwaits'. -/
def bpelAwaitsCard : Claim7 := { stood := { row := bpelAwaitsRow, standIns := [], harness := (true, "be30570d0d446be7812f3da72eb14e9020f70b4a1e78f06f7345ec2b86accf9a"), looks := false }, kinds := [], alts := [], laidByText := true, laidKinds := [.widerDeep], laidTests := true, laidLooks := .later }
def BpelAwaitsCardSaid : Prop := Claim7.holds Tryd.pinned (.plain (OpenSpec.ofChange bpelAwaitsSpec)) bpelAwaitsCard

/-- THE SECOND FORM's CARD OF 'treenaillaw16.BpelItems'. -/
def bpelItemsUptoCard : Claim7 := { stood := { row := bpelItemsUptoRow, standIns := [], harness := (true, "be30570d0d446be7812f3da72eb14e9020f70b4a1e78f06f7345ec2b86accf9a"), looks := false }, kinds := [], alts := [], laidByText := true, laidKinds := [.widerDeep], laidTests := true, laidLooks := .later }
def BpelItemsUptoCardSaid : Prop := Claim7.holds Tryd.pinned (.plain (OpenSpec.upto bpelItemsSpec)) bpelItemsUptoCard

/-- THE SECOND FORM's CARD OF 'treenaillaw16.BpelSame'. -/
def bpelSameUptoCard : Claim7 := { stood := { row := bpelSameUptoRow, standIns := [], harness := (true, "be30570d0d446be7812f3da72eb14e9020f70b4a1e78f06f7345ec2b86accf9a"), looks := false }, kinds := [], alts := [], laidByText := true, laidKinds := [.widerDeep], laidTests := true, laidLooks := .later }
def BpelSameUptoCardSaid : Prop := Claim7.holds Tryd.pinned (.plain (OpenSpec.upto bpelSameSpec)) bpelSameUptoCard

/-- THE SECOND FORM's CARD OF 'treenaillaw16.BpelParts'. -/
def bpelPartsUptoCard : Claim7 := { stood := { row := bpelPartsUptoRow, standIns := [], harness := (true, "be30570d0d446be7812f3da72eb14e9020f70b4a1e78f06f7345ec2b86accf9a"), looks := false }, kinds := [], alts := [], laidByText := true, laidKinds := [.widerDeep], laidTests := true, laidLooks := .later }
def BpelPartsUptoCardSaid : Prop := Claim7.holds Tryd.pinned (.plain (OpenSpec.upto bpelPartsSpec)) bpelPartsUptoCard

/-- THE SECOND FORM's CARD OF 'treenaillaw16.BpelAwaits'. -/
def bpelAwaitsUptoCard : Claim7 := { stood := { row := bpelAwaitsUptoRow, standIns := [], harness := (true, "be30570d0d446be7812f3da72eb14e9020f70b4a1e78f06f7345ec2b86accf9a"), looks := false }, kinds := [], alts := [], laidByText := true, laidKinds := [.widerDeep], laidTests := true, laidLooks := .later }
def BpelAwaitsUptoCardSaid : Prop := Claim7.holds Tryd.pinned (.plain (OpenSpec.upto bpelAwaitsSpec)) bpelAwaitsUptoCard
end Rows
end Go.Proofs.YtjegmlclpecpdaaDoor
