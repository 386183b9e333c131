/-
  DERIVED. GIVEN WITH THE SEED: THE CARDS: each row of YtdaeiicdpfghlaaDoorRows.lean that lists a variable, with what it lists TIED to the program's text (the seventh form; the later family's looks); each row that meets fmt, with fmt's text TOLD by the authors' own Lean function (tested against real Go, not proved from fmt's source: count such statements apart). THE CARD IS WHAT COUNTS. Prove the row's statement (the work); the ties are given (YtdaeiicdpfghlaaDoorTie.lean); close each card by the builder's one call (the guide's Derived/Test/ToyasCard.lean, 'card_holds'). Laid BY PROGRAM, IN A SANDBOX (cutbox-door.mjs). By AI agents, Wed Nov 11 2026. No macro, syntax, notation, axiom, sorry.
-/
import Derived.Test.YtdaeiicdpfghlaaDoorRows
import GoSem.ClaimSeven
namespace Go.Proofs.YtdaeiicdpfghlaaDoor
namespace Rows

/-- THE TIED CARD OF 'treenaillaw05.NetChecks'. -/
def netChecksCard : Claim7 := { stood := { row := netChecksRow, standIns := [], harness := (true, "d7543650261ff59d6baf08b4e3141b68b47bc7324baecb08dcedfa1ac1657720"), looks := false }, kinds := [], alts := [], laidByText := true, laidKinds := [.widerDeep], laidTests := true, laidLooks := .later }
def NetChecksCardSaid : Prop := Claim7.holds Tryd.pinned (.plain (OpenSpec.ofChange netChecksSpec)) netChecksCard

/-- THE TIED CARD OF 'treenaillaw05.NetSums'. -/
def netSumsCard : Claim7 := { stood := { row := netSumsRow, standIns := [], harness := (true, "d7543650261ff59d6baf08b4e3141b68b47bc7324baecb08dcedfa1ac1657720"), looks := false }, kinds := [], alts := [], laidByText := true, laidKinds := [.widerDeep], laidTests := true, laidLooks := .later }
def NetSumsCardSaid : Prop := Claim7.holds Tryd.pinned (.plain (OpenSpec.ofChange netSumsSpec)) netSumsCard

/-- THE TIED CARD OF 'treenaillaw05.NetRoads'. -/
def netRoadsCard : Claim7 := { stood := { row := netRoadsRow, standIns := [], harness := (true, "d7543650261ff59d6baf08b4e3141b68b47bc7324baecb08dcedfa1ac1657720"), looks := false }, kinds := [], alts := [], laidByText := true, laidKinds := [.widerDeep], laidTests := true, laidLooks := .later }
def NetRoadsCardSaid : Prop := Claim7.holds Tryd.pinned (.plain (OpenSpec.ofChange netRoadsSpec)) netRoadsCard

/-- THE TIED CARD OF 'treenaillaw05.NetAll'. -/
def netAllCard : Claim7 := { stood := { row := netAllRow, standIns := [], harness := (true, "d7543650261ff59d6baf08b4e3141b68b47bc7324baecb08dcedfa1ac1657720"), looks := false }, kinds := [], alts := [], laidByText := true, laidKinds := [.widerDeep], laidTests := true, laidLooks := .later }
def NetAllCardSaid : Prop := Claim7.holds Tryd.pinned (.plain (OpenSpec.ofChange netAllSpec)) netAllCard

/-- THE TIED CARD OF 'treenaillaw05.NetFlows'. -/
def netFlowsCard : Claim7 := { stood := { row := netFlowsRow, standIns := [], harness := (true, "d7543650261ff59d6baf08b4e3141b68b47bc7324baecb08dcedfa1ac1657720"), looks := false }, kinds := [], alts := [], laidByText := true, laidKinds := [.widerDeep], laidTests := true, laidLooks := .later }
def NetFlowsCardSaid : Prop := Claim7.holds Tryd.pinned (.plain (OpenSpec.ofChange netFlowsSpec)) netFlowsCard

/-- THE TIED CARD OF 'treenaillaw05.NetCopies'. -/
def netCopiesCard : Claim7 := { stood := { row := netCopiesRow, standIns := [], harness := (true, "d7543650261ff59d6baf08b4e3141b68b47bc7324baecb08dcedfa1ac1657720"), looks := false }, kinds := [], alts := [], laidByText := true, laidKinds := [.widerDeep], laidTests := true, laidLooks := .later }
def NetCopiesCardSaid : Prop := Claim7.holds Tryd.pinned (.plain (OpenSpec.ofChange netCopiesSpec)) netCopiesCard

/-- THE SECOND FORM's CARD OF 'treenaillaw05.NetChecks'. -/
def netChecksUptoCard : Claim7 := { stood := { row := netChecksUptoRow, standIns := [], harness := (true, "d7543650261ff59d6baf08b4e3141b68b47bc7324baecb08dcedfa1ac1657720"), looks := false }, kinds := [], alts := [], laidByText := true, laidKinds := [.widerDeep], laidTests := true, laidLooks := .later }
def NetChecksUptoCardSaid : Prop := Claim7.holds Tryd.pinned (.plain (OpenSpec.upto netChecksSpec)) netChecksUptoCard

/-- THE SECOND FORM's CARD OF 'treenaillaw05.NetSums'. -/
def netSumsUptoCard : Claim7 := { stood := { row := netSumsUptoRow, standIns := [], harness := (true, "d7543650261ff59d6baf08b4e3141b68b47bc7324baecb08dcedfa1ac1657720"), looks := false }, kinds := [], alts := [], laidByText := true, laidKinds := [.widerDeep], laidTests := true, laidLooks := .later }
def NetSumsUptoCardSaid : Prop := Claim7.holds Tryd.pinned (.plain (OpenSpec.upto netSumsSpec)) netSumsUptoCard

/-- THE SECOND FORM's CARD OF 'treenaillaw05.NetRoads'. -/
def netRoadsUptoCard : Claim7 := { stood := { row := netRoadsUptoRow, standIns := [], harness := (true, "d7543650261ff59d6baf08b4e3141b68b47bc7324baecb08dcedfa1ac1657720"), looks := false }, kinds := [], alts := [], laidByText := true, laidKinds := [.widerDeep], laidTests := true, laidLooks := .later }
def NetRoadsUptoCardSaid : Prop := Claim7.holds Tryd.pinned (.plain (OpenSpec.upto netRoadsSpec)) netRoadsUptoCard

/-- THE SECOND FORM's CARD OF 'treenaillaw05.NetAll'. -/
def netAllUptoCard : Claim7 := { stood := { row := netAllUptoRow, standIns := [], harness := (true, "d7543650261ff59d6baf08b4e3141b68b47bc7324baecb08dcedfa1ac1657720"), looks := false }, kinds := [], alts := [], laidByText := true, laidKinds := [.widerDeep], laidTests := true, laidLooks := .later }
def NetAllUptoCardSaid : Prop := Claim7.holds Tryd.pinned (.plain (OpenSpec.upto netAllSpec)) netAllUptoCard

/-- THE SECOND FORM's CARD OF 'treenaillaw05.NetFlows'. -/
def netFlowsUptoCard : Claim7 := { stood := { row := netFlowsUptoRow, standIns := [], harness := (true, "d7543650261ff59d6baf08b4e3141b68b47bc7324baecb08dcedfa1ac1657720"), looks := false }, kinds := [], alts := [], laidByText := true, laidKinds := [.widerDeep], laidTests := true, laidLooks := .later }
def NetFlowsUptoCardSaid : Prop := Claim7.holds Tryd.pinned (.plain (OpenSpec.upto netFlowsSpec)) netFlowsUptoCard

/-- THE SECOND FORM's CARD OF 'treenaillaw05.NetCopies'. -/
def netCopiesUptoCard : Claim7 := { stood := { row := netCopiesUptoRow, standIns := [], harness := (true, "d7543650261ff59d6baf08b4e3141b68b47bc7324baecb08dcedfa1ac1657720"), looks := false }, kinds := [], alts := [], laidByText := true, laidKinds := [.widerDeep], laidTests := true, laidLooks := .later }
def NetCopiesUptoCardSaid : Prop := Claim7.holds Tryd.pinned (.plain (OpenSpec.upto netCopiesSpec)) netCopiesUptoCard
end Rows
end Go.Proofs.YtdaeiicdpfghlaaDoor
