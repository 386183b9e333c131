/-
  DERIVED. GIVEN WITH THE SEED: THE CARDS: each row of YthodghlpcklaeaaGreatDoorRows.lean that lists a variable, with what it lists TIED to the program's text (the seventh form; the later family's looks); each row that meets fmt, with fmt's text TOLD by the authors' own Lean function (tested against real Go, not proved from fmt's source: count such statements apart). THE CARD IS WHAT COUNTS. Prove the row's statement (the work); the ties are given (YthodghlpcklaeaaGreatDoorTie.lean); close each card by the builder's one call (the guide's Derived/Test/ToyasCard.lean, 'card_holds'). Laid BY PROGRAM, IN A SANDBOX (cutbox-door.mjs). By AI agents, Wed Nov 11 2026. No macro, syntax, notation, axiom, sorry.
-/
import Derived.Test.YthodghlpcklaeaaGreatDoorRows
import GoSem.ClaimSeven
namespace Go.Proofs.YthodghlpcklaeaaGreatDoor
namespace Rows

/-- THE TIED CARD OF 'treenaillaw19.DeadStarts'. -/
def deadStartsCard : Claim7 := { stood := { row := deadStartsRow, standIns := [], harness := (true, "755e3d16b4f2a11c3b81e3845db3f35608e0141002795527d66ef4b81d9e3636"), looks := false }, kinds := [], alts := [], laidByText := true, laidKinds := [.widerDeep], laidTests := true, laidLooks := .later }
def DeadStartsCardSaid : Prop := Claim7.holds Tryz.pinned (.plain (OpenSpec.ofChange deadStartsSpec)) deadStartsCard

/-- THE TIED CARD OF 'treenaillaw19.DeadChooses'. -/
def deadChoosesCard : Claim7 := { stood := { row := deadChoosesRow, standIns := [], harness := (true, "755e3d16b4f2a11c3b81e3845db3f35608e0141002795527d66ef4b81d9e3636"), looks := false }, kinds := [], alts := [], laidByText := true, laidKinds := [.widerDeep], laidTests := true, laidLooks := .later }
def DeadChoosesCardSaid : Prop := Claim7.holds Tryz.pinned (.plain (OpenSpec.ofChange deadChoosesSpec)) deadChoosesCard

/-- THE TIED CARD OF 'treenaillaw19.DeadFinishes'. -/
def deadFinishesCard : Claim7 := { stood := { row := deadFinishesRow, standIns := [], harness := (true, "755e3d16b4f2a11c3b81e3845db3f35608e0141002795527d66ef4b81d9e3636"), looks := false }, kinds := [], alts := [], laidByText := true, laidKinds := [.widerDeep], laidTests := true, laidLooks := .later }
def DeadFinishesCardSaid : Prop := Claim7.holds Tryz.pinned (.plain (OpenSpec.ofChange deadFinishesSpec)) deadFinishesCard

/-- THE TIED CARD OF 'treenaillaw19.DeadRuns'. -/
def deadRunsCard : Claim7 := { stood := { row := deadRunsRow, standIns := [], harness := (true, "755e3d16b4f2a11c3b81e3845db3f35608e0141002795527d66ef4b81d9e3636"), looks := false }, kinds := [], alts := [], laidByText := true, laidKinds := [.widerDeep], laidTests := true, laidLooks := .later }
def DeadRunsCardSaid : Prop := Claim7.holds Tryz.pinned (.plain (OpenSpec.ofChange deadRunsSpec)) deadRunsCard

/-- THE SECOND FORM's CARD OF 'treenaillaw19.DeadStarts'. -/
def deadStartsUptoCard : Claim7 := { stood := { row := deadStartsUptoRow, standIns := [], harness := (true, "755e3d16b4f2a11c3b81e3845db3f35608e0141002795527d66ef4b81d9e3636"), looks := false }, kinds := [], alts := [], laidByText := true, laidKinds := [.widerDeep], laidTests := true, laidLooks := .later }
def DeadStartsUptoCardSaid : Prop := Claim7.holds Tryz.pinned (.plain (OpenSpec.upto deadStartsSpec)) deadStartsUptoCard

/-- THE SECOND FORM's CARD OF 'treenaillaw19.DeadChooses'. -/
def deadChoosesUptoCard : Claim7 := { stood := { row := deadChoosesUptoRow, standIns := [], harness := (true, "755e3d16b4f2a11c3b81e3845db3f35608e0141002795527d66ef4b81d9e3636"), looks := false }, kinds := [], alts := [], laidByText := true, laidKinds := [.widerDeep], laidTests := true, laidLooks := .later }
def DeadChoosesUptoCardSaid : Prop := Claim7.holds Tryz.pinned (.plain (OpenSpec.upto deadChoosesSpec)) deadChoosesUptoCard

/-- THE SECOND FORM's CARD OF 'treenaillaw19.DeadFinishes'. -/
def deadFinishesUptoCard : Claim7 := { stood := { row := deadFinishesUptoRow, standIns := [], harness := (true, "755e3d16b4f2a11c3b81e3845db3f35608e0141002795527d66ef4b81d9e3636"), looks := false }, kinds := [], alts := [], laidByText := true, laidKinds := [.widerDeep], laidTests := true, laidLooks := .later }
def DeadFinishesUptoCardSaid : Prop := Claim7.holds Tryz.pinned (.plain (OpenSpec.upto deadFinishesSpec)) deadFinishesUptoCard

/-- THE SECOND FORM's CARD OF 'treenaillaw19.DeadRuns'. -/
def deadRunsUptoCard : Claim7 := { stood := { row := deadRunsUptoRow, standIns := [], harness := (true, "755e3d16b4f2a11c3b81e3845db3f35608e0141002795527d66ef4b81d9e3636"), looks := false }, kinds := [], alts := [], laidByText := true, laidKinds := [.widerDeep], laidTests := true, laidLooks := .later }
def DeadRunsUptoCardSaid : Prop := Claim7.holds Tryz.pinned (.plain (OpenSpec.upto deadRunsSpec)) deadRunsUptoCard
end Rows
end Go.Proofs.YthodghlpcklaeaaGreatDoor
