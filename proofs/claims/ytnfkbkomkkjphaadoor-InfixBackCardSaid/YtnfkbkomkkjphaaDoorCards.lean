/-
  DERIVED. GIVEN WITH THE SEED: THE CARDS: each row of YtnfkbkomkkjphaaDoorRows.lean that lists a variable, with what it lists TIED to the program's text (the seventh form; the later family's looks); each row that meets fmt, with fmt's text TOLD by the authors' own Lean function (tested against real Go, not proved from fmt's source: count such statements apart). THE CARD IS WHAT COUNTS. Prove the row's statement (the work); the ties are given (YtnfkbkomkkjphaaDoorTie.lean); close each card by the builder's one call (the guide's Derived/Test/ToyasCard.lean, 'card_holds'). Laid BY PROGRAM, IN A SANDBOX (cutbox-door.mjs). By AI agents, Wed Nov 11 2026. No macro, syntax, notation, axiom, sorry.
-/
import Derived.Test.YtnfkbkomkkjphaaDoorRows
import GoSem.ClaimSeven
namespace Go.Proofs.YtnfkbkomkkjphaaDoor
namespace Rows

/-- THE TIED CARD OF 'treenaillaw29.InfixTokens'. -/
def infixTokensCard : Claim7 := { stood := { row := infixTokensRow, standIns := [], harness := (true, "e8d119cd8cf5afdf30b264101944ff3aa540bcb02e951ec57a95edac4f146faf"), looks := false }, kinds := [], alts := [], laidByText := true, laidKinds := [.widerDeep, .widerDeep, .data], laidTests := true, laidLooks := .later }
def InfixTokensCardSaid : Prop := Claim7.holds Tryd.pinned (.plain (OpenSpec.ofChange infixTokensSpec)) infixTokensCard

/-- THE TIED CARD OF 'treenaillaw29.InfixParses'. -/
def infixParsesCard : Claim7 := { stood := { row := infixParsesRow, standIns := [], harness := (true, "e8d119cd8cf5afdf30b264101944ff3aa540bcb02e951ec57a95edac4f146faf"), looks := false }, kinds := [], alts := [], laidByText := true, laidKinds := [.widerDeep, .widerDeep, .data], laidTests := true, laidLooks := .later }
def InfixParsesCardSaid : Prop := Claim7.holds Tryd.pinned (.plain (OpenSpec.ofChange infixParsesSpec)) infixParsesCard

/-- THE TIED CARD OF 'treenaillaw29.InfixTexts'. -/
def infixTextsCard : Claim7 := { stood := { row := infixTextsRow, standIns := [], harness := (true, "e8d119cd8cf5afdf30b264101944ff3aa540bcb02e951ec57a95edac4f146faf"), looks := false }, kinds := [], alts := [], laidByText := true, laidKinds := [.widerDeep, .widerDeep, .data], laidTests := true, laidLooks := .later }
def InfixTextsCardSaid : Prop := Claim7.holds Tryd.pinned (.plain (OpenSpec.ofChange infixTextsSpec)) infixTextsCard

/-- THE TIED CARD OF 'treenaillaw29.InfixBack'. -/
def infixBackCard : Claim7 := { stood := { row := infixBackRow, standIns := [], harness := (true, "e8d119cd8cf5afdf30b264101944ff3aa540bcb02e951ec57a95edac4f146faf"), looks := false }, kinds := [], alts := [], laidByText := true, laidKinds := [.widerDeep, .widerDeep, .data], laidTests := true, laidLooks := .later }
def InfixBackCardSaid : Prop := Claim7.holds Tryd.pinned (.plain (OpenSpec.ofChange infixBackSpec)) infixBackCard

/-- THE TIED CARD OF 'treenaillaw29.InfixLeast'. -/
def infixLeastCard : Claim7 := { stood := { row := infixLeastRow, standIns := [], harness := (true, "e8d119cd8cf5afdf30b264101944ff3aa540bcb02e951ec57a95edac4f146faf"), looks := false }, kinds := [], alts := [], laidByText := true, laidKinds := [.widerDeep, .widerDeep, .data], laidTests := true, laidLooks := .later }
def InfixLeastCardSaid : Prop := Claim7.holds Tryd.pinned (.plain (OpenSpec.ofChange infixLeastSpec)) infixLeastCard

/-- THE TIED CARD OF 'treenaillaw29.InfixSpaces'. -/
def infixSpacesCard : Claim7 := { stood := { row := infixSpacesRow, standIns := [], harness := (true, "e8d119cd8cf5afdf30b264101944ff3aa540bcb02e951ec57a95edac4f146faf"), looks := false }, kinds := [], alts := [], laidByText := true, laidKinds := [.widerDeep, .widerDeep, .data], laidTests := true, laidLooks := .later }
def InfixSpacesCardSaid : Prop := Claim7.holds Tryd.pinned (.plain (OpenSpec.ofChange infixSpacesSpec)) infixSpacesCard

/-- THE SECOND FORM's CARD OF 'treenaillaw29.InfixTokens'. -/
def infixTokensUptoCard : Claim7 := { stood := { row := infixTokensUptoRow, standIns := [], harness := (true, "e8d119cd8cf5afdf30b264101944ff3aa540bcb02e951ec57a95edac4f146faf"), looks := false }, kinds := [], alts := [], laidByText := true, laidKinds := [.widerDeep, .widerDeep, .data], laidTests := true, laidLooks := .later }
def InfixTokensUptoCardSaid : Prop := Claim7.holds Tryd.pinned (.plain (OpenSpec.upto infixTokensSpec)) infixTokensUptoCard

/-- THE SECOND FORM's CARD OF 'treenaillaw29.InfixParses'. -/
def infixParsesUptoCard : Claim7 := { stood := { row := infixParsesUptoRow, standIns := [], harness := (true, "e8d119cd8cf5afdf30b264101944ff3aa540bcb02e951ec57a95edac4f146faf"), looks := false }, kinds := [], alts := [], laidByText := true, laidKinds := [.widerDeep, .widerDeep, .data], laidTests := true, laidLooks := .later }
def InfixParsesUptoCardSaid : Prop := Claim7.holds Tryd.pinned (.plain (OpenSpec.upto infixParsesSpec)) infixParsesUptoCard

/-- THE SECOND FORM's CARD OF 'treenaillaw29.InfixTexts'. -/
def infixTextsUptoCard : Claim7 := { stood := { row := infixTextsUptoRow, standIns := [], harness := (true, "e8d119cd8cf5afdf30b264101944ff3aa540bcb02e951ec57a95edac4f146faf"), looks := false }, kinds := [], alts := [], laidByText := true, laidKinds := [.widerDeep, .widerDeep, .data], laidTests := true, laidLooks := .later }
def InfixTextsUptoCardSaid : Prop := Claim7.holds Tryd.pinned (.plain (OpenSpec.upto infixTextsSpec)) infixTextsUptoCard

/-- THE SECOND FORM's CARD OF 'treenaillaw29.InfixBack'. -/
def infixBackUptoCard : Claim7 := { stood := { row := infixBackUptoRow, standIns := [], harness := (true, "e8d119cd8cf5afdf30b264101944ff3aa540bcb02e951ec57a95edac4f146faf"), looks := false }, kinds := [], alts := [], laidByText := true, laidKinds := [.widerDeep, .widerDeep, .data], laidTests := true, laidLooks := .later }
def InfixBackUptoCardSaid : Prop := Claim7.holds Tryd.pinned (.plain (OpenSpec.upto infixBackSpec)) infixBackUptoCard

/-- THE SECOND FORM's CARD OF 'treenaillaw29.InfixLeast'. -/
def infixLeastUptoCard : Claim7 := { stood := { row := infixLeastUptoRow, standIns := [], harness := (true, "e8d119cd8cf5afdf30b264101944ff3aa540bcb02e951ec57a95edac4f146faf"), looks := false }, kinds := [], alts := [], laidByText := true, laidKinds := [.widerDeep, .widerDeep, .data], laidTests := true, laidLooks := .later }
def InfixLeastUptoCardSaid : Prop := Claim7.holds Tryd.pinned (.plain (OpenSpec.upto infixLeastSpec)) infixLeastUptoCard

/-- THE SECOND FORM's CARD OF 'treenaillaw29.InfixSpaces'. -/
def infixSpacesUptoCard : Claim7 := { stood := { row := infixSpacesUptoRow, standIns := [], harness := (true, "e8d119cd8cf5afdf30b264101944ff3aa540bcb02e951ec57a95edac4f146faf"), looks := false }, kinds := [], alts := [], laidByText := true, laidKinds := [.widerDeep, .widerDeep, .data], laidTests := true, laidLooks := .later }
def InfixSpacesUptoCardSaid : Prop := Claim7.holds Tryd.pinned (.plain (OpenSpec.upto infixSpacesSpec)) infixSpacesUptoCard
end Rows
end Go.Proofs.YtnfkbkomkkjphaaDoor
