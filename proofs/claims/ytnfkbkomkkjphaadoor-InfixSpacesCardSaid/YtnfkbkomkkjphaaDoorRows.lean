/-
  NARROWER THAN 'FOR EVERY INPUT', by the rows' own cells (each row's printed sentence says how): InfixTokens: laid · InfixParses: laid · InfixTexts: loops, laid · InfixBack: loops, laid · InfixLeast: loops, laid · InfixSpaces: loops, laid.
  DERIVED. THE GIVEN ROWS OF THIS SEAT. 6 by the template 'for every input the law returns true; each argument reads behind the call as it read before'; 0 by the template 'total and deterministic' (their statements: YtnfkbkomkkjphaaDoorTotals.lean).
  GIVEN WITH THE SEED: the statements are not yours to turn. If you find one false, say at which input.
  Laid BY PROGRAM, IN A SANDBOX (cutbox-rows.mjs): the forced cells as the released guide's own fill.sh prints them over the translation 28cde503b543b04f… (all of the seat's roots in one cut). By AI agents, Wed Nov 11 2026. No macro, syntax, notation, axiom, sorry.
-/
import Derived.Test.YtnfkbkomkkjphaaDoorChecked
import GoSem.Claim
import GoSem.ClaimJoined
import GoSem.ClaimMapViews
import Derived.JoinedTies
import Derived.KernelRfl
namespace Go.Proofs.YtnfkbkomkkjphaaDoor
/- THE CELL 'sum', in the pinned program and in every row, IS THE sha256 OF THE DUMP (.gsa) THAT YtnfkbkomkkjphaaDoorProg.lean LOADS. Nothing in Lean hashes anything: it is a label: what it is worth is what the hold of that sum in a sandbox is worth. -/
noncomputable def Tryd.pinned : Pinned := { name := "ytnfkbkomkkjphaadoor", sum := "28cde503b543b04fa44125d5f20375454d45cc6fa7415582a6a601ec8df5023a", checked := Tryd.checked }
namespace Rows
def none {H : Type} : Left H := { results := [], args := [] }

/- WHAT THE LISTED PACKAGE-LEVEL VARIABLES READ AS WHEN THE CALL BEGINS. Each datum BY PROGRAM (the guide's laid-datum.mjs) off the statement by which the dump's own 'gosem.cut.vars' lays the variable. In a bare row this is a premise. The card (YtnfkbkomkkjphaaDoorCards.lean) ties it to the program's text. -/
def laid_treenail_term_words {H : Type} : DataW H := .agg [.agg [.lit (.string []), .lit (.int .i64 0), .lit (.int .i64 0), .lit (.int .i64 0)], .agg [.lit (.string []), .lit (.int .i64 0), .lit (.int .i64 0), .lit (.int .i64 0)], .agg [.lit (.string []), .lit (.int .i64 0), .lit (.int .i64 0), .lit (.int .i64 0)], .agg [.lit (.string [110, 101, 103]), .lit (.int .i64 1), .lit (.int .i64 1), .lit (.int .i64 1)], .agg [.lit (.string [110, 111, 116]), .lit (.int .i64 1), .lit (.int .i64 2), .lit (.int .i64 2)], .agg [.lit (.string [97, 100, 100]), .lit (.int .i64 2), .lit (.int .i64 1), .lit (.int .i64 1)], .agg [.lit (.string [115, 117, 98]), .lit (.int .i64 2), .lit (.int .i64 1), .lit (.int .i64 1)], .agg [.lit (.string [109, 117, 108]), .lit (.int .i64 2), .lit (.int .i64 1), .lit (.int .i64 1)], .agg [.lit (.string [100, 105, 118]), .lit (.int .i64 2), .lit (.int .i64 1), .lit (.int .i64 1)], .agg [.lit (.string [109, 111, 100]), .lit (.int .i64 2), .lit (.int .i64 1), .lit (.int .i64 1)], .agg [.lit (.string [101, 113]), .lit (.int .i64 2), .lit (.int .i64 1), .lit (.int .i64 2)], .agg [.lit (.string [108, 116]), .lit (.int .i64 2), .lit (.int .i64 1), .lit (.int .i64 2)], .agg [.lit (.string [108, 101]), .lit (.int .i64 2), .lit (.int .i64 1), .lit (.int .i64 2)], .agg [.lit (.string [97, 110, 100]), .lit (.int .i64 2), .lit (.int .i64 2), .lit (.int .i64 2)], .agg [.lit (.string [111, 114]), .lit (.int .i64 2), .lit (.int .i64 2), .lit (.int .i64 2)]]
def laid_treenail_infix_signs {H : Type} : DataW H := .agg [.lit (.string [33, 61]), .lit (.string [60, 61]), .lit (.string [62, 61]), .lit (.string [43]), .lit (.string [45]), .lit (.string [42]), .lit (.string [47]), .lit (.string [37]), .lit (.string [61]), .lit (.string [60]), .lit (.string [62]), .lit (.string [40]), .lit (.string [41])]
def laid_treenail_infix_betweens {H : Type} : DataW H := .agg [.agg [.lit (.string [111, 114]), .lit (.int .i64 1), .lit (.int .i64 14), .lit (.bool false), .lit (.bool false)], .agg [.lit (.string [97, 110, 100]), .lit (.int .i64 2), .lit (.int .i64 13), .lit (.bool false), .lit (.bool false)], .agg [.lit (.string [61]), .lit (.int .i64 4), .lit (.int .i64 10), .lit (.bool false), .lit (.bool false)], .agg [.lit (.string [33, 61]), .lit (.int .i64 4), .lit (.int .i64 10), .lit (.bool false), .lit (.bool true)], .agg [.lit (.string [60]), .lit (.int .i64 4), .lit (.int .i64 11), .lit (.bool false), .lit (.bool false)], .agg [.lit (.string [60, 61]), .lit (.int .i64 4), .lit (.int .i64 12), .lit (.bool false), .lit (.bool false)], .agg [.lit (.string [62]), .lit (.int .i64 4), .lit (.int .i64 11), .lit (.bool true), .lit (.bool false)], .agg [.lit (.string [62, 61]), .lit (.int .i64 4), .lit (.int .i64 12), .lit (.bool true), .lit (.bool false)], .agg [.lit (.string [43]), .lit (.int .i64 5), .lit (.int .i64 5), .lit (.bool false), .lit (.bool false)], .agg [.lit (.string [45]), .lit (.int .i64 5), .lit (.int .i64 6), .lit (.bool false), .lit (.bool false)], .agg [.lit (.string [42]), .lit (.int .i64 6), .lit (.int .i64 7), .lit (.bool false), .lit (.bool false)], .agg [.lit (.string [47]), .lit (.int .i64 6), .lit (.int .i64 8), .lit (.bool false), .lit (.bool false)], .agg [.lit (.string [37]), .lit (.int .i64 6), .lit (.int .i64 9), .lit (.bool false), .lit (.bool false)]]

/-- 'treenaillaw29.InfixTokens': WHATEVER THE INPUT: true; the input reads as it did. -/
def infixTokensSpec : ChangeSpec := { name := "infixTokens", fn := fun _ => fun
  | [d] => { results := [.lit (.bool true)], args := [d] }
  | _ => none }
def infixTokensRow : OpenClaim := { program := "ytnfkbkomkkjphaadoor", sum := "28cde503b543b04fa44125d5f20375454d45cc6fa7415582a6a601ec8df5023a", func := "treenail/treenaillaw29.InfixTokens", spec := "infixTokens", inPlace := ["internal/abi.NoEscape"], unfollowed := true, recurses := true, named := ["treenail/infix.signs", "treenail/infix.betweens", "treenail/term.words"], apart := false, laid := [("treenail/term.words", laid_treenail_term_words), ("treenail/infix.signs", laid_treenail_infix_signs), ("treenail/infix.betweens", laid_treenail_infix_betweens)] }
def InfixTokensSaid : Prop := infixTokensRow.holds Tryd.pinned (OpenSpec.ofChange infixTokensSpec)

/-- ITS FALSE NEIGHBOUR: 'it returns false'. Refute it at one input. -/
def infixTokensWrong : ChangeSpec := { name := "infixTokens", fn := fun _ => fun
  | [d] => { results := [.lit (.bool false)], args := [d] }
  | _ => none }
def InfixTokensWrongFalsely : Prop := infixTokensRow.holds Tryd.pinned (OpenSpec.ofChange infixTokensWrong)

/-- 'treenaillaw29.InfixParses': WHATEVER THE INPUT: true; the input reads as it did. -/
def infixParsesSpec : ChangeSpec := { name := "infixParses", fn := fun _ => fun
  | [d] => { results := [.lit (.bool true)], args := [d] }
  | _ => none }
def infixParsesRow : OpenClaim := { program := "ytnfkbkomkkjphaadoor", sum := "28cde503b543b04fa44125d5f20375454d45cc6fa7415582a6a601ec8df5023a", func := "treenail/treenaillaw29.InfixParses", spec := "infixParses", inPlace := ["internal/abi.NoEscape"], unfollowed := true, recurses := true, named := ["treenail/infix.signs", "treenail/infix.betweens", "treenail/term.words"], apart := false, laid := [("treenail/term.words", laid_treenail_term_words), ("treenail/infix.signs", laid_treenail_infix_signs), ("treenail/infix.betweens", laid_treenail_infix_betweens)] }
def InfixParsesSaid : Prop := infixParsesRow.holds Tryd.pinned (OpenSpec.ofChange infixParsesSpec)

/-- ITS FALSE NEIGHBOUR: 'it returns false'. Refute it at one input. -/
def infixParsesWrong : ChangeSpec := { name := "infixParses", fn := fun _ => fun
  | [d] => { results := [.lit (.bool false)], args := [d] }
  | _ => none }
def InfixParsesWrongFalsely : Prop := infixParsesRow.holds Tryd.pinned (OpenSpec.ofChange infixParsesWrong)

/-- 'treenaillaw29.InfixTexts': WHATEVER THE INPUT: true; the input reads as it did. -/
def infixTextsSpec : ChangeSpec := { name := "infixTexts", fn := fun _ => fun
  | [d] => { results := [.lit (.bool true)], args := [d] }
  | _ => none }
def infixTextsRow : OpenClaim := { program := "ytnfkbkomkkjphaadoor", sum := "28cde503b543b04fa44125d5f20375454d45cc6fa7415582a6a601ec8df5023a", func := "treenail/treenaillaw29.InfixTexts", spec := "infixTexts", inPlace := ["internal/abi.NoEscape"], unfollowed := true, recurses := true, named := ["treenail/infix.signs", "treenail/infix.betweens", "treenail/term.words"], loops := true, apart := false, laid := [("treenail/term.words", laid_treenail_term_words), ("treenail/infix.signs", laid_treenail_infix_signs), ("treenail/infix.betweens", laid_treenail_infix_betweens)] }
def InfixTextsSaid : Prop := infixTextsRow.holds Tryd.pinned (OpenSpec.ofChange infixTextsSpec)

/-- ITS FALSE NEIGHBOUR: 'it returns false'. Refute it at one input. -/
def infixTextsWrong : ChangeSpec := { name := "infixTexts", fn := fun _ => fun
  | [d] => { results := [.lit (.bool false)], args := [d] }
  | _ => none }
def InfixTextsWrongFalsely : Prop := infixTextsRow.holds Tryd.pinned (OpenSpec.ofChange infixTextsWrong)

/-- 'treenaillaw29.InfixBack': WHATEVER THE INPUT: true; the input reads as it did. -/
def infixBackSpec : ChangeSpec := { name := "infixBack", fn := fun _ => fun
  | [d1, d2] => { results := [.lit (.bool true)], args := [d1, d2] }
  | _ => none }
def infixBackRow : OpenClaim := { program := "ytnfkbkomkkjphaadoor", sum := "28cde503b543b04fa44125d5f20375454d45cc6fa7415582a6a601ec8df5023a", func := "treenail/treenaillaw29.InfixBack", spec := "infixBack", inPlace := ["internal/abi.NoEscape"], unfollowed := true, recurses := true, named := ["treenail/infix.signs", "treenail/infix.betweens", "treenail/term.words"], loops := true, apart := false, laid := [("treenail/term.words", laid_treenail_term_words), ("treenail/infix.signs", laid_treenail_infix_signs), ("treenail/infix.betweens", laid_treenail_infix_betweens)] }
def InfixBackSaid : Prop := infixBackRow.holds Tryd.pinned (OpenSpec.ofChange infixBackSpec)

/-- ITS FALSE NEIGHBOUR: 'it returns false'. Refute it at one input. -/
def infixBackWrong : ChangeSpec := { name := "infixBack", fn := fun _ => fun
  | [d1, d2] => { results := [.lit (.bool false)], args := [d1, d2] }
  | _ => none }
def InfixBackWrongFalsely : Prop := infixBackRow.holds Tryd.pinned (OpenSpec.ofChange infixBackWrong)

/-- 'treenaillaw29.InfixLeast': WHATEVER THE INPUT: true; the input reads as it did. -/
def infixLeastSpec : ChangeSpec := { name := "infixLeast", fn := fun _ => fun
  | [d1, d2] => { results := [.lit (.bool true)], args := [d1, d2] }
  | _ => none }
def infixLeastRow : OpenClaim := { program := "ytnfkbkomkkjphaadoor", sum := "28cde503b543b04fa44125d5f20375454d45cc6fa7415582a6a601ec8df5023a", func := "treenail/treenaillaw29.InfixLeast", spec := "infixLeast", inPlace := ["internal/abi.NoEscape"], unfollowed := true, recurses := true, named := ["treenail/infix.signs", "treenail/infix.betweens", "treenail/term.words"], loops := true, apart := false, laid := [("treenail/term.words", laid_treenail_term_words), ("treenail/infix.signs", laid_treenail_infix_signs), ("treenail/infix.betweens", laid_treenail_infix_betweens)] }
def InfixLeastSaid : Prop := infixLeastRow.holds Tryd.pinned (OpenSpec.ofChange infixLeastSpec)

/-- ITS FALSE NEIGHBOUR: 'it returns false'. Refute it at one input. -/
def infixLeastWrong : ChangeSpec := { name := "infixLeast", fn := fun _ => fun
  | [d1, d2] => { results := [.lit (.bool false)], args := [d1, d2] }
  | _ => none }
def InfixLeastWrongFalsely : Prop := infixLeastRow.holds Tryd.pinned (OpenSpec.ofChange infixLeastWrong)

/-- 'treenaillaw29.InfixSpaces': WHATEVER THE INPUT: true; the input reads as it did. -/
def infixSpacesSpec : ChangeSpec := { name := "infixSpaces", fn := fun _ => fun
  | [d] => { results := [.lit (.bool true)], args := [d] }
  | _ => none }
def infixSpacesRow : OpenClaim := { program := "ytnfkbkomkkjphaadoor", sum := "28cde503b543b04fa44125d5f20375454d45cc6fa7415582a6a601ec8df5023a", func := "treenail/treenaillaw29.InfixSpaces", spec := "infixSpaces", inPlace := ["internal/abi.NoEscape"], unfollowed := true, recurses := true, named := ["treenail/infix.signs", "treenail/infix.betweens", "treenail/term.words"], loops := true, apart := false, laid := [("treenail/term.words", laid_treenail_term_words), ("treenail/infix.signs", laid_treenail_infix_signs), ("treenail/infix.betweens", laid_treenail_infix_betweens)] }
def InfixSpacesSaid : Prop := infixSpacesRow.holds Tryd.pinned (OpenSpec.ofChange infixSpacesSpec)

/-- ITS FALSE NEIGHBOUR: 'it returns false'. Refute it at one input. -/
def infixSpacesWrong : ChangeSpec := { name := "infixSpaces", fn := fun _ => fun
  | [d] => { results := [.lit (.bool false)], args := [d] }
  | _ => none }
def InfixSpacesWrongFalsely : Prop := infixSpacesRow.holds Tryd.pinned (OpenSpec.ofChange infixSpacesWrong)

/- THE SECOND FORM. 'bulk': how many values and letters a reading holds, each counted each time it is reached (what is shared counts as often as it is met; a slice's spare places count too). A statement '..UptoSaid' is the law's where the arguments, and the package variables that the reading takes, are together of bulk at most 1048576: NARROWER than '..Said'. Prove '..Said' where nothing that the law and all that it calls make is longer than what came in: it says more and counts as full. Else prove '..UptoSaid'. A law counts once. -/
mutual
def uptoBulk {H : Type} : DataW H → Nat
  | .lit (.string bytes) => bytes.length + 1
  | .lit _ => 1
  | .nil => 1
  | .ptr d => uptoBulk d + 1
  | .slice elems spare => uptoBulkAll elems + uptoBulkAll spare + 1
  | .agg parts => uptoBulkAll parts + 1
  | .iface _ d => uptoBulk d + 1
  | .map entries => uptoBulkEntries entries + 1
  | .held _ => 1
def uptoBulkAll {H : Type} : List (DataW H) → Nat
  | [] => 0
  | d :: r => uptoBulk d + uptoBulkAll r
def uptoBulkEntries {H : Type} : List (Lit × DataW H) → Nat
  | [] => 0
  | x :: r => uptoBulkEntry x + uptoBulkEntries r
def uptoBulkEntry {H : Type} : Lit × DataW H → Nat
  | (.string bytes, d) => bytes.length + uptoBulk d + 1
  | (_, d) => uptoBulk d + 1
 end
def uptoSmall : (H : Type) → List (DataW H) → Bool := fun _ ds => decide (uptoBulkAll ds ≤ 1048576)
def OpenSpec.upto (s : _root_.Go.ChangeSpec) : _root_.Go.OpenSpec := { _root_.Go.OpenSpec.ofChange s with cond := some uptoSmall }

/-- 'treenaillaw29.InfixTokens', WHERE WHAT IT READS IS OF BULK AT MOST 1048576: true; the input reads as it did. -/
def infixTokensUptoRow : OpenClaim := { program := "ytnfkbkomkkjphaadoor", sum := "28cde503b543b04fa44125d5f20375454d45cc6fa7415582a6a601ec8df5023a", func := "treenail/treenaillaw29.InfixTokens", spec := "infixTokens", inPlace := ["internal/abi.NoEscape"], unfollowed := true, recurses := true, named := ["treenail/infix.signs", "treenail/infix.betweens", "treenail/term.words"], apart := false, laid := [("treenail/term.words", laid_treenail_term_words), ("treenail/infix.signs", laid_treenail_infix_signs), ("treenail/infix.betweens", laid_treenail_infix_betweens)], narrowed := true }
def InfixTokensUptoSaid : Prop := infixTokensUptoRow.holds Tryd.pinned (OpenSpec.upto infixTokensSpec)

/-- 'treenaillaw29.InfixParses', WHERE WHAT IT READS IS OF BULK AT MOST 1048576: true; the input reads as it did. -/
def infixParsesUptoRow : OpenClaim := { program := "ytnfkbkomkkjphaadoor", sum := "28cde503b543b04fa44125d5f20375454d45cc6fa7415582a6a601ec8df5023a", func := "treenail/treenaillaw29.InfixParses", spec := "infixParses", inPlace := ["internal/abi.NoEscape"], unfollowed := true, recurses := true, named := ["treenail/infix.signs", "treenail/infix.betweens", "treenail/term.words"], apart := false, laid := [("treenail/term.words", laid_treenail_term_words), ("treenail/infix.signs", laid_treenail_infix_signs), ("treenail/infix.betweens", laid_treenail_infix_betweens)], narrowed := true }
def InfixParsesUptoSaid : Prop := infixParsesUptoRow.holds Tryd.pinned (OpenSpec.upto infixParsesSpec)

/-- 'treenaillaw29.InfixTexts', WHERE WHAT IT READS IS OF BULK AT MOST 1048576: true; the input reads as it did. -/
def infixTextsUptoRow : OpenClaim := { program := "ytnfkbkomkkjphaadoor", sum := "28cde503b543b04fa44125d5f20375454d45cc6fa7415582a6a601ec8df5023a", func := "treenail/treenaillaw29.InfixTexts", spec := "infixTexts", inPlace := ["internal/abi.NoEscape"], unfollowed := true, recurses := true, named := ["treenail/infix.signs", "treenail/infix.betweens", "treenail/term.words"], loops := true, apart := false, laid := [("treenail/term.words", laid_treenail_term_words), ("treenail/infix.signs", laid_treenail_infix_signs), ("treenail/infix.betweens", laid_treenail_infix_betweens)], narrowed := true }
def InfixTextsUptoSaid : Prop := infixTextsUptoRow.holds Tryd.pinned (OpenSpec.upto infixTextsSpec)

/-- 'treenaillaw29.InfixBack', WHERE WHAT IT READS IS OF BULK AT MOST 1048576: true; the input reads as it did. -/
def infixBackUptoRow : OpenClaim := { program := "ytnfkbkomkkjphaadoor", sum := "28cde503b543b04fa44125d5f20375454d45cc6fa7415582a6a601ec8df5023a", func := "treenail/treenaillaw29.InfixBack", spec := "infixBack", inPlace := ["internal/abi.NoEscape"], unfollowed := true, recurses := true, named := ["treenail/infix.signs", "treenail/infix.betweens", "treenail/term.words"], loops := true, apart := false, laid := [("treenail/term.words", laid_treenail_term_words), ("treenail/infix.signs", laid_treenail_infix_signs), ("treenail/infix.betweens", laid_treenail_infix_betweens)], narrowed := true }
def InfixBackUptoSaid : Prop := infixBackUptoRow.holds Tryd.pinned (OpenSpec.upto infixBackSpec)

/-- 'treenaillaw29.InfixLeast', WHERE WHAT IT READS IS OF BULK AT MOST 1048576: true; the input reads as it did. -/
def infixLeastUptoRow : OpenClaim := { program := "ytnfkbkomkkjphaadoor", sum := "28cde503b543b04fa44125d5f20375454d45cc6fa7415582a6a601ec8df5023a", func := "treenail/treenaillaw29.InfixLeast", spec := "infixLeast", inPlace := ["internal/abi.NoEscape"], unfollowed := true, recurses := true, named := ["treenail/infix.signs", "treenail/infix.betweens", "treenail/term.words"], loops := true, apart := false, laid := [("treenail/term.words", laid_treenail_term_words), ("treenail/infix.signs", laid_treenail_infix_signs), ("treenail/infix.betweens", laid_treenail_infix_betweens)], narrowed := true }
def InfixLeastUptoSaid : Prop := infixLeastUptoRow.holds Tryd.pinned (OpenSpec.upto infixLeastSpec)

/-- 'treenaillaw29.InfixSpaces', WHERE WHAT IT READS IS OF BULK AT MOST 1048576: true; the input reads as it did. -/
def infixSpacesUptoRow : OpenClaim := { program := "ytnfkbkomkkjphaadoor", sum := "28cde503b543b04fa44125d5f20375454d45cc6fa7415582a6a601ec8df5023a", func := "treenail/treenaillaw29.InfixSpaces", spec := "infixSpaces", inPlace := ["internal/abi.NoEscape"], unfollowed := true, recurses := true, named := ["treenail/infix.signs", "treenail/infix.betweens", "treenail/term.words"], loops := true, apart := false, laid := [("treenail/term.words", laid_treenail_term_words), ("treenail/infix.signs", laid_treenail_infix_signs), ("treenail/infix.betweens", laid_treenail_infix_betweens)], narrowed := true }
def InfixSpacesUptoSaid : Prop := infixSpacesUptoRow.holds Tryd.pinned (OpenSpec.upto infixSpacesSpec)

end Rows
end Go.Proofs.YtnfkbkomkkjphaaDoor
