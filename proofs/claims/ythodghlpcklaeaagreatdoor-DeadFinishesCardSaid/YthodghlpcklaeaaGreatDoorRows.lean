/-
  NARROWER THAN 'FOR EVERY INPUT', by the rows' own cells (each row's printed sentence says how): DeadStarts: loops, laid · DeadChooses: loops, laid · DeadFinishes: loops, laid · DeadRuns: loops, laid.
  DERIVED. THE GIVEN ROWS OF THIS SEAT. 4 by the template 'for every input the law returns true; each argument reads behind the call as it read before'; 0 by the template 'total and deterministic' (their statements: YthodghlpcklaeaaGreatDoorTotals.lean).
  GIVEN WITH THE SEED: the statements are not yours to turn. If you find one false, say at which input.
  Laid BY PROGRAM, IN A SANDBOX (cutbox-rows.mjs): the forced cells as the released guide's own fill.sh prints them over the translation ba17aa0cfa573944… (all of the seat's roots in one cut). By AI agents, Wed Nov 11 2026. No macro, syntax, notation, axiom, sorry.
-/
import Derived.Test.YthodghlpcklaeaaGreatDoorChecked
import GoSem.Claim
import GoSem.ClaimJoined
import GoSem.ClaimMapViews
import Derived.JoinedTies
import Derived.KernelRfl
namespace Go.Proofs.YthodghlpcklaeaaGreatDoor
/- THE CELL 'sum', in the pinned program and in every row, IS THE sha256 OF THE DUMP (.gsa) THAT YthodghlpcklaeaaGreatDoorProg.lean LOADS. Nothing in Lean hashes anything: it is a label: what it is worth is what the hold of that sum in a sandbox is worth. -/
noncomputable def Tryz.pinned : Pinned := { name := "ythodghlpcklaeaagreatdoor", sum := "ba17aa0cfa573944ec16b3dc672adf0f37c57d168d20e0bd89c48441ff1ee8a0", checked := Tryz.checked }
namespace Rows
def none {H : Type} : Left H := { results := [], args := [] }

/- WHAT THE LISTED PACKAGE-LEVEL VARIABLES READ AS WHEN THE CALL BEGINS. Each datum BY PROGRAM (the guide's laid-datum.mjs) off the statement by which the dump's own 'gosem.cut.vars' lays the variable. In a bare row this is a premise. The card (YthodghlpcklaeaaGreatDoorCards.lean) ties it to the program's text. -/
def laid_treenail_term_words {H : Type} : DataW H := .agg [.agg [.lit (.string []), .lit (.int .i64 0), .lit (.int .i64 0), .lit (.int .i64 0)], .agg [.lit (.string []), .lit (.int .i64 0), .lit (.int .i64 0), .lit (.int .i64 0)], .agg [.lit (.string []), .lit (.int .i64 0), .lit (.int .i64 0), .lit (.int .i64 0)], .agg [.lit (.string [110, 101, 103]), .lit (.int .i64 1), .lit (.int .i64 1), .lit (.int .i64 1)], .agg [.lit (.string [110, 111, 116]), .lit (.int .i64 1), .lit (.int .i64 2), .lit (.int .i64 2)], .agg [.lit (.string [97, 100, 100]), .lit (.int .i64 2), .lit (.int .i64 1), .lit (.int .i64 1)], .agg [.lit (.string [115, 117, 98]), .lit (.int .i64 2), .lit (.int .i64 1), .lit (.int .i64 1)], .agg [.lit (.string [109, 117, 108]), .lit (.int .i64 2), .lit (.int .i64 1), .lit (.int .i64 1)], .agg [.lit (.string [100, 105, 118]), .lit (.int .i64 2), .lit (.int .i64 1), .lit (.int .i64 1)], .agg [.lit (.string [109, 111, 100]), .lit (.int .i64 2), .lit (.int .i64 1), .lit (.int .i64 1)], .agg [.lit (.string [101, 113]), .lit (.int .i64 2), .lit (.int .i64 1), .lit (.int .i64 2)], .agg [.lit (.string [108, 116]), .lit (.int .i64 2), .lit (.int .i64 1), .lit (.int .i64 2)], .agg [.lit (.string [108, 101]), .lit (.int .i64 2), .lit (.int .i64 1), .lit (.int .i64 2)], .agg [.lit (.string [97, 110, 100]), .lit (.int .i64 2), .lit (.int .i64 2), .lit (.int .i64 2)], .agg [.lit (.string [111, 114]), .lit (.int .i64 2), .lit (.int .i64 2), .lit (.int .i64 2)]]

/-- 'treenaillaw19.DeadStarts': WHATEVER THE INPUT: true; the input reads as it did. -/
def deadStartsSpec : ChangeSpec := { name := "deadStarts", fn := fun _ => fun
  | [d] => { results := [.lit (.bool true)], args := [d] }
  | _ => none }
def deadStartsRow : OpenClaim := { program := "ythodghlpcklaeaagreatdoor", sum := "ba17aa0cfa573944ec16b3dc672adf0f37c57d168d20e0bd89c48441ff1ee8a0", func := "treenail/treenaillaw19.DeadStarts", spec := "deadStarts", unfollowed := true, recurses := true, named := ["treenail/term.words"], loops := true, apart := false, laid := [("treenail/term.words", laid_treenail_term_words)] }
def DeadStartsSaid : Prop := deadStartsRow.holds Tryz.pinned (OpenSpec.ofChange deadStartsSpec)

/-- ITS FALSE NEIGHBOUR: 'it returns false'. Refute it at one input. -/
def deadStartsWrong : ChangeSpec := { name := "deadStarts", fn := fun _ => fun
  | [d] => { results := [.lit (.bool false)], args := [d] }
  | _ => none }
def DeadStartsWrongFalsely : Prop := deadStartsRow.holds Tryz.pinned (OpenSpec.ofChange deadStartsWrong)

/-- 'treenaillaw19.DeadChooses': WHATEVER THE INPUT: true; the input reads as it did. -/
def deadChoosesSpec : ChangeSpec := { name := "deadChooses", fn := fun _ => fun
  | [d1, d2, d3] => { results := [.lit (.bool true)], args := [d1, d2, d3] }
  | _ => none }
def deadChoosesRow : OpenClaim := { program := "ythodghlpcklaeaagreatdoor", sum := "ba17aa0cfa573944ec16b3dc672adf0f37c57d168d20e0bd89c48441ff1ee8a0", func := "treenail/treenaillaw19.DeadChooses", spec := "deadChooses", unfollowed := true, recurses := true, named := ["treenail/term.words"], loops := true, apart := false, laid := [("treenail/term.words", laid_treenail_term_words)] }
def DeadChoosesSaid : Prop := deadChoosesRow.holds Tryz.pinned (OpenSpec.ofChange deadChoosesSpec)

/-- ITS FALSE NEIGHBOUR: 'it returns false'. Refute it at one input. -/
def deadChoosesWrong : ChangeSpec := { name := "deadChooses", fn := fun _ => fun
  | [d1, d2, d3] => { results := [.lit (.bool false)], args := [d1, d2, d3] }
  | _ => none }
def DeadChoosesWrongFalsely : Prop := deadChoosesRow.holds Tryz.pinned (OpenSpec.ofChange deadChoosesWrong)

/-- 'treenaillaw19.DeadFinishes': WHATEVER THE INPUT: true; the input reads as it did. -/
def deadFinishesSpec : ChangeSpec := { name := "deadFinishes", fn := fun _ => fun
  | [d1, d2, d3] => { results := [.lit (.bool true)], args := [d1, d2, d3] }
  | _ => none }
def deadFinishesRow : OpenClaim := { program := "ythodghlpcklaeaagreatdoor", sum := "ba17aa0cfa573944ec16b3dc672adf0f37c57d168d20e0bd89c48441ff1ee8a0", func := "treenail/treenaillaw19.DeadFinishes", spec := "deadFinishes", unfollowed := true, recurses := true, named := ["treenail/term.words"], loops := true, apart := false, laid := [("treenail/term.words", laid_treenail_term_words)] }
def DeadFinishesSaid : Prop := deadFinishesRow.holds Tryz.pinned (OpenSpec.ofChange deadFinishesSpec)

/-- ITS FALSE NEIGHBOUR: 'it returns false'. Refute it at one input. -/
def deadFinishesWrong : ChangeSpec := { name := "deadFinishes", fn := fun _ => fun
  | [d1, d2, d3] => { results := [.lit (.bool false)], args := [d1, d2, d3] }
  | _ => none }
def DeadFinishesWrongFalsely : Prop := deadFinishesRow.holds Tryz.pinned (OpenSpec.ofChange deadFinishesWrong)

/-- 'treenaillaw19.DeadRuns': WHATEVER THE INPUT: true; the input reads as it did. -/
def deadRunsSpec : ChangeSpec := { name := "deadRuns", fn := fun _ => fun
  | [d1, d2] => { results := [.lit (.bool true)], args := [d1, d2] }
  | _ => none }
def deadRunsRow : OpenClaim := { program := "ythodghlpcklaeaagreatdoor", sum := "ba17aa0cfa573944ec16b3dc672adf0f37c57d168d20e0bd89c48441ff1ee8a0", func := "treenail/treenaillaw19.DeadRuns", spec := "deadRuns", unfollowed := true, recurses := true, named := ["treenail/term.words"], loops := true, apart := false, laid := [("treenail/term.words", laid_treenail_term_words)] }
def DeadRunsSaid : Prop := deadRunsRow.holds Tryz.pinned (OpenSpec.ofChange deadRunsSpec)

/-- ITS FALSE NEIGHBOUR: 'it returns false'. Refute it at one input. -/
def deadRunsWrong : ChangeSpec := { name := "deadRuns", fn := fun _ => fun
  | [d1, d2] => { results := [.lit (.bool false)], args := [d1, d2] }
  | _ => none }
def DeadRunsWrongFalsely : Prop := deadRunsRow.holds Tryz.pinned (OpenSpec.ofChange deadRunsWrong)

/- THE SECOND FORM. 'bulk': how many values and letters a reading holds, each counted each time it is reached (what is shared counts as often as it is met; a slice's spare places count too). A statement '..UptoSaid' is the law's where the arguments, and the package variables that the reading takes, are together of bulk at most 1048576: NARROWER than '..Said'. Prove '..Said' where nothing that the law and all that it calls make is longer than what came in: it says more and counts as full. Else prove '..UptoSaid'. A law counts once. -/
mutual
def uptoBulk {H : Type} : DataW H → Nat
  | .lit (.string bytes) => bytes.length + 1
  | .lit _ => 1
  | .nil => 1
  | .ptr d => uptoBulk d + 1
  | .slice elems spare => uptoBulkAll elems + uptoBulkAll spare + 1
  | .agg parts => uptoBulkAll parts + 1
  | .iface _ d => uptoBulk d + 1
  | .map entries => uptoBulkEntries entries + 1
  | .held _ => 1
def uptoBulkAll {H : Type} : List (DataW H) → Nat
  | [] => 0
  | d :: r => uptoBulk d + uptoBulkAll r
def uptoBulkEntries {H : Type} : List (Lit × DataW H) → Nat
  | [] => 0
  | x :: r => uptoBulkEntry x + uptoBulkEntries r
def uptoBulkEntry {H : Type} : Lit × DataW H → Nat
  | (.string bytes, d) => bytes.length + uptoBulk d + 1
  | (_, d) => uptoBulk d + 1
 end
def uptoSmall : (H : Type) → List (DataW H) → Bool := fun _ ds => decide (uptoBulkAll ds ≤ 1048576)
def OpenSpec.upto (s : _root_.Go.ChangeSpec) : _root_.Go.OpenSpec := { _root_.Go.OpenSpec.ofChange s with cond := some uptoSmall }

/-- 'treenaillaw19.DeadStarts', WHERE WHAT IT READS IS OF BULK AT MOST 1048576: true; the input reads as it did. -/
def deadStartsUptoRow : OpenClaim := { program := "ythodghlpcklaeaagreatdoor", sum := "ba17aa0cfa573944ec16b3dc672adf0f37c57d168d20e0bd89c48441ff1ee8a0", func := "treenail/treenaillaw19.DeadStarts", spec := "deadStarts", unfollowed := true, recurses := true, named := ["treenail/term.words"], loops := true, apart := false, laid := [("treenail/term.words", laid_treenail_term_words)], narrowed := true }
def DeadStartsUptoSaid : Prop := deadStartsUptoRow.holds Tryz.pinned (OpenSpec.upto deadStartsSpec)

/-- 'treenaillaw19.DeadChooses', WHERE WHAT IT READS IS OF BULK AT MOST 1048576: true; the input reads as it did. -/
def deadChoosesUptoRow : OpenClaim := { program := "ythodghlpcklaeaagreatdoor", sum := "ba17aa0cfa573944ec16b3dc672adf0f37c57d168d20e0bd89c48441ff1ee8a0", func := "treenail/treenaillaw19.DeadChooses", spec := "deadChooses", unfollowed := true, recurses := true, named := ["treenail/term.words"], loops := true, apart := false, laid := [("treenail/term.words", laid_treenail_term_words)], narrowed := true }
def DeadChoosesUptoSaid : Prop := deadChoosesUptoRow.holds Tryz.pinned (OpenSpec.upto deadChoosesSpec)

/-- 'treenaillaw19.DeadFinishes', WHERE WHAT IT READS IS OF BULK AT MOST 1048576: true; the input reads as it did. -/
def deadFinishesUptoRow : OpenClaim := { program := "ythodghlpcklaeaagreatdoor", sum := "ba17aa0cfa573944ec16b3dc672adf0f37c57d168d20e0bd89c48441ff1ee8a0", func := "treenail/treenaillaw19.DeadFinishes", spec := "deadFinishes", unfollowed := true, recurses := true, named := ["treenail/term.words"], loops := true, apart := false, laid := [("treenail/term.words", laid_treenail_term_words)], narrowed := true }
def DeadFinishesUptoSaid : Prop := deadFinishesUptoRow.holds Tryz.pinned (OpenSpec.upto deadFinishesSpec)

/-- 'treenaillaw19.DeadRuns', WHERE WHAT IT READS IS OF BULK AT MOST 1048576: true; the input reads as it did. -/
def deadRunsUptoRow : OpenClaim := { program := "ythodghlpcklaeaagreatdoor", sum := "ba17aa0cfa573944ec16b3dc672adf0f37c57d168d20e0bd89c48441ff1ee8a0", func := "treenail/treenaillaw19.DeadRuns", spec := "deadRuns", unfollowed := true, recurses := true, named := ["treenail/term.words"], loops := true, apart := false, laid := [("treenail/term.words", laid_treenail_term_words)], narrowed := true }
def DeadRunsUptoSaid : Prop := deadRunsUptoRow.holds Tryz.pinned (OpenSpec.upto deadRunsSpec)

end Rows
end Go.Proofs.YthodghlpcklaeaaGreatDoor
