/-
  NARROWER THAN 'FOR EVERY INPUT', by the rows' own cells (each row's printed sentence says how): MarkReads: laid · MarkNames: laid · MarkEscapes: laid · MarkWrites: laid · MarkBack: laid.
  DERIVED. THE GIVEN ROWS OF THIS SEAT. 5 by the template 'for every input the law returns true; each argument reads behind the call as it read before'; 0 by the template 'total and deterministic' (their statements: YtdlblokojlhmbaaDoorTotals.lean).
  GIVEN WITH THE SEED: the statements are not yours to turn. If you find one false, say at which input.
  Laid BY PROGRAM, IN A SANDBOX (cutbox-rows.mjs): the forced cells as the released guide's own fill.sh prints them over the translation 23b45ccda93bd38a… (all of the seat's roots in one cut). By AI agents, Wed Nov 11 2026. No macro, syntax, notation, axiom, sorry.
-/
import Derived.Test.YtdlblokojlhmbaaDoorChecked
import GoSem.Claim
import GoSem.ClaimJoined
import GoSem.ClaimMapViews
import Derived.JoinedTies
import Derived.KernelRfl
namespace Go.Proofs.YtdlblokojlhmbaaDoor
/- THE CELL 'sum', in the pinned program and in every row, IS THE sha256 OF THE DUMP (.gsa) THAT YtdlblokojlhmbaaDoorProg.lean LOADS. Nothing in Lean hashes anything: it is a label: what it is worth is what the hold of that sum in a sandbox is worth. -/
noncomputable def Tryd.pinned : Pinned := { name := "ytdlblokojlhmbaadoor", sum := "23b45ccda93bd38a28fd3fa8e140e9ab7d7504f052dff0082bcba29ad339c65e", checked := Tryd.checked }
namespace Rows
def none {H : Type} : Left H := { results := [], args := [] }

/- WHAT THE LISTED PACKAGE-LEVEL VARIABLES READ AS WHEN THE CALL BEGINS. Each datum BY PROGRAM (the guide's laid-datum.mjs) off the statement by which the dump's own 'gosem.cut.vars' lays the variable. In a bare row this is a premise. The card (YtdlblokojlhmbaaDoorCards.lean) ties it to the program's text. -/
def laid_treenail_mark_escapes {H : Type} : DataW H := .agg [.agg [.lit (.int .u8 60), .lit (.string [38, 108, 116, 59])], .agg [.lit (.int .u8 62), .lit (.string [38, 103, 116, 59])], .agg [.lit (.int .u8 38), .lit (.string [38, 97, 109, 112, 59])], .agg [.lit (.int .u8 34), .lit (.string [38, 113, 117, 111, 116, 59])]]

/-- 'treenaillaw01.MarkReads': WHATEVER THE INPUT: true; the input reads as it did. -/
def markReadsSpec : ChangeSpec := { name := "markReads", fn := fun _ => fun
  | [d] => { results := [.lit (.bool true)], args := [d] }
  | _ => none }
def markReadsRow : OpenClaim := { program := "ytdlblokojlhmbaadoor", sum := "23b45ccda93bd38a28fd3fa8e140e9ab7d7504f052dff0082bcba29ad339c65e", func := "treenail/treenaillaw01.MarkReads", spec := "markReads", inPlace := ["internal/abi.NoEscape"], unfollowed := true, recurses := true, named := ["treenail/mark.escapes"], apart := false, laid := [("treenail/mark.escapes", laid_treenail_mark_escapes)] }
def MarkReadsSaid : Prop := markReadsRow.holds Tryd.pinned (OpenSpec.ofChange markReadsSpec)

/-- ITS FALSE NEIGHBOUR: 'it returns false'. Refute it at one input. -/
def markReadsWrong : ChangeSpec := { name := "markReads", fn := fun _ => fun
  | [d] => { results := [.lit (.bool false)], args := [d] }
  | _ => none }
def MarkReadsWrongFalsely : Prop := markReadsRow.holds Tryd.pinned (OpenSpec.ofChange markReadsWrong)

/-- 'treenaillaw01.MarkNames': WHATEVER THE INPUT: true; the input reads as it did. -/
def markNamesSpec : ChangeSpec := { name := "markNames", fn := fun _ => fun
  | [d] => { results := [.lit (.bool true)], args := [d] }
  | _ => none }
def markNamesRow : OpenClaim := { program := "ytdlblokojlhmbaadoor", sum := "23b45ccda93bd38a28fd3fa8e140e9ab7d7504f052dff0082bcba29ad339c65e", func := "treenail/treenaillaw01.MarkNames", spec := "markNames", inPlace := ["internal/abi.NoEscape"], unfollowed := true, recurses := true, named := ["treenail/mark.escapes"], apart := false, laid := [("treenail/mark.escapes", laid_treenail_mark_escapes)] }
def MarkNamesSaid : Prop := markNamesRow.holds Tryd.pinned (OpenSpec.ofChange markNamesSpec)

/-- ITS FALSE NEIGHBOUR: 'it returns false'. Refute it at one input. -/
def markNamesWrong : ChangeSpec := { name := "markNames", fn := fun _ => fun
  | [d] => { results := [.lit (.bool false)], args := [d] }
  | _ => none }
def MarkNamesWrongFalsely : Prop := markNamesRow.holds Tryd.pinned (OpenSpec.ofChange markNamesWrong)

/-- 'treenaillaw01.MarkEscapes': WHATEVER THE INPUT: true; the input reads as it did. -/
def markEscapesSpec : ChangeSpec := { name := "markEscapes", fn := fun _ => fun
  | [d] => { results := [.lit (.bool true)], args := [d] }
  | _ => none }
def markEscapesRow : OpenClaim := { program := "ytdlblokojlhmbaadoor", sum := "23b45ccda93bd38a28fd3fa8e140e9ab7d7504f052dff0082bcba29ad339c65e", func := "treenail/treenaillaw01.MarkEscapes", spec := "markEscapes", inPlace := ["internal/abi.NoEscape"], unfollowed := true, recurses := true, named := ["treenail/mark.escapes"], apart := false, laid := [("treenail/mark.escapes", laid_treenail_mark_escapes)] }
def MarkEscapesSaid : Prop := markEscapesRow.holds Tryd.pinned (OpenSpec.ofChange markEscapesSpec)

/-- ITS FALSE NEIGHBOUR: 'it returns false'. Refute it at one input. -/
def markEscapesWrong : ChangeSpec := { name := "markEscapes", fn := fun _ => fun
  | [d] => { results := [.lit (.bool false)], args := [d] }
  | _ => none }
def MarkEscapesWrongFalsely : Prop := markEscapesRow.holds Tryd.pinned (OpenSpec.ofChange markEscapesWrong)

/-- 'treenaillaw01.MarkWrites': WHATEVER THE INPUT: true; the input reads as it did. -/
def markWritesSpec : ChangeSpec := { name := "markWrites", fn := fun _ => fun
  | [d] => { results := [.lit (.bool true)], args := [d] }
  | _ => none }
def markWritesRow : OpenClaim := { program := "ytdlblokojlhmbaadoor", sum := "23b45ccda93bd38a28fd3fa8e140e9ab7d7504f052dff0082bcba29ad339c65e", func := "treenail/treenaillaw01.MarkWrites", spec := "markWrites", inPlace := ["internal/abi.NoEscape"], unfollowed := true, recurses := true, named := ["treenail/mark.escapes"], apart := false, laid := [("treenail/mark.escapes", laid_treenail_mark_escapes)] }
def MarkWritesSaid : Prop := markWritesRow.holds Tryd.pinned (OpenSpec.ofChange markWritesSpec)

/-- ITS FALSE NEIGHBOUR: 'it returns false'. Refute it at one input. -/
def markWritesWrong : ChangeSpec := { name := "markWrites", fn := fun _ => fun
  | [d] => { results := [.lit (.bool false)], args := [d] }
  | _ => none }
def MarkWritesWrongFalsely : Prop := markWritesRow.holds Tryd.pinned (OpenSpec.ofChange markWritesWrong)

/-- 'treenaillaw01.MarkBack': WHATEVER THE INPUT: true; the input reads as it did. -/
def markBackSpec : ChangeSpec := { name := "markBack", fn := fun _ => fun
  | [d] => { results := [.lit (.bool true)], args := [d] }
  | _ => none }
def markBackRow : OpenClaim := { program := "ytdlblokojlhmbaadoor", sum := "23b45ccda93bd38a28fd3fa8e140e9ab7d7504f052dff0082bcba29ad339c65e", func := "treenail/treenaillaw01.MarkBack", spec := "markBack", inPlace := ["internal/abi.NoEscape"], unfollowed := true, recurses := true, named := ["treenail/mark.escapes"], apart := false, laid := [("treenail/mark.escapes", laid_treenail_mark_escapes)] }
def MarkBackSaid : Prop := markBackRow.holds Tryd.pinned (OpenSpec.ofChange markBackSpec)

/-- ITS FALSE NEIGHBOUR: 'it returns false'. Refute it at one input. -/
def markBackWrong : ChangeSpec := { name := "markBack", fn := fun _ => fun
  | [d] => { results := [.lit (.bool false)], args := [d] }
  | _ => none }
def MarkBackWrongFalsely : Prop := markBackRow.holds Tryd.pinned (OpenSpec.ofChange markBackWrong)

/- THE SECOND FORM. 'bulk': how many values and letters a reading holds, each counted each time it is reached (what is shared counts as often as it is met; a slice's spare places count too). A statement '..UptoSaid' is the law's where the arguments, and the package variables that the reading takes, are together of bulk at most 1048576: NARROWER than '..Said'. Prove '..Said' where nothing that the law and all that it calls make is longer than what came in: it says more and counts as full. Else prove '..UptoSaid'. A law counts once. -/
mutual
def uptoBulk {H : Type} : DataW H → Nat
  | .lit (.string bytes) => bytes.length + 1
  | .lit _ => 1
  | .nil => 1
  | .ptr d => uptoBulk d + 1
  | .slice elems spare => uptoBulkAll elems + uptoBulkAll spare + 1
  | .agg parts => uptoBulkAll parts + 1
  | .iface _ d => uptoBulk d + 1
  | .map entries => uptoBulkEntries entries + 1
  | .held _ => 1
def uptoBulkAll {H : Type} : List (DataW H) → Nat
  | [] => 0
  | d :: r => uptoBulk d + uptoBulkAll r
def uptoBulkEntries {H : Type} : List (Lit × DataW H) → Nat
  | [] => 0
  | x :: r => uptoBulkEntry x + uptoBulkEntries r
def uptoBulkEntry {H : Type} : Lit × DataW H → Nat
  | (.string bytes, d) => bytes.length + uptoBulk d + 1
  | (_, d) => uptoBulk d + 1
 end
def uptoSmall : (H : Type) → List (DataW H) → Bool := fun _ ds => decide (uptoBulkAll ds ≤ 1048576)
def OpenSpec.upto (s : _root_.Go.ChangeSpec) : _root_.Go.OpenSpec := { _root_.Go.OpenSpec.ofChange s with cond := some uptoSmall }

/-- 'treenaillaw01.MarkReads', WHERE WHAT IT READS IS OF BULK AT MOST 1048576: true; the input reads as it did. -/
def markReadsUptoRow : OpenClaim := { program := "ytdlblokojlhmbaadoor", sum := "23b45ccda93bd38a28fd3fa8e140e9ab7d7504f052dff0082bcba29ad339c65e", func := "treenail/treenaillaw01.MarkReads", spec := "markReads", inPlace := ["internal/abi.NoEscape"], unfollowed := true, recurses := true, named := ["treenail/mark.escapes"], apart := false, laid := [("treenail/mark.escapes", laid_treenail_mark_escapes)], narrowed := true }
def MarkReadsUptoSaid : Prop := markReadsUptoRow.holds Tryd.pinned (OpenSpec.upto markReadsSpec)

/-- 'treenaillaw01.MarkNames', WHERE WHAT IT READS IS OF BULK AT MOST 1048576: true; the input reads as it did. -/
def markNamesUptoRow : OpenClaim := { program := "ytdlblokojlhmbaadoor", sum := "23b45ccda93bd38a28fd3fa8e140e9ab7d7504f052dff0082bcba29ad339c65e", func := "treenail/treenaillaw01.MarkNames", spec := "markNames", inPlace := ["internal/abi.NoEscape"], unfollowed := true, recurses := true, named := ["treenail/mark.escapes"], apart := false, laid := [("treenail/mark.escapes", laid_treenail_mark_escapes)], narrowed := true }
def MarkNamesUptoSaid : Prop := markNamesUptoRow.holds Tryd.pinned (OpenSpec.upto markNamesSpec)

/-- 'treenaillaw01.MarkEscapes', WHERE WHAT IT READS IS OF BULK AT MOST 1048576: true; the input reads as it did. -/
def markEscapesUptoRow : OpenClaim := { program := "ytdlblokojlhmbaadoor", sum := "23b45ccda93bd38a28fd3fa8e140e9ab7d7504f052dff0082bcba29ad339c65e", func := "treenail/treenaillaw01.MarkEscapes", spec := "markEscapes", inPlace := ["internal/abi.NoEscape"], unfollowed := true, recurses := true, named := ["treenail/mark.escapes"], apart := false, laid := [("treenail/mark.escapes", laid_treenail_mark_escapes)], narrowed := true }
def MarkEscapesUptoSaid : Prop := markEscapesUptoRow.holds Tryd.pinned (OpenSpec.upto markEscapesSpec)

/-- 'treenaillaw01.MarkWrites', WHERE WHAT IT READS IS OF BULK AT MOST 1048576: true; the input reads as it did. -/
def markWritesUptoRow : OpenClaim := { program := "ytdlblokojlhmbaadoor", sum := "23b45ccda93bd38a28fd3fa8e140e9ab7d7504f052dff0082bcba29ad339c65e", func := "treenail/treenaillaw01.MarkWrites", spec := "markWrites", inPlace := ["internal/abi.NoEscape"], unfollowed := true, recurses := true, named := ["treenail/mark.escapes"], apart := false, laid := [("treenail/mark.escapes", laid_treenail_mark_escapes)], narrowed := true }
def MarkWritesUptoSaid : Prop := markWritesUptoRow.holds Tryd.pinned (OpenSpec.upto markWritesSpec)

/-- 'treenaillaw01.MarkBack', WHERE WHAT IT READS IS OF BULK AT MOST 1048576: true; the input reads as it did. -/
def markBackUptoRow : OpenClaim := { program := "ytdlblokojlhmbaadoor", sum := "23b45ccda93bd38a28fd3fa8e140e9ab7d7504f052dff0082bcba29ad339c65e", func := "treenail/treenaillaw01.MarkBack", spec := "markBack", inPlace := ["internal/abi.NoEscape"], unfollowed := true, recurses := true, named := ["treenail/mark.escapes"], apart := false, laid := [("treenail/mark.escapes", laid_treenail_mark_escapes)], narrowed := true }
def MarkBackUptoSaid : Prop := markBackUptoRow.holds Tryd.pinned (OpenSpec.upto markBackSpec)

end Rows
end Go.Proofs.YtdlblokojlhmbaaDoor
