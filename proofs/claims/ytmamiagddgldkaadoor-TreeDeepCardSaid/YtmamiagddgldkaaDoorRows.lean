/-
  NARROWER THAN 'FOR EVERY INPUT', by the rows' own cells (each row's printed sentence says how): TreeBack: loops, laid · TreeWrites: loops, laid · TreeDeep: laid · TreeCounts: loops, laid.
  DERIVED. THE GIVEN ROWS OF THIS SEAT. 4 by the template 'for every input the law returns true; each argument reads behind the call as it read before'; 0 by the template 'total and deterministic' (their statements: YtmamiagddgldkaaDoorTotals.lean).
  GIVEN WITH THE SEED: the statements are not yours to turn. If you find one false, say at which input.
  Laid BY PROGRAM, IN A SANDBOX (cutbox-rows.mjs): the forced cells as the released guide's own fill.sh prints them over the translation 3fbf1017831879e4… (all of the seat's roots in one cut). By AI agents, Wed Nov 11 2026. No macro, syntax, notation, axiom, sorry.
-/
import Derived.Test.YtmamiagddgldkaaDoorChecked
import GoSem.Claim
import GoSem.ClaimJoined
import GoSem.ClaimMapViews
import Derived.JoinedTies
import Derived.KernelRfl
namespace Go.Proofs.YtmamiagddgldkaaDoor
/- THE CELL 'sum', in the pinned program and in every row, IS THE sha256 OF THE DUMP (.gsa) THAT YtmamiagddgldkaaDoorProg.lean LOADS. Nothing in Lean hashes anything: it is a label: what it is worth is what the hold of that sum in a sandbox is worth. -/
noncomputable def Tryd.pinned : Pinned := { name := "ytmamiagddgldkaadoor", sum := "3fbf1017831879e4a10be67aeb6bb402043e3be7ad9072938abc8cc0cf98920d", checked := Tryd.checked }
namespace Rows
def none {H : Type} : Left H := { results := [], args := [] }

/- WHAT THE LISTED PACKAGE-LEVEL VARIABLES READ AS WHEN THE CALL BEGINS. Each datum BY PROGRAM (the guide's laid-datum.mjs) off the statement by which the dump's own 'gosem.cut.vars' lays the variable. In a bare row this is a premise. The card (YtmamiagddgldkaaDoorCards.lean) ties it to the program's text. -/
def laid_treenail_mark_escapes {H : Type} : DataW H := .agg [.agg [.lit (.int .u8 60), .lit (.string [38, 108, 116, 59])], .agg [.lit (.int .u8 62), .lit (.string [38, 103, 116, 59])], .agg [.lit (.int .u8 38), .lit (.string [38, 97, 109, 112, 59])], .agg [.lit (.int .u8 34), .lit (.string [38, 113, 117, 111, 116, 59])]]

/-- 'treenaillaw02.TreeBack': WHATEVER THE INPUT: true; the input reads as it did. -/
def treeBackSpec : ChangeSpec := { name := "treeBack", fn := fun _ => fun
  | [d1, d2] => { results := [.lit (.bool true)], args := [d1, d2] }
  | _ => none }
def treeBackRow : OpenClaim := { program := "ytmamiagddgldkaadoor", sum := "3fbf1017831879e4a10be67aeb6bb402043e3be7ad9072938abc8cc0cf98920d", func := "treenail/treenaillaw02.TreeBack", spec := "treeBack", inPlace := ["internal/abi.NoEscape"], unfollowed := true, recurses := true, named := ["treenail/mark.escapes"], loops := true, apart := false, laid := [("treenail/mark.escapes", laid_treenail_mark_escapes)] }
def TreeBackSaid : Prop := treeBackRow.holds Tryd.pinned (OpenSpec.ofChange treeBackSpec)

/-- ITS FALSE NEIGHBOUR: 'it returns false'. Refute it at one input. -/
def treeBackWrong : ChangeSpec := { name := "treeBack", fn := fun _ => fun
  | [d1, d2] => { results := [.lit (.bool false)], args := [d1, d2] }
  | _ => none }
def TreeBackWrongFalsely : Prop := treeBackRow.holds Tryd.pinned (OpenSpec.ofChange treeBackWrong)

/-- 'treenaillaw02.TreeWrites': WHATEVER THE INPUT: true; the input reads as it did. -/
def treeWritesSpec : ChangeSpec := { name := "treeWrites", fn := fun _ => fun
  | [d] => { results := [.lit (.bool true)], args := [d] }
  | _ => none }
def treeWritesRow : OpenClaim := { program := "ytmamiagddgldkaadoor", sum := "3fbf1017831879e4a10be67aeb6bb402043e3be7ad9072938abc8cc0cf98920d", func := "treenail/treenaillaw02.TreeWrites", spec := "treeWrites", inPlace := ["internal/abi.NoEscape"], unfollowed := true, recurses := true, named := ["treenail/mark.escapes"], loops := true, apart := false, laid := [("treenail/mark.escapes", laid_treenail_mark_escapes)] }
def TreeWritesSaid : Prop := treeWritesRow.holds Tryd.pinned (OpenSpec.ofChange treeWritesSpec)

/-- ITS FALSE NEIGHBOUR: 'it returns false'. Refute it at one input. -/
def treeWritesWrong : ChangeSpec := { name := "treeWrites", fn := fun _ => fun
  | [d] => { results := [.lit (.bool false)], args := [d] }
  | _ => none }
def TreeWritesWrongFalsely : Prop := treeWritesRow.holds Tryd.pinned (OpenSpec.ofChange treeWritesWrong)

/-- 'treenaillaw02.TreeDeep': WHATEVER THE INPUT: true; the input reads as it did. -/
def treeDeepSpec : ChangeSpec := { name := "treeDeep", fn := fun _ => fun
  | [d] => { results := [.lit (.bool true)], args := [d] }
  | _ => none }
def treeDeepRow : OpenClaim := { program := "ytmamiagddgldkaadoor", sum := "3fbf1017831879e4a10be67aeb6bb402043e3be7ad9072938abc8cc0cf98920d", func := "treenail/treenaillaw02.TreeDeep", spec := "treeDeep", inPlace := ["internal/abi.NoEscape"], unfollowed := true, recurses := true, named := ["treenail/mark.escapes"], apart := false, laid := [("treenail/mark.escapes", laid_treenail_mark_escapes)] }
def TreeDeepSaid : Prop := treeDeepRow.holds Tryd.pinned (OpenSpec.ofChange treeDeepSpec)

/-- ITS FALSE NEIGHBOUR: 'it returns false'. Refute it at one input. -/
def treeDeepWrong : ChangeSpec := { name := "treeDeep", fn := fun _ => fun
  | [d] => { results := [.lit (.bool false)], args := [d] }
  | _ => none }
def TreeDeepWrongFalsely : Prop := treeDeepRow.holds Tryd.pinned (OpenSpec.ofChange treeDeepWrong)

/-- 'treenaillaw02.TreeCounts': WHATEVER THE INPUT: true; the input reads as it did. -/
def treeCountsSpec : ChangeSpec := { name := "treeCounts", fn := fun _ => fun
  | [d1, d2] => { results := [.lit (.bool true)], args := [d1, d2] }
  | _ => none }
def treeCountsRow : OpenClaim := { program := "ytmamiagddgldkaadoor", sum := "3fbf1017831879e4a10be67aeb6bb402043e3be7ad9072938abc8cc0cf98920d", func := "treenail/treenaillaw02.TreeCounts", spec := "treeCounts", inPlace := ["internal/abi.NoEscape"], unfollowed := true, recurses := true, named := ["treenail/mark.escapes"], loops := true, apart := false, laid := [("treenail/mark.escapes", laid_treenail_mark_escapes)] }
def TreeCountsSaid : Prop := treeCountsRow.holds Tryd.pinned (OpenSpec.ofChange treeCountsSpec)

/-- ITS FALSE NEIGHBOUR: 'it returns false'. Refute it at one input. -/
def treeCountsWrong : ChangeSpec := { name := "treeCounts", fn := fun _ => fun
  | [d1, d2] => { results := [.lit (.bool false)], args := [d1, d2] }
  | _ => none }
def TreeCountsWrongFalsely : Prop := treeCountsRow.holds Tryd.pinned (OpenSpec.ofChange treeCountsWrong)

/- THE SECOND FORM. 'bulk': how many values and letters a reading holds, each counted each time it is reached (what is shared counts as often as it is met; a slice's spare places count too). A statement '..UptoSaid' is the law's where the arguments, and the package variables that the reading takes, are together of bulk at most 1048576: NARROWER than '..Said'. Prove '..Said' where nothing that the law and all that it calls make is longer than what came in: it says more and counts as full. Else prove '..UptoSaid'. A law counts once. -/
mutual
def uptoBulk {H : Type} : DataW H → Nat
  | .lit (.string bytes) => bytes.length + 1
  | .lit _ => 1
  | .nil => 1
  | .ptr d => uptoBulk d + 1
  | .slice elems spare => uptoBulkAll elems + uptoBulkAll spare + 1
  | .agg parts => uptoBulkAll parts + 1
  | .iface _ d => uptoBulk d + 1
  | .map entries => uptoBulkEntries entries + 1
  | .held _ => 1
def uptoBulkAll {H : Type} : List (DataW H) → Nat
  | [] => 0
  | d :: r => uptoBulk d + uptoBulkAll r
def uptoBulkEntries {H : Type} : List (Lit × DataW H) → Nat
  | [] => 0
  | x :: r => uptoBulkEntry x + uptoBulkEntries r
def uptoBulkEntry {H : Type} : Lit × DataW H → Nat
  | (.string bytes, d) => bytes.length + uptoBulk d + 1
  | (_, d) => uptoBulk d + 1
 end
def uptoSmall : (H : Type) → List (DataW H) → Bool := fun _ ds => decide (uptoBulkAll ds ≤ 1048576)
def OpenSpec.upto (s : _root_.Go.ChangeSpec) : _root_.Go.OpenSpec := { _root_.Go.OpenSpec.ofChange s with cond := some uptoSmall }

/-- 'treenaillaw02.TreeBack', WHERE WHAT IT READS IS OF BULK AT MOST 1048576: true; the input reads as it did. -/
def treeBackUptoRow : OpenClaim := { program := "ytmamiagddgldkaadoor", sum := "3fbf1017831879e4a10be67aeb6bb402043e3be7ad9072938abc8cc0cf98920d", func := "treenail/treenaillaw02.TreeBack", spec := "treeBack", inPlace := ["internal/abi.NoEscape"], unfollowed := true, recurses := true, named := ["treenail/mark.escapes"], loops := true, apart := false, laid := [("treenail/mark.escapes", laid_treenail_mark_escapes)], narrowed := true }
def TreeBackUptoSaid : Prop := treeBackUptoRow.holds Tryd.pinned (OpenSpec.upto treeBackSpec)

/-- 'treenaillaw02.TreeWrites', WHERE WHAT IT READS IS OF BULK AT MOST 1048576: true; the input reads as it did. -/
def treeWritesUptoRow : OpenClaim := { program := "ytmamiagddgldkaadoor", sum := "3fbf1017831879e4a10be67aeb6bb402043e3be7ad9072938abc8cc0cf98920d", func := "treenail/treenaillaw02.TreeWrites", spec := "treeWrites", inPlace := ["internal/abi.NoEscape"], unfollowed := true, recurses := true, named := ["treenail/mark.escapes"], loops := true, apart := false, laid := [("treenail/mark.escapes", laid_treenail_mark_escapes)], narrowed := true }
def TreeWritesUptoSaid : Prop := treeWritesUptoRow.holds Tryd.pinned (OpenSpec.upto treeWritesSpec)

/-- 'treenaillaw02.TreeDeep', WHERE WHAT IT READS IS OF BULK AT MOST 1048576: true; the input reads as it did. -/
def treeDeepUptoRow : OpenClaim := { program := "ytmamiagddgldkaadoor", sum := "3fbf1017831879e4a10be67aeb6bb402043e3be7ad9072938abc8cc0cf98920d", func := "treenail/treenaillaw02.TreeDeep", spec := "treeDeep", inPlace := ["internal/abi.NoEscape"], unfollowed := true, recurses := true, named := ["treenail/mark.escapes"], apart := false, laid := [("treenail/mark.escapes", laid_treenail_mark_escapes)], narrowed := true }
def TreeDeepUptoSaid : Prop := treeDeepUptoRow.holds Tryd.pinned (OpenSpec.upto treeDeepSpec)

/-- 'treenaillaw02.TreeCounts', WHERE WHAT IT READS IS OF BULK AT MOST 1048576: true; the input reads as it did. -/
def treeCountsUptoRow : OpenClaim := { program := "ytmamiagddgldkaadoor", sum := "3fbf1017831879e4a10be67aeb6bb402043e3be7ad9072938abc8cc0cf98920d", func := "treenail/treenaillaw02.TreeCounts", spec := "treeCounts", inPlace := ["internal/abi.NoEscape"], unfollowed := true, recurses := true, named := ["treenail/mark.escapes"], loops := true, apart := false, laid := [("treenail/mark.escapes", laid_treenail_mark_escapes)], narrowed := true }
def TreeCountsUptoSaid : Prop := treeCountsUptoRow.holds Tryd.pinned (OpenSpec.upto treeCountsSpec)

end Rows
end Go.Proofs.YtmamiagddgldkaaDoor
