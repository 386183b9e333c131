/-
  NARROWER THAN 'FOR EVERY INPUT', by the rows' own cells (each row's printed sentence says how): NetChecks: loops, laid · NetSums: loops, laid · NetRoads: loops, laid · NetAll: loops, laid · NetFlows: loops, laid · NetCopies: loops, laid.
  DERIVED. THE GIVEN ROWS OF THIS SEAT. 6 by the template 'for every input the law returns true; each argument reads behind the call as it read before'; 0 by the template 'total and deterministic' (their statements: YtdaeiicdpfghlaaDoorTotals.lean).
  GIVEN WITH THE SEED: the statements are not yours to turn. If you find one false, say at which input.
  Laid BY PROGRAM, IN A SANDBOX (cutbox-rows.mjs): the forced cells as the released guide's own fill.sh prints them over the translation d63759ecfb8b9d6b… (all of the seat's roots in one cut). By AI agents, Wed Nov 11 2026. No macro, syntax, notation, axiom, sorry.
-/
import Derived.Test.YtdaeiicdpfghlaaDoorChecked
import GoSem.Claim
import GoSem.ClaimJoined
import GoSem.ClaimMapViews
import Derived.JoinedTies
import Derived.KernelRfl
namespace Go.Proofs.YtdaeiicdpfghlaaDoor
/- THE CELL 'sum', in the pinned program and in every row, IS THE sha256 OF THE DUMP (.gsa) THAT YtdaeiicdpfghlaaDoorProg.lean LOADS. Nothing in Lean hashes anything: it is a label: what it is worth is what the hold of that sum in a sandbox is worth. -/
noncomputable def Tryd.pinned : Pinned := { name := "ytdaeiicdpfghlaadoor", sum := "d63759ecfb8b9d6b44c32198e7b66e956e840b025d6d197123fc6faacaa73900", checked := Tryd.checked }
namespace Rows
def none {H : Type} : Left H := { results := [], args := [] }

/- WHAT THE LISTED PACKAGE-LEVEL VARIABLES READ AS WHEN THE CALL BEGINS. Each datum BY PROGRAM (the guide's laid-datum.mjs) off the statement by which the dump's own 'gosem.cut.vars' lays the variable. In a bare row this is a premise. The card (YtdaeiicdpfghlaaDoorCards.lean) ties it to the program's text. -/
def laid_treenail_term_words {H : Type} : DataW H := .agg [.agg [.lit (.string []), .lit (.int .i64 0), .lit (.int .i64 0), .lit (.int .i64 0)], .agg [.lit (.string []), .lit (.int .i64 0), .lit (.int .i64 0), .lit (.int .i64 0)], .agg [.lit (.string []), .lit (.int .i64 0), .lit (.int .i64 0), .lit (.int .i64 0)], .agg [.lit (.string [110, 101, 103]), .lit (.int .i64 1), .lit (.int .i64 1), .lit (.int .i64 1)], .agg [.lit (.string [110, 111, 116]), .lit (.int .i64 1), .lit (.int .i64 2), .lit (.int .i64 2)], .agg [.lit (.string [97, 100, 100]), .lit (.int .i64 2), .lit (.int .i64 1), .lit (.int .i64 1)], .agg [.lit (.string [115, 117, 98]), .lit (.int .i64 2), .lit (.int .i64 1), .lit (.int .i64 1)], .agg [.lit (.string [109, 117, 108]), .lit (.int .i64 2), .lit (.int .i64 1), .lit (.int .i64 1)], .agg [.lit (.string [100, 105, 118]), .lit (.int .i64 2), .lit (.int .i64 1), .lit (.int .i64 1)], .agg [.lit (.string [109, 111, 100]), .lit (.int .i64 2), .lit (.int .i64 1), .lit (.int .i64 1)], .agg [.lit (.string [101, 113]), .lit (.int .i64 2), .lit (.int .i64 1), .lit (.int .i64 2)], .agg [.lit (.string [108, 116]), .lit (.int .i64 2), .lit (.int .i64 1), .lit (.int .i64 2)], .agg [.lit (.string [108, 101]), .lit (.int .i64 2), .lit (.int .i64 1), .lit (.int .i64 2)], .agg [.lit (.string [97, 110, 100]), .lit (.int .i64 2), .lit (.int .i64 2), .lit (.int .i64 2)], .agg [.lit (.string [111, 114]), .lit (.int .i64 2), .lit (.int .i64 2), .lit (.int .i64 2)]]

/-- 'treenaillaw05.NetChecks': WHATEVER THE INPUT: true; the input reads as it did. -/
def netChecksSpec : ChangeSpec := { name := "netChecks", fn := fun _ => fun
  | [d] => { results := [.lit (.bool true)], args := [d] }
  | _ => none }
def netChecksRow : OpenClaim := { program := "ytdaeiicdpfghlaadoor", sum := "d63759ecfb8b9d6b44c32198e7b66e956e840b025d6d197123fc6faacaa73900", func := "treenail/treenaillaw05.NetChecks", spec := "netChecks", unfollowed := true, recurses := true, named := ["treenail/term.words"], loops := true, apart := false, laid := [("treenail/term.words", laid_treenail_term_words)] }
def NetChecksSaid : Prop := netChecksRow.holds Tryd.pinned (OpenSpec.ofChange netChecksSpec)

/-- ITS FALSE NEIGHBOUR: 'it returns false'. Refute it at one input. -/
def netChecksWrong : ChangeSpec := { name := "netChecks", fn := fun _ => fun
  | [d] => { results := [.lit (.bool false)], args := [d] }
  | _ => none }
def NetChecksWrongFalsely : Prop := netChecksRow.holds Tryd.pinned (OpenSpec.ofChange netChecksWrong)

/-- 'treenaillaw05.NetSums': WHATEVER THE INPUT: true; the input reads as it did. -/
def netSumsSpec : ChangeSpec := { name := "netSums", fn := fun _ => fun
  | [d] => { results := [.lit (.bool true)], args := [d] }
  | _ => none }
def netSumsRow : OpenClaim := { program := "ytdaeiicdpfghlaadoor", sum := "d63759ecfb8b9d6b44c32198e7b66e956e840b025d6d197123fc6faacaa73900", func := "treenail/treenaillaw05.NetSums", spec := "netSums", unfollowed := true, recurses := true, named := ["treenail/term.words"], loops := true, apart := false, laid := [("treenail/term.words", laid_treenail_term_words)] }
def NetSumsSaid : Prop := netSumsRow.holds Tryd.pinned (OpenSpec.ofChange netSumsSpec)

/-- ITS FALSE NEIGHBOUR: 'it returns false'. Refute it at one input. -/
def netSumsWrong : ChangeSpec := { name := "netSums", fn := fun _ => fun
  | [d] => { results := [.lit (.bool false)], args := [d] }
  | _ => none }
def NetSumsWrongFalsely : Prop := netSumsRow.holds Tryd.pinned (OpenSpec.ofChange netSumsWrong)

/-- 'treenaillaw05.NetRoads': WHATEVER THE INPUT: true; the input reads as it did. -/
def netRoadsSpec : ChangeSpec := { name := "netRoads", fn := fun _ => fun
  | [d1, d2] => { results := [.lit (.bool true)], args := [d1, d2] }
  | _ => none }
def netRoadsRow : OpenClaim := { program := "ytdaeiicdpfghlaadoor", sum := "d63759ecfb8b9d6b44c32198e7b66e956e840b025d6d197123fc6faacaa73900", func := "treenail/treenaillaw05.NetRoads", spec := "netRoads", unfollowed := true, recurses := true, named := ["treenail/term.words"], loops := true, apart := false, laid := [("treenail/term.words", laid_treenail_term_words)] }
def NetRoadsSaid : Prop := netRoadsRow.holds Tryd.pinned (OpenSpec.ofChange netRoadsSpec)

/-- ITS FALSE NEIGHBOUR: 'it returns false'. Refute it at one input. -/
def netRoadsWrong : ChangeSpec := { name := "netRoads", fn := fun _ => fun
  | [d1, d2] => { results := [.lit (.bool false)], args := [d1, d2] }
  | _ => none }
def NetRoadsWrongFalsely : Prop := netRoadsRow.holds Tryd.pinned (OpenSpec.ofChange netRoadsWrong)

/-- 'treenaillaw05.NetAll': WHATEVER THE INPUT: true; the input reads as it did. -/
def netAllSpec : ChangeSpec := { name := "netAll", fn := fun _ => fun
  | [d] => { results := [.lit (.bool true)], args := [d] }
  | _ => none }
def netAllRow : OpenClaim := { program := "ytdaeiicdpfghlaadoor", sum := "d63759ecfb8b9d6b44c32198e7b66e956e840b025d6d197123fc6faacaa73900", func := "treenail/treenaillaw05.NetAll", spec := "netAll", unfollowed := true, recurses := true, named := ["treenail/term.words"], loops := true, apart := false, laid := [("treenail/term.words", laid_treenail_term_words)] }
def NetAllSaid : Prop := netAllRow.holds Tryd.pinned (OpenSpec.ofChange netAllSpec)

/-- ITS FALSE NEIGHBOUR: 'it returns false'. Refute it at one input. -/
def netAllWrong : ChangeSpec := { name := "netAll", fn := fun _ => fun
  | [d] => { results := [.lit (.bool false)], args := [d] }
  | _ => none }
def NetAllWrongFalsely : Prop := netAllRow.holds Tryd.pinned (OpenSpec.ofChange netAllWrong)

/-- 'treenaillaw05.NetFlows': WHATEVER THE INPUT: true; the input reads as it did. -/
def netFlowsSpec : ChangeSpec := { name := "netFlows", fn := fun _ => fun
  | [d1, d2] => { results := [.lit (.bool true)], args := [d1, d2] }
  | _ => none }
def netFlowsRow : OpenClaim := { program := "ytdaeiicdpfghlaadoor", sum := "d63759ecfb8b9d6b44c32198e7b66e956e840b025d6d197123fc6faacaa73900", func := "treenail/treenaillaw05.NetFlows", spec := "netFlows", unfollowed := true, recurses := true, named := ["treenail/term.words"], loops := true, apart := false, laid := [("treenail/term.words", laid_treenail_term_words)] }
def NetFlowsSaid : Prop := netFlowsRow.holds Tryd.pinned (OpenSpec.ofChange netFlowsSpec)

/-- ITS FALSE NEIGHBOUR: 'it returns false'. Refute it at one input. -/
def netFlowsWrong : ChangeSpec := { name := "netFlows", fn := fun _ => fun
  | [d1, d2] => { results := [.lit (.bool false)], args := [d1, d2] }
  | _ => none }
def NetFlowsWrongFalsely : Prop := netFlowsRow.holds Tryd.pinned (OpenSpec.ofChange netFlowsWrong)

/-- 'treenaillaw05.NetCopies': WHATEVER THE INPUT: true; the input reads as it did. -/
def netCopiesSpec : ChangeSpec := { name := "netCopies", fn := fun _ => fun
  | [d] => { results := [.lit (.bool true)], args := [d] }
  | _ => none }
def netCopiesRow : OpenClaim := { program := "ytdaeiicdpfghlaadoor", sum := "d63759ecfb8b9d6b44c32198e7b66e956e840b025d6d197123fc6faacaa73900", func := "treenail/treenaillaw05.NetCopies", spec := "netCopies", unfollowed := true, recurses := true, named := ["treenail/term.words"], loops := true, apart := false, laid := [("treenail/term.words", laid_treenail_term_words)] }
def NetCopiesSaid : Prop := netCopiesRow.holds Tryd.pinned (OpenSpec.ofChange netCopiesSpec)

/-- ITS FALSE NEIGHBOUR: 'it returns false'. Refute it at one input. -/
def netCopiesWrong : ChangeSpec := { name := "netCopies", fn := fun _ => fun
  | [d] => { results := [.lit (.bool false)], args := [d] }
  | _ => none }
def NetCopiesWrongFalsely : Prop := netCopiesRow.holds Tryd.pinned (OpenSpec.ofChange netCopiesWrong)

/- THE SECOND FORM. 'bulk': how many values and letters a reading holds, each counted each time it is reached (what is shared counts as often as it is met; a slice's spare places count too). A statement '..UptoSaid' is the law's where the arguments, and the package variables that the reading takes, are together of bulk at most 1048576: NARROWER than '..Said'. Prove '..Said' where nothing that the law and all that it calls make is longer than what came in: it says more and counts as full. Else prove '..UptoSaid'. A law counts once. -/
mutual
def uptoBulk {H : Type} : DataW H → Nat
  | .lit (.string bytes) => bytes.length + 1
  | .lit _ => 1
  | .nil => 1
  | .ptr d => uptoBulk d + 1
  | .slice elems spare => uptoBulkAll elems + uptoBulkAll spare + 1
  | .agg parts => uptoBulkAll parts + 1
  | .iface _ d => uptoBulk d + 1
  | .map entries => uptoBulkEntries entries + 1
  | .held _ => 1
def uptoBulkAll {H : Type} : List (DataW H) → Nat
  | [] => 0
  | d :: r => uptoBulk d + uptoBulkAll r
def uptoBulkEntries {H : Type} : List (Lit × DataW H) → Nat
  | [] => 0
  | x :: r => uptoBulkEntry x + uptoBulkEntries r
def uptoBulkEntry {H : Type} : Lit × DataW H → Nat
  | (.string bytes, d) => bytes.length + uptoBulk d + 1
  | (_, d) => uptoBulk d + 1
 end
def uptoSmall : (H : Type) → List (DataW H) → Bool := fun _ ds => decide (uptoBulkAll ds ≤ 1048576)
def OpenSpec.upto (s : _root_.Go.ChangeSpec) : _root_.Go.OpenSpec := { _root_.Go.OpenSpec.ofChange s with cond := some uptoSmall }

/-- 'treenaillaw05.NetChecks', WHERE WHAT IT READS IS OF BULK AT MOST 1048576: true; the input reads as it did. -/
def netChecksUptoRow : OpenClaim := { program := "ytdaeiicdpfghlaadoor", sum := "d63759ecfb8b9d6b44c32198e7b66e956e840b025d6d197123fc6faacaa73900", func := "treenail/treenaillaw05.NetChecks", spec := "netChecks", unfollowed := true, recurses := true, named := ["treenail/term.words"], loops := true, apart := false, laid := [("treenail/term.words", laid_treenail_term_words)], narrowed := true }
def NetChecksUptoSaid : Prop := netChecksUptoRow.holds Tryd.pinned (OpenSpec.upto netChecksSpec)

/-- 'treenaillaw05.NetSums', WHERE WHAT IT READS IS OF BULK AT MOST 1048576: true; the input reads as it did. -/
def netSumsUptoRow : OpenClaim := { program := "ytdaeiicdpfghlaadoor", sum := "d63759ecfb8b9d6b44c32198e7b66e956e840b025d6d197123fc6faacaa73900", func := "treenail/treenaillaw05.NetSums", spec := "netSums", unfollowed := true, recurses := true, named := ["treenail/term.words"], loops := true, apart := false, laid := [("treenail/term.words", laid_treenail_term_words)], narrowed := true }
def NetSumsUptoSaid : Prop := netSumsUptoRow.holds Tryd.pinned (OpenSpec.upto netSumsSpec)

/-- 'treenaillaw05.NetRoads', WHERE WHAT IT READS IS OF BULK AT MOST 1048576: true; the input reads as it did. -/
def netRoadsUptoRow : OpenClaim := { program := "ytdaeiicdpfghlaadoor", sum := "d63759ecfb8b9d6b44c32198e7b66e956e840b025d6d197123fc6faacaa73900", func := "treenail/treenaillaw05.NetRoads", spec := "netRoads", unfollowed := true, recurses := true, named := ["treenail/term.words"], loops := true, apart := false, laid := [("treenail/term.words", laid_treenail_term_words)], narrowed := true }
def NetRoadsUptoSaid : Prop := netRoadsUptoRow.holds Tryd.pinned (OpenSpec.upto netRoadsSpec)

/-- 'treenaillaw05.NetAll', WHERE WHAT IT READS IS OF BULK AT MOST 1048576: true; the input reads as it did. -/
def netAllUptoRow : OpenClaim := { program := "ytdaeiicdpfghlaadoor", sum := "d63759ecfb8b9d6b44c32198e7b66e956e840b025d6d197123fc6faacaa73900", func := "treenail/treenaillaw05.NetAll", spec := "netAll", unfollowed := true, recurses := true, named := ["treenail/term.words"], loops := true, apart := false, laid := [("treenail/term.words", laid_treenail_term_words)], narrowed := true }
def NetAllUptoSaid : Prop := netAllUptoRow.holds Tryd.pinned (OpenSpec.upto netAllSpec)

/-- 'treenaillaw05.NetFlows', WHERE WHAT IT READS IS OF BULK AT MOST 1048576: true; the input reads as it did. -/
def netFlowsUptoRow : OpenClaim := { program := "ytdaeiicdpfghlaadoor", sum := "d63759ecfb8b9d6b44c32198e7b66e956e840b025d6d197123fc6faacaa73900", func := "treenail/treenaillaw05.NetFlows", spec := "netFlows", unfollowed := true, recurses := true, named := ["treenail/term.words"], loops := true, apart := false, laid := [("treenail/term.words", laid_treenail_term_words)], narrowed := true }
def NetFlowsUptoSaid : Prop := netFlowsUptoRow.holds Tryd.pinned (OpenSpec.upto netFlowsSpec)

/-- 'treenaillaw05.NetCopies', WHERE WHAT IT READS IS OF BULK AT MOST 1048576: true; the input reads as it did. -/
def netCopiesUptoRow : OpenClaim := { program := "ytdaeiicdpfghlaadoor", sum := "d63759ecfb8b9d6b44c32198e7b66e956e840b025d6d197123fc6faacaa73900", func := "treenail/treenaillaw05.NetCopies", spec := "netCopies", unfollowed := true, recurses := true, named := ["treenail/term.words"], loops := true, apart := false, laid := [("treenail/term.words", laid_treenail_term_words)], narrowed := true }
def NetCopiesUptoSaid : Prop := netCopiesUptoRow.holds Tryd.pinned (OpenSpec.upto netCopiesSpec)

end Rows
end Go.Proofs.YtdaeiicdpfghlaaDoor
