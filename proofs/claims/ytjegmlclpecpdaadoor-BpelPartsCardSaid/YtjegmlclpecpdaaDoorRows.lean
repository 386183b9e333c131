/-
  NARROWER THAN 'FOR EVERY INPUT', by the rows' own cells (each row's printed sentence says how): BpelItems: loops, laid · BpelSame: loops, laid · BpelParts: loops, laid · BpelAwaits: loops, laid.
  DERIVED. THE GIVEN ROWS OF THIS SEAT. 4 by the template 'for every input the law returns true; each argument reads behind the call as it read before'; 0 by the template 'total and deterministic' (their statements: YtjegmlclpecpdaaDoorTotals.lean).
  GIVEN WITH THE SEED: the statements are not yours to turn. If you find one false, say at which input.
  Laid BY PROGRAM, IN A SANDBOX (cutbox-rows.mjs): the forced cells as the released guide's own fill.sh prints them over the translation e5639ad432bc2f49… (all of the seat's roots in one cut). By AI agents, Wed Nov 11 2026. No macro, syntax, notation, axiom, sorry.
-/
import Derived.Test.YtjegmlclpecpdaaDoorChecked
import GoSem.Claim
import GoSem.ClaimJoined
import GoSem.ClaimMapViews
import Derived.JoinedTies
import Derived.KernelRfl
namespace Go.Proofs.YtjegmlclpecpdaaDoor
/- THE CELL 'sum', in the pinned program and in every row, IS THE sha256 OF THE DUMP (.gsa) THAT YtjegmlclpecpdaaDoorProg.lean LOADS. Nothing in Lean hashes anything: it is a label: what it is worth is what the hold of that sum in a sandbox is worth. -/
noncomputable def Tryd.pinned : Pinned := { name := "ytjegmlclpecpdaadoor", sum := "e5639ad432bc2f49441624d726d1748fbfcda192926c39fbfa346034d985849b", checked := Tryd.checked }
namespace Rows
def none {H : Type} : Left H := { results := [], args := [] }

/- WHAT THE LISTED PACKAGE-LEVEL VARIABLES READ AS WHEN THE CALL BEGINS. Each datum BY PROGRAM (the guide's laid-datum.mjs) off the statement by which the dump's own 'gosem.cut.vars' lays the variable. In a bare row this is a premise. The card (YtjegmlclpecpdaaDoorCards.lean) ties it to the program's text. -/
def laid_treenail_term_words {H : Type} : DataW H := .agg [.agg [.lit (.string []), .lit (.int .i64 0), .lit (.int .i64 0), .lit (.int .i64 0)], .agg [.lit (.string []), .lit (.int .i64 0), .lit (.int .i64 0), .lit (.int .i64 0)], .agg [.lit (.string []), .lit (.int .i64 0), .lit (.int .i64 0), .lit (.int .i64 0)], .agg [.lit (.string [110, 101, 103]), .lit (.int .i64 1), .lit (.int .i64 1), .lit (.int .i64 1)], .agg [.lit (.string [110, 111, 116]), .lit (.int .i64 1), .lit (.int .i64 2), .lit (.int .i64 2)], .agg [.lit (.string [97, 100, 100]), .lit (.int .i64 2), .lit (.int .i64 1), .lit (.int .i64 1)], .agg [.lit (.string [115, 117, 98]), .lit (.int .i64 2), .lit (.int .i64 1), .lit (.int .i64 1)], .agg [.lit (.string [109, 117, 108]), .lit (.int .i64 2), .lit (.int .i64 1), .lit (.int .i64 1)], .agg [.lit (.string [100, 105, 118]), .lit (.int .i64 2), .lit (.int .i64 1), .lit (.int .i64 1)], .agg [.lit (.string [109, 111, 100]), .lit (.int .i64 2), .lit (.int .i64 1), .lit (.int .i64 1)], .agg [.lit (.string [101, 113]), .lit (.int .i64 2), .lit (.int .i64 1), .lit (.int .i64 2)], .agg [.lit (.string [108, 116]), .lit (.int .i64 2), .lit (.int .i64 1), .lit (.int .i64 2)], .agg [.lit (.string [108, 101]), .lit (.int .i64 2), .lit (.int .i64 1), .lit (.int .i64 2)], .agg [.lit (.string [97, 110, 100]), .lit (.int .i64 2), .lit (.int .i64 2), .lit (.int .i64 2)], .agg [.lit (.string [111, 114]), .lit (.int .i64 2), .lit (.int .i64 2), .lit (.int .i64 2)]]

/-- 'treenaillaw16.BpelItems': WHATEVER THE INPUT: true; the input reads as it did. -/
def bpelItemsSpec : ChangeSpec := { name := "bpelItems", fn := fun _ => fun
  | [d] => { results := [.lit (.bool true)], args := [d] }
  | _ => none }
def bpelItemsRow : OpenClaim := { program := "ytjegmlclpecpdaadoor", sum := "e5639ad432bc2f49441624d726d1748fbfcda192926c39fbfa346034d985849b", func := "treenail/treenaillaw16.BpelItems", spec := "bpelItems", unfollowed := true, recurses := true, named := ["treenail/term.words"], loops := true, apart := false, laid := [("treenail/term.words", laid_treenail_term_words)] }
def BpelItemsSaid : Prop := bpelItemsRow.holds Tryd.pinned (OpenSpec.ofChange bpelItemsSpec)

/-- ITS FALSE NEIGHBOUR: 'it returns false'. Refute it at one input. -/
def bpelItemsWrong : ChangeSpec := { name := "bpelItems", fn := fun _ => fun
  | [d] => { results := [.lit (.bool false)], args := [d] }
  | _ => none }
def BpelItemsWrongFalsely : Prop := bpelItemsRow.holds Tryd.pinned (OpenSpec.ofChange bpelItemsWrong)

/-- 'treenaillaw16.BpelSame': WHATEVER THE INPUT: true; the input reads as it did. -/
def bpelSameSpec : ChangeSpec := { name := "bpelSame", fn := fun _ => fun
  | [d1, d2] => { results := [.lit (.bool true)], args := [d1, d2] }
  | _ => none }
def bpelSameRow : OpenClaim := { program := "ytjegmlclpecpdaadoor", sum := "e5639ad432bc2f49441624d726d1748fbfcda192926c39fbfa346034d985849b", func := "treenail/treenaillaw16.BpelSame", spec := "bpelSame", unfollowed := true, recurses := true, named := ["treenail/term.words"], loops := true, apart := false, laid := [("treenail/term.words", laid_treenail_term_words)] }
def BpelSameSaid : Prop := bpelSameRow.holds Tryd.pinned (OpenSpec.ofChange bpelSameSpec)

/-- ITS FALSE NEIGHBOUR: 'it returns false'. Refute it at one input. -/
def bpelSameWrong : ChangeSpec := { name := "bpelSame", fn := fun _ => fun
  | [d1, d2] => { results := [.lit (.bool false)], args := [d1, d2] }
  | _ => none }
def BpelSameWrongFalsely : Prop := bpelSameRow.holds Tryd.pinned (OpenSpec.ofChange bpelSameWrong)

/-- 'treenaillaw16.BpelParts': WHATEVER THE INPUT: true; the input reads as it did. -/
def bpelPartsSpec : ChangeSpec := { name := "bpelParts", fn := fun _ => fun
  | [d] => { results := [.lit (.bool true)], args := [d] }
  | _ => none }
def bpelPartsRow : OpenClaim := { program := "ytjegmlclpecpdaadoor", sum := "e5639ad432bc2f49441624d726d1748fbfcda192926c39fbfa346034d985849b", func := "treenail/treenaillaw16.BpelParts", spec := "bpelParts", unfollowed := true, recurses := true, named := ["treenail/term.words"], loops := true, apart := false, laid := [("treenail/term.words", laid_treenail_term_words)] }
def BpelPartsSaid : Prop := bpelPartsRow.holds Tryd.pinned (OpenSpec.ofChange bpelPartsSpec)

/-- ITS FALSE NEIGHBOUR: 'it returns false'. Refute it at one input. -/
def bpelPartsWrong : ChangeSpec := { name := "bpelParts", fn := fun _ => fun
  | [d] => { results := [.lit (.bool false)], args := [d] }
  | _ => none }
def BpelPartsWrongFalsely : Prop := bpelPartsRow.holds Tryd.pinned (OpenSpec.ofChange bpelPartsWrong)

/-- 'treenaillaw16.BpelAwaits': WHATEVER THE INPUT: true; the input reads as it did. -/
def bpelAwaitsSpec : ChangeSpec := { name := "bpelAwaits", fn := fun _ => fun
  | [d1, d2] => { results := [.lit (.bool true)], args := [d1, d2] }
  | _ => none }
def bpelAwaitsRow : OpenClaim := { program := "ytjegmlclpecpdaadoor", sum := "e5639ad432bc2f49441624d726d1748fbfcda192926c39fbfa346034d985849b", func := "treenail/treenaillaw16.BpelAwaits", spec := "bpelAwaits", unfollowed := true, recurses := true, named := ["treenail/term.words"], loops := true, apart := false, laid := [("treenail/term.words", laid_treenail_term_words)] }
def BpelAwaitsSaid : Prop := bpelAwaitsRow.holds Tryd.pinned (OpenSpec.ofChange bpelAwaitsSpec)

/-- ITS FALSE NEIGHBOUR: 'it returns false'. Refute it at one input. -/
def bpelAwaitsWrong : ChangeSpec := { name := "bpelAwaits", fn := fun _ => fun
  | [d1, d2] => { results := [.lit (.bool false)], args := [d1, d2] }
  | _ => none }
def BpelAwaitsWrongFalsely : Prop := bpelAwaitsRow.holds Tryd.pinned (OpenSpec.ofChange bpelAwaitsWrong)

/- THE SECOND FORM. 'bulk': how many values and letters a reading holds, each counted each time it is reached (what is shared counts as often as it is met; a slice's spare places count too). A statement '..UptoSaid' is the law's where the arguments, and the package variables that the reading takes, are together of bulk at most 1048576: NARROWER than '..Said'. Prove '..Said' where nothing that the law and all that it calls make is longer than what came in: it says more and counts as full. Else prove '..UptoSaid'. A law counts once. -/
mutual
def uptoBulk {H : Type} : DataW H → Nat
  | .lit (.string bytes) => bytes.length + 1
  | .lit _ => 1
  | .nil => 1
  | .ptr d => uptoBulk d + 1
  | .slice elems spare => uptoBulkAll elems + uptoBulkAll spare + 1
  | .agg parts => uptoBulkAll parts + 1
  | .iface _ d => uptoBulk d + 1
  | .map entries => uptoBulkEntries entries + 1
  | .held _ => 1
def uptoBulkAll {H : Type} : List (DataW H) → Nat
  | [] => 0
  | d :: r => uptoBulk d + uptoBulkAll r
def uptoBulkEntries {H : Type} : List (Lit × DataW H) → Nat
  | [] => 0
  | x :: r => uptoBulkEntry x + uptoBulkEntries r
def uptoBulkEntry {H : Type} : Lit × DataW H → Nat
  | (.string bytes, d) => bytes.length + uptoBulk d + 1
  | (_, d) => uptoBulk d + 1
 end
def uptoSmall : (H : Type) → List (DataW H) → Bool := fun _ ds => decide (uptoBulkAll ds ≤ 1048576)
def OpenSpec.upto (s : _root_.Go.ChangeSpec) : _root_.Go.OpenSpec := { _root_.Go.OpenSpec.ofChange s with cond := some uptoSmall }

/-- 'treenaillaw16.BpelItems', WHERE WHAT IT READS IS OF BULK AT MOST 1048576: true; the input reads as it did. -/
def bpelItemsUptoRow : OpenClaim := { program := "ytjegmlclpecpdaadoor", sum := "e5639ad432bc2f49441624d726d1748fbfcda192926c39fbfa346034d985849b", func := "treenail/treenaillaw16.BpelItems", spec := "bpelItems", unfollowed := true, recurses := true, named := ["treenail/term.words"], loops := true, apart := false, laid := [("treenail/term.words", laid_treenail_term_words)], narrowed := true }
def BpelItemsUptoSaid : Prop := bpelItemsUptoRow.holds Tryd.pinned (OpenSpec.upto bpelItemsSpec)

/-- 'treenaillaw16.BpelSame', WHERE WHAT IT READS IS OF BULK AT MOST 1048576: true; the input reads as it did. -/
def bpelSameUptoRow : OpenClaim := { program := "ytjegmlclpecpdaadoor", sum := "e5639ad432bc2f49441624d726d1748fbfcda192926c39fbfa346034d985849b", func := "treenail/treenaillaw16.BpelSame", spec := "bpelSame", unfollowed := true, recurses := true, named := ["treenail/term.words"], loops := true, apart := false, laid := [("treenail/term.words", laid_treenail_term_words)], narrowed := true }
def BpelSameUptoSaid : Prop := bpelSameUptoRow.holds Tryd.pinned (OpenSpec.upto bpelSameSpec)

/-- 'treenaillaw16.BpelParts', WHERE WHAT IT READS IS OF BULK AT MOST 1048576: true; the input reads as it did. -/
def bpelPartsUptoRow : OpenClaim := { program := "ytjegmlclpecpdaadoor", sum := "e5639ad432bc2f49441624d726d1748fbfcda192926c39fbfa346034d985849b", func := "treenail/treenaillaw16.BpelParts", spec := "bpelParts", unfollowed := true, recurses := true, named := ["treenail/term.words"], loops := true, apart := false, laid := [("treenail/term.words", laid_treenail_term_words)], narrowed := true }
def BpelPartsUptoSaid : Prop := bpelPartsUptoRow.holds Tryd.pinned (OpenSpec.upto bpelPartsSpec)

/-- 'treenaillaw16.BpelAwaits', WHERE WHAT IT READS IS OF BULK AT MOST 1048576: true; the input reads as it did. -/
def bpelAwaitsUptoRow : OpenClaim := { program := "ytjegmlclpecpdaadoor", sum := "e5639ad432bc2f49441624d726d1748fbfcda192926c39fbfa346034d985849b", func := "treenail/treenaillaw16.BpelAwaits", spec := "bpelAwaits", unfollowed := true, recurses := true, named := ["treenail/term.words"], loops := true, apart := false, laid := [("treenail/term.words", laid_treenail_term_words)], narrowed := true }
def BpelAwaitsUptoSaid : Prop := bpelAwaitsUptoRow.holds Tryd.pinned (OpenSpec.upto bpelAwaitsSpec)

end Rows
end Go.Proofs.YtjegmlclpecpdaaDoor
