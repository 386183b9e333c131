/-
  No cell of these rows narrows 'for every input' (looked for: loops, veiled, ifaces, maps, wideKeys, modest, calm, conditions, laid).
  DERIVED. THE GIVEN ROWS OF THIS SEAT. 7 by the template 'for every input the law returns true; each argument reads behind the call as it read before'; 0 by the template 'total and deterministic' (their statements: YtgfldjncpmdpdaaTotals.lean).
  GIVEN WITH THE SEED: the statements are not yours to turn. If you find one false, say at which input.
  Laid BY PROGRAM, IN A SANDBOX (cutbox-rows.mjs): the forced cells as the released guide's own fill.sh prints them over the translation 0cce840a95af52e9… (all of the seat's roots in one cut). By AI agents, Wed Nov 11 2026. No macro, syntax, notation, axiom, sorry.
-/
import Derived.Test.YtgfldjncpmdpdaaChecked
import GoSem.Claim
import GoSem.ClaimJoined
import GoSem.ClaimMapViews
import Derived.JoinedTies
import Derived.KernelRfl
namespace Go.Proofs.Ytgfldjncpmdpdaa
/- THE CELL 'sum', in the pinned program and in every row, IS THE sha256 OF THE DUMP (.gsa) THAT YtgfldjncpmdpdaaProg.lean LOADS. Nothing in Lean hashes anything: it is a label: what it is worth is what the hold of that sum in a sandbox is worth. -/
noncomputable def Try.pinned : Pinned := { name := "ytgfldjncpmdpdaa", sum := "0cce840a95af52e906e73eb122f308b929605eeb700fb03384930e7f717e590a", checked := Try.checked }
namespace Rows
def none {H : Type} : Left H := { results := [], args := [] }

/-- 'treenaillaw31.JournalRecords': WHATEVER THE INPUT: true; the input reads as it did. -/
def journalRecordsSpec : ChangeSpec := { name := "journalRecords", fn := fun _ => fun
  | [d1, d2, d3] => { results := [.lit (.bool true)], args := [d1, d2, d3] }
  | _ => none }
def journalRecordsRow : OpenClaim := { program := "ytgfldjncpmdpdaa", sum := "0cce840a95af52e906e73eb122f308b929605eeb700fb03384930e7f717e590a", func := "treenail/treenaillaw31.JournalRecords", spec := "journalRecords", apart := false }
def JournalRecordsSaid : Prop := journalRecordsRow.holds Try.pinned (OpenSpec.ofChange journalRecordsSpec)

/-- ITS FALSE NEIGHBOUR: 'it returns false'. Refute it at one input. -/
def journalRecordsWrong : ChangeSpec := { name := "journalRecords", fn := fun _ => fun
  | [d1, d2, d3] => { results := [.lit (.bool false)], args := [d1, d2, d3] }
  | _ => none }
def JournalRecordsWrongFalsely : Prop := journalRecordsRow.holds Try.pinned (OpenSpec.ofChange journalRecordsWrong)

/-- 'treenaillaw31.JournalDecodes': WHATEVER THE INPUT: true; the input reads as it did. -/
def journalDecodesSpec : ChangeSpec := { name := "journalDecodes", fn := fun _ => fun
  | [d] => { results := [.lit (.bool true)], args := [d] }
  | _ => none }
def journalDecodesRow : OpenClaim := { program := "ytgfldjncpmdpdaa", sum := "0cce840a95af52e906e73eb122f308b929605eeb700fb03384930e7f717e590a", func := "treenail/treenaillaw31.JournalDecodes", spec := "journalDecodes", apart := false }
def JournalDecodesSaid : Prop := journalDecodesRow.holds Try.pinned (OpenSpec.ofChange journalDecodesSpec)

/-- ITS FALSE NEIGHBOUR: 'it returns false'. Refute it at one input. -/
def journalDecodesWrong : ChangeSpec := { name := "journalDecodes", fn := fun _ => fun
  | [d] => { results := [.lit (.bool false)], args := [d] }
  | _ => none }
def JournalDecodesWrongFalsely : Prop := journalDecodesRow.holds Try.pinned (OpenSpec.ofChange journalDecodesWrong)

/-- 'treenaillaw31.JournalOther': WHATEVER THE INPUT: true; the input reads as it did. -/
def journalOtherSpec : ChangeSpec := { name := "journalOther", fn := fun _ => fun
  | [d1, d2, d3] => { results := [.lit (.bool true)], args := [d1, d2, d3] }
  | _ => none }
def journalOtherRow : OpenClaim := { program := "ytgfldjncpmdpdaa", sum := "0cce840a95af52e906e73eb122f308b929605eeb700fb03384930e7f717e590a", func := "treenail/treenaillaw31.JournalOther", spec := "journalOther", apart := false }
def JournalOtherSaid : Prop := journalOtherRow.holds Try.pinned (OpenSpec.ofChange journalOtherSpec)

/-- ITS FALSE NEIGHBOUR: 'it returns false'. Refute it at one input. -/
def journalOtherWrong : ChangeSpec := { name := "journalOther", fn := fun _ => fun
  | [d1, d2, d3] => { results := [.lit (.bool false)], args := [d1, d2, d3] }
  | _ => none }
def JournalOtherWrongFalsely : Prop := journalOtherRow.holds Try.pinned (OpenSpec.ofChange journalOtherWrong)

/-- 'treenaillaw31.JournalEncodes': WHATEVER THE INPUT: true; the input reads as it did. -/
def journalEncodesSpec : ChangeSpec := { name := "journalEncodes", fn := fun _ => fun
  | [d] => { results := [.lit (.bool true)], args := [d] }
  | _ => none }
def journalEncodesRow : OpenClaim := { program := "ytgfldjncpmdpdaa", sum := "0cce840a95af52e906e73eb122f308b929605eeb700fb03384930e7f717e590a", func := "treenail/treenaillaw31.JournalEncodes", spec := "journalEncodes", inPlace := ["internal/abi.NoEscape"], apart := false }
def JournalEncodesSaid : Prop := journalEncodesRow.holds Try.pinned (OpenSpec.ofChange journalEncodesSpec)

/-- ITS FALSE NEIGHBOUR: 'it returns false'. Refute it at one input. -/
def journalEncodesWrong : ChangeSpec := { name := "journalEncodes", fn := fun _ => fun
  | [d] => { results := [.lit (.bool false)], args := [d] }
  | _ => none }
def JournalEncodesWrongFalsely : Prop := journalEncodesRow.holds Try.pinned (OpenSpec.ofChange journalEncodesWrong)

/-- 'treenaillaw31.JournalBack': WHATEVER THE INPUT: true; the input reads as it did. -/
def journalBackSpec : ChangeSpec := { name := "journalBack", fn := fun _ => fun
  | [d1, d2] => { results := [.lit (.bool true)], args := [d1, d2] }
  | _ => none }
def journalBackRow : OpenClaim := { program := "ytgfldjncpmdpdaa", sum := "0cce840a95af52e906e73eb122f308b929605eeb700fb03384930e7f717e590a", func := "treenail/treenaillaw31.JournalBack", spec := "journalBack", inPlace := ["internal/abi.NoEscape"], apart := false }
def JournalBackSaid : Prop := journalBackRow.holds Try.pinned (OpenSpec.ofChange journalBackSpec)

/-- ITS FALSE NEIGHBOUR: 'it returns false'. Refute it at one input. -/
def journalBackWrong : ChangeSpec := { name := "journalBack", fn := fun _ => fun
  | [d1, d2] => { results := [.lit (.bool false)], args := [d1, d2] }
  | _ => none }
def JournalBackWrongFalsely : Prop := journalBackRow.holds Try.pinned (OpenSpec.ofChange journalBackWrong)

/-- 'treenaillaw31.JournalTorn': WHATEVER THE INPUT: true; the input reads as it did. -/
def journalTornSpec : ChangeSpec := { name := "journalTorn", fn := fun _ => fun
  | [d1, d2] => { results := [.lit (.bool true)], args := [d1, d2] }
  | _ => none }
def journalTornRow : OpenClaim := { program := "ytgfldjncpmdpdaa", sum := "0cce840a95af52e906e73eb122f308b929605eeb700fb03384930e7f717e590a", func := "treenail/treenaillaw31.JournalTorn", spec := "journalTorn", inPlace := ["internal/abi.NoEscape"], apart := false }
def JournalTornSaid : Prop := journalTornRow.holds Try.pinned (OpenSpec.ofChange journalTornSpec)

/-- ITS FALSE NEIGHBOUR: 'it returns false'. Refute it at one input. -/
def journalTornWrong : ChangeSpec := { name := "journalTorn", fn := fun _ => fun
  | [d1, d2] => { results := [.lit (.bool false)], args := [d1, d2] }
  | _ => none }
def JournalTornWrongFalsely : Prop := journalTornRow.holds Try.pinned (OpenSpec.ofChange journalTornWrong)

/-- 'treenaillaw31.JournalAppends': WHATEVER THE INPUT: true; the input reads as it did. -/
def journalAppendsSpec : ChangeSpec := { name := "journalAppends", fn := fun _ => fun
  | [d] => { results := [.lit (.bool true)], args := [d] }
  | _ => none }
def journalAppendsRow : OpenClaim := { program := "ytgfldjncpmdpdaa", sum := "0cce840a95af52e906e73eb122f308b929605eeb700fb03384930e7f717e590a", func := "treenail/treenaillaw31.JournalAppends", spec := "journalAppends", inPlace := ["internal/abi.NoEscape"], apart := false }
def JournalAppendsSaid : Prop := journalAppendsRow.holds Try.pinned (OpenSpec.ofChange journalAppendsSpec)

/-- ITS FALSE NEIGHBOUR: 'it returns false'. Refute it at one input. -/
def journalAppendsWrong : ChangeSpec := { name := "journalAppends", fn := fun _ => fun
  | [d] => { results := [.lit (.bool false)], args := [d] }
  | _ => none }
def JournalAppendsWrongFalsely : Prop := journalAppendsRow.holds Try.pinned (OpenSpec.ofChange journalAppendsWrong)

/- THE SECOND FORM. 'bulk': how many values and letters a reading holds, each counted each time it is reached (what is shared counts as often as it is met; a slice's spare places count too). A statement '..UptoSaid' is the law's where the arguments, and the package variables that the reading takes, are together of bulk at most 1048576: NARROWER than '..Said'. Prove '..Said' where nothing that the law and all that it calls make is longer than what came in: it says more and counts as full. Else prove '..UptoSaid'. A law counts once. -/
mutual
def uptoBulk {H : Type} : DataW H → Nat
  | .lit (.string bytes) => bytes.length + 1
  | .lit _ => 1
  | .nil => 1
  | .ptr d => uptoBulk d + 1
  | .slice elems spare => uptoBulkAll elems + uptoBulkAll spare + 1
  | .agg parts => uptoBulkAll parts + 1
  | .iface _ d => uptoBulk d + 1
  | .map entries => uptoBulkEntries entries + 1
  | .held _ => 1
def uptoBulkAll {H : Type} : List (DataW H) → Nat
  | [] => 0
  | d :: r => uptoBulk d + uptoBulkAll r
def uptoBulkEntries {H : Type} : List (Lit × DataW H) → Nat
  | [] => 0
  | x :: r => uptoBulkEntry x + uptoBulkEntries r
def uptoBulkEntry {H : Type} : Lit × DataW H → Nat
  | (.string bytes, d) => bytes.length + uptoBulk d + 1
  | (_, d) => uptoBulk d + 1
 end
def uptoSmall : (H : Type) → List (DataW H) → Bool := fun _ ds => decide (uptoBulkAll ds ≤ 1048576)
def OpenSpec.upto (s : _root_.Go.ChangeSpec) : _root_.Go.OpenSpec := { _root_.Go.OpenSpec.ofChange s with cond := some uptoSmall }

/-- 'treenaillaw31.JournalRecords', WHERE WHAT IT READS IS OF BULK AT MOST 1048576: true; the input reads as it did. -/
def journalRecordsUptoRow : OpenClaim := { program := "ytgfldjncpmdpdaa", sum := "0cce840a95af52e906e73eb122f308b929605eeb700fb03384930e7f717e590a", func := "treenail/treenaillaw31.JournalRecords", spec := "journalRecords", apart := false, narrowed := true }
def JournalRecordsUptoSaid : Prop := journalRecordsUptoRow.holds Try.pinned (OpenSpec.upto journalRecordsSpec)

/-- 'treenaillaw31.JournalDecodes', WHERE WHAT IT READS IS OF BULK AT MOST 1048576: true; the input reads as it did. -/
def journalDecodesUptoRow : OpenClaim := { program := "ytgfldjncpmdpdaa", sum := "0cce840a95af52e906e73eb122f308b929605eeb700fb03384930e7f717e590a", func := "treenail/treenaillaw31.JournalDecodes", spec := "journalDecodes", apart := false, narrowed := true }
def JournalDecodesUptoSaid : Prop := journalDecodesUptoRow.holds Try.pinned (OpenSpec.upto journalDecodesSpec)

/-- 'treenaillaw31.JournalOther', WHERE WHAT IT READS IS OF BULK AT MOST 1048576: true; the input reads as it did. -/
def journalOtherUptoRow : OpenClaim := { program := "ytgfldjncpmdpdaa", sum := "0cce840a95af52e906e73eb122f308b929605eeb700fb03384930e7f717e590a", func := "treenail/treenaillaw31.JournalOther", spec := "journalOther", apart := false, narrowed := true }
def JournalOtherUptoSaid : Prop := journalOtherUptoRow.holds Try.pinned (OpenSpec.upto journalOtherSpec)

/-- 'treenaillaw31.JournalEncodes', WHERE WHAT IT READS IS OF BULK AT MOST 1048576: true; the input reads as it did. -/
def journalEncodesUptoRow : OpenClaim := { program := "ytgfldjncpmdpdaa", sum := "0cce840a95af52e906e73eb122f308b929605eeb700fb03384930e7f717e590a", func := "treenail/treenaillaw31.JournalEncodes", spec := "journalEncodes", inPlace := ["internal/abi.NoEscape"], apart := false, narrowed := true }
def JournalEncodesUptoSaid : Prop := journalEncodesUptoRow.holds Try.pinned (OpenSpec.upto journalEncodesSpec)

/-- 'treenaillaw31.JournalBack', WHERE WHAT IT READS IS OF BULK AT MOST 1048576: true; the input reads as it did. -/
def journalBackUptoRow : OpenClaim := { program := "ytgfldjncpmdpdaa", sum := "0cce840a95af52e906e73eb122f308b929605eeb700fb03384930e7f717e590a", func := "treenail/treenaillaw31.JournalBack", spec := "journalBack", inPlace := ["internal/abi.NoEscape"], apart := false, narrowed := true }
def JournalBackUptoSaid : Prop := journalBackUptoRow.holds Try.pinned (OpenSpec.upto journalBackSpec)

/-- 'treenaillaw31.JournalTorn', WHERE WHAT IT READS IS OF BULK AT MOST 1048576: true; the input reads as it did. -/
def journalTornUptoRow : OpenClaim := { program := "ytgfldjncpmdpdaa", sum := "0cce840a95af52e906e73eb122f308b929605eeb700fb03384930e7f717e590a", func := "treenail/treenaillaw31.JournalTorn", spec := "journalTorn", inPlace := ["internal/abi.NoEscape"], apart := false, narrowed := true }
def JournalTornUptoSaid : Prop := journalTornUptoRow.holds Try.pinned (OpenSpec.upto journalTornSpec)

/-- 'treenaillaw31.JournalAppends', WHERE WHAT IT READS IS OF BULK AT MOST 1048576: true; the input reads as it did. -/
def journalAppendsUptoRow : OpenClaim := { program := "ytgfldjncpmdpdaa", sum := "0cce840a95af52e906e73eb122f308b929605eeb700fb03384930e7f717e590a", func := "treenail/treenaillaw31.JournalAppends", spec := "journalAppends", inPlace := ["internal/abi.NoEscape"], apart := false, narrowed := true }
def JournalAppendsUptoSaid : Prop := journalAppendsUptoRow.holds Try.pinned (OpenSpec.upto journalAppendsSpec)

end Rows
end Go.Proofs.Ytgfldjncpmdpdaa
