/-
  No cell of these rows narrows 'for every input' (looked for: loops, veiled, ifaces, maps, wideKeys, modest, calm, conditions, laid).
  DERIVED. THE GIVEN ROWS OF THIS SEAT. 5 by the template 'for every input the law returns true; each argument reads behind the call as it read before'; 0 by the template 'total and deterministic' (their statements: YtfblajilalcnkaaTotals.lean).
  GIVEN WITH THE SEED: the statements are not yours to turn. If you find one false, say at which input.
  Laid BY PROGRAM, IN A SANDBOX (cutbox-rows.mjs): the forced cells as the released guide's own fill.sh prints them over the translation 187a1765120309fa… (all of the seat's roots in one cut). By AI agents, Wed Nov 11 2026. No macro, syntax, notation, axiom, sorry.
-/
import Derived.Test.YtfblajilalcnkaaChecked
import GoSem.Claim
import GoSem.ClaimJoined
import GoSem.ClaimMapViews
import Derived.JoinedTies
import Derived.KernelRfl
namespace Go.Proofs.Ytfblajilalcnkaa
/- THE CELL 'sum', in the pinned program and in every row, IS THE sha256 OF THE DUMP (.gsa) THAT YtfblajilalcnkaaProg.lean LOADS. Nothing in Lean hashes anything: it is a label: what it is worth is what the hold of that sum in a sandbox is worth. -/
noncomputable def Try.pinned : Pinned := { name := "ytfblajilalcnkaa", sum := "187a1765120309faf9f532037b9b6d2b2b071f95054e13e443544a5f8087b5c7", checked := Try.checked }
namespace Rows
def none {H : Type} : Left H := { results := [], args := [] }

/-- 'treenaillaw09.RankOrders': WHATEVER THE INPUT: true; the input reads as it did. -/
def rankOrdersSpec : ChangeSpec := { name := "rankOrders", fn := fun _ => fun
  | [d1, d2] => { results := [.lit (.bool true)], args := [d1, d2] }
  | _ => none }
def rankOrdersRow : OpenClaim := { program := "ytfblajilalcnkaa", sum := "187a1765120309faf9f532037b9b6d2b2b071f95054e13e443544a5f8087b5c7", func := "treenail/treenaillaw09.RankOrders", spec := "rankOrders", unfollowed := true, recurses := true, apart := false }
def RankOrdersSaid : Prop := rankOrdersRow.holds Try.pinned (OpenSpec.ofChange rankOrdersSpec)

/-- ITS FALSE NEIGHBOUR: 'it returns false'. Refute it at one input. -/
def rankOrdersWrong : ChangeSpec := { name := "rankOrders", fn := fun _ => fun
  | [d1, d2] => { results := [.lit (.bool false)], args := [d1, d2] }
  | _ => none }
def RankOrdersWrongFalsely : Prop := rankOrdersRow.holds Try.pinned (OpenSpec.ofChange rankOrdersWrong)

/-- 'treenaillaw09.RankAhead': WHATEVER THE INPUT: true; the input reads as it did. -/
def rankAheadSpec : ChangeSpec := { name := "rankAhead", fn := fun _ => fun
  | [d1, d2] => { results := [.lit (.bool true)], args := [d1, d2] }
  | _ => none }
def rankAheadRow : OpenClaim := { program := "ytfblajilalcnkaa", sum := "187a1765120309faf9f532037b9b6d2b2b071f95054e13e443544a5f8087b5c7", func := "treenail/treenaillaw09.RankAhead", spec := "rankAhead", unfollowed := true, recurses := true, apart := false }
def RankAheadSaid : Prop := rankAheadRow.holds Try.pinned (OpenSpec.ofChange rankAheadSpec)

/-- ITS FALSE NEIGHBOUR: 'it returns false'. Refute it at one input. -/
def rankAheadWrong : ChangeSpec := { name := "rankAhead", fn := fun _ => fun
  | [d1, d2] => { results := [.lit (.bool false)], args := [d1, d2] }
  | _ => none }
def RankAheadWrongFalsely : Prop := rankAheadRow.holds Try.pinned (OpenSpec.ofChange rankAheadWrong)

/-- 'treenaillaw09.RankMeets': WHATEVER THE INPUT: true; the input reads as it did. -/
def rankMeetsSpec : ChangeSpec := { name := "rankMeets", fn := fun _ => fun
  | [d1, d2, d3] => { results := [.lit (.bool true)], args := [d1, d2, d3] }
  | _ => none }
def rankMeetsRow : OpenClaim := { program := "ytfblajilalcnkaa", sum := "187a1765120309faf9f532037b9b6d2b2b071f95054e13e443544a5f8087b5c7", func := "treenail/treenaillaw09.RankMeets", spec := "rankMeets", unfollowed := true, recurses := true, apart := false }
def RankMeetsSaid : Prop := rankMeetsRow.holds Try.pinned (OpenSpec.ofChange rankMeetsSpec)

/-- ITS FALSE NEIGHBOUR: 'it returns false'. Refute it at one input. -/
def rankMeetsWrong : ChangeSpec := { name := "rankMeets", fn := fun _ => fun
  | [d1, d2, d3] => { results := [.lit (.bool false)], args := [d1, d2, d3] }
  | _ => none }
def RankMeetsWrongFalsely : Prop := rankMeetsRow.holds Try.pinned (OpenSpec.ofChange rankMeetsWrong)

/-- 'treenaillaw09.RankGrows': WHATEVER THE INPUT: true; the input reads as it did. -/
def rankGrowsSpec : ChangeSpec := { name := "rankGrows", fn := fun _ => fun
  | [d1, d2, d3] => { results := [.lit (.bool true)], args := [d1, d2, d3] }
  | _ => none }
def rankGrowsRow : OpenClaim := { program := "ytfblajilalcnkaa", sum := "187a1765120309faf9f532037b9b6d2b2b071f95054e13e443544a5f8087b5c7", func := "treenail/treenaillaw09.RankGrows", spec := "rankGrows", unfollowed := true, recurses := true, apart := false }
def RankGrowsSaid : Prop := rankGrowsRow.holds Try.pinned (OpenSpec.ofChange rankGrowsSpec)

/-- ITS FALSE NEIGHBOUR: 'it returns false'. Refute it at one input. -/
def rankGrowsWrong : ChangeSpec := { name := "rankGrows", fn := fun _ => fun
  | [d1, d2, d3] => { results := [.lit (.bool false)], args := [d1, d2, d3] }
  | _ => none }
def RankGrowsWrongFalsely : Prop := rankGrowsRow.holds Try.pinned (OpenSpec.ofChange rankGrowsWrong)

/-- 'treenaillaw09.RankBetween': WHATEVER THE INPUT: true; the input reads as it did. -/
def rankBetweenSpec : ChangeSpec := { name := "rankBetween", fn := fun _ => fun
  | [d1, d2, d3] => { results := [.lit (.bool true)], args := [d1, d2, d3] }
  | _ => none }
def rankBetweenRow : OpenClaim := { program := "ytfblajilalcnkaa", sum := "187a1765120309faf9f532037b9b6d2b2b071f95054e13e443544a5f8087b5c7", func := "treenail/treenaillaw09.RankBetween", spec := "rankBetween", unfollowed := true, recurses := true, apart := false }
def RankBetweenSaid : Prop := rankBetweenRow.holds Try.pinned (OpenSpec.ofChange rankBetweenSpec)

/-- ITS FALSE NEIGHBOUR: 'it returns false'. Refute it at one input. -/
def rankBetweenWrong : ChangeSpec := { name := "rankBetween", fn := fun _ => fun
  | [d1, d2, d3] => { results := [.lit (.bool false)], args := [d1, d2, d3] }
  | _ => none }
def RankBetweenWrongFalsely : Prop := rankBetweenRow.holds Try.pinned (OpenSpec.ofChange rankBetweenWrong)

/- THE SECOND FORM. 'bulk': how many values and letters a reading holds, each counted each time it is reached (what is shared counts as often as it is met; a slice's spare places count too). A statement '..UptoSaid' is the law's where the arguments, and the package variables that the reading takes, are together of bulk at most 1048576: NARROWER than '..Said'. Prove '..Said' where nothing that the law and all that it calls make is longer than what came in: it says more and counts as full. Else prove '..UptoSaid'. A law counts once. -/
mutual
def uptoBulk {H : Type} : DataW H → Nat
  | .lit (.string bytes) => bytes.length + 1
  | .lit _ => 1
  | .nil => 1
  | .ptr d => uptoBulk d + 1
  | .slice elems spare => uptoBulkAll elems + uptoBulkAll spare + 1
  | .agg parts => uptoBulkAll parts + 1
  | .iface _ d => uptoBulk d + 1
  | .map entries => uptoBulkEntries entries + 1
  | .held _ => 1
def uptoBulkAll {H : Type} : List (DataW H) → Nat
  | [] => 0
  | d :: r => uptoBulk d + uptoBulkAll r
def uptoBulkEntries {H : Type} : List (Lit × DataW H) → Nat
  | [] => 0
  | x :: r => uptoBulkEntry x + uptoBulkEntries r
def uptoBulkEntry {H : Type} : Lit × DataW H → Nat
  | (.string bytes, d) => bytes.length + uptoBulk d + 1
  | (_, d) => uptoBulk d + 1
 end
def uptoSmall : (H : Type) → List (DataW H) → Bool := fun _ ds => decide (uptoBulkAll ds ≤ 1048576)
def OpenSpec.upto (s : _root_.Go.ChangeSpec) : _root_.Go.OpenSpec := { _root_.Go.OpenSpec.ofChange s with cond := some uptoSmall }

/-- 'treenaillaw09.RankOrders', WHERE WHAT IT READS IS OF BULK AT MOST 1048576: true; the input reads as it did. -/
def rankOrdersUptoRow : OpenClaim := { program := "ytfblajilalcnkaa", sum := "187a1765120309faf9f532037b9b6d2b2b071f95054e13e443544a5f8087b5c7", func := "treenail/treenaillaw09.RankOrders", spec := "rankOrders", unfollowed := true, recurses := true, apart := false, narrowed := true }
def RankOrdersUptoSaid : Prop := rankOrdersUptoRow.holds Try.pinned (OpenSpec.upto rankOrdersSpec)

/-- 'treenaillaw09.RankAhead', WHERE WHAT IT READS IS OF BULK AT MOST 1048576: true; the input reads as it did. -/
def rankAheadUptoRow : OpenClaim := { program := "ytfblajilalcnkaa", sum := "187a1765120309faf9f532037b9b6d2b2b071f95054e13e443544a5f8087b5c7", func := "treenail/treenaillaw09.RankAhead", spec := "rankAhead", unfollowed := true, recurses := true, apart := false, narrowed := true }
def RankAheadUptoSaid : Prop := rankAheadUptoRow.holds Try.pinned (OpenSpec.upto rankAheadSpec)

/-- 'treenaillaw09.RankMeets', WHERE WHAT IT READS IS OF BULK AT MOST 1048576: true; the input reads as it did. -/
def rankMeetsUptoRow : OpenClaim := { program := "ytfblajilalcnkaa", sum := "187a1765120309faf9f532037b9b6d2b2b071f95054e13e443544a5f8087b5c7", func := "treenail/treenaillaw09.RankMeets", spec := "rankMeets", unfollowed := true, recurses := true, apart := false, narrowed := true }
def RankMeetsUptoSaid : Prop := rankMeetsUptoRow.holds Try.pinned (OpenSpec.upto rankMeetsSpec)

/-- 'treenaillaw09.RankGrows', WHERE WHAT IT READS IS OF BULK AT MOST 1048576: true; the input reads as it did. -/
def rankGrowsUptoRow : OpenClaim := { program := "ytfblajilalcnkaa", sum := "187a1765120309faf9f532037b9b6d2b2b071f95054e13e443544a5f8087b5c7", func := "treenail/treenaillaw09.RankGrows", spec := "rankGrows", unfollowed := true, recurses := true, apart := false, narrowed := true }
def RankGrowsUptoSaid : Prop := rankGrowsUptoRow.holds Try.pinned (OpenSpec.upto rankGrowsSpec)

/-- 'treenaillaw09.RankBetween', WHERE WHAT IT READS IS OF BULK AT MOST 1048576: true; the input reads as it did. -/
def rankBetweenUptoRow : OpenClaim := { program := "ytfblajilalcnkaa", sum := "187a1765120309faf9f532037b9b6d2b2b071f95054e13e443544a5f8087b5c7", func := "treenail/treenaillaw09.RankBetween", spec := "rankBetween", unfollowed := true, recurses := true, apart := false, narrowed := true }
def RankBetweenUptoSaid : Prop := rankBetweenUptoRow.holds Try.pinned (OpenSpec.upto rankBetweenSpec)

end Rows
end Go.Proofs.Ytfblajilalcnkaa
