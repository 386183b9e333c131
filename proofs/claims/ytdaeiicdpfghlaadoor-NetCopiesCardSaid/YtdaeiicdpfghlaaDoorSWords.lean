/- term.words as the program holds it. -/
import Derived.Test.YtdaeiicdpfghlaaDoorProg
import Derived.Below
namespace Go.Proofs.YtdaeiicdpfghlaaDoor.Words
open Go Go.RowKit Go.Proofs
def txt : Nat → ByteArray
  | 3 => ⟨#[110, 101, 103]⟩
  | 4 => ⟨#[110, 111, 116]⟩
  | 5 => ⟨#[97, 100, 100]⟩
  | 6 => ⟨#[115, 117, 98]⟩
  | 7 => ⟨#[109, 117, 108]⟩
  | 8 => ⟨#[100, 105, 118]⟩
  | 9 => ⟨#[109, 111, 100]⟩
  | 10 => ⟨#[101, 113]⟩
  | 11 => ⟨#[108, 116]⟩
  | 12 => ⟨#[108, 101]⟩
  | 13 => ⟨#[97, 110, 100]⟩
  | 14 => ⟨#[111, 114]⟩
  | _ => ⟨#[]⟩
def kids : Nat → Int
  | 3 => 1
  | 4 => 1
  | 5 => 2
  | 6 => 2
  | 7 => 2
  | 8 => 2
  | 9 => 2
  | 10 => 2
  | 11 => 2
  | 12 => 2
  | 13 => 2
  | 14 => 2
  | _ => 0
def of : Nat → Int
  | 3 => 1
  | 4 => 2
  | 5 => 1
  | 6 => 1
  | 7 => 1
  | 8 => 1
  | 9 => 1
  | 10 => 1
  | 11 => 1
  | 12 => 1
  | 13 => 2
  | 14 => 2
  | _ => 0
def out : Nat → Int
  | 3 => 1
  | 4 => 2
  | 5 => 1
  | 6 => 1
  | 7 => 1
  | 8 => 1
  | 9 => 1
  | 10 => 2
  | 11 => 2
  | 12 => 2
  | 13 => 2
  | 14 => 2
  | _ => 0

def Tab (w : World) : Prop := ∀ j, j < 15 → w.cell? ⟨0, j * 4, none⟩ = some (.string (txt j)) ∧ w.cell? ⟨0, j * 4 + 1, none⟩ = some (.int .i64 (kids j)) ∧ w.cell? ⟨0, j * 4 + 2, none⟩ = some (.int .i64 (of j)) ∧ w.cell? ⟨0, j * 4 + 3, none⟩ = some (.int .i64 (out j))
theorem tab_below {w W : World} (h : Tab w) (hb : Below w.heap.size w W) : Tab W := by
  intro j hj
  obtain ⟨h0, h1, h2, h3⟩ := h j hj
  exact ⟨(hb.cell (World.block_lt_of_cell? w _ h0)).trans h0, (hb.cell (World.block_lt_of_cell? w _ h1)).trans h1, (hb.cell (World.block_lt_of_cell? w _ h2)).trans h2, (hb.cell (World.block_lt_of_cell? w _ h3)).trans h3⟩
end Go.Proofs.YtdaeiicdpfghlaaDoor.Words
