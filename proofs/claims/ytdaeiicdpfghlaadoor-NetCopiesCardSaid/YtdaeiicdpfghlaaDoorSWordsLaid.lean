/- term.words, out of what the row lists. -/
import Derived.Test.YtdaeiicdpfghlaaDoorSLaidc
import Derived.Test.YtdaeiicdpfghlaaDoorSWords
import Derived.Test.YtdaeiicdpfghlaaDoorRows
namespace Go.Proofs.YtdaeiicdpfghlaaDoor.Words
open Go
theorem hg : Tryd.prog.globalNamed "treenail/term.words" = some 0 := by kernel_rfl
theorem ht : (Tryd.prog.globals[0]?).map (·.type) = some 79 := by kernel_rfl
theorem tab {W : World} (h : laidMetH Tryd.prog [("treenail/term.words", Rows.laid_treenail_term_words)] W) : Tab W := by
  have c := fun o v => Laidc.cell_of_laid rfl h (List.mem_singleton.2 rfl) hg ht 8 o v
  intro j hj
  match j, hj with
  | 0, _ => exact ⟨c 0 (.string ⟨#[]⟩) (by kernel_rfl), c 1 (.int .i64 0) (by kernel_rfl), c 2 (.int .i64 0) (by kernel_rfl), c 3 (.int .i64 0) (by kernel_rfl)⟩
  | 1, _ => exact ⟨c 4 (.string ⟨#[]⟩) (by kernel_rfl), c 5 (.int .i64 0) (by kernel_rfl), c 6 (.int .i64 0) (by kernel_rfl), c 7 (.int .i64 0) (by kernel_rfl)⟩
  | 2, _ => exact ⟨c 8 (.string ⟨#[]⟩) (by kernel_rfl), c 9 (.int .i64 0) (by kernel_rfl), c 10 (.int .i64 0) (by kernel_rfl), c 11 (.int .i64 0) (by kernel_rfl)⟩
  | 3, _ => exact ⟨c 12 (.string ⟨#[110, 101, 103]⟩) (by kernel_rfl), c 13 (.int .i64 1) (by kernel_rfl), c 14 (.int .i64 1) (by kernel_rfl), c 15 (.int .i64 1) (by kernel_rfl)⟩
  | 4, _ => exact ⟨c 16 (.string ⟨#[110, 111, 116]⟩) (by kernel_rfl), c 17 (.int .i64 1) (by kernel_rfl), c 18 (.int .i64 2) (by kernel_rfl), c 19 (.int .i64 2) (by kernel_rfl)⟩
  | 5, _ => exact ⟨c 20 (.string ⟨#[97, 100, 100]⟩) (by kernel_rfl), c 21 (.int .i64 2) (by kernel_rfl), c 22 (.int .i64 1) (by kernel_rfl), c 23 (.int .i64 1) (by kernel_rfl)⟩
  | 6, _ => exact ⟨c 24 (.string ⟨#[115, 117, 98]⟩) (by kernel_rfl), c 25 (.int .i64 2) (by kernel_rfl), c 26 (.int .i64 1) (by kernel_rfl), c 27 (.int .i64 1) (by kernel_rfl)⟩
  | 7, _ => exact ⟨c 28 (.string ⟨#[109, 117, 108]⟩) (by kernel_rfl), c 29 (.int .i64 2) (by kernel_rfl), c 30 (.int .i64 1) (by kernel_rfl), c 31 (.int .i64 1) (by kernel_rfl)⟩
  | 8, _ => exact ⟨c 32 (.string ⟨#[100, 105, 118]⟩) (by kernel_rfl), c 33 (.int .i64 2) (by kernel_rfl), c 34 (.int .i64 1) (by kernel_rfl), c 35 (.int .i64 1) (by kernel_rfl)⟩
  | 9, _ => exact ⟨c 36 (.string ⟨#[109, 111, 100]⟩) (by kernel_rfl), c 37 (.int .i64 2) (by kernel_rfl), c 38 (.int .i64 1) (by kernel_rfl), c 39 (.int .i64 1) (by kernel_rfl)⟩
  | 10, _ => exact ⟨c 40 (.string ⟨#[101, 113]⟩) (by kernel_rfl), c 41 (.int .i64 2) (by kernel_rfl), c 42 (.int .i64 1) (by kernel_rfl), c 43 (.int .i64 2) (by kernel_rfl)⟩
  | 11, _ => exact ⟨c 44 (.string ⟨#[108, 116]⟩) (by kernel_rfl), c 45 (.int .i64 2) (by kernel_rfl), c 46 (.int .i64 1) (by kernel_rfl), c 47 (.int .i64 2) (by kernel_rfl)⟩
  | 12, _ => exact ⟨c 48 (.string ⟨#[108, 101]⟩) (by kernel_rfl), c 49 (.int .i64 2) (by kernel_rfl), c 50 (.int .i64 1) (by kernel_rfl), c 51 (.int .i64 2) (by kernel_rfl)⟩
  | 13, _ => exact ⟨c 52 (.string ⟨#[97, 110, 100]⟩) (by kernel_rfl), c 53 (.int .i64 2) (by kernel_rfl), c 54 (.int .i64 2) (by kernel_rfl), c 55 (.int .i64 2) (by kernel_rfl)⟩
  | 14, _ => exact ⟨c 56 (.string ⟨#[111, 114]⟩) (by kernel_rfl), c 57 (.int .i64 2) (by kernel_rfl), c 58 (.int .i64 2) (by kernel_rfl), c 59 (.int .i64 2) (by kernel_rfl)⟩
end Go.Proofs.YtdaeiicdpfghlaaDoor.Words
