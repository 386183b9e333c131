/- The table of escapes, out of what the row lists. -/
import Derived.Test.YtdlblokojlhmbaaDoorSLaidc
import Derived.Test.YtdlblokojlhmbaaDoorSTabs
import Derived.Test.YtdlblokojlhmbaaDoorRows
namespace Go.Proofs.YtdlblokojlhmbaaDoor.Laid
open Go
theorem hg : Tryd.prog.globalNamed "treenail/mark.escapes" = some 0 := by kernel_rfl
theorem ht : (Tryd.prog.globals[0]?).map (·.type) = some 71 := by kernel_rfl
theorem tab {W : World} (h : laidMetH Tryd.prog [("treenail/mark.escapes", Rows.laid_treenail_mark_escapes)] W) : Tabs.Tab W := by
  have c := fun o v => Laidc.cell_of_laid rfl h (List.mem_singleton.2 rfl) hg ht 8 o v
  intro j hj
  match j, hj with
  | 0, _ => exact ⟨c 0 (.int .u8 60) (by kernel_rfl), c 1 (.string ⟨#[38, 108, 116, 59]⟩) (by kernel_rfl)⟩
  | 1, _ => exact ⟨c 2 (.int .u8 62) (by kernel_rfl), c 3 (.string ⟨#[38, 103, 116, 59]⟩) (by kernel_rfl)⟩
  | 2, _ => exact ⟨c 4 (.int .u8 38) (by kernel_rfl), c 5 (.string ⟨#[38, 97, 109, 112, 59]⟩) (by kernel_rfl)⟩
  | 3, _ => exact ⟨c 6 (.int .u8 34) (by kernel_rfl), c 7 (.string ⟨#[38, 113, 117, 111, 116, 59]⟩) (by kernel_rfl)⟩
end Go.Proofs.YtdlblokojlhmbaaDoor.Laid
