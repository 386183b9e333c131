/- The journal of any steps, or why there is none, is the document's: for every list of steps. -/
import Derived.Test.YtgfldjncpmdpdaaRx
import Derived.Test.YtgfldjncpmdpdaaRk
import Derived.Test.YtgfldjncpmdpdaaK5
set_option linter.unusedVariables false
set_option linter.unusedSimpArgs false
namespace Go.Proofs.Ytgfldjncpmdpdaa.Pure
open Go.RowKit Go.Proofs.Ytgfldjncpmdpdaa.R Go.Proofs.Ytgfldjncpmdpdaa.JR Go.Proofs.Ytgfldjncpmdpdaa.BL Go.Proofs.YtgfldjncpmdpdaaW.PrintWords Go.Proofs.YtgfldjncpmdpdaaW.PrintLast

theorem JournalEncodes : ∀ (x0 : List (S23)), (x0.length * 24 ≤ 140737488351232 ∧ x0.length ≤ 9223372036854775807 ∧ ∀ a_ ∈ x0, ok_T23 a_) → ∃ k, treenaillaw31_JournalEncodes.f k x0 = some true := by
  rintro L ⟨hs, _, _⟩
  refine ⟨L.length + 200, ?_⟩
  have j0 : ∀ b, treenaillaw31_JournalEncodes.j0 (L.length + 200) L b = some true := by
    intro b
    simp only [treenaillaw31_JournalEncodes.j0]
    rw [three _ (by omega), jenc _ _ (by omega), jrefs _ (by omega) _ (by omega)]
    simp only [Option.bind_some]
    rw [renc _ _ (by omega)]
    cases b <;> simp
  unfold treenaillaw31_JournalEncodes.f
  rw [j0, j0]
  split <;> rfl
end Go.Proofs.Ytgfldjncpmdpdaa.Pure
