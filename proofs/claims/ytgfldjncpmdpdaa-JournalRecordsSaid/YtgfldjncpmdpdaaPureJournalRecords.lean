/- Each step's record at each place, and the sum of any bytes, are the document's: for every step, place and bytes. -/
import Derived.Test.YtgfldjncpmdpdaaQx7
import Derived.Test.YtgfldjncpmdpdaaQk
import Derived.Test.YtgfldjncpmdpdaaJ3
set_option linter.unusedVariables false
set_option linter.unusedSimpArgs false
namespace Go.Proofs.Ytgfldjncpmdpdaa.Pure
open Go.RowKit Go.Proofs.Ytgfldjncpmdpdaa.Q Go.Proofs.Ytgfldjncpmdpdaa.J Go.Proofs.Ytgfldjncpmdpdaa.BL Go.Proofs.YtgfldjncpmdpdaaW.PrintWords Go.Proofs.YtgfldjncpmdpdaaW.PrintLast

theorem JournalRecords : ∀ (x0 : S23) (a1 : Int) (a2 : ByteArray), ok_T23 x0 → (Lit.int .i64 a1).wf = true → a2.size ≤ 140737488351232 → ∃ k, treenaillaw31_JournalRecords.f k x0.f0 x0.f1 x0.f2 a1 a2 = some true := by
  intro x0 a1 a2 _ _ hs
  obtain ⟨L, hL, rfl⟩ := str_cases a2
  rw [size_str] at hs
  refine ⟨L.length + 100, ?_⟩
  unfold treenaillaw31_JournalRecords.f
  rw [three _ (by omega)]
  split
  · rfl
  · rw [jrec _ _ _ _ _ (by omega), rrec _ _ _ _ _ (by omega), jsum L hL hs a1 _ (by omega), rsum L hL hs a1 _ (by omega)]
    simp
end Go.Proofs.Ytgfldjncpmdpdaa.Pure
