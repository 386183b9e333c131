/- The steps of any bytes, and how many bytes they are, are the document's: for every text. -/
import Derived.Test.YtgfldjncpmdpdaaQx11
import Derived.Test.YtgfldjncpmdpdaaJ3
set_option linter.unusedVariables false
set_option linter.unusedSimpArgs false
namespace Go.Proofs.Ytgfldjncpmdpdaa.Pure
open Go.RowKit Go.Proofs.Ytgfldjncpmdpdaa.Q Go.Proofs.Ytgfldjncpmdpdaa.J Go.Proofs.Ytgfldjncpmdpdaa.BL Go.Proofs.YtgfldjncpmdpdaaW.PrintWords Go.Proofs.YtgfldjncpmdpdaaW.PrintLast

theorem JournalDecodes : treenaillaw31_JournalDecodes.Pure := by
  intro a0 hs
  obtain ⟨L, hL, rfl⟩ := str_cases a0
  rw [size_str] at hs
  refine ⟨2 * L.length + 100, ?_⟩
  unfold treenaillaw31_JournalDecodes.f
  rw [three _ (by omega), size_str]
  by_cases h : (L.length : Int) > 6000
  · rw [if_pos h]
    rfl
  · have hl := decL_len 10000 L 0
    have hl' : (decR L).1.length ≤ L.length := hl
    rw [if_neg h, jdec L hL hs _ (by omega), rdec L hL hs _ (by omega)]
    simp only [Option.bind_some]
    rw [jsame _ (by omega) _ (by omega), jwhole L hL hs _ (by omega)]
    simp only [Option.bind_some, if_true]
    rw [if_pos]
    by_cases e : (decR L).2 = (L.length : Int) <;> simp [e]
end Go.Proofs.Ytgfldjncpmdpdaa.Pure
