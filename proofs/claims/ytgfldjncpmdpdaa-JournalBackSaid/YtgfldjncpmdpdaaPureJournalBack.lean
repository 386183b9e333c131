/- There and back: what was written is read; what is read is written as it was: for every list of steps and every text. -/
import Derived.Test.YtgfldjncpmdpdaaRx
import Derived.Test.YtgfldjncpmdpdaaRk
import Derived.Test.YtgfldjncpmdpdaaK5
set_option linter.unusedVariables false
set_option linter.unusedSimpArgs false
namespace Go.Proofs.Ytgfldjncpmdpdaa.Pure
open Go.RowKit Go.Proofs.Ytgfldjncpmdpdaa.R Go.Proofs.Ytgfldjncpmdpdaa.JR Go.Proofs.Ytgfldjncpmdpdaa.BL Go.Proofs.YtgfldjncpmdpdaaW.PrintWords Go.Proofs.YtgfldjncpmdpdaaW.PrintLast

theorem back_end (L : List Int) (hL : BL L) (h : L.length ≤ 6000) (k : Nat) (hk : 10000 ≤ k) : ((journal_Decode.f k (strOfNums L)).bind fun bt197 => ((journal_Encode.f k bt197.1).bind fun bt201 => (if bt201.2 = 0 then (if 0 ≤ bt197.2 then (if bt197.2 ≤ ((strOfNums L).size : Int) then (if bt201.1.toList = ((strOfNums L).extract 0 (bt197.2 : Int).toNat).toList then ((treenaillaw31_three.f k).bind fun t203 => (some t203)) else (some false)) else (none)) else (none)) else (some false)))) = some true := by
  obtain ⟨h1, h2, h3⟩ := decL_back 10000 L 0
  obtain ⟨h4, h5⟩ := back_take L
  have hlen := congrArg List.length h2
  rw [List.length_append, encL_len] at hlen
  have hc : cans (decR L).1 := h1
  have hl : (decR L).1.length ≤ 10000 := h3
  have h17 : 17 * (decR L).1.length ≤ L.length := by show 17 * (decL 10000 L 0).1.length ≤ L.length; omega
  rw [jdec L hL (by omega) k (by omega)]
  simp only [Option.bind_some]
  have e : encR (decR L).1 = (strOfNums (encL (decR L).1 0), 0) := by
    unfold encR encE
    rw [if_neg (by omega), if_pos hc, if_neg (by omega)]
  rw [jenc _ _ (by omega), e]
  simp only [Option.bind_some]
  simp only [if_true]
  rw [h5, if_pos (by omega), size_str, if_pos (by omega), take_str, ← h5, ← h4, if_pos rfl, three k (by omega)]
  rfl
theorem JournalBack : ∀ (x0 : List (S23)) (a1 : ByteArray), (x0.length * 24 ≤ 140737488351232 ∧ x0.length ≤ 9223372036854775807 ∧ ∀ a_ ∈ x0, ok_T23 a_) → a1.size ≤ 140737488351232 → ∃ k, treenaillaw31_JournalBack.f k x0 a1 = some true := by
  rintro M a1 ⟨hs, _, _⟩ h1
  obtain ⟨L, hL, rfl⟩ := str_cases a1
  refine ⟨20002, ?_⟩
  have jt : treenaillaw31_JournalBack.j0 20002 M (strOfNums L) true = some true := by
    simp only [treenaillaw31_JournalBack.j0]
    rw [if_pos trivial, three _ (by omega)]
    rfl
  unfold treenaillaw31_JournalBack.f
  by_cases g : (M.length : Int) > 500
  · rw [if_pos g, jt]
  rw [if_neg g]
  by_cases g2 : (((strOfNums L).size : Int) > 6000)
  · rw [decide_eq_true g2, jt]
  rw [decide_eq_false g2]
  rw [size_str] at g2
  simp only [treenaillaw31_JournalBack.j0]
  rw [if_neg (by decide), jenc M _ (by omega)]
  simp only [Option.bind_some]
  by_cases hc : cans M
  · have e : encR M = (strOfNums (encL M 0), 0) := by
      unfold encR encE
      rw [if_neg (by omega), if_pos hc, if_neg (by omega)]
    have hl := encL_len M 0
    rw [e, if_pos rfl, jdec _ (encL_bl M 0) (by omega) _ (by omega), decR_enc M (by omega) hc]
    simp only [Option.bind_some]
    rw [if_pos (by rw [size_str, hl]), jrefs M (by omega) _ (by omega)]
    simp only [Option.bind_some]
    rw [jsame M (by omega) _ (by omega)]
    simp only [Option.bind_some, Bool.not_true]
    simp only [treenaillaw31_JournalBack.j1]
    rw [if_neg (by decide)]
    exact back_end L hL (by omega) 20000 (by omega)
  · have e : encR M = ((⟨#[]⟩ : ByteArray), 1) := by
      unfold encR
      rw [if_neg (by omega), if_neg hc]
    rw [e, if_neg (by decide)]
    exact back_end L hL (by omega) 20001 (by omega)
end Go.Proofs.Ytgfldjncpmdpdaa.Pure
