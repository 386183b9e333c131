/- A journal grows record by record to what Encode makes: for every list of steps. -/
import Derived.Test.YtgfldjncpmdpdaaRx
import Derived.Test.YtgfldjncpmdpdaaRk
import Derived.Test.YtgfldjncpmdpdaaK5
set_option linter.unusedVariables false
set_option linter.unusedSimpArgs false
namespace Go.Proofs.Ytgfldjncpmdpdaa.Pure
open Go.RowKit Go.Proofs.Ytgfldjncpmdpdaa.R Go.Proofs.Ytgfldjncpmdpdaa.JR Go.Proofs.Ytgfldjncpmdpdaa.BL Go.Proofs.YtgfldjncpmdpdaaW.PrintWords Go.Proofs.YtgfldjncpmdpdaaW.PrintLast

theorem jappend2 (J : List Int) (hJ : J.length ≤ 10000) (w a b p : Int) (hp : 0 ≤ p) (k : Nat) (hk : 20 ≤ k) : journal_Append.f k (strOfNums J) p w a b = some (if can w a b then (strOfNums (J ++ recL w a b p), 0) else ((⟨#[]⟩ : ByteArray), 1)) := by
  unfold journal_Append.f
  rw [jrec _ _ _ _ k hk]
  simp only [Option.bind_some]
  by_cases h : can w a b
  · have e : recR w a b p = (strOfNums (recL w a b p), 0) := if_pos ⟨h, hp⟩
    rw [e, if_pos rfl, size_str, size_str, recL_len, wrapS (by omega) (by omega), if_neg (by omega), if_pos (by omega), str_append, if_pos h]
  · have e : recR w a b p = ((⟨#[]⟩ : ByteArray), 1) := if_neg (fun hh => h hh.1)
    rw [e, if_neg (by decide), if_neg h]
theorem app_l0 (L : List S23) (hl : L.length ≤ 300) (d : Nat) : ∀ (k i : Nat), L.length - i = d → i ≤ L.length → cans (L.take i) → d + 1000 < k →
    treenaillaw31_JournalAppends.l0 k L (strOfNums (encL (L.take i) 0)) L (L.length : Int) (i : Int) = some true := by
  induction d with
  | zero =>
    intro k i hd hi hc hk
    obtain ⟨k, rfl⟩ : ∃ m, k = m + 1 := ⟨k - 1, by omega⟩
    have e : i = L.length := by omega
    subst e
    rw [List.take_length] at hc ⊢
    have e : encR L = (strOfNums (encL L 0), 0) := by
      unfold encR encE
      rw [if_neg (by omega), if_pos hc, if_neg (by omega)]
    unfold treenaillaw31_JournalAppends.l0
    rw [if_neg (by omega), jenc L _ (by omega)]
    simp only [Option.bind_some]
    rw [e, if_pos rfl, if_pos rfl, three k (by omega)]
    rfl
  | succ d ih =>
    intro k i hd hi hc hk
    obtain ⟨k, rfl⟩ : ∃ m, k = m + 1 := ⟨k - 1, by omega⟩
    have hi' : i < L.length := by omega
    have hlen : (encL (L.take i) 0).length = 17 * i := by rw [encL_len, List.length_take, Nat.min_eq_left hi]
    unfold treenaillaw31_JournalAppends.l0
    rw [if_pos (by omega), if_pos (by omega), if_pos (by omega), rdT hi', jappend2 _ (by omega) _ _ _ _ (by omega) k (by omega)]
    simp only [Option.bind_some]
    rw [jrec _ _ _ _ k (by omega)]
    simp only [Option.bind_some]
    by_cases hci : can (L[i]).f0 (L[i]).f1 (L[i]).f2
    · have er : recR (L[i]).f0 (L[i]).f1 (L[i]).f2 (i : Int) = (strOfNums (recL (L[i]).f0 (L[i]).f1 (L[i]).f2 (i : Int)), 0) := if_pos ⟨hci, by omega⟩
      rw [er, if_pos hci, if_pos rfl, size_str, size_str, hlen, recL_len, wrapS (by omega) (by omega), if_neg (by omega), if_pos rfl, if_pos (by omega), str_append, if_pos rfl, ← enc_step hi', wrapS (by omega) (by omega), show ((i : Int) + 1) = ((i + 1 : Nat) : Int) by omega]
      refine ih k (i + 1) (by omega) (by omega) ?_ (by omega)
      rw [take_snoc hi']
      intro s hs
      rcases List.mem_append.1 hs with hs | hs
      · exact hc s hs
      · rw [List.mem_singleton.1 hs]
        exact hci
    · have er : recR (L[i]).f0 (L[i]).f1 (L[i]).f2 (i : Int) = ((⟨#[]⟩ : ByteArray), 1) := if_neg (fun hh => hci hh.1)
      rw [er, if_neg hci, if_neg (by decide), if_pos rfl, if_pos (by rw [Go.Lib.toList_data]), three k (by omega)]
      rfl
theorem JournalAppends : ∀ (x0 : List (S23)), (x0.length * 24 ≤ 140737488351232 ∧ x0.length ≤ 9223372036854775807 ∧ ∀ a_ ∈ x0, ok_T23 a_) → ∃ k, treenaillaw31_JournalAppends.f k x0 = some true := by
  rintro L ⟨hs, _, _⟩
  refine ⟨2000, ?_⟩
  unfold treenaillaw31_JournalAppends.f
  by_cases g : (L.length : Int) > 300
  · rw [if_pos g, three _ (by omega)]
    rfl
  rw [if_neg g]
  exact app_l0 L (by omega) L.length 2000 0 (by omega) (by omega) (by simp [cans]) (by omega)
end Go.Proofs.Ytgfldjncpmdpdaa.Pure
