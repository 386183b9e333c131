/- Torn: of a journal without any number of its last bytes the records that are whole are read, and no others: for every list of steps and every number. -/
import Derived.Test.YtgfldjncpmdpdaaRx
import Derived.Test.YtgfldjncpmdpdaaRk
import Derived.Test.YtgfldjncpmdpdaaK5
set_option linter.unusedVariables false
set_option linter.unusedSimpArgs false
namespace Go.Proofs.Ytgfldjncpmdpdaa.Pure
open Go.RowKit Go.Proofs.Ytgfldjncpmdpdaa.R Go.Proofs.Ytgfldjncpmdpdaa.JR Go.Proofs.Ytgfldjncpmdpdaa.BL Go.Proofs.YtgfldjncpmdpdaaW.PrintWords Go.Proofs.YtgfldjncpmdpdaaW.PrintLast

theorem decL_torn : ∀ (l : List S23) (f p n : Nat), cans l → l.length ≤ f → n ≤ 17 * l.length → (decL f ((encL l p).take n) p).1 = l.take (n / 17) ∧ (decL f ((encL l p).take n) p).2.length = n % 17
  | [], f, p, n, _, _, hn => by
    simp at hn
    subst hn
    rw [decL_short _ _ _ (by simp)]
    simp [encL]
  | s :: l, f, p, n, hc, hf, hn => by
    rw [cans_cons] at hc
    simp at hf hn
    rcases Nat.lt_or_ge n 17 with h | h
    · rw [decL_short _ _ _ (by rw [List.length_take]; omega)]
      have e : n / 17 = 0 := by omega
      rw [e]
      simp [encL, recL_len]
      omega
    · obtain ⟨f, rfl⟩ : ∃ m, f = m + 1 := ⟨f - 1, by omega⟩
      have e : (encL (s :: l) p).take n = recL s.f0 s.f1 s.f2 p ++ (encL l (p + 1)).take (n - 17) := by
        rw [encL, List.take_append, recL_len, List.take_of_length_le (by rw [recL_len]; exact h)]
      obtain ⟨h1, h2⟩ := decL_torn l f (p + 1) (n - 17) hc.2 (by omega) (by omega)
      rw [e, decL_rec _ _ _ _ _ _ hc.1, h1, h2]
      have e2 : n / 17 = (n - 17) / 17 + 1 := by omega
      rw [e2, List.take_succ_cons]
      refine ⟨rfl, by omega⟩
theorem torn_l0 (L : List S23) (hc : cans L) (hl : L.length ≤ 300) (n q : Nat) (hn : n ≤ 17 * L.length) (hq : q = n / 17) (d : Nat) : ∀ (k i : Nat), L.length - i = d → i ≤ q → d + 100 < k →
    treenaillaw31_JournalTorn.l0 k L (n : Int) (L.take q) ((17 * q : Nat) : Int) ((17 * i : Nat) : Int) (L.length : Int) (i : Int) = some true := by
  have hql : (L.take q).length = q := by rw [List.length_take]; omega
  have fin : ∀ k, 50 ≤ k → (if (((L.take q).length : Int) == 0) == (((17 * q : Nat) : Int) == 0) then ((treenaillaw31_three.f k).bind fun t219 => some t219) else some false) = some true := by
    intro k hk
    rw [hql, if_pos, three k hk]
    · rfl
    · by_cases e : q = 0
      · subst e; rfl
      · rw [show ((q : Int) == 0) = false by simpa using e, show (((17 * q : Nat) : Int) == 0) = false by simp; omega]
        rfl
  induction d with
  | zero =>
    intro k i hd hi hk
    obtain ⟨k, rfl⟩ : ∃ m, k = m + 1 := ⟨k - 1, by omega⟩
    have e : i = q := by omega
    subst e
    simp only [treenaillaw31_JournalTorn.l0]
    rw [if_neg (by omega), if_pos trivial]
    exact fin k (by omega)
  | succ d ih =>
    intro k i hd hi hk
    obtain ⟨k, rfl⟩ : ∃ m, k = m + 1 := ⟨k - 1, by omega⟩
    have hi' : i < L.length := by omega
    have hci : can (L[i]).f0 (L[i]).f1 (L[i]).f2 := hc _ (List.getElem_mem hi')
    have er : recR (L[i]).f0 (L[i]).f1 (L[i]).f2 (i : Int) = (strOfNums (recL (L[i]).f0 (L[i]).f1 (L[i]).f2 (i : Int)), 0) := if_pos ⟨hci, by omega⟩
    simp only [treenaillaw31_JournalTorn.l0]
    rw [if_pos (by omega), if_pos (by omega), if_pos (by omega), rdT hi', jrec _ _ _ _ k (by omega)]
    simp only [Option.bind_some]
    rw [er, if_pos rfl, size_str, recL_len, wrapS (by omega) (by omega), wrapS (by omega) (by omega)]
    by_cases g : 17 * i + 17 > n
    · have e : i = q := by omega
      subst e
      rw [if_pos (by omega), if_pos rfl]
      exact fin k (by omega)
    · have hiq : i < q := by omega
      have e2 : rd_T23 (L.take q) (i : Int) = L[i] := by
        rw [rdT (by rw [hql]; exact hiq)]
        simp
      rw [if_neg (by omega), if_neg (by rw [hql]; omega), if_pos (by rw [hql]; omega), e2, if_neg (by simp)]
      have := ih k (i + 1) (by omega) (by omega) (by omega)
      rw [show ((17 * i : Nat) : Int) + (17 : Nat) = ((17 * (i + 1) : Nat) : Int) by omega, show ((i : Int) + 1) = ((i + 1 : Nat) : Int) by omega]
      exact this
theorem JournalTorn : ∀ (x0 : List (S23)) (a1 : Int), (x0.length * 24 ≤ 140737488351232 ∧ x0.length ≤ 9223372036854775807 ∧ ∀ a_ ∈ x0, ok_T23 a_) → (Lit.int .i64 a1).wf = true → ∃ k, treenaillaw31_JournalTorn.f k x0 a1 = some true := by
  rintro L n ⟨hs, _, _⟩ hn
  refine ⟨20001, ?_⟩
  have jt : ∀ x, treenaillaw31_JournalTorn.j0 20001 L n x true = some true := by
    intro x
    simp only [treenaillaw31_JournalTorn.j0]
    rw [if_pos trivial, three _ (by omega)]
    rfl
  unfold treenaillaw31_JournalTorn.f
  by_cases g : (L.length : Int) > 300
  · rw [if_pos g, three _ (by omega)]
    rfl
  rw [if_neg g, jenc L _ (by omega)]
  simp only [Option.bind_some]
  by_cases hc : cans L
  · have e : encR L = (strOfNums (encL L 0), 0) := by
      unfold encR encE
      rw [if_neg (by omega), if_pos hc, if_neg (by omega)]
    have hl := encL_len L 0
    rw [e, if_pos rfl, size_str, hl]
    by_cases g1 : n < 0
    · rw [if_pos g1, jt]
    rw [if_neg g1]
    by_cases g2 : n > ((17 * L.length : Nat) : Int)
    · rw [decide_eq_true g2, jt]
    rw [decide_eq_false g2]
    obtain ⟨n, rfl⟩ := Int.eq_ofNat_of_zero_le (show 0 ≤ n by omega)
    have hnl : n ≤ 17 * L.length := by omega
    obtain ⟨h1, h2⟩ := decL_torn L 10000 0 n hc (by omega) hnl
    have hlt : ((encL L 0).take n).length = n := by rw [List.length_take, hl]; omega
    simp only [treenaillaw31_JournalTorn.j0]
    rw [if_neg (by decide), if_pos (by omega), if_pos (by rw [size_str, hl]; omega), take_str, show ((n : Nat) : Int).toNat = n from rfl, jdec _ ((encL_bl L 0).take _) (by omega) _ (by omega)]
    simp only [Option.bind_some]
    have hd : decR ((encL L 0).take n) = (L.take (n / 17), ((17 * (n / 17) : Nat) : Int)) := by
      unfold decR
      rw [h1, h2, hlt]
      refine Prod.ext rfl ?_
      simp only
      omega
    rw [hd]
    exact torn_l0 L hc (by omega) n (n / 17) hnl rfl L.length 20000 0 (by omega) (by omega) (by omega)
  · have e : encR L = ((⟨#[]⟩ : ByteArray), 1) := by
      unfold encR
      rw [if_neg (by omega), if_neg hc]
    rw [e, if_neg (by decide), jt]
end Go.Proofs.Ytgfldjncpmdpdaa.Pure
