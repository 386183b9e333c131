/- The document's decoding, the comparison of steps, and the small case that each statement asks. -/
import Derived.Test.YtgfldjncpmdpdaaRx
import Derived.Test.YtgfldjncpmdpdaaK2
set_option linter.unusedVariables false
set_option linter.unusedSimpArgs false
namespace Go.Proofs.Ytgfldjncpmdpdaa.JR
open Go.RowKit Go.Proofs.Ytgfldjncpmdpdaa.J Go.Proofs.Ytgfldjncpmdpdaa.R Go.Proofs.Ytgfldjncpmdpdaa.BL Go.Proofs.YtgfldjncpmdpdaaW.PrintWords Go.Proofs.YtgfldjncpmdpdaaW.PrintLast Go.Proofs.YtgfldjncpmdpdaaW.PrintMore

def conv (s : S23) : S30 := ⟨s.f0, s.f1, s.f2⟩
theorem jrefs_l0 (L : List S23) (hs : L.length ≤ 5864062014804) (d : Nat) : ∀ (k i : Nat) (acc : List S30), L.length - i = d → i ≤ L.length → acc.length = i → d < k →
    treenaillaw31_refs.l0 k acc L (L.length : Int) (i : Int) = some (acc ++ (L.drop i).map conv) := by
  induction d with
  | zero =>
    intro k i acc hd hi ha hk
    obtain ⟨k, rfl⟩ : ∃ m, k = m + 1 := ⟨k - 1, by omega⟩
    simp only [treenaillaw31_refs.l0]
    rw [if_neg (by omega), List.drop_eq_nil_of_le (by omega)]
    simp
  | succ d ih =>
    intro k i acc hd hi ha hk
    obtain ⟨k, rfl⟩ : ∃ m, k = m + 1 := ⟨k - 1, by omega⟩
    simp only [treenaillaw31_refs.l0]
    rw [if_pos (by omega), if_pos (by omega), if_pos (by omega), if_pos (by omega), wrapS (by omega) (by omega)]
    have e : rd_T23 L (i : Int) = L[i]'(by omega) := by
      unfold rd_T23
      rw [show (i : Int).toNat = i by omega, List.getD_eq_getElem?_getD, List.getElem?_eq_getElem (by omega)]
      rfl
    have := ih k (i + 1) (acc ++ [conv (L[i]'(by omega))]) (by omega) (by omega) (by simp; omega) (by omega)
    rw [show ((i : Int) + 1) = ((i + 1 : Nat) : Int) by omega, e]
    rw [show (⟨(L[i]'(by omega)).f0, (L[i]'(by omega)).f1, (L[i]'(by omega)).f2⟩ : S30) = conv (L[i]'(by omega)) from rfl, this, List.drop_eq_getElem_cons (by omega : i < L.length)]
    simp only [List.map_cons, List.append_assoc, List.singleton_append]
theorem jrefs (L : List S23) (hs : L.length ≤ 5864062014804) (k : Nat) (hk : L.length < k) : treenaillaw31_refs.f k L = some (L.map conv) := by
  unfold treenaillaw31_refs.f
  have := jrefs_l0 L hs L.length k 0 [] (by omega) (by omega) rfl hk
  simpa using this
theorem jsame_l0 (L : List S30) (hs : L.length ≤ 5864062014804) (d : Nat) : ∀ (k i : Nat), L.length - i = d → i ≤ L.length → d < k → treenaillaw31_same.l0 k L L (L.length : Int) (i : Int) = some true := by
  induction d with
  | zero =>
    intro k i hd hi hk
    obtain ⟨k, rfl⟩ : ∃ m, k = m + 1 := ⟨k - 1, by omega⟩
    simp only [treenaillaw31_same.l0]
    rw [if_neg (by omega)]
    simp
  | succ d ih =>
    intro k i hd hi hk
    obtain ⟨k, rfl⟩ : ∃ m, k = m + 1 := ⟨k - 1, by omega⟩
    simp only [treenaillaw31_same.l0]
    rw [if_pos (by omega), if_neg (by omega), if_pos (by omega), if_pos (by omega), if_pos (by omega), if_neg (by simp), wrapS (by omega) (by omega)]
    exact ih k (i + 1) (by omega) (by omega) (by omega)
theorem jsame (L : List S23) (hs : L.length ≤ 5864062014804) (k : Nat) (hk : L.length < k) : treenaillaw31_same.f k L (L.map conv) = some true := by
  unfold treenaillaw31_same.f
  rw [jrefs L hs k hk]
  simp only [Option.bind_some]
  exact jsame_l0 (L.map conv) (by simpa using hs) L.length k 0 (by simp) (by omega) (by simpa using hk)
theorem decL_len : ∀ f l p, (decL f l p).1.length ≤ l.length
  | 0, l, p => by simp [decL]
  | f + 1, l, p => by
    rw [decL]
    split
    · rename_i h
      have := decL_len f (l.drop 17) (p + 1)
      have h17 := h.1
      simp at this ⊢
      omega
    · simp
theorem jwhole (L : List Int) (hL : BL L) (hs : L.length ≤ 140737488351232) (k : Nat) (hk : L.length + 20 < k) : journal_Whole.f k (strOfNums L) = some (decide ((decR L).2 = (L.length : Int))) := by
  unfold journal_Whole.f
  rw [jdec L hL hs k hk, size_str]
  simp only [Option.bind_some]
  congr 1

/-- The small case. -/
theorem three (k : Nat) (hk : 50 ≤ k) : treenaillaw31_three.f k = some true := by
  unfold treenaillaw31_three.f
  have e : recR 3 1 0 0 = (strOfNums (recL 3 1 0 0), 0) := if_pos (by decide)
  have hl := recL_len 3 1 0 0
  rw [jrec 3 1 0 0 k (by omega)]
  simp only [Option.bind_some]
  rw [e]
  rw [jdec _ (recL_bl 3 1 0 0) (by omega) k (by omega)]
  simp only [Option.bind_some]
  have e2a : ((decR (recL 3 1 0 0)).1.length : Int) = 1 := by decide +kernel
  have e2b : (decR (recL 3 1 0 0)).2 = 17 := by decide +kernel
  have e3 : ((strOfNums (recL 3 1 0 0)).extract 0 3).toList = ([3, 1, 0] : List UInt8) := by
    rw [take_str, Go.Lib.toList_data]
    decide +kernel
  simp only [if_true]
  rw [size_str, hl, if_pos (by decide), if_pos (by decide), if_pos (by decide), e3, if_pos rfl, if_pos e2a, if_pos e2b, jwhole _ (recL_bl 3 1 0 0) (by omega) k (by omega), e2b, hl]
  rfl
end Go.Proofs.Ytgfldjncpmdpdaa.JR
