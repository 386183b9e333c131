/- The document's decoding, the comparison of steps, and the small case that each statement asks. -/
import Derived.Test.YtgfldjncpmdpdaaQx9
import Derived.Test.YtgfldjncpmdpdaaQx7
import Derived.Test.YtgfldjncpmdpdaaQx10
import Derived.Test.YtgfldjncpmdpdaaJ2
set_option linter.unusedVariables false
set_option linter.unusedSimpArgs false
namespace Go.Proofs.Ytgfldjncpmdpdaa.J
open Go.RowKit Go.Proofs.Ytgfldjncpmdpdaa.Q Go.Proofs.Ytgfldjncpmdpdaa.BL Go.Proofs.YtgfldjncpmdpdaaW.PrintWords Go.Proofs.YtgfldjncpmdpdaaW.PrintLast Go.Proofs.YtgfldjncpmdpdaaW.PrintMore

def conv (s : S23) : S30 := ⟨s.f0, s.f1, s.f2⟩
theorem rdec_l0 (S : List Int) (hS : BL S) (hs : S.length ≤ 140737488351232) (d : Nat) : ∀ (k o : Nat) (acc : List S30), o ≤ S.length → 10000 - acc.length = d → 2 * (S.length - o) + 25 < k →
    treenailref31_Decode.l0 k (strOfNums S) acc (o : Int) = some (acc ++ (decL d (S.drop o) acc.length).1.map conv, (S.length : Int) - ((decL d (S.drop o) acc.length).2.length : Int)) := by
  induction d with
  | zero =>
    intro k o acc ho hd hk
    obtain ⟨k, rfl⟩ : ∃ m, k = m + 1 := ⟨k - 1, by omega⟩
    obtain ⟨k, rfl⟩ : ∃ m, k = m + 1 := ⟨k - 1, by omega⟩
    unfold treenailref31_Decode.l0
    rw [if_neg (by omega)]
    unfold treenailref31_Decode.j1
    simp [decL]
    omega
  | succ d ih =>
    intro k o acc ho hd hk
    obtain ⟨k, rfl⟩ : ∃ m, k = m + 1 := ⟨k - 1, by omega⟩
    obtain ⟨k, rfl⟩ : ∃ m, k = m + 1 := ⟨k - 1, by omega⟩
    have hdl : (S.drop o).length = S.length - o := by simp
    unfold treenailref31_Decode.l0
    rw [if_pos (by omega), size_str, wrapS (by omega) (by omega)]
    by_cases h17 : S.length - o < 17
    · rw [decide_eq_false (by omega)]
      unfold treenailref31_Decode.j1
      have hn : ¬ isRec (S.drop o) (acc.length : Int) := fun hr => absurd hr.1 (by omega)
      simp only [decL, if_neg hn, Bool.false_eq_true, if_false]
      simp
      omega
    rw [decide_eq_true (by omega)]
    have hb := hS.getD o
    have hbt : bt (strOfNums S) (o : Int) = S.getD o 0 := by rw [bt_str hS]; rfl
    unfold treenailref31_Decode.j1
    have e1 : ((o : Int) + 1) = ((o + 1 : Nat) : Int) := by omega
    have e7 : ((o : Int) + 7) = ((o + 7 : Nat) : Int) := by omega
    have e17 : ((o : Int) + 17) = ((o + 17 : Nat) : Int) := by omega
    have r1 := rread S hS (o + 1) (by omega) hs k (by omega)
    have r7 := rread S hS (o + 7) (by omega) hs k (by omega)
    simp only [if_true]
    rw [if_pos (by omega), if_pos (by rw [size_str]; omega), wrapS (x := (o : Int) + 1) (by omega) (by omega), wrapS (x := (o : Int) + 7) (by omega) (by omega), wrapS (x := (o : Int) + 17) (by omega) (by omega), e1, e7, e17, r1, r7]
    simp only [Option.bind_some]
    rw [hbt, wrapS (x := S.getD o 0) (by omega) (by omega), rcan]
    simp only [Option.bind_some]
    have es : stepOf (S.drop o) = ⟨S.getD o 0, rdN 6 (S.drop (o + 1)), rdN 6 (S.drop (o + 7))⟩ := by
      unfold stepOf
      rw [getD_drop, List.drop_drop, List.drop_drop]
      rfl
    by_cases hc : can (S.getD o 0) (rdN 6 (S.drop (o + 1))) (rdN 6 (S.drop (o + 7)))
    · rw [if_pos (by simpa using hc), if_pos (by omega), if_pos (by rw [size_str]; omega), rplain _ _ _ _ hc k (by omega)]
      simp only [Option.bind_some]
      have ee : (strOfNums S).extract (o : Int).toNat ((o + 17 : Nat) : Int).toNat = strOfNums ((S.drop o).take 17) := by
        rw [extract_str]
        congr 1
        rw [show ((o + 17 : Nat) : Int).toNat = o + 17 by omega, show (o : Int).toNat = o by omega, List.drop_take, Nat.add_sub_cancel_left]
      rw [ee]
      by_cases hr : isRec (S.drop o) (acc.length : Int)
      · have h3 := hr.2.2
        rw [es] at h3
        rw [if_pos (by rw [toList_str ((hS.drop o).take 17) (recL_bl _ _ _ _)]; exact h3), if_pos (by omega)]
        have := ih k (o + 17) (acc ++ [conv (stepOf (S.drop o))]) (by omega) (by simp; omega) (by omega)
        rw [es] at this
        have hl : (acc ++ [conv (⟨S.getD o 0, rdN 6 (S.drop (o + 1)), rdN 6 (S.drop (o + 7))⟩ : S23)]).length = acc.length + 1 := by simp
        rw [hl] at this
        rw [show (⟨S.getD o 0, rdN 6 (S.drop (o + 1)), rdN 6 (S.drop (o + 7))⟩ : S30) = conv ⟨S.getD o 0, rdN 6 (S.drop (o + 1)), rdN 6 (S.drop (o + 7))⟩ from rfl, this, decL, if_pos hr, es, List.drop_drop]
        simp
      · rw [if_neg (by rw [toList_str ((hS.drop o).take 17) (recL_bl _ _ _ _)]; exact fun h => hr ⟨by omega, by rw [es]; exact hc, by rw [es]; exact h⟩), decL, if_neg hr]
        simp
        omega
    · rw [if_neg (by simpa using hc), decL, if_neg (fun hr => hc (by have := hr.2.1; rw [es] at this; exact this))]
      simp
      omega
theorem rdec (S : List Int) (hS : BL S) (hs : S.length ≤ 140737488351232) (k : Nat) (hk : 2 * S.length + 25 < k) : treenailref31_Decode.f k (strOfNums S) = some ((decR S).1.map conv, (decR S).2) := by
  unfold treenailref31_Decode.f
  have := rdec_l0 S hS hs 10000 k 0 [] (by omega) rfl (by omega)
  simpa [decR] using this

theorem jrefs_l0 (L : List S23) (hs : L.length ≤ 5864062014804) (d : Nat) : ∀ (k i : Nat) (acc : List S30), L.length - i = d → i ≤ L.length → acc.length = i → d < k →
    treenaillaw31_refs.l0 k acc L (L.length : Int) (i : Int) = some (acc ++ (L.drop i).map conv) := by
  induction d with
  | zero =>
    intro k i acc hd hi ha hk
    obtain ⟨k, rfl⟩ : ∃ m, k = m + 1 := ⟨k - 1, by omega⟩
    simp only [treenaillaw31_refs.l0]
    rw [if_neg (by omega), List.drop_eq_nil_of_le (by omega)]
    simp
  | succ d ih =>
    intro k i acc hd hi ha hk
    obtain ⟨k, rfl⟩ : ∃ m, k = m + 1 := ⟨k - 1, by omega⟩
    simp only [treenaillaw31_refs.l0]
    rw [if_pos (by omega), if_pos (by omega), if_pos (by omega), if_pos (by omega), wrapS (by omega) (by omega)]
    have e : rd_T23 L (i : Int) = L[i]'(by omega) := by
      unfold rd_T23
      rw [show (i : Int).toNat = i by omega, List.getD_eq_getElem?_getD, List.getElem?_eq_getElem (by omega)]
      rfl
    have := ih k (i + 1) (acc ++ [conv (L[i]'(by omega))]) (by omega) (by omega) (by simp; omega) (by omega)
    rw [show ((i : Int) + 1) = ((i + 1 : Nat) : Int) by omega, e]
    rw [show (⟨(L[i]'(by omega)).f0, (L[i]'(by omega)).f1, (L[i]'(by omega)).f2⟩ : S30) = conv (L[i]'(by omega)) from rfl, this, List.drop_eq_getElem_cons (by omega : i < L.length)]
    simp only [List.map_cons, List.append_assoc, List.singleton_append]
theorem jrefs (L : List S23) (hs : L.length ≤ 5864062014804) (k : Nat) (hk : L.length < k) : treenaillaw31_refs.f k L = some (L.map conv) := by
  unfold treenaillaw31_refs.f
  have := jrefs_l0 L hs L.length k 0 [] (by omega) (by omega) rfl hk
  simpa using this
theorem jsame_l0 (L : List S30) (hs : L.length ≤ 5864062014804) (d : Nat) : ∀ (k i : Nat), L.length - i = d → i ≤ L.length → d < k → treenaillaw31_same.l0 k L L (L.length : Int) (i : Int) = some true := by
  induction d with
  | zero =>
    intro k i hd hi hk
    obtain ⟨k, rfl⟩ : ∃ m, k = m + 1 := ⟨k - 1, by omega⟩
    simp only [treenaillaw31_same.l0]
    rw [if_neg (by omega)]
    simp
  | succ d ih =>
    intro k i hd hi hk
    obtain ⟨k, rfl⟩ : ∃ m, k = m + 1 := ⟨k - 1, by omega⟩
    simp only [treenaillaw31_same.l0]
    rw [if_pos (by omega), if_neg (by omega), if_pos (by omega), if_pos (by omega), if_pos (by omega), if_neg (by simp), wrapS (by omega) (by omega)]
    exact ih k (i + 1) (by omega) (by omega) (by omega)
theorem jsame (L : List S23) (hs : L.length ≤ 5864062014804) (k : Nat) (hk : L.length < k) : treenaillaw31_same.f k L (L.map conv) = some true := by
  unfold treenaillaw31_same.f
  rw [jrefs L hs k hk]
  simp only [Option.bind_some]
  exact jsame_l0 (L.map conv) (by simpa using hs) L.length k 0 (by simp) (by omega) (by simpa using hk)
theorem decL_len : ∀ f l p, (decL f l p).1.length ≤ l.length
  | 0, l, p => by simp [decL]
  | f + 1, l, p => by
    rw [decL]
    split
    · rename_i h
      have := decL_len f (l.drop 17) (p + 1)
      have h17 := h.1
      simp at this ⊢
      omega
    · simp
theorem jwhole (L : List Int) (hL : BL L) (hs : L.length ≤ 140737488351232) (k : Nat) (hk : L.length + 20 < k) : journal_Whole.f k (strOfNums L) = some (decide ((decR L).2 = (L.length : Int))) := by
  unfold journal_Whole.f
  rw [jdec L hL hs k hk, size_str]
  simp only [Option.bind_some]
  congr 1

/-- The small case. -/
theorem three (k : Nat) (hk : 50 ≤ k) : treenaillaw31_three.f k = some true := by
  unfold treenaillaw31_three.f
  have e : recR 3 1 0 0 = (strOfNums (recL 3 1 0 0), 0) := if_pos (by decide)
  have hl := recL_len 3 1 0 0
  rw [jrec 3 1 0 0 k (by omega)]
  simp only [Option.bind_some]
  rw [e]
  rw [jdec _ (recL_bl 3 1 0 0) (by omega) k (by omega)]
  simp only [Option.bind_some]
  have e2a : ((decR (recL 3 1 0 0)).1.length : Int) = 1 := by decide +kernel
  have e2b : (decR (recL 3 1 0 0)).2 = 17 := by decide +kernel
  have e3 : ((strOfNums (recL 3 1 0 0)).extract 0 3).toList = ([3, 1, 0] : List UInt8) := by
    rw [take_str, Go.Lib.toList_data]
    decide +kernel
  simp only [if_true]
  rw [size_str, hl, if_pos (by decide), if_pos (by decide), if_pos (by decide), e3, if_pos rfl, if_pos e2a, if_pos e2b, jwhole _ (recL_bl 3 1 0 0) (by omega) k (by omega), e2b, hl]
  rfl
end Go.Proofs.Ytgfldjncpmdpdaa.J
