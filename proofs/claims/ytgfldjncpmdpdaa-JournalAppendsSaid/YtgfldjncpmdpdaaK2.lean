/- What the journal's decoding answers, as a list of steps. -/
import Derived.Test.YtgfldjncpmdpdaaRx
import Derived.Test.YtgfldjncpmdpdaaK1
import Derived.Test.YtgfldjncpmdpdaaJM
set_option linter.unusedVariables false
set_option linter.unusedSimpArgs false
namespace Go.Proofs.Ytgfldjncpmdpdaa.JR
open Go.RowKit Go.Proofs.Ytgfldjncpmdpdaa.J Go.Proofs.Ytgfldjncpmdpdaa.R Go.Proofs.Ytgfldjncpmdpdaa.BL Go.Proofs.YtgfldjncpmdpdaaW.PrintWords Go.Proofs.YtgfldjncpmdpdaaW.PrintLast Go.Proofs.YtgfldjncpmdpdaaW.PrintMore

theorem getD_drop (l : List Int) (i j : Nat) : (l.drop i).getD j 0 = l.getD (i + j) 0 := by simp [List.getD_eq_getElem?_getD, List.getElem?_drop]
theorem headD_getD (l : List Int) : l.headD 0 = l.getD 0 0 := by cases l <;> simp
theorem jread_l0 (L : List Int) (hL : BL L) (h6 : 6 ≤ L.length) (d : Nat) : ∀ (k i : Nat), i + d = 6 → d < k → journal_read.l0 k (strOfNums L) (rdN i L) (i : Int) = some (rdN 6 L) := by
  induction d with
  | zero =>
    intro k i hd hk
    obtain ⟨k, rfl⟩ : ∃ m, k = m + 1 := ⟨k - 1, by omega⟩
    simp only [journal_read.l0]
    rw [if_neg (by omega)]
    obtain rfl : i = 6 := by omega
    rfl
  | succ d ih =>
    intro k i hd hk
    obtain ⟨k, rfl⟩ : ∃ m, k = m + 1 := ⟨k - 1, by omega⟩
    have hb := hL.getD i
    have hbt : bt (strOfNums L) (i : Int) = L.getD i 0 := by rw [bt_str hL]; rfl
    have hr := rdN_range i L hL
    simp only [journal_read.l0]
    rw [if_pos (by omega), if_pos (by omega), if_pos (by rw [size_str]; omega), wrapS (x := 8 * (i : Int)) (by omega) (by omega), if_pos (by omega), hbt, wrapS (x := L.getD i 0) (by omega) (by omega),
      or_add _ _ i hr.1 hr.2 hb.1 hb.2 (by omega), wrapS (x := (i : Int) + 1) (by omega) (by omega), ← rdN_snoc]
    exact ih k (i + 1) (by omega) (by omega)
theorem jread (L : List Int) (hL : BL L) (h6 : 6 ≤ L.length) (k : Nat) (hk : 6 < k) : journal_read.f k (strOfNums L) = some (rdN 6 L) := by
  unfold journal_read.f
  exact jread_l0 L hL h6 6 k 0 rfl hk
/-- A record taken off. -/
def stepOf (l : List Int) : S23 := ⟨l.getD 0 0, rdN 6 (l.drop 1), rdN 6 (l.drop 7)⟩
def isRec (l : List Int) (p : Int) : Prop := 17 ≤ l.length ∧ can (stepOf l).f0 (stepOf l).f1 (stepOf l).f2 ∧ l.take 17 = recL (stepOf l).f0 (stepOf l).f1 (stepOf l).f2 p
instance (l : List Int) (p : Int) : Decidable (isRec l p) := by unfold isRec; infer_instance
def decL : Nat → List Int → Nat → List S23 × List Int
  | 0, l, _ => ([], l)
  | f + 1, l, p => if isRec l p then (stepOf l :: (decL f (l.drop 17) (p + 1)).1, (decL f (l.drop 17) (p + 1)).2) else ([], l)
theorem jfirst (L : List Int) (hL : BL L) (hs : L.length ≤ 140737488351232) (p : Int) (hp : 0 ≤ p) (k : Nat) (hk : 20 ≤ k) :
    ∃ s b, journal_first.f k (strOfNums L) p = some (s.f0, s.f1, s.f2, b, decide (isRec L p)) ∧ (isRec L p → s = stepOf L ∧ b = strOfNums (L.drop 17)) := by
  unfold journal_first.f
  by_cases h : L.length < 17
  · refine ⟨⟨0, 0, 0⟩, ⟨#[]⟩, ?_, fun hr => absurd hr.1 (by omega)⟩
    · rw [size_str, if_pos (by omega), decide_eq_false (fun hr : isRec L p => absurd hr.1 (by omega))]
  · have hb := hL.getD 0
    have hbt : bt (strOfNums L) 0 = L.getD 0 0 := by rw [bt_str hL]; rfl
    refine ⟨stepOf L, strOfNums (L.drop 17), ?_, fun _ => ⟨rfl, rfl⟩⟩
    rw [size_str, if_neg (by omega), if_pos (by omega), if_pos (by omega)]
    have d1 := drop_str L 1
    have d7 := drop_str L 7
    have d17 := drop_str L 17
    rw [size_str] at d1 d7 d17
    rw [d1, d7, d17, jread _ (hL.drop 1) (by simp; omega) k (by omega), jread _ (hL.drop 7) (by simp; omega) k (by omega)]
    simp only [Option.bind_some]
    rw [if_pos (by omega), hbt, wrapS (x := L.getD 0 0) (by omega) (by omega), jrec _ _ _ _ k hk]
    simp only [Option.bind_some]
    rw [if_pos (by omega), take_str]
    by_cases hc : can (L.getD 0 0) (rdN 6 (L.drop 1)) (rdN 6 (L.drop 7))
    · have er : recR (L.getD 0 0) (rdN 6 (L.drop 1)) (rdN 6 (L.drop 7)) p = (strOfNums (recL (L.getD 0 0) (rdN 6 (L.drop 1)) (rdN 6 (L.drop 7)) p), 0) := if_pos ⟨hc, hp⟩
      rw [er, if_pos rfl, if_pos (by omega)]
      have e : ((strOfNums (L.take 17)).toList == (strOfNums (recL (L.getD 0 0) (rdN 6 (L.drop 1)) (rdN 6 (L.drop 7)) p)).toList) = decide (isRec L p) := by
        rw [Bool.eq_iff_iff, beq_iff_eq, toList_str (hL.take 17) (recL_bl _ _ _ _), decide_eq_true_eq]
        exact ⟨fun h1 => ⟨by omega, hc, h1⟩, fun h1 => h1.2.2⟩
      rw [e]
      rfl
    · have er : recR (L.getD 0 0) (rdN 6 (L.drop 1)) (rdN 6 (L.drop 7)) p = ((⟨#[]⟩ : ByteArray), 1) := if_neg (fun h => hc h.1)
      rw [er, if_neg (by decide), decide_eq_false (fun hr : isRec L p => hc hr.2.1)]
      rfl
theorem jdec_l0 (S : ByteArray) (hS : S.size ≤ 140737488351232) (d : Nat) : ∀ (k : Nat) (L : List Int) (acc : List S23), BL L → L.length ≤ 140737488351232 → 10000 - acc.length = d → L.length + 20 < k →
    journal_Decode.l0 k S acc (strOfNums L) = some (acc ++ (decL d L acc.length).1, (S.size : Int) - ((decL d L acc.length).2.length : Int)) ∧ (decL d L acc.length).2.length ≤ L.length := by
  induction d with
  | zero =>
    intro k L acc hL hs hd hk
    obtain ⟨k, rfl⟩ : ∃ m, k = m + 1 := ⟨k - 1, by omega⟩
    refine ⟨?_, Nat.le_refl _⟩
    unfold journal_Decode.l0
    rw [if_neg (by omega), size_str, wrapS (by omega) (by omega)]
    simp [decL]
  | succ d ih =>
    intro k L acc hL hs hd hk
    obtain ⟨k, rfl⟩ : ∃ m, k = m + 1 := ⟨k - 1, by omega⟩
    obtain ⟨s, b, hf, hb⟩ := jfirst L hL hs (acc.length : Int) (by omega) k (by omega)
    by_cases hr : isRec L (acc.length : Int)
    · obtain ⟨rfl, rfl⟩ := hb hr
      have h17 := hr.1
      obtain ⟨h1, h2⟩ := ih k (L.drop 17) (acc ++ [stepOf L]) (hL.drop 17) (by simp; omega) (by simp; omega) (by simp; omega)
      have e : (acc ++ [stepOf L]).length = acc.length + 1 := by simp
      rw [e] at h1 h2
      constructor
      · unfold journal_Decode.l0
        rw [if_pos (by omega), hf]
        simp only [Option.bind_some]
        rw [if_pos (by simpa using hr), if_pos (by omega)]
        rw [h1]
        simp only [decL]
        rw [if_pos hr]
        simp
      · simp only [decL]
        rw [if_pos hr]
        simp at h2 ⊢
        omega
    · constructor
      · unfold journal_Decode.l0
        rw [if_pos (by omega), hf]
        simp only [Option.bind_some]
        rw [if_neg (by simpa using hr), size_str, wrapS (by omega) (by omega)]
        simp only [decL]
        rw [if_neg hr]
        simp
      · simp only [decL]
        rw [if_neg hr]
        exact Nat.le_refl _
/-- The decoding's answer. -/
def decR (L : List Int) : List S23 × Int := ((decL 10000 L 0).1, (L.length : Int) - ((decL 10000 L 0).2.length : Int))
theorem jdec (L : List Int) (hL : BL L) (hs : L.length ≤ 140737488351232) (k : Nat) (hk : L.length + 20 < k) : journal_Decode.f k (strOfNums L) = some (decR L) := by
  unfold journal_Decode.f
  obtain ⟨h, _⟩ := jdec_l0 (strOfNums L) (by rw [size_str]; exact hs) 10000 k L [] hL hs rfl hk
  rw [h, size_str]
  rfl
end Go.Proofs.Ytgfldjncpmdpdaa.JR
