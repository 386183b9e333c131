/- What the journal's records are, as lists of bytes. -/
import Derived.Test.YtgfldjncpmdpdaaRx
import Derived.Test.YtgfldjncpmdpdaaBytes
set_option linter.unusedVariables false
set_option linter.unusedSimpArgs false
namespace Go.Proofs.Ytgfldjncpmdpdaa.JR
open Go.RowKit Go.Proofs.Ytgfldjncpmdpdaa.R Go.Proofs.Ytgfldjncpmdpdaa.BL Go.Proofs.YtgfldjncpmdpdaaW.PrintWords Go.Proofs.YtgfldjncpmdpdaaW.PrintLast Go.Proofs.YtgfldjncpmdpdaaW.PrintMore

def sumL : List Int → Int → Int → Int × Int
  | [], x, y => (x, y)
  | b :: l, x, y => sumL l ((x + b) % 65521) ((y + (x + b) % 65521) % 65521)
def s0 (p : Int) : Int := if 0 < p then p % 65521 else 0
theorem s0_range (p : Int) : 0 ≤ s0 p ∧ s0 p < 65521 := by unfold s0; split <;> omega
theorem sumL_range : ∀ l x y, 0 ≤ x → x < 65521 → 0 ≤ y → y < 65521 → 0 ≤ (sumL l x y).1 ∧ (sumL l x y).1 < 65521 ∧ 0 ≤ (sumL l x y).2 ∧ (sumL l x y).2 < 65521
  | [], x, y, h1, h2, h3, h4 => ⟨h1, h2, h3, h4⟩
  | b :: l, x, y, h1, h2, h3, h4 => sumL_range l _ _ (by omega) (by omega) (by omega) (by omega)
theorem getD_lt {L : List Int} {i : Nat} (h : i < L.length) : L.drop i = L.getD i 0 :: L.drop (i + 1) := by
  rw [List.getD_eq_getElem?_getD, List.getElem?_eq_getElem h, Option.getD_some]
  exact List.drop_eq_getElem_cons h
theorem jsum_l0 (L : List Int) (hL : BL L) (hs : L.length ≤ 140737488351232) (d : Nat) : ∀ (k i : Nat) (x y : Int), L.length - i = d → i ≤ L.length → d < k → 0 ≤ x → x < 65521 → 0 ≤ y → y < 65521 →
    journal_Sum.l0 k (strOfNums L) x y (L.length : Int) (i : Int) = some (sumL (L.drop i) x y) := by
  induction d with
  | zero =>
    intro k i x y hd hi hk h1 h2 h3 h4
    obtain ⟨k, rfl⟩ : ∃ m, k = m + 1 := ⟨k - 1, by omega⟩
    simp only [journal_Sum.l0]
    rw [if_neg (by omega), List.drop_eq_nil_of_le (by omega)]
    rfl
  | succ d ih =>
    intro k i x y hd hi hk h1 h2 h3 h4
    obtain ⟨k, rfl⟩ : ∃ m, k = m + 1 := ⟨k - 1, by omega⟩
    have hb := hL.getD i
    have hbt : bt (strOfNums L) (i : Int) = L.getD i 0 := by rw [bt_str hL]; rfl
    simp only [journal_Sum.l0]
    rw [if_pos (by omega), if_pos (by omega), if_pos (by rw [size_str]; omega), hbt, wrapS (x := L.getD i 0) (by omega) (by omega), wrapS (x := x + L.getD i 0) (by omega) (by omega),
      Int.tmod_eq_emod_of_nonneg (by omega), wrapS (x := y + _) (by omega) (by omega), Int.tmod_eq_emod_of_nonneg (by omega), wrapS (x := (i : Int) + 1) (by omega) (by omega)]
    have := ih k (i + 1) ((x + L.getD i 0) % 65521) ((y + (x + L.getD i 0) % 65521) % 65521) (by omega) (by omega) (by omega) (by omega) (by omega) (by omega) (by omega)
    rw [show ((i : Int) + 1) = ((i + 1 : Nat) : Int) by omega, this, getD_lt (show i < L.length by omega)]
    rfl
theorem jsum (L : List Int) (hL : BL L) (hs : L.length ≤ 140737488351232) (p : Int) (k : Nat) (hk : L.length < k) : journal_Sum.f k (strOfNums L) p = some (sumL L 1 (s0 p)) := by
  unfold journal_Sum.f
  have hp := s0_range p
  have e : (mx 0 p) % 65521 = s0 p := by unfold mx s0; split <;> simp
  rw [e, size_str]
  have := jsum_l0 L hL hs L.length k 0 1 (s0 p) (by omega) (by omega) (by omega) (by omega) (by omega) hp.1 hp.2
  simpa using this
theorem rsum_l0 (L : List Int) (hL : BL L) (hs : L.length ≤ 140737488351232) (d : Nat) : ∀ (k i : Nat) (x y : Int), L.length - i = d → i ≤ L.length → d < k → 0 ≤ x → x < 65521 → 0 ≤ y → y < 65521 →
    treenailref31_Sum.l0 k (strOfNums L) (i : Int) x y = some (sumL (L.drop i) x y) := by
  induction d with
  | zero =>
    intro k i x y hd hi hk h1 h2 h3 h4
    obtain ⟨k, rfl⟩ : ∃ m, k = m + 1 := ⟨k - 1, by omega⟩
    simp only [treenailref31_Sum.l0]
    rw [if_neg (by rw [size_str]; omega), List.drop_eq_nil_of_le (by omega)]
    rfl
  | succ d ih =>
    intro k i x y hd hi hk h1 h2 h3 h4
    obtain ⟨k, rfl⟩ : ∃ m, k = m + 1 := ⟨k - 1, by omega⟩
    have hb := hL.getD i
    have hbt : bt (strOfNums L) (i : Int) = L.getD i 0 := by rw [bt_str hL]; rfl
    simp only [treenailref31_Sum.l0]
    rw [if_pos (by rw [size_str]; omega), if_pos (by omega), hbt, wrapS (x := L.getD i 0) (by omega) (by omega), wrapS (x := x + L.getD i 0) (by omega) (by omega),
      Int.tmod_eq_emod_of_nonneg (by omega), wrapS (x := y + _) (by omega) (by omega), Int.tmod_eq_emod_of_nonneg (by omega), wrapS (x := (i : Int) + 1) (by omega) (by omega)]
    have := ih k (i + 1) ((x + L.getD i 0) % 65521) ((y + (x + L.getD i 0) % 65521) % 65521) (by omega) (by omega) (by omega) (by omega) (by omega) (by omega) (by omega)
    rw [show ((i : Int) + 1) = ((i + 1 : Nat) : Int) by omega, this, getD_lt (show i < L.length by omega)]
    rfl
theorem rsum (L : List Int) (hL : BL L) (hs : L.length ≤ 140737488351232) (p : Int) (k : Nat) (hk : L.length + 1 < k) : treenailref31_Sum.f k (strOfNums L) p = some (sumL L 1 (s0 p)) := by
  obtain ⟨k, rfl⟩ : ∃ m, k = m + 1 := ⟨k - 1, by omega⟩
  have hp := s0_range p
  have := rsum_l0 L hL hs L.length k 0 1 (s0 p) (by omega) (by omega) (by omega) (by omega) (by omega) hp.1 hp.2
  unfold treenailref31_Sum.f
  by_cases h : 0 < p
  · rw [if_pos h]
    simp only [treenailref31_Sum.j0]
    rw [Int.tmod_eq_emod_of_nonneg (by omega)]
    have e : s0 p = p % 65521 := by unfold s0; rw [if_pos h]
    rw [← e]
    simpa using this
  · rw [if_neg h]
    simp only [treenailref31_Sum.j0]
    have e : s0 p = 0 := by unfold s0; rw [if_neg h]
    rw [e] at this ⊢
    simpa using this

theorem numL_len : ∀ k n, (journal_numL k n).length = k
  | 0, _ => rfl
  | k + 1, n => by simp [journal_numL, numL_len k]
theorem numL_bl : ∀ k n, BL (journal_numL k n)
  | 0, _ => BL.nil
  | k + 1, n => BL.cons (by omega) (numL_bl k _)
theorem rnum_l0 (d : Nat) : ∀ (k i : Nat) (L : List Int) (n : Int), i + d = 6 → d < k → L.length = i → 0 ≤ n → n ≤ 9223372036854775807 →
    treenailref31_num.l0 k (strOfNums L) n (i : Int) = some (strOfNums (L ++ journal_numL d n)) := by
  induction d with
  | zero =>
    intro k i L n hd hk hl h0 h1
    obtain ⟨k, rfl⟩ : ∃ m, k = m + 1 := ⟨k - 1, by omega⟩
    simp only [treenailref31_num.l0]
    rw [if_neg (by omega)]
    simp [journal_numL]
  | succ d ih =>
    intro k i L n hd hk hl h0 h1
    obtain ⟨k, rfl⟩ : ∃ m, k = m + 1 := ⟨k - 1, by omega⟩
    simp only [treenailref31_num.l0]
    rw [if_pos (by omega)]
    simp only [Option.bind_some]
    rw [size_str, size_str, if_pos (by simp; omega), str_append, Int.tmod_eq_emod_of_nonneg h0, Int.tdiv_eq_ediv_of_nonneg h0, wrapS (x := n / 256) (by omega) (by omega), wrapS (x := (i : Int) + 1) (by omega) (by omega)]
    have := ih k (i + 1) (L ++ [n % 256 % 256]) (n / 256) (by omega) (by omega) (by simp [hl]) (by omega) (by omega)
    rw [show ((i : Int) + 1) = ((i + 1 : Nat) : Int) by omega, this]
    simp [journal_numL]
theorem rnum (n : Int) (h0 : 0 ≤ n) (h1 : n ≤ 9223372036854775807) (k : Nat) (hk : 6 < k) : treenailref31_num.f k n = some (strOfNums (journal_numL 6 n)) := by
  unfold treenailref31_num.f
  have := rnum_l0 6 k 0 [] n rfl hk rfl h0 h1
  simpa [str_empty] using this

def rec13 (w a b : Int) : List Int := [w % 256] ++ journal_numL 6 a ++ journal_numL 6 b
def four (s : Int × Int) : List Int := [s.1 % 256, s.1 / 256 % 256, s.2 % 256, s.2 / 256 % 256]
def recL (w a b p : Int) : List Int := rec13 w a b ++ four (sumL (rec13 w a b) 1 (s0 p))
theorem rec13_len (w a b : Int) : (rec13 w a b).length = 13 := by simp [rec13, numL_len]
theorem recL_len (w a b p : Int) : (recL w a b p).length = 17 := by simp [recL, rec13_len, four]
theorem rec13_bl (w a b : Int) : BL (rec13 w a b) := (BL.append (BL.append (BL.cons (by omega) BL.nil) (numL_bl _ _)) (numL_bl _ _))
theorem four_bl (s : Int × Int) : BL (four s) := BL.cons (by omega) (BL.cons (by omega) (BL.cons (by omega) (BL.cons (by omega) BL.nil)))
theorem recL_bl (w a b p : Int) : BL (recL w a b p) := BL.append (rec13_bl w a b) (four_bl _)
def can (w a b : Int) : Prop := 1 ≤ w ∧ w ≤ 5 ∧ 0 ≤ a ∧ a ≤ 1099511627776 ∧ 0 ≤ b ∧ b ≤ 1099511627776
instance (w a b : Int) : Decidable (can w a b) := by unfold can; infer_instance

theorem jsum4 (L : List Int) (hL : BL L) (hs : L.length ≤ 140737488351232) (p : Int) (k : Nat) (hk : L.length < k) : journal_sum.f k (strOfNums L) p = some (strOfNums (four (sumL L 1 (s0 p)))) := by
  unfold journal_sum.f
  rw [jsum L hL hs p k hk]
  rfl
def recR (w a b p : Int) : ByteArray × Int := if can w a b ∧ 0 ≤ p then (strOfNums (recL w a b p), 0) else ((⟨#[]⟩ : ByteArray), 1)
theorem jrec_j0_no (k : Nat) (w a b p : Int) : journal_Record.j0 (k + 1) p true w a b = some ((⟨#[]⟩ : ByteArray), 1) := by
  simp [journal_Record.j0]
theorem jrec_j0 (k : Nat) (hk : 13 < k) (w a b p : Int) : journal_Record.j0 (k + 1) p false w a b = some (strOfNums (recL w a b p), 0) := by
  simp only [journal_Record.j0]
  rw [if_neg (by simp)]
  simp only [Option.bind_some, journal_number.f]
  rw [size_str, size_str, if_pos (by simp [numL_len]), str_append, size_str, size_str, if_pos (by simp [numL_len]), str_append]
  have h13 := rec13_len w a b
  have hb := rec13_bl w a b
  rw [show [w % 256] ++ journal_numL 6 a ++ journal_numL 6 b = rec13 w a b from rfl, jsum4 _ hb (by omega) p k (by omega)]
  simp only [Option.bind_some]
  rw [size_str, size_str, if_pos (by rw [h13]; simp [four]), str_append]
  rfl
theorem jrec (w a b p : Int) (k : Nat) (hk : 20 ≤ k) : journal_Record.f k w a b p = some (recR w a b p) := by
  obtain ⟨k, rfl⟩ : ∃ m, k = m + 1 := ⟨k - 1, by omega⟩
  unfold journal_Record.f recR can
  by_cases h1 : w < 1
  · rw [if_pos h1, jrec_j0_no, if_neg (by omega)]
  rw [if_neg h1]
  by_cases h2 : w > 5
  · rw [if_pos h2, jrec_j0_no, if_neg (by omega)]
  rw [if_neg h2]
  unfold journal_fits.f
  by_cases h3 : a ≥ 0
  · rw [if_pos h3]
    simp only [Option.bind_some]
    by_cases h4 : a ≤ 1099511627776
    · rw [if_pos (by simp [h4])]
      by_cases h5 : b ≥ 0
      · rw [if_pos h5]
        simp only [Option.bind_some]
        by_cases h6 : b ≤ 1099511627776
        · rw [if_pos (by simp [h6])]
          by_cases h7 : p < 0
          · rw [show decide (p < 0) = true by simpa using h7, jrec_j0_no, if_neg (by omega)]
          · rw [show decide (p < 0) = false by simpa using h7, jrec_j0 k (by omega), if_pos (by omega)]
        · rw [if_neg (by simpa using h6), jrec_j0_no, if_neg (by omega)]
      · rw [if_neg h5]
        simp only [Option.bind_some]
        rw [if_neg (by simp), jrec_j0_no, if_neg (by omega)]
    · rw [if_neg (by simpa using h4), jrec_j0_no, if_neg (by omega)]
  · rw [if_neg h3]
    simp only [Option.bind_some]
    rw [if_neg (by simp), jrec_j0_no, if_neg (by omega)]

theorem rcan (w a b : Int) : treenailref31_Can.f w a b = some (decide (can w a b)) := by
  have hc : can w a b ↔ (1 ≤ w ∧ w ≤ 5 ∧ 0 ≤ a ∧ a ≤ 1099511627776 ∧ 0 ≤ b ∧ b ≤ 1099511627776) := Iff.rfl
  unfold treenailref31_Can.f
  repeat' split
  all_goals (rw [Option.some.injEq, Bool.eq_iff_iff]; simp only [decide_eq_true_eq, hc, Bool.false_eq_true, false_iff]; omega)
theorem rplain (w a b p : Int) (h : can w a b) (k : Nat) (hk : 20 ≤ k) : treenailref31_Plain.f k w a b p = some (strOfNums (recL w a b p)) := by
  unfold can at h
  unfold treenailref31_Plain.f
  simp only [Option.bind_some]
  rw [rnum a (by omega) (by omega) k (by omega)]
  simp only [Option.bind_some]
  rw [size_str, size_str, if_pos (by simp [numL_len]), rnum b (by omega) (by omega) k (by omega)]
  simp only [Option.bind_some]
  rw [str_append, size_str, size_str, if_pos (by simp [numL_len]), str_append]
  have h13 := rec13_len w a b
  have hb := rec13_bl w a b
  rw [show [w % 256] ++ journal_numL 6 a ++ journal_numL 6 b = rec13 w a b from rfl, rsum _ hb (by omega) p k (by omega)]
  simp only [Option.bind_some]
  have hr := sumL_range (rec13 w a b) 1 (s0 p) (by omega) (by omega) (s0_range p).1 (s0_range p).2
  have e4 : treenailref31_four.f (sumL (rec13 w a b) 1 (s0 p)).1 (sumL (rec13 w a b) 1 (s0 p)).2 = some (strOfNums (four (sumL (rec13 w a b) 1 (s0 p)))) := by
    unfold treenailref31_four.f four
    rw [Int.tmod_eq_emod_of_nonneg (by omega), Int.tdiv_eq_ediv_of_nonneg (by omega), Int.tmod_eq_emod_of_nonneg (by omega), Int.tdiv_eq_ediv_of_nonneg (by omega), wrapS (by omega) (by omega), wrapS (by omega) (by omega)]
    simp
  rw [e4]
  simp only [Option.bind_some]
  rw [size_str, size_str, if_pos (by rw [h13]; simp [four]), str_append]
  rfl
theorem rrec (w a b p : Int) (k : Nat) (hk : 20 ≤ k) : treenailref31_Record.f k w a b p = some (recR w a b p) := by
  unfold treenailref31_Record.f recR
  rw [rcan]
  simp only [Option.bind_some]
  by_cases h : can w a b
  · rw [if_pos (by simpa using h)]
    by_cases h7 : p < 0
    · rw [if_pos h7, if_neg (by omega)]
    · rw [if_neg h7, rplain w a b p h k hk, if_pos ⟨h, by omega⟩]
      rfl
  · rw [if_neg (by simpa using h), if_neg (fun hc => h hc.1)]
end Go.Proofs.Ytgfldjncpmdpdaa.JR
