/- Records, one behind the other, and what is read of them. -/
import Derived.Test.YtgfldjncpmdpdaaK3
set_option linter.unusedVariables false
set_option linter.unusedSimpArgs false
namespace Go.Proofs.Ytgfldjncpmdpdaa.JR
open Go.RowKit Go.Proofs.Ytgfldjncpmdpdaa.J Go.Proofs.Ytgfldjncpmdpdaa.R Go.Proofs.Ytgfldjncpmdpdaa.BL Go.Proofs.YtgfldjncpmdpdaaW.PrintWords Go.Proofs.YtgfldjncpmdpdaaW.PrintLast Go.Proofs.YtgfldjncpmdpdaaW.PrintMore

theorem rdN_numL : ∀ (k : Nat) (n : Int) (z : List Int), 0 ≤ n → n < 256 ^ k → rdN k (journal_numL k n ++ z) = n
  | 0, n, z, h0, h1 => by simp at h1; simp [rdN]; omega
  | k + 1, n, z, h0, h1 => by
    rw [Int.pow_succ] at h1
    have := rdN_numL k (n / 256) z (by omega) (by omega)
    simp only [journal_numL, rdN, List.cons_append, List.headD_cons, List.drop_succ_cons, List.drop_zero]
    rw [this]
    omega
theorem take_rec (w a b p : Int) (z : List Int) : (recL w a b p ++ z).take 17 = recL w a b p := by
  rw [List.take_append_of_le_length (by rw [recL_len]; exact Nat.le_refl _), List.take_of_length_le (by rw [recL_len]; exact Nat.le_refl _)]
theorem drop_rec (w a b p : Int) (z : List Int) : (recL w a b p ++ z).drop 17 = z := by
  rw [List.drop_append, recL_len, List.drop_eq_nil_of_le (by rw [recL_len]; exact Nat.le_refl _)]
  simp
theorem step_rec (w a b p : Int) (z : List Int) (h : can w a b) : stepOf (recL w a b p ++ z) = ⟨w, a, b⟩ := by
  unfold can at h
  have e : recL w a b p ++ z = (w % 256) :: (journal_numL 6 a ++ (journal_numL 6 b ++ (four (sumL (rec13 w a b) 1 (s0 p)) ++ z))) := by simp [recL, rec13]
  have ha := rdN_numL 6 a (journal_numL 6 b ++ (four (sumL (rec13 w a b) 1 (s0 p)) ++ z)) (by omega) (by omega)
  have hb := rdN_numL 6 b (four (sumL (rec13 w a b) 1 (s0 p)) ++ z) (by omega) (by omega)
  unfold stepOf
  rw [e]
  have d7 : (List.drop 7 ((w % 256) :: (journal_numL 6 a ++ (journal_numL 6 b ++ (four (sumL (rec13 w a b) 1 (s0 p)) ++ z))))) = journal_numL 6 b ++ (four (sumL (rec13 w a b) 1 (s0 p)) ++ z) := by
    show List.drop 6 (journal_numL 6 a ++ _) = _
    rw [List.drop_append, numL_len, List.drop_eq_nil_of_le (by rw [numL_len]; exact Nat.le_refl _)]
    simp
  rw [d7, List.drop_succ_cons, List.drop_zero, ha, hb]
  simp
  omega
theorem isRec_rec (w a b p : Int) (z : List Int) (h : can w a b) : isRec (recL w a b p ++ z) p := by
  refine ⟨by simp [recL_len], ?_, ?_⟩
  · rw [step_rec w a b p z h]; exact h
  · rw [step_rec w a b p z h]; exact take_rec w a b p z
theorem decL_rec (f : Nat) (w a b : Int) (p : Nat) (z : List Int) (h : can w a b) : decL (f + 1) (recL w a b p ++ z) p = (⟨w, a, b⟩ :: (decL f z (p + 1)).1, (decL f z (p + 1)).2) := by
  rw [decL, if_pos (isRec_rec w a b p z h), step_rec w a b p z h, drop_rec]
/-- The journal of steps, from a place on. -/
def encL : List S23 → Nat → List Int
  | [], _ => []
  | s :: l, p => recL s.f0 s.f1 s.f2 p ++ encL l (p + 1)
theorem encL_len : ∀ l p, (encL l p).length = 17 * l.length
  | [], _ => rfl
  | s :: l, p => by simp [encL, recL_len, encL_len l]; omega
theorem encL_bl : ∀ l p, BL (encL l p)
  | [], _ => BL.nil
  | s :: l, p => BL.append (recL_bl _ _ _ _) (encL_bl l _)
theorem encL_snoc : ∀ l p s, encL (l ++ [s]) p = encL l p ++ recL s.f0 s.f1 s.f2 ((p + l.length : Nat) : Int)
  | [], p, s => by simp [encL]
  | t :: l, p, s => by
    simp only [List.cons_append, encL, encL_snoc l, List.append_assoc, List.length_cons]
    rw [show p + 1 + l.length = p + (l.length + 1) by omega]
def cans (l : List S23) : Prop := ∀ s ∈ l, can s.f0 s.f1 s.f2
theorem decL_enc : ∀ (l : List S23) (f p : Nat) (z : List Int), cans l → decL (f + l.length) (encL l p ++ z) p = (l ++ (decL f z (p + l.length)).1, (decL f z (p + l.length)).2)
  | [], f, p, z, _ => by simp [encL]
  | s :: l, f, p, z, h => by
    have h1 : can s.f0 s.f1 s.f2 := h s (by simp)
    have h2 : cans l := fun t ht => h t (by simp [ht])
    have := decL_enc l f (p + 1) z h2
    simp only [encL, List.append_assoc, List.length_cons]
    rw [show f + (l.length + 1) = (f + l.length) + 1 by omega, decL_rec _ _ _ _ _ _ h1, this]
    rw [show p + 1 + l.length = p + (l.length + 1) by omega]
    simp
theorem decL_short (f p : Nat) (z : List Int) (h : z.length < 17) : decL f z p = ([], z) := by
  cases f with
  | zero => rfl
  | succ f => rw [decL, if_neg (fun hr => absurd hr.1 (by omega))]
theorem sumL_fst : ∀ (l : List Int) (x y : Int), 0 ≤ x → x < 65521 → (sumL l x y).1 = (x + l.sum) % 65521
  | [], x, y, h0, h1 => by simp [sumL]; omega
  | b :: l, x, y, h0, h1 => by
    rw [sumL, sumL_fst l _ _ (by omega) (by omega)]
    simp
    omega
theorem sum_set : ∀ (l : List Int) (i : Nat) (c : Int), i < l.length → (l.set i c).sum = l.sum - l.getD i 0 + c
  | a :: l, 0, c, h => by simp; omega
  | a :: l, i + 1, c, h => by
    have := sum_set l i c (by simpa using h)
    simp at this ⊢
    omega
theorem four_inj {s t : Int × Int} (hs : 0 ≤ s.1 ∧ s.1 < 65521) (ht : 0 ≤ t.1 ∧ t.1 < 65521) (h : four s = four t) : s.1 = t.1 := by
  simp [four] at h
  omega
/-- A record one byte of which is another one is none at its place. -/
theorem other_no (w a b p : Int) (i : Nat) (c : Int) (hi : i < 17) (hc0 : 0 ≤ c) (hc : c < 256) (hne : (recL w a b p).getD i 0 ≠ c) : ¬ isRec ((recL w a b p).set i c) p := by
  rintro ⟨_, _, h3⟩
  have hlen : ((recL w a b p).set i c).length = 17 := by simp [recL_len]
  rw [List.take_of_length_le (by omega)] at h3
  generalize stepOf ((recL w a b p).set i c) = s at h3
  have hb := (recL_bl w a b p).getD i
  have e13 : (rec13 w a b).set i c ++ four (sumL (rec13 w a b) 1 (s0 p)) = rec13 s.f0 s.f1 s.f2 ++ four (sumL (rec13 s.f0 s.f1 s.f2) 1 (s0 p)) ∨ 13 ≤ i := by
    rcases Nat.lt_or_ge i 13 with h | h
    · left
      rw [recL, List.set_append_left _ _ (by rw [rec13_len]; exact h)] at h3
      exact h3
    · exact .inr h
  rcases e13 with h | h
  · rcases Nat.lt_or_ge i 13 with hi13 | hi13
    · obtain ⟨h1, h2⟩ := List.append_inj h (by simp [rec13_len])
      have r1 := sumL_range (rec13 w a b) 1 (s0 p) (by omega) (by omega) (s0_range p).1 (s0_range p).2
      have r2 := sumL_range (rec13 s.f0 s.f1 s.f2) 1 (s0 p) (by omega) (by omega) (s0_range p).1 (s0_range p).2
      have h4 := four_inj ⟨r1.1, r1.2.1⟩ ⟨r2.1, r2.2.1⟩ h2
      rw [sumL_fst _ _ _ (by omega) (by omega), sumL_fst _ _ _ (by omega) (by omega), ← h1, sum_set _ _ _ (by rw [rec13_len]; exact hi13)] at h4
      have hg : (recL w a b p).getD i 0 = (rec13 w a b).getD i 0 := by
        simp only [recL, List.getD_eq_getElem?_getD]
        rw [List.getElem?_append_left (by rw [rec13_len]; exact hi13)]
      rw [hg] at hb hne
      omega
    · obtain ⟨h1, h2⟩ := List.append_inj h (by simp [rec13_len])
      have h5 : (rec13 w a b).set i c = rec13 w a b := List.set_eq_of_length_le (by rw [rec13_len]; exact hi13)
      have h6 : (recL w a b p).set i c = rec13 w a b ++ (four (sumL (rec13 w a b) 1 (s0 p))).set (i - 13) c := by
        rw [recL, List.set_append_right _ _ (by rw [rec13_len]; exact hi13), rec13_len]
      rw [h5] at h1
      rw [h6, recL, ← h1] at h3
      have h7 := List.append_cancel_left h3
      have h8 : ((four (sumL (rec13 w a b) 1 (s0 p))).set (i - 13) c).getD (i - 13) 0 = c := by
        rw [List.getD_eq_getElem?_getD, List.getElem?_set_self (by simp [four]; omega)]
        rfl
      rw [h7] at h8
      apply hne
      rw [← h8]
      simp only [recL, List.getD_eq_getElem?_getD]
      rw [List.getElem?_append_right (by rw [rec13_len]; exact hi13), rec13_len]
  · have h6 : (recL w a b p).set i c = rec13 w a b ++ (four (sumL (rec13 w a b) 1 (s0 p))).set (i - 13) c := by
      rw [recL, List.set_append_right _ _ (by rw [rec13_len]; exact h), rec13_len]
    rw [h6, recL] at h3
    obtain ⟨h1, h7⟩ := List.append_inj h3 (by simp [rec13_len])
    rw [← h1] at h7
    have h8 : ((four (sumL (rec13 w a b) 1 (s0 p))).set (i - 13) c).getD (i - 13) 0 = c := by
      rw [List.getD_eq_getElem?_getD, List.getElem?_set_self (by simp [four]; omega)]
      rfl
    rw [h7] at h8
    apply hne
    rw [← h8]
    simp only [recL, List.getD_eq_getElem?_getD]
    rw [List.getElem?_append_right (by rw [rec13_len]; exact h), rec13_len]
end Go.Proofs.Ytgfldjncpmdpdaa.JR
