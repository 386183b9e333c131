/- A record one byte of which is another one is no record at its place: for every step, place and byte. -/
import Derived.Test.YtgfldjncpmdpdaaQx12
import Derived.Test.YtgfldjncpmdpdaaQk
import Derived.Test.YtgfldjncpmdpdaaJ4
set_option linter.unusedVariables false
set_option linter.unusedSimpArgs false
namespace Go.Proofs.Ytgfldjncpmdpdaa.Pure
open Go.RowKit Go.Proofs.Ytgfldjncpmdpdaa.Q Go.Proofs.Ytgfldjncpmdpdaa.J Go.Proofs.Ytgfldjncpmdpdaa.BL Go.Proofs.YtgfldjncpmdpdaaW.PrintWords Go.Proofs.YtgfldjncpmdpdaaW.PrintLast

theorem jappend (J : List Int) (w a b p : Int) (h : can w a b) (hp : 0 ≤ p) (hJ : J.length ≤ 10000) (k : Nat) (hk : 20 ≤ k) : journal_Append.f k (strOfNums J) p w a b = some (strOfNums (J ++ recL w a b p), 0) := by
  unfold journal_Append.f
  have e : recR w a b p = (strOfNums (recL w a b p), 0) := if_pos ⟨h, hp⟩
  rw [jrec _ _ _ _ k hk]
  simp only [Option.bind_some]
  rw [e, if_pos rfl, size_str, size_str, recL_len, wrapS (by omega) (by omega), if_neg (by omega), if_pos (by omega), str_append]
/-- What stands ahead: seven records. -/
def ahead : Nat → List S23
  | 0 => []
  | i + 1 => ahead i ++ [⟨1, (i : Int), 0⟩]
theorem ahead_len : ∀ i, (ahead i).length = i
  | 0 => rfl
  | i + 1 => by simp [ahead, ahead_len i]
theorem ahead_can : ∀ i, i ≤ 7 → cans (ahead i)
  | 0, _ => by simp [ahead, cans]
  | i + 1, h => by
    intro s hs
    simp only [ahead, List.mem_append, List.mem_singleton] at hs
    rcases hs with hs | rfl
    · exact ahead_can i (by omega) s hs
    · unfold can
      simp
      omega
theorem ahead_enc (i : Nat) : encL (ahead (i + 1)) 0 = encL (ahead i) 0 ++ recL 1 (i : Int) 0 (i : Int) := by
  rw [ahead, encL_snoc, ahead_len, Nat.zero_add]
theorem other_end (x : List Int) (w a b : Int) (hx : BL x) (hl : x.length = 17) (hc : can w a b) (hn : ¬ isRec x 7) (k : Nat) (hk : 300 ≤ k) :
    treenaillaw31_JournalOther.l0 k (strOfNums (recL w a b 7)) (strOfNums x) (strOfNums (encL (ahead 7) 0)) 7 = some true := by
  obtain ⟨k, rfl⟩ : ∃ m, k = m + 1 := ⟨k - 1, by omega⟩
  have hal := encL_len (ahead 7) 0
  have hab := encL_bl (ahead 7) 0
  rw [ahead_len] at hal
  have d1 : decR (encL (ahead 7) 0 ++ x) = (ahead 7, 119) := by
    have h1 := decL_enc (ahead 7) 9993 0 x (ahead_can 7 (by omega))
    have h2 : decL 9993 x (0 + 7) = ([], x) := by
      rw [show (9993 : Nat) = 9992 + 1 from rfl, decL, if_neg (by exact hn)]
    rw [ahead_len, h2] at h1
    unfold decR
    rw [show (10000 : Nat) = 9993 + 7 from rfl]
    rw [h1]
    simp [hal, hl]
  have d2 : decR (encL (ahead 7) 0 ++ recL w a b 7) = (ahead 7 ++ [⟨w, a, b⟩], 136) := by
    have h1 := decL_enc (ahead 7) 9993 0 (recL w a b 7) (ahead_can 7 (by omega))
    have h2 := decL_rec 9992 w a b 7 [] hc
    rw [List.append_nil, decL_short 9992 (7 + 1) [] (by simp)] at h2
    have h3 : decL 9993 (recL w a b 7) (0 + 7) = ([⟨w, a, b⟩], []) := h2
    rw [ahead_len, h3] at h1
    unfold decR
    rw [show (10000 : Nat) = 9993 + 7 from rfl, h1]
    simp [hal, recL_len]
  simp only [treenaillaw31_JournalOther.l0]
  rw [if_neg (by decide), size_str, size_str, size_str, hal, hl, recL_len, if_pos (by decide), str_append, jdec _ (hab.append hx) (by simp [hal, hl]) k (by simp [hal, hl]; omega)]
  simp only [Option.bind_some]
  rw [if_pos (by decide), str_append, jdec _ (hab.append (recL_bl _ _ _ _)) (by simp [hal, recL_len]) k (by simp [hal, recL_len]; omega)]
  simp only [Option.bind_some]
  rw [d1, d2]
  simp only [List.length_append, ahead_len, List.length_cons, List.length_nil]
  rw [wrapS (by decide) (by decide), if_pos (by decide), if_pos (by decide), if_pos (by decide), if_pos (by decide), three k (by omega)]
  rfl
theorem other_l0 (x : List Int) (w a b : Int) (hx : BL x) (hl : x.length = 17) (hc : can w a b) (hn : ¬ isRec x 7) (d : Nat) : ∀ (k i : Nat), i + d = 7 → 300 + d ≤ k →
    treenaillaw31_JournalOther.l0 k (strOfNums (recL w a b 7)) (strOfNums x) (strOfNums (encL (ahead i) 0)) (i : Int) = some true := by
  induction d with
  | zero =>
    intro k i hi hk
    obtain rfl : i = 7 := by omega
    exact other_end x w a b hx hl hc hn k (by omega)
  | succ d ih =>
    intro k i hi hk
    obtain ⟨k, rfl⟩ : ∃ m, k = m + 1 := ⟨k - 1, by omega⟩
    have hal := encL_len (ahead i) 0
    rw [ahead_len] at hal
    simp only [treenaillaw31_JournalOther.l0]
    rw [if_pos (by omega), jappend _ 1 (i : Int) 0 (i : Int) (by unfold can; omega) (by omega) (by omega) k (by omega)]
    simp only [Option.bind_some, if_true]
    rw [wrapS (by omega) (by omega), ← ahead_enc, show ((i : Int) + 1) = ((i + 1 : Nat) : Int) by omega]
    exact ih k (i + 1) (by omega) (by omega)
theorem JournalOther : ∀ (x0 : S23) (a1 : Int) (a2 : Int), ok_T23 x0 → (Lit.int .i64 a1).wf = true → (Lit.int .u8 a2).wf = true → ∃ k, treenaillaw31_JournalOther.f k x0.f0 x0.f1 x0.f2 a1 a2 = some true := by
  intro x0 a1 a2 _ h1 h2
  have hb1 : -9223372036854775808 ≤ a1 ∧ a1 ≤ 9223372036854775807 := by simpa [Lit.wf, IntKind.min, IntKind.max, IntKind.bits, IntKind.signed] using h1
  have hb2 : 0 ≤ a2 ∧ a2 ≤ 255 := by simpa [Lit.wf, IntKind.min, IntKind.max, IntKind.bits, IntKind.signed] using h2
  refine ⟨400, ?_⟩
  have j0 : ∀ (x : ByteArray), treenaillaw31_JournalOther.j0 400 a1 a2 x true = some true := by
    intro x
    simp only [treenaillaw31_JournalOther.j0]
    rw [if_pos trivial, three _ (by omega)]
    rfl
  unfold treenaillaw31_JournalOther.f
  rw [jrec _ _ _ _ _ (by omega)]
  simp only [Option.bind_some]
  by_cases hc : can x0.f0 x0.f1 x0.f2
  · have e : recR x0.f0 x0.f1 x0.f2 7 = (strOfNums (recL x0.f0 x0.f1 x0.f2 7), 0) := if_pos ⟨hc, by decide⟩
    rw [e, if_pos rfl, size_str, recL_len]
    by_cases g1 : a1 < 0
    · rw [if_pos g1]
      exact j0 _
    rw [if_neg g1]
    by_cases g2 : a1 ≥ (17 : Nat)
    · rw [if_pos (by omega)]
      exact j0 _
    rw [if_neg (by omega), if_pos (by omega), if_pos (by omega), bt_str (recL_bl _ _ _ _)]
    obtain ⟨i, rfl⟩ := Int.eq_ofNat_of_zero_le (show 0 ≤ a1 by omega)
    have hi : i < 17 := by omega
    rw [show ((i : Nat) : Int).toNat = i from rfl]
    by_cases g3 : (recL x0.f0 x0.f1 x0.f2 7).getD i 0 = a2
    · rw [g3, beq_self_eq_true]
      exact j0 _
    · rw [beq_eq_false_iff_ne.2 g3]
      simp only [treenaillaw31_JournalOther.j0]
      have hrl := recL_len x0.f0 x0.f1 x0.f2 7
      have hrb := recL_bl x0.f0 x0.f1 x0.f2 7
      have d1 := drop_str (recL x0.f0 x0.f1 x0.f2 7) (i + 1)
      rw [if_neg (by decide), if_pos (by omega), if_pos (by rw [size_str]; omega)]
      simp only [Option.bind_some]
      rw [wrapS (by omega) (by omega), show ((i : Int) + 1) = ((i + 1 : Nat) : Int) by omega, show ((i + 1 : Nat) : Int).toNat = i + 1 from rfl, show ((i : Nat) : Int).toNat = i from rfl, take_str, d1, str_append, str_append]
      have ex : (recL x0.f0 x0.f1 x0.f2 7).take i ++ [a2] ++ (recL x0.f0 x0.f1 x0.f2 7).drop (i + 1) = (recL x0.f0 x0.f1 x0.f2 7).set i a2 := by
        rw [List.set_eq_take_append_cons_drop, if_pos (by omega)]
        simp
      rw [size_str, size_str, size_str, size_str, size_str, if_pos (by simp; omega), if_pos (by omega), if_pos (by rw [hrl]; omega), if_pos (by simp; omega), ex]
      have hbx : BL ((recL x0.f0 x0.f1 x0.f2 7).set i a2) := by
        rw [← ex]
        exact ((hrb.take i).append (BL.cons (by omega) BL.nil)).append (hrb.drop (i + 1))
      have := other_l0 ((recL x0.f0 x0.f1 x0.f2 7).set i a2) x0.f0 x0.f1 x0.f2 hbx (by simp [hrl]) hc (other_no _ _ _ _ i a2 hi (by omega) (by omega) g3) 7 399 0 rfl (by omega)
      exact this
  · have e : recR x0.f0 x0.f1 x0.f2 7 = ((⟨#[]⟩ : ByteArray), 1) := if_neg (fun h => hc h.1)
    rw [e, if_neg (by decide)]
    exact j0 _
end Go.Proofs.Ytgfldjncpmdpdaa.Pure
