/- What the journal's writing answers. -/
import Derived.Test.YtgfldjncpmdpdaaRx
import Derived.Test.YtgfldjncpmdpdaaK4
set_option linter.unusedVariables false
set_option linter.unusedSimpArgs false
namespace Go.Proofs.Ytgfldjncpmdpdaa.JR
open Go.RowKit Go.Proofs.Ytgfldjncpmdpdaa.R Go.Proofs.Ytgfldjncpmdpdaa.BL Go.Proofs.YtgfldjncpmdpdaaW.PrintWords Go.Proofs.YtgfldjncpmdpdaaW.PrintLast Go.Proofs.YtgfldjncpmdpdaaW.PrintMore

instance (l : List S23) : Decidable (cans l) := by unfold cans; infer_instance
def encE (L : List S23) : ByteArray × Int := if 20000 < 17 * L.length then ((⟨#[]⟩ : ByteArray), 5) else (strOfNums (encL L 0), 0)
/-- The writing's answer. -/
def encR (L : List S23) : ByteArray × Int := if 10000 < L.length then ((⟨#[]⟩ : ByteArray), 2) else if cans L then encE L else ((⟨#[]⟩ : ByteArray), 1)
theorem cans_cons (s : S23) (l : List S23) : cans (s :: l) ↔ can s.f0 s.f1 s.f2 ∧ cans l := by simp [cans]
theorem cans_take {L : List S23} (h : cans L) (i : Nat) : cans (L.take i) := fun s hs => h s (List.mem_of_mem_take hs)
theorem take_snoc {L : List S23} {i : Nat} (h : i < L.length) : L.take (i + 1) = L.take i ++ [L[i]] := by rw [List.take_succ_eq_append_getElem h]
theorem enc_step {L : List S23} {i : Nat} (h : i < L.length) : encL (L.take (i + 1)) 0 = encL (L.take i) 0 ++ recL (L[i]).f0 (L[i]).f1 (L[i]).f2 (i : Int) := by
  rw [take_snoc h, encL_snoc]
  simp [Nat.min_eq_left (Nat.le_of_lt h)]
theorem rdT {L : List S23} {i : Nat} (h : i < L.length) : rd_T23 L (i : Int) = L[i] := by
  unfold rd_T23
  rw [show (i : Int).toNat = i by omega, List.getD_eq_getElem?_getD, List.getElem?_eq_getElem h]
  rfl
theorem rdT30 {L : List S23} {i : Nat} (h : i < L.length) : rd_T30 (L.map conv) (i : Int) = conv L[i] := by
  unfold rd_T30
  rw [show (i : Int).toNat = i by omega, List.getD_eq_getElem?_getD, List.getElem?_eq_getElem (by simpa using h)]
  simp
theorem jenc_l0 (L : List S23) (hl : L.length ≤ 10000) (d : Nat) : ∀ (k i : Nat), L.length - i = d → i ≤ L.length → d + 20 < k →
    journal_Encode.l0 k (strOfNums (encL (L.take i) 0)) L (L.length : Int) (i : Int) = some (if cans (L.drop i) then encE L else ((⟨#[]⟩ : ByteArray), 1)) := by
  induction d with
  | zero =>
    intro k i hd hi hk
    obtain ⟨k, rfl⟩ : ∃ m, k = m + 1 := ⟨k - 1, by omega⟩
    unfold journal_Encode.l0
    have e : i = L.length := by omega
    subst e
    have hn : cans ([] : List S23) := by simp [cans]
    rw [if_neg (by omega), List.drop_length, List.take_length, size_str, encL_len]
    simp only [if_pos hn]
    unfold encE
    by_cases h : 20000 < 17 * L.length
    · rw [if_pos h, if_pos (by omega)]
    · rw [if_neg h, if_neg (by omega)]
  | succ d ih =>
    intro k i hd hi hk
    obtain ⟨k, rfl⟩ : ∃ m, k = m + 1 := ⟨k - 1, by omega⟩
    have hi' : i < L.length := by omega
    have hlen : (encL (L.take i) 0).length = 17 * i := by rw [encL_len, List.length_take, Nat.min_eq_left hi]
    unfold journal_Encode.l0
    rw [if_pos (by omega), if_pos (by omega), if_pos (by omega), rdT hi', jrec _ _ _ _ k (by omega)]
    simp only [Option.bind_some]
    have ed : L.drop i = L[i] :: L.drop (i + 1) := List.drop_eq_getElem_cons hi'
    by_cases hc : can (L[i]).f0 (L[i]).f1 (L[i]).f2
    · have er : recR (L[i]).f0 (L[i]).f1 (L[i]).f2 (i : Int) = (strOfNums (recL (L[i]).f0 (L[i]).f1 (L[i]).f2 (i : Int)), 0) := if_pos ⟨hc, by omega⟩
      rw [er, if_pos rfl, size_str, size_str, hlen, recL_len, if_pos (by omega), str_append, ← enc_step hi', wrapS (by omega) (by omega), show ((i : Int) + 1) = ((i + 1 : Nat) : Int) by omega, ih k (i + 1) (by omega) (by omega) (by omega)]
      have : cans (L.drop i) ↔ cans (L.drop (i + 1)) := by rw [ed, cans_cons]; exact ⟨fun h => h.2, fun h => ⟨hc, h⟩⟩
      simp only [this]
    · have er : recR (L[i]).f0 (L[i]).f1 (L[i]).f2 (i : Int) = ((⟨#[]⟩ : ByteArray), 1) := if_neg (fun h => hc h.1)
      have : ¬ cans (L.drop i) := by rw [ed, cans_cons]; exact fun h => hc h.1
      rw [er, if_neg (by decide), if_neg this]
theorem jenc (L : List S23) (k : Nat) (hk : L.length + 20 < k) : journal_Encode.f k L = some (encR L) := by
  unfold journal_Encode.f encR
  by_cases h : 10000 < L.length
  · rw [if_pos h, if_pos (by omega)]
  · rw [if_neg h, if_neg (by omega)]
    have := jenc_l0 L (by omega) L.length k 0 (by omega) (by omega) hk
    simpa [encL, str_empty] using this
theorem renc_l0 (L : List S23) (hl : L.length ≤ 10000) (d : Nat) : ∀ (k i : Nat), L.length - i = d → i ≤ L.length → d + 20 < k →
    treenailref31_Encode.l0 k (strOfNums (encL (L.take i) 0)) (L.map conv) (L.length : Int) (i : Int) = some (if cans (L.drop i) then encE L else ((⟨#[]⟩ : ByteArray), 1)) := by
  induction d with
  | zero =>
    intro k i hd hi hk
    obtain ⟨k, rfl⟩ : ∃ m, k = m + 1 := ⟨k - 1, by omega⟩
    unfold treenailref31_Encode.l0
    have e : i = L.length := by omega
    subst e
    have hn : cans ([] : List S23) := by simp [cans]
    rw [if_neg (by omega), List.drop_length, List.take_length, size_str, encL_len]
    simp only [if_pos hn]
    unfold encE
    by_cases h : 20000 < 17 * L.length
    · rw [if_pos h, if_pos (by omega)]
    · rw [if_neg h, if_neg (by omega)]
  | succ d ih =>
    intro k i hd hi hk
    obtain ⟨k, rfl⟩ : ∃ m, k = m + 1 := ⟨k - 1, by omega⟩
    have hi' : i < L.length := by omega
    have hlen : (encL (L.take i) 0).length = 17 * i := by rw [encL_len, List.length_take, Nat.min_eq_left hi]
    unfold treenailref31_Encode.l0
    rw [if_pos (by omega), if_pos (by omega), if_pos (by rw [List.length_map]; omega), rdT30 hi', rrec _ _ _ _ k (by omega)]
    simp only [Option.bind_some]
    have ed : L.drop i = L[i] :: L.drop (i + 1) := List.drop_eq_getElem_cons hi'
    by_cases hc : can (L[i]).f0 (L[i]).f1 (L[i]).f2
    · have er : recR (conv L[i]).f0 (conv L[i]).f1 (conv L[i]).f2 (i : Int) = (strOfNums (recL (L[i]).f0 (L[i]).f1 (L[i]).f2 (i : Int)), 0) := if_pos ⟨hc, by omega⟩
      rw [er, if_pos rfl, size_str, size_str, hlen, recL_len, if_pos (by omega), str_append, ← enc_step hi', wrapS (by omega) (by omega), show ((i : Int) + 1) = ((i + 1 : Nat) : Int) by omega, ih k (i + 1) (by omega) (by omega) (by omega)]
      have : cans (L.drop i) ↔ cans (L.drop (i + 1)) := by rw [ed, cans_cons]; exact ⟨fun h => h.2, fun h => ⟨hc, h⟩⟩
      simp only [this]
    · have er : recR (conv L[i]).f0 (conv L[i]).f1 (conv L[i]).f2 (i : Int) = ((⟨#[]⟩ : ByteArray), 1) := if_neg (fun h => hc h.1)
      have : ¬ cans (L.drop i) := by rw [ed, cans_cons]; exact fun h => hc h.1
      rw [er, if_neg (by decide), if_neg this]
theorem renc (L : List S23) (k : Nat) (hk : L.length + 20 < k) : treenailref31_Encode.f k (L.map conv) = some (encR L) := by
  unfold treenailref31_Encode.f encR
  rw [List.length_map]
  by_cases h : 10000 < L.length
  · rw [if_pos h, if_pos (by omega)]
  · rw [if_neg h, if_neg (by omega)]
    have := renc_l0 L (by omega) L.length k 0 (by omega) (by omega) hk
    simpa [encL, str_empty] using this
/-- What was written is read. -/
theorem decR_enc (L : List S23) (hl : L.length ≤ 10000) (h : cans L) : decR (encL L 0) = (L, ((17 * L.length : Nat) : Int)) := by
  have h1 := decL_enc L (10000 - L.length) 0 [] h
  rw [List.append_nil, decL_short _ _ [] (by simp), show 10000 - L.length + L.length = 10000 by omega] at h1
  unfold decR
  rw [h1, encL_len]
  simp
/-- What is read is written as it was. -/
theorem decL_back : ∀ (f : Nat) (l : List Int) (p : Nat), cans (decL f l p).1 ∧ encL (decL f l p).1 p ++ (decL f l p).2 = l ∧ (decL f l p).1.length ≤ f
  | 0, l, p => by simp [decL, cans, encL]
  | f + 1, l, p => by
    rw [decL]
    by_cases h : isRec l p
    · rw [if_pos h]
      obtain ⟨h1, h2, h3⟩ := decL_back f (l.drop 17) (p + 1)
      refine ⟨by rw [cans_cons]; exact ⟨h.2.1, h1⟩, ?_, by simpa using h3⟩
      simp only [encL, List.append_assoc]
      rw [h2, ← h.2.2, List.take_append_drop]
    · rw [if_neg h]
      simp [cans, encL]
theorem back_take (l : List Int) : encL (decR l).1 0 = l.take (decR l).2.toNat ∧ (decR l).2 = ((17 * (decR l).1.length : Nat) : Int) := by
  obtain ⟨h1, h2, h3⟩ := decL_back 10000 l 0
  have hlen := congrArg List.length h2
  rw [List.length_append, encL_len] at hlen
  unfold decR
  simp only
  have e : ((l.length : Int) - ((decL 10000 l 0).2.length : Int)) = ((17 * (decL 10000 l 0).1.length : Nat) : Int) := by omega
  rw [e]
  refine ⟨?_, rfl⟩
  rw [show ((17 * (decL 10000 l 0).1.length : Nat) : Int).toNat = 17 * (decL 10000 l 0).1.length from rfl, ← encL_len (decL 10000 l 0).1 0]
  generalize decL 10000 l 0 = r at h2 ⊢
  rw [← h2, List.take_append_of_le_length (Nat.le_refl _), List.take_length]
end Go.Proofs.Ytgfldjncpmdpdaa.JR
