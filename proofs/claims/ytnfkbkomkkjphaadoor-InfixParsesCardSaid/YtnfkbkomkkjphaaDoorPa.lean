/- What the walked functions come to is as the law says: plain Lean. -/
import Derived.Test.YtnfkbkomkkjphaaDoorNd
open Go Go.Proofs
namespace Go.Eng
set_option linter.unusedSimpArgs false
set_option linter.unusedVariables false
set_option maxRecDepth 100000

def vN : Str → Int → Int
  | [], n => n
  | c :: l, n => vN l (10 * n + (c.toNat - 48))
theorem dig_le {c : UInt8} (h : digitF c.toNat = true) : (48 : Int) ≤ c.toNat ∧ (c.toNat : Int) ≤ 57 := by
  simp only [digitF, Bool.and_eq_true, decide_eq_true_eq] at h; exact h
theorem numF_all : ∀ (l : Str) (n : Int), (∀ c ∈ l, digitF c.toNat = true) → numF l n = some (vN l n)
  | [], n, _ => rfl
  | c :: l, n, h => by rw [numF, if_pos (h c (by simp)), vN]; exact numF_all l _ (fun d hd => h d (by simp [hd]))
theorem numF_not : ∀ (l : Str) (n : Int), (¬ ∀ c ∈ l, digitF c.toNat = true) → numF l n = none
  | [], n, h => (h (by simp)).elim
  | c :: l, n, h => by
    rw [numF]
    split
    · rename_i hc
      exact numF_not l _ (fun h2 => h (fun d hd => by rcases List.mem_cons.1 hd with rfl | hd; exact hc; exact h2 d hd))
    · rfl
theorem vN_ge : ∀ (l : Str) (n : Int), 0 ≤ n → (∀ c ∈ l, digitF c.toNat = true) → n ≤ vN l n
  | [], n, _, _ => Int.le_refl _
  | c :: l, n, h0, h => by
    have hc := dig_le (h c (by simp))
    rw [vN]
    have := vN_ge l (10 * n + (c.toNat - 48)) (by omega) (fun d hd => h d (by simp [hd]))
    omega
theorem vN_pow : ∀ (l : Str) (n : Int), 1 ≤ n → (∀ c ∈ l, digitF c.toNat = true) → (10 : Int) ^ l.length ≤ vN l n
  | [], n, h1, _ => by simpa [vN] using h1
  | c :: l, n, h1, h => by
    have hc := dig_le (h c (by simp))
    rw [vN, List.length_cons, Int.pow_succ]
    have key : ∀ (l : Str) (n : Int), 1 ≤ n → (∀ c ∈ l, digitF c.toNat = true) → n * (10 : Int) ^ l.length ≤ vN l n := by
      intro l
      induction l with
      | nil => intro n _ _; simp [vN]
      | cons c l ih =>
        intro n h1 h
        have hc := dig_le (h c (by simp))
        have := ih (10 * n + (c.toNat - 48)) (by omega) (fun d hd => h d (by simp [hd]))
        rw [vN, List.length_cons, Int.pow_succ]
        have hp : (0 : Int) ≤ 10 ^ l.length := Int.le_of_lt (Int.pow_pos (by decide))
        have h3 : (10 * n) * (10 : Int) ^ l.length ≤ (10 * n + (c.toNat - 48)) * 10 ^ l.length := Int.mul_le_mul_of_nonneg_right (by omega) hp
        have e : n * (10 ^ l.length * 10) = (10 * n) * (10 : Int) ^ l.length := by rw [Int.mul_comm (10 ^ l.length) 10, ← Int.mul_assoc, Int.mul_comm n 10]
        omega
    have := key l (10 * n + (c.toNat - 48)) (by omega) (fun d hd => h d (by simp [hd]))
    have hp : (0 : Int) ≤ 10 ^ l.length := Int.le_of_lt (Int.pow_pos (by decide))
    have h3 : 10 * (10 : Int) ^ l.length ≤ (10 * n + (c.toNat - 48)) * 10 ^ l.length := Int.mul_le_mul_of_nonneg_right (by omega) hp
    omega
theorem numL_all {z : Prop} [Decidable z] (hz : ¬ z) : ∀ (l : Str) (k : Nat) (n : Int), 0 ≤ n → (∀ c ∈ l, digitF c.toNat = true) → (vN l n ≤ 1099511627776 → numL z l k n = some (vN l n, k + l.length)) ∧ (¬ vN l n ≤ 1099511627776 → ∀ m j, numL z l k n = some (m, j) → m > 1099511627776)
  | [], k, n, h0, _ => ⟨fun _ => rfl, fun h m j e => by simp only [numL, Option.some.injEq, Prod.mk.injEq] at e; simp only [vN] at h; omega⟩
  | c :: l, k, n, h0, h => by
    have hc := dig_le (h c (by simp))
    have hl : ∀ d ∈ l, digitF d.toNat = true := fun d hd => h d (by simp [hd])
    have ih := numL_all hz l (k + 1) (10 * n + c.toNat - 48) (by omega) hl
    have hge := vN_ge (c :: l) n h0 h
    have e : vN (c :: l) n = vN l (10 * n + c.toNat - 48) := by rw [vN]; congr 1; omega
    rw [numL, if_pos (h c (by simp)), e]
    constructor
    · intro hv
      rw [if_neg (by rintro (h2 | h2); · omega
                     · exact hz h2.2), ih.1 hv]
      simp only [List.length_cons]; congr 2; omega
    · intro hv m j
      split
      · intro h2; cases h2
      · exact ih.2 hv m j
theorem numL_len {z : Prop} [Decidable z] : ∀ (l : Str) (k : Nat) (n : Int) (m : Int) (j : Nat), numL z l k n = some (m, j) → j ≤ k + l.length ∧ (j = k + l.length → ∀ c ∈ l, digitF c.toNat = true)
  | [], k, n, m, j, h => by simp only [numL, Option.some.injEq, Prod.mk.injEq] at h; simp; omega
  | c :: l, k, n, m, j, h => by
    rw [numL] at h
    split at h
    · rename_i hc
      split at h
      · cases h
      · have := numL_len l (k + 1) _ m j h
        refine ⟨by simp only [List.length_cons]; omega, fun e d hd => ?_⟩
        rcases List.mem_cons.1 hd with rfl | hd
        · exact hc
        · exact this.2 (by simp only [List.length_cons] at e; omega) d hd
    · simp only [Option.some.injEq, Prod.mk.injEq] at h
      exact ⟨by simp only [List.length_cons]; omega, fun e => by simp only [List.length_cons] at e; omega⟩
theorem num_same (l : Str) (z : Prop) [Decidable z] (hz : z ↔ byteAt l 0 = 48) : (∃ m, numL z l 0 0 = some (m, l.length) ∧ l.length ≠ 0 ∧ ¬ m > 1099511627776 ∧ numberF l = (m, true)) ∨ ((numberF l).2 = false ∧ ∀ m j, numL z l 0 0 = some (m, j) → j = l.length → j = 0 ∨ m > 1099511627776) := by
  cases l with
  | nil => right; exact ⟨rfl, fun m j h e => .inl (by simpa using e)⟩
  | cons c l =>
    by_cases hall : ∀ d ∈ c :: l, digitF d.toNat = true
    · have hc := dig_le (hall c (by simp))
      have hb : byteAt (c :: l) 0 = c.toNat := rfl
      by_cases h48 : (c.toNat : Int) = 48
      · have hzt : z := hz.2 (by rw [hb]; exact h48)
        cases l with
        | nil =>
          left
          refine ⟨0, ?_, by simp, by omega, ?_⟩
          · rw [numL, if_pos (hall c (by simp)), if_neg (by rintro (h | h) <;> omega), numL]
            congr 2; omega
          · unfold numberF
            have hv0 : vN [c] 0 = 0 := by simp only [vN]; omega
            rw [if_neg (by simp), numF_all _ _ hall]
            simp [hv0]
        | cons d l =>
          right
          constructor
          · unfold numberF
            rw [if_pos (.inr (.inr ⟨by simp, by rw [hb]; exact h48⟩))]
          · intro m j h
            rw [numL, if_pos (hall c (by simp)), if_neg (by rintro (h | h) <;> omega), numL, if_pos (hall d (by simp)), if_pos (.inr ⟨by omega, hzt⟩)] at h
            cases h
      · have hzf : ¬ z := fun h => h48 (by have := hz.1 h; rwa [hb] at this)
        have hA := numL_all hzf (c :: l) 0 0 (by omega) hall
        by_cases hv : vN (c :: l) 0 ≤ 1099511627776
        · left
          refine ⟨_, by rw [hA.1 hv, Nat.zero_add], by simp, by omega, ?_⟩
          have h13 : (c :: l).length ≤ 13 := by
            have hp := vN_pow l (10 * 0 + ((c.toNat : Int) - 48)) (by omega) (fun d hd => hall d (by simp [hd]))
            rcases Nat.lt_or_ge 12 l.length with h | h
            · exfalso
              have h3 : (10 : Int) ^ 13 ≤ 10 ^ l.length := pow10 h
              have e13 : (10 : Int) ^ 13 = 10000000000000 := rfl
              rw [vN] at hv
              omega
            · simp only [List.length_cons]; omega
          unfold numberF
          rw [if_neg (by rintro (h | h | h); · cases h
                         · omega
                         · exact h48 (by have := h.2; rwa [hb] at this)), numF_all _ _ hall]
          simp [hv]
        · right
          constructor
          · unfold numberF
            split
            · rfl
            · rw [numF_all _ _ hall]; simp; omega
          · intro m j h _
            exact .inr (hA.2 hv m j h)
    · right
      constructor
      · unfold numberF
        split
        · rfl
        · rw [numF_not _ _ hall]
      · intro m j h e
        exact (hall ((numL_len _ 0 0 m j h).2 (by omega))).elim
theorem byte_drop (s : Str) : byteAt s 1 = byteAt (s.drop 1) 0 := by
  cases s with
  | nil => rfl
  | cons c l => rfl
theorem numR_l {s : Str} {i : Nat} {m : Int} {j : Nat} (h : numL (byteAt s i = 48) (s.drop i) 0 0 = some (m, j)) (hj : j ≠ 0) (hm : ¬ m > 1099511627776) : numR s i = (.mk 1 m [], ((i + j : Nat) : Int)) := by
  unfold numR
  rw [h]
  exact if_neg (by rintro (h | h); exact hj h; exact hm h)
theorem numR_no {s : Str} {i : Nat} (h : ∀ m j, numL (byteAt s i = 48) (s.drop i) 0 0 = some (m, j) → j = (s.drop i).length → j = 0 ∨ m > 1099511627776) (hi : i ≤ s.length) : (numR s i).2 ≠ s.length := by
  unfold numR
  split
  · simp
    try omega
  · rename_i m j e
    have := h m j e
    have hl := (numL_len _ 0 0 m j e).1
    simp only [List.length_drop] at this hl
    split
    · simp
      try omega
    · rename_i hc
      simp only [not_or] at hc
      intro h2
      simp only at h2
      rcases this (by omega) with h | h
      · exact hc.1 h
      · exact hc.2 h
theorem kind_same (s : Str) (hs : s.length ≤ 20000) : rkindF s = kindF s ∧ (kindF s = 1 → (parse3F s).1 = .mk 1 (numberF s).1 []) ∧ (kindF s = 2 → (parse3F s).1 = .mk 2 (numberF (s.drop 1)).1 []) := by
  have hkw : s ∈ keyw ↔ s = [97, 110, 100] ∨ s = [111, 114] ∨ s = [110, 111, 116] := by simp [keyw]
  by_cases hk : s ∈ keyw
  · have : kindF s = 3 := if_pos hk
    refine ⟨?_, fun h => by omega, fun h => by omega⟩
    rw [this]; exact if_pos (hkw.1 hk)
  have hr : rkindF s = if (parse3F s).2 ≠ 0 then 0 else (parse3F s).1.op := if_neg (fun h => hk (hkw.2 h))
  have hp : parse3F s = if (readF s).2 ≠ s.length then (t0, 4) else ((readF s).1, 0) := if_neg (by omega)
  have hbad : (readF s).2 ≠ s.length → rkindF s = 0 := fun h => by rw [hr, hp, if_pos h]; rfl
  by_cases h36 : pfx s [36] = true
  · have hkf : kindF s = if (numberF (s.drop 1)).2 = true ∧ (numberF (s.drop 1)).1 < 4 then 2 else 0 := by
      unfold kindF; rw [if_neg hk, if_pos h36]
    have hrf : readF s = if (numR s 1).2 < 0 ∨ (numR s 1).1.n > 3 then (t0, -1) else (.mk 2 (numR s 1).1.n [], (numR s 1).2) := if_pos h36
    have h1 : 1 ≤ s.length := by have := pfx_len (of_decide_eq_true h36); simpa using this
    rcases num_same (s.drop 1) (byteAt s 1 = 48) (by rw [byte_drop]) with ⟨m, e1, e2, e3, e4⟩ | ⟨e1, e2⟩
    · have e5 := numR_l e1 e2 e3
      simp only [List.length_drop] at e5
      rw [e4] at hkf
      have g1 : (numR s 1).1.n = m := by rw [e5]; rfl
      have g2 : (numR s 1).2 = ((1 + (s.length - 1) : Nat) : Int) := by rw [e5]
      by_cases hm : m < 4
      · rw [if_pos ⟨rfl, hm⟩] at hkf
        rw [if_neg (by rw [g1, g2]; omega), g1, g2] at hrf
        rw [hrf, if_neg (by simp; omega)] at hp
        refine ⟨?_, fun h => by omega, fun _ => ?_⟩
        · rw [hr, hp, hkf]; rfl
        · rw [hp, e4]
      · rw [if_neg (fun h => hm h.2)] at hkf
        rw [if_pos (Or.inr (by rw [g1]; omega))] at hrf
        refine ⟨?_, fun h => by omega, fun h => by omega⟩
        rw [hkf]
        exact hbad (by rw [hrf]; simp; try omega)
    · rw [if_neg (fun h => by rw [e1] at h; exact absurd h.1 (by decide))] at hkf
      refine ⟨?_, fun h => by omega, fun h => by omega⟩
      rw [hkf]
      refine hbad ?_
      rw [hrf]
      have := numR_no e2 h1
      split
      · simp
        try omega
      · exact this
  · have hkf : kindF s = if (numberF s).2 = true then 1 else 0 := by
      unfold kindF; rw [if_neg hk, if_neg h36]
    have hrf : readF s = numR s 0 := if_neg h36
    rcases num_same (s.drop 0) (byteAt s 0 = 48) (by rw [List.drop_zero]) with ⟨m, e1, e2, e3, e4⟩ | ⟨e1, e2⟩
    · have e5 := numR_l e1 e2 e3
      rw [List.drop_zero] at e4 e5
      rw [e4, if_pos rfl] at hkf
      rw [hrf, e5, if_neg (by simp)] at hp
      refine ⟨?_, fun _ => ?_, fun h => by omega⟩
      · rw [hr, hp, hkf]; rfl
      · rw [hp, e4]
    · rw [List.drop_zero] at e1
      rw [if_neg (fun h => by rw [e1] at h; exact absurd h (by decide))] at hkf
      refine ⟨?_, fun h => by omega, fun h => by omega⟩
      rw [hkf]
      exact hbad (by rw [hrf]; exact numR_no e2 (Nat.zero_le _))
theorem pfx0 (x : UInt8) (l : Str) : pfx [] (x :: l) = false := by simp [pfx]
theorem pfx1 (a x : UInt8) (l : Str) : pfx (a :: l) [x] = decide (x = a) := by simp [pfx]
theorem pfx2 (a b x y : UInt8) (l : Str) : pfx (a :: b :: l) [x, y] = (decide (x = a) && decide (y = b)) := by simp [pfx]
theorem pfx21 (a x y : UInt8) : pfx [a] [x, y] = false := by simp [pfx]
def firstSign (s : Str) : Str := if idxF (fun x => pfx s x) signs 0 < 0 then [] else gt signs (idxF (fun x => pfx s x) signs 0).toNat
theorem sign_same (s : Str) : signF s = firstSign s := by
  match s with
  | [] => simp [signF, sigF, rsigns, firstSign, signs, idxF, pfx0]
  | [a] =>
    by_cases h1 : a = 33
    · subst h1; decide
    by_cases h2 : a = 60
    · subst h2; decide
    by_cases h3 : a = 62
    · subst h3; decide
    by_cases h4 : a = 43
    · subst h4; decide
    by_cases h5 : a = 45
    · subst h5; decide
    by_cases h6 : a = 42
    · subst h6; decide
    by_cases h7 : a = 47
    · subst h7; decide
    by_cases h8 : a = 37
    · subst h8; decide
    by_cases h9 : a = 61
    · subst h9; decide
    by_cases h10 : a = 40
    · subst h10; decide
    by_cases h11 : a = 41
    · subst h11; decide
    simp [signF, sigF, rsigns, firstSign, signs, idxF, pfx1, pfx21, Ne.symm h1, Ne.symm h2, Ne.symm h3, Ne.symm h4, Ne.symm h5, Ne.symm h6, Ne.symm h7, Ne.symm h8, Ne.symm h9, Ne.symm h10, Ne.symm h11]
  | a :: b :: l =>
    simp only [signF, sigF, rsigns, firstSign, signs, idxF, pfx1, pfx2]
    by_cases h1 : a = 33
    · subst h1
      by_cases hb : b = 61
      · subst hb; rfl
      · have hb' : ¬ (61 : UInt8) = b := fun h => hb h.symm
        simp [hb']
    by_cases h2 : a = 60
    · subst h2
      by_cases hb : b = 61
      · subst hb; rfl
      · have hb' : ¬ (61 : UInt8) = b := fun h => hb h.symm
        simp [hb', gt]
    by_cases h3 : a = 62
    · subst h3
      by_cases hb : b = 61
      · subst hb; rfl
      · have hb' : ¬ (61 : UInt8) = b := fun h => hb h.symm
        simp [hb', gt]
    by_cases h4 : a = 43
    · subst h4; rfl
    by_cases h5 : a = 45
    · subst h5; rfl
    by_cases h6 : a = 42
    · subst h6; rfl
    by_cases h7 : a = 47
    · subst h7; rfl
    by_cases h8 : a = 37
    · subst h8; rfl
    by_cases h9 : a = 61
    · subst h9; rfl
    by_cases h10 : a = 40
    · subst h10; rfl
    by_cases h11 : a = 41
    · subst h11; rfl
    simp [Ne.symm h1, Ne.symm h2, Ne.symm h3, Ne.symm h4, Ne.symm h5, Ne.symm h6, Ne.symm h7, Ne.symm h8, Ne.symm h9, Ne.symm h10, Ne.symm h11]
end Go.Eng
open Go Go.Proofs
namespace Go.Eng
set_option linter.unusedSimpArgs false
set_option linter.unusedVariables false
set_option maxRecDepth 100000
set_option maxHeartbeats 4000000

theorem first_same (s : Str) (hs : s.length ≤ 20000) : ((firstF s).kind = 0 ↔ (rfirst s).kind = 0 ∨ (rfirst s).text = []) ∧ ((firstF s).kind ≠ 0 → (rfirst s).kind = (firstF s).kind ∧ (rfirst s).text = (firstF s).text) := by
  by_cases hj : 0 < joinN s
  · have hf : firstF s = ⟨kindF (s.take (joinN s)), 0, s.take (joinN s)⟩ := if_pos hj
    have hr : rfirst s = ⟨rkindF (s.take (joinN s)), 0, s.take (joinN s)⟩ := if_pos hj
    have hl := joinN_le s
    have hk := (kind_same (s.take (joinN s)) (by rw [List.length_take]; omega)).1
    have hne : s.take (joinN s) ≠ [] := by
      intro h
      have := congrArg List.length h
      rw [List.length_take, List.length_nil] at this
      omega
    rw [hf, hr, hk]
    exact ⟨⟨fun h => .inl h, fun h => h.elim id (fun h => (hne h).elim)⟩, fun _ => ⟨rfl, rfl⟩⟩
  · have hr : rfirst s = ⟨4, 0, signF s⟩ := if_neg hj
    rw [hr, sign_same]
    by_cases hi : idxF (fun x => pfx s x) signs 0 < 0
    · have hf : firstF s = ⟨0, 0, []⟩ := by unfold firstF; rw [if_neg hj, if_pos hi]
      have hg : firstSign s = [] := if_pos hi
      rw [hf, hg]
      exact ⟨by simp, fun h => (h rfl).elim⟩
    · have hf : firstF s = ⟨4, 0, gt signs (idxF (fun x => pfx s x) signs 0).toNat⟩ := by unfold firstF; rw [if_neg hj, if_neg hi]
      have hg : firstSign s = gt signs (idxF (fun x => pfx s x) signs 0).toNat := if_neg hi
      have hlt := (idxF_lt (p := fun x => pfx s x) (l := signs) (i := 0)).1
      have h6 : ∀ x ∈ signs, x ≠ [] := by decide
      have h7 := h6 _ (gt_mem (l := signs) (i := (idxF (fun x => pfx s x) signs 0).toNat) (by rw [show signs.length = 13 from rfl] at *; omega))
      rw [hf, hg]
      exact ⟨by simp [h7], fun _ => ⟨rfl, rfl⟩⟩
theorem tokL_same : ∀ (n : Nat) (l : Str) (i : Nat), l.length ≤ n → l.length ≤ 20000 → tokL l i = readL l i
  | n, [], i, _, _ => by rw [tokL, readL]
  | 0, c :: r, i, h, _ => by simp at h
  | n + 1, c :: r, i, h, h2 => by
    simp only [List.length_cons] at h
    rw [tokL, readL]
    split
    · exact tokL_same n r (i + 1) (by omega) (by simp only [List.length_cons] at h2; omega)
    · obtain ⟨f1, f2⟩ := first_same (c :: r) h2
      by_cases hk : (firstF (c :: r)).kind = 0
      · rw [if_pos hk, if_pos (f1.1 hk)]
      · obtain ⟨g1, g2⟩ := f2 hk
        rw [if_neg hk, if_neg (fun h => hk (f1.2 h)), g1, g2]
        have ih := tokL_same n (r.drop ((firstF (c :: r)).text.length - 1)) (i + (firstF (c :: r)).text.length) (by simp; omega) (by simp only [List.length_cons] at h2; simp; omega)
        rw [ih]
theorem tokens_same (s : Str) (hs : s.length ≤ 20000) : tokensF s = if 0 ≤ (readR s).2 then ([], (readR s).2, 4) else ((readR s).1, 0, 0) := by
  have h := tokL_same s.length s 0 (Nat.le_refl _) hs
  unfold tokensF readR
  rw [if_neg (by omega), h]
  split
  · rename_i l e; rw [e]; simp
  · rename_i l i e; rw [e]; simp
theorem readR_neg (s : Str) (h : ¬ 0 ≤ (readR s).2) : (readR s).2 = -1 := by
  unfold readR at h ⊢
  split
  · rfl
  · rename_i l i e; rw [e] at h; simp at h
theorem law3_ok (s : Str) (hs : s.length ≤ 140737488351232) : AFn env 3 [aS s] [] (aB true) [] := by
  have htok := tokens_ok s
  by_cases h20 : s.length > 20000
  · rw [show tokensF s = ([], 0, 2) by unfold tokensF; rw [if_pos h20]] at htok
    refine afn_body Tryd.func3 rfl (by decide) ?_
    simp only [Tryd.ntmps3, Tryd.results3, List.length_cons, List.length_nil, List.cons_append, List.nil_append, Nat.reduceAdd, Nat.reduceSub, List.replicate]
    repeat' first
    | with_reducible refine awp_seq ?_
    | ((with_reducible refine awp_region ?_); refine zS ?_)
    | ((with_reducible refine Gd_nd ?_ ?_) <;> intro hb hb2 <;> first | contradiction | (exfalso; omega) | (refine zH hb2 ?_; try clear hb2))
    | ((with_reducible refine Gd_nb ?_ ?_) <;> intro hb <;> first | contradiction | refine zH hb ?_)
    | ((with_reducible refine Gd_d ?_ ?_) <;> intro hb hb2 <;> first | contradiction | (exfalso; omega) | (refine zH hb2 ?_; try clear hb2))
    | ((with_reducible refine Gd_b ?_ ?_) <;> intro hb <;> first | contradiction | refine zH hb ?_)
    | ((with_reducible refine Res_id ?_); refine zS ?_)
    | ((with_reducible refine awp_drawnC ?_ ?_); rfl; refine zS ?_)
    | ((with_reducible refine awp_drawnA ?_ ?_); rfl; refine zS ?_)
    | ((with_reducible refine CGd_nd ?_ ?_) <;> intro hb hb2 <;> first | contradiction | (exfalso; omega) | (refine zH hb2 ?_; try clear hb2))
    | ((with_reducible refine CGd_nb ?_ ?_) <;> intro hb <;> first | contradiction | refine zH hb ?_)
    | ((with_reducible refine CGd_d ?_ ?_) <;> intro hb hb2 <;> first | contradiction | (exfalso; omega) | (refine zH hb2 ?_; try clear hb2))
    | ((with_reducible refine CGd_b ?_ ?_) <;> intro hb <;> first | contradiction | refine zH hb ?_)
    | ((with_reducible refine CRes_id ?_); refine zS ?_)
    | ((with_reducible refine DStep_id ?_); refine zdP ?_; refine ⟨_, by first | exact htok | exact mixed_ok | fail, fun _ => rfl, fun _ => rfl, rfl, (fun h => by first | cases h | fail), ?_⟩; try refine zS ?_)
    | ((with_reducible refine DStep_id ?_); refine zdW ?_; refine ⟨_, by first | exact htok | exact mixed_ok | fail, fun _ => rfl, fun _ => rfl, rfl, ?_⟩; try refine zS ?_)
    | ((with_reducible refine AWP_c ?_); refine zcdT ?_)
    | ((with_reducible refine AWP_c ?_); refine zcdF ?_)
    | ((with_reducible refine AWP_c ?_); refine zcdN ?_ ?_ <;> intro hb hb2 <;> first | contradiction | (exfalso; omega) | ((try refine zH hb2 ?_); try clear hb2))
    | ((with_reducible refine AWP_c ?_); refine zcdD ?_ ?_ <;> intro hb hb2 <;> first | contradiction | (exfalso; omega) | ((try refine zH hb2 ?_); try clear hb2))
    | ((with_reducible refine AWP_c ?_); refine zcdM ?_ ?_ <;> intro hb <;> first | contradiction | (try refine zH hb ?_))
    | ((with_reducible refine AWP_c ?_); refine zcdB ?_ ?_ <;> intro hb <;> first | contradiction | (try refine zH hb ?_))
    | ((with_reducible refine awp_ret ?_); refine fin_r ?_)
    | ((with_reducible refine awp_ret ?_); refine fin_q ?_ ?_)
    | with_reducible refine fin_qn ?_ ?_
    | ((with_reducible refine awp_skip ?_); refine zS ?_)
    | with_reducible refine awp_block ?_
    | ((with_reducible refine awp_exit ?_); refine zS ?_)
    | ((with_reducible refine CallK_id ?_); refine zcF ?_; refine ⟨_, by first | exact htok | exact mixed_ok | fail, fun _ => rfl, fun _ => rfl, rfl, ?_⟩; try refine zS ?_)
    | exact True.intro
    | fail
    all_goals rfl
  by_cases h4 : s.length > 4000
  · skip
    refine afn_body Tryd.func3 rfl (by decide) ?_
    simp only [Tryd.ntmps3, Tryd.results3, List.length_cons, List.length_nil, List.cons_append, List.nil_append, Nat.reduceAdd, Nat.reduceSub, List.replicate]
    repeat' first
    | with_reducible refine awp_seq ?_
    | ((with_reducible refine awp_region ?_); refine zS ?_)
    | ((with_reducible refine Gd_nd ?_ ?_) <;> intro hb hb2 <;> first | contradiction | (exfalso; omega) | (refine zH hb2 ?_; try clear hb2))
    | ((with_reducible refine Gd_nb ?_ ?_) <;> intro hb <;> first | contradiction | refine zH hb ?_)
    | ((with_reducible refine Gd_d ?_ ?_) <;> intro hb hb2 <;> first | contradiction | (exfalso; omega) | (refine zH hb2 ?_; try clear hb2))
    | ((with_reducible refine Gd_b ?_ ?_) <;> intro hb <;> first | contradiction | refine zH hb ?_)
    | ((with_reducible refine Res_id ?_); refine zS ?_)
    | ((with_reducible refine awp_drawnC ?_ ?_); rfl; refine zS ?_)
    | ((with_reducible refine awp_drawnA ?_ ?_); rfl; refine zS ?_)
    | ((with_reducible refine CGd_nd ?_ ?_) <;> intro hb hb2 <;> first | contradiction | (exfalso; omega) | (refine zH hb2 ?_; try clear hb2))
    | ((with_reducible refine CGd_nb ?_ ?_) <;> intro hb <;> first | contradiction | refine zH hb ?_)
    | ((with_reducible refine CGd_d ?_ ?_) <;> intro hb hb2 <;> first | contradiction | (exfalso; omega) | (refine zH hb2 ?_; try clear hb2))
    | ((with_reducible refine CGd_b ?_ ?_) <;> intro hb <;> first | contradiction | refine zH hb ?_)
    | ((with_reducible refine CRes_id ?_); refine zS ?_)
    | ((with_reducible refine DStep_id ?_); refine zdP ?_; refine ⟨_, by first | exact tokens_ok s | exact mixed_ok | fail, fun _ => rfl, fun _ => rfl, rfl, (fun h => by first | cases h | fail), ?_⟩; try refine zS ?_)
    | ((with_reducible refine DStep_id ?_); refine zdW ?_; refine ⟨_, by first | exact tokens_ok s | exact mixed_ok | fail, fun _ => rfl, fun _ => rfl, rfl, ?_⟩; try refine zS ?_)
    | ((with_reducible refine AWP_c ?_); refine zcdT ?_)
    | ((with_reducible refine AWP_c ?_); refine zcdF ?_)
    | ((with_reducible refine AWP_c ?_); refine zcdN ?_ ?_ <;> intro hb hb2 <;> first | contradiction | (exfalso; omega) | ((try refine zH hb2 ?_); try clear hb2))
    | ((with_reducible refine AWP_c ?_); refine zcdD ?_ ?_ <;> intro hb hb2 <;> first | contradiction | (exfalso; omega) | ((try refine zH hb2 ?_); try clear hb2))
    | ((with_reducible refine AWP_c ?_); refine zcdM ?_ ?_ <;> intro hb <;> first | contradiction | (try refine zH hb ?_))
    | ((with_reducible refine AWP_c ?_); refine zcdB ?_ ?_ <;> intro hb <;> first | contradiction | (try refine zH hb ?_))
    | ((with_reducible refine awp_ret ?_); refine fin_r ?_)
    | ((with_reducible refine awp_ret ?_); refine fin_q ?_ ?_)
    | with_reducible refine fin_qn ?_ ?_
    | ((with_reducible refine awp_skip ?_); refine zS ?_)
    | with_reducible refine awp_block ?_
    | ((with_reducible refine awp_exit ?_); refine zS ?_)
    | ((with_reducible refine CallK_id ?_); refine zcF ?_; refine ⟨_, by first | exact tokens_ok s | exact mixed_ok | fail, fun _ => rfl, fun _ => rfl, rfl, ?_⟩; try refine zS ?_)
    | exact True.intro
    | fail
    all_goals rfl
  rw [tokens_same s (by omega)] at htok
  have hread := read_all_ok s (by omega)
  have hll := (readR_okP s).2
  by_cases hb : 0 ≤ (readR s).2
  · rw [if_pos hb] at htok
    refine afn_body Tryd.func3 rfl (by decide) ?_
    simp only [Tryd.ntmps3, Tryd.results3, List.length_cons, List.length_nil, List.cons_append, List.nil_append, Nat.reduceAdd, Nat.reduceSub, List.replicate]
    repeat' first
    | with_reducible refine awp_seq ?_
    | ((with_reducible refine awp_region ?_); refine zS ?_)
    | ((with_reducible refine Gd_nd ?_ ?_) <;> intro hb hb2 <;> first | contradiction | (exfalso; omega) | (refine zH hb2 ?_; try clear hb2))
    | ((with_reducible refine Gd_nb ?_ ?_) <;> intro hb <;> first | contradiction | refine zH hb ?_)
    | ((with_reducible refine Gd_d ?_ ?_) <;> intro hb hb2 <;> first | contradiction | (exfalso; omega) | (refine zH hb2 ?_; try clear hb2))
    | ((with_reducible refine Gd_b ?_ ?_) <;> intro hb <;> first | contradiction | refine zH hb ?_)
    | ((with_reducible refine Res_id ?_); refine zS ?_)
    | ((with_reducible refine awp_drawnC ?_ ?_); rfl; refine zS ?_)
    | ((with_reducible refine awp_drawnA ?_ ?_); rfl; refine zS ?_)
    | ((with_reducible refine CGd_nd ?_ ?_) <;> intro hb hb2 <;> first | contradiction | (exfalso; omega) | (refine zH hb2 ?_; try clear hb2))
    | ((with_reducible refine CGd_nb ?_ ?_) <;> intro hb <;> first | contradiction | refine zH hb ?_)
    | ((with_reducible refine CGd_d ?_ ?_) <;> intro hb hb2 <;> first | contradiction | (exfalso; omega) | (refine zH hb2 ?_; try clear hb2))
    | ((with_reducible refine CGd_b ?_ ?_) <;> intro hb <;> first | contradiction | refine zH hb ?_)
    | ((with_reducible refine CRes_id ?_); refine zS ?_)
    | ((with_reducible refine DStep_id ?_); refine zdP ?_; refine ⟨_, by first | exact htok | exact hread | exact mixed_ok | fail, fun _ => rfl, fun _ => rfl, rfl, (fun h => by first | cases h | fail), ?_⟩; try refine zS ?_)
    | ((with_reducible refine DStep_id ?_); refine zdW ?_; refine ⟨_, by first | exact htok | exact hread | exact mixed_ok | fail, fun _ => rfl, fun _ => rfl, rfl, ?_⟩; try refine zS ?_)
    | ((with_reducible refine AWP_c ?_); refine zcdT ?_)
    | ((with_reducible refine AWP_c ?_); refine zcdF ?_)
    | ((with_reducible refine AWP_c ?_); refine zcdN ?_ ?_ <;> intro hb hb2 <;> first | contradiction | (exfalso; omega) | ((try refine zH hb2 ?_); try clear hb2))
    | ((with_reducible refine AWP_c ?_); refine zcdD ?_ ?_ <;> intro hb hb2 <;> first | contradiction | (exfalso; omega) | ((try refine zH hb2 ?_); try clear hb2))
    | ((with_reducible refine AWP_c ?_); refine zcdM ?_ ?_ <;> intro hb <;> first | contradiction | (try refine zH hb ?_))
    | ((with_reducible refine AWP_c ?_); refine zcdB ?_ ?_ <;> intro hb <;> first | contradiction | (try refine zH hb ?_))
    | ((with_reducible refine awp_ret ?_); refine fin_r ?_)
    | ((with_reducible refine awp_ret ?_); refine fin_q ?_ ?_)
    | with_reducible refine fin_qn ?_ ?_
    | ((with_reducible refine awp_skip ?_); refine zS ?_)
    | with_reducible refine awp_block ?_
    | ((with_reducible refine awp_exit ?_); refine zS ?_)
    | ((with_reducible refine CallK_id ?_); refine zcF ?_; refine ⟨_, by first | exact htok | exact hread | exact mixed_ok | fail, fun _ => rfl, fun _ => rfl, rfl, ?_⟩; try refine zS ?_)
    | exact True.intro
    | fail
    all_goals rfl
  · rw [if_neg hb] at htok
    generalize (readR s).1 = l at *
    generalize (readR s).2 = r at *
    refine afn_body Tryd.func3 rfl (by decide) ?_
    simp only [Tryd.ntmps3, Tryd.results3, List.length_cons, List.length_nil, List.cons_append, List.nil_append, Nat.reduceAdd, Nat.reduceSub, List.replicate]
    repeat' first
    | with_reducible refine awp_seq ?_
    | ((with_reducible refine awp_region ?_); refine zS ?_)
    | ((with_reducible refine Gd_nd ?_ ?_) <;> intro hb hb2 <;> first | contradiction | (exfalso; omega) | (refine zH hb2 ?_; try clear hb2))
    | ((with_reducible refine Gd_nb ?_ ?_) <;> intro hb <;> first | contradiction | refine zH hb ?_)
    | ((with_reducible refine Gd_d ?_ ?_) <;> intro hb hb2 <;> first | contradiction | (exfalso; omega) | (refine zH hb2 ?_; try clear hb2))
    | ((with_reducible refine Gd_b ?_ ?_) <;> intro hb <;> first | contradiction | refine zH hb ?_)
    | ((with_reducible refine Res_id ?_); refine zS ?_)
    | ((with_reducible refine awp_drawnC ?_ ?_); rfl; refine zS ?_)
    | ((with_reducible refine awp_drawnA ?_ ?_); rfl; refine zS ?_)
    | ((with_reducible refine CGd_nd ?_ ?_) <;> intro hb hb2 <;> first | contradiction | (exfalso; omega) | (refine zH hb2 ?_; try clear hb2))
    | ((with_reducible refine CGd_nb ?_ ?_) <;> intro hb <;> first | contradiction | refine zH hb ?_)
    | ((with_reducible refine CGd_d ?_ ?_) <;> intro hb hb2 <;> first | contradiction | (exfalso; omega) | (refine zH hb2 ?_; try clear hb2))
    | ((with_reducible refine CGd_b ?_ ?_) <;> intro hb <;> first | contradiction | refine zH hb ?_)
    | ((with_reducible refine CRes_id ?_); refine zS ?_)
    | ((with_reducible refine DStep_id ?_); refine zdP ?_; refine ⟨_, by first | exact htok | exact hread | exact mixed_ok | fail, fun _ => rfl, fun _ => rfl, rfl, (fun h => by first | cases h | fail), ?_⟩; try refine zS ?_)
    | ((with_reducible refine DStep_id ?_); refine zdW ?_; refine ⟨_, by first | exact htok | exact hread | exact mixed_ok | fail, fun _ => rfl, fun _ => rfl, rfl, ?_⟩; try refine zS ?_)
    | ((with_reducible refine AWP_c ?_); refine zcdT ?_)
    | ((with_reducible refine AWP_c ?_); refine zcdF ?_)
    | ((with_reducible refine AWP_c ?_); refine zcdN ?_ ?_ <;> intro hb hb2 <;> first | contradiction | (exfalso; omega) | ((try refine zH hb2 ?_); try clear hb2))
    | ((with_reducible refine AWP_c ?_); refine zcdD ?_ ?_ <;> intro hb hb2 <;> first | contradiction | (exfalso; omega) | ((try refine zH hb2 ?_); try clear hb2))
    | ((with_reducible refine AWP_c ?_); refine zcdM ?_ ?_ <;> intro hb <;> first | contradiction | (try refine zH hb ?_))
    | ((with_reducible refine AWP_c ?_); refine zcdB ?_ ?_ <;> intro hb <;> first | contradiction | (try refine zH hb ?_))
    | ((with_reducible refine awp_ret ?_); refine fin_r ?_)
    | ((with_reducible refine awp_ret ?_); refine fin_q ?_ ?_)
    | with_reducible refine fin_qn ?_ ?_
    | ((with_reducible refine awp_skip ?_); refine zS ?_)
    | with_reducible refine awp_block ?_
    | ((with_reducible refine awp_exit ?_); refine zS ?_)
    | ((with_reducible refine CallK_id ?_); refine zcF ?_; refine ⟨_, by first | exact htok | exact hread | exact mixed_ok | fail, fun _ => rfl, fun _ => rfl, rfl, ?_⟩; try refine zS ?_)
    | exact True.intro
    | fail
    refine awp_loopT (fun i : Nat => i ≤ l.length) (fun i => l.length - i) (fun i => [(8, .any), (10, .any), (72, aI i)]) (fun i => [some (.box [.d (.fz (l.map Tok.row)), .d (dI r)])]) 0 (by simp) (wk_le (by simp only [go_sem, Bool.not_not, List.mem_singleton, forall_eq, ↓reduceIte, if_pos, rowsAt_map, wrap64, wrapu8, List.getElem?_cons_zero, List.getElem?_cons_succ, Int.reduceToNat, Nat.reduceAdd, Nat.reduceBEq, Bool.or_false, Bool.false_or, Bool.true_or, Nat.reduceSub, Nat.reduceMul, Int.reduceAdd, Int.reduceEq, Int.reduceLT, Int.reduceLE, Int.reduceNeg, Nat.reduceLT, Nat.reduceLeDiff]; try simp) (by simp only [go_sem, Bool.not_not, List.mem_singleton, forall_eq, ↓reduceIte, if_pos, rowsAt_map, wrap64, wrapu8, List.getElem?_cons_zero, List.getElem?_cons_succ, Int.reduceToNat, Nat.reduceAdd, Nat.reduceBEq, Bool.or_false, Bool.false_or, Bool.true_or, Nat.reduceSub, Nat.reduceMul, Int.reduceAdd, Int.reduceEq, Int.reduceLT, Int.reduceLE, Int.reduceNeg, Nat.reduceLT, Nat.reduceLeDiff]; try simp)) ?_
    rintro i i1
    refine zT ?_
    repeat' first
    | with_reducible refine awp_seq ?_
    | ((with_reducible refine awp_region ?_); refine zS ?_)
    | ((with_reducible refine Gd_nd ?_ ?_) <;> intro hb hb2 <;> first | contradiction | (exfalso; omega) | (refine zH hb2 ?_; try clear hb2))
    | ((with_reducible refine Gd_nb ?_ ?_) <;> intro hb <;> first | contradiction | refine zH hb ?_)
    | ((with_reducible refine Gd_d ?_ ?_) <;> intro hb hb2 <;> first | contradiction | (exfalso; omega) | (refine zH hb2 ?_; try clear hb2))
    | ((with_reducible refine Gd_b ?_ ?_) <;> intro hb <;> first | contradiction | refine zH hb ?_)
    | ((with_reducible refine Res_id ?_); refine zS ?_)
    | ((with_reducible refine awp_drawnC ?_ ?_); rfl; refine zS ?_)
    | ((with_reducible refine awp_drawnA ?_ ?_); rfl; refine zS ?_)
    | ((with_reducible refine CGd_nd ?_ ?_) <;> intro hb hb2 <;> first | contradiction | (exfalso; omega) | (refine zH hb2 ?_; try clear hb2))
    | ((with_reducible refine CGd_nb ?_ ?_) <;> intro hb <;> first | contradiction | refine zH hb ?_)
    | ((with_reducible refine CGd_d ?_ ?_) <;> intro hb hb2 <;> first | contradiction | (exfalso; omega) | (refine zH hb2 ?_; try clear hb2))
    | ((with_reducible refine CGd_b ?_ ?_) <;> intro hb <;> first | contradiction | refine zH hb ?_)
    | ((with_reducible refine CRes_id ?_); refine zS ?_)
    | ((with_reducible refine DStep_id ?_); refine zdP ?_; refine ⟨_, by first | exact htok | exact hread | exact mixed_ok | fail, fun _ => rfl, fun _ => rfl, rfl, (fun h => by first | cases h | fail), ?_⟩; try refine zS ?_)
    | ((with_reducible refine DStep_id ?_); refine zdW ?_; refine ⟨_, by first | exact htok | exact hread | exact mixed_ok | fail, fun _ => rfl, fun _ => rfl, rfl, ?_⟩; try refine zS ?_)
    | ((with_reducible refine AWP_c ?_); refine zcdT ?_)
    | ((with_reducible refine AWP_c ?_); refine zcdF ?_)
    | ((with_reducible refine AWP_c ?_); refine zcdN ?_ ?_ <;> intro hb hb2 <;> first | contradiction | (exfalso; omega) | ((try refine zH hb2 ?_); try clear hb2))
    | ((with_reducible refine AWP_c ?_); refine zcdD ?_ ?_ <;> intro hb hb2 <;> first | contradiction | (exfalso; omega) | ((try refine zH hb2 ?_); try clear hb2))
    | ((with_reducible refine AWP_c ?_); refine zcdM ?_ ?_ <;> intro hb <;> first | contradiction | (try refine zH hb ?_))
    | ((with_reducible refine AWP_c ?_); refine zcdB ?_ ?_ <;> intro hb <;> first | contradiction | (try refine zH hb ?_))
    | ((with_reducible refine awp_ret ?_); refine fin_r ?_)
    | ((with_reducible refine awp_ret ?_); refine fin_q ?_ ?_)
    | with_reducible refine fin_qn ?_ ?_
    | ((with_reducible refine awp_skip ?_); refine zS ?_)
    | with_reducible refine awp_block ?_
    | ((with_reducible refine awp_exit ?_); refine zS ?_)
    | ((with_reducible refine CallK_id ?_); refine zcF ?_; refine ⟨_, by first | exact htok | exact hread | exact mixed_ok | fail, fun _ => rfl, fun _ => rfl, rfl, ?_⟩; try refine zS ?_)
    | exact True.intro
    | fail
    · exact ⟨i + 1, by omega, by omega, wk_cl 1 (by decide) (by simp) (by simp only [go_sem, Bool.not_not, List.mem_singleton, forall_eq, ↓reduceIte, if_pos, rowsAt_map, wrap64, wrapu8, List.getElem?_cons_zero, List.getElem?_cons_succ, Int.reduceToNat, Nat.reduceAdd, Nat.reduceBEq, Bool.or_false, Bool.false_or, Bool.true_or, Nat.reduceSub, Nat.reduceMul, Int.reduceAdd, Int.reduceEq, Int.reduceLT, Int.reduceLE, Int.reduceNeg, Nat.reduceLT, Nat.reduceLeDiff]; try simp) (by simp only [go_sem, Bool.not_not, List.mem_singleton, forall_eq, ↓reduceIte, if_pos, rowsAt_map, wrap64, wrapu8, List.getElem?_cons_zero, List.getElem?_cons_succ, Int.reduceToNat, Nat.reduceAdd, Nat.reduceBEq, Bool.or_false, Bool.false_or, Bool.true_or, Nat.reduceSub, Nat.reduceMul, Int.reduceAdd, Int.reduceEq, Int.reduceLT, Int.reduceLE, Int.reduceNeg, Nat.reduceLT, Nat.reduceLeDiff]; try simp)⟩
    · rfl
end Go.Eng
open Go Go.Proofs
namespace Go.Eng
set_option linter.unusedSimpArgs false
set_option linter.unusedVariables false
set_option maxRecDepth 100000
set_option maxHeartbeats 4000000

def Sim (l : List Tok) (e : Int) (q : PR) (g : Gt) : Prop := if g.bd < 0 then q = (g.t, l.drop g.nx, -1) ∧ g.nx ≤ l.length ∧ g.bd = -1 else q.2.2 = atF (l.drop g.bd.toNat) e ∧ 0 ≤ q.2.2
theorem sim_ok {l : List Tok} {e : Int} {q : PR} {g : Gt} (h1 : g.bd < 0) (h : q = (g.t, l.drop g.nx, -1)) (h2 : g.nx ≤ l.length) (h3 : g.bd = -1) : Sim l e q g := by unfold Sim; rw [if_pos h1]; exact ⟨h, h2, h3⟩
theorem sim_bad {l : List Tok} {e : Int} {q : PR} {g : Gt} (h1 : ¬ g.bd < 0) (h : q.2.2 = atF (l.drop g.bd.toNat) e) (h2 : 0 ≤ q.2.2) : Sim l e q g := by unfold Sim; rw [if_neg h1]; exact ⟨h, h2⟩
theorem Sim.ok {l : List Tok} {e : Int} {q : PR} {g : Gt} (h : Sim l e q g) (h1 : g.bd < 0) : q = (g.t, l.drop g.nx, -1) ∧ g.nx ≤ l.length ∧ g.bd = -1 := by unfold Sim at h; rwa [if_pos h1] at h
theorem Sim.bad {l : List Tok} {e : Int} {q : PR} {g : Gt} (h : Sim l e q g) (h1 : ¬ g.bd < 0) : q.2.2 = atF (l.drop g.bd.toNat) e ∧ 0 ≤ q.2.2 := by unfold Sim at h; rwa [if_neg h1] at h
theorem gt_drop {α : Type} [Inhabited α] (l : List α) (i j : Nat) : gt (l.drop i) j = gt l (i + j) := by simp [gt, List.getD]
theorem isF_G (l : List Tok) (i : Nat) (x : Str) : isF (l.drop i) x = isG l i x := by
  unfold isF isG
  rw [gt_drop, Nat.add_zero]
  congr 1
  simp only [List.length_drop, decide_eq_decide]
  omega
theorem drop1 (l : List Tok) (i : Nat) : (l.drop i).drop 1 = l.drop (i + 1) := by rw [List.drop_drop]
theorem loopF_bad {n : Nat} {e r : Int} {t : T} {l : List Tok} {b : Int} (h : ¬ b < 0) : loopF n e r t l b = (t, l, b) := by
  cases n with
  | zero => rw [loopF]
  | succ n => rw [loopF, if_neg h]
def btwOf (r : Int) (x : Str) : Option Btw := betweens.find? fun b => decide (b.row = r) && decide (b.text = x)
theorem nextF_of (r : Int) (l : List Tok) (i : Nat) : nextF r (l.drop i) = if i < l.length then btwOf r (gt l i).text else none := by
  unfold nextF btwOf
  generalize betweens = bs
  by_cases hi : i < l.length
  · rw [if_pos hi]
    induction bs with
    | nil => rfl
    | cons b bs ih =>
      rw [findB, List.find?_cons, isF_G, ih]
      have : isG l i b.text = decide (b.text = (gt l i).text) := by
        unfold isG; rw [decide_eq_true hi, Bool.true_and]; exact decide_eq_decide.2 eq_comm
      rw [this]
      by_cases h1 : b.row = r <;> by_cases h2 : b.text = (gt l i).text <;> simp [h1, h2]
  · rw [if_neg hi]
    induction bs with
    | nil => rfl
    | cons b bs ih =>
      rw [findB, isF_G, isG_ge hi, ih]; simp
theorem btw_op {r : Int} (hr : r = 1 ∨ r = 2 ∨ r = 5 ∨ r = 6) (x : Str) : (btwOf r x = none ∧ opF x r = 0) ∨ ∃ w, btwOf r x = some w ∧ opF x r ≠ 0 ∧ ∀ a b, combF w a b = .mk (opF x r) 0 [a, b] := by
  rcases hr with rfl | rfl | rfl | rfl
  · by_cases h1 : x = [111, 114]
    · subst h1; exact .inr ⟨_, rfl, by decide, fun a b => rfl⟩
    · left; simp [btwOf, betweens, opF, h1, Ne.symm h1]
  · by_cases h1 : x = [97, 110, 100]
    · subst h1; exact .inr ⟨_, rfl, by decide, fun a b => rfl⟩
    · left; simp [btwOf, betweens, opF, h1, Ne.symm h1]
  · by_cases h1 : x = [43]
    · subst h1; exact .inr ⟨_, rfl, by decide, fun a b => rfl⟩
    · by_cases h2 : x = [45]
      · subst h2; exact .inr ⟨_, rfl, by decide, fun a b => rfl⟩
      · left; simp [btwOf, betweens, opF, h1, Ne.symm h1, h2, Ne.symm h2]
  · by_cases h1 : x = [42]
    · subst h1; exact .inr ⟨_, rfl, by decide, fun a b => rfl⟩
    · by_cases h2 : x = [47]
      · subst h2; exact .inr ⟨_, rfl, by decide, fun a b => rfl⟩
      · by_cases h3 : x = [37]
        · subst h3; exact .inr ⟨_, rfl, by decide, fun a b => rfl⟩
        · left; simp [btwOf, betweens, opF, h1, Ne.symm h1, h2, Ne.symm h2, h3, Ne.symm h3]
theorem btw_cmp (x : Str) : (btwOf 4 x = none ∧ cmpB x = false) ∨ ∃ w, btwOf 4 x = some w ∧ cmpB x = true ∧ ∀ a b, combF w a b = cmpT x a b := by
  by_cases h1 : x = [61]
  · subst h1; exact .inr ⟨_, rfl, by decide, fun a b => rfl⟩
  by_cases h2 : x = [33, 61]
  · subst h2; exact .inr ⟨_, rfl, by decide, fun a b => rfl⟩
  by_cases h3 : x = [60]
  · subst h3; exact .inr ⟨_, rfl, by decide, fun a b => rfl⟩
  by_cases h4 : x = [60, 61]
  · subst h4; exact .inr ⟨_, rfl, by decide, fun a b => rfl⟩
  by_cases h5 : x = [62]
  · subst h5; exact .inr ⟨_, rfl, by decide, fun a b => rfl⟩
  by_cases h6 : x = [62, 61]
  · subst h6; exact .inr ⟨_, rfl, by decide, fun a b => rfl⟩
  left
  constructor
  · simp [btwOf, betweens, Ne.symm h1, Ne.symm h2, Ne.symm h3, Ne.symm h4, Ne.symm h5, Ne.symm h6]
  · simp [cmpB, h1, h2, h3, h4, h5, h6]
def GG (m : Nat) (l : List Tok) (i : Nat) (r : Int) : Gt := if r = 4 then cmpG m l i else rowG m l i r
structure OkT (l : List Tok) : Prop where
  pos : ∀ t ∈ l, 0 ≤ t.pos
  kind : ∀ t ∈ l, 1 ≤ t.kind
  num : ∀ t ∈ l, t.kind = 1 → (parse3F t.text).1 = .mk 1 (numberF t.text).1 []
  var : ∀ t ∈ l, t.kind = 2 → (parse3F t.text).1 = .mk 2 (numberF (t.text.drop 1)).1 []
theorem atF_pos {l : List Tok} (h : OkT l) {e : Int} (he : 0 ≤ e) (i : Nat) : 0 ≤ atF (l.drop i) e := by
  unfold atF
  split
  · rename_i hl
    exact h.pos _ (List.mem_of_mem_drop (gt_mem hl))
  · exact he
theorem sim_fail {l : List Tok} (h : OkT l) {e : Int} (he : 0 ≤ e) (i : Nat) (t : T) (l' : List Tok) : Sim l e (t, l', failF (l.drop i) e (-1)) (badG i) := by
  have hf : failF (l.drop i) e (-1) = atF (l.drop i) e := if_pos (by decide)
  refine sim_bad (by simp only [badG]; omega) ?_ ?_
  · simp only [hf, badG, Int.toNat_natCast]
  · simp only [hf]; exact atF_pos h he i
section
variable (l : List Tok) (e : Int) (hT : OkT l) (he : 0 ≤ e)
def SimAt (l : List Tok) (e : Int) (i : Nat) (r : Int) : Prop := ∀ n m : Nat, 20 * ((l.length : Int) - i) + 2 * (9 - r) ≤ n → 20 * ((l.length : Int) - i) + 2 * (9 - r) ≤ m → Sim l e (rowF n e r (l.drop i) (-1)) (GG m l i r)
theorem sim_loop (r : Int) (hr : r = 1 ∨ r = 2 ∨ r = 5 ∨ r = 6) : ∀ (k j : Nat), k = l.length - j → j ≤ l.length → (∀ i', j < i' → i' ≤ l.length → SimAt l e i' (r + 1)) → ∀ (n m : Nat) (t : T),
    20 * ((l.length : Int) - j) + 2 * (9 - r) - 1 ≤ n → 20 * ((l.length : Int) - j) + 2 * (9 - r) - 2 ≤ m → Sim l e (loopF n e r t (l.drop j) (-1)) (loopG m l ⟨t, j, -1⟩ r) := by
  intro k
  induction k using Nat.strongRecOn with
  | _ k ih =>
    intro j hk hj hrow n m t hn hm
    obtain ⟨n, rfl⟩ : ∃ n', n = n' + 1 := ⟨n - 1, by omega⟩
    have hr4 : ¬ r = 4 := by omega
    have hgg : ∀ m i, GG m l i (r + 1) = rowG m l i (r + 1) := fun m i => if_neg (by omega)
    rw [loopF, if_pos (by decide), nextF_of]
    have hnone : (¬ j < l.length ∨ opF (gt l j).text r = 0) → Sim l e (t, l.drop j, -1) (loopG m l ⟨t, j, -1⟩ r) := fun h => by
      rw [loopG_stop (g := ⟨t, j, -1⟩) m (by rintro ⟨_, h2, h3⟩; rcases h with h | h; exact h h2; exact h3 h)]
      exact sim_ok (show (-1 : Int) < 0 by decide) rfl hj rfl
    by_cases hjl : j < l.length
    · rw [if_pos hjl]
      rcases btw_op hr (gt l j).text with ⟨h1, h2⟩ | ⟨w, h1, h2, h3⟩
      · rw [h1]; exact hnone (.inr h2)
      · rw [h1]
        simp only [if_neg hr4, drop1]
        obtain ⟨m, rfl⟩ : ∃ m', m = m' + 1 := ⟨m - 1, by omega⟩
        rw [loopG, if_pos ⟨show (-1 : Int) < 0 by decide, hjl, h2⟩]
        simp only
        have hs := hrow (j + 1) (by omega) (by omega) n m (by omega) (by omega)
        rw [hgg] at hs
        have hin := rowG_in m l (j + 1) (r + 1) (by omega)
        by_cases hb : 0 ≤ (rowG m l (j + 1) (r + 1)).bd
        · rw [if_pos hb]
          have := hs.bad (by omega)
          rw [loopF_bad (by omega)]
          exact sim_bad (by omega) this.1 this.2
        · rw [if_neg hb]
          obtain ⟨q1, q2, q3⟩ := hs.ok (by omega)
          rw [q1, h3]
          have h5 := hin.2.2.2 (by omega)
          exact ih (l.length - (rowG m l (j + 1) (r + 1)).nx) (by omega) _ rfl q2 (fun i' h6 h7 => hrow i' (by omega) h7) n m _ (by omega) (by omega)
    · rw [if_neg hjl]; exact hnone (.inl hjl)
include hT he in
theorem sim_all : ∀ (K : Nat) (i : Nat) (r : Int), i ≤ l.length → 1 ≤ r → r ≤ 7 → 20 * ((l.length : Int) - i) + 2 * (9 - r) ≤ K → SimAt l e i r := by
  intro K
  induction K using Nat.strongRecOn with
  | _ K ih =>
    intro i r hi h1 h7 hK n m hn hm
    have rec_ : ∀ i' r', i' ≤ l.length → 1 ≤ r' → r' ≤ 7 → 20 * ((l.length : Int) - i') + 2 * (9 - r') < 20 * ((l.length : Int) - i) + 2 * (9 - r) → SimAt l e i' r' := fun i' r' a b c d => ih (20 * ((l.length : Int) - i') + 2 * (9 - r')).toNat (by omega) i' r' a b c (by omega)
    obtain ⟨n, rfl⟩ : ∃ n', n = n' + 1 := ⟨n - 1, by omega⟩
    obtain ⟨m, rfl⟩ : ∃ m', m = m' + 1 := ⟨m - 1, by omega⟩
    by_cases h3 : r = 3
    · subst h3
      have hG : GG (m + 1) l i 3 = rowG (m + 1) l i 3 := rfl
      rw [hG, rowF, if_pos rfl, rowG, if_pos rfl]
      obtain ⟨n, rfl⟩ : ∃ n', n = n' + 1 := ⟨n - 1, by omega⟩
      rw [aheadF, isF_G, drop1]
      by_cases hg : isG l i [110, 111, 116] = true
      · rw [if_pos hg, if_pos hg]
        have hlt := isG_lt hg
        have hs := rec_ (i + 1) 3 (by omega) (by omega) (by omega) (by omega) n m (by omega) (by omega)
        have hG2 : GG m l (i + 1) 3 = rowG m l (i + 1) 3 := rfl
        rw [hG2] at hs
        by_cases hb : 0 ≤ (rowG m l (i + 1) 3).bd
        · rw [if_pos hb]
          have := hs.bad (by omega)
          exact sim_bad (by omega) this.1 this.2
        · rw [if_neg hb]
          obtain ⟨q1, q2, q3⟩ := hs.ok (by omega)
          rw [q1]
          exact sim_ok (show (-1 : Int) < 0 by decide) rfl q2 rfl
      · rw [if_neg hg, if_neg hg]
        exact rec_ i 4 hi (by omega) (by omega) (by omega) n m (by omega) (by omega)
    by_cases h77 : r = 7
    · subst h77
      have hG : GG (m + 1) l i 7 = rowG (m + 1) l i 7 := rfl
      rw [hG, rowF, if_neg (by decide), if_pos rfl, rowG, if_neg (by decide), if_pos rfl]
      obtain ⟨n, rfl⟩ : ∃ n', n = n' + 1 := ⟨n - 1, by omega⟩
      obtain ⟨m, rfl⟩ : ∃ m', m = m' + 1 := ⟨m - 1, by omega⟩
      rw [aheadF, isF_G, drop1, oneG]
      by_cases hg : isG l i [45] = true
      · rw [if_pos hg, if_pos hg]
        have hlt := isG_lt hg
        have hs := rec_ (i + 1) 7 (by omega) (by omega) (by omega) (by omega) n (m + 1) (by omega) (by omega)
        have hG2 : GG (m + 1) l (i + 1) 7 = oneG m l (i + 1) := by
          show rowG (m + 1) l (i + 1) 7 = _
          rw [rowG, if_neg (by decide), if_pos rfl]
        rw [hG2] at hs
        by_cases hb : 0 ≤ (oneG m l (i + 1)).bd
        · rw [if_pos hb]
          have := hs.bad (by omega)
          exact sim_bad (by omega) this.1 this.2
        · rw [if_neg hb]
          obtain ⟨q1, q2, q3⟩ := hs.ok (by omega)
          rw [q1]
          exact sim_ok (show (-1 : Int) < 0 by decide) rfl q2 rfl
      · rw [if_neg hg, if_neg hg]
        obtain ⟨n, rfl⟩ : ∃ n', n = n' + 1 := ⟨n - 1, by omega⟩
        rw [show (7 : Int) + 1 = 8 from rfl, rowF, if_neg (by decide), if_neg (by decide), if_pos rfl]
        obtain ⟨n, rfl⟩ : ∃ n', n = n' + 1 := ⟨n - 1, by omega⟩
        rw [oneF, isF_G, drop1]
        by_cases hg2 : isG l i [40] = true
        · rw [if_pos hg2, if_pos hg2]
          have hlt := isG_lt hg2
          have hs := rec_ (i + 1) 1 (by omega) (by omega) (by omega) (by omega) n m (by omega) (by omega)
          have hG2 : GG m l (i + 1) 1 = rowG m l (i + 1) 1 := rfl
          rw [hG2] at hs
          simp only
          by_cases hb : 0 ≤ (rowG m l (i + 1) 1).bd
          · rw [if_pos hb]
            have := hs.bad (by omega)
            rw [if_neg (by omega)]
            exact sim_bad (by omega) this.1 this.2
          · rw [if_neg hb]
            obtain ⟨q1, q2, q3⟩ := hs.ok (by omega)
            rw [q1]
            simp only
            rw [if_pos (by decide), isF_G, drop1]
            by_cases hg3 : isG l (rowG m l (i + 1) 1).nx [41] = true
            · rw [if_pos hg3, if_neg (by rw [hg3]; decide)]
              exact sim_ok (show (-1 : Int) < 0 by decide) rfl (isG_lt hg3) rfl
            · rw [if_neg hg3, if_pos (by simpa using hg3)]
              exact sim_fail hT he _ _ _
        · rw [if_neg hg2, if_neg hg2]
          have e1 : (l.drop i).length = l.length - i := List.length_drop
          have e2 : gt (l.drop i) 0 = gt l i := by rw [gt_drop, Nat.add_zero]
          rw [e1, e2]
          by_cases hlt : i < l.length
          · have hmem := gt_mem hlt
            have hk := hT.kind _ hmem
            by_cases hk3 : (gt l i).kind > 2
            · rw [if_pos (.inr ⟨by omega, by omega⟩), if_pos (.inr hk3)]
              exact sim_fail hT he _ _ _
            · have n1 : ¬ (l.length - i = 0 ∨ (gt l i).kind ≠ 1 ∧ (gt l i).kind ≠ 2) := by omega
              have n2 : ¬ (l.length ≤ i ∨ (gt l i).kind > 2) := by omega
              rw [if_neg n1, if_neg n2]
              by_cases hk2 : (gt l i).kind = 2
              · rw [if_pos hk2, hT.var _ hmem hk2]
                exact sim_ok (show (-1 : Int) < 0 by decide) rfl (by simp only; omega) rfl
              · rw [if_neg hk2, hT.num _ hmem (by omega)]
                exact sim_ok (show (-1 : Int) < 0 by decide) rfl (by simp only; omega) rfl
          · rw [if_pos (.inl (by omega)), if_pos (.inl (by omega))]
            exact sim_fail hT he _ _ _
    by_cases h4 : r = 4
    · subst h4
      have hG : GG (m + 1) l i 4 = cmpG (m + 1) l i := rfl
      rw [hG, rowF, if_neg (by decide), if_neg (by decide), if_neg (by decide), cmpG]
      have hs := rec_ i 5 hi (by omega) (by omega) (by omega) n m (by omega) (by omega)
      have hG2 : ∀ i, GG m l i 5 = rowG m l i 5 := fun i => rfl
      rw [hG2] at hs
      have hin := rowG_in m l i 5 hi
      by_cases hb : 0 ≤ (rowG m l i 5).bd
      · rw [if_pos (.inl hb)]
        have := hs.bad (by omega)
        rw [show (4 : Int) + 1 = 5 from rfl, loopF_bad (by omega)]
        exact sim_bad (by omega) this.1 this.2
      · obtain ⟨q1, q2, q3⟩ := hs.ok (by omega)
        have h5 := hin.2.2.2 (by omega)
        rw [show (4 : Int) + 1 = 5 from rfl, q1]
        obtain ⟨n, rfl⟩ : ∃ n', n = n' + 1 := ⟨n - 1, by omega⟩
        rw [loopF, if_pos (show (-1 : Int) < 0 by decide), nextF_of]
        by_cases hlt : (rowG m l i 5).nx < l.length
        · rw [if_pos hlt, if_neg (by rintro (h | h) <;> omega)]
          rcases btw_cmp (gt l (rowG m l i 5).nx).text with ⟨c1, c2⟩ | ⟨w, c1, c2, c3⟩
          · rw [c1, if_pos c2]
            exact sim_ok (by omega) rfl q2 q3
          · rw [c1, if_neg (by rw [c2]; decide)]
            simp only [if_true, drop1]
            have hs2 := rec_ ((rowG m l i 5).nx + 1) 5 (by omega) (by omega) (by omega) (by omega) n m (by omega) (by omega)
            rw [hG2] at hs2
            by_cases hb2 : 0 ≤ (rowG m l ((rowG m l i 5).nx + 1) 5).bd
            · rw [if_pos hb2]
              have := hs2.bad (by omega)
              exact sim_bad (by omega) this.1 this.2
            · rw [if_neg hb2]
              obtain ⟨p1, p2, p3⟩ := hs2.ok (by omega)
              rw [show (4 : Int) + 1 = 5 from rfl, p1, c3]
              exact sim_ok (show (-1 : Int) < 0 by decide) rfl p2 rfl
        · rw [if_neg hlt, if_pos (.inr (by omega))]
          exact sim_ok (by omega) rfl q2 q3
    have hr : r = 1 ∨ r = 2 ∨ r = 5 ∨ r = 6 := by omega
    have hG : GG (m + 1) l i r = rowG (m + 1) l i r := if_neg h4
    have hG2 : ∀ m i, GG m l i (r + 1) = rowG m l i (r + 1) := fun m i => if_neg (by omega)
    rw [hG, rowF, if_neg h3, if_neg h77, if_neg (by omega), rowG, if_neg h3, if_neg h77]
    have hs := rec_ i (r + 1) hi (by omega) (by omega) (by omega) n m (by omega) (by omega)
    rw [hG2] at hs
    have hin := rowG_in m l i (r + 1) hi
    by_cases hb : 0 ≤ (rowG m l i (r + 1)).bd
    · have := hs.bad (by omega)
      rw [loopF_bad (by omega), loopG_stop m (by omega)]
      exact sim_bad (by omega) this.1 this.2
    · obtain ⟨q1, q2, q3⟩ := hs.ok (by omega)
      have h5 := hin.2.2.2 (by omega)
      rw [q1]
      have eta : rowG m l i (r + 1) = ⟨(rowG m l i (r + 1)).t, (rowG m l i (r + 1)).nx, -1⟩ := by rw [← q3]
      rw [eta]
      exact sim_loop l e r hr _ _ rfl q2 (fun i' h6 h7' => rec_ i' (r + 1) h7' (by omega) (by omega) (by omega)) n m _ (by omega) (by omega)
end
end Go.Eng
open Go Go.Proofs
namespace Go.Eng
set_option linter.unusedSimpArgs false
set_option linter.unusedVariables false
set_option maxRecDepth 100000
set_option maxHeartbeats 4000000

theorem kindF_range (s : Str) : 0 ≤ kindF s ∧ kindF s ≤ 3 := by
  unfold kindF
  repeat' split
  all_goals decide
theorem readL_okT : ∀ (n : Nat) (s : Str) (i : Nat), s.length ≤ n → s.length ≤ 20000 → ∀ t ∈ (readL s i).1, 0 ≤ t.pos ∧ 1 ≤ t.kind ∧ (t.kind = 1 → (parse3F t.text).1 = .mk 1 (numberF t.text).1 []) ∧ (t.kind = 2 → (parse3F t.text).1 = .mk 2 (numberF (t.text.drop 1)).1 [])
  | n, [], i, _, _ => by simp [readL]
  | 0, c :: r, i, h, _ => by simp at h
  | n + 1, c :: r, i, h, h2 => by
    have h3 := h2
    simp only [List.length_cons] at h h2
    rw [readL]
    split
    · exact readL_okT n r (i + 1) (by omega) (by omega)
    · split
      · simp
      · rename_i hk
        intro t ht
        simp only [List.mem_cons] at ht
        rcases ht with rfl | ht
        · simp only
          simp only [not_or] at hk
          refine ⟨by omega, ?_⟩
          by_cases hj : 0 < joinN (c :: r)
          · have hr : rfirst (c :: r) = ⟨rkindF ((c :: r).take (joinN (c :: r))), 0, (c :: r).take (joinN (c :: r))⟩ := if_pos hj
            rw [hr] at hk ⊢
            have hl := joinN_le (c :: r)
            obtain ⟨k1, k2, k3⟩ := kind_same ((c :: r).take (joinN (c :: r))) (by rw [List.length_take]; omega)
            have hrg := kindF_range ((c :: r).take (joinN (c :: r)))
            simp only [k1] at hk ⊢
            exact ⟨by omega, k2, k3⟩
          · have hr : rfirst (c :: r) = ⟨4, 0, signF (c :: r)⟩ := if_neg hj
            rw [hr]
            exact ⟨show (1 : Int) ≤ 4 by decide, fun h => by simp at h, fun h => by simp at h⟩
        · exact readL_okT n _ _ (by simp; omega) (by simp; omega) t ht
theorem readR_okT (s : Str) (hs : s.length ≤ 20000) : OkT (readR s).1 := by
  have h := readL_okT s.length s 0 (Nat.le_refl _) hs
  unfold readR
  split
  · rename_i l e
    rw [e] at h
    exact ⟨fun t ht => (h t ht).1, fun t ht => (h t ht).2.1, fun t ht => (h t ht).2.2.1, fun t ht => (h t ht).2.2.2⟩
  · exact ⟨fun t ht => by simp at ht, fun t ht => by simp at ht, fun t ht => by simp at ht, fun t ht => by simp at ht⟩
theorem parse_same (s : Str) : parseF s = ((parseRF s).t, (parseRF s).at_, (parseRF s).err) := by
  by_cases h20 : 20000 < s.length
  · have ht : tokensF s = ([], 0, 2) := by unfold tokensF; rw [if_pos h20]
    unfold parseF parseRF
    rw [ht, if_pos (by decide), if_pos h20]
  have ht := tokens_same s (by omega)
  by_cases hb : 0 ≤ (readR s).2
  · rw [if_pos hb] at ht
    unfold parseF parseRF
    rw [ht, if_pos (by simp), if_neg h20, if_pos hb]
  rw [if_neg hb] at ht
  have hT := readR_okT s (by omega)
  by_cases hl : 2000 < (readR s).1.length
  · unfold parseF parseRF
    rw [ht, if_neg (by simp), if_pos hl, if_neg h20, if_neg hb, if_pos hl]
  have hsim := sim_all (readR s).1 s.length hT (by omega) (20 * (readR s).1.length + 16) 0 1 (Nat.zero_le _) (by decide) (by decide) (by omega) (20 * (readR s).1.length + 16) (20 * (readR s).1.length + 16) (by omega) (by omega)
  have hG : GG (20 * (readR s).1.length + 16) (readR s).1 0 1 = topG s := rfl
  have hF : rowF (20 * (readR s).1.length + 16) s.length 1 ((readR s).1.drop 0) (-1) = rowTop s := by
    unfold rowTop; rw [ht, List.drop_zero]
  rw [hG, hF] at hsim
  have hin := rowG_in (20 * (readR s).1.length + 16) (readR s).1 0 1 (Nat.zero_le _)
  rw [show rowG (20 * (readR s).1.length + 16) (readR s).1 0 1 = topG s from rfl] at hin
  unfold parseF parseRF
  rw [ht, if_neg (by simp), if_neg hl, if_neg h20, if_neg hb, if_neg hl]
  by_cases hg : (topG s).bd < 0
  · obtain ⟨q1, q2, q3⟩ := hsim.ok hg
    by_cases hnx : (topG s).nx < (readR s).1.length
    · have he : endG s = badG (topG s).nx := if_pos ⟨hg, hnx⟩
      have hbt : badTop s = (gt (readR s).1 (topG s).nx).pos := by
        unfold badTop
        rw [q1]
        rw [if_pos ⟨show (-1 : Int) < 0 by decide, by simp only [List.length_drop]; omega⟩]
        unfold failF atF
        rw [if_pos (show (-1 : Int) < 0 by decide), if_pos (by simp only [List.length_drop]; omega), gt_drop, Nat.add_zero]
      have hpos := hT.pos _ (gt_mem hnx)
      rw [hbt, if_pos hpos, he, show (badG (topG s).nx).bd = ((topG s).nx : Int) from rfl, if_neg (by omega), if_pos (by omega), Int.toNat_natCast]
    · have he : endG s = topG s := if_neg (fun h => hnx h.2)
      have hbt : badTop s = -1 := by
        unfold badTop
        rw [q1]
        rw [if_neg (by simp only [List.length_drop]; omega)]
      have n1 : ¬ ((readR s).1.length : Int) ≤ (topG s).bd := by omega
      have n2 : ¬ 0 ≤ (topG s).bd := by omega
      rw [hbt, if_neg (by decide), he, if_neg n1, if_neg n2, q1]
      simp only
      split <;> rfl
  · obtain ⟨q1, q2⟩ := hsim.bad hg
    have he : endG s = topG s := if_neg (fun h => hg h.1)
    have hbt : badTop s = atF ((readR s).1.drop (topG s).bd.toNat) s.length := by
      unfold badTop
      rw [if_neg (by omega), q1]
    rw [hbt, if_pos (by omega), he]
    unfold atF
    by_cases hlen : ((readR s).1.length : Int) ≤ (topG s).bd
    · rw [if_pos hlen, if_neg (by simp only [List.length_drop]; omega)]
    · rw [if_neg hlen, if_pos (show 0 < ((readR s).1.drop (topG s).bd.toNat).length by simp only [List.length_drop]; omega), if_pos (show 0 ≤ (topG s).bd by omega), gt_drop, Nat.add_zero]
mutual
theorem eqT_refl : ∀ t : T, eqT t t = true
  | .mk o n k => by rw [eqT]; simp [T.op, T.n, T.kids, eqTs_refl k]
theorem eqTs_refl : ∀ l : List T, eqTs l l = true
  | [] => by rw [eqTs]
  | t :: l => by rw [eqTs, eqT_refl t, eqTs_refl l]; rfl
end
theorem parse_size (s : Str) : (parseF s).1.size < 4611686018427387904 := by
  have ht0 : t0.size < 4611686018427387904 := by decide
  unfold parseF
  split
  · exact ht0
  · split
    · exact ht0
    · split
      · exact ht0
      · split
        · exact ht0
        · have := rowF_size (20 * (tokensF s).1.length + 16) s.length 1 (tokensF s).1 (-1)
          show (rowTop s).1.size < _
          unfold rowTop
          omega
theorem law4_ok (s : Str) (hs : s.length ≤ 140737488351232) : AFn env 4 [aS s] [] (aB true) [] := by
  have hp := parse_ok s (by omega)
  rw [parse_same] at hp
  by_cases hbig : 4000 < s.length ∧ s.length ≤ 20000
  · skip
    refine afn_body Tryd.func4 rfl (by decide) ?_
    simp only [Tryd.ntmps4, Tryd.results4, List.length_cons, List.length_nil, List.cons_append, List.nil_append, Nat.reduceAdd, Nat.reduceSub, List.replicate]
    repeat' first
    | with_reducible refine awp_seq ?_
    | ((with_reducible refine awp_region ?_); refine zS ?_)
    | ((with_reducible refine Gd_nd ?_ ?_) <;> intro hb hb2 <;> first | contradiction | (exfalso; omega) | (refine zH hb2 ?_; try clear hb2))
    | ((with_reducible refine Gd_nb ?_ ?_) <;> intro hb <;> first | contradiction | refine zH hb ?_)
    | ((with_reducible refine Gd_d ?_ ?_) <;> intro hb hb2 <;> first | contradiction | (exfalso; omega) | (refine zH hb2 ?_; try clear hb2))
    | ((with_reducible refine Gd_b ?_ ?_) <;> intro hb <;> first | contradiction | refine zH hb ?_)
    | ((with_reducible refine Res_id ?_); refine zS ?_)
    | ((with_reducible refine awp_drawnC ?_ ?_); rfl; refine zS ?_)
    | ((with_reducible refine awp_drawnA ?_ ?_); rfl; refine zS ?_)
    | ((with_reducible refine CGd_nd ?_ ?_) <;> intro hb hb2 <;> first | contradiction | (exfalso; omega) | (refine zH hb2 ?_; try clear hb2))
    | ((with_reducible refine CGd_nb ?_ ?_) <;> intro hb <;> first | contradiction | refine zH hb ?_)
    | ((with_reducible refine CGd_d ?_ ?_) <;> intro hb hb2 <;> first | contradiction | (exfalso; omega) | (refine zH hb2 ?_; try clear hb2))
    | ((with_reducible refine CGd_b ?_ ?_) <;> intro hb <;> first | contradiction | refine zH hb ?_)
    | ((with_reducible refine CRes_id ?_); refine zS ?_)
    | ((with_reducible refine DStep_id ?_); refine zdP ?_; refine ⟨_, by first | exact mixed_ok | fail, fun _ => rfl, fun _ => rfl, rfl, (fun h => by first | cases h | fail), ?_⟩; try refine zS ?_)
    | ((with_reducible refine DStep_id ?_); refine zdW ?_; refine ⟨_, by first | exact mixed_ok | fail, fun _ => rfl, fun _ => rfl, rfl, ?_⟩; try refine zS ?_)
    | ((with_reducible refine AWP_c ?_); refine zcdT ?_)
    | ((with_reducible refine AWP_c ?_); refine zcdF ?_)
    | ((with_reducible refine AWP_c ?_); refine zcdN ?_ ?_ <;> intro hb hb2 <;> first | contradiction | (exfalso; omega) | ((try refine zH hb2 ?_); try clear hb2))
    | ((with_reducible refine AWP_c ?_); refine zcdD ?_ ?_ <;> intro hb hb2 <;> first | contradiction | (exfalso; omega) | ((try refine zH hb2 ?_); try clear hb2))
    | ((with_reducible refine AWP_c ?_); refine zcdM ?_ ?_ <;> intro hb <;> first | contradiction | (try refine zH hb ?_))
    | ((with_reducible refine AWP_c ?_); refine zcdB ?_ ?_ <;> intro hb <;> first | contradiction | (try refine zH hb ?_))
    | ((with_reducible refine awp_ret ?_); refine fin_r ?_)
    | ((with_reducible refine awp_ret ?_); refine fin_q ?_ ?_)
    | with_reducible refine fin_qn ?_ ?_
    | ((with_reducible refine awp_skip ?_); refine zS ?_)
    | with_reducible refine awp_block ?_
    | ((with_reducible refine awp_exit ?_); refine zS ?_)
    | ((with_reducible refine CallK_id ?_); refine zcF ?_; refine ⟨_, by first | exact mixed_ok | fail, fun _ => rfl, fun _ => rfl, rfl, ?_⟩; try refine zS ?_)
    | exact True.intro
    | fail
    all_goals rfl
  have hpr := parseR_ok s (by omega)
  have hsz : (parseRF s).t.size < 4611686018427387904 := by
    have h := parse_size s
    rw [parse_same] at h
    exact h
  have ht := term_ok (parseRF s).t (parseRF s).t hsz hsz
  rw [eqT_refl] at ht
  generalize parseRF s = g at *
  refine afn_body Tryd.func4 rfl (by decide) ?_
  simp only [Tryd.ntmps4, Tryd.results4, List.length_cons, List.length_nil, List.cons_append, List.nil_append, Nat.reduceAdd, Nat.reduceSub, List.replicate]
  repeat' first
  | with_reducible refine awp_seq ?_
  | ((with_reducible refine awp_region ?_); refine zS ?_)
  | ((with_reducible refine Gd_nd ?_ ?_) <;> intro hb hb2 <;> first | contradiction | (exfalso; omega) | (refine zH hb2 ?_; try clear hb2))
  | ((with_reducible refine Gd_nb ?_ ?_) <;> intro hb <;> first | contradiction | refine zH hb ?_)
  | ((with_reducible refine Gd_d ?_ ?_) <;> intro hb hb2 <;> first | contradiction | (exfalso; omega) | (refine zH hb2 ?_; try clear hb2))
  | ((with_reducible refine Gd_b ?_ ?_) <;> intro hb <;> first | contradiction | refine zH hb ?_)
  | ((with_reducible refine Res_id ?_); refine zS ?_)
  | ((with_reducible refine awp_drawnC ?_ ?_); rfl; refine zS ?_)
  | ((with_reducible refine awp_drawnA ?_ ?_); rfl; refine zS ?_)
  | ((with_reducible refine CGd_nd ?_ ?_) <;> intro hb hb2 <;> first | contradiction | (exfalso; omega) | (refine zH hb2 ?_; try clear hb2))
  | ((with_reducible refine CGd_nb ?_ ?_) <;> intro hb <;> first | contradiction | refine zH hb ?_)
  | ((with_reducible refine CGd_d ?_ ?_) <;> intro hb hb2 <;> first | contradiction | (exfalso; omega) | (refine zH hb2 ?_; try clear hb2))
  | ((with_reducible refine CGd_b ?_ ?_) <;> intro hb <;> first | contradiction | refine zH hb ?_)
  | ((with_reducible refine CRes_id ?_); refine zS ?_)
  | ((with_reducible refine DStep_id ?_); refine zdP ?_; refine ⟨_, by first | exact mixed_ok | exact hp | exact hpr | exact ht | fail, fun _ => rfl, fun _ => rfl, rfl, (fun h => by first | cases h | fail), ?_⟩; try refine zS ?_)
  | ((with_reducible refine DStep_id ?_); refine zdW ?_; refine ⟨_, by first | exact mixed_ok | exact hp | exact hpr | exact ht | fail, fun _ => rfl, fun _ => rfl, rfl, ?_⟩; try refine zS ?_)
  | ((with_reducible refine AWP_c ?_); refine zcdT ?_)
  | ((with_reducible refine AWP_c ?_); refine zcdF ?_)
  | ((with_reducible refine AWP_c ?_); refine zcdN ?_ ?_ <;> intro hb hb2 <;> first | contradiction | (exfalso; omega) | ((try refine zH hb2 ?_); try clear hb2))
  | ((with_reducible refine AWP_c ?_); refine zcdD ?_ ?_ <;> intro hb hb2 <;> first | contradiction | (exfalso; omega) | ((try refine zH hb2 ?_); try clear hb2))
  | ((with_reducible refine AWP_c ?_); refine zcdM ?_ ?_ <;> intro hb <;> first | contradiction | (try refine zH hb ?_))
  | ((with_reducible refine AWP_c ?_); refine zcdB ?_ ?_ <;> intro hb <;> first | contradiction | (try refine zH hb ?_))
  | ((with_reducible refine awp_ret ?_); refine fin_r ?_)
  | ((with_reducible refine awp_ret ?_); refine fin_q ?_ ?_)
  | with_reducible refine fin_qn ?_ ?_
  | ((with_reducible refine awp_skip ?_); refine zS ?_)
  | with_reducible refine awp_block ?_
  | ((with_reducible refine awp_exit ?_); refine zS ?_)
  | ((with_reducible refine CallK_id ?_); refine zcF ?_; refine ⟨_, by first | exact mixed_ok | exact hp | exact hpr | exact ht | fail, fun _ => rfl, fun _ => rfl, rfl, ?_⟩; try refine zS ?_)
  | exact True.intro
  | fail
  all_goals rfl
end Go.Eng
