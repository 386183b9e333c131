/- What the walked functions come to is as the law says: plain Lean. -/
import Derived.Test.YtnfkbkomkkjphaaDoorNd
open Go Go.Proofs
namespace Go.Eng
set_option linter.unusedSimpArgs false
set_option linter.unusedVariables false
set_option maxRecDepth 100000

def vN : Str → Int → Int
  | [], n => n
  | c :: l, n => vN l (10 * n + (c.toNat - 48))
theorem dig_le {c : UInt8} (h : digitF c.toNat = true) : (48 : Int) ≤ c.toNat ∧ (c.toNat : Int) ≤ 57 := by
  simp only [digitF, Bool.and_eq_true, decide_eq_true_eq] at h; exact h
theorem numF_all : ∀ (l : Str) (n : Int), (∀ c ∈ l, digitF c.toNat = true) → numF l n = some (vN l n)
  | [], n, _ => rfl
  | c :: l, n, h => by rw [numF, if_pos (h c (by simp)), vN]; exact numF_all l _ (fun d hd => h d (by simp [hd]))
theorem numF_not : ∀ (l : Str) (n : Int), (¬ ∀ c ∈ l, digitF c.toNat = true) → numF l n = none
  | [], n, h => (h (by simp)).elim
  | c :: l, n, h => by
    rw [numF]
    split
    · rename_i hc
      exact numF_not l _ (fun h2 => h (fun d hd => by rcases List.mem_cons.1 hd with rfl | hd; exact hc; exact h2 d hd))
    · rfl
theorem vN_ge : ∀ (l : Str) (n : Int), 0 ≤ n → (∀ c ∈ l, digitF c.toNat = true) → n ≤ vN l n
  | [], n, _, _ => Int.le_refl _
  | c :: l, n, h0, h => by
    have hc := dig_le (h c (by simp))
    rw [vN]
    have := vN_ge l (10 * n + (c.toNat - 48)) (by omega) (fun d hd => h d (by simp [hd]))
    omega
theorem vN_pow : ∀ (l : Str) (n : Int), 1 ≤ n → (∀ c ∈ l, digitF c.toNat = true) → (10 : Int) ^ l.length ≤ vN l n
  | [], n, h1, _ => by simpa [vN] using h1
  | c :: l, n, h1, h => by
    have hc := dig_le (h c (by simp))
    rw [vN, List.length_cons, Int.pow_succ]
    have key : ∀ (l : Str) (n : Int), 1 ≤ n → (∀ c ∈ l, digitF c.toNat = true) → n * (10 : Int) ^ l.length ≤ vN l n := by
      intro l
      induction l with
      | nil => intro n _ _; simp [vN]
      | cons c l ih =>
        intro n h1 h
        have hc := dig_le (h c (by simp))
        have := ih (10 * n + (c.toNat - 48)) (by omega) (fun d hd => h d (by simp [hd]))
        rw [vN, List.length_cons, Int.pow_succ]
        have hp : (0 : Int) ≤ 10 ^ l.length := Int.le_of_lt (Int.pow_pos (by decide))
        have h3 : (10 * n) * (10 : Int) ^ l.length ≤ (10 * n + (c.toNat - 48)) * 10 ^ l.length := Int.mul_le_mul_of_nonneg_right (by omega) hp
        have e : n * (10 ^ l.length * 10) = (10 * n) * (10 : Int) ^ l.length := by rw [Int.mul_comm (10 ^ l.length) 10, ← Int.mul_assoc, Int.mul_comm n 10]
        omega
    have := key l (10 * n + (c.toNat - 48)) (by omega) (fun d hd => h d (by simp [hd]))
    have hp : (0 : Int) ≤ 10 ^ l.length := Int.le_of_lt (Int.pow_pos (by decide))
    have h3 : 10 * (10 : Int) ^ l.length ≤ (10 * n + (c.toNat - 48)) * 10 ^ l.length := Int.mul_le_mul_of_nonneg_right (by omega) hp
    omega
theorem numL_all {z : Prop} [Decidable z] (hz : ¬ z) : ∀ (l : Str) (k : Nat) (n : Int), 0 ≤ n → (∀ c ∈ l, digitF c.toNat = true) → (vN l n ≤ 1099511627776 → numL z l k n = some (vN l n, k + l.length)) ∧ (¬ vN l n ≤ 1099511627776 → ∀ m j, numL z l k n = some (m, j) → m > 1099511627776)
  | [], k, n, h0, _ => ⟨fun _ => rfl, fun h m j e => by simp only [numL, Option.some.injEq, Prod.mk.injEq] at e; simp only [vN] at h; omega⟩
  | c :: l, k, n, h0, h => by
    have hc := dig_le (h c (by simp))
    have hl : ∀ d ∈ l, digitF d.toNat = true := fun d hd => h d (by simp [hd])
    have ih := numL_all hz l (k + 1) (10 * n + c.toNat - 48) (by omega) hl
    have hge := vN_ge (c :: l) n h0 h
    have e : vN (c :: l) n = vN l (10 * n + c.toNat - 48) := by rw [vN]; congr 1; omega
    rw [numL, if_pos (h c (by simp)), e]
    constructor
    · intro hv
      rw [if_neg (by rintro (h2 | h2); · omega
                     · exact hz h2.2), ih.1 hv]
      simp only [List.length_cons]; congr 2; omega
    · intro hv m j
      split
      · intro h2; cases h2
      · exact ih.2 hv m j
theorem numL_len {z : Prop} [Decidable z] : ∀ (l : Str) (k : Nat) (n : Int) (m : Int) (j : Nat), numL z l k n = some (m, j) → j ≤ k + l.length ∧ (j = k + l.length → ∀ c ∈ l, digitF c.toNat = true)
  | [], k, n, m, j, h => by simp only [numL, Option.some.injEq, Prod.mk.injEq] at h; simp; omega
  | c :: l, k, n, m, j, h => by
    rw [numL] at h
    split at h
    · rename_i hc
      split at h
      · cases h
      · have := numL_len l (k + 1) _ m j h
        refine ⟨by simp only [List.length_cons]; omega, fun e d hd => ?_⟩
        rcases List.mem_cons.1 hd with rfl | hd
        · exact hc
        · exact this.2 (by simp only [List.length_cons] at e; omega) d hd
    · simp only [Option.some.injEq, Prod.mk.injEq] at h
      exact ⟨by simp only [List.length_cons]; omega, fun e => by simp only [List.length_cons] at e; omega⟩
theorem num_same (l : Str) (z : Prop) [Decidable z] (hz : z ↔ byteAt l 0 = 48) : (∃ m, numL z l 0 0 = some (m, l.length) ∧ l.length ≠ 0 ∧ ¬ m > 1099511627776 ∧ numberF l = (m, true)) ∨ ((numberF l).2 = false ∧ ∀ m j, numL z l 0 0 = some (m, j) → j = l.length → j = 0 ∨ m > 1099511627776) := by
  cases l with
  | nil => right; exact ⟨rfl, fun m j h e => .inl (by simpa using e)⟩
  | cons c l =>
    by_cases hall : ∀ d ∈ c :: l, digitF d.toNat = true
    · have hc := dig_le (hall c (by simp))
      have hb : byteAt (c :: l) 0 = c.toNat := rfl
      by_cases h48 : (c.toNat : Int) = 48
      · have hzt : z := hz.2 (by rw [hb]; exact h48)
        cases l with
        | nil =>
          left
          refine ⟨0, ?_, by simp, by omega, ?_⟩
          · rw [numL, if_pos (hall c (by simp)), if_neg (by rintro (h | h) <;> omega), numL]
            congr 2; omega
          · unfold numberF
            have hv0 : vN [c] 0 = 0 := by simp only [vN]; omega
            rw [if_neg (by simp), numF_all _ _ hall]
            simp [hv0]
        | cons d l =>
          right
          constructor
          · unfold numberF
            rw [if_pos (.inr (.inr ⟨by simp, by rw [hb]; exact h48⟩))]
          · intro m j h
            rw [numL, if_pos (hall c (by simp)), if_neg (by rintro (h | h) <;> omega), numL, if_pos (hall d (by simp)), if_pos (.inr ⟨by omega, hzt⟩)] at h
            cases h
      · have hzf : ¬ z := fun h => h48 (by have := hz.1 h; rwa [hb] at this)
        have hA := numL_all hzf (c :: l) 0 0 (by omega) hall
        by_cases hv : vN (c :: l) 0 ≤ 1099511627776
        · left
          refine ⟨_, by rw [hA.1 hv, Nat.zero_add], by simp, by omega, ?_⟩
          have h13 : (c :: l).length ≤ 13 := by
            have hp := vN_pow l (10 * 0 + ((c.toNat : Int) - 48)) (by omega) (fun d hd => hall d (by simp [hd]))
            rcases Nat.lt_or_ge 12 l.length with h | h
            · exfalso
              have h3 : (10 : Int) ^ 13 ≤ 10 ^ l.length := pow10 h
              have e13 : (10 : Int) ^ 13 = 10000000000000 := rfl
              rw [vN] at hv
              omega
            · simp only [List.length_cons]; omega
          unfold numberF
          rw [if_neg (by rintro (h | h | h); · cases h
                         · omega
                         · exact h48 (by have := h.2; rwa [hb] at this)), numF_all _ _ hall]
          simp [hv]
        · right
          constructor
          · unfold numberF
            split
            · rfl
            · rw [numF_all _ _ hall]; simp; omega
          · intro m j h _
            exact .inr (hA.2 hv m j h)
    · right
      constructor
      · unfold numberF
        split
        · rfl
        · rw [numF_not _ _ hall]
      · intro m j h e
        exact (hall ((numL_len _ 0 0 m j h).2 (by omega))).elim
theorem byte_drop (s : Str) : byteAt s 1 = byteAt (s.drop 1) 0 := by
  cases s with
  | nil => rfl
  | cons c l => rfl
theorem numR_l {s : Str} {i : Nat} {m : Int} {j : Nat} (h : numL (byteAt s i = 48) (s.drop i) 0 0 = some (m, j)) (hj : j ≠ 0) (hm : ¬ m > 1099511627776) : numR s i = (.mk 1 m [], ((i + j : Nat) : Int)) := by
  unfold numR
  rw [h]
  exact if_neg (by rintro (h | h); exact hj h; exact hm h)
theorem numR_no {s : Str} {i : Nat} (h : ∀ m j, numL (byteAt s i = 48) (s.drop i) 0 0 = some (m, j) → j = (s.drop i).length → j = 0 ∨ m > 1099511627776) (hi : i ≤ s.length) : (numR s i).2 ≠ s.length := by
  unfold numR
  split
  · simp
    try omega
  · rename_i m j e
    have := h m j e
    have hl := (numL_len _ 0 0 m j e).1
    simp only [List.length_drop] at this hl
    split
    · simp
      try omega
    · rename_i hc
      simp only [not_or] at hc
      intro h2
      simp only at h2
      rcases this (by omega) with h | h
      · exact hc.1 h
      · exact hc.2 h
theorem kind_same (s : Str) (hs : s.length ≤ 20000) : rkindF s = kindF s ∧ (kindF s = 1 → (parse3F s).1 = .mk 1 (numberF s).1 []) ∧ (kindF s = 2 → (parse3F s).1 = .mk 2 (numberF (s.drop 1)).1 []) := by
  have hkw : s ∈ keyw ↔ s = [97, 110, 100] ∨ s = [111, 114] ∨ s = [110, 111, 116] := by simp [keyw]
  by_cases hk : s ∈ keyw
  · have : kindF s = 3 := if_pos hk
    refine ⟨?_, fun h => by omega, fun h => by omega⟩
    rw [this]; exact if_pos (hkw.1 hk)
  have hr : rkindF s = if (parse3F s).2 ≠ 0 then 0 else (parse3F s).1.op := if_neg (fun h => hk (hkw.2 h))
  have hp : parse3F s = if (readF s).2 ≠ s.length then (t0, 4) else ((readF s).1, 0) := if_neg (by omega)
  have hbad : (readF s).2 ≠ s.length → rkindF s = 0 := fun h => by rw [hr, hp, if_pos h]; rfl
  by_cases h36 : pfx s [36] = true
  · have hkf : kindF s = if (numberF (s.drop 1)).2 = true ∧ (numberF (s.drop 1)).1 < 4 then 2 else 0 := by
      unfold kindF; rw [if_neg hk, if_pos h36]
    have hrf : readF s = if (numR s 1).2 < 0 ∨ (numR s 1).1.n > 3 then (t0, -1) else (.mk 2 (numR s 1).1.n [], (numR s 1).2) := if_pos h36
    have h1 : 1 ≤ s.length := by have := pfx_len (of_decide_eq_true h36); simpa using this
    rcases num_same (s.drop 1) (byteAt s 1 = 48) (by rw [byte_drop]) with ⟨m, e1, e2, e3, e4⟩ | ⟨e1, e2⟩
    · have e5 := numR_l e1 e2 e3
      simp only [List.length_drop] at e5
      rw [e4] at hkf
      have g1 : (numR s 1).1.n = m := by rw [e5]; rfl
      have g2 : (numR s 1).2 = ((1 + (s.length - 1) : Nat) : Int) := by rw [e5]
      by_cases hm : m < 4
      · rw [if_pos ⟨rfl, hm⟩] at hkf
        rw [if_neg (by rw [g1, g2]; omega), g1, g2] at hrf
        rw [hrf, if_neg (by simp; omega)] at hp
        refine ⟨?_, fun h => by omega, fun _ => ?_⟩
        · rw [hr, hp, hkf]; rfl
        · rw [hp, e4]
      · rw [if_neg (fun h => hm h.2)] at hkf
        rw [if_pos (Or.inr (by rw [g1]; omega))] at hrf
        refine ⟨?_, fun h => by omega, fun h => by omega⟩
        rw [hkf]
        exact hbad (by rw [hrf]; simp; try omega)
    · rw [if_neg (fun h => by rw [e1] at h; exact absurd h.1 (by decide))] at hkf
      refine ⟨?_, fun h => by omega, fun h => by omega⟩
      rw [hkf]
      refine hbad ?_
      rw [hrf]
      have := numR_no e2 h1
      split
      · simp
        try omega
      · exact this
  · have hkf : kindF s = if (numberF s).2 = true then 1 else 0 := by
      unfold kindF; rw [if_neg hk, if_neg h36]
    have hrf : readF s = numR s 0 := if_neg h36
    rcases num_same (s.drop 0) (byteAt s 0 = 48) (by rw [List.drop_zero]) with ⟨m, e1, e2, e3, e4⟩ | ⟨e1, e2⟩
    · have e5 := numR_l e1 e2 e3
      rw [List.drop_zero] at e4 e5
      rw [e4, if_pos rfl] at hkf
      rw [hrf, e5, if_neg (by simp)] at hp
      refine ⟨?_, fun _ => ?_, fun h => by omega⟩
      · rw [hr, hp, hkf]; rfl
      · rw [hp, e4]
    · rw [List.drop_zero] at e1
      rw [if_neg (fun h => by rw [e1] at h; exact absurd h (by decide))] at hkf
      refine ⟨?_, fun h => by omega, fun h => by omega⟩
      rw [hkf]
      exact hbad (by rw [hrf]; exact numR_no e2 (Nat.zero_le _))
theorem pfx0 (x : UInt8) (l : Str) : pfx [] (x :: l) = false := by simp [pfx]
theorem pfx1 (a x : UInt8) (l : Str) : pfx (a :: l) [x] = decide (x = a) := by simp [pfx]
theorem pfx2 (a b x y : UInt8) (l : Str) : pfx (a :: b :: l) [x, y] = (decide (x = a) && decide (y = b)) := by simp [pfx]
theorem pfx21 (a x y : UInt8) : pfx [a] [x, y] = false := by simp [pfx]
def firstSign (s : Str) : Str := if idxF (fun x => pfx s x) signs 0 < 0 then [] else gt signs (idxF (fun x => pfx s x) signs 0).toNat
theorem sign_same (s : Str) : signF s = firstSign s := by
  match s with
  | [] => simp [signF, sigF, rsigns, firstSign, signs, idxF, pfx0]
  | [a] =>
    by_cases h1 : a = 33
    · subst h1; decide
    by_cases h2 : a = 60
    · subst h2; decide
    by_cases h3 : a = 62
    · subst h3; decide
    by_cases h4 : a = 43
    · subst h4; decide
    by_cases h5 : a = 45
    · subst h5; decide
    by_cases h6 : a = 42
    · subst h6; decide
    by_cases h7 : a = 47
    · subst h7; decide
    by_cases h8 : a = 37
    · subst h8; decide
    by_cases h9 : a = 61
    · subst h9; decide
    by_cases h10 : a = 40
    · subst h10; decide
    by_cases h11 : a = 41
    · subst h11; decide
    simp [signF, sigF, rsigns, firstSign, signs, idxF, pfx1, pfx21, Ne.symm h1, Ne.symm h2, Ne.symm h3, Ne.symm h4, Ne.symm h5, Ne.symm h6, Ne.symm h7, Ne.symm h8, Ne.symm h9, Ne.symm h10, Ne.symm h11]
  | a :: b :: l =>
    simp only [signF, sigF, rsigns, firstSign, signs, idxF, pfx1, pfx2]
    by_cases h1 : a = 33
    · subst h1
      by_cases hb : b = 61
      · subst hb; rfl
      · have hb' : ¬ (61 : UInt8) = b := fun h => hb h.symm
        simp [hb']
    by_cases h2 : a = 60
    · subst h2
      by_cases hb : b = 61
      · subst hb; rfl
      · have hb' : ¬ (61 : UInt8) = b := fun h => hb h.symm
        simp [hb', gt]
    by_cases h3 : a = 62
    · subst h3
      by_cases hb : b = 61
      · subst hb; rfl
      · have hb' : ¬ (61 : UInt8) = b := fun h => hb h.symm
        simp [hb', gt]
    by_cases h4 : a = 43
    · subst h4; rfl
    by_cases h5 : a = 45
    · subst h5; rfl
    by_cases h6 : a = 42
    · subst h6; rfl
    by_cases h7 : a = 47
    · subst h7; rfl
    by_cases h8 : a = 37
    · subst h8; rfl
    by_cases h9 : a = 61
    · subst h9; rfl
    by_cases h10 : a = 40
    · subst h10; rfl
    by_cases h11 : a = 41
    · subst h11; rfl
    simp [Ne.symm h1, Ne.symm h2, Ne.symm h3, Ne.symm h4, Ne.symm h5, Ne.symm h6, Ne.symm h7, Ne.symm h8, Ne.symm h9, Ne.symm h10, Ne.symm h11]
end Go.Eng
open Go Go.Proofs
namespace Go.Eng
set_option linter.unusedSimpArgs false
set_option linter.unusedVariables false
set_option maxRecDepth 100000
set_option maxHeartbeats 4000000

theorem first_same (s : Str) (hs : s.length ≤ 20000) : ((firstF s).kind = 0 ↔ (rfirst s).kind = 0 ∨ (rfirst s).text = []) ∧ ((firstF s).kind ≠ 0 → (rfirst s).kind = (firstF s).kind ∧ (rfirst s).text = (firstF s).text) := by
  by_cases hj : 0 < joinN s
  · have hf : firstF s = ⟨kindF (s.take (joinN s)), 0, s.take (joinN s)⟩ := if_pos hj
    have hr : rfirst s = ⟨rkindF (s.take (joinN s)), 0, s.take (joinN s)⟩ := if_pos hj
    have hl := joinN_le s
    have hk := (kind_same (s.take (joinN s)) (by rw [List.length_take]; omega)).1
    have hne : s.take (joinN s) ≠ [] := by
      intro h
      have := congrArg List.length h
      rw [List.length_take, List.length_nil] at this
      omega
    rw [hf, hr, hk]
    exact ⟨⟨fun h => .inl h, fun h => h.elim id (fun h => (hne h).elim)⟩, fun _ => ⟨rfl, rfl⟩⟩
  · have hr : rfirst s = ⟨4, 0, signF s⟩ := if_neg hj
    rw [hr, sign_same]
    by_cases hi : idxF (fun x => pfx s x) signs 0 < 0
    · have hf : firstF s = ⟨0, 0, []⟩ := by unfold firstF; rw [if_neg hj, if_pos hi]
      have hg : firstSign s = [] := if_pos hi
      rw [hf, hg]
      exact ⟨by simp, fun h => (h rfl).elim⟩
    · have hf : firstF s = ⟨4, 0, gt signs (idxF (fun x => pfx s x) signs 0).toNat⟩ := by unfold firstF; rw [if_neg hj, if_neg hi]
      have hg : firstSign s = gt signs (idxF (fun x => pfx s x) signs 0).toNat := if_neg hi
      have hlt := (idxF_lt (p := fun x => pfx s x) (l := signs) (i := 0)).1
      have h6 : ∀ x ∈ signs, x ≠ [] := by decide
      have h7 := h6 _ (gt_mem (l := signs) (i := (idxF (fun x => pfx s x) signs 0).toNat) (by rw [show signs.length = 13 from rfl] at *; omega))
      rw [hf, hg]
      exact ⟨by simp [h7], fun _ => ⟨rfl, rfl⟩⟩
theorem tokL_same : ∀ (n : Nat) (l : Str) (i : Nat), l.length ≤ n → l.length ≤ 20000 → tokL l i = readL l i
  | n, [], i, _, _ => by rw [tokL, readL]
  | 0, c :: r, i, h, _ => by simp at h
  | n + 1, c :: r, i, h, h2 => by
    simp only [List.length_cons] at h
    rw [tokL, readL]
    split
    · exact tokL_same n r (i + 1) (by omega) (by simp only [List.length_cons] at h2; omega)
    · obtain ⟨f1, f2⟩ := first_same (c :: r) h2
      by_cases hk : (firstF (c :: r)).kind = 0
      · rw [if_pos hk, if_pos (f1.1 hk)]
      · obtain ⟨g1, g2⟩ := f2 hk
        rw [if_neg hk, if_neg (fun h => hk (f1.2 h)), g1, g2]
        have ih := tokL_same n (r.drop ((firstF (c :: r)).text.length - 1)) (i + (firstF (c :: r)).text.length) (by simp; omega) (by simp only [List.length_cons] at h2; simp; omega)
        rw [ih]
theorem tokens_same (s : Str) (hs : s.length ≤ 20000) : tokensF s = if 0 ≤ (readR s).2 then ([], (readR s).2, 4) else ((readR s).1, 0, 0) := by
  have h := tokL_same s.length s 0 (Nat.le_refl _) hs
  unfold tokensF readR
  rw [if_neg (by omega), h]
  split
  · rename_i l e; rw [e]; simp
  · rename_i l i e; rw [e]; simp
theorem readR_neg (s : Str) (h : ¬ 0 ≤ (readR s).2) : (readR s).2 = -1 := by
  unfold readR at h ⊢
  split
  · rfl
  · rename_i l i e; rw [e] at h; simp at h
end Go.Eng
open Go Go.Proofs
namespace Go.Eng
set_option linter.unusedSimpArgs false
set_option linter.unusedVariables false
set_option maxRecDepth 100000
set_option maxHeartbeats 4000000

def Sim (l : List Tok) (e : Int) (q : PR) (g : Gt) : Prop := if g.bd < 0 then q = (g.t, l.drop g.nx, -1) ∧ g.nx ≤ l.length ∧ g.bd = -1 else q.2.2 = atF (l.drop g.bd.toNat) e ∧ 0 ≤ q.2.2
theorem sim_ok {l : List Tok} {e : Int} {q : PR} {g : Gt} (h1 : g.bd < 0) (h : q = (g.t, l.drop g.nx, -1)) (h2 : g.nx ≤ l.length) (h3 : g.bd = -1) : Sim l e q g := by unfold Sim; rw [if_pos h1]; exact ⟨h, h2, h3⟩
theorem sim_bad {l : List Tok} {e : Int} {q : PR} {g : Gt} (h1 : ¬ g.bd < 0) (h : q.2.2 = atF (l.drop g.bd.toNat) e) (h2 : 0 ≤ q.2.2) : Sim l e q g := by unfold Sim; rw [if_neg h1]; exact ⟨h, h2⟩
theorem Sim.ok {l : List Tok} {e : Int} {q : PR} {g : Gt} (h : Sim l e q g) (h1 : g.bd < 0) : q = (g.t, l.drop g.nx, -1) ∧ g.nx ≤ l.length ∧ g.bd = -1 := by unfold Sim at h; rwa [if_pos h1] at h
theorem Sim.bad {l : List Tok} {e : Int} {q : PR} {g : Gt} (h : Sim l e q g) (h1 : ¬ g.bd < 0) : q.2.2 = atF (l.drop g.bd.toNat) e ∧ 0 ≤ q.2.2 := by unfold Sim at h; rwa [if_neg h1] at h
theorem gt_drop {α : Type} [Inhabited α] (l : List α) (i j : Nat) : gt (l.drop i) j = gt l (i + j) := by simp [gt, List.getD]
theorem isF_G (l : List Tok) (i : Nat) (x : Str) : isF (l.drop i) x = isG l i x := by
  unfold isF isG
  rw [gt_drop, Nat.add_zero]
  congr 1
  simp only [List.length_drop, decide_eq_decide]
  omega
theorem drop1 (l : List Tok) (i : Nat) : (l.drop i).drop 1 = l.drop (i + 1) := by rw [List.drop_drop]
theorem loopF_bad {n : Nat} {e r : Int} {t : T} {l : List Tok} {b : Int} (h : ¬ b < 0) : loopF n e r t l b = (t, l, b) := by
  cases n with
  | zero => rw [loopF]
  | succ n => rw [loopF, if_neg h]
def btwOf (r : Int) (x : Str) : Option Btw := betweens.find? fun b => decide (b.row = r) && decide (b.text = x)
theorem nextF_of (r : Int) (l : List Tok) (i : Nat) : nextF r (l.drop i) = if i < l.length then btwOf r (gt l i).text else none := by
  unfold nextF btwOf
  generalize betweens = bs
  by_cases hi : i < l.length
  · rw [if_pos hi]
    induction bs with
    | nil => rfl
    | cons b bs ih =>
      rw [findB, List.find?_cons, isF_G, ih]
      have : isG l i b.text = decide (b.text = (gt l i).text) := by
        unfold isG; rw [decide_eq_true hi, Bool.true_and]; exact decide_eq_decide.2 eq_comm
      rw [this]
      by_cases h1 : b.row = r <;> by_cases h2 : b.text = (gt l i).text <;> simp [h1, h2]
  · rw [if_neg hi]
    induction bs with
    | nil => rfl
    | cons b bs ih =>
      rw [findB, isF_G, isG_ge hi, ih]; simp
theorem btw_op {r : Int} (hr : r = 1 ∨ r = 2 ∨ r = 5 ∨ r = 6) (x : Str) : (btwOf r x = none ∧ opF x r = 0) ∨ ∃ w, btwOf r x = some w ∧ opF x r ≠ 0 ∧ ∀ a b, combF w a b = .mk (opF x r) 0 [a, b] := by
  rcases hr with rfl | rfl | rfl | rfl
  · by_cases h1 : x = [111, 114]
    · subst h1; exact .inr ⟨_, rfl, by decide, fun a b => rfl⟩
    · left; simp [btwOf, betweens, opF, h1, Ne.symm h1]
  · by_cases h1 : x = [97, 110, 100]
    · subst h1; exact .inr ⟨_, rfl, by decide, fun a b => rfl⟩
    · left; simp [btwOf, betweens, opF, h1, Ne.symm h1]
  · by_cases h1 : x = [43]
    · subst h1; exact .inr ⟨_, rfl, by decide, fun a b => rfl⟩
    · by_cases h2 : x = [45]
      · subst h2; exact .inr ⟨_, rfl, by decide, fun a b => rfl⟩
      · left; simp [btwOf, betweens, opF, h1, Ne.symm h1, h2, Ne.symm h2]
  · by_cases h1 : x = [42]
    · subst h1; exact .inr ⟨_, rfl, by decide, fun a b => rfl⟩
    · by_cases h2 : x = [47]
      · subst h2; exact .inr ⟨_, rfl, by decide, fun a b => rfl⟩
      · by_cases h3 : x = [37]
        · subst h3; exact .inr ⟨_, rfl, by decide, fun a b => rfl⟩
        · left; simp [btwOf, betweens, opF, h1, Ne.symm h1, h2, Ne.symm h2, h3, Ne.symm h3]
theorem btw_cmp (x : Str) : (btwOf 4 x = none ∧ cmpB x = false) ∨ ∃ w, btwOf 4 x = some w ∧ cmpB x = true ∧ ∀ a b, combF w a b = cmpT x a b := by
  by_cases h1 : x = [61]
  · subst h1; exact .inr ⟨_, rfl, by decide, fun a b => rfl⟩
  by_cases h2 : x = [33, 61]
  · subst h2; exact .inr ⟨_, rfl, by decide, fun a b => rfl⟩
  by_cases h3 : x = [60]
  · subst h3; exact .inr ⟨_, rfl, by decide, fun a b => rfl⟩
  by_cases h4 : x = [60, 61]
  · subst h4; exact .inr ⟨_, rfl, by decide, fun a b => rfl⟩
  by_cases h5 : x = [62]
  · subst h5; exact .inr ⟨_, rfl, by decide, fun a b => rfl⟩
  by_cases h6 : x = [62, 61]
  · subst h6; exact .inr ⟨_, rfl, by decide, fun a b => rfl⟩
  left
  constructor
  · simp [btwOf, betweens, Ne.symm h1, Ne.symm h2, Ne.symm h3, Ne.symm h4, Ne.symm h5, Ne.symm h6]
  · simp [cmpB, h1, h2, h3, h4, h5, h6]
def GG (m : Nat) (l : List Tok) (i : Nat) (r : Int) : Gt := if r = 4 then cmpG m l i else rowG m l i r
structure OkT (l : List Tok) : Prop where
  pos : ∀ t ∈ l, 0 ≤ t.pos
  kind : ∀ t ∈ l, 1 ≤ t.kind
  num : ∀ t ∈ l, t.kind = 1 → (parse3F t.text).1 = .mk 1 (numberF t.text).1 []
  var : ∀ t ∈ l, t.kind = 2 → (parse3F t.text).1 = .mk 2 (numberF (t.text.drop 1)).1 []
theorem atF_pos {l : List Tok} (h : OkT l) {e : Int} (he : 0 ≤ e) (i : Nat) : 0 ≤ atF (l.drop i) e := by
  unfold atF
  split
  · rename_i hl
    exact h.pos _ (List.mem_of_mem_drop (gt_mem hl))
  · exact he
theorem sim_fail {l : List Tok} (h : OkT l) {e : Int} (he : 0 ≤ e) (i : Nat) (t : T) (l' : List Tok) : Sim l e (t, l', failF (l.drop i) e (-1)) (badG i) := by
  have hf : failF (l.drop i) e (-1) = atF (l.drop i) e := if_pos (by decide)
  refine sim_bad (by simp only [badG]; omega) ?_ ?_
  · simp only [hf, badG, Int.toNat_natCast]
  · simp only [hf]; exact atF_pos h he i
section
variable (l : List Tok) (e : Int) (hT : OkT l) (he : 0 ≤ e)
def SimAt (l : List Tok) (e : Int) (i : Nat) (r : Int) : Prop := ∀ n m : Nat, 20 * ((l.length : Int) - i) + 2 * (9 - r) ≤ n → 20 * ((l.length : Int) - i) + 2 * (9 - r) ≤ m → Sim l e (rowF n e r (l.drop i) (-1)) (GG m l i r)
theorem sim_loop (r : Int) (hr : r = 1 ∨ r = 2 ∨ r = 5 ∨ r = 6) : ∀ (k j : Nat), k = l.length - j → j ≤ l.length → (∀ i', j < i' → i' ≤ l.length → SimAt l e i' (r + 1)) → ∀ (n m : Nat) (t : T),
    20 * ((l.length : Int) - j) + 2 * (9 - r) - 1 ≤ n → 20 * ((l.length : Int) - j) + 2 * (9 - r) - 2 ≤ m → Sim l e (loopF n e r t (l.drop j) (-1)) (loopG m l ⟨t, j, -1⟩ r) := by
  intro k
  induction k using Nat.strongRecOn with
  | _ k ih =>
    intro j hk hj hrow n m t hn hm
    obtain ⟨n, rfl⟩ : ∃ n', n = n' + 1 := ⟨n - 1, by omega⟩
    have hr4 : ¬ r = 4 := by omega
    have hgg : ∀ m i, GG m l i (r + 1) = rowG m l i (r + 1) := fun m i => if_neg (by omega)
    rw [loopF, if_pos (by decide), nextF_of]
    have hnone : (¬ j < l.length ∨ opF (gt l j).text r = 0) → Sim l e (t, l.drop j, -1) (loopG m l ⟨t, j, -1⟩ r) := fun h => by
      rw [loopG_stop (g := ⟨t, j, -1⟩) m (by rintro ⟨_, h2, h3⟩; rcases h with h | h; exact h h2; exact h3 h)]
      exact sim_ok (show (-1 : Int) < 0 by decide) rfl hj rfl
    by_cases hjl : j < l.length
    · rw [if_pos hjl]
      rcases btw_op hr (gt l j).text with ⟨h1, h2⟩ | ⟨w, h1, h2, h3⟩
      · rw [h1]; exact hnone (.inr h2)
      · rw [h1]
        simp only [if_neg hr4, drop1]
        obtain ⟨m, rfl⟩ : ∃ m', m = m' + 1 := ⟨m - 1, by omega⟩
        rw [loopG, if_pos ⟨show (-1 : Int) < 0 by decide, hjl, h2⟩]
        simp only
        have hs := hrow (j + 1) (by omega) (by omega) n m (by omega) (by omega)
        rw [hgg] at hs
        have hin := rowG_in m l (j + 1) (r + 1) (by omega)
        by_cases hb : 0 ≤ (rowG m l (j + 1) (r + 1)).bd
        · rw [if_pos hb]
          have := hs.bad (by omega)
          rw [loopF_bad (by omega)]
          exact sim_bad (by omega) this.1 this.2
        · rw [if_neg hb]
          obtain ⟨q1, q2, q3⟩ := hs.ok (by omega)
          rw [q1, h3]
          have h5 := hin.2.2.2 (by omega)
          exact ih (l.length - (rowG m l (j + 1) (r + 1)).nx) (by omega) _ rfl q2 (fun i' h6 h7 => hrow i' (by omega) h7) n m _ (by omega) (by omega)
    · rw [if_neg hjl]; exact hnone (.inl hjl)
include hT he in
theorem sim_all : ∀ (K : Nat) (i : Nat) (r : Int), i ≤ l.length → 1 ≤ r → r ≤ 7 → 20 * ((l.length : Int) - i) + 2 * (9 - r) ≤ K → SimAt l e i r := by
  intro K
  induction K using Nat.strongRecOn with
  | _ K ih =>
    intro i r hi h1 h7 hK n m hn hm
    have rec_ : ∀ i' r', i' ≤ l.length → 1 ≤ r' → r' ≤ 7 → 20 * ((l.length : Int) - i') + 2 * (9 - r') < 20 * ((l.length : Int) - i) + 2 * (9 - r) → SimAt l e i' r' := fun i' r' a b c d => ih (20 * ((l.length : Int) - i') + 2 * (9 - r')).toNat (by omega) i' r' a b c (by omega)
    obtain ⟨n, rfl⟩ : ∃ n', n = n' + 1 := ⟨n - 1, by omega⟩
    obtain ⟨m, rfl⟩ : ∃ m', m = m' + 1 := ⟨m - 1, by omega⟩
    by_cases h3 : r = 3
    · subst h3
      have hG : GG (m + 1) l i 3 = rowG (m + 1) l i 3 := rfl
      rw [hG, rowF, if_pos rfl, rowG, if_pos rfl]
      obtain ⟨n, rfl⟩ : ∃ n', n = n' + 1 := ⟨n - 1, by omega⟩
      rw [aheadF, isF_G, drop1]
      by_cases hg : isG l i [110, 111, 116] = true
      · rw [if_pos hg, if_pos hg]
        have hlt := isG_lt hg
        have hs := rec_ (i + 1) 3 (by omega) (by omega) (by omega) (by omega) n m (by omega) (by omega)
        have hG2 : GG m l (i + 1) 3 = rowG m l (i + 1) 3 := rfl
        rw [hG2] at hs
        by_cases hb : 0 ≤ (rowG m l (i + 1) 3).bd
        · rw [if_pos hb]
          have := hs.bad (by omega)
          exact sim_bad (by omega) this.1 this.2
        · rw [if_neg hb]
          obtain ⟨q1, q2, q3⟩ := hs.ok (by omega)
          rw [q1]
          exact sim_ok (show (-1 : Int) < 0 by decide) rfl q2 rfl
      · rw [if_neg hg, if_neg hg]
        exact rec_ i 4 hi (by omega) (by omega) (by omega) n m (by omega) (by omega)
    by_cases h77 : r = 7
    · subst h77
      have hG : GG (m + 1) l i 7 = rowG (m + 1) l i 7 := rfl
      rw [hG, rowF, if_neg (by decide), if_pos rfl, rowG, if_neg (by decide), if_pos rfl]
      obtain ⟨n, rfl⟩ : ∃ n', n = n' + 1 := ⟨n - 1, by omega⟩
      obtain ⟨m, rfl⟩ : ∃ m', m = m' + 1 := ⟨m - 1, by omega⟩
      rw [aheadF, isF_G, drop1, oneG]
      by_cases hg : isG l i [45] = true
      · rw [if_pos hg, if_pos hg]
        have hlt := isG_lt hg
        have hs := rec_ (i + 1) 7 (by omega) (by omega) (by omega) (by omega) n (m + 1) (by omega) (by omega)
        have hG2 : GG (m + 1) l (i + 1) 7 = oneG m l (i + 1) := by
          show rowG (m + 1) l (i + 1) 7 = _
          rw [rowG, if_neg (by decide), if_pos rfl]
        rw [hG2] at hs
        by_cases hb : 0 ≤ (oneG m l (i + 1)).bd
        · rw [if_pos hb]
          have := hs.bad (by omega)
          exact sim_bad (by omega) this.1 this.2
        · rw [if_neg hb]
          obtain ⟨q1, q2, q3⟩ := hs.ok (by omega)
          rw [q1]
          exact sim_ok (show (-1 : Int) < 0 by decide) rfl q2 rfl
      · rw [if_neg hg, if_neg hg]
        obtain ⟨n, rfl⟩ : ∃ n', n = n' + 1 := ⟨n - 1, by omega⟩
        rw [show (7 : Int) + 1 = 8 from rfl, rowF, if_neg (by decide), if_neg (by decide), if_pos rfl]
        obtain ⟨n, rfl⟩ : ∃ n', n = n' + 1 := ⟨n - 1, by omega⟩
        rw [oneF, isF_G, drop1]
        by_cases hg2 : isG l i [40] = true
        · rw [if_pos hg2, if_pos hg2]
          have hlt := isG_lt hg2
          have hs := rec_ (i + 1) 1 (by omega) (by omega) (by omega) (by omega) n m (by omega) (by omega)
          have hG2 : GG m l (i + 1) 1 = rowG m l (i + 1) 1 := rfl
          rw [hG2] at hs
          simp only
          by_cases hb : 0 ≤ (rowG m l (i + 1) 1).bd
          · rw [if_pos hb]
            have := hs.bad (by omega)
            rw [if_neg (by omega)]
            exact sim_bad (by omega) this.1 this.2
          · rw [if_neg hb]
            obtain ⟨q1, q2, q3⟩ := hs.ok (by omega)
            rw [q1]
            simp only
            rw [if_pos (by decide), isF_G, drop1]
            by_cases hg3 : isG l (rowG m l (i + 1) 1).nx [41] = true
            · rw [if_pos hg3, if_neg (by rw [hg3]; decide)]
              exact sim_ok (show (-1 : Int) < 0 by decide) rfl (isG_lt hg3) rfl
            · rw [if_neg hg3, if_pos (by simpa using hg3)]
              exact sim_fail hT he _ _ _
        · rw [if_neg hg2, if_neg hg2]
          have e1 : (l.drop i).length = l.length - i := List.length_drop
          have e2 : gt (l.drop i) 0 = gt l i := by rw [gt_drop, Nat.add_zero]
          rw [e1, e2]
          by_cases hlt : i < l.length
          · have hmem := gt_mem hlt
            have hk := hT.kind _ hmem
            by_cases hk3 : (gt l i).kind > 2
            · rw [if_pos (.inr ⟨by omega, by omega⟩), if_pos (.inr hk3)]
              exact sim_fail hT he _ _ _
            · have n1 : ¬ (l.length - i = 0 ∨ (gt l i).kind ≠ 1 ∧ (gt l i).kind ≠ 2) := by omega
              have n2 : ¬ (l.length ≤ i ∨ (gt l i).kind > 2) := by omega
              rw [if_neg n1, if_neg n2]
              by_cases hk2 : (gt l i).kind = 2
              · rw [if_pos hk2, hT.var _ hmem hk2]
                exact sim_ok (show (-1 : Int) < 0 by decide) rfl (by simp only; omega) rfl
              · rw [if_neg hk2, hT.num _ hmem (by omega)]
                exact sim_ok (show (-1 : Int) < 0 by decide) rfl (by simp only; omega) rfl
          · rw [if_pos (.inl (by omega)), if_pos (.inl (by omega))]
            exact sim_fail hT he _ _ _
    by_cases h4 : r = 4
    · subst h4
      have hG : GG (m + 1) l i 4 = cmpG (m + 1) l i := rfl
      rw [hG, rowF, if_neg (by decide), if_neg (by decide), if_neg (by decide), cmpG]
      have hs := rec_ i 5 hi (by omega) (by omega) (by omega) n m (by omega) (by omega)
      have hG2 : ∀ i, GG m l i 5 = rowG m l i 5 := fun i => rfl
      rw [hG2] at hs
      have hin := rowG_in m l i 5 hi
      by_cases hb : 0 ≤ (rowG m l i 5).bd
      · rw [if_pos (.inl hb)]
        have := hs.bad (by omega)
        rw [show (4 : Int) + 1 = 5 from rfl, loopF_bad (by omega)]
        exact sim_bad (by omega) this.1 this.2
      · obtain ⟨q1, q2, q3⟩ := hs.ok (by omega)
        have h5 := hin.2.2.2 (by omega)
        rw [show (4 : Int) + 1 = 5 from rfl, q1]
        obtain ⟨n, rfl⟩ : ∃ n', n = n' + 1 := ⟨n - 1, by omega⟩
        rw [loopF, if_pos (show (-1 : Int) < 0 by decide), nextF_of]
        by_cases hlt : (rowG m l i 5).nx < l.length
        · rw [if_pos hlt, if_neg (by rintro (h | h) <;> omega)]
          rcases btw_cmp (gt l (rowG m l i 5).nx).text with ⟨c1, c2⟩ | ⟨w, c1, c2, c3⟩
          · rw [c1, if_pos c2]
            exact sim_ok (by omega) rfl q2 q3
          · rw [c1, if_neg (by rw [c2]; decide)]
            simp only [if_true, drop1]
            have hs2 := rec_ ((rowG m l i 5).nx + 1) 5 (by omega) (by omega) (by omega) (by omega) n m (by omega) (by omega)
            rw [hG2] at hs2
            by_cases hb2 : 0 ≤ (rowG m l ((rowG m l i 5).nx + 1) 5).bd
            · rw [if_pos hb2]
              have := hs2.bad (by omega)
              exact sim_bad (by omega) this.1 this.2
            · rw [if_neg hb2]
              obtain ⟨p1, p2, p3⟩ := hs2.ok (by omega)
              rw [show (4 : Int) + 1 = 5 from rfl, p1, c3]
              exact sim_ok (show (-1 : Int) < 0 by decide) rfl p2 rfl
        · rw [if_neg hlt, if_pos (.inr (by omega))]
          exact sim_ok (by omega) rfl q2 q3
    have hr : r = 1 ∨ r = 2 ∨ r = 5 ∨ r = 6 := by omega
    have hG : GG (m + 1) l i r = rowG (m + 1) l i r := if_neg h4
    have hG2 : ∀ m i, GG m l i (r + 1) = rowG m l i (r + 1) := fun m i => if_neg (by omega)
    rw [hG, rowF, if_neg h3, if_neg h77, if_neg (by omega), rowG, if_neg h3, if_neg h77]
    have hs := rec_ i (r + 1) hi (by omega) (by omega) (by omega) n m (by omega) (by omega)
    rw [hG2] at hs
    have hin := rowG_in m l i (r + 1) hi
    by_cases hb : 0 ≤ (rowG m l i (r + 1)).bd
    · have := hs.bad (by omega)
      rw [loopF_bad (by omega), loopG_stop m (by omega)]
      exact sim_bad (by omega) this.1 this.2
    · obtain ⟨q1, q2, q3⟩ := hs.ok (by omega)
      have h5 := hin.2.2.2 (by omega)
      rw [q1]
      have eta : rowG m l i (r + 1) = ⟨(rowG m l i (r + 1)).t, (rowG m l i (r + 1)).nx, -1⟩ := by rw [← q3]
      rw [eta]
      exact sim_loop l e r hr _ _ rfl q2 (fun i' h6 h7' => rec_ i' (r + 1) h7' (by omega) (by omega) (by omega)) n m _ (by omega) (by omega)
end
end Go.Eng
open Go Go.Proofs
namespace Go.Eng
set_option linter.unusedSimpArgs false
set_option linter.unusedVariables false
set_option maxRecDepth 100000
set_option maxHeartbeats 4000000

theorem kindF_range (s : Str) : 0 ≤ kindF s ∧ kindF s ≤ 3 := by
  unfold kindF
  repeat' split
  all_goals decide
theorem readL_okT : ∀ (n : Nat) (s : Str) (i : Nat), s.length ≤ n → s.length ≤ 20000 → ∀ t ∈ (readL s i).1, 0 ≤ t.pos ∧ 1 ≤ t.kind ∧ (t.kind = 1 → (parse3F t.text).1 = .mk 1 (numberF t.text).1 []) ∧ (t.kind = 2 → (parse3F t.text).1 = .mk 2 (numberF (t.text.drop 1)).1 [])
  | n, [], i, _, _ => by simp [readL]
  | 0, c :: r, i, h, _ => by simp at h
  | n + 1, c :: r, i, h, h2 => by
    have h3 := h2
    simp only [List.length_cons] at h h2
    rw [readL]
    split
    · exact readL_okT n r (i + 1) (by omega) (by omega)
    · split
      · simp
      · rename_i hk
        intro t ht
        simp only [List.mem_cons] at ht
        rcases ht with rfl | ht
        · simp only
          simp only [not_or] at hk
          refine ⟨by omega, ?_⟩
          by_cases hj : 0 < joinN (c :: r)
          · have hr : rfirst (c :: r) = ⟨rkindF ((c :: r).take (joinN (c :: r))), 0, (c :: r).take (joinN (c :: r))⟩ := if_pos hj
            rw [hr] at hk ⊢
            have hl := joinN_le (c :: r)
            obtain ⟨k1, k2, k3⟩ := kind_same ((c :: r).take (joinN (c :: r))) (by rw [List.length_take]; omega)
            have hrg := kindF_range ((c :: r).take (joinN (c :: r)))
            simp only [k1] at hk ⊢
            exact ⟨by omega, k2, k3⟩
          · have hr : rfirst (c :: r) = ⟨4, 0, signF (c :: r)⟩ := if_neg hj
            rw [hr]
            exact ⟨show (1 : Int) ≤ 4 by decide, fun h => by simp at h, fun h => by simp at h⟩
        · exact readL_okT n _ _ (by simp; omega) (by simp; omega) t ht
theorem readR_okT (s : Str) (hs : s.length ≤ 20000) : OkT (readR s).1 := by
  have h := readL_okT s.length s 0 (Nat.le_refl _) hs
  unfold readR
  split
  · rename_i l e
    rw [e] at h
    exact ⟨fun t ht => (h t ht).1, fun t ht => (h t ht).2.1, fun t ht => (h t ht).2.2.1, fun t ht => (h t ht).2.2.2⟩
  · exact ⟨fun t ht => by simp at ht, fun t ht => by simp at ht, fun t ht => by simp at ht, fun t ht => by simp at ht⟩
theorem parse_same (s : Str) : parseF s = ((parseRF s).t, (parseRF s).at_, (parseRF s).err) := by
  by_cases h20 : 20000 < s.length
  · have ht : tokensF s = ([], 0, 2) := by unfold tokensF; rw [if_pos h20]
    unfold parseF parseRF
    rw [ht, if_pos (by decide), if_pos h20]
  have ht := tokens_same s (by omega)
  by_cases hb : 0 ≤ (readR s).2
  · rw [if_pos hb] at ht
    unfold parseF parseRF
    rw [ht, if_pos (by simp), if_neg h20, if_pos hb]
  rw [if_neg hb] at ht
  have hT := readR_okT s (by omega)
  by_cases hl : 2000 < (readR s).1.length
  · unfold parseF parseRF
    rw [ht, if_neg (by simp), if_pos hl, if_neg h20, if_neg hb, if_pos hl]
  have hsim := sim_all (readR s).1 s.length hT (by omega) (20 * (readR s).1.length + 16) 0 1 (Nat.zero_le _) (by decide) (by decide) (by omega) (20 * (readR s).1.length + 16) (20 * (readR s).1.length + 16) (by omega) (by omega)
  have hG : GG (20 * (readR s).1.length + 16) (readR s).1 0 1 = topG s := rfl
  have hF : rowF (20 * (readR s).1.length + 16) s.length 1 ((readR s).1.drop 0) (-1) = rowTop s := by
    unfold rowTop; rw [ht, List.drop_zero]
  rw [hG, hF] at hsim
  have hin := rowG_in (20 * (readR s).1.length + 16) (readR s).1 0 1 (Nat.zero_le _)
  rw [show rowG (20 * (readR s).1.length + 16) (readR s).1 0 1 = topG s from rfl] at hin
  unfold parseF parseRF
  rw [ht, if_neg (by simp), if_neg hl, if_neg h20, if_neg hb, if_neg hl]
  by_cases hg : (topG s).bd < 0
  · obtain ⟨q1, q2, q3⟩ := hsim.ok hg
    by_cases hnx : (topG s).nx < (readR s).1.length
    · have he : endG s = badG (topG s).nx := if_pos ⟨hg, hnx⟩
      have hbt : badTop s = (gt (readR s).1 (topG s).nx).pos := by
        unfold badTop
        rw [q1]
        rw [if_pos ⟨show (-1 : Int) < 0 by decide, by simp only [List.length_drop]; omega⟩]
        unfold failF atF
        rw [if_pos (show (-1 : Int) < 0 by decide), if_pos (by simp only [List.length_drop]; omega), gt_drop, Nat.add_zero]
      have hpos := hT.pos _ (gt_mem hnx)
      rw [hbt, if_pos hpos, he, show (badG (topG s).nx).bd = ((topG s).nx : Int) from rfl, if_neg (by omega), if_pos (by omega), Int.toNat_natCast]
    · have he : endG s = topG s := if_neg (fun h => hnx h.2)
      have hbt : badTop s = -1 := by
        unfold badTop
        rw [q1]
        rw [if_neg (by simp only [List.length_drop]; omega)]
      have n1 : ¬ ((readR s).1.length : Int) ≤ (topG s).bd := by omega
      have n2 : ¬ 0 ≤ (topG s).bd := by omega
      rw [hbt, if_neg (by decide), he, if_neg n1, if_neg n2, q1]
      simp only
      split <;> rfl
  · obtain ⟨q1, q2⟩ := hsim.bad hg
    have he : endG s = topG s := if_neg (fun h => hg h.1)
    have hbt : badTop s = atF ((readR s).1.drop (topG s).bd.toNat) s.length := by
      unfold badTop
      rw [if_neg (by omega), q1]
    rw [hbt, if_pos (by omega), he]
    unfold atF
    by_cases hlen : ((readR s).1.length : Int) ≤ (topG s).bd
    · rw [if_pos hlen, if_neg (by simp only [List.length_drop]; omega)]
    · rw [if_neg hlen, if_pos (show 0 < ((readR s).1.drop (topG s).bd.toNat).length by simp only [List.length_drop]; omega), if_pos (show 0 ≤ (topG s).bd by omega), gt_drop, Nat.add_zero]
mutual
theorem eqT_refl : ∀ t : T, eqT t t = true
  | .mk o n k => by rw [eqT]; simp [T.op, T.n, T.kids, eqTs_refl k]
theorem eqTs_refl : ∀ l : List T, eqTs l l = true
  | [] => by rw [eqTs]
  | t :: l => by rw [eqTs, eqT_refl t, eqTs_refl l]; rfl
end
theorem parse_size (s : Str) : (parseF s).1.size < 4611686018427387904 := by
  have ht0 : t0.size < 4611686018427387904 := by decide
  unfold parseF
  split
  · exact ht0
  · split
    · exact ht0
    · split
      · exact ht0
      · split
        · exact ht0
        · have := rowF_size (20 * (tokensF s).1.length + 16) s.length 1 (tokensF s).1 (-1)
          show (rowTop s).1.size < _
          unfold rowTop
          omega
end Go.Eng
open Go Go.Proofs
namespace Go.Eng
set_option linter.unusedSimpArgs false
set_option linter.unusedVariables false
set_option maxRecDepth 100000
set_option maxHeartbeats 4000000

abbrev Tk := Int × Str
def Tok.tk (t : Tok) : Tk := (t.kind, t.text)
mutual
def tkF : Nat → T → List Tk
  | 0, _ => []
  | n + 1, t => if (ofF t).row = 8 then (if t.op = 2 then [(2, 36 :: digS t.n.toNat)] else [(1, digS t.n.toNat)]) else if (ofF t).row = 3 then (3, [110, 111, 116]) :: kidT n (gt t.kids 0) 3
    else if (ofF t).row = 7 then (4, [45]) :: kidT n (gt t.kids 0) 7
    else if (ofF t).deny = true then kidT n (gt (gt t.kids 0).kids 0) 5 ++ ((4, (ofF t).text) :: kidT n (gt (gt t.kids 0).kids 1) 5)
    else kidT n (gt t.kids 0) (if (ofF t).row = 4 then 5 else (ofF t).row) ++ ((if (ofF t).row ≤ 2 then 3 else 4, (ofF t).text) :: kidT n (gt t.kids 1) ((ofF t).row + 1))
def kidT : Nat → T → Int → List Tk
  | n, k, r => if (ofF k).row ≥ r then tkF n k else (4, [40]) :: (tkF n k ++ [(4, [41])])
end
theorem size_pos (t : T) : 1 ≤ t.size := by rw [T.size_eq]; omega
mutual
theorem tkF_fuel : ∀ (n m : Nat) (t : T), shapedF t = true → t.size ≤ n → t.size ≤ m → tkF n t = tkF m t
  | 0, m, t, _, h, _ => by have := size_pos t; omega
  | n + 1, 0, t, _, _, h => by have := size_pos t; omega
  | n + 1, m + 1, t, hs, hn, hm => by
    have hf := of_facts hs
    have hk := (sh_of hs).kids
    have hkid : ∀ k ∈ t.kids, ∀ r, kidT n k r = kidT m k r := fun k hkm r => kidT_fuel n m k r (hk k hkm) (by have := T.size_lt hkm; omega) (by have := T.size_lt hkm; omega)
    have hg : 1 ≤ t.kids.length → ∀ k ∈ (gt t.kids 0).kids, ∀ r, kidT n k r = kidT m k r := fun h1 k hkm r => by
      have hm0 := gt_mem (l := t.kids) (i := 0) (by omega)
      have := T.size_lt hkm
      have := T.size_lt hm0
      exact kidT_fuel n m k r ((sh_of (hk _ hm0)).kids k hkm) (by omega) (by omega)
    rw [tkF, tkF]
    split
    · rfl
    · split
      · have hl := hf.r3 (.inl ‹_›)
        rw [hkid _ (gt_mem (by omega))]
      · split
        · have hl := hf.r3 (.inr ‹_›)
          rw [hkid _ (gt_mem (by omega))]
        · split
          · obtain ⟨_, h1, h2⟩ := hf.dn ‹_›
            rw [hg h1 _ (gt_mem (by omega)), hg h1 _ (gt_mem (by omega))]
          · have hl := hf.nd (by simpa using ‹¬ (ofF t).deny = true›) ‹_› ‹_› ‹_›
            rw [hkid _ (gt_mem (l := t.kids) (i := 0) (by omega)), hkid _ (gt_mem (l := t.kids) (i := 1) (by omega))]
theorem kidT_fuel : ∀ (n m : Nat) (t : T) (r : Int), shapedF t = true → t.size ≤ n → t.size ≤ m → kidT n t r = kidT m t r
  | n, m, t, r, hs, hn, hm => by rw [kidT, kidT, tkF_fuel n m t hs hn hm]
end
def cnt (t : T) (r : Int) : Nat := (kidT t.size t r).length
def cnt0 (t : T) : Nat := (tkF t.size t).length
theorem cnt_eq (t : T) (r : Int) : cnt t r = if (ofF t).row ≥ r then cnt0 t else cnt0 t + 2 := by
  unfold cnt cnt0
  rw [kidT]
  split <;> simp
theorem cnt_mono (t : T) {r r' : Int} (h : r ≤ r') : cnt t r ≤ cnt t r' := by
  rw [cnt_eq, cnt_eq]
  split <;> split <;> omega
theorem cnt_le (t : T) (r : Int) : cnt t r ≤ cnt0 t + 2 ∧ cnt0 t ≤ cnt t r := by
  rw [cnt_eq]; split <;> omega
theorem kidT_len (n : Nat) (t : T) (r : Int) (hs : shapedF t = true) (hn : t.size ≤ n) : (kidT n t r).length = cnt t r := by
  unfold cnt; rw [kidT_fuel n t.size t r hs hn (Nat.le_refl _)]
end Go.Eng
open Go Go.Proofs
namespace Go.Eng
set_option linter.unusedSimpArgs false
set_option linter.unusedVariables false
set_option maxRecDepth 100000
set_option maxHeartbeats 4000000

def rowO (o : Int) : Int := if o = 14 then 1 else if o = 13 then 2 else if o = 5 ∨ o = 6 then 5 else if o = 7 ∨ o = 8 ∨ o = 9 then 6 else 4
theorem bin_of {o : Int} (h1 : 5 ≤ o) (h2 : o ≤ 14) (a b : T) : (ofF (.mk o 0 [a, b])).row = rowO o ∧ (ofF (.mk o 0 [a, b])).deny = false := by
  rw [ofF_val ⟨by simp only [T.op]; omega, by simp only [T.op]; omega⟩]
  have : o = 5 ∨ o = 6 ∨ o = 7 ∨ o = 8 ∨ o = 9 ∨ o = 10 ∨ o = 11 ∨ o = 12 ∨ o = 13 ∨ o = 14 := by omega
  rcases this with e | e | e | e | e | e | e | e | e | e <;> subst e <;> exact ⟨rfl, rfl⟩
theorem bin_sh {o : Int} (h1 : 5 ≤ o) (h2 : o ≤ 14) {a b : T} (sa : shapedF a = true) (sb : shapedF b = true) : shapedF (.mk o 0 [a, b]) = true := by
  have hk := words_kids o.toNat (by omega) (by omega)
  rw [shapedF, if_neg (by omega), if_neg (by omega), if_neg (by rw [hk]; simp only [List.length_cons, List.length_nil]; omega)]
  simp [shapedFs, sa, sb]
theorem un_sh {o : Int} (h : o = 3 ∨ o = 4) {a : T} (sa : shapedF a = true) : shapedF (.mk o 0 [a]) = true := by
  have hk : (gt words o.toNat).kids = 1 := by rcases h with rfl | rfl <;> rfl
  rw [shapedF, if_neg (by omega), if_neg (by omega), if_neg (by rw [hk]; simp only [List.length_cons, List.length_nil]; omega)]
  simp [shapedFs, sa]
theorem cnt0_bin {o : Int} (h1 : 5 ≤ o) (h2 : o ≤ 14) {a b : T} (sa : shapedF a = true) (sb : shapedF b = true) :
    cnt0 (.mk o 0 [a, b]) = cnt a (if rowO o = 4 then 5 else rowO o) + 1 + cnt b (rowO o + 1) := by
  obtain ⟨q1, q2⟩ := bin_of h1 h2 a b
  have hr : rowO o ≠ 8 ∧ rowO o ≠ 3 ∧ rowO o ≠ 7 := by unfold rowO; repeat' split
                                                       all_goals decide
  unfold cnt0
  rw [T.size_eq, tkF, q1, q2, if_neg hr.1, if_neg hr.2.1, if_neg hr.2.2, if_neg (by decide)]
  have e0 : gt (T.kids (.mk o 0 [a, b])) 0 = a := rfl
  have e1 : gt (T.kids (.mk o 0 [a, b])) 1 = b := rfl
  rw [e0, e1]
  simp only [List.length_append, List.length_cons, T.kids, T.sizes]
  rw [kidT_len _ a _ sa (by omega), kidT_len _ b _ sb (by omega)]
  omega
theorem cnt0_neg {a : T} (sa : shapedF a = true) : (ofF (.mk 3 0 [a])).row = 7 ∧ cnt0 (.mk 3 0 [a]) = 1 + cnt a 7 := by
  have hr : (ofF (.mk 3 0 [a])).row = 7 := by rw [ofF_val (t := .mk 3 0 [a]) ⟨show (1 : Int) ≤ 3 by decide, show (3 : Int) ≤ 14 by decide⟩]; rfl
  refine ⟨hr, ?_⟩
  unfold cnt0
  rw [T.size_eq, tkF, hr, if_neg (by decide), if_neg (by decide), if_pos rfl]
  have e0 : gt (T.kids (.mk 3 0 [a])) 0 = a := rfl
  rw [e0]
  simp only [List.length_cons, T.kids, T.sizes]
  rw [kidT_len _ a _ sa (by omega)]
  omega
theorem cnt0_not {a : T} (sa : shapedF a = true) (h : a.op ≠ 10) : (ofF (.mk 4 0 [a])).row = 3 ∧ cnt0 (.mk 4 0 [a]) = 1 + cnt a 3 := by
  have hx : ofX (.mk 4 0 [a]) = ⟨[], 3, 0, false, false⟩ := by
    unfold ofX
    rw [if_pos (show (T.mk 4 0 [a]).op = 4 from rfl)]
    exact if_neg h
  have hr : (ofF (.mk 4 0 [a])).row = 3 := by rw [ofF_val ⟨by simp only [T.op]; decide, by simp only [T.op]; decide⟩, hx]
  refine ⟨hr, ?_⟩
  unfold cnt0
  rw [T.size_eq, tkF, hr, if_neg (by decide), if_pos rfl]
  have e0 : gt (T.kids (.mk 4 0 [a])) 0 = a := rfl
  rw [e0]
  simp only [List.length_cons, T.kids, T.sizes]
  rw [kidT_len _ a _ sa (by omega)]
  omega
theorem cnt0_ne {a b : T} (sa : shapedF a = true) (sb : shapedF b = true) : (ofF (.mk 4 0 [.mk 10 0 [a, b]])).row = 4 ∧ cnt0 (.mk 4 0 [.mk 10 0 [a, b]]) = cnt a 5 + 1 + cnt b 5 := by
  have hx : ofX (.mk 4 0 [.mk 10 0 [a, b]]) = ⟨[33, 61], 4, 10, false, true⟩ := rfl
  have ho : ofF (.mk 4 0 [.mk 10 0 [a, b]]) = ⟨[33, 61], 4, 10, false, true⟩ := by rw [ofF_val ⟨by simp only [T.op]; decide, by simp only [T.op]; decide⟩, hx]
  refine ⟨by rw [ho], ?_⟩
  unfold cnt0
  rw [T.size_eq, tkF, ho]
  rw [if_neg (show ¬ (4 : Int) = 8 by decide), if_neg (show ¬ (4 : Int) = 3 by decide), if_neg (show ¬ (4 : Int) = 7 by decide), if_pos (show true = true from rfl)]
  have e0 : gt (gt (T.kids (.mk 4 0 [.mk 10 0 [a, b]])) 0).kids 0 = a := rfl
  have e1 : gt (gt (T.kids (.mk 4 0 [.mk 10 0 [a, b]])) 0).kids 1 = b := rfl
  rw [e0, e1]
  simp only [List.length_append, List.length_cons, T.kids, T.sizes, T.size]
  rw [kidT_len _ a _ sa (by omega), kidT_len _ b _ sb (by omega)]
  omega
theorem cnt0_atom {t : T} (h : t.op = 1 ∨ t.op = 2) : (ofF t).row = 8 ∧ cnt0 t = 1 := by
  have hr : (ofF t).row = 8 := by
    rw [ofF_val (by omega)]
    rcases h with h | h <;> simp [ofX, h]
  refine ⟨hr, ?_⟩
  unfold cnt0
  rw [T.size_eq, tkF, if_pos hr]
  split <;> rfl
theorem row_ge {t : T} (hs : shapedF t = true) : 1 ≤ (ofF t).row := (of_facts hs).row.1
theorem op_bin {x : Str} {r : Int} (h : opF x r ≠ 0) : 5 ≤ opF x r ∧ opF x r ≤ 14 ∧ rowO (opF x r) = r ∧ r ≠ 4 := by
  unfold opF at *
  split
  · rename_i hr; rw [if_pos hr] at h
    split
    · exact ⟨by decide, by decide, by rw [hr]; rfl, by omega⟩
    · rename_i hx; rw [if_neg hx] at h; exact (h rfl).elim
  · rename_i hr; rw [if_neg hr] at h
    split
    · rename_i hr2; rw [if_pos hr2] at h
      split
      · exact ⟨by decide, by decide, by rw [hr2]; rfl, by omega⟩
      · rename_i hx; rw [if_neg hx] at h; exact (h rfl).elim
    · rename_i hr2; rw [if_neg hr2] at h
      split
      · rename_i hr3; rw [if_pos hr3] at h
        split
        · exact ⟨by decide, by decide, by rw [hr3]; rfl, by omega⟩
        · rename_i hx; rw [if_neg hx] at h
          split
          · exact ⟨by decide, by decide, by rw [hr3]; rfl, by omega⟩
          · rename_i hx2; rw [if_neg hx2] at h; exact (h rfl).elim
      · rename_i hr3; rw [if_neg hr3] at h
        split
        · rename_i hr4; rw [if_pos hr4] at h
          split
          · exact ⟨by decide, by decide, by rw [hr4]; rfl, by omega⟩
          · rename_i hx; rw [if_neg hx] at h
            split
            · exact ⟨by decide, by decide, by rw [hr4]; rfl, by omega⟩
            · rename_i hx2; rw [if_neg hx2] at h
              split
              · exact ⟨by decide, by decide, by rw [hr4]; rfl, by omega⟩
              · rename_i hx3; rw [if_neg hx3] at h; exact (h rfl).elim
        · rename_i hr4; rw [if_neg hr4] at h; exact (h rfl).elim
theorem cmp_cnt (x : Str) {a b : T} (sa : shapedF a = true) (sb : shapedF b = true) : shapedF (cmpT x a b) = true ∧ cnt (cmpT x a b) 4 = cnt a 5 + 1 + cnt b 5 := by
  have two : ∀ o a b, 10 ≤ o → o ≤ 12 → shapedF a = true → shapedF b = true → shapedF (.mk o 0 [a, b]) = true ∧ cnt (.mk o 0 [a, b]) 4 = cnt a 5 + 1 + cnt b 5 := fun o a b h1 h2 sa sb => by
    have hr : rowO o = 4 := by unfold rowO; rw [if_neg (by omega), if_neg (by omega), if_neg (by omega), if_neg (by omega)]
    refine ⟨bin_sh (by omega) (by omega) sa sb, ?_⟩
    rw [cnt_eq, (bin_of (by omega) (by omega) a b).1, hr, if_pos (by decide), cnt0_bin (by omega) (by omega) sa sb, hr, if_pos rfl]
    rfl
  unfold cmpT
  split
  · obtain ⟨q1, q2⟩ := cnt0_ne sa sb
    exact ⟨un_sh (.inr rfl) (bin_sh (by decide) (by decide) sa sb), by rw [cnt_eq, q1, if_pos (by decide), q2]⟩
  · split
    · exact two _ _ _ (by decide) (by decide) sa sb
    · split
      · exact two _ _ _ (by decide) (by decide) sa sb
      · split
        · obtain ⟨p1, p2⟩ := two 11 b a (by decide) (by decide) sb sa
          exact ⟨p1, by rw [p2]; omega⟩
        · split
          · obtain ⟨p1, p2⟩ := two 12 b a (by decide) (by decide) sb sa
            exact ⟨p1, by rw [p2]; omega⟩
          · exact two _ _ _ (by decide) (by decide) sa sb
def OkS (l : List Tok) : Prop := ∀ t ∈ l, t.kind ≤ 2 → shapedF (parse3F t.text).1 = true ∧ ((parse3F t.text).1.op = 1 ∨ (parse3F t.text).1.op = 2)
def Cn (i : Nat) (r : Int) (g : Gt) : Prop := g.bd < 0 → shapedF g.t = true ∧ cnt g.t r + i ≤ g.nx
theorem Cn.mono {i : Nat} {r r' : Int} {g : Gt} (h : Cn i r' g) (hr : r ≤ r') : Cn i r g := fun hb => ⟨(h hb).1, by have := (h hb).2; have := cnt_mono g.t hr; omega⟩
theorem cn_bad {i : Nat} {r : Int} (k : Nat) : Cn i r (badG k) := fun hb => by simp only [badG] at hb; omega
theorem cn_not {a : T} (sa : shapedF a = true) : shapedF (.mk 4 0 [a]) = true ∧ cnt (.mk 4 0 [a]) 3 ≤ cnt a 3 + 1 := by
  refine ⟨un_sh (.inr rfl) sa, ?_⟩
  by_cases h : a.op = 10
  · obtain ⟨o, n, k⟩ := a
    simp only [T.op] at h
    subst h
    have hl := (sh_len sa).2.2 (by simp only [T.op]; decide)
    have hn : n = 0 := by
      have := sa
      rw [shapedF] at this
      rw [if_neg (by decide), if_neg (by decide)] at this
      split at this
      · cases this
      · rename_i hc; simp only [not_or] at hc; exact Decidable.of_not_not hc.2.2.1
    subst hn
    simp only [T.kids] at hl
    match k, hl with
    | [x, y], _ =>
      have hk := (sh_of sa).kids
      have sx := hk x (by simp [T.kids])
      have sy := hk y (by simp [T.kids])
      obtain ⟨q1, q2⟩ := cnt0_ne sx sy
      have hb := (bin_of (o := 10) (by decide) (by decide) x y).1
      have hc := cnt0_bin (o := 10) (by decide) (by decide) sx sy
      have hr : rowO 10 = 4 := rfl
      rw [hr] at hb hc
      rw [if_pos rfl] at hc
      have hcc : cnt (.mk 10 0 [x, y]) 3 = cnt x 5 + 1 + cnt y (4 + 1) := by rw [cnt_eq, hb, if_pos (by decide), hc]
      rw [cnt_eq, q1, if_pos (by decide), q2, hcc]
      have : cnt y (4 + 1) = cnt y 5 := rfl
      omega
  · obtain ⟨q1, q2⟩ := cnt0_not sa h
    rw [cnt_eq, q1, if_pos (by decide), q2]
    omega
mutual
theorem rowG_c : ∀ (n : Nat) (l : List Tok) (i : Nat) (r : Int), OkS l → i ≤ l.length → Cn i r (rowG n l i r)
  | 0, l, i, r, _, h => by rw [rowG]; exact cn_bad i
  | n + 1, l, i, r, hS, h => by
    rw [rowG]
    split
    · rename_i h3
      subst h3
      split
      · rename_i hg
        have h1 := rowG_c n l (i + 1) 3 hS (isG_lt hg)
        split
        · exact fun hb => by omega
        · intro _
          obtain ⟨p1, p2⟩ := h1 (by omega)
          obtain ⟨q1, q2⟩ := cn_not p1
          exact ⟨q1, by simp only; omega⟩
      · exact (cmpG_c n l i hS h).mono (by decide)
    · rename_i h3
      split
      · rename_i h7
        subst h7
        exact oneG_c n l i hS h
      · exact loopG_c n l _ r i hS (rowG_in n l i (r + 1) h) ((rowG_c n l i (r + 1) hS h).mono (by omega))
theorem loopG_c : ∀ (n : Nat) (l : List Tok) (g : Gt) (r : Int) (i : Nat), OkS l → InG l i g → Cn i r g → Cn i r (loopG n l g r)
  | 0, l, g, r, i, _, hi, h => by rw [loopG]; exact h
  | n + 1, l, g, r, i, hS, hi, h => by
    rw [loopG]
    split
    · rename_i hc
      have h1 := rowG_in n l (g.nx + 1) (r + 1) hc.2.1
      have h2 := rowG_c n l (g.nx + 1) (r + 1) hS hc.2.1
      split
      · exact fun hb => by omega
      · obtain ⟨p1, p2⟩ := h hc.1
        obtain ⟨p3, p4⟩ := h2 (by omega)
        obtain ⟨o1, o2, o3, o4⟩ := op_bin hc.2.2
        have h4 := hi.2.2.2 hc.1
        have h5 := h1.2.2.2 (by omega)
        refine loopG_c n l _ r i hS ⟨h1.1, by simp only; omega, by simp only; omega, fun _ => by simp only; omega⟩ (fun _ => ⟨bin_sh o1 o2 p1 p3, ?_⟩)
        simp only
        rw [cnt_eq, (bin_of o1 o2 _ _).1, o3, if_pos (Int.le_refl _), cnt0_bin o1 o2 p1 p3, o3, if_neg o4]
        omega
    · exact h
theorem cmpG_c : ∀ (n : Nat) (l : List Tok) (i : Nat), OkS l → i ≤ l.length → Cn i 4 (cmpG n l i)
  | 0, l, i, _, h => by rw [cmpG]; exact cn_bad i
  | n + 1, l, i, hS, h => by
    rw [cmpG]
    have h0 := rowG_c n l i 5 hS h
    have h0' : Cn i 4 (rowG n l i 5) := h0.mono (by decide)
    split
    · exact h0'
    · rename_i hc
      split
      · exact h0'
      · have h1 := rowG_c n l ((rowG n l i 5).nx + 1) 5 hS (by omega)
        split
        · exact fun hb => by omega
        · intro _
          obtain ⟨p1, p2⟩ := h0 (by omega)
          obtain ⟨p3, p4⟩ := h1 (by omega)
          obtain ⟨q1, q2⟩ := cmp_cnt (gt l (rowG n l i 5).nx).text p1 p3
          exact ⟨q1, by simp only; omega⟩
theorem oneG_c : ∀ (n : Nat) (l : List Tok) (i : Nat), OkS l → i ≤ l.length → Cn i 7 (oneG n l i)
  | 0, l, i, _, h => by rw [oneG]; exact cn_bad i
  | n + 1, l, i, hS, h => by
    rw [oneG]
    split
    · rename_i hg
      have h1 := oneG_c n l (i + 1) hS (isG_lt hg)
      split
      · exact fun hb => by omega
      · intro _
        obtain ⟨p1, p2⟩ := h1 (by omega)
        obtain ⟨q1, q2⟩ := cnt0_neg p1
        refine ⟨un_sh (.inl rfl) p1, ?_⟩
        simp only
        rw [cnt_eq, q1, if_pos (by decide), q2]
        omega
    · split
      · rename_i hg2
        have h1 := rowG_c n l (i + 1) 1 hS (isG_lt hg2)
        split
        · exact fun hb => by omega
        · split
          · exact cn_bad _
          · intro _
            obtain ⟨p1, p2⟩ := h1 (by omega)
            refine ⟨p1, ?_⟩
            have h2 := row_ge p1
            have h3 : cnt (rowG n l (i + 1) 1).t 1 = cnt0 (rowG n l (i + 1) 1).t := by rw [cnt_eq, if_pos h2]
            have h4 := (cnt_le (rowG n l (i + 1) 1).t 7).1
            simp only
            omega
      · split
        · exact cn_bad i
        · rename_i hc
          intro _
          simp only [not_or] at hc
          obtain ⟨p1, p2⟩ := hS _ (gt_mem (l := l) (i := i) (by omega)) (by omega)
          obtain ⟨q1, q2⟩ := cnt0_atom p2
          refine ⟨p1, ?_⟩
          simp only
          rw [cnt_eq, q1, if_pos (by decide), q2]
          omega
end
end Go.Eng
open Go Go.Proofs
namespace Go.Eng
set_option linter.unusedSimpArgs false
set_option linter.unusedVariables false
set_option maxRecDepth 100000
set_option maxHeartbeats 4000000

def fl (s : Str) : Nat := if 0 < joinN s then joinN s else if s.take 2 = [33, 61] ∨ s.take 2 = [60, 61] ∨ s.take 2 = [62, 61] then 2 else 1
theorem fl_le {s : Str} (h : s ≠ []) : 1 ≤ fl s ∧ fl s ≤ s.length := by
  have hj := joinN_le s
  have hp := List.length_pos_iff.2 h
  unfold fl
  split
  · omega
  · split
    · rename_i h2
      have : 2 ≤ s.length := by
        rcases h2 with h2 | h2 | h2 <;> (have := congrArg List.length h2; simp at this; omega)
      omega
    · omega
def nL (s : Str) : Nat :=
  match s with
  | [] => 0
  | c :: r => if c = 32 then nL r else 1 + nL (r.drop (fl (c :: r) - 1))
termination_by s.length
decreasing_by all_goals (simp; try omega)
theorem nL_nil : nL [] = 0 := by rw [nL]
theorem nL_sp (r : Str) : nL (32 :: r) = nL r := by rw [nL, if_pos rfl]
theorem nL_tok {s : Str} (h : s ≠ []) (hc : gt s 0 ≠ 32) : nL s = 1 + nL (s.drop (fl s)) := by
  cases s with
  | nil => exact (h rfl).elim
  | cons c r =>
    have hc' : ¬ c = 32 := hc
    rw [nL, if_neg hc']
    have := fl_le (s := c :: r) (by simp)
    rw [show (c :: r).drop (fl (c :: r)) = r.drop (fl (c :: r) - 1) by
      obtain ⟨k, hk⟩ : ∃ k, fl (c :: r) = k + 1 := ⟨fl (c :: r) - 1, by omega⟩
      rw [hk]; simp]
theorem joinN_app : ∀ (x y : Str), joinN (x ++ y) = if joinN x = x.length then x.length + joinN y else joinN x
  | [], y => by simp [joinN]
  | c :: x, y => by
    rw [List.cons_append, joinN, joinN, joinN_app x y]
    by_cases hc : joinedF c.toNat = true
    · rw [if_pos hc, if_pos hc]
      by_cases h : joinN x = x.length
      · rw [if_pos h, if_pos (by simp [h])]; simp only [List.length_cons]; omega
      · rw [if_neg h, if_neg (by simp; omega)]
    · rw [if_neg hc, if_neg hc, if_neg (by simp)]
theorem nL_drop_join : ∀ (n : Nat) (y : Str), y.length ≤ n → nL (y.drop (joinN y)) ≤ nL y
  | n, y, _ => by
    by_cases h : 0 < joinN y
    · have hne : y ≠ [] := by intro e; rw [e] at h; simp [joinN] at h
      have hc : gt y 0 ≠ 32 := by
        cases y with
        | nil => exact (hne rfl).elim
        | cons c r =>
          intro e
          have e' : c = 32 := e
          subst e'
          simp only [joinN] at h
          rw [if_neg (by decide)] at h
          omega
      rw [nL_tok hne hc]
      have : fl y = joinN y := if_pos h
      rw [this]; omega
    · rw [show joinN y = 0 by omega, List.drop_zero]; exact Nat.le_refl _
theorem fl_app {x y : Str} (h : x ≠ []) (hlt : fl x < x.length) : fl (x ++ y) = fl x := by
  have hja := joinN_app x y
  unfold fl at hlt ⊢
  by_cases hj : 0 < joinN x
  · rw [if_pos hj] at hlt ⊢
    have hne : joinN x ≠ x.length := by omega
    rw [hja, if_neg hne, if_pos hj]
  · rw [if_neg hj] at hlt ⊢
    have hpos := List.length_pos_iff.2 h
    have hne : joinN x ≠ x.length := by omega
    rw [hja, if_neg hne, if_neg hj]
    have h2 : 2 ≤ x.length := by split at hlt <;> omega
    have : (x ++ y).take 2 = x.take 2 := List.take_append_of_le_length h2
    rw [this]
theorem nL_app : ∀ (n : Nat) (x y : Str), x.length ≤ n → nL (x ++ y) ≤ nL x + nL y
  | n, [], y, _ => by rw [nL_nil]; simp
  | 0, c :: x, y, h => by simp at h
  | n + 1, c :: x, y, h => by
    by_cases hc : c = 32
    · subst hc
      rw [List.cons_append, nL_sp, nL_sp]
      exact nL_app n x y (by simpa using h)
    have hx : c :: x ≠ [] := by simp
    have hxy : (c :: x) ++ y ≠ [] := by simp
    have hg : gt (c :: x) 0 ≠ 32 := hc
    have hg2 : gt ((c :: x) ++ y) 0 ≠ 32 := hc
    rw [nL_tok hx hg, nL_tok hxy hg2]
    have hf := fl_le hx
    by_cases hlt : fl (c :: x) < (c :: x).length
    · rw [fl_app hx hlt, List.drop_append_of_le_length (by omega)]
      have := nL_app n ((c :: x).drop (fl (c :: x))) y (by simp at h ⊢; omega)
      omega
    · have heq : fl (c :: x) = (c :: x).length := by omega
      rw [heq, List.drop_length, nL_nil]
      have hja := joinN_app (c :: x) y
      by_cases hj : 0 < joinN (c :: x)
      · have hfx : fl (c :: x) = joinN (c :: x) := if_pos hj
        have hjl : joinN (c :: x) = (c :: x).length := by omega
        rw [if_pos hjl] at hja
        have hfxy : fl ((c :: x) ++ y) = (c :: x).length + joinN y := by
          rw [← hja]; exact if_pos (by omega)
        rw [hfxy, List.drop_length_add_append]
        have := nL_drop_join y.length y (Nat.le_refl _)
        omega
      · have hjz : joinN (c :: x) = 0 := by omega
        have hjn : joinN (c :: x) ≠ (c :: x).length := by rw [hjz]; simp
        rw [if_neg hjn, hjz] at hja
        have hfxy : fl ((c :: x) ++ y) = if ((c :: x) ++ y).take 2 = [33, 61] ∨ ((c :: x) ++ y).take 2 = [60, 61] ∨ ((c :: x) ++ y).take 2 = [62, 61] then 2 else 1 := by
          unfold fl; rw [hja, if_neg (by omega)]
        have hfx : fl (c :: x) = if (c :: x).take 2 = [33, 61] ∨ (c :: x).take 2 = [60, 61] ∨ (c :: x).take 2 = [62, 61] then 2 else 1 := by
          unfold fl; rw [hjz, if_neg (by omega)]
        by_cases h2 : 2 ≤ (c :: x).length
        · have ht : ((c :: x) ++ y).take 2 = (c :: x).take 2 := List.take_append_of_le_length h2
          rw [hfxy, ht, ← hfx, heq, List.drop_append_length]
          omega
        · have hx0 : x = [] := by
            cases x with
            | nil => rfl
            | cons d r => simp at h2
          subst hx0
          rw [hfxy]
          split
          · rename_i h3
            cases y with
            | nil => simp at h3
            | cons d y =>
              have hd : d = 61 := by
                simp only [List.cons_append, List.nil_append, List.take_succ_cons, List.take_zero, List.cons.injEq, and_true] at h3
                rcases h3 with h | h | h <;> exact h.2
              subst hd
              have e1 : ([c] ++ 61 :: y).drop 2 = y := rfl
              rw [e1]
              have e2 : nL (61 :: y) = 1 + nL y := by
                rw [nL_tok (by simp) (by show (61 : UInt8) ≠ 32; decide)]
                have : fl (61 :: y) = 1 := by
                  unfold fl
                  have hj : joinN (61 :: y) = 0 := by rw [joinN, if_neg (by decide)]
                  rw [hj, if_neg (by omega)]
                  exact if_neg (by simp)
                rw [this]; rfl
              omega
          · have e1 : ([c] ++ y).drop 1 = y := rfl
            rw [e1]; omega
theorem nL_br (b : UInt8) (hb : b = 40 ∨ b = 41) : ∀ (n : Nat) (x y : Str), x.length ≤ n → nL (x ++ b :: y) = nL x + 1 + nL y
  | n, [], y, _ => by
    rw [nL_nil, List.nil_append]
    have hj : joinN (b :: y) = 0 := by rw [joinN, if_neg (by rcases hb with rfl | rfl <;> decide)]
    have hf : fl (b :: y) = 1 := by
      unfold fl
      rw [hj, if_neg (by omega)]
      exact if_neg (by rcases hb with rfl | rfl <;> simp)
    rw [nL_tok (by simp) (by show b ≠ 32; rcases hb with rfl | rfl <;> decide), hf]
    simp
  | 0, c :: x, y, h => by simp at h
  | n + 1, c :: x, y, h => by
    by_cases hc : c = 32
    · subst hc
      rw [List.cons_append, nL_sp, nL_sp]
      exact nL_br b hb n x y (by simpa using h)
    have hx : c :: x ≠ [] := by simp
    have hf := fl_le hx
    have hfe : fl ((c :: x) ++ b :: y) = fl (c :: x) := by
      by_cases hlt : fl (c :: x) < (c :: x).length
      · exact fl_app hx hlt
      · have heq : fl (c :: x) = (c :: x).length := by omega
        have hja := joinN_app (c :: x) (b :: y)
        have hjb : joinN (b :: y) = 0 := by rw [joinN, if_neg (by rcases hb with rfl | rfl <;> decide)]
        rw [hjb, Nat.add_zero] at hja
        have hje : joinN ((c :: x) ++ b :: y) = joinN (c :: x) := by
          rw [hja]; split
          · rename_i h; exact h.symm
          · rfl
        unfold fl
        rw [hje]
        split
        · rfl
        · by_cases h2 : 2 ≤ (c :: x).length
          · have ht : ((c :: x) ++ b :: y).take 2 = (c :: x).take 2 := List.take_append_of_le_length h2
            rw [ht]
          · have hx0 : x = [] := by
              cases x with
              | nil => rfl
              | cons d r => simp at h2
            subst hx0
            rw [if_neg (by rcases hb with rfl | rfl <;> simp), if_neg (by simp)]
    have hg : gt (c :: x) 0 ≠ 32 := hc
    have hg2 : gt ((c :: x) ++ b :: y) 0 ≠ 32 := hc
    rw [nL_tok hx hg, nL_tok (by simp) hg2, hfe, List.drop_append_of_le_length hf.2]
    rw [nL_br b hb n ((c :: x).drop (fl (c :: x))) y (by simp at h ⊢; omega)]
    omega
end Go.Eng
open Go Go.Proofs
namespace Go.Eng
set_option linter.unusedSimpArgs false
set_option linter.unusedVariables false
set_option maxRecDepth 100000
set_option maxHeartbeats 4000000

theorem pfx_two (s : Str) (x y : UInt8) : pfx s [x, y] = decide (s.take 2 = [x, y]) := by
  unfold pfx
  rw [decide_eq_decide, List.prefix_iff_eq_take]
  exact eq_comm
theorem sign_len (s : Str) (h : firstSign s ≠ []) : (firstSign s).length = if s.take 2 = [33, 61] ∨ s.take 2 = [60, 61] ∨ s.take 2 = [62, 61] then 2 else 1 := by
  have hs : signs = [33, 61] :: [60, 61] :: [62, 61] :: signs.drop 3 := rfl
  unfold firstSign at h ⊢
  by_cases h1 : s.take 2 = [33, 61]
  · have : idxF (fun x => pfx s x) signs 0 = 0 := by rw [hs, idxF, if_pos (by rw [pfx_two]; exact decide_eq_true h1)]; rfl
    rw [this, if_neg (by decide), if_pos (Or.inl h1)]; rfl
  · by_cases h2 : s.take 2 = [60, 61]
    · have : idxF (fun x => pfx s x) signs 0 = 1 := by rw [hs, idxF, if_neg (by rw [pfx_two]; simpa using h1), idxF, if_pos (by rw [pfx_two]; exact decide_eq_true h2)]; rfl
      rw [this, if_neg (by decide), if_pos (Or.inr (Or.inl h2))]; rfl
    · by_cases h3 : s.take 2 = [62, 61]
      · have : idxF (fun x => pfx s x) signs 0 = 2 := by rw [hs, idxF, if_neg (by rw [pfx_two]; simpa using h1), idxF, if_neg (by rw [pfx_two]; simpa using h2), idxF, if_pos (by rw [pfx_two]; exact decide_eq_true h3)]; rfl
        rw [this, if_neg (by decide), if_pos (Or.inr (Or.inr h3))]; rfl
      · have hi : idxF (fun x => pfx s x) signs 0 = idxF (fun x => pfx s x) (signs.drop 3) 3 := by rw [hs, idxF, if_neg (by rw [pfx_two]; simpa using h1), idxF, if_neg (by rw [pfx_two]; simpa using h2), idxF, if_neg (by rw [pfx_two]; simpa using h3)]; rfl
        rw [hi] at h ⊢
        rw [if_neg (show ¬ (s.take 2 = [33, 61] ∨ s.take 2 = [60, 61] ∨ s.take 2 = [62, 61]) from fun e => e.elim h1 (fun e => e.elim h2 h3))]
        by_cases hn : idxF (fun x => pfx s x) (signs.drop 3) 3 < 0
        · rw [if_pos hn] at h; exact (h rfl).elim
        · rw [if_neg hn]
          have h4 := idxF_lt (p := fun x => pfx s x) (l := signs.drop 3) (i := 3)
          have h5 : (signs.drop 3).length = 10 := rfl
          rw [h5] at h4
          have h6 := h4.2 (by omega)
          have h7 := h4.1
          have hall : ∀ k : Nat, 3 ≤ k → k < 13 → (gt signs k).length = 1 := by
            intro k a b
            match k, a, b with
            | 3, _, _ | 4, _, _ | 5, _, _ | 6, _, _ | 7, _, _ | 8, _, _ | 9, _, _ | 10, _, _ | 11, _, _ | 12, _, _ => rfl
          exact hall _ (by omega) (by omega)
theorem first_fl (s : Str) (h : (firstF s).kind ≠ 0) : (firstF s).text.length = fl s := by
  have hl := joinN_le s
  by_cases hj : 0 < joinN s
  · have hf : firstF s = ⟨kindF (s.take (joinN s)), 0, s.take (joinN s)⟩ := if_pos hj
    rw [hf]
    unfold fl
    rw [if_pos hj, List.length_take]; omega
  · by_cases hi : idxF (fun x => pfx s x) signs 0 < 0
    · have hf : firstF s = ⟨0, 0, []⟩ := by unfold firstF; rw [if_neg hj, if_pos hi]
      rw [hf] at h; exact (h rfl).elim
    · have hf : firstF s = ⟨4, 0, gt signs (idxF (fun x => pfx s x) signs 0).toNat⟩ := by unfold firstF; rw [if_neg hj, if_neg hi]
      have hg : firstSign s = gt signs (idxF (fun x => pfx s x) signs 0).toNat := if_neg hi
      have hlt := (idxF_lt (p := fun x => pfx s x) (l := signs) (i := 0)).1
      have h6 : ∀ x ∈ signs, x ≠ [] := by decide
      have h7 := h6 _ (gt_mem (l := signs) (i := (idxF (fun x => pfx s x) signs 0).toNat) (by rw [show signs.length = 13 from rfl] at *; omega))
      rw [hf]
      unfold fl
      rw [if_neg hj, ← sign_len s (by rw [hg]; exact h7), hg]
theorem tokL_nL : ∀ (n : Nat) (l : Str) (i : Nat), l.length ≤ n → (tokL l i).2 = none → (tokL l i).1.length = nL l
  | n, [], i, _, _ => by rw [tokL, nL_nil]; rfl
  | 0, c :: r, i, h, _ => by simp at h
  | n + 1, c :: r, i, h, hn => by
    simp only [List.length_cons] at h
    rw [tokL] at hn ⊢
    by_cases hc : c = 32
    · rw [if_pos hc] at hn ⊢
      rw [hc, nL_sp]
      exact tokL_nL n r (i + 1) (by omega) hn
    · rw [if_neg hc] at hn ⊢
      by_cases hk : (firstF (c :: r)).kind = 0
      · rw [if_pos hk] at hn; cases hn
      · rw [if_neg hk] at hn ⊢
        have hf := first_fl _ hk
        have hb := fl_le (s := c :: r) (by simp)
        simp only at hn ⊢
        rw [List.length_cons, tokL_nL n _ _ (by simp; omega) hn, nL_tok (s := c :: r) (by simp) hc, hf]
        obtain ⟨k, hk2⟩ : ∃ k, fl (c :: r) = k + 1 := ⟨fl (c :: r) - 1, by omega⟩
        rw [hk2]
        simp only [List.drop_succ_cons, Nat.add_sub_cancel]
        omega
theorem tokens_nL (s : Str) (h : (tokensF s).2.2 = 0) : (tokensF s).1.length = nL s := by
  unfold tokensF at h ⊢
  split at h
  · cases h
  · rename_i hs
    rw [if_neg hs]
    split at h
    · rename_i l e
      have := tokL_nL s.length s 0 (Nat.le_refl _) (by rw [e])
      rw [e] at this; exact this
    · cases h
theorem nL_joined {x : Str} (h : joinN x = x.length) (hne : x ≠ []) : nL x = 1 := by
  have hp := List.length_pos_iff.2 hne
  have hc : gt x 0 ≠ 32 := by
    cases x with
    | nil => exact (hne rfl).elim
    | cons c r =>
      intro e
      have e' : c = 32 := e
      subst e'
      rw [joinN, if_neg (by decide)] at h
      simp at h
  have hf : fl x = x.length := by unfold fl; rw [h, if_pos hp]
  rw [nL_tok hne hc, hf, List.drop_length, nL_nil]
theorem joined_app {x y : Str} (hx : joinN x = x.length) (hy : joinN y = y.length) : joinN (x ++ y) = (x ++ y).length := by
  rw [joinN_app, if_pos hx, hy]; simp
theorem joined_dig (k : Nat) (h : k < 10) : joinN [UInt8.ofNat (48 + k)] = 1 := by
  match k, h with
  | 0, _ | 1, _ | 2, _ | 3, _ | 4, _ | 5, _ | 6, _ | 7, _ | 8, _ | 9, _ => decide
theorem digS_joined (n : Nat) : joinN (digS n) = (digS n).length ∧ digS n ≠ [] := by
  induction n using Nat.strongRecOn with
  | _ n ih =>
    rw [digS]
    split
    · exact ⟨joined_dig n ‹_›, by simp⟩
    · exact ⟨joined_app (ih (n / 10) (by omega)).1 (joined_dig (n % 10) (by omega)), by simp⟩
theorem nL_cons1 (b : UInt8) (x : Str) : nL (b :: x) ≤ nL [b] + nL x := nL_app 1 [b] x (by simp)
theorem nL_sign {t : T} (hop : 1 ≤ t.op ∧ t.op ≤ 14) : nL (32 :: ((ofF t).text ++ [32])) ≤ 1 := by
  rw [ofF_val hop]
  have hx : ofX t = ⟨[33, 61], 4, 10, false, true⟩ ∨ ofX t = ⟨[], 3, 0, false, false⟩ ∨ ofX t = ⟨[], 7, 0, false, false⟩ ∨ ofX t = ⟨[43], 5, 5, false, false⟩ ∨ ofX t = ⟨[45], 5, 6, false, false⟩ ∨ ofX t = ⟨[42], 6, 7, false, false⟩
      ∨ ofX t = ⟨[47], 6, 8, false, false⟩ ∨ ofX t = ⟨[37], 6, 9, false, false⟩ ∨ ofX t = ⟨[61], 4, 10, false, false⟩ ∨ ofX t = ⟨[60], 4, 11, false, false⟩ ∨ ofX t = ⟨[60, 61], 4, 12, false, false⟩ ∨ ofX t = ⟨[97, 110, 100], 2, 13, false, false⟩ ∨ ofX t = ⟨[111, 114], 1, 14, false, false⟩ ∨ ofX t = ⟨[], 8, 0, false, false⟩ := by
    rcases op14 hop with e | e | e | e | e | e | e | e | e | e | e | e | e | e
    all_goals (unfold ofX; simp [e])
    by_cases h10 : (gt t.kids 0).op = 10 <;> simp [h10]
  rcases hx with h | h | h | h | h | h | h | h | h | h | h | h | h | h <;> rw [h] <;> exact of_decide_eq_true (by kernel_rfl)
theorem nL_40 : nL [40] = 1 := by kernel_rfl
theorem nL_41 : nL [41] = 1 := by kernel_rfl
theorem nL_45 : nL [45] = 1 := by kernel_rfl
theorem nL_not : nL [110, 111, 116, 32] = 1 := by kernel_rfl
theorem nL_app' (x y : Str) : nL (x ++ y) ≤ nL x + nL y := nL_app x.length x y (Nat.le_refl _)
mutual
theorem nL_wr : ∀ (n : Nat) (t : T), shapedF t = true → t.size ≤ n → nL (wrF n t) ≤ (tkF n t).length
  | 0, t, _, h => by have := size_pos t; omega
  | n + 1, t, hs, hn => by
    have hf := of_facts hs
    have hk := (sh_of hs).kids
    have hkid : ∀ k ∈ t.kids, ∀ r, nL (kidF n k r) ≤ (kidT n k r).length := fun k hkm r => nL_kid n k r (hk k hkm) (by have := T.size_lt hkm; omega)
    have hg : 1 ≤ t.kids.length → ∀ k ∈ (gt t.kids 0).kids, ∀ r, nL (kidF n k r) ≤ (kidT n k r).length := fun h1 k hkm r => by
      have hm0 := gt_mem (l := t.kids) (i := 0) (by omega)
      have := T.size_lt hkm
      have := T.size_lt hm0
      exact nL_kid n k r ((sh_of (hk _ hm0)).kids k hkm) (by omega)
    have hsg := nL_sign (sh_of hs).op
    rw [wrF, tkF]
    split
    · split
      · have := nL_joined (x := 36 :: digS t.n.toNat) (joined_app (x := [36]) (by decide) (digS_joined _).1) (by simp)
        rw [this]; exact Nat.le_refl _
      · rw [nL_joined (digS_joined _).1 (digS_joined _).2]; exact Nat.le_refl _
    · split
      · have hl := hf.r3 (.inl ‹_›)
        have h1 := hkid _ (gt_mem (l := t.kids) (i := 0) (by omega)) 3
        have h2 := nL_app' [110, 111, 116, 32] (kidF n (gt t.kids 0) 3)
        rw [nL_not] at h2
        simp only [List.length_cons]; omega
      · split
        · have hl := hf.r3 (.inr ‹_›)
          have h1 := hkid _ (gt_mem (l := t.kids) (i := 0) (by omega)) 7
          have h2 := nL_cons1 45 (kidF n (gt t.kids 0) 7)
          rw [nL_45] at h2
          simp only [List.length_cons]; omega
        · split
          · obtain ⟨_, h1, h2⟩ := hf.dn ‹_›
            have h3 := hg h1 _ (gt_mem (l := (gt t.kids 0).kids) (i := 0) (by omega)) 5
            have h4 := hg h1 _ (gt_mem (l := (gt t.kids 0).kids) (i := 1) (by omega)) 5
            have h5 := nL_app' (kidF n (gt (gt t.kids 0).kids 0) 5) (32 :: ((ofF t).text ++ [32]) ++ kidF n (gt (gt t.kids 0).kids 1) 5)
            have h6 := nL_app' (32 :: ((ofF t).text ++ [32])) (kidF n (gt (gt t.kids 0).kids 1) 5)
            simp only [List.length_append, List.length_cons]; omega
          · have hl := hf.nd (by simpa using ‹¬ (ofF t).deny = true›) ‹_› ‹_› ‹_›
            have h3 := hkid _ (gt_mem (l := t.kids) (i := 0) (by omega)) (if (ofF t).row = 4 then 5 else (ofF t).row)
            have h4 := hkid _ (gt_mem (l := t.kids) (i := 1) (by omega)) ((ofF t).row + 1)
            have h5 := nL_app' (kidF n (gt t.kids 0) (if (ofF t).row = 4 then 5 else (ofF t).row)) (32 :: ((ofF t).text ++ [32]) ++ kidF n (gt t.kids 1) ((ofF t).row + 1))
            have h6 := nL_app' (32 :: ((ofF t).text ++ [32])) (kidF n (gt t.kids 1) ((ofF t).row + 1))
            simp only [List.length_append, List.length_cons]; omega
theorem nL_kid : ∀ (n : Nat) (t : T) (r : Int), shapedF t = true → t.size ≤ n → nL (kidF n t r) ≤ (kidT n t r).length
  | n, t, r, hs, hn => by
    have h := nL_wr n t hs hn
    rw [kidF, kidT]
    split
    · exact h
    · have h2 := nL_cons1 40 (wrF n t ++ [41])
      have h3 := nL_app' (wrF n t) [41]
      rw [nL_40] at h2
      rw [nL_41] at h3
      simp only [List.length_append, List.length_cons, List.length_nil]; omega
end
end Go.Eng
open Go Go.Proofs
namespace Go.Eng
set_option linter.unusedSimpArgs false
set_option linter.unusedVariables false
set_option maxRecDepth 100000
set_option maxHeartbeats 4000000

mutual
theorem eqT_sound : ∀ a b : T, eqT a b = true → a = b
  | .mk o n k, .mk o' n' k', h => by
    rw [eqT] at h
    simp only [T.op, T.n, T.kids, Bool.and_eq_true] at h
    obtain ⟨⟨⟨h1, h2⟩, h3⟩, h4⟩ := h
    have e1 := of_decide_eq_true h1
    have e2 := of_decide_eq_true h2
    subst e1 e2
    rw [eqTs_sound k k' (of_decide_eq_true h3) h4]
theorem eqTs_sound : ∀ a b : List T, a.length = b.length → eqTs a b = true → a = b
  | [], [], _, _ => rfl
  | [], _ :: _, h, _ => by simp at h
  | _ :: _, [], h, _ => by simp at h
  | a :: l, b :: r, h, e => by
    rw [eqTs, Bool.and_eq_true] at e
    rw [eqT_sound a b e.1, eqTs_sound l r (by simpa using h) e.2]
end
theorem number_rng {l : Str} (h : (numberF l).2 = true) : 0 ≤ (numberF l).1 ∧ (numberF l).1 ≤ 1099511627776 := by
  unfold numberF at h ⊢
  split at h
  · cases h
  · rename_i hc
    rw [if_neg hc]
    split at h
    · rename_i n e
      simp only at h
      refine ⟨?_, by simpa using h⟩
      by_cases hd : ∀ c ∈ l, digitF c.toNat = true
      · rw [numF_all l 0 hd] at e
        injection e with e
        have := vN_ge l 0 (by decide) hd
        simp only; omega
      · rw [numF_not l 0 hd] at e; cases e
    · cases h
theorem kindF_1 {s : Str} (h : kindF s = 1) : (numberF s).2 = true := by
  unfold kindF at h
  split at h
  · cases h
  · split at h
    · split at h <;> cases h
    · split at h
      · assumption
      · cases h
theorem kindF_2 {s : Str} (h : kindF s = 2) : (numberF (s.drop 1)).2 = true ∧ (numberF (s.drop 1)).1 < 4 := by
  unfold kindF at h
  split at h
  · cases h
  · split at h
    · split at h
      · assumption
      · cases h
    · split at h <;> cases h
theorem first_kind (s : Str) : (firstF s).kind = kindF (firstF s).text ∨ (firstF s).kind = 4 ∨ (firstF s).kind = 0 := by
  unfold firstF
  split
  · exact .inl rfl
  · split
    · exact .inr (.inr rfl)
    · exact .inr (.inl rfl)
theorem tokL_kind : ∀ (n : Nat) (l : Str) (i : Nat), l.length ≤ n → ∀ t ∈ (tokL l i).1, (t.kind = kindF t.text ∨ t.kind = 4) ∧ t.kind ≠ 0
  | n, [], i, _ => by simp [tokL]
  | 0, c :: r, i, h => by simp at h
  | n + 1, c :: r, i, h => by
    simp only [List.length_cons] at h
    rw [tokL]
    split
    · exact tokL_kind n r (i + 1) (by omega)
    · split
      · simp
      · rename_i hk
        intro t ht
        simp only [List.mem_cons] at ht
        rcases ht with rfl | ht
        · rcases first_kind (c :: r) with h1 | h1 | h1
          · exact ⟨.inl h1, hk⟩
          · exact ⟨.inr h1, hk⟩
          · exact (hk h1).elim
        · exact tokL_kind n _ _ (by simp; omega) t ht
theorem tokens_kind (s : Str) : ∀ t ∈ (tokensF s).1, (t.kind = kindF t.text ∨ t.kind = 4) ∧ t.kind ≠ 0 := by
  unfold tokensF
  split
  · simp
  · split
    · rename_i l e
      have := tokL_kind s.length s 0 (Nat.le_refl _)
      rw [e] at this; exact this
    · simp
theorem ok_S {l : List Tok} (h1 : ∀ t ∈ l, (t.kind = kindF t.text ∨ t.kind = 4) ∧ t.kind ≠ 0) (h2 : OkT l) : OkS l := by
  intro t ht h
  obtain ⟨k1, k2⟩ := h1 t ht
  have hr := kindF_range t.text
  have k3 : t.kind = kindF t.text := by rcases k1 with k1 | k1; exact k1; omega
  have k4 : t.kind = 1 ∨ t.kind = 2 := by omega
  rcases k4 with k4 | k4
  · rw [h2.num t ht k4]
    have := number_rng (kindF_1 (k3 ▸ k4))
    exact ⟨by rw [shapedF]; simp [this], .inl rfl⟩
  · rw [h2.var t ht k4]
    have h3 := kindF_2 (k3 ▸ k4)
    have h4 := number_rng h3.1
    generalize numberF (t.text.drop 1) = q at *
    exact ⟨by rw [shapedF]; simp [h3, h4], .inr rfl⟩
theorem parse_0 (s : Str) (h : (parseRF s).err = 0) : s.length ≤ 20000 ∧ ¬ 0 ≤ (readR s).2 ∧ (readR s).1.length ≤ 2000 ∧ (topG s).bd < 0 ∧ (topG s).nx = (readR s).1.length ∧ (parseRF s).t = (topG s).t ∧ (text3F (topG s).t).2 = 0 := by
  have hin := rowG_in (20 * (readR s).1.length + 16) (readR s).1 0 1 (Nat.zero_le _)
  rw [show rowG (20 * (readR s).1.length + 16) (readR s).1 0 1 = topG s from rfl] at hin
  have hi1 := hin.1
  unfold parseRF at h ⊢
  by_cases h1 : 20000 < s.length
  · rw [if_pos h1] at h; cases h
  rw [if_neg h1] at h ⊢
  by_cases h2 : 0 ≤ (readR s).2
  · rw [if_pos h2] at h; cases h
  rw [if_neg h2] at h ⊢
  by_cases h3 : 2000 < (readR s).1.length
  · rw [if_pos h3] at h; cases h
  rw [if_neg h3] at h ⊢
  by_cases h4 : ((readR s).1.length : Int) ≤ (endG s).bd
  · rw [if_pos h4] at h; cases h
  rw [if_neg h4] at h ⊢
  by_cases h5 : 0 ≤ (endG s).bd
  · rw [if_pos h5] at h; cases h
  rw [if_neg h5] at h ⊢
  by_cases h6 : (topG s).bd < 0 ∧ (topG s).nx < (readR s).1.length
  · have he : endG s = badG (topG s).nx := if_pos h6
    rw [he] at h5
    exact (h5 (by simp only [badG]; omega)).elim
  have he : endG s = topG s := if_neg h6
  rw [he] at h5 h ⊢
  by_cases h7 : (text3F (topG s).t).2 ≠ 0
  · rw [if_pos h7] at h; exact (h7 h).elim
  rw [if_neg h7]
  exact ⟨by omega, h2, by omega, by omega, by omega, rfl, by omega⟩
theorem cnt_top {s : Str} (h : (parseRF s).err = 0) : shapedF (parseRF s).t = true ∧ cnt0 (parseRF s).t ≤ nL s := by
  obtain ⟨h1, h2, h3, h4, h5, h6, h7⟩ := parse_0 s h
  have ht := tokens_same s h1
  rw [if_neg h2] at ht
  have hk := tokens_kind s
  rw [ht] at hk
  have hS := ok_S hk (readR_okT s h1)
  have hc := rowG_c (20 * (readR s).1.length + 16) (readR s).1 0 1 hS (Nat.zero_le _)
  rw [show rowG (20 * (readR s).1.length + 16) (readR s).1 0 1 = topG s from rfl] at hc
  obtain ⟨c1, c2⟩ := hc h4
  have hn := tokens_nL s (by rw [ht])
  rw [ht] at hn
  rw [h6]
  have := (cnt_le (topG s).t 1).2
  exact ⟨c1, by simp only at hn; omega⟩
def stepB (c : UInt8) (n : Int) : Int := if c = 41 then (if c = 40 then n + 1 else n) - 1 else if c = 40 then n + 1 else n
def brkF : Str → Int → Nat → Option Nat
  | [], _, _ => none
  | c :: l, n, k => if stepB c n = 0 then some k else brkF l (stepB c n) (k + 1)
def withF (s : Str) (i : Int) : Str × Bool := if i < 0 ∨ s.length ≤ i ∨ byteAt s i.toNat ≠ 40 then ([], false) else match brkF (s.drop i.toNat) 0 i.toNat with
  | none => ([], false)
  | some k => (s.take i.toNat ++ (s.take k).drop (i.toNat + 1) ++ s.drop (k + 1), true)
theorem brk_41 : ∀ (l : Str) (n : Int) (k j : Nat), 1 ≤ n → brkF l n k = some j → k ≤ j ∧ j < k + l.length ∧ gt l (j - k) = 41
  | [], n, k, j, h, e => by cases e
  | c :: l, n, k, j, h, e => by
    rw [brkF] at e
    split at e
    · rename_i hz
      injection e with e
      subst e
      refine ⟨by omega, by simp only [List.length_cons]; omega, ?_⟩
      rw [Nat.sub_self]
      unfold stepB at hz
      by_cases hc : c = 41
      · exact hc
      · rw [if_neg hc] at hz; split at hz <;> omega
    · rename_i hz
      have hs : 1 ≤ stepB c n := by
        unfold stepB at hz ⊢
        split at hz
        · rename_i hc; rw [if_pos hc, if_neg (by rw [hc]; decide)] at *; omega
        · rename_i hc; rw [if_neg hc] at *; split <;> omega
      obtain ⟨a, b, d⟩ := brk_41 l _ (k + 1) j hs e
      refine ⟨by omega, by simp only [List.length_cons]; omega, ?_⟩
      obtain ⟨m, hm⟩ : ∃ m, j - k = m + 1 := ⟨j - k - 1, by omega⟩
      rw [show j - (k + 1) = m by omega] at d
      rw [hm]
      exact d
theorem with_of {s b : Str} {i : Int} (h : withF s i = (b, true)) : ∃ x y z, s = x ++ 40 :: (y ++ 41 :: z) ∧ b = x ++ y ++ z := by
  unfold withF at h
  split at h
  · cases h
  · rename_i hc
    simp only [not_or] at hc
    obtain ⟨c1, c2, c3⟩ := hc
    have hi : i.toNat < s.length := by omega
    have h40 : gt s i.toNat = 40 := by
      rw [byteAt_gt] at c3
      exact UInt8.toNat_inj.1 (by have := Decidable.of_not_not c3; simp; omega)
    split at h
    · cases h
    · rename_i k e
      injection h with h _
      rw [drop_gt hi, h40, brkF, if_neg (by decide)] at e
      obtain ⟨b1, b2, b3⟩ := brk_41 _ _ _ _ (by decide) e
      rw [List.length_drop] at b2
      have hk : k < s.length := by omega
      refine ⟨s.take i.toNat, (s.take k).drop (i.toNat + 1), s.drop (k + 1), ?_, h.symm⟩
      have b4 : gt s k = 41 := by
        have : gt (s.drop (i.toNat + 1)) (k - (i.toNat + 1)) = gt s k := by
          simp only [gt, List.getD, List.getElem?_drop]
          rw [show i.toNat + 1 + (k - (i.toNat + 1)) = k by omega]
        rw [← this]; exact b3
      have e1 : s.drop (i.toNat + 1) = (s.take k).drop (i.toNat + 1) ++ 41 :: s.drop (k + 1) := by
        conv => lhs; rw [← List.take_append_drop k s]
        rw [List.drop_append_of_le_length (by rw [List.length_take]; omega), drop_gt hk, b4]
      rw [← e1, ← h40, ← drop_gt hi, List.take_append_drop]
theorem without_less {s b : Str} {i : Int} (h : withF s i = (b, true)) : nL b + 2 ≤ nL s := by
  obtain ⟨x, y, z, rfl, rfl⟩ := with_of h
  rw [nL_br 40 (.inl rfl) x.length x _ (Nat.le_refl _), nL_br 41 (.inr rfl) y.length y _ (Nat.le_refl _)]
  have h1 := nL_app' (x ++ y) z
  have h2 := nL_app' x y
  omega
theorem least {t : T} {b : Str} {i : Int} (h0 : (textIF t).2 = 0) (h : withF (textIF t).1 i = (b, true)) (hp : (parseF b).2.2 = 0) : eqT t (parseF b).1 = false := by
  rw [parse_same] at hp ⊢
  obtain ⟨c1, c2⟩ := cnt_top hp
  have h1 := without_less h
  by_cases h3 : (text3F t).2 ≠ 0
  · unfold textIF at h0; rw [if_pos h3] at h0; exact (h3 h0).elim
  have hw := text3_0 (Decidable.of_not_not h3)
  have hs : shapedF t = true := (plain3_top hw).1
  have hx : (textIF t).1 = wrF t.size t := by unfold textIF; rw [if_neg h3]
  rw [hx] at h1
  have h4 := nL_wr t.size t hs (Nat.le_refl _)
  rw [show (tkF t.size t).length = cnt0 t from rfl] at h4
  cases he : eqT t (parseRF b).t
  · rfl
  · have := eqT_sound _ _ he
    rw [this] at h4 h1
    omega
end Go.Eng
open Go Go.Proofs
namespace Go.Eng
set_option linter.unusedSimpArgs false
set_option linter.unusedVariables false
set_option maxRecDepth 100000
set_option maxHeartbeats 4000000

def Vt (k : Tk) : Prop := k.1 ≠ 4 ∧ k.1 = kindF k.2 ∧ k.1 ≠ 0 ∧ joinN k.2 = k.2.length ∧ k.2 ≠ [] ∨ k.1 = 4 ∧ k.2 ∈ signs
def lg (k : Tk) : Prop := k.2 = [60] ∨ k.2 = [62]
theorem joinN_word {x y : Str} (h : joinN x = x.length) (hy : joinN y = 0) : joinN (x ++ y) = x.length := by rw [joinN_app, if_pos h, hy]; rfl
theorem lex_sign {x : Str} (h : x ∈ signs) (y : Str) (hc : (x = [60] ∨ x = [62]) → gt y 0 ≠ 61) : firstF (x ++ y) = ⟨4, 0, x⟩ := by
  have hj : joinN (x ++ y) = 0 := by
    simp only [signs, List.mem_cons, List.not_mem_nil, or_false] at h
    rcases h with rfl | rfl | rfl | rfl | rfl | rfl | rfl | rfl | rfl | rfl | rfl | rfl | rfl <;> (simp only [List.cons_append]; rw [joinN, if_neg (by decide)])
  have hq : idxF (fun s' => pfx (x ++ y) s') signs 0 = idxF (fun s' => decide (s' = x)) signs 0 := by
    simp only [signs, List.mem_cons, List.not_mem_nil, or_false] at h
    cases y with
    | nil =>
      rcases h with rfl | rfl | rfl | rfl | rfl | rfl | rfl | rfl | rfl | rfl | rfl | rfl | rfl <;> rfl
    | cons d y =>
      have hd : (x = [60] ∨ x = [62]) → ¬ 61 = d := fun e e2 => hc e e2.symm
      rcases h with rfl | rfl | rfl | rfl | rfl | rfl | rfl | rfl | rfl | rfl | rfl | rfl | rfl
      all_goals (simp only [List.cons_append, List.nil_append, signs, idxF, pfx1, pfx2])
      all_goals simp at hd
      all_goals simp [hd]
  unfold firstF
  rw [hj, if_neg (by decide), hq]
  simp only [signs, List.mem_cons, List.not_mem_nil, or_false] at h
  rcases h with rfl | rfl | rfl | rfl | rfl | rfl | rfl | rfl | rfl | rfl | rfl | rfl | rfl <;> rfl
theorem lex_word {x y : Str} (hj : joinN x = x.length) (hx : x ≠ []) (hy : joinN y = 0) : firstF (x ++ y) = ⟨kindF x, 0, x⟩ := by
  have hp := List.length_pos_iff.2 hx
  unfold firstF
  rw [joinN_word hj hy, if_pos hp, List.take_left]
def Cp (k : Tk) (y : Str) : Prop := (k.1 ≠ 4 → joinN y = 0) ∧ (lg k → gt y 0 ≠ 61)
theorem lex1 {k : Tk} {y : Str} (hv : Vt k) (hc : Cp k y) : firstF (k.2 ++ y) = ⟨k.1, 0, k.2⟩ := by
  rcases hv with ⟨h1, h2, h3, h4, h5⟩ | ⟨h1, h2⟩
  · rw [lex_word h4 h5 (hc.1 h1), h2]
  · rw [lex_sign h2 y hc.2, h1]
theorem vt_head {k : Tk} (hv : Vt k) : ∃ c r, k.2 = c :: r ∧ c ≠ 32 := by
  rcases hv with ⟨h1, h2, h3, h4, h5⟩ | ⟨h1, h2⟩
  · cases h : k.2 with
    | nil => exact (h5 h).elim
    | cons c r =>
      refine ⟨c, r, rfl, ?_⟩
      rintro rfl
      rw [h, joinN, if_neg (by decide)] at h4
      simp at h4
  · simp only [signs, List.mem_cons, List.not_mem_nil, or_false] at h2
    rcases h2 with h | h | h | h | h | h | h | h | h | h | h | h | h <;> exact ⟨_, _, h, by decide⟩
theorem tok1 {k : Tk} {y : Str} {i : Nat} (hv : Vt k) (hc : Cp k y) : tokL (k.2 ++ y) i = (⟨k.1, i, k.2⟩ :: (tokL y (i + k.2.length)).1, (tokL y (i + k.2.length)).2) := by
  have h0 : k.1 ≠ 0 := by
    rcases hv with h | h
    · exact h.2.2.1
    · rw [h.1]; decide
  have hf := lex1 hv hc
  obtain ⟨c, r, hk, h32⟩ := vt_head hv
  rw [hk] at hf ⊢
  rw [List.cons_append] at hf ⊢
  rw [tokL, if_neg h32, hf]
  simp only [List.length_cons, Nat.add_sub_cancel, List.drop_left]
  rw [if_neg h0]
abbrev Ly := List (Option Tk)
def lyS : Ly → Str
  | [] => []
  | none :: L => 32 :: lyS L
  | some k :: L => k.2 ++ lyS L
def lyT : Ly → List Tk
  | [] => []
  | none :: L => lyT L
  | some k :: L => k :: lyT L
theorem lyS_app : ∀ a b : Ly, lyS (a ++ b) = lyS a ++ lyS b
  | [], b => rfl
  | none :: a, b => by simp only [List.cons_append, lyS, lyS_app a b]
  | some k :: a, b => by simp only [List.cons_append, lyS, lyS_app a b, List.append_assoc]
theorem lyT_app : ∀ a b : Ly, lyT (a ++ b) = lyT a ++ lyT b
  | [], b => rfl
  | none :: a, b => by simp only [List.cons_append, lyT, lyT_app a b]
  | some k :: a, b => by simp only [List.cons_append, lyT, lyT_app a b]
def Adj (k k' : Tk) : Prop := (k.1 = 4 ∨ k'.1 = 4) ∧ (lg k → gt k'.2 0 ≠ 61)
def nx (k : Tk) : Ly → Prop
  | some k' :: _ => Adj k k'
  | _ => True
def okL : Ly → Prop
  | [] => True
  | none :: L => okL L
  | some k :: L => Vt k ∧ nx k L ∧ okL L
theorem okL_cp {k : Tk} {L : Ly} (h : nx k L) (hL : okL L) : Cp k (lyS L) := by
  match L, h, hL with
  | [], _, _ => exact ⟨fun _ => rfl, fun _ => by show (0 : UInt8) ≠ 61; decide⟩
  | none :: L, _, _ => exact ⟨fun _ => by rw [lyS, joinN, if_neg (by decide)], fun _ => by show (32 : UInt8) ≠ 61; decide⟩
  | some k' :: L, h, hL =>
    obtain ⟨c, r, e, _⟩ := vt_head hL.1
    refine ⟨fun hk => ?_, fun hk => ?_⟩
    · have h4 := h.1.resolve_left hk
      rcases hL.1 with h5 | h5
      · exact (h5.1 h4).elim
      · rw [lyS]
        have h6 := h5.2
        simp only [signs, List.mem_cons, List.not_mem_nil, or_false] at h6
        rcases h6 with h | h | h | h | h | h | h | h | h | h | h | h | h <;> (rw [h]; simp only [List.cons_append]; rw [joinN, if_neg (by decide)])
    · have := h.2 hk
      rw [lyS, e] at *
      exact this
theorem tok_ly : ∀ (L : Ly) (i : Nat), okL L → (tokL (lyS L) i).2 = none ∧ (tokL (lyS L) i).1.map Tok.tk = lyT L
  | [], i, _ => by rw [lyS, tokL]; exact ⟨rfl, rfl⟩
  | none :: L, i, h => by
    rw [lyS, tokL, if_pos rfl, lyT]
    exact tok_ly L (i + 1) h
  | some k :: L, i, h => by
    rw [lyS, tok1 h.1 (okL_cp h.2.1 h.2.2), lyT]
    obtain ⟨h1, h2⟩ := tok_ly L (i + k.2.length) h.2.2
    exact ⟨h1, by rw [List.map_cons, h2]; rfl⟩
theorem tokens_ly {L : Ly} (h : okL L) (hl : (lyS L).length ≤ 20000) : (tokensF (lyS L)).2.2 = 0 ∧ (tokensF (lyS L)).1.map Tok.tk = lyT L := by
  obtain ⟨h1, h2⟩ := tok_ly L 0 h
  unfold tokensF
  rw [if_neg (by omega)]
  split
  · rename_i l e
    rw [e] at h2
    exact ⟨rfl, h2⟩
  · rename_i l j e
    rw [e] at h1; cases h1
def hd4 : Ly → Prop
  | some k' :: _ => k'.1 = 4 ∧ gt k'.2 0 ≠ 61
  | _ => True
theorem okL_app : ∀ a b : Ly, okL a → okL b → hd4 b → okL (a ++ b)
  | [], b, _, h, _ => h
  | none :: a, b, h1, h2, h3 => okL_app a b h1 h2 h3
  | some k :: a, b, h1, h2, h3 => by
    refine ⟨h1.1, ?_, okL_app a b h1.2.2 h2 h3⟩
    match a, h1.2.1 with
    | [], _ =>
      show nx k b
      match b, h3 with
      | [], _ => trivial
      | none :: _, _ => trivial
      | some k' :: _, h3 => exact ⟨.inr h3.1, fun _ => h3.2⟩
    | none :: _, _ => trivial
    | some k' :: _, h => exact h
theorem okL_cons {k : Tk} {a : Ly} (h1 : Vt k) (h2 : k.1 = 4) (h3 : ¬ lg k) (h : okL a) : okL (some k :: a) := by
  refine ⟨h1, ?_, h⟩
  match a with
  | [] => trivial
  | none :: _ => trivial
  | some k' :: _ => exact ⟨.inl h2, fun e => (h3 e).elim⟩
end Go.Eng
open Go Go.Proofs
namespace Go.Eng
set_option linter.unusedSimpArgs false
set_option linter.unusedVariables false
set_option maxRecDepth 100000
set_option maxHeartbeats 4000000

theorem vN_app : ∀ (a b : Str) (m : Int), vN (a ++ b) m = vN b (vN a m)
  | [], b, m => rfl
  | c :: a, b, m => by rw [List.cons_append, vN, vN, vN_app a b]
theorem dig_val (n : Nat) : (∀ c ∈ digS n, digitF c.toNat = true) ∧ ∀ m : Int, vN (digS n) m = m * 10 ^ (digS n).length + n := by
  induction n using Nat.strongRecOn with
  | _ n ih =>
    have d1 : ∀ k : Nat, k < 10 → (UInt8.ofNat (48 + k)).toNat = 48 + k := fun k h => by simp; omega
    rw [digS]
    split
    · rename_i h
      refine ⟨fun c hc => ?_, fun m => ?_⟩
      · rw [List.mem_singleton] at hc
        subst hc
        rw [d1 n h]
        rw [digitF_iff]; omega
      · rw [vN, vN, d1 n h]
        simp only [List.length_cons, List.length_nil]
        omega
    · obtain ⟨h1, h2⟩ := ih (n / 10) (by omega)
      have hm : n % 10 < 10 := by omega
      refine ⟨fun c hc => ?_, fun m => ?_⟩
      · rw [List.mem_append, List.mem_singleton] at hc
        rcases hc with hc | rfl
        · exact h1 c hc
        · rw [d1 _ hm, digitF_iff]; omega
      · rw [vN_app, h2, vN, vN, d1 _ hm]
        simp only [List.length_append, List.length_cons, List.length_nil]
        rw [Int.pow_succ]
        have : ((n / 10 : Nat) : Int) * 10 + ((n % 10 : Nat) : Int) = n := by omega
        generalize (10 : Int) ^ (digS (n / 10)).length = q at *
        have e : m * (q * 10) = (m * q) * 10 := by rw [Int.mul_assoc]
        rw [e]
        omega
theorem dig_ge (n : Nat) (h : 10 ≤ n) : byteAt (digS n) 0 ≠ 48 := by
  induction n using Nat.strongRecOn with
  | _ n ih =>
    rw [digS, if_neg (by omega)]
    have hne := (digS_joined (n / 10)).2
    have e : byteAt (digS (n / 10) ++ [UInt8.ofNat (48 + n % 10)]) 0 = byteAt (digS (n / 10)) 0 := by
      cases h2 : digS (n / 10) with
      | nil => exact (hne h2).elim
      | cons c r => rfl
    rw [e]
    by_cases h3 : 10 ≤ n / 10
    · exact ih _ (by omega) h3
    · rw [digS, if_pos (by omega)]
      show ((UInt8.ofNat (48 + n / 10)).toNat : Int) ≠ 48
      have : (UInt8.ofNat (48 + n / 10)).toNat = 48 + n / 10 := by simp; omega
      rw [this]; omega
theorem number_dig (n : Nat) (h : n ≤ 1099511627776) : numberF (digS n) = ((n : Int), true) := by
  obtain ⟨h1, h2⟩ := dig_val n
  have hl := digS_len 13 n (by omega)
  have hv : vN (digS n) 0 = n := by rw [h2 0]; omega
  unfold numberF
  rw [if_neg, numF_all _ _ h1, hv]
  · simp only
    rw [decide_eq_true (by omega)]
  · rintro (e | e | ⟨e, e2⟩)
    · exact (digS_joined n).2 e
    · omega
    · by_cases h10 : 10 ≤ n
      · exact dig_ge n h10 e2
      · rw [digS, if_pos (by omega)] at e
        simp at e
theorem kind_dig (n : Nat) (h : n ≤ 1099511627776) : kindF (digS n) = 1 := by
  obtain ⟨h1, h2⟩ := dig_val n
  have hne := (digS_joined n).2
  unfold kindF
  have hk : digS n ∉ keyw := by
    intro hm
    simp only [keyw, List.mem_cons, List.not_mem_nil, or_false] at hm
    rcases hm with e | e | e <;> (rw [e] at h1; have := h1 _ (List.mem_cons_self ..); revert this; decide)
  have hp : ¬ pfx (digS n) [36] = true := by
    cases e : digS n with
    | nil => exact (hne e).elim
    | cons c r =>
      rw [e] at h1
      rw [pfx1]
      intro hc
      have hc := of_decide_eq_true hc
      have := h1 c (List.mem_cons_self ..)
      rw [← hc] at this
      revert this; decide
  rw [if_neg hk, if_neg hp, number_dig n h, if_pos rfl]
theorem kind_var (n : Nat) (h : n < 4) : kindF (36 :: digS n) = 2 ∧ numberF (digS n) = ((n : Int), true) := by
  refine ⟨?_, number_dig n (by omega)⟩
  unfold kindF
  have hd : (36 :: digS n).drop 1 = digS n := rfl
  rw [if_neg (by simp [keyw]), if_pos (by rw [pfx1]; rfl), hd, number_dig n (by omega), if_pos ⟨rfl, by simp only; omega⟩]
theorem vt_dig (n : Nat) (h : n ≤ 1099511627776) : Vt (1, digS n) := .inl ⟨by show (1 : Int) ≠ 4; decide, (kind_dig n h).symm, by show (1 : Int) ≠ 0; decide, (digS_joined n).1, (digS_joined n).2⟩
theorem vt_var (n : Nat) (h : n < 4) : Vt (2, 36 :: digS n) := .inl ⟨by show (2 : Int) ≠ 4; decide, (kind_var n h).1.symm, by show (2 : Int) ≠ 0; decide, joined_app (x := [36]) (by decide) (digS_joined _).1, by simp⟩
theorem vt_word {x : Str} (h : x ∈ keyw) : Vt (3, x) := by
  refine .inl ⟨by show (3 : Int) ≠ 4; decide, ?_, by show (3 : Int) ≠ 0; decide, ?_⟩
  · show 3 = kindF x
    unfold kindF; rw [if_pos h]
  · simp only [keyw, List.mem_cons, List.not_mem_nil, or_false] at h
    rcases h with rfl | rfl | rfl <;> exact ⟨by decide, by decide⟩
def opK (t : T) : Tk := (if (ofF t).row ≤ 2 then 3 else 4, (ofF t).text)
theorem op_cases {t : T} (hop : 1 ≤ t.op ∧ t.op ≤ 14) (h8 : (ofF t).row ≠ 8) (h3 : (ofF t).row ≠ 3) (h7 : (ofF t).row ≠ 7) : opK t ∈ ([(4, [33, 61]), (4, [43]), (4, [45]), (4, [42]), (4, [47]), (4, [37]), (4, [61]), (4, [60]), (4, [60, 61]), (3, [97, 110, 100]), (3, [111, 114])] : List Tk) := by
  unfold opK
  rw [ofF_val hop] at *
  rcases op14 hop with e | e | e | e | e | e | e | e | e | e | e | e | e | e
  all_goals (unfold ofX at *; simp [e] at *)
  by_cases h10 : (gt t.kids 0).op = 10 <;> simp [h10] at *
theorem vt_op {t : T} (hop : 1 ≤ t.op ∧ t.op ≤ 14) (h8 : (ofF t).row ≠ 8) (h3 : (ofF t).row ≠ 3) (h7 : (ofF t).row ≠ 7) : Vt (opK t) := by
  have := op_cases hop h8 h3 h7
  simp only [List.mem_cons, List.not_mem_nil, or_false] at this
  rcases this with h | h | h | h | h | h | h | h | h | h | h <;> rw [h]
  all_goals first | exact .inr ⟨rfl, by decide⟩ | exact vt_word (by decide)
mutual
def lyF : Nat → T → Ly
  | 0, _ => []
  | n + 1, t => if (ofF t).row = 8 then (if t.op = 2 then [some (2, 36 :: digS t.n.toNat)] else [some (1, digS t.n.toNat)]) else if (ofF t).row = 3 then some (3, [110, 111, 116]) :: none :: lkF n (gt t.kids 0) 3
    else if (ofF t).row = 7 then some (4, [45]) :: lkF n (gt t.kids 0) 7
    else if (ofF t).deny = true then lkF n (gt (gt t.kids 0).kids 0) 5 ++ (none :: some (4, (ofF t).text) :: none :: lkF n (gt (gt t.kids 0).kids 1) 5)
    else lkF n (gt t.kids 0) (if (ofF t).row = 4 then 5 else (ofF t).row) ++ (none :: some (opK t) :: none :: lkF n (gt t.kids 1) ((ofF t).row + 1))
def lkF : Nat → T → Int → Ly
  | n, k, r => if (ofF k).row ≥ r then lyF n k else some (4, [40]) :: (lyF n k ++ [some (4, [41])])
end
mutual
theorem ly_wr : ∀ (n : Nat) (t : T), lyS (lyF n t) = wrF n t ∧ lyT (lyF n t) = tkF n t
  | 0, t => by rw [lyF, wrF, tkF]; exact ⟨rfl, rfl⟩
  | n + 1, t => by
    rw [lyF, wrF, tkF]
    split
    · split
      · exact ⟨by simp [lyS], rfl⟩
      · exact ⟨by simp [lyS], rfl⟩
    · split
      · obtain ⟨h1, h2⟩ := lk_wr n (gt t.kids 0) 3
        exact ⟨by rw [lyS, lyS, h1]; rfl, by rw [lyT, lyT, h2]⟩
      · split
        · obtain ⟨h1, h2⟩ := lk_wr n (gt t.kids 0) 7
          exact ⟨by rw [lyS, h1]; rfl, by rw [lyT, h2]⟩
        · split
          · obtain ⟨h1, h2⟩ := lk_wr n (gt (gt t.kids 0).kids 0) 5
            obtain ⟨h3, h4⟩ := lk_wr n (gt (gt t.kids 0).kids 1) 5
            exact ⟨by rw [lyS_app, lyS, lyS, lyS, h1, h3]; simp, by rw [lyT_app, lyT, lyT, lyT, h2, h4]⟩
          · obtain ⟨h1, h2⟩ := lk_wr n (gt t.kids 0) (if (ofF t).row = 4 then 5 else (ofF t).row)
            obtain ⟨h3, h4⟩ := lk_wr n (gt t.kids 1) ((ofF t).row + 1)
            exact ⟨by rw [lyS_app, lyS, lyS, lyS, h1, h3]; simp [opK], by rw [lyT_app, lyT, lyT, lyT, h2, h4]; rfl⟩
theorem lk_wr : ∀ (n : Nat) (t : T) (r : Int), lyS (lkF n t r) = kidF n t r ∧ lyT (lkF n t r) = kidT n t r
  | n, t, r => by
    obtain ⟨h1, h2⟩ := ly_wr n t
    rw [lkF, kidF, kidT]
    split
    · exact ⟨h1, h2⟩
    · exact ⟨by rw [lyS, lyS_app, h1]; rfl, by rw [lyT, lyT_app, h2]; rfl⟩
end
theorem vt_40 : Vt (4, [40]) := .inr ⟨rfl, by decide⟩
theorem vt_41 : Vt (4, [41]) := .inr ⟨rfl, by decide⟩
theorem vt_45 : Vt (4, [45]) := .inr ⟨rfl, by decide⟩
theorem okL_op {t : T} {L : Ly} (hop : 1 ≤ t.op ∧ t.op ≤ 14) (h8 : (ofF t).row ≠ 8) (h3 : (ofF t).row ≠ 3) (h7 : (ofF t).row ≠ 7) (h : okL L) : okL (none :: some (opK t) :: none :: L) := ⟨vt_op hop h8 h3 h7, trivial, h⟩
mutual
theorem ok_ly : ∀ (n : Nat) (t : T), shapedF t = true → t.size ≤ n → okL (lyF n t)
  | 0, t, _, h => by have := size_pos t; omega
  | n + 1, t, hs, hn => by
    have hf := of_facts hs
    have hsh := sh_of hs
    have hk := hsh.kids
    have hkid : ∀ k ∈ t.kids, ∀ r, okL (lkF n k r) := fun k hkm r => ok_lk n k r (hk k hkm) (by have := T.size_lt hkm; omega)
    have hg : 1 ≤ t.kids.length → ∀ k ∈ (gt t.kids 0).kids, ∀ r, okL (lkF n k r) := fun h1 k hkm r => by
      have hm0 := gt_mem (l := t.kids) (i := 0) (by omega)
      have := T.size_lt hkm
      have := T.size_lt hm0
      exact ok_lk n k r ((sh_of (hk _ hm0)).kids k hkm) (by omega)
    rw [lyF]
    split
    · rename_i h8
      have h8 := hf.r8 h8
      split
      · rename_i h2
        have h3 : t.n < 4 := by
          rw [shapedF_eq, if_neg (by omega), if_pos h2] at hs
          simp at hs; omega
        exact ⟨vt_var _ (by omega), trivial, trivial⟩
      · exact ⟨vt_dig _ (by omega), trivial, trivial⟩
    · rename_i h8
      split
      · have hl := hf.r3 (.inl ‹_›)
        exact ⟨vt_word (by decide), trivial, hkid _ (gt_mem (by omega)) 3⟩
      · rename_i h3
        split
        · have hl := hf.r3 (.inr ‹_›)
          exact okL_cons vt_45 rfl (by unfold lg; simp) (hkid _ (gt_mem (by omega)) 7)
        · rename_i h7
          split
          · obtain ⟨h4, h1, h2⟩ := hf.dn ‹_›
            have e : ((4, (ofF t).text) : Tk) = opK t := by unfold opK; rw [h4]; rfl
            rw [e]
            exact okL_app _ _ (hg h1 _ (gt_mem (by omega)) 5) (okL_op hsh.op h8 h3 h7 (hg h1 _ (gt_mem (by omega)) 5)) trivial
          · have hl := hf.nd (by simpa using ‹¬ (ofF t).deny = true›) ‹_› ‹_› ‹_›
            exact okL_app _ _ (hkid _ (gt_mem (by omega)) _) (okL_op hsh.op h8 h3 h7 (hkid _ (gt_mem (by omega)) _)) trivial
theorem ok_lk : ∀ (n : Nat) (t : T) (r : Int), shapedF t = true → t.size ≤ n → okL (lkF n t r)
  | n, t, r, hs, hn => by
    have h := ok_ly n t hs hn
    rw [lkF]
    split
    · exact h
    · exact okL_cons vt_40 rfl (by unfold lg; simp) (okL_app _ _ h ⟨vt_41, trivial, trivial⟩ ⟨rfl, by show (41 : UInt8) ≠ 61; decide⟩)
end
theorem tokens_wr {t : T} (hs : shapedF t = true) (hl : (wrF t.size t).length ≤ 20000) : (tokensF (wrF t.size t)).2.2 = 0 ∧ (tokensF (wrF t.size t)).1.map Tok.tk = tkF t.size t := by
  obtain ⟨h1, h2⟩ := ly_wr t.size t
  have h3 := tokens_ly (ok_ly t.size t hs (Nat.le_refl _)) (by rw [h1]; exact hl)
  rw [h1, h2] at h3
  exact h3
end Go.Eng
open Go Go.Proofs
namespace Go.Eng
set_option linter.unusedSimpArgs false
set_option linter.unusedVariables false
set_option maxRecDepth 100000
set_option maxHeartbeats 4000000

def Ev (f : Nat → PR) (v : PR) : Prop := ∃ N, ∀ n, N ≤ n → f n = v
theorem Ev.step {f g : Nat → PR} {v : PR} (h : Ev f v) (hg : ∀ n, g (n + 1) = f n) : Ev g v := by
  obtain ⟨N, h⟩ := h
  exact ⟨N + 1, fun n hn => by obtain ⟨m, rfl⟩ : ∃ m, n = m + 1 := ⟨n - 1, by omega⟩; rw [hg]; exact h m (by omega)⟩
section
variable {e : Int}
def Stp (r : Int) (l : List Tok) : Prop := ∀ q, r ≤ q → nextF q l = none
theorem Stp.mono {r r' : Int} {l : List Tok} (h : Stp r l) (hr : r ≤ r') : Stp r' l := fun q hq => h q (by omega)
theorem next_head (r : Int) (t : Tok) (l : List Tok) : nextF r (t :: l) = btwOf r t.text := by
  have := nextF_of r (t :: l) 0
  rw [List.drop_zero, if_pos (by simp)] at this
  exact this
theorem next_nil (r : Int) : nextF r [] = none := by
  have := nextF_of r [] 0
  rw [List.drop_zero, if_neg (by simp)] at this
  exact this
theorem stp_nil (r : Int) : Stp r [] := fun q _ => next_nil q
theorem stp_41 (t : Tok) (l : List Tok) (h : t.text = [41]) (r : Int) : Stp r (t :: l) := fun q _ => by
  rw [next_head, h]
  simp [btwOf, betweens]
theorem isF_head (t : Tok) (l : List Tok) (x : Str) : isF (t :: l) x = decide (t.text = x) := by
  unfold isF
  show (decide ((t :: l).length ≠ 0) && decide (t.text = x)) = _
  simp
theorem ev_ahead {r o : Int} {x : Str} {tk : Tok} {l l' : List Tok} {k : T} (hr : r = 3 ∧ x = [110, 111, 116] ∧ o = 4 ∨ r = 7 ∧ x = [45] ∧ o = 3) (ht : tk.text = x) (h : Ev (fun n => rowF n e r l (-1)) (k, l', -1)) : Ev (fun n => rowF n e r (tk :: l) (-1)) (.mk o 0 [k], l', -1) := by
  obtain ⟨N, h⟩ := h
  refine ⟨N + 2, fun n hn => ?_⟩
  obtain ⟨m, rfl⟩ : ∃ m, n = m + 2 := ⟨n - 2, by omega⟩
  have hm : rowF m e r l (-1) = (k, l', -1) := h m (by omega)
  rcases hr with ⟨rfl, rfl, rfl⟩ | ⟨rfl, rfl, rfl⟩
  · simp only
    rw [rowF, if_pos rfl, aheadF, if_pos (by rw [isF_head, ht]; rfl), List.drop_one, List.tail_cons, hm]
  · simp only
    rw [rowF, if_neg (by decide), if_pos rfl, aheadF, if_pos (by rw [isF_head, ht]; rfl), List.drop_one, List.tail_cons, hm]
theorem ev_past {r o : Int} {x : Str} {l : List Tok} {v : PR} (hr : r = 3 ∧ x = [110, 111, 116] ∧ o = 4 ∨ r = 7 ∧ x = [45] ∧ o = 3) (ht : isF l x = false) (h : Ev (fun n => rowF n e (r + 1) l (-1)) v) : Ev (fun n => rowF n e r l (-1)) v := by
  obtain ⟨N, h⟩ := h
  refine ⟨N + 2, fun n hn => ?_⟩
  obtain ⟨m, rfl⟩ : ∃ m, n = m + 2 := ⟨n - 2, by omega⟩
  have hm : rowF m e (r + 1) l (-1) = v := h m (by omega)
  rcases hr with ⟨rfl, rfl, rfl⟩ | ⟨rfl, rfl, rfl⟩
  · simp only
    rw [rowF, if_pos rfl, aheadF, if_neg (by rw [ht]; decide)]; exact hm
  · simp only
    rw [rowF, if_neg (by decide), if_pos rfl, aheadF, if_neg (by rw [ht]; decide)]; exact hm
theorem ev_row {r : Int} (hr : r ≠ 3 ∧ r ≠ 7 ∧ r ≠ 8) {l l' : List Tok} {t : T} {v : PR} (h : Ev (fun n => rowF n e (r + 1) l (-1)) (t, l', -1)) (h2 : Ev (fun n => loopF n e r t l' (-1)) v) : Ev (fun n => rowF n e r l (-1)) v := by
  obtain ⟨N, h⟩ := h
  obtain ⟨M, h2⟩ := h2
  refine ⟨N + M + 1, fun n hn => ?_⟩
  obtain ⟨m, rfl⟩ : ∃ m, n = m + 1 := ⟨n - 1, by omega⟩
  have hm : rowF m e (r + 1) l (-1) = (t, l', -1) := h m (by omega)
  have hm2 : loopF m e r t l' (-1) = v := h2 m (by omega)
  simp only
  rw [rowF, if_neg hr.1, if_neg hr.2.1, if_neg hr.2.2, hm]
  exact hm2
theorem ev_stop {r : Int} {l : List Tok} (t : T) (h : nextF r l = none) : Ev (fun n => loopF n e r t l (-1)) (t, l, -1) := by
  refine ⟨1, fun n hn => ?_⟩
  obtain ⟨m, rfl⟩ : ∃ m, n = m + 1 := ⟨n - 1, by omega⟩
  simp only
  rw [loopF, if_pos (by decide), h]
theorem ev_next {r : Int} (hr : r ≠ 4) {w : Btw} {tk : Tok} {l l' : List Tok} {t k : T} {v : PR} (hw : btwOf r tk.text = some w) (h : Ev (fun n => rowF n e (r + 1) l (-1)) (k, l', -1)) (h2 : Ev (fun n => loopF n e r (combF w t k) l' (-1)) v) :
    Ev (fun n => loopF n e r t (tk :: l) (-1)) v := by
  obtain ⟨N, h⟩ := h
  obtain ⟨M, h2⟩ := h2
  refine ⟨N + M + 1, fun n hn => ?_⟩
  obtain ⟨m, rfl⟩ : ∃ m, n = m + 1 := ⟨n - 1, by omega⟩
  have hm : rowF m e (r + 1) l (-1) = (k, l', -1) := h m (by omega)
  have hm2 : loopF m e r (combF w t k) l' (-1) = v := h2 m (by omega)
  simp only
  rw [loopF, if_pos (by decide), next_head, hw]
  simp only
  rw [if_neg hr, List.drop_one, List.tail_cons, hm]
  exact hm2
theorem ev_next4 {w : Btw} {tk : Tok} {l l' : List Tok} {t k : T} (hw : btwOf 4 tk.text = some w) (h : Ev (fun n => rowF n e 5 l (-1)) (k, l', -1)) : Ev (fun n => loopF n e 4 t (tk :: l) (-1)) (combF w t k, l', -1) := by
  obtain ⟨N, h⟩ := h
  refine ⟨N + 1, fun n hn => ?_⟩
  obtain ⟨m, rfl⟩ : ∃ m, n = m + 1 := ⟨n - 1, by omega⟩
  have hm : rowF m e (4 + 1) l (-1) = (k, l', -1) := h m (by omega)
  simp only
  rw [loopF, if_pos (by decide), next_head, hw]
  simp only
  rw [if_pos trivial, List.drop_one, List.tail_cons, hm]
theorem ev_num {tk : Tok} {l : List Tok} (hk : tk.kind = 1) (h40 : tk.text ≠ [40]) : Ev (fun n => rowF n e 8 (tk :: l) (-1)) (.mk 1 (numberF tk.text).1 [], l, -1) := by
  refine ⟨2, fun n hn => ?_⟩
  obtain ⟨m, rfl⟩ : ∃ m, n = m + 2 := ⟨n - 2, by omega⟩
  have hg : gt (tk :: l) 0 = tk := rfl
  simp only
  rw [rowF, if_neg (by decide), if_neg (by decide), if_pos rfl, oneF, if_neg (by rw [isF_head]; simpa using h40), if_neg (by rw [hg, hk]; simp), if_neg (by rw [hg, hk]; decide), hg]
  rfl
theorem ev_var {tk : Tok} {l : List Tok} (hk : tk.kind = 2) (h40 : tk.text ≠ [40]) : Ev (fun n => rowF n e 8 (tk :: l) (-1)) (.mk 2 (numberF (tk.text.drop 1)).1 [], l, -1) := by
  refine ⟨2, fun n hn => ?_⟩
  obtain ⟨m, rfl⟩ : ∃ m, n = m + 2 := ⟨n - 2, by omega⟩
  have hg : gt (tk :: l) 0 = tk := rfl
  simp only
  rw [rowF, if_neg (by decide), if_neg (by decide), if_pos rfl, oneF, if_neg (by rw [isF_head]; simpa using h40), if_neg (by rw [hg, hk]; simp), if_pos (by rw [hg, hk]), hg]
  rfl
theorem ev_br {tk tk' : Tok} {l l' : List Tok} {t : T} (h40 : tk.text = [40]) (h41 : tk'.text = [41]) (h : Ev (fun n => rowF n e 1 l (-1)) (t, tk' :: l', -1)) : Ev (fun n => rowF n e 8 (tk :: l) (-1)) (t, l', -1) := by
  obtain ⟨N, h⟩ := h
  refine ⟨N + 2, fun n hn => ?_⟩
  obtain ⟨m, rfl⟩ : ∃ m, n = m + 2 := ⟨n - 2, by omega⟩
  have hm : rowF m e 1 l (-1) = (t, tk' :: l', -1) := h m (by omega)
  simp only
  rw [rowF, if_neg (by decide), if_neg (by decide), if_pos rfl, oneF, if_pos (by rw [isF_head, h40]; rfl), List.drop_one, List.tail_cons, hm]
  simp only
  rw [if_pos (by decide), if_pos (by rw [isF_head, h41]; rfl), List.drop_one, List.tail_cons]
def I1 (e : Int) (t : T) (L : List Tok) (r : Int) : Prop := ∀ rest, Stp r rest → Ev (fun n => rowF n e r (L ++ rest) (-1)) (t, rest, -1)
def I2 (e : Int) (t : T) (L : List Tok) (r : Int) : Prop := ∀ rest v, Stp (r + 1) rest → Ev (fun n => loopF n e r t rest (-1)) v → Ev (fun n => rowF n e r (L ++ rest) (-1)) v
theorem i2_1 {t : T} {L : List Tok} {r : Int} (h : I2 e t L r) : I1 e t L r := fun rest hs => h rest _ (hs.mono (by omega)) (ev_stop t (hs r (Int.le_refl _)))
theorem i1_2 {t : T} {L : List Tok} {r : Int} (hr : r ≠ 3 ∧ r ≠ 7 ∧ r ≠ 8) (h : I1 e t L (r + 1)) : I2 e t L r := fun rest v hs hv => ev_row hr (h rest hs) hv
def Hd (L : List Tok) (ρ : Int) : Prop := ∃ tk l, L = tk :: l ∧ (4 ≤ ρ → tk.text ≠ [110, 111, 116]) ∧ (8 ≤ ρ → tk.text ≠ [45])
theorem down1 {t : T} {L : List Tok} {ρ r : Int} (hd : Hd L ρ) (h1 : 1 ≤ r) (hr : r < ρ) (hρ : ρ ≤ 8) (h : I1 e t L (r + 1)) : I1 e t L r ∧ (r ≠ 3 → r ≠ 7 → I2 e t L r) := by
  obtain ⟨tk, l, rfl, h3, h7⟩ := hd
  refine ⟨?_, fun a b => i1_2 ⟨a, b, by omega⟩ h⟩
  by_cases e3 : r = 3
  · subst e3
    intro rest hs
    exact ev_past (.inl ⟨rfl, rfl, rfl⟩) (by rw [List.cons_append, isF_head]; simpa using h3 (by omega)) (h rest (hs.mono (by decide)))
  · by_cases e7 : r = 7
    · subst e7
      intro rest hs
      exact ev_past (.inr ⟨rfl, rfl, rfl⟩) (by rw [List.cons_append, isF_head]; simpa using h7 (by omega)) (h rest (hs.mono (by decide)))
    · exact i2_1 (i1_2 ⟨e3, e7, by omega⟩ h)
theorem down {t : T} {L : List Tok} {ρ : Int} (hd : Hd L ρ) (hρ : ρ ≤ 8) (h : I1 e t L ρ) : ∀ (m : Nat) (r : Int), ρ - r = m → 1 ≤ r → I1 e t L r ∧ (r ≠ 3 → r ≠ 7 → r < ρ → I2 e t L r)
  | 0, r, hm, _ => by
    have : r = ρ := by omega
    subst this
    exact ⟨h, fun _ _ h => by omega⟩
  | m + 1, r, hm, h1 => by
    have := (down hd hρ h m (r + 1) (by omega) (by omega)).1
    obtain ⟨a, b⟩ := down1 hd h1 (by omega) hρ this
    exact ⟨a, fun x y _ => b x y⟩
end
end Go.Eng
open Go Go.Proofs
namespace Go.Eng
set_option linter.unusedSimpArgs false
set_option linter.unusedVariables false
set_option maxRecDepth 100000
set_option maxHeartbeats 4000000

theorem sh_cases {t : T} (hs : shapedF t = true) : (∃ n, t = .mk 1 n [] ∧ 0 ≤ n ∧ n ≤ 1099511627776) ∨ (∃ n, t = .mk 2 n [] ∧ 0 ≤ n ∧ n < 4) ∨ (∃ k, t = .mk 3 0 [k] ∧ shapedF k = true) ∨ (∃ k, t = .mk 4 0 [k] ∧ shapedF k = true ∧ k.op ≠ 10)
    ∨ (∃ a b, t = .mk 4 0 [.mk 10 0 [a, b]] ∧ shapedF a = true ∧ shapedF b = true) ∨ ∃ o a b, 5 ≤ o ∧ o ≤ 14 ∧ t = .mk o 0 [a, b] ∧ shapedF a = true ∧ shapedF b = true := by
  have two : ∀ {t : T}, shapedF t = true → 5 ≤ t.op → ∃ a b, t = .mk t.op 0 [a, b] ∧ shapedF a = true ∧ shapedF b = true := fun {t} hs h => by
    have hl := (sh_len hs).2.2 h
    have hk := (sh_of hs).kids
    have hop := (sh_of hs).op
    have h0 := hs
    rw [shapedF_eq, if_neg (by omega), if_neg (by omega)] at h0
    have hn : t.n = 0 := by
      split at h0
      · cases h0
      · rename_i hc; simp only [not_or] at hc; exact Decidable.of_not_not hc.2.2.1
    obtain ⟨o, n, k⟩ := t
    simp only [T.kids, T.n, T.op] at *
    subst hn
    match k, hl with
    | [a, b], _ => exact ⟨a, b, rfl, hk a (by simp), hk b (by simp)⟩
  have one : (t.op = 3 ∨ t.op = 4) → ∃ a, t = .mk t.op 0 [a] ∧ shapedF a = true := fun h => by
    have hl := (sh_len hs).2.1 h
    have hk := (sh_of hs).kids
    have h0 := hs
    rw [shapedF_eq, if_neg (by omega), if_neg (by omega)] at h0
    have hn : t.n = 0 := by
      split at h0
      · cases h0
      · rename_i hc; simp only [not_or] at hc; exact Decidable.of_not_not hc.2.2.1
    obtain ⟨o, n, k⟩ := t
    simp only [T.kids, T.n, T.op] at *
    subst hn
    match k, hl with
    | [a], _ => exact ⟨a, rfl, hk a (by simp)⟩
  have hop := (sh_of hs).op
  by_cases h1 : t.op = 1
  · left
    have h0 := hs
    rw [shapedF_eq, if_pos h1] at h0
    simp only [Bool.and_eq_true, decide_eq_true_eq] at h0
    obtain ⟨o, n, k⟩ := t
    simp only [T.kids, T.n, T.op] at *
    subst h1
    exact ⟨n, by rw [List.length_eq_zero_iff.1 h0.1.1], h0.1.2, h0.2⟩
  by_cases h2 : t.op = 2
  · right; left
    have h0 := hs
    rw [shapedF_eq, if_neg h1, if_pos h2] at h0
    simp only [Bool.and_eq_true, decide_eq_true_eq] at h0
    obtain ⟨o, n, k⟩ := t
    simp only [T.kids, T.n, T.op] at *
    subst h2
    exact ⟨n, by rw [List.length_eq_zero_iff.1 h0.1.1], h0.1.2, h0.2⟩
  by_cases h3 : t.op = 3
  · right; right; left
    obtain ⟨a, e, ha⟩ := one (.inl h3)
    rw [h3] at e
    exact ⟨a, e, ha⟩
  by_cases h4 : t.op = 4
  · right; right; right
    obtain ⟨a, e, ha⟩ := one (.inr h4)
    rw [h4] at e
    by_cases h10 : a.op = 10
    · right; left
      obtain ⟨x, y, e2, hx, hy⟩ := two ha (by omega)
      rw [h10] at e2
      exact ⟨x, y, by rw [e, e2], hx, hy⟩
    · left
      exact ⟨a, e, ha, h10⟩
  · right; right; right; right; right
    obtain ⟨x, y, e2, hx, hy⟩ := two hs (by omega)
    exact ⟨t.op, x, y, by omega, hop.2, e2, hx, hy⟩
def opX (o : Int) : Str := gt signTab o.toNat
theorem tk_bin {o : Int} (h1 : 5 ≤ o) (h2 : o ≤ 14) {a b : T} (sa : shapedF a = true) (sb : shapedF b = true) :
    ∃ k : Tk, k.2 = opX o ∧ tkF (T.size (.mk o 0 [a, b])) (.mk o 0 [a, b]) = kidT a.size a (if rowO o = 4 then 5 else rowO o) ++ k :: kidT b.size b (rowO o + 1) := by
  obtain ⟨q1, q2⟩ := bin_of h1 h2 a b
  have hr : rowO o ≠ 8 ∧ rowO o ≠ 3 ∧ rowO o ≠ 7 := by unfold rowO; (repeat' split) <;> decide
  have ht : (ofF (.mk o 0 [a, b])).text = opX o := (signT_val (t := .mk o 0 [a, b]) ⟨h1, h2⟩).symm
  refine ⟨(if rowO o ≤ 2 then 3 else 4, opX o), rfl, ?_⟩
  rw [T.size_eq, tkF, q1, q2, ht, if_neg hr.1, if_neg hr.2.1, if_neg hr.2.2, if_neg (by decide)]
  have e0 : gt (T.kids (.mk o 0 [a, b])) 0 = a := rfl
  have e1 : gt (T.kids (.mk o 0 [a, b])) 1 = b := rfl
  rw [e0, e1]
  simp only [T.kids, T.sizes]
  rw [kidT_fuel _ a.size a _ sa (by omega) (Nat.le_refl _), kidT_fuel _ b.size b _ sb (by omega) (Nat.le_refl _)]
theorem tk_ne {a b : T} (sa : shapedF a = true) (sb : shapedF b = true) :
    (ofF (.mk 4 0 [.mk 10 0 [a, b]])).row = 4 ∧ tkF (T.size (.mk 4 0 [.mk 10 0 [a, b]])) (.mk 4 0 [.mk 10 0 [a, b]]) = kidT a.size a 5 ++ (4, [33, 61]) :: kidT b.size b 5 := by
  have hx : ofX (.mk 4 0 [.mk 10 0 [a, b]]) = ⟨[33, 61], 4, 10, false, true⟩ := rfl
  have ho : ofF (.mk 4 0 [.mk 10 0 [a, b]]) = ⟨[33, 61], 4, 10, false, true⟩ := by rw [ofF_val ⟨by simp only [T.op]; decide, by simp only [T.op]; decide⟩, hx]
  refine ⟨by rw [ho], ?_⟩
  rw [T.size_eq, tkF, ho]
  rw [if_neg (show ¬ (4 : Int) = 8 by decide), if_neg (show ¬ (4 : Int) = 3 by decide), if_neg (show ¬ (4 : Int) = 7 by decide), if_pos (show true = true from rfl)]
  have e0 : gt (gt (T.kids (.mk 4 0 [.mk 10 0 [a, b]])) 0).kids 0 = a := rfl
  have e1 : gt (gt (T.kids (.mk 4 0 [.mk 10 0 [a, b]])) 0).kids 1 = b := rfl
  rw [e0, e1]
  simp only [T.kids, T.sizes, T.size]
  rw [kidT_fuel _ a.size a _ sa (by omega) (Nat.le_refl _), kidT_fuel _ b.size b _ sb (by omega) (Nat.le_refl _)]
theorem tk_neg {a : T} (sa : shapedF a = true) : (ofF (.mk 3 0 [a])).row = 7 ∧ tkF (T.size (.mk 3 0 [a])) (.mk 3 0 [a]) = (4, [45]) :: kidT a.size a 7 := by
  have hr := (cnt0_neg sa).1
  refine ⟨hr, ?_⟩
  rw [T.size_eq, tkF, hr, if_neg (by decide), if_neg (by decide), if_pos rfl]
  have e0 : gt (T.kids (.mk 3 0 [a])) 0 = a := rfl
  rw [e0]
  simp only [T.kids, T.sizes]
  rw [kidT_fuel _ a.size a _ sa (by omega) (Nat.le_refl _)]
theorem tk_not {a : T} (sa : shapedF a = true) (h : a.op ≠ 10) : (ofF (.mk 4 0 [a])).row = 3 ∧ tkF (T.size (.mk 4 0 [a])) (.mk 4 0 [a]) = (3, [110, 111, 116]) :: kidT a.size a 3 := by
  have hr := (cnt0_not sa h).1
  refine ⟨hr, ?_⟩
  rw [T.size_eq, tkF, hr, if_neg (by decide), if_pos rfl]
  have e0 : gt (T.kids (.mk 4 0 [a])) 0 = a := rfl
  rw [e0]
  simp only [T.kids, T.sizes]
  rw [kidT_fuel _ a.size a _ sa (by omega) (Nat.le_refl _)]
theorem tk_atom {t : T} (h : t.op = 1 ∨ t.op = 2) : tkF t.size t = if t.op = 2 then [(2, 36 :: digS t.n.toNat)] else [(1, digS t.n.toNat)] := by
  rw [T.size_eq, tkF, if_pos (cnt0_atom h).1]
theorem op_w {o : Int} (h1 : 5 ≤ o) (h2 : o ≤ 14) : ∃ w, btwOf (rowO o) (opX o) = some w ∧ (∀ a b, combF w a b = .mk o 0 [a, b]) ∧ ∀ q, rowO o < q → btwOf q (opX o) = none := by
  have : o = 5 ∨ o = 6 ∨ o = 7 ∨ o = 8 ∨ o = 9 ∨ o = 10 ∨ o = 11 ∨ o = 12 ∨ o = 13 ∨ o = 14 := by omega
  rcases this with e | e | e | e | e | e | e | e | e | e <;> subst e
  all_goals refine ⟨_, rfl, fun a b => rfl, fun q hq => ?_⟩
  all_goals (simp only [rowO] at hq; simp at hq)
  all_goals (simp [btwOf, betweens, opX, signTab, gt]; try omega)
theorem ne_w : ∃ w, btwOf 4 [33, 61] = some w ∧ (∀ a b, combF w a b = .mk 4 0 [.mk 10 0 [a, b]]) ∧ ∀ q, 4 < q → btwOf q [33, 61] = none := by
  refine ⟨_, rfl, fun a b => rfl, fun q hq => ?_⟩
  simp [btwOf, betweens]; omega
section
variable {e : Int}
theorem stp_op {r : Int} {tk : Tok} {l : List Tok} (h : ∀ q, r < q → btwOf q tk.text = none) : Stp (r + 1) (tk :: l) := fun q hq => by
  rw [next_head]; exact h q (by omega)
def PT (e : Int) (t : T) : Prop := ∀ (r : Int) (L : List Tok), 1 ≤ r → r ≤ 8 → L.map Tok.tk = kidT t.size t r → I1 e t L r ∧ ((r = 1 ∨ r = 2 ∨ r = 5 ∨ r = 6) → I2 e t L r) ∧ ∃ tk l, L = tk :: l ∧ (4 ≤ r → tk.text ≠ [110, 111, 116])
def Core (e : Int) (t : T) : Prop := ∀ L : List Tok, L.map Tok.tk = tkF t.size t → Hd L (ofF t).row ∧ I1 e t L (ofF t).row ∧ (((ofF t).row = 1 ∨ (ofF t).row = 2 ∨ (ofF t).row = 5 ∨ (ofF t).row = 6) → I2 e t L (ofF t).row)
theorem core_pt {t : T} (hs : shapedF t = true) (h : Core e t) : PT e t := by
  intro r L h1 h8 hL
  have hrow := (of_facts hs).row
  rw [kidT] at hL
  split at hL
  · rename_i hr
    obtain ⟨hd, c1, c2⟩ := h L hL
    obtain ⟨d1, d2⟩ := down hd hrow.2 c1 ((ofF t).row - r).toNat r (by omega) h1
    refine ⟨d1, fun hr2 => ?_, ?_⟩
    · by_cases e : r = (ofF t).row
      · rw [e] at hr2 ⊢
        exact c2 hr2
      · exact d2 (by omega) (by omega) (by omega)
    · obtain ⟨tk, l, e, h3, _⟩ := hd
      exact ⟨tk, l, e, fun h4 => h3 (by omega)⟩
  · obtain ⟨b, M, rfl, hb, hM⟩ := List.map_eq_cons_iff.1 hL
    obtain ⟨L1, M2, rfl, hL1, hM2⟩ := List.map_eq_append_iff.1 hM
    obtain ⟨b2, M3, rfl, hb2, hM3⟩ := List.map_eq_cons_iff.1 hM2
    have : M3 = [] := by simpa using hM3
    subst this
    have t1 : b.text = [40] := congrArg Prod.snd hb
    have t2 : b2.text = [41] := congrArg Prod.snd hb2
    obtain ⟨hd, c1, _⟩ := h L1 hL1
    have d1 := (down hd hrow.2 c1 ((ofF t).row - 1).toNat 1 (by omega) (by decide)).1
    have i8 : I1 e t (b :: (L1 ++ [b2])) 8 := fun rest hst => by
      have := ev_br t1 t2 (d1 (b2 :: rest) (stp_41 b2 rest t2 1))
      simpa using this
    have hd8 : Hd (b :: (L1 ++ [b2])) 8 := ⟨b, _, rfl, fun _ => by rw [t1]; decide, fun _ => by rw [t1]; decide⟩
    obtain ⟨x1, x2⟩ := down hd8 (by decide) i8 (8 - r).toNat r (by omega) h1
    exact ⟨x1, fun hr2 => x2 (by omega) (by omega) (by omega), b, _, rfl, fun _ => by rw [t1]; decide⟩
theorem pt_all : ∀ (n : Nat) (t : T), shapedF t = true → t.size ≤ n → PT e t
  | 0, t, _, h => by have := size_pos t; omega
  | n + 1, t, hs, hn => by
    refine core_pt hs ?_
    intro L hL
    rcases sh_cases hs with ⟨m, rfl, h1, h2⟩ | ⟨m, rfl, h1, h2⟩ | ⟨a, rfl, ha⟩ | ⟨a, rfl, ha, h10⟩ | ⟨a, b, rfl, ha, hb⟩ | ⟨o, a, b, h1, h2, rfl, ha, hb⟩
    · have hr := (cnt0_atom (t := .mk 1 m []) (.inl rfl)).1
      rw [hr]
      rw [tk_atom (.inl rfl), if_neg (show ¬ (T.mk 1 m []).op = 2 by simp [T.op])] at hL
      obtain ⟨k, M, rfl, hk, hM⟩ := List.map_eq_cons_iff.1 hL
      have : M = [] := by simpa using hM
      subst this
      have t1 : k.kind = 1 := congrArg Prod.fst hk
      have t2 : k.text = digS m.toNat := congrArg Prod.snd hk
      have hd := (dig_val m.toNat).1
      refine ⟨⟨k, [], rfl, fun _ => ?_, fun _ => ?_⟩, fun rest _ => ?_, fun h => by omega⟩
      · rw [t2]; intro e; rw [e] at hd; exact absurd (hd 110 (by simp)) (by decide)
      · rw [t2]; intro e; rw [e] at hd; exact absurd (hd 45 (by simp)) (by decide)
      · have := ev_num (e := e) (l := rest) t1 (by rw [t2]; intro e; rw [e] at hd; exact absurd (hd 40 (by simp)) (by decide))
        rw [t2, number_dig _ (by omega), show ((m.toNat : Nat) : Int) = m by omega] at this
        exact this
    · have hr := (cnt0_atom (t := .mk 2 m []) (.inr rfl)).1
      rw [hr]
      rw [tk_atom (.inr rfl), if_pos (show (T.mk 2 m []).op = 2 from rfl)] at hL
      obtain ⟨k, M, rfl, hk, hM⟩ := List.map_eq_cons_iff.1 hL
      have : M = [] := by simpa using hM
      subst this
      have t1 : k.kind = 2 := congrArg Prod.fst hk
      have t2 : k.text = 36 :: digS m.toNat := congrArg Prod.snd hk
      refine ⟨⟨k, [], rfl, fun _ => ?_, fun _ => ?_⟩, fun rest _ => ?_, fun h => by omega⟩
      · rw [t2]; simp
      · rw [t2]; simp
      · have := ev_var (e := e) (l := rest) t1 (by rw [t2]; simp)
        rw [t2, List.drop_one, List.tail_cons, number_dig _ (by omega), show ((m.toNat : Nat) : Int) = m by omega] at this
        exact this
    · obtain ⟨hr, ht⟩ := tk_neg ha
      rw [hr]
      rw [ht] at hL
      obtain ⟨k, M, rfl, hk, hM⟩ := List.map_eq_cons_iff.1 hL
      have t2 : k.text = [45] := congrArg Prod.snd hk
      have ih := pt_all n a ha (by simp only [T.size, T.sizes] at hn; omega) 7 M (by decide) (by decide) hM
      refine ⟨⟨k, M, rfl, fun _ => by rw [t2]; decide, fun h => by omega⟩, fun rest hst => ?_, fun h => by omega⟩
      exact ev_ahead (.inr ⟨rfl, rfl, rfl⟩) t2 (ih.1 rest hst)
    · obtain ⟨hr, ht⟩ := tk_not ha h10
      rw [hr]
      rw [ht] at hL
      obtain ⟨k, M, rfl, hk, hM⟩ := List.map_eq_cons_iff.1 hL
      have t2 : k.text = [110, 111, 116] := congrArg Prod.snd hk
      have ih := pt_all n a ha (by simp only [T.size, T.sizes] at hn; omega) 3 M (by decide) (by decide) hM
      refine ⟨⟨k, M, rfl, fun h => by omega, fun h => by omega⟩, fun rest hst => ?_, fun h => by omega⟩
      exact ev_ahead (.inl ⟨rfl, rfl, rfl⟩) t2 (ih.1 rest hst)
    · obtain ⟨hr, ht⟩ := tk_ne ha hb
      rw [hr]
      rw [ht] at hL
      obtain ⟨L1, M, rfl, hL1, hM⟩ := List.map_eq_append_iff.1 hL
      obtain ⟨k, L2, rfl, hk, hL2⟩ := List.map_eq_cons_iff.1 hM
      have t2 : k.text = [33, 61] := congrArg Prod.snd hk
      obtain ⟨w, w1, w2, w3⟩ := ne_w
      rw [← t2] at w1 w3
      have ia := pt_all n a ha (by simp only [T.size, T.sizes] at hn; omega) 5 L1 (by decide) (by decide) hL1
      have ib := pt_all n b hb (by simp only [T.size, T.sizes] at hn; omega) 5 L2 (by decide) (by decide) hL2
      refine ⟨?_, fun rest hst => ?_, fun h => by omega⟩
      · obtain ⟨tk, l, rfl, h3⟩ := ia.2.2
        exact ⟨tk, l ++ k :: L2, rfl, fun _ => h3 (by decide), fun h => by omega⟩
      · have x1 := ia.1 (k :: (L2 ++ rest)) (stp_op w3)
        have x2 := ib.1 rest (hst.mono (by decide))
        have x3 := ev_row (r := 4) (by decide) x1 (ev_next4 w1 x2)
        rw [w2] at x3
        simpa using x3
    · obtain ⟨k0, hk0, ht⟩ := tk_bin h1 h2 ha hb
      have hr := (bin_of h1 h2 a b).1
      rw [hr]
      rw [ht] at hL
      obtain ⟨L1, M, rfl, hL1, hM⟩ := List.map_eq_append_iff.1 hL
      obtain ⟨k, L2, rfl, hk, hL2⟩ := List.map_eq_cons_iff.1 hM
      have t2 : k.text = opX o := by rw [← hk0, ← hk]; rfl
      obtain ⟨w, w1, w2, w3⟩ := op_w h1 h2
      rw [← t2] at w1 w3
      have hro : rowO o = 1 ∨ rowO o = 2 ∨ rowO o = 4 ∨ rowO o = 5 ∨ rowO o = 6 := by unfold rowO; (repeat' split) <;> decide
      have ia := pt_all n a ha (by simp only [T.size, T.sizes] at hn; omega) (if rowO o = 4 then 5 else rowO o) L1 (by split <;> omega) (by split <;> omega) hL1
      have ib := pt_all n b hb (by simp only [T.size, T.sizes] at hn; omega) (rowO o + 1) L2 (by omega) (by omega) hL2
      have hhd : Hd (L1 ++ k :: L2) (rowO o) := by
        obtain ⟨tk, l, rfl, h3⟩ := ia.2.2
        exact ⟨tk, l ++ k :: L2, rfl, fun h => h3 (by split <;> omega), fun h => by omega⟩
      by_cases h4 : rowO o = 4
      · rw [if_pos h4] at ia
        rw [h4] at w1 w3 hhd ib ⊢
        refine ⟨hhd, fun rest hst => ?_, fun h => by omega⟩
        have x1 := ia.1 (k :: (L2 ++ rest)) (stp_op w3)
        have x2 := ib.1 rest (hst.mono (by decide))
        have x3 := ev_row (r := 4) (by decide) x1 (ev_next4 w1 x2)
        rw [w2] at x3
        simpa using x3
      · rw [if_neg h4] at ia
        have i2 : I2 e (.mk o 0 [a, b]) (L1 ++ k :: L2) (rowO o) := fun rest v hst hv => by
          have x2 := ib.1 rest hst
          have x3 := ia.2.1 (by omega) (k :: (L2 ++ rest)) v (stp_op w3) (ev_next h4 w1 x2 (by rw [w2]; exact hv))
          simpa using x3
        exact ⟨hhd, i2_1 i2, fun _ => i2⟩
end
theorem parse_tk {t : T} {s : Str} (hs : shapedF t = true) (h0 : (tokensF s).2.2 = 0) (hl : s.length ≤ 20000) (ht : (tokensF s).1.map Tok.tk = tkF t.size t) (hn : (tokensF s).1.length ≤ 2000) (h3 : (text3F t).2 = 0) : parseF s = (t, 0, 0) := by
  have hr := (of_facts hs).row
  have hp := (pt_all (e := s.length) t.size t hs (Nat.le_refl _) 1 (tokensF s).1 (by decide) (by decide) (by rw [kidT, if_pos (by omega)]; exact ht)).1 [] (stp_nil 1)
  rw [List.append_nil] at hp
  obtain ⟨N, hp⟩ := hp
  have htok := tokens_same s hl
  by_cases hb : 0 ≤ (readR s).2
  · rw [if_pos hb] at htok; rw [htok] at h0; cases h0
  rw [if_neg hb] at htok
  have hT := readR_okT s hl
  have e1 : (tokensF s).1 = (readR s).1 := by rw [htok]
  rw [← e1] at hT
  have hsim : ∀ n, 20 * (tokensF s).1.length + 16 ≤ n → Sim (tokensF s).1 s.length (rowF n s.length 1 (tokensF s).1 (-1)) (GG (20 * (tokensF s).1.length + 16) (tokensF s).1 0 1) := fun n hn => by
    have := sim_all (tokensF s).1 s.length hT (by omega) n 0 1 (Nat.zero_le _) (by decide) (by decide) (by omega) n (20 * (tokensF s).1.length + 16) (by omega) (by omega)
    rwa [List.drop_zero] at this
  have hbig : rowF (N + (20 * (tokensF s).1.length + 16)) s.length 1 (tokensF s).1 (-1) = (t, [], -1) := hp _ (by omega)
  have s1 := hsim (N + (20 * (tokensF s).1.length + 16)) (by omega)
  have s2 := hsim (20 * (tokensF s).1.length + 16) (Nat.le_refl _)
  rw [hbig] at s1
  have htop : rowTop s = (t, [], -1) := by
    unfold rowTop
    by_cases hg : (GG (20 * (tokensF s).1.length + 16) (tokensF s).1 0 1).bd < 0
    · rw [(s2.ok hg).1, ← (s1.ok hg).1]
    · have := (s1.bad hg).2
      simp only at this
      omega
  have hbad : badTop s = -1 := by
    unfold badTop
    rw [htop, if_neg (by simp)]
  unfold parseF
  rw [if_neg (by omega), if_neg (by omega), hbad, if_neg (by decide), htop, if_neg (by simp only; omega)]
end Go.Eng
open Go Go.Proofs
namespace Go.Eng
set_option linter.unusedSimpArgs false
set_option linter.unusedVariables false
set_option maxRecDepth 100000
set_option maxHeartbeats 4000000

theorem cnt_size : ∀ (n : Nat) (t : T), shapedF t = true → t.size ≤ n → cnt0 t + 2 ≤ 3 * t.size
  | 0, t, _, h => by have := size_pos t; omega
  | n + 1, t, hs, hn => by
    have ih : ∀ k : T, shapedF k = true → k.size < t.size → ∀ r, cnt k r ≤ 3 * k.size := fun k hk hlt r => by
      have := cnt_size n k hk (by omega)
      have := (cnt_le k r).1
      omega
    rcases sh_cases hs with ⟨m, rfl, h1, h2⟩ | ⟨m, rfl, h1, h2⟩ | ⟨a, rfl, ha⟩ | ⟨a, rfl, ha, h10⟩ | ⟨a, b, rfl, ha, hb⟩ | ⟨o, a, b, h1, h2, rfl, ha, hb⟩
    · have := (cnt0_atom (t := .mk 1 m []) (.inl rfl)).2
      simp only [T.size, T.sizes]; omega
    · have := (cnt0_atom (t := .mk 2 m []) (.inr rfl)).2
      simp only [T.size, T.sizes]; omega
    · have h3 := (cnt0_neg ha).2
      simp only [T.size, T.sizes] at ih ⊢
      have := ih a ha (by omega) 7
      omega
    · have h3 := (cnt0_not ha h10).2
      simp only [T.size, T.sizes] at ih ⊢
      have := ih a ha (by omega) 3
      omega
    · have h3 := (cnt0_ne ha hb).2
      simp only [T.size, T.sizes] at ih ⊢
      have := ih a ha (by omega) 5
      have := ih b hb (by omega) 5
      omega
    · have h3 := cnt0_bin h1 h2 ha hb
      simp only [T.size, T.sizes] at ih ⊢
      have := ih a ha (by omega) (if rowO o = 4 then 5 else rowO o)
      have := ih b hb (by omega) (rowO o + 1)
      omega
theorem word_len {o : Int} (h1 : 5 ≤ o) (h2 : o ≤ 14) : (opX o).length ≤ (gt words o.toNat).text.length ∧ (gt words o.toNat).text.length ≤ 3 := by
  have : o = 5 ∨ o = 6 ∨ o = 7 ∨ o = 8 ∨ o = 9 ∨ o = 10 ∨ o = 11 ∨ o = 12 ∨ o = 13 ∨ o = 14 := by omega
  rcases this with e | e | e | e | e | e | e | e | e | e <;> subst e <;> exact ⟨by decide, by decide⟩
theorem wr_short : ∀ (n : Nat) (t : T), shapedF t = true → t.size ≤ n → (wrF n t).length + (if t.op ≤ 2 then 0 else 2) ≤ (plain3 t).length ∧ (wrF n t).length + 2 ≤ 20 * t.size
  | 0, t, _, h => by have := size_pos t; omega
  | n + 1, t, hs, hn => by
    have ih : ∀ k : T, shapedF k = true → k.size < t.size → ∀ r, r ≤ 8 → (kidF n k r).length ≤ (plain3 k).length ∧ (kidF n k r).length ≤ 20 * k.size := fun k hk hlt r hr => by
      obtain ⟨i1, i2⟩ := wr_short n k hk (by omega)
      rw [kidF]
      split
      · split at i1 <;> exact ⟨by omega, by omega⟩
      · rename_i h8
        have : ¬ k.op ≤ 2 := fun h => by
          have := (cnt0_atom (t := k) (by have := (sh_of hk).op; omega)).1
          omega
        rw [if_neg this] at i1
        simp only [List.length_append, List.length_cons, List.length_nil]
        exact ⟨by omega, by omega⟩
    rcases sh_cases hs with ⟨m, rfl, h1, h2⟩ | ⟨m, rfl, h1, h2⟩ | ⟨a, rfl, ha⟩ | ⟨a, rfl, ha, h10⟩ | ⟨a, b, rfl, ha, hb⟩ | ⟨o, a, b, h1, h2, rfl, ha, hb⟩
    · have h8 := (cnt0_atom (t := .mk 1 m []) (.inl rfl)).1
      have hd := digS_len 13 m.toNat (by omega)
      have hp : plain3 (.mk 1 m []) = digS m.toNat := by rw [plain3, if_pos rfl]
      rw [wrF, if_pos h8, if_neg (show ¬ (T.mk 1 m []).op = 2 by simp [T.op]), hp]
      simp only [T.size, T.sizes, T.op, T.n]
      exact ⟨by simp, by omega⟩
    · have h8 := (cnt0_atom (t := .mk 2 m []) (.inr rfl)).1
      have hd := digS_len 13 m.toNat (by omega)
      have hp : plain3 (.mk 2 m []) = 36 :: digS m.toNat := by rw [plain3, if_neg (by decide), if_pos rfl]
      rw [wrF, if_pos h8, if_pos (show (T.mk 2 m []).op = 2 from rfl), hp]
      simp only [T.size, T.sizes, T.op, T.n, List.length_cons]
      exact ⟨by simp, by omega⟩
    · have hr := (tk_neg ha).1
      have hp : (plain3 (.mk 3 0 [a])).length = 6 + (plain3 a).length := by
        rw [plain3, if_neg (by decide), if_neg (by decide), plain3s, plain3s]
        simp only [List.length_append, List.length_cons, List.length_nil]
        rw [show (gt words (3 : Int).toNat).text.length = 3 from rfl]; omega
      rw [wrF, hr, if_neg (by decide), if_neg (by decide), if_pos rfl, hp]
      have e0 : gt (T.kids (.mk 3 0 [a])) 0 = a := rfl
      rw [e0, if_neg (show ¬ (T.mk 3 0 [a]).op ≤ 2 by simp [T.op])]
      simp only [T.size, T.sizes] at ih ⊢
      have := ih a ha (by omega) 7 (by decide)
      simp only [List.length_cons]
      exact ⟨by omega, by omega⟩
    · have hr := (tk_not ha h10).1
      have hp : (plain3 (.mk 4 0 [a])).length = 6 + (plain3 a).length := by
        rw [plain3, if_neg (by decide), if_neg (by decide), plain3s, plain3s]
        simp only [List.length_append, List.length_cons, List.length_nil]
        rw [show (gt words (4 : Int).toNat).text.length = 3 from rfl]; omega
      rw [wrF, hr, if_neg (by decide), if_pos rfl, hp]
      have e0 : gt (T.kids (.mk 4 0 [a])) 0 = a := rfl
      rw [e0, if_neg (show ¬ (T.mk 4 0 [a]).op ≤ 2 by simp [T.op])]
      simp only [T.size, T.sizes] at ih ⊢
      have := ih a ha (by omega) 3 (by decide)
      simp only [List.length_append, List.length_cons, List.length_nil]
      exact ⟨by omega, by omega⟩
    · have hx : ofX (.mk 4 0 [.mk 10 0 [a, b]]) = ⟨[33, 61], 4, 10, false, true⟩ := rfl
      have ho : ofF (.mk 4 0 [.mk 10 0 [a, b]]) = ⟨[33, 61], 4, 10, false, true⟩ := by rw [ofF_val ⟨by simp only [T.op]; decide, by simp only [T.op]; decide⟩, hx]
      have hp : (plain3 (.mk 4 0 [.mk 10 0 [a, b]])).length = 12 + (plain3 a).length + (plain3 b).length := by
        rw [plain3, if_neg (by decide), if_neg (by decide), plain3s, plain3s, plain3, if_neg (by decide), if_neg (by decide), plain3s, plain3s, plain3s]
        simp only [List.length_append, List.length_cons, List.length_nil]
        rw [show (gt words (4 : Int).toNat).text.length = 3 from rfl, show (gt words (10 : Int).toNat).text.length = 2 from rfl]; omega
      rw [wrF, ho, if_neg (show ¬ (4 : Int) = 8 by decide), if_neg (show ¬ (4 : Int) = 3 by decide), if_neg (show ¬ (4 : Int) = 7 by decide), if_pos (show true = true from rfl), hp]
      have e0 : gt (gt (T.kids (.mk 4 0 [.mk 10 0 [a, b]])) 0).kids 0 = a := rfl
      have e1 : gt (gt (T.kids (.mk 4 0 [.mk 10 0 [a, b]])) 0).kids 1 = b := rfl
      rw [e0, e1, if_neg (show ¬ (T.mk 4 0 [.mk 10 0 [a, b]]).op ≤ 2 by simp [T.op])]
      simp only [T.size, T.sizes] at ih ⊢
      have := ih a ha (by omega) 5 (by decide)
      have := ih b hb (by omega) 5 (by decide)
      simp only [List.length_append, List.length_cons, List.length_nil]
      exact ⟨by omega, by omega⟩
    · obtain ⟨q1, q2⟩ := bin_of h1 h2 a b
      have hr : rowO o ≠ 8 ∧ rowO o ≠ 3 ∧ rowO o ≠ 7 := by unfold rowO; (repeat' split) <;> decide
      have hr2 : rowO o ≤ 6 := by unfold rowO; (repeat' split) <;> decide
      have ht : (ofF (.mk o 0 [a, b])).text = opX o := (signT_val (t := .mk o 0 [a, b]) ⟨h1, h2⟩).symm
      have hp : (plain3 (.mk o 0 [a, b])).length = 4 + (gt words o.toNat).text.length + (plain3 a).length + (plain3 b).length := by
        rw [plain3, if_neg (by omega), if_neg (by omega), plain3s, plain3s, plain3s]
        simp only [List.length_append, List.length_cons, List.length_nil]
        omega
      obtain ⟨l1, l2⟩ := word_len h1 h2
      rw [wrF, q1, q2, ht, if_neg hr.1, if_neg hr.2.1, if_neg hr.2.2, if_neg (by decide), hp]
      have e0 : gt (T.kids (.mk o 0 [a, b])) 0 = a := rfl
      have e1 : gt (T.kids (.mk o 0 [a, b])) 1 = b := rfl
      rw [e0, e1, if_neg (show ¬ (T.mk o 0 [a, b]).op ≤ 2 by simp only [T.op]; omega)]
      simp only [T.size, T.sizes] at ih ⊢
      have := ih a ha (by omega) (if rowO o = 4 then 5 else rowO o) (by split <;> omega)
      have := ih b hb (by omega) (rowO o + 1) (by omega)
      simp only [List.length_append, List.length_cons, List.length_nil]
      exact ⟨by omega, by omega⟩
theorem text3_len {t : T} (h : (text3F t).2 = 0) : (plain3 t).length ≤ 20000 := by
  unfold text3F at h
  split at h
  · rename_i hw; exact (hw h).elim
  · split at h
    · cases h
    · omega
theorem textI_eq {t : T} (h : (textIF t).2 = 0) : (text3F t).2 = 0 ∧ (textIF t).1 = wrF t.size t := by
  unfold textIF at h ⊢
  split at h
  · rename_i h2; exact (h2 h).elim
  · rename_i h2; rw [if_neg h2]; exact ⟨Decidable.of_not_not h2, rfl⟩
theorem textI_0 {t : T} (h : (text3F t).2 = 0) : textIF t = (wrF t.size t, 0) := by unfold textIF; rw [if_neg (by omega)]
theorem text_parse {t : T} (h : (text3F t).2 = 0) (hc : cnt0 t ≤ 2000) : parseF (wrF t.size t) = (t, 0, 0) := by
  have hs := (plain3_top (text3_0 h)).1
  have hl := text3_len h
  have hw := (wr_short t.size t hs (Nat.le_refl _)).1
  have hw : (wrF t.size t).length ≤ 20000 := by split at hw <;> omega
  obtain ⟨t1, t2⟩ := tokens_wr hs hw
  have hn : (tokensF (wrF t.size t)).1.length = cnt0 t := by
    have := congrArg List.length t2
    rwa [List.length_map] at this
  exact parse_tk hs t1 hw t2 (by omega) h
theorem back1 {t : T} (h : (textIF t).2 = 0) (hn : t.size ≤ 600) : parseF (textIF t).1 = (t, 0, 0) := by
  obtain ⟨h1, h2⟩ := textI_eq h
  have hs := (plain3_top (text3_0 h1)).1
  have := cnt_size t.size t hs (Nat.le_refl _)
  rw [h2]
  exact text_parse h1 (by omega)
theorem back2 {s : Str} (h : (parseF s).2.2 = 0) : (textIF (parseF s).1).2 = 0 ∧ parseF (textIF (parseF s).1).1 = ((parseF s).1, 0, 0) := by
  rw [parse_same] at h ⊢
  have h : (parseRF s).err = 0 := h
  obtain ⟨h1, h2, h3, h4, h5, h6, h7⟩ := parse_0 s h
  have ht := tokens_same s h1
  rw [if_neg h2] at ht
  have hk := tokens_kind s
  rw [ht] at hk
  have hS := ok_S hk (readR_okT s h1)
  have hc := rowG_c (20 * (readR s).1.length + 16) (readR s).1 0 1 hS (Nat.zero_le _)
  rw [show rowG (20 * (readR s).1.length + 16) (readR s).1 0 1 = topG s from rfl] at hc
  obtain ⟨c1, c2⟩ := hc h4
  have c3 := (cnt_le (topG s).t 1).2
  simp only
  rw [h6, textI_0 h7]
  exact ⟨rfl, text_parse h7 (by omega)⟩
def okQ : Bool → List Tk → Prop
  | b, [] => b = false
  | b, k :: L => (b = true → gt k.2 0 ≠ 61) ∧ okQ (decide (k.2 = [60] ∨ k.2 = [62])) L
theorem okC_mono : ∀ {L : List Tk}, okQ true L → okQ false L
  | [], h => by cases h
  | k :: L, h => ⟨fun e => (by cases e), h.2⟩
theorem okC_any {b : Bool} {L : List Tk} (h : okQ true L) : okQ b L := by
  cases b
  · exact okC_mono h
  · exact h
theorem okC_app : ∀ {b : Bool} {L R : List Tk}, okQ b L → okQ false R → okQ b (L ++ R)
  | b, [], R, h, hr => by rw [h]; exact hr
  | b, k :: L, R, h, hr => ⟨h.1, okC_app h.2 hr⟩
theorem okC_all : ∀ (n : Nat) (t : T), shapedF t = true → t.size ≤ n → okQ true (tkF t.size t) ∧ ∀ r, okQ true (kidT t.size t r)
  | 0, t, _, h => by have := size_pos t; omega
  | n + 1, t, hs, hn => by
    have h : okQ true (tkF t.size t) := by
      rcases sh_cases hs with ⟨m, rfl, h1, h2⟩ | ⟨m, rfl, h1, h2⟩ | ⟨a, rfl, ha⟩ | ⟨a, rfl, ha, h10⟩ | ⟨a, b, rfl, ha, hb⟩ | ⟨o, a, b, h1, h2, rfl, ha, hb⟩
      · rw [tk_atom (t := .mk 1 m []) (.inl rfl), if_neg (show ¬ (T.mk 1 m []).op = 2 by simp [T.op])]
        have hd := (dig_val m.toNat).1
        have hne := (digS_joined m.toNat).2
        simp only [T.n]
        generalize digS m.toNat = x at *
        cases x with
        | nil => exact (hne rfl).elim
        | cons c r =>
          have := hd c (by simp)
          refine ⟨fun _ e => ?_, ?_⟩
          · have e : c = 61 := e
            subst e
            exact absurd this (by decide)
          · have : ¬ (c :: r = [60] ∨ c :: r = [62]) := by
              rintro (e | e) <;> (injection e with e _; subst e; exact absurd this (by decide))
            show decide (c :: r = [60] ∨ c :: r = [62]) = false
            exact decide_eq_false this
      · rw [tk_atom (t := .mk 2 m []) (.inr rfl), if_pos (show (T.mk 2 m []).op = 2 from rfl)]
        exact ⟨fun _ => by show (36 : UInt8) ≠ 61; decide, decide_eq_false (by simp)⟩
      · rw [(tk_neg ha).2]
        exact ⟨fun _ => by show (45 : UInt8) ≠ 61; decide, okC_any ((okC_all n a ha (by simp only [T.size, T.sizes] at hn; omega)).2 7)⟩
      · rw [(tk_not ha h10).2]
        exact ⟨fun _ => by show (110 : UInt8) ≠ 61; decide, okC_any ((okC_all n a ha (by simp only [T.size, T.sizes] at hn; omega)).2 3)⟩
      · rw [(tk_ne ha hb).2]
        exact okC_app ((okC_all n a ha (by simp only [T.size, T.sizes] at hn; omega)).2 5) ⟨fun e => (by cases e), okC_any ((okC_all n b hb (by simp only [T.size, T.sizes] at hn; omega)).2 5)⟩
      · obtain ⟨k, _, e⟩ := tk_bin h1 h2 ha hb
        rw [e]
        exact okC_app ((okC_all n a ha (by simp only [T.size, T.sizes] at hn; omega)).2 _) ⟨fun e => (by cases e), okC_any ((okC_all n b hb (by simp only [T.size, T.sizes] at hn; omega)).2 _)⟩
    refine ⟨h, fun r => ?_⟩
    rw [kidT]
    split
    · exact h
    · exact ⟨fun _ => by show (40 : UInt8) ≠ 61; decide, okC_app (okC_any h) ⟨fun e => (by cases e), by show decide _ = false; decide⟩⟩
theorem okL_vt : ∀ {L : Ly}, okL L → ∀ k ∈ lyT L, Vt k
  | [], _, k, h => by cases h
  | none :: L, h, k, hk => okL_vt (L := L) h k hk
  | some a :: L, h, k, hk => by
    rw [lyT, List.mem_cons] at hk
    rcases hk with rfl | hk
    · exact h.1
    · exact okL_vt h.2.2 k hk
def wideF : List Tok → Str
  | [] => []
  | t :: l => 32 :: 32 :: (t.text ++ wideF l)
def tightF : Int → List Tok → Str
  | _, [] => []
  | p, t :: l => (if t.kind ≠ 4 ∧ p ≠ 4 then [32] else []) ++ (t.text ++ tightF t.kind l)
def lyW : List Tok → Ly
  | [] => []
  | t :: l => none :: none :: some t.tk :: lyW l
def lyG : Int → List Tok → Ly
  | _, [] => []
  | p, t :: l => (if t.kind ≠ 4 ∧ p ≠ 4 then [none] else []) ++ (some t.tk :: lyG t.kind l)
theorem lyW_S : ∀ l, lyS (lyW l) = wideF l ∧ lyT (lyW l) = l.map Tok.tk
  | [] => ⟨rfl, rfl⟩
  | t :: l => ⟨by rw [lyW, lyS, lyS, lyS, (lyW_S l).1]; rfl, by rw [lyW, lyT, lyT, lyT, (lyW_S l).2]; rfl⟩
theorem lyG_S : ∀ p l, lyS (lyG p l) = tightF p l ∧ lyT (lyG p l) = l.map Tok.tk
  | _, [] => ⟨rfl, rfl⟩
  | p, t :: l => by
    rw [lyG, tightF, lyS_app, lyT_app, lyS, lyT, (lyG_S t.kind l).1, (lyG_S t.kind l).2]
    split <;> exact ⟨rfl, rfl⟩
theorem lyW_ok : ∀ l : List Tok, (∀ t ∈ l, Vt t.tk) → okL (lyW l)
  | [], _ => trivial
  | t :: l, h => by
    refine ⟨h t (by simp), ?_, lyW_ok l (fun x hx => h x (by simp [hx]))⟩
    cases l with
    | nil => trivial
    | cons x l => trivial
theorem lyG_ok : ∀ (l : List Tok) (p : Int) (b : Bool), (∀ t ∈ l, Vt t.tk) → okQ b (l.map Tok.tk) → okL (lyG p l)
  | [], _, _, _, _ => trivial
  | t :: l, p, b, h, hc => by
    have h1 : okL (some t.tk :: lyG t.kind l) := by
      refine ⟨h t (by simp), ?_, lyG_ok l _ _ (fun x hx => h x (by simp [hx])) hc.2⟩
      cases l with
      | nil => trivial
      | cons x l =>
        rw [lyG]
        split
        · trivial
        · rename_i hg
          refine ⟨?_, fun hl => hc.2.1 (decide_eq_true hl)⟩
          show t.kind = 4 ∨ x.kind = 4
          omega
    rw [lyG]
    split
    · exact h1
    · exact h1
theorem wide_len : ∀ l p, (wideF l).length ≤ 2 * l.length + (l.map fun t => t.text.length).sum ∧ (tightF p l).length ≤ l.length + (l.map fun t => t.text.length).sum
  | [], p => ⟨by simp [wideF], by simp [tightF]⟩
  | t :: l, p => by
    obtain ⟨h1, h2⟩ := wide_len l t.kind
    rw [wideF, tightF]
    simp only [List.length_cons, List.length_append, List.map_cons, List.sum_cons]
    refine ⟨by omega, ?_⟩
    split <;> simp only [List.length_cons, List.length_nil] <;> omega
theorem ly_sum : ∀ L : Ly, ((lyT L).map fun k => k.2.length).sum ≤ (lyS L).length
  | [] => by simp [lyT]
  | none :: L => by have := ly_sum L; simp only [lyT, lyS, List.length_cons]; omega
  | some k :: L => by have := ly_sum L; simp only [lyT, lyS, List.length_append, List.map_cons, List.sum_cons]; omega
theorem spaces {t : T} (h : (textIF t).2 = 0) (hn : t.size ≤ 300) : (tokensF (textIF t).1).2.2 = 0 ∧ (tokensF (textIF t).1).1.length ≤ 900 ∧ (∀ x ∈ (tokensF (textIF t).1).1, x.text.length ≤ 6000) ∧ parseF (wideF (tokensF (textIF t).1).1) = (t, 0, 0) ∧ parseF (tightF 4 (tokensF (textIF t).1).1) = (t, 0, 0)
    ∧ (wideF (tokensF (textIF t).1).1).length ≤ 7800 ∧ (tightF 4 (tokensF (textIF t).1).1).length ≤ 7800 := by
  obtain ⟨h1, h2⟩ := textI_eq h
  rw [h2]
  have hs := (plain3_top (text3_0 h1)).1
  have hc := cnt_size t.size t hs (Nat.le_refl _)
  have hw := (wr_short t.size t hs (Nat.le_refl _)).2
  obtain ⟨t1, t2⟩ := tokens_wr hs (by omega)
  obtain ⟨y1, y2⟩ := ly_wr t.size t
  have hok := ok_ly t.size t hs (Nat.le_refl _)
  have hvt := okL_vt hok
  have hsum := ly_sum (lyF t.size t)
  rw [y2] at hvt
  rw [y1, y2, ← t2, List.map_map] at hsum
  have hC := (okC_all t.size t hs (Nat.le_refl _)).1
  have hlen : (tokensF (wrF t.size t)).1.length = cnt0 t := by
    have := congrArg List.length t2
    rwa [List.length_map] at this
  generalize (tokensF (wrF t.size t)).1 = l at *
  have hv : ∀ x ∈ l, Vt x.tk := fun x hx => hvt _ (by rw [← t2]; exact List.mem_map_of_mem hx)
  rw [← t2] at hC
  have hsum2 : (l.map fun t => t.text.length).sum ≤ (wrF t.size t).length := hsum
  have hlw := wide_len l 4
  have w1 := lyW_S l
  have w2 := lyG_S 4 l
  have a1 := tokens_ly (lyW_ok l hv) (by rw [w1.1]; omega)
  have a2 := tokens_ly (lyG_ok l 4 true hv hC) (by rw [w2.1]; omega)
  rw [w1.1, w1.2, t2] at a1
  rw [w2.1, w2.2, t2] at a2
  have n1 : (tokensF (wideF l)).1.length = cnt0 t := by
    have := congrArg List.length a1.2
    rwa [List.length_map] at this
  have n2 : (tokensF (tightF 4 l)).1.length = cnt0 t := by
    have := congrArg List.length a2.2
    rwa [List.length_map] at this
  refine ⟨t1, by omega, fun x hx => ?_, parse_tk hs a1.1 (by omega) a1.2 (by omega) h1, parse_tk hs a2.1 (by omega) a2.2 (by omega) h1, by omega, by omega⟩
  have : ∀ (m : List Tok), x ∈ m → x.text.length ≤ (m.map fun t => t.text.length).sum := by
    intro m
    induction m with
    | nil => intro h; cases h
    | cons y m ih =>
      intro h
      rw [List.map_cons, List.sum_cons]
      rw [List.mem_cons] at h
      rcases h with rfl | h
      · omega
      · have := ih h; omega
  have := this l hx
  omega
end Go.Eng
open Go Go.Proofs
namespace Go.Eng
set_option linter.unusedSimpArgs false
set_option linter.unusedVariables false
set_option maxRecDepth 100000
set_option maxHeartbeats 8000000

theorem law1_ok (t : T) (s : Str) (hs : s.length ≤ 140737488351232) : AFn env 6 [t.a, aS s] [] (aB true) [] := by
  have hz : (largeF t 600 1).1 = false → (t.size : Int) ≤ 600 := fun h => by have := (largeF_le t 600 1).2 h; omega
  have hl : ∀ t : T, (textIF t).1.length < 4000000000 := fun t => by
    unfold textIF
    split
    · show (0 : Nat) < _; decide
    · rename_i h; have := wr_top t.size (text3_0 (Decidable.of_not_not h)); simp only; omega
  have hl1 := hl t
  have hl2 := hl (parseF s).1
  have hb1 : (textIF t).2 = 0 → (largeF t 600 1).1 = false → (parseF (textIF t).1).2.2 = 0 ∧ eqT t (parseF (textIF t).1).1 = true := fun h h2 => by
    rw [back1 h (by have := hz h2; omega)]; exact ⟨rfl, eqT_refl t⟩
  have hb2 : (parseF s).2.2 = 0 → (textIF (parseF s).1).2 = 0 ∧ (parseF (textIF (parseF s).1).1).2.2 = 0 ∧ eqT (parseF s).1 (parseF (textIF (parseF s).1).1).1 = true := fun h => by
    obtain ⟨q1, q2⟩ := back2 h
    refine ⟨q1, ?_⟩
    rw [q2]; exact ⟨rfl, eqT_refl _⟩
  refine afn_body Tryd.func6 rfl (by decide) ?_
  simp only [Tryd.ntmps6, Tryd.results6, List.length_cons, List.length_nil, List.cons_append, List.nil_append, Nat.reduceAdd, Nat.reduceSub, List.replicate]
  repeat' first
  | with_reducible refine awp_seq ?_
  | ((with_reducible refine awp_region ?_); refine zS ?_)
  | ((with_reducible refine Gd_nd ?_ ?_) <;> intro hb hb2 <;> first | contradiction | (exfalso; omega) | (refine zH hb2 ?_; try clear hb2))
  | ((with_reducible refine Gd_nb ?_ ?_) <;> intro hb <;> first | contradiction | refine zH hb ?_)
  | ((with_reducible refine Gd_d ?_ ?_) <;> intro hb hb2 <;> first | contradiction | (exfalso; omega) | (refine zH hb2 ?_; try clear hb2))
  | ((with_reducible refine Gd_b ?_ ?_) <;> intro hb <;> first | contradiction | refine zH hb ?_)
  | ((with_reducible refine Res_id ?_); refine zS ?_)
  | ((with_reducible refine awp_drawnC ?_ ?_); rfl; refine zS ?_)
  | ((with_reducible refine awp_drawnA ?_ ?_); rfl; refine zS ?_)
  | ((with_reducible refine CGd_nd ?_ ?_) <;> intro hb hb2 <;> first | contradiction | (exfalso; omega) | (refine zH hb2 ?_; try clear hb2))
  | ((with_reducible refine CGd_nb ?_ ?_) <;> intro hb <;> first | contradiction | refine zH hb ?_)
  | ((with_reducible refine CGd_d ?_ ?_) <;> intro hb hb2 <;> first | contradiction | (exfalso; omega) | (refine zH hb2 ?_; try clear hb2))
  | ((with_reducible refine CGd_b ?_ ?_) <;> intro hb <;> first | contradiction | refine zH hb ?_)
  | ((with_reducible refine CRes_id ?_); refine zS ?_)
  | ((with_reducible refine DStep_id ?_); refine zdP ?_; refine ⟨_, by first | exact mixed_ok | exact textI_ok t (by have := hz ‹_›; omega) | exact textI_ok (parseF s).1 (parse_size _) | exact parse_ok _ (by omega) | exact term_ok t _ (by have := hz ‹_›; omega) (parse_size _) | exact term_ok _ _ (parse_size _) (parse_size _) | fail, fun _ => rfl, fun _ => rfl, rfl, (fun h => by first | cases h | fail), ?_⟩; try refine zS ?_)
  | ((with_reducible refine DStep_id ?_); refine zdW ?_; refine ⟨_, by first | exact mixed_ok | exact textI_ok t (by have := hz ‹_›; omega) | exact textI_ok (parseF s).1 (parse_size _) | exact parse_ok _ (by omega) | exact term_ok t _ (by have := hz ‹_›; omega) (parse_size _) | exact term_ok _ _ (parse_size _) (parse_size _) | fail, fun _ => rfl, fun _ => rfl, rfl, ?_⟩; try refine zS ?_)
  | ((with_reducible refine DStep_id ?_); refine zdT [1] ?_; refine ⟨_, _, by first | exact large_ok t 600 1 (by omega) (by omega) (by omega) (by omega) | fail, ?_⟩; try refine zS ?_)
  | ((with_reducible refine AWP_c ?_); refine zcdT ?_)
  | ((with_reducible refine AWP_c ?_); refine zcdF ?_)
  | ((with_reducible refine AWP_c ?_); refine zcdN ?_ ?_ <;> intro hb hb2 <;> first | contradiction | (exfalso; omega) | ((try refine zH hb2 ?_); try clear hb2))
  | ((with_reducible refine AWP_c ?_); refine zcdD ?_ ?_ <;> intro hb hb2 <;> first | contradiction | (exfalso; omega) | ((try refine zH hb2 ?_); try clear hb2))
  | ((with_reducible refine AWP_c ?_); refine zcdM ?_ ?_ <;> intro hb <;> first | contradiction | (try refine zH hb ?_))
  | ((with_reducible refine AWP_c ?_); refine zcdB ?_ ?_ <;> intro hb <;> first | contradiction | (try refine zH hb ?_))
  | ((with_reducible refine awp_ret ?_); refine fin_r ?_)
  | ((with_reducible refine awp_ret ?_); refine fin_q ?_ ?_)
  | with_reducible refine fin_qn ?_ ?_
  | ((with_reducible refine awp_skip ?_); refine zS ?_)
  | with_reducible refine awp_block ?_
  | ((with_reducible refine awp_exit ?_); refine zS ?_)
  | ((with_reducible refine CallK_id ?_); refine zcF ?_; refine ⟨_, by first | exact mixed_ok | exact textI_ok t (by have := hz ‹_›; omega) | exact textI_ok (parseF s).1 (parse_size _) | exact parse_ok _ (by omega) | exact term_ok t _ (by have := hz ‹_›; omega) (parse_size _) | exact term_ok _ _ (parse_size _) (parse_size _) | fail, fun _ => rfl, fun _ => rfl, rfl, ?_⟩; try refine zS ?_)
  | ((with_reducible refine CallK_id ?_); refine zcT [1] ?_; refine ⟨_, _, by first | exact large_ok t 600 1 (by omega) (by omega) (by omega) (by omega) | fail, ?_⟩; try refine zS ?_)
  | exact True.intro
  | fail
  all_goals first
    | rfl
    | (have h := hb1 ‹_› ‹_›; first | exact absurd h.1 ‹_› | exact Bool.noConfusion (h.2.symm.trans ‹_›))
    | (have h := hb2 ‹_›; first | exact absurd h.1 ‹_› | exact absurd h.2.1 ‹_› | exact Bool.noConfusion (h.2.2.symm.trans ‹_›))
theorem wide_app : ∀ a b, wideF (a ++ b) = wideF a ++ wideF b
  | [], b => rfl
  | t :: a, b => by simp only [List.cons_append, wideF, wide_app a b, List.append_assoc]
def lastK (l : List Tok) (i : Nat) : Int := if i = 0 then 4 else (gt l (i - 1)).kind
theorem tight_step {l : List Tok} {i : Nat} {g sp : Str} (hi : i < l.length) (h : g ++ tightF (lastK l i) (l.drop i) = tightF 4 l) (hsp : (if (gt l i).kind ≠ 4 ∧ lastK l i ≠ 4 then [32] else []) = sp) :
    (g ++ sp ++ (gt l i).text) ++ tightF (lastK l (i + 1)) (l.drop (i + 1)) = tightF 4 l := by
  rw [← h, drop_gt hi, tightF, hsp, show lastK l (i + 1) = (gt l i).kind from rfl]
  simp only [List.append_assoc]
theorem wide_step {l : List Tok} {i : Nat} {w : Str} (hi : i < l.length) (h : w ++ wideF (l.drop i) = wideF l) : (w ++ [32, 32] ++ (gt l i).text) ++ wideF (l.drop (i + 1)) = wideF l := by
  rw [← h, drop_gt hi, wideF]
  simp only [List.append_assoc, List.cons_append, List.nil_append]
theorem last_pos {l : List Tok} {i : Nat} (h : (i : Int) > 0) : lastK l i = (gt l ((i : Int) - 1).toNat).kind := by
  unfold lastK
  rw [if_neg (by omega), show ((i : Int) - 1).toNat = i - 1 by omega]
theorem last_0 {l : List Tok} {i : Nat} (h : ¬ (i : Int) > 0) : lastK l i = 4 := if_pos (by omega)
theorem law2_ok (t : T) : AFn env 8 [t.a] [] (aB true) [] := by
  have hz : (largeF t 300 1).1 = false → (t.size : Int) ≤ 300 := fun h => by have := (largeF_le t 300 1).2 h; omega
  have hs : (textIF t).2 = 0 → (largeF t 300 1).1 = false → _ := fun h h2 => spaces h (by have := hz h2; omega)
  refine afn_body Tryd.func8 rfl (by decide) ?_
  simp only [Tryd.ntmps8, Tryd.results8, List.length_cons, List.length_nil, List.cons_append, List.nil_append, Nat.reduceAdd, Nat.reduceSub, List.replicate]
  repeat' first
  | with_reducible refine awp_seq ?_
  | ((with_reducible refine awp_region ?_); refine zS ?_)
  | ((with_reducible refine Gd_nd ?_ ?_) <;> intro hb hb2 <;> first | contradiction | (exfalso; omega) | (refine zH hb2 ?_; try clear hb2))
  | ((with_reducible refine Gd_nb ?_ ?_) <;> intro hb <;> first | contradiction | refine zH hb ?_)
  | ((with_reducible refine Gd_d ?_ ?_) <;> intro hb hb2 <;> first | contradiction | (exfalso; omega) | (refine zH hb2 ?_; try clear hb2))
  | ((with_reducible refine Gd_b ?_ ?_) <;> intro hb <;> first | contradiction | refine zH hb ?_)
  | ((with_reducible refine Res_id ?_); refine zS ?_)
  | ((with_reducible refine awp_drawnC ?_ ?_); rfl; refine zS ?_)
  | ((with_reducible refine awp_drawnA ?_ ?_); rfl; refine zS ?_)
  | ((with_reducible refine CGd_nd ?_ ?_) <;> intro hb hb2 <;> first | contradiction | (exfalso; omega) | (refine zH hb2 ?_; try clear hb2))
  | ((with_reducible refine CGd_nb ?_ ?_) <;> intro hb <;> first | contradiction | refine zH hb ?_)
  | ((with_reducible refine CGd_d ?_ ?_) <;> intro hb hb2 <;> first | contradiction | (exfalso; omega) | (refine zH hb2 ?_; try clear hb2))
  | ((with_reducible refine CGd_b ?_ ?_) <;> intro hb <;> first | contradiction | refine zH hb ?_)
  | ((with_reducible refine CRes_id ?_); refine zS ?_)
  | ((with_reducible refine DStep_id ?_); refine zdP ?_; refine ⟨_, by first | exact mixed_ok | exact textI_ok t (by have := hz ‹_›; omega) | exact tokens_ok _ | exact parse_ok _ (by omega) | exact term_ok t _ (by have := hz ‹_›; omega) (parse_size _) | exact size_ok t (by have := hz ‹_›; omega) | fail, fun _ => rfl, fun _ => rfl, rfl, (fun h => by first | cases h | fail), ?_⟩; try refine zS ?_)
  | ((with_reducible refine DStep_id ?_); refine zdW ?_; refine ⟨_, by first | exact mixed_ok | exact textI_ok t (by have := hz ‹_›; omega) | exact tokens_ok _ | exact parse_ok _ (by omega) | exact term_ok t _ (by have := hz ‹_›; omega) (parse_size _) | exact size_ok t (by have := hz ‹_›; omega) | fail, fun _ => rfl, fun _ => rfl, rfl, ?_⟩; try refine zS ?_)
  | ((with_reducible refine DStep_id ?_); refine zdT [1] ?_; refine ⟨_, _, by first | exact large_ok t 300 1 (by omega) (by omega) (by omega) (by omega) | fail, ?_⟩; try refine zS ?_)
  | ((with_reducible refine AWP_c ?_); refine zcdT ?_)
  | ((with_reducible refine AWP_c ?_); refine zcdF ?_)
  | ((with_reducible refine AWP_c ?_); refine zcdN ?_ ?_ <;> intro hb hb2 <;> first | contradiction | (exfalso; omega) | ((try refine zH hb2 ?_); try clear hb2))
  | ((with_reducible refine AWP_c ?_); refine zcdD ?_ ?_ <;> intro hb hb2 <;> first | contradiction | (exfalso; omega) | ((try refine zH hb2 ?_); try clear hb2))
  | ((with_reducible refine AWP_c ?_); refine zcdM ?_ ?_ <;> intro hb <;> first | contradiction | (try refine zH hb ?_))
  | ((with_reducible refine AWP_c ?_); refine zcdB ?_ ?_ <;> intro hb <;> first | contradiction | (try refine zH hb ?_))
  | ((with_reducible refine awp_ret ?_); refine fin_r ?_)
  | ((with_reducible refine awp_ret ?_); refine fin_q ?_ ?_)
  | with_reducible refine fin_qn ?_ ?_
  | ((with_reducible refine awp_skip ?_); refine zS ?_)
  | with_reducible refine awp_block ?_
  | ((with_reducible refine awp_exit ?_); refine zS ?_)
  | ((with_reducible refine CallK_id ?_); refine zcF ?_; refine ⟨_, by first | exact mixed_ok | exact textI_ok t (by have := hz ‹_›; omega) | exact tokens_ok _ | exact parse_ok _ (by omega) | exact term_ok t _ (by have := hz ‹_›; omega) (parse_size _) | exact size_ok t (by have := hz ‹_›; omega) | fail, fun _ => rfl, fun _ => rfl, rfl, ?_⟩; try refine zS ?_)
  | ((with_reducible refine CallK_id ?_); refine zcT [1] ?_; refine ⟨_, _, by first | exact large_ok t 300 1 (by omega) (by omega) (by omega) (by omega) | fail, ?_⟩; try refine zS ?_)
  | exact True.intro
  | fail
  all_goals first
    | rfl
    | exact absurd (hs ‹_› ‹_›).1 ‹_›
    | skip
  obtain ⟨-, s2, s3, s4, s5, s6, s7⟩ := hs ‹_› ‹_›
  generalize (tokensF (textIF t).1).1 = l at *
  have ht : ∀ i : Nat, i < l.length → (gt l i).text.length ≤ 6000 := fun i hi => s3 _ (gt_mem hi)
  refine awp_loopT (fun q : Nat × Str × Str => q.1 ≤ l.length ∧ q.2.1 ++ wideF (l.drop q.1) = wideF l ∧ q.2.2 ++ tightF (lastK l q.1) (l.drop q.1) = tightF 4 l) (fun q => l.length - q.1) (fun q => [(8, aS q.2.1), (9, aS q.2.2), (23, .any), (25, .any), (31, .any), (33, .any), (41, aI q.1)]) (fun _ => [some (.box [.d (dI t.op), .d (dI t.n), .d (.fz (t.kids.map T.row))]), none]) (0, [], []) ⟨by simp, rfl, rfl⟩ (wk_le (by simp only [go_sem, Bool.not_not, List.mem_singleton, forall_eq, ↓reduceIte, if_pos, rowsAt_map, wrap64, wrapu8, List.getElem?_cons_zero, List.getElem?_cons_succ, Int.reduceToNat, Nat.reduceAdd, Nat.reduceBEq, Bool.or_false, Bool.false_or, Bool.true_or, Nat.reduceSub, Nat.reduceMul, Int.reduceAdd, Int.reduceEq, Int.reduceLT, Int.reduceLE, Int.reduceNeg, Nat.reduceLT, Nat.reduceLeDiff]; exact ⟨rfl, rfl, rfl⟩) (by simp only [go_sem, Bool.not_not, List.mem_singleton, forall_eq, ↓reduceIte, if_pos, rowsAt_map, wrap64, wrapu8, List.getElem?_cons_zero, List.getElem?_cons_succ, Int.reduceToNat, Nat.reduceAdd, Nat.reduceBEq, Bool.or_false, Bool.false_or, Bool.true_or, Nat.reduceSub, Nat.reduceMul, Int.reduceAdd, Int.reduceEq, Int.reduceLT, Int.reduceLE, Int.reduceNeg, Nat.reduceLT, Nat.reduceLeDiff])) ?_
  rintro ⟨i, w, g⟩ ⟨h1, h2, h3⟩
  simp only at h1 h2 h3
  have hw : w.length ≤ 7800 := by have := congrArg List.length h2; rw [List.length_append] at this; omega
  have hg : g.length ≤ 7800 := by have := congrArg List.length h3; rw [List.length_append] at this; omega
  refine zT ?_
  by_cases hi : i < l.length
  · have hti := ht i hi
    have hl1 : w.length + 2 ≤ 9223372036854775807 := by omega
    have hl2 : (w ++ [32, 32]).length + (gt l i).text.length ≤ 9223372036854775807 := by rw [List.length_append]; simp only [List.length_cons, List.length_nil]; omega
    have hl3 : g.length + 1 ≤ 9223372036854775807 := by omega
    have hl4 : (g ++ [32]).length + (gt l i).text.length ≤ 9223372036854775807 := by rw [List.length_append]; simp only [List.length_cons, List.length_nil]; omega
    have hl5 : g.length + (gt l i).text.length ≤ 9223372036854775807 := by omega
    repeat' first
    | with_reducible refine awp_seq ?_
    | ((with_reducible refine awp_region ?_); simp (maxSteps := 500000) (disch := omega) only [go_sem, Bool.not_not, List.mem_singleton, forall_eq, ↓reduceIte, if_pos, rowsAt_map, wrap64, wrapu8, List.getElem?_cons_zero, List.getElem?_cons_succ, Int.reduceToNat, Nat.reduceAdd, Nat.reduceBEq, Bool.or_false, Bool.false_or, Bool.true_or, Nat.reduceSub, Nat.reduceMul, Int.reduceAdd, Int.reduceEq, Int.reduceLT, Int.reduceLE, Int.reduceNeg, Nat.reduceLT, Nat.reduceLeDiff, hl1, hl2, hl3, hl4, hl5])
    | ((with_reducible refine Gd_nd ?_ ?_) <;> intro hb hb2 <;> first | contradiction | (exfalso; omega) | (simp (maxSteps := 500000) (disch := omega) only [go_sem, Bool.not_not, List.mem_singleton, forall_eq, ↓reduceIte, if_pos, rowsAt_map, wrap64, wrapu8, List.getElem?_cons_zero, List.getElem?_cons_succ, Int.reduceToNat, Nat.reduceAdd, Nat.reduceBEq, Bool.or_false, Bool.false_or, Bool.true_or, Nat.reduceSub, Nat.reduceMul, Int.reduceAdd, Int.reduceEq, Int.reduceLT, Int.reduceLE, Int.reduceNeg, Nat.reduceLT, Nat.reduceLeDiff, hl1, hl2, hl3, hl4, hl5, hb2]; try clear hb2))
    | ((with_reducible refine Gd_nb ?_ ?_) <;> intro hb <;> first | contradiction | simp (maxSteps := 500000) (disch := omega) only [go_sem, Bool.not_not, List.mem_singleton, forall_eq, ↓reduceIte, if_pos, rowsAt_map, wrap64, wrapu8, List.getElem?_cons_zero, List.getElem?_cons_succ, Int.reduceToNat, Nat.reduceAdd, Nat.reduceBEq, Bool.or_false, Bool.false_or, Bool.true_or, Nat.reduceSub, Nat.reduceMul, Int.reduceAdd, Int.reduceEq, Int.reduceLT, Int.reduceLE, Int.reduceNeg, Nat.reduceLT, Nat.reduceLeDiff, hl1, hl2, hl3, hl4, hl5, hb])
    | ((with_reducible refine Gd_d ?_ ?_) <;> intro hb hb2 <;> first | contradiction | (exfalso; omega) | (simp (maxSteps := 500000) (disch := omega) only [go_sem, Bool.not_not, List.mem_singleton, forall_eq, ↓reduceIte, if_pos, rowsAt_map, wrap64, wrapu8, List.getElem?_cons_zero, List.getElem?_cons_succ, Int.reduceToNat, Nat.reduceAdd, Nat.reduceBEq, Bool.or_false, Bool.false_or, Bool.true_or, Nat.reduceSub, Nat.reduceMul, Int.reduceAdd, Int.reduceEq, Int.reduceLT, Int.reduceLE, Int.reduceNeg, Nat.reduceLT, Nat.reduceLeDiff, hl1, hl2, hl3, hl4, hl5, hb2]; try clear hb2))
    | ((with_reducible refine Gd_b ?_ ?_) <;> intro hb <;> first | contradiction | simp (maxSteps := 500000) (disch := omega) only [go_sem, Bool.not_not, List.mem_singleton, forall_eq, ↓reduceIte, if_pos, rowsAt_map, wrap64, wrapu8, List.getElem?_cons_zero, List.getElem?_cons_succ, Int.reduceToNat, Nat.reduceAdd, Nat.reduceBEq, Bool.or_false, Bool.false_or, Bool.true_or, Nat.reduceSub, Nat.reduceMul, Int.reduceAdd, Int.reduceEq, Int.reduceLT, Int.reduceLE, Int.reduceNeg, Nat.reduceLT, Nat.reduceLeDiff, hl1, hl2, hl3, hl4, hl5, hb])
    | ((with_reducible refine Res_id ?_); simp (maxSteps := 500000) (disch := omega) only [go_sem, Bool.not_not, List.mem_singleton, forall_eq, ↓reduceIte, if_pos, rowsAt_map, wrap64, wrapu8, List.getElem?_cons_zero, List.getElem?_cons_succ, Int.reduceToNat, Nat.reduceAdd, Nat.reduceBEq, Bool.or_false, Bool.false_or, Bool.true_or, Nat.reduceSub, Nat.reduceMul, Int.reduceAdd, Int.reduceEq, Int.reduceLT, Int.reduceLE, Int.reduceNeg, Nat.reduceLT, Nat.reduceLeDiff, hl1, hl2, hl3, hl4, hl5])
    | ((with_reducible refine awp_drawnC ?_ ?_); rfl; simp (maxSteps := 500000) (disch := omega) only [go_sem, Bool.not_not, List.mem_singleton, forall_eq, ↓reduceIte, if_pos, rowsAt_map, wrap64, wrapu8, List.getElem?_cons_zero, List.getElem?_cons_succ, Int.reduceToNat, Nat.reduceAdd, Nat.reduceBEq, Bool.or_false, Bool.false_or, Bool.true_or, Nat.reduceSub, Nat.reduceMul, Int.reduceAdd, Int.reduceEq, Int.reduceLT, Int.reduceLE, Int.reduceNeg, Nat.reduceLT, Nat.reduceLeDiff, hl1, hl2, hl3, hl4, hl5])
    | ((with_reducible refine awp_drawnA ?_ ?_); rfl; simp (maxSteps := 500000) (disch := omega) only [go_sem, Bool.not_not, List.mem_singleton, forall_eq, ↓reduceIte, if_pos, rowsAt_map, wrap64, wrapu8, List.getElem?_cons_zero, List.getElem?_cons_succ, Int.reduceToNat, Nat.reduceAdd, Nat.reduceBEq, Bool.or_false, Bool.false_or, Bool.true_or, Nat.reduceSub, Nat.reduceMul, Int.reduceAdd, Int.reduceEq, Int.reduceLT, Int.reduceLE, Int.reduceNeg, Nat.reduceLT, Nat.reduceLeDiff, hl1, hl2, hl3, hl4, hl5])
    | ((with_reducible refine CGd_nd ?_ ?_) <;> intro hb hb2 <;> first | contradiction | (exfalso; omega) | (simp (maxSteps := 500000) (disch := omega) only [go_sem, Bool.not_not, List.mem_singleton, forall_eq, ↓reduceIte, if_pos, rowsAt_map, wrap64, wrapu8, List.getElem?_cons_zero, List.getElem?_cons_succ, Int.reduceToNat, Nat.reduceAdd, Nat.reduceBEq, Bool.or_false, Bool.false_or, Bool.true_or, Nat.reduceSub, Nat.reduceMul, Int.reduceAdd, Int.reduceEq, Int.reduceLT, Int.reduceLE, Int.reduceNeg, Nat.reduceLT, Nat.reduceLeDiff, hl1, hl2, hl3, hl4, hl5, hb2]; try clear hb2))
    | ((with_reducible refine CGd_nb ?_ ?_) <;> intro hb <;> first | contradiction | simp (maxSteps := 500000) (disch := omega) only [go_sem, Bool.not_not, List.mem_singleton, forall_eq, ↓reduceIte, if_pos, rowsAt_map, wrap64, wrapu8, List.getElem?_cons_zero, List.getElem?_cons_succ, Int.reduceToNat, Nat.reduceAdd, Nat.reduceBEq, Bool.or_false, Bool.false_or, Bool.true_or, Nat.reduceSub, Nat.reduceMul, Int.reduceAdd, Int.reduceEq, Int.reduceLT, Int.reduceLE, Int.reduceNeg, Nat.reduceLT, Nat.reduceLeDiff, hl1, hl2, hl3, hl4, hl5, hb])
    | ((with_reducible refine CGd_d ?_ ?_) <;> intro hb hb2 <;> first | contradiction | (exfalso; omega) | (simp (maxSteps := 500000) (disch := omega) only [go_sem, Bool.not_not, List.mem_singleton, forall_eq, ↓reduceIte, if_pos, rowsAt_map, wrap64, wrapu8, List.getElem?_cons_zero, List.getElem?_cons_succ, Int.reduceToNat, Nat.reduceAdd, Nat.reduceBEq, Bool.or_false, Bool.false_or, Bool.true_or, Nat.reduceSub, Nat.reduceMul, Int.reduceAdd, Int.reduceEq, Int.reduceLT, Int.reduceLE, Int.reduceNeg, Nat.reduceLT, Nat.reduceLeDiff, hl1, hl2, hl3, hl4, hl5, hb2]; try clear hb2))
    | ((with_reducible refine CGd_b ?_ ?_) <;> intro hb <;> first | contradiction | simp (maxSteps := 500000) (disch := omega) only [go_sem, Bool.not_not, List.mem_singleton, forall_eq, ↓reduceIte, if_pos, rowsAt_map, wrap64, wrapu8, List.getElem?_cons_zero, List.getElem?_cons_succ, Int.reduceToNat, Nat.reduceAdd, Nat.reduceBEq, Bool.or_false, Bool.false_or, Bool.true_or, Nat.reduceSub, Nat.reduceMul, Int.reduceAdd, Int.reduceEq, Int.reduceLT, Int.reduceLE, Int.reduceNeg, Nat.reduceLT, Nat.reduceLeDiff, hl1, hl2, hl3, hl4, hl5, hb])
    | ((with_reducible refine CRes_id ?_); simp (maxSteps := 500000) (disch := omega) only [go_sem, Bool.not_not, List.mem_singleton, forall_eq, ↓reduceIte, if_pos, rowsAt_map, wrap64, wrapu8, List.getElem?_cons_zero, List.getElem?_cons_succ, Int.reduceToNat, Nat.reduceAdd, Nat.reduceBEq, Bool.or_false, Bool.false_or, Bool.true_or, Nat.reduceSub, Nat.reduceMul, Int.reduceAdd, Int.reduceEq, Int.reduceLT, Int.reduceLE, Int.reduceNeg, Nat.reduceLT, Nat.reduceLeDiff, hl1, hl2, hl3, hl4, hl5])
    | ((with_reducible refine DStep_id ?_); refine dcallP ⟨_, rfl⟩ rfl (by simp (maxSteps := 500000) (disch := omega) only [go_sem, Bool.not_not, List.mem_singleton, forall_eq, ↓reduceIte, if_pos, rowsAt_map, wrap64, wrapu8, List.getElem?_cons_zero, List.getElem?_cons_succ, Int.reduceToNat, Nat.reduceAdd, Nat.reduceBEq, Bool.or_false, Bool.false_or, Bool.true_or, Nat.reduceSub, Nat.reduceMul, Int.reduceAdd, Int.reduceEq, Int.reduceLT, Int.reduceLE, Int.reduceNeg, Nat.reduceLT, Nat.reduceLeDiff, hl1, hl2, hl3, hl4, hl5]; first | done | rfl | fail) ?_; refine ⟨_, by first | exact mixed_ok | exact textI_ok t (by have := hz ‹_›; omega) | exact tokens_ok _ | exact parse_ok _ (by omega) | exact term_ok t _ (by have := hz ‹_›; omega) (parse_size _) | exact size_ok t (by have := hz ‹_›; omega) | fail, ?_⟩; refine ⟨fun _ => rfl, fun _ => rfl, rfl, (fun h => by first | cases h | fail), ?_⟩; try simp (maxSteps := 500000) (disch := omega) only [go_sem, Bool.not_not, List.mem_singleton, forall_eq, ↓reduceIte, if_pos, rowsAt_map, wrap64, wrapu8, List.getElem?_cons_zero, List.getElem?_cons_succ, Int.reduceToNat, Nat.reduceAdd, Nat.reduceBEq, Bool.or_false, Bool.false_or, Bool.true_or, Nat.reduceSub, Nat.reduceMul, Int.reduceAdd, Int.reduceEq, Int.reduceLT, Int.reduceLE, Int.reduceNeg, Nat.reduceLT, Nat.reduceLeDiff, hl1, hl2, hl3, hl4, hl5])
    | ((with_reducible refine DStep_id ?_); refine dcallPw ⟨_, rfl⟩ rfl (by simp (maxSteps := 500000) (disch := omega) only [go_sem, Bool.not_not, List.mem_singleton, forall_eq, ↓reduceIte, if_pos, rowsAt_map, wrap64, wrapu8, List.getElem?_cons_zero, List.getElem?_cons_succ, Int.reduceToNat, Nat.reduceAdd, Nat.reduceBEq, Bool.or_false, Bool.false_or, Bool.true_or, Nat.reduceSub, Nat.reduceMul, Int.reduceAdd, Int.reduceEq, Int.reduceLT, Int.reduceLE, Int.reduceNeg, Nat.reduceLT, Nat.reduceLeDiff, hl1, hl2, hl3, hl4, hl5]; first | done | rfl | fail) ?_; refine ⟨_, by first | exact mixed_ok | exact textI_ok t (by have := hz ‹_›; omega) | exact tokens_ok _ | exact parse_ok _ (by omega) | exact term_ok t _ (by have := hz ‹_›; omega) (parse_size _) | exact size_ok t (by have := hz ‹_›; omega) | fail, ?_⟩; refine ⟨fun _ => rfl, fun _ => rfl, rfl, ?_⟩; try simp (maxSteps := 500000) (disch := omega) only [go_sem, Bool.not_not, List.mem_singleton, forall_eq, ↓reduceIte, if_pos, rowsAt_map, wrap64, wrapu8, List.getElem?_cons_zero, List.getElem?_cons_succ, Int.reduceToNat, Nat.reduceAdd, Nat.reduceBEq, Bool.or_false, Bool.false_or, Bool.true_or, Nat.reduceSub, Nat.reduceMul, Int.reduceAdd, Int.reduceEq, Int.reduceLT, Int.reduceLE, Int.reduceNeg, Nat.reduceLT, Nat.reduceLeDiff, hl1, hl2, hl3, hl4, hl5])
    | ((with_reducible refine DStep_id ?_); refine dcallT [1]  ⟨_, rfl⟩ rfl (by simp (maxSteps := 500000) (disch := omega) only [go_sem, Bool.not_not, List.mem_singleton, forall_eq, ↓reduceIte, if_pos, rowsAt_map, wrap64, wrapu8, List.getElem?_cons_zero, List.getElem?_cons_succ, Int.reduceToNat, Nat.reduceAdd, Nat.reduceBEq, Bool.or_false, Bool.false_or, Bool.true_or, Nat.reduceSub, Nat.reduceMul, Int.reduceAdd, Int.reduceEq, Int.reduceLT, Int.reduceLE, Int.reduceNeg, Nat.reduceLT, Nat.reduceLeDiff, hl1, hl2, hl3, hl4, hl5]; first | done | rfl | fail) (by simp (maxSteps := 500000) (disch := omega) only [go_sem, Bool.not_not, List.mem_singleton, forall_eq, ↓reduceIte, if_pos, rowsAt_map, wrap64, wrapu8, List.getElem?_cons_zero, List.getElem?_cons_succ, Int.reduceToNat, Nat.reduceAdd, Nat.reduceBEq, Bool.or_false, Bool.false_or, Bool.true_or, Nat.reduceSub, Nat.reduceMul, Int.reduceAdd, Int.reduceEq, Int.reduceLT, Int.reduceLE, Int.reduceNeg, Nat.reduceLT, Nat.reduceLeDiff, hl1, hl2, hl3, hl4, hl5]; first | done | rfl | fail) (by simp (maxSteps := 500000) (disch := omega) only [go_sem, Bool.not_not, List.mem_singleton, forall_eq, ↓reduceIte, if_pos, rowsAt_map, wrap64, wrapu8, List.getElem?_cons_zero, List.getElem?_cons_succ, Int.reduceToNat, Nat.reduceAdd, Nat.reduceBEq, Bool.or_false, Bool.false_or, Bool.true_or, Nat.reduceSub, Nat.reduceMul, Int.reduceAdd, Int.reduceEq, Int.reduceLT, Int.reduceLE, Int.reduceNeg, Nat.reduceLT, Nat.reduceLeDiff, hl1, hl2, hl3, hl4, hl5]; first | done | rfl | fail) rfl ?_; refine ⟨_, _,  large_ok t 300 1 (by omega) (by omega) (by omega) (by omega), ?_⟩; try simp (maxSteps := 500000) (disch := omega) only [go_sem, Bool.not_not, List.mem_singleton, forall_eq, ↓reduceIte, if_pos, rowsAt_map, wrap64, wrapu8, List.getElem?_cons_zero, List.getElem?_cons_succ, Int.reduceToNat, Nat.reduceAdd, Nat.reduceBEq, Bool.or_false, Bool.false_or, Bool.true_or, Nat.reduceSub, Nat.reduceMul, Int.reduceAdd, Int.reduceEq, Int.reduceLT, Int.reduceLE, Int.reduceNeg, Nat.reduceLT, Nat.reduceLeDiff, hl1, hl2, hl3, hl4, hl5])
    | ((with_reducible refine AWP_c ?_); refine awp_cond_t (by simp (maxSteps := 500000) (disch := omega) only [go_sem, Bool.not_not, List.mem_singleton, forall_eq, ↓reduceIte, if_pos, rowsAt_map, wrap64, wrapu8, List.getElem?_cons_zero, List.getElem?_cons_succ, Int.reduceToNat, Nat.reduceAdd, Nat.reduceBEq, Bool.or_false, Bool.false_or, Bool.true_or, Nat.reduceSub, Nat.reduceMul, Int.reduceAdd, Int.reduceEq, Int.reduceLT, Int.reduceLE, Int.reduceNeg, Nat.reduceLT, Nat.reduceLeDiff, hl1, hl2, hl3, hl4, hl5]; first | done | fail) ?_)
    | ((with_reducible refine AWP_c ?_); refine awp_cond_f (by simp (maxSteps := 500000) (disch := omega) only [go_sem, Bool.not_not, List.mem_singleton, forall_eq, ↓reduceIte, if_pos, rowsAt_map, wrap64, wrapu8, List.getElem?_cons_zero, List.getElem?_cons_succ, Int.reduceToNat, Nat.reduceAdd, Nat.reduceBEq, Bool.or_false, Bool.false_or, Bool.true_or, Nat.reduceSub, Nat.reduceMul, Int.reduceAdd, Int.reduceEq, Int.reduceLT, Int.reduceLE, Int.reduceNeg, Nat.reduceLT, Nat.reduceLeDiff, hl1, hl2, hl3, hl4, hl5]; first | done | fail) ?_)
    | ((with_reducible refine AWP_c ?_); refine cond_nd (by simp (maxSteps := 500000) (disch := omega) only [go_sem, Bool.not_not, List.mem_singleton, forall_eq, ↓reduceIte, if_pos, rowsAt_map, wrap64, wrapu8, List.getElem?_cons_zero, List.getElem?_cons_succ, Int.reduceToNat, Nat.reduceAdd, Nat.reduceBEq, Bool.or_false, Bool.false_or, Bool.true_or, Nat.reduceSub, Nat.reduceMul, Int.reduceAdd, Int.reduceEq, Int.reduceLT, Int.reduceLE, Int.reduceNeg, Nat.reduceLT, Nat.reduceLeDiff, hl1, hl2, hl3, hl4, hl5]; first | done | rfl) ?_ ?_ <;> intro hb hb2 <;> first | contradiction | (exfalso; omega) | ((try simp (maxSteps := 500000) (disch := omega) only [go_sem, Bool.not_not, List.mem_singleton, forall_eq, ↓reduceIte, if_pos, rowsAt_map, wrap64, wrapu8, List.getElem?_cons_zero, List.getElem?_cons_succ, Int.reduceToNat, Nat.reduceAdd, Nat.reduceBEq, Bool.or_false, Bool.false_or, Bool.true_or, Nat.reduceSub, Nat.reduceMul, Int.reduceAdd, Int.reduceEq, Int.reduceLT, Int.reduceLE, Int.reduceNeg, Nat.reduceLT, Nat.reduceLeDiff, hl1, hl2, hl3, hl4, hl5, hb2]); try clear hb2))
    | ((with_reducible refine AWP_c ?_); refine cond_d (by simp (maxSteps := 500000) (disch := omega) only [go_sem, Bool.not_not, List.mem_singleton, forall_eq, ↓reduceIte, if_pos, rowsAt_map, wrap64, wrapu8, List.getElem?_cons_zero, List.getElem?_cons_succ, Int.reduceToNat, Nat.reduceAdd, Nat.reduceBEq, Bool.or_false, Bool.false_or, Bool.true_or, Nat.reduceSub, Nat.reduceMul, Int.reduceAdd, Int.reduceEq, Int.reduceLT, Int.reduceLE, Int.reduceNeg, Nat.reduceLT, Nat.reduceLeDiff, hl1, hl2, hl3, hl4, hl5]; first | done | rfl) ?_ ?_ <;> intro hb hb2 <;> first | contradiction | (exfalso; omega) | ((try simp (maxSteps := 500000) (disch := omega) only [go_sem, Bool.not_not, List.mem_singleton, forall_eq, ↓reduceIte, if_pos, rowsAt_map, wrap64, wrapu8, List.getElem?_cons_zero, List.getElem?_cons_succ, Int.reduceToNat, Nat.reduceAdd, Nat.reduceBEq, Bool.or_false, Bool.false_or, Bool.true_or, Nat.reduceSub, Nat.reduceMul, Int.reduceAdd, Int.reduceEq, Int.reduceLT, Int.reduceLE, Int.reduceNeg, Nat.reduceLT, Nat.reduceLeDiff, hl1, hl2, hl3, hl4, hl5, hb2]); try clear hb2))
    | ((with_reducible refine AWP_c ?_); refine cond_nb (by simp (maxSteps := 500000) (disch := omega) only [go_sem, Bool.not_not, List.mem_singleton, forall_eq, ↓reduceIte, if_pos, rowsAt_map, wrap64, wrapu8, List.getElem?_cons_zero, List.getElem?_cons_succ, Int.reduceToNat, Nat.reduceAdd, Nat.reduceBEq, Bool.or_false, Bool.false_or, Bool.true_or, Nat.reduceSub, Nat.reduceMul, Int.reduceAdd, Int.reduceEq, Int.reduceLT, Int.reduceLE, Int.reduceNeg, Nat.reduceLT, Nat.reduceLeDiff, hl1, hl2, hl3, hl4, hl5]; first | done | rfl) ?_ ?_ <;> intro hb <;> first | contradiction | (try simp (maxSteps := 500000) (disch := omega) only [go_sem, Bool.not_not, List.mem_singleton, forall_eq, ↓reduceIte, if_pos, rowsAt_map, wrap64, wrapu8, List.getElem?_cons_zero, List.getElem?_cons_succ, Int.reduceToNat, Nat.reduceAdd, Nat.reduceBEq, Bool.or_false, Bool.false_or, Bool.true_or, Nat.reduceSub, Nat.reduceMul, Int.reduceAdd, Int.reduceEq, Int.reduceLT, Int.reduceLE, Int.reduceNeg, Nat.reduceLT, Nat.reduceLeDiff, hl1, hl2, hl3, hl4, hl5, hb]))
    | ((with_reducible refine AWP_c ?_); refine awp_cond (by simp (maxSteps := 500000) (disch := omega) only [go_sem, Bool.not_not, List.mem_singleton, forall_eq, ↓reduceIte, if_pos, rowsAt_map, wrap64, wrapu8, List.getElem?_cons_zero, List.getElem?_cons_succ, Int.reduceToNat, Nat.reduceAdd, Nat.reduceBEq, Bool.or_false, Bool.false_or, Bool.true_or, Nat.reduceSub, Nat.reduceMul, Int.reduceAdd, Int.reduceEq, Int.reduceLT, Int.reduceLE, Int.reduceNeg, Nat.reduceLT, Nat.reduceLeDiff, hl1, hl2, hl3, hl4, hl5]; first | done | rfl) ?_ ?_ <;> intro hb <;> first | contradiction | (try simp (maxSteps := 500000) (disch := omega) only [go_sem, Bool.not_not, List.mem_singleton, forall_eq, ↓reduceIte, if_pos, rowsAt_map, wrap64, wrapu8, List.getElem?_cons_zero, List.getElem?_cons_succ, Int.reduceToNat, Nat.reduceAdd, Nat.reduceBEq, Bool.or_false, Bool.false_or, Bool.true_or, Nat.reduceSub, Nat.reduceMul, Int.reduceAdd, Int.reduceEq, Int.reduceLT, Int.reduceLE, Int.reduceNeg, Nat.reduceLT, Nat.reduceLeDiff, hl1, hl2, hl3, hl4, hl5, hb]))
    | ((with_reducible refine awp_ret ?_); refine fin_r ?_)
    | ((with_reducible refine awp_ret ?_); refine fin_q ?_ ?_)
    | with_reducible refine fin_qn ?_ ?_
    | ((with_reducible refine awp_skip ?_); simp (maxSteps := 500000) (disch := omega) only [go_sem, Bool.not_not, List.mem_singleton, forall_eq, ↓reduceIte, if_pos, rowsAt_map, wrap64, wrapu8, List.getElem?_cons_zero, List.getElem?_cons_succ, Int.reduceToNat, Nat.reduceAdd, Nat.reduceBEq, Bool.or_false, Bool.false_or, Bool.true_or, Nat.reduceSub, Nat.reduceMul, Int.reduceAdd, Int.reduceEq, Int.reduceLT, Int.reduceLE, Int.reduceNeg, Nat.reduceLT, Nat.reduceLeDiff, hl1, hl2, hl3, hl4, hl5])
    | with_reducible refine awp_block ?_
    | ((with_reducible refine awp_exit ?_); simp (maxSteps := 500000) (disch := omega) only [go_sem, Bool.not_not, List.mem_singleton, forall_eq, ↓reduceIte, if_pos, rowsAt_map, wrap64, wrapu8, List.getElem?_cons_zero, List.getElem?_cons_succ, Int.reduceToNat, Nat.reduceAdd, Nat.reduceBEq, Bool.or_false, Bool.false_or, Bool.true_or, Nat.reduceSub, Nat.reduceMul, Int.reduceAdd, Int.reduceEq, Int.reduceLT, Int.reduceLE, Int.reduceNeg, Nat.reduceLT, Nat.reduceLeDiff, hl1, hl2, hl3, hl4, hl5])
    | ((with_reducible refine CallK_id ?_); refine callF ⟨_, rfl⟩ rfl (by simp (maxSteps := 500000) (disch := omega) only [go_sem, Bool.not_not, List.mem_singleton, forall_eq, ↓reduceIte, if_pos, rowsAt_map, wrap64, wrapu8, List.getElem?_cons_zero, List.getElem?_cons_succ, Int.reduceToNat, Nat.reduceAdd, Nat.reduceBEq, Bool.or_false, Bool.false_or, Bool.true_or, Nat.reduceSub, Nat.reduceMul, Int.reduceAdd, Int.reduceEq, Int.reduceLT, Int.reduceLE, Int.reduceNeg, Nat.reduceLT, Nat.reduceLeDiff, hl1, hl2, hl3, hl4, hl5]; first | done | rfl | fail) ?_; refine ⟨_, by first | exact mixed_ok | exact textI_ok t (by have := hz ‹_›; omega) | exact tokens_ok _ | exact parse_ok _ (by omega) | exact term_ok t _ (by have := hz ‹_›; omega) (parse_size _) | exact size_ok t (by have := hz ‹_›; omega) | fail, ?_⟩; refine ⟨fun _ => rfl, fun _ => rfl, rfl, ?_⟩; try simp (maxSteps := 500000) (disch := omega) only [go_sem, Bool.not_not, List.mem_singleton, forall_eq, ↓reduceIte, if_pos, rowsAt_map, wrap64, wrapu8, List.getElem?_cons_zero, List.getElem?_cons_succ, Int.reduceToNat, Nat.reduceAdd, Nat.reduceBEq, Bool.or_false, Bool.false_or, Bool.true_or, Nat.reduceSub, Nat.reduceMul, Int.reduceAdd, Int.reduceEq, Int.reduceLT, Int.reduceLE, Int.reduceNeg, Nat.reduceLT, Nat.reduceLeDiff, hl1, hl2, hl3, hl4, hl5])
    | ((with_reducible refine CallK_id ?_); refine callT [1]  ⟨_, rfl⟩ rfl (by simp (maxSteps := 500000) (disch := omega) only [go_sem, Bool.not_not, List.mem_singleton, forall_eq, ↓reduceIte, if_pos, rowsAt_map, wrap64, wrapu8, List.getElem?_cons_zero, List.getElem?_cons_succ, Int.reduceToNat, Nat.reduceAdd, Nat.reduceBEq, Bool.or_false, Bool.false_or, Bool.true_or, Nat.reduceSub, Nat.reduceMul, Int.reduceAdd, Int.reduceEq, Int.reduceLT, Int.reduceLE, Int.reduceNeg, Nat.reduceLT, Nat.reduceLeDiff, hl1, hl2, hl3, hl4, hl5]; first | done | rfl | fail) (by simp (maxSteps := 500000) (disch := omega) only [go_sem, Bool.not_not, List.mem_singleton, forall_eq, ↓reduceIte, if_pos, rowsAt_map, wrap64, wrapu8, List.getElem?_cons_zero, List.getElem?_cons_succ, Int.reduceToNat, Nat.reduceAdd, Nat.reduceBEq, Bool.or_false, Bool.false_or, Bool.true_or, Nat.reduceSub, Nat.reduceMul, Int.reduceAdd, Int.reduceEq, Int.reduceLT, Int.reduceLE, Int.reduceNeg, Nat.reduceLT, Nat.reduceLeDiff, hl1, hl2, hl3, hl4, hl5]; first | done | rfl | fail) (by simp (maxSteps := 500000) (disch := omega) only [go_sem, Bool.not_not, List.mem_singleton, forall_eq, ↓reduceIte, if_pos, rowsAt_map, wrap64, wrapu8, List.getElem?_cons_zero, List.getElem?_cons_succ, Int.reduceToNat, Nat.reduceAdd, Nat.reduceBEq, Bool.or_false, Bool.false_or, Bool.true_or, Nat.reduceSub, Nat.reduceMul, Int.reduceAdd, Int.reduceEq, Int.reduceLT, Int.reduceLE, Int.reduceNeg, Nat.reduceLT, Nat.reduceLeDiff, hl1, hl2, hl3, hl4, hl5]; first | done | rfl | fail) rfl ?_; refine ⟨_, _,  large_ok t 300 1 (by omega) (by omega) (by omega) (by omega), ?_⟩; try simp (maxSteps := 500000) (disch := omega) only [go_sem, Bool.not_not, List.mem_singleton, forall_eq, ↓reduceIte, if_pos, rowsAt_map, wrap64, wrapu8, List.getElem?_cons_zero, List.getElem?_cons_succ, Int.reduceToNat, Nat.reduceAdd, Nat.reduceBEq, Bool.or_false, Bool.false_or, Bool.true_or, Nat.reduceSub, Nat.reduceMul, Int.reduceAdd, Int.reduceEq, Int.reduceLT, Int.reduceLE, Int.reduceNeg, Nat.reduceLT, Nat.reduceLeDiff, hl1, hl2, hl3, hl4, hl5])
    | fail
    · refine ⟨(i + 1, w ++ [32, 32] ++ (gt l i).text, g ++ [32] ++ (gt l i).text), ⟨by simp only; omega, wide_step hi h2, tight_step hi h3 (if_pos ⟨‹_›, by rw [last_pos ‹_›]; assumption⟩)⟩, by simp only; omega, wk_cl 2 (by decide) (by simp) (by simp only [go_sem, Bool.not_not, List.mem_singleton, forall_eq, ↓reduceIte, if_pos, rowsAt_map, wrap64, wrapu8, List.getElem?_cons_zero, List.getElem?_cons_succ, Int.reduceToNat, Nat.reduceAdd, Nat.reduceBEq, Bool.or_false, Bool.false_or, Bool.true_or, Nat.reduceSub, Nat.reduceMul, Int.reduceAdd, Int.reduceEq, Int.reduceLT, Int.reduceLE, Int.reduceNeg, Nat.reduceLT, Nat.reduceLeDiff]; simp) (by simp only [go_sem, Bool.not_not, List.mem_singleton, forall_eq, ↓reduceIte, if_pos, rowsAt_map, wrap64, wrapu8, List.getElem?_cons_zero, List.getElem?_cons_succ, Int.reduceToNat, Nat.reduceAdd, Nat.reduceBEq, Bool.or_false, Bool.false_or, Bool.true_or, Nat.reduceSub, Nat.reduceMul, Int.reduceAdd, Int.reduceEq, Int.reduceLT, Int.reduceLE, Int.reduceNeg, Nat.reduceLT, Nat.reduceLeDiff])⟩
    · refine ⟨(i + 1, w ++ [32, 32] ++ (gt l i).text, g ++ [] ++ (gt l i).text), ⟨by simp only; omega, wide_step hi h2, tight_step hi h3 (if_neg (fun h => h.2 (by rw [last_pos ‹_›]; assumption)))⟩, by simp only; omega, wk_cl 2 (by decide) (by simp) (by simp only [go_sem, Bool.not_not, List.mem_singleton, forall_eq, ↓reduceIte, if_pos, rowsAt_map, wrap64, wrapu8, List.getElem?_cons_zero, List.getElem?_cons_succ, Int.reduceToNat, Nat.reduceAdd, Nat.reduceBEq, Bool.or_false, Bool.false_or, Bool.true_or, Nat.reduceSub, Nat.reduceMul, Int.reduceAdd, Int.reduceEq, Int.reduceLT, Int.reduceLE, Int.reduceNeg, Nat.reduceLT, Nat.reduceLeDiff]; simp) (by simp only [go_sem, Bool.not_not, List.mem_singleton, forall_eq, ↓reduceIte, if_pos, rowsAt_map, wrap64, wrapu8, List.getElem?_cons_zero, List.getElem?_cons_succ, Int.reduceToNat, Nat.reduceAdd, Nat.reduceBEq, Bool.or_false, Bool.false_or, Bool.true_or, Nat.reduceSub, Nat.reduceMul, Int.reduceAdd, Int.reduceEq, Int.reduceLT, Int.reduceLE, Int.reduceNeg, Nat.reduceLT, Nat.reduceLeDiff])⟩
    · refine ⟨(i + 1, w ++ [32, 32] ++ (gt l i).text, g ++ [] ++ (gt l i).text), ⟨by simp only; omega, wide_step hi h2, tight_step hi h3 (if_neg (fun h => h.1 ‹_›))⟩, by simp only; omega, wk_cl 2 (by decide) (by simp) (by simp only [go_sem, Bool.not_not, List.mem_singleton, forall_eq, ↓reduceIte, if_pos, rowsAt_map, wrap64, wrapu8, List.getElem?_cons_zero, List.getElem?_cons_succ, Int.reduceToNat, Nat.reduceAdd, Nat.reduceBEq, Bool.or_false, Bool.false_or, Bool.true_or, Nat.reduceSub, Nat.reduceMul, Int.reduceAdd, Int.reduceEq, Int.reduceLT, Int.reduceLE, Int.reduceNeg, Nat.reduceLT, Nat.reduceLeDiff]; simp) (by simp only [go_sem, Bool.not_not, List.mem_singleton, forall_eq, ↓reduceIte, if_pos, rowsAt_map, wrap64, wrapu8, List.getElem?_cons_zero, List.getElem?_cons_succ, Int.reduceToNat, Nat.reduceAdd, Nat.reduceBEq, Bool.or_false, Bool.false_or, Bool.true_or, Nat.reduceSub, Nat.reduceMul, Int.reduceAdd, Int.reduceEq, Int.reduceLT, Int.reduceLE, Int.reduceNeg, Nat.reduceLT, Nat.reduceLeDiff])⟩
    · refine ⟨(i + 1, w ++ [32, 32] ++ (gt l i).text, g ++ [] ++ (gt l i).text), ⟨by simp only; omega, wide_step hi h2, tight_step hi h3 (if_neg (fun h => h.2 (last_0 ‹_›)))⟩, by simp only; omega, wk_cl 2 (by decide) (by simp) (by simp only [go_sem, Bool.not_not, List.mem_singleton, forall_eq, ↓reduceIte, if_pos, rowsAt_map, wrap64, wrapu8, List.getElem?_cons_zero, List.getElem?_cons_succ, Int.reduceToNat, Nat.reduceAdd, Nat.reduceBEq, Bool.or_false, Bool.false_or, Bool.true_or, Nat.reduceSub, Nat.reduceMul, Int.reduceAdd, Int.reduceEq, Int.reduceLT, Int.reduceLE, Int.reduceNeg, Nat.reduceLT, Nat.reduceLeDiff]; simp) (by simp only [go_sem, Bool.not_not, List.mem_singleton, forall_eq, ↓reduceIte, if_pos, rowsAt_map, wrap64, wrapu8, List.getElem?_cons_zero, List.getElem?_cons_succ, Int.reduceToNat, Nat.reduceAdd, Nat.reduceBEq, Bool.or_false, Bool.false_or, Bool.true_or, Nat.reduceSub, Nat.reduceMul, Int.reduceAdd, Int.reduceEq, Int.reduceLT, Int.reduceLE, Int.reduceNeg, Nat.reduceLT, Nat.reduceLeDiff])⟩
  · have hi2 : i = l.length := by omega
    rw [hi2, List.drop_length] at h2 h3
    rw [wideF, List.append_nil] at h2
    rw [tightF, List.append_nil] at h3
    subst h2 h3
    have q1 := eqT_refl t
    have q2 := size_pos t
    have e1 : (parseF (wideF l)).2.2 = 0 := by rw [s4]
    have e2 : (parseF (tightF 4 l)).2.2 = 0 := by rw [s5]
    have e3 : eqT t (parseF (wideF l)).1 = true := by rw [s4]; exact q1
    have e4 : eqT t (parseF (tightF 4 l)).1 = true := by rw [s5]; exact q1
    repeat' first
    | with_reducible refine awp_seq ?_
    | ((with_reducible refine awp_region ?_); refine zS ?_)
    | ((with_reducible refine Gd_nd ?_ ?_) <;> intro hb hb2 <;> first | contradiction | (exfalso; omega) | (refine zH hb2 ?_; try clear hb2))
    | ((with_reducible refine Gd_nb ?_ ?_) <;> intro hb <;> first | contradiction | refine zH hb ?_)
    | ((with_reducible refine Gd_d ?_ ?_) <;> intro hb hb2 <;> first | contradiction | (exfalso; omega) | (refine zH hb2 ?_; try clear hb2))
    | ((with_reducible refine Gd_b ?_ ?_) <;> intro hb <;> first | contradiction | refine zH hb ?_)
    | ((with_reducible refine Res_id ?_); refine zS ?_)
    | ((with_reducible refine awp_drawnC ?_ ?_); rfl; refine zS ?_)
    | ((with_reducible refine awp_drawnA ?_ ?_); rfl; refine zS ?_)
    | ((with_reducible refine CGd_nd ?_ ?_) <;> intro hb hb2 <;> first | contradiction | (exfalso; omega) | (refine zH hb2 ?_; try clear hb2))
    | ((with_reducible refine CGd_nb ?_ ?_) <;> intro hb <;> first | contradiction | refine zH hb ?_)
    | ((with_reducible refine CGd_d ?_ ?_) <;> intro hb hb2 <;> first | contradiction | (exfalso; omega) | (refine zH hb2 ?_; try clear hb2))
    | ((with_reducible refine CGd_b ?_ ?_) <;> intro hb <;> first | contradiction | refine zH hb ?_)
    | ((with_reducible refine CRes_id ?_); refine zS ?_)
    | ((with_reducible refine DStep_id ?_); refine zdP ?_; refine ⟨_, by first | exact mixed_ok | exact textI_ok t (by have := hz ‹_›; omega) | exact tokens_ok _ | exact parse_ok _ (by omega) | exact term_ok t _ (by have := hz ‹_›; omega) (parse_size _) | exact size_ok t (by have := hz ‹_›; omega) | fail, fun _ => rfl, fun _ => rfl, rfl, (fun h => by first | cases h | fail), ?_⟩; try refine zS ?_)
    | ((with_reducible refine DStep_id ?_); refine zdW ?_; refine ⟨_, by first | exact mixed_ok | exact textI_ok t (by have := hz ‹_›; omega) | exact tokens_ok _ | exact parse_ok _ (by omega) | exact term_ok t _ (by have := hz ‹_›; omega) (parse_size _) | exact size_ok t (by have := hz ‹_›; omega) | fail, fun _ => rfl, fun _ => rfl, rfl, ?_⟩; try refine zS ?_)
    | ((with_reducible refine DStep_id ?_); refine zdT [1] ?_; refine ⟨_, _, by first | exact large_ok t 300 1 (by omega) (by omega) (by omega) (by omega) | fail, ?_⟩; try refine zS ?_)
    | ((with_reducible refine AWP_c ?_); refine zcdT ?_)
    | ((with_reducible refine AWP_c ?_); refine zcdF ?_)
    | ((with_reducible refine AWP_c ?_); refine zcdN ?_ ?_ <;> intro hb hb2 <;> first | contradiction | (exfalso; omega) | ((try refine zH hb2 ?_); try clear hb2))
    | ((with_reducible refine AWP_c ?_); refine zcdD ?_ ?_ <;> intro hb hb2 <;> first | contradiction | (exfalso; omega) | ((try refine zH hb2 ?_); try clear hb2))
    | ((with_reducible refine AWP_c ?_); refine zcdM ?_ ?_ <;> intro hb <;> first | contradiction | (try refine zH hb ?_))
    | ((with_reducible refine AWP_c ?_); refine zcdB ?_ ?_ <;> intro hb <;> first | contradiction | (try refine zH hb ?_))
    | ((with_reducible refine awp_ret ?_); refine fin_r ?_)
    | ((with_reducible refine awp_ret ?_); refine fin_q ?_ ?_)
    | with_reducible refine fin_qn ?_ ?_
    | ((with_reducible refine awp_skip ?_); refine zS ?_)
    | with_reducible refine awp_block ?_
    | ((with_reducible refine awp_exit ?_); refine zS ?_)
    | ((with_reducible refine CallK_id ?_); refine zcF ?_; refine ⟨_, by first | exact mixed_ok | exact textI_ok t (by have := hz ‹_›; omega) | exact tokens_ok _ | exact parse_ok _ (by omega) | exact term_ok t _ (by have := hz ‹_›; omega) (parse_size _) | exact size_ok t (by have := hz ‹_›; omega) | fail, fun _ => rfl, fun _ => rfl, rfl, ?_⟩; try refine zS ?_)
    | ((with_reducible refine CallK_id ?_); refine zcT [1] ?_; refine ⟨_, _, by first | exact large_ok t 300 1 (by omega) (by omega) (by omega) (by omega) | fail, ?_⟩; try refine zS ?_)
    | exact True.intro
    | fail
    all_goals first | rfl | exact absurd e1 ‹_› | exact absurd e2 ‹_› | exact Bool.noConfusion (e3.symm.trans ‹_›) | exact Bool.noConfusion (e4.symm.trans ‹_›) | omega
end Go.Eng
