/- Graphs as lists of pairs: sets that edges do not leave, and what marks spread to. -/
import Derived.Test.YtfblajilalcnkaaQx1
import Derived.Test.YtfblajilalcnkaaQx4
set_option linter.unusedVariables false
set_option linter.unusedSimpArgs false
namespace Go.Proofs.Ytfblajilalcnkaa.B
open Go.RowKit Go.Proofs.Ytfblajilalcnkaa.Q Go.Proofs.YtfblajilalcnkaaW.PrintWords Go.Proofs.YtfblajilalcnkaaW.PrintLast Go.Proofs.YtfblajilalcnkaaW.PrintMore

theorem wrapS {x : Int} (h0 : -9223372036854775808 ≤ x) (h1 : x ≤ 9223372036854775807) : wrap64 x = x := by unfold wrap64; omega
def mk36 (p : Nat × Nat) : S36 := ⟨(p.1 : Int), (p.2 : Int)⟩
def mk47 (p : Nat × Nat) : S47 := ⟨(p.1 : Int), (p.2 : Int)⟩
def valid (n : Nat) (P : List (Nat × Nat)) : Prop := ∀ p ∈ P, p.1 < n ∧ p.2 < n
/-- No edge leaves it. -/
def closed (P : List (Nat × Nat)) (u : Nat → Prop) : Prop := ∀ p ∈ P, u p.1 → u p.2
def T (t : List Bool) (i : Nat) : Prop := t.getD i false = true
instance (t : List Bool) (i : Nat) : Decidable (T t i) := by unfold T; infer_instance
/-- The least set that has all of t, and that no edge leaves. -/
def IsCl (P : List (Nat × Nat)) (s : Nat → Prop) (r : List Bool) : Prop := (∀ i, s i → T r i) ∧ closed P (T r) ∧ ∀ u : Nat → Prop, closed P u → (∀ i, s i → u i) → ∀ i, T r i → u i
theorem T_lt {t : List Bool} {i : Nat} (h : T t i) : i < t.length := by
  unfold T at h
  rcases Nat.lt_or_ge i t.length with h1 | h1
  · exact h1
  · rw [List.getD_eq_getElem?_getD, List.getElem?_eq_none h1] at h
    cases h
theorem T_set {t : List Bool} {j : Nat} (hj : j < t.length) (i : Nat) : T (t.set j true) i ↔ i = j ∨ T t i := by
  unfold T
  rw [List.getD_eq_getElem?_getD, List.getD_eq_getElem?_getD, List.getElem?_set]
  by_cases h : j = i
  · subst h
    simp [hj]
  · rw [if_neg h]
    simp [Ne.symm h]
theorem rdT (t : List Bool) (i : Nat) : rdOf false t (i : Int) = t.getD i false := by unfold rdOf; rw [show (i : Int).toNat = i from rfl]
theorem rd36 {P : List (Nat × Nat)} {i : Nat} (h : i < P.length) : rd_T36 (P.map mk36) (i : Int) = mk36 P[i] := by
  unfold rd_T36
  rw [show (i : Int).toNat = i from rfl, List.getD_eq_getElem?_getD, List.getElem?_eq_getElem (by simpa using h)]
  simp
theorem rd47 {P : List (Nat × Nat)} {i : Nat} (h : i < P.length) : rd_T47 (P.map mk47) (i : Int) = mk47 P[i] := by
  unfold rd_T47
  rw [show (i : Int).toNat = i from rfl, List.getD_eq_getElem?_getD, List.getElem?_eq_getElem (by simpa using h)]
  simp
def falses (t : List Bool) : Nat := t.count false
theorem falses_set : ∀ {t : List Bool} {j : Nat}, j < t.length → ¬ T t j → falses (t.set j true) + 1 = falses t
  | a :: t, 0, h, hn => by
    have e : a = false := by simpa [T] using hn
    subst e
    simp [falses]
  | a :: t, j + 1, h, hn => by
    have := falses_set (t := t) (j := j) (by simpa using h) (by simpa [T] using hn)
    simp only [falses, List.set_cons_succ, List.count_cons] at this ⊢
    omega
theorem falses_le (t : List Bool) : falses t ≤ t.length := List.count_le_length
theorem step_arith {c len i : Nat} (hc : 0 < c) (hi : i < len) : (c - 1) * (len + 2) + (len - 0) + 2 ≤ c * (len + 2) + (len - i) := by
  obtain ⟨c, rfl⟩ : ∃ m, c = m + 1 := ⟨c - 1, by omega⟩
  rw [Nat.add_sub_cancel, Nat.add_mul]
  omega
theorem spread_l1 (P : List (Nat × Nat)) (n : Nat) (hP : valid n P) (hl : P.length ≤ 256) (m : Nat) : ∀ (k : Nat) (t : List Bool) (i : Nat), t.length = n → i ≤ P.length → (∀ j, (hj : j < P.length) → j < i → T t (P[j]).1 → T t (P[j]).2) →
    falses t * (P.length + 2) + (P.length - i) = m → m < k →
    ∃ r, rank_spread.l1 k t (P.map mk36) (P.map mk36) (P.length : Int) (i : Int) = some r ∧ r.length = n ∧ IsCl P (T t) r := by
  induction m using Nat.strongRecOn with
  | _ m ih =>
    intro k t i ht hi hok hm hk
    obtain ⟨k, rfl⟩ : ∃ q, k = q + 1 := ⟨k - 1, by omega⟩
    simp only [rank_spread.l1]
    by_cases hlt : i < P.length
    · have hv := hP _ (List.getElem_mem hlt)
      rw [if_pos (by omega), if_pos (by omega), if_pos (by rw [List.length_map]; omega), rd36 hlt]
      have e0 : (mk36 P[i]).f0 = ((P[i]).1 : Int) := rfl
      have e1 : (mk36 P[i]).f1 = ((P[i]).2 : Int) := rfl
      rw [e0, e1, if_pos (by omega), if_pos (by omega), rdT, rdT, wrapS (by omega) (by omega), show ((i : Int) + 1) = ((i + 1 : Nat) : Int) by omega]
      have next : (T t (P[i]).1 → T t (P[i]).2) → ∃ r, rank_spread.l1 k t (P.map mk36) (P.map mk36) (P.length : Int) ((i + 1 : Nat) : Int) = some r ∧ r.length = n ∧ IsCl P (T t) r := by
        intro hedge
        refine ih (falses t * (P.length + 2) + (P.length - (i + 1))) (by omega) k t (i + 1) ht (by omega) ?_ rfl (by omega)
        intro j hj hji h1
        rcases Nat.lt_or_ge j i with h2 | h2
        · exact hok j hj h2 h1
        · have : j = i := by omega
          subst this
          exact hedge h1
      by_cases hf : t.getD (P[i]).1 false = true
      · rw [if_pos hf, if_pos (by omega), if_pos (by omega)]
        by_cases hg : t.getD (P[i]).2 false = true
        · rw [if_pos hg]
          exact next (fun _ => hg)
        · rw [if_neg hg]
          have hn : ¬ T t (P[i]).2 := hg
          have hfs := falses_set (t := t) (j := (P[i]).2) (by omega) hn
          have ha := step_arith (c := falses t) (len := P.length) (i := i) (by omega) hlt
          obtain ⟨k, rfl⟩ : ∃ q, k = q + 1 := ⟨k - 1, by omega⟩
          have hfe : falses (t.set (P[i]).2 true) = falses t - 1 := by omega
          obtain ⟨r, h1, h2, h3, h4, h5⟩ := ih (falses (t.set (P[i]).2 true) * (P.length + 2) + (P.length - 0)) (by rw [hfe]; omega) k (t.set (P[i]).2 true) 0 (by simpa using ht) (by omega) (fun j hj h0 => absurd h0 (by omega)) rfl (by rw [hfe]; omega)
          refine ⟨r, ?_, h2, ?_, h4, ?_⟩
          · simp only [rank_spread.l0, List.length_map]
            rw [show (((P[i]).2 : Nat) : Int).toNat = (P[i]).2 from rfl]
            exact h1
          · intro j hj
            exact h3 j ((T_set (by omega) j).2 (.inr hj))
          · intro u hu hs j hj
            refine h5 u hu ?_ j hj
            intro q hq
            rcases (T_set (by omega) q).1 hq with rfl | hq
            · exact hu _ (List.getElem_mem hlt) (hs _ hf)
            · exact hs q hq
      · rw [if_neg hf]
        exact next (fun h => absurd h hf)
    · rw [if_neg (by omega)]
      refine ⟨t, rfl, ht, fun _ h => h, ?_, fun u _ hs => hs⟩
      intro p hp h1
      obtain ⟨j, hj, rfl⟩ := List.getElem_of_mem hp
      exact hok j hj (by omega) h1
theorem spread (P : List (Nat × Nat)) (n : Nat) (hP : valid n P) (hn : n ≤ 64) (hl : P.length ≤ 256) (t : List Bool) (ht : t.length = n) (k : Nat) (hk : 20000 ≤ k) :
    ∃ r, rank_spread.f k t (P.map mk36) = some r ∧ r.length = n ∧ IsCl P (T t) r := by
  obtain ⟨k, rfl⟩ : ∃ q, k = q + 1 := ⟨k - 1, by omega⟩
  have hf := falses_le t
  have h1 : falses t * (P.length + 2) ≤ 64 * 258 := Nat.mul_le_mul (by omega) (by omega)
  obtain ⟨r, h2, h3⟩ := spread_l1 P n hP hl _ k t 0 ht (by omega) (fun j hj h0 => absurd h0 (by omega)) rfl (by omega)
  refine ⟨r, ?_, h3⟩
  unfold rank_spread.f
  simp only [rank_spread.l0, List.length_map]
  exact h2
/-- The places of marks, rising. -/
def idx (t : List Bool) : List Int := ((List.range t.length).filter fun i => t.getD i false).map fun i : Nat => (i : Int)
theorem range_split {n i : Nat} (h : i < n) : (List.range n).drop i = i :: (List.range n).drop (i + 1) := by
  rw [List.drop_eq_getElem_cons (by simpa using h)]
  simp
theorem marked_l0 (t : List Bool) (n : Nat) (ht : t.length = n) (hn : n ≤ 64) (d : Nat) : ∀ (k i : Nat) (acc : List Int), n - i = d → i ≤ n → acc.length ≤ i → d < k →
    rank_marked.l0 k acc t (n : Int) (i : Int) = some (acc ++ (((List.range n).drop i).filter fun i => t.getD i false).map fun i : Nat => (i : Int)) := by
  induction d with
  | zero =>
    intro k i acc hd hi ha hk
    obtain ⟨k, rfl⟩ : ∃ m, k = m + 1 := ⟨k - 1, by omega⟩
    simp only [rank_marked.l0]
    rw [if_neg (by omega), List.drop_eq_nil_of_le (by simp; omega)]
    simp
  | succ d ih =>
    intro k i acc hd hi ha hk
    obtain ⟨k, rfl⟩ : ∃ m, k = m + 1 := ⟨k - 1, by omega⟩
    have hlt : i < n := by omega
    simp only [rank_marked.l0]
    rw [if_pos (by omega), if_pos (by omega), if_pos (by omega), rdT, wrapS (by omega) (by omega), show ((i : Int) + 1) = ((i + 1 : Nat) : Int) by omega, range_split hlt]
    by_cases h : t.getD i false = true
    · rw [if_pos h, if_pos (by omega), ih k (i + 1) _ (by omega) (by omega) (by simp; omega) (by omega), List.filter_cons, if_pos h]
      simp
    · rw [if_neg h, ih k (i + 1) _ (by omega) (by omega) (by omega) (by omega), List.filter_cons, if_neg h]
theorem marked (t : List Bool) (hn : t.length ≤ 64) (k : Nat) (hk : 100 ≤ k) : rank_marked.f k t = some (idx t) := by
  unfold rank_marked.f
  have := marked_l0 t t.length rfl hn t.length k 0 [] (by omega) (by omega) (by simp) (by omega)
  simpa [idx] using this
theorem idx_congr {t u : List Bool} (hl : t.length = u.length) (h : ∀ i, T t i ↔ T u i) : idx t = idx u := by
  unfold idx
  rw [hl]
  congr 1
  apply List.filter_congr
  intro i _
  have := h i
  unfold T at this
  cases h1 : t.getD i false <;> cases h2 : u.getD i false <;> simp_all
theorem IsCl.unique {P : List (Nat × Nat)} {s s' : Nat → Prop} {t u : List Bool} (ht : IsCl P s t) (hu : IsCl P s' u) (hs : ∀ i, s i ↔ s' i) (i : Nat) : T t i ↔ T u i :=
  ⟨ht.2.2 (T u) hu.2.1 (fun j hj => hu.1 j ((hs j).1 hj)) i, hu.2.2 (T t) ht.2.1 (fun j hj => ht.1 j ((hs j).2 hj)) i⟩
end Go.Proofs.Ytfblajilalcnkaa.B
