/- What goes round, what is met, and which graphs are right: the program's answers and the document's. -/
import Derived.Test.YtfblajilalcnkaaB2
set_option linter.unusedVariables false
set_option linter.unusedSimpArgs false
namespace Go.Proofs.Ytfblajilalcnkaa.B
open Go.RowKit Go.Proofs.Ytfblajilalcnkaa.Q Go.Proofs.YtfblajilalcnkaaW.PrintWords Go.Proofs.YtfblajilalcnkaaW.PrintLast Go.Proofs.YtfblajilalcnkaaW.PrintMore

def inCl (P : List (Nat × Nat)) (s : Nat → Prop) (j : Nat) : Prop := ∀ u : Nat → Prop, closed P u → (∀ i, s i → u i) → u j
theorem IsCl.iff {P : List (Nat × Nat)} {s : Nat → Prop} {r : List Bool} (h : IsCl P s r) (j : Nat) : T r j ↔ inCl P s j :=
  ⟨fun hj u hu hs => h.2.2 u hu hs j hj, fun hj => hj (T r) h.2.1 h.1⟩
theorem inCl_congr {P : List (Nat × Nat)} {s s' : Nat → Prop} (h : ∀ i, s i ↔ s' i) (j : Nat) : inCl P s j ↔ inCl P s' j :=
  ⟨fun hj u hu hs => hj u hu (fun i hi => hs i ((h i).1 hi)), fun hj u hu hs => hj u hu (fun i hi => hs i ((h i).2 hi))⟩
noncomputable def rndB (P : List (Nat × Nat)) (i : Nat) : Bool := @decide (inCl P (seeds P i) i) (Classical.propDecidable _)
noncomputable def metB (P : List (Nat × Nat)) (a j : Nat) : Bool := @decide (inCl P (fun q => q = a) j) (Classical.propDecidable _)
theorem rndB_iff (P : List (Nat × Nat)) (i : Nat) : rndB P i = true ↔ inCl P (seeds P i) i := by unfold rndB; exact @decide_eq_true_iff _ (Classical.propDecidable _)
theorem metB_iff (P : List (Nat × Nat)) (a j : Nat) : metB P a j = true ↔ inCl P (fun q => q = a) j := by unfold metB; exact @decide_eq_true_iff _ (Classical.propDecidable _)
theorem met_iff (P : List (Nat × Nat)) (a j : Nat) : inCl P (fun q => q = a) j ↔ j = a ∨ inCl P (seeds P a) j := by
  constructor
  · intro h
    refine h (fun j => j = a ∨ inCl P (seeds P a) j) ?_ (fun i hi => .inl hi)
    rintro p hp (h1 | h1)
    · exact .inr (fun u hu hs => hs _ ⟨p, hp, h1, rfl⟩)
    · exact .inr (fun u hu hs => hu p hp (h1 u hu hs))
  · rintro (rfl | h) u hu hs
    · exact hs _ rfl
    · refine h u hu ?_
      rintro i ⟨p, hp, h1, rfl⟩
      exact hu p hp (hs _ h1)
noncomputable def roundL (P : List (Nat × Nat)) (n : Nat) : List Int := ((List.range n).filter (rndB P)).map fun i : Nat => (i : Int)
noncomputable def meetL (P : List (Nat × Nat)) (n a : Nat) : List Int := ((List.range n).filter (metB P a)).map fun i : Nat => (i : Int)
theorem idx_eq {t : List Bool} {n : Nat} (ht : t.length = n) {f : Nat → Bool} (h : ∀ i, i < n → (T t i ↔ f i = true)) : idx t = ((List.range n).filter f).map fun i : Nat => (i : Int) := by
  unfold idx
  rw [ht]
  congr 1
  apply List.filter_congr
  intro i hi
  have := h i (by simpa using hi)
  unfold T at this
  cases h1 : t.getD i false <;> cases h2 : f i <;> simp_all
section
variable (P : List (Nat × Nat)) (n : Nat) (hP : valid n P) (hn : n ≤ 64) (hl : P.length ≤ 256)
include hP hn hl
theorem round_l1 (seen : List Bool) (hs : seen.length = n) (i : Nat) (hi : i < n) (k0 : Nat) (hk0 : 30000 ≤ k0) (R : Option (List Int × Int))
    (hR : ∀ k, k0 ≤ k → ∀ c : Bool, (c = true ↔ inCl P (seeds P i) i) → rank_Round.l0 k (n : Int) (P.map mk36) (seen.set i c) (n : Int) ((i + 1 : Nat) : Int) = R) (d : Nat) :
    ∀ (k j : Nat) (t : List Bool), P.length - j = d → j ≤ P.length → t.length = n → (∀ x, T t x ↔ ∃ q, ∃ (hq : q < P.length), q < j ∧ (P[q]).1 = i ∧ (P[q]).2 = x) → k0 + d + 2 < k →
    rank_Round.l1 k (n : Int) (P.map mk36) seen (i : Int) t (n : Int) (i : Int) (P.map mk36) (P.length : Int) (j : Int) = R := by
  induction d with
  | zero =>
    intro k j t hd hj ht hs' hk
    obtain ⟨k, rfl⟩ : ∃ q, k = q + 1 := ⟨k - 1, by omega⟩
    obtain ⟨r, h1, h2, h3⟩ := spread P n hP hn hl t ht k (by omega)
    simp only [rank_Round.l1]
    rw [if_neg (by omega), h1]
    simp only [Option.bind_some]
    rw [if_pos (by omega), if_pos (by omega), if_pos (by omega), rdT, wrapS (by omega) (by omega), show ((i : Int) + 1) = ((i + 1 : Nat) : Int) by omega, show (i : Int).toNat = i from rfl]
    refine hR k (by omega) _ ?_
    have e : ∀ x, seeds P i x ↔ T t x := by
      intro x
      rw [hs']
      constructor
      · rintro ⟨p, hp, rfl, rfl⟩
        obtain ⟨q, hq, rfl⟩ := List.getElem_of_mem hp
        exact ⟨q, hq, by omega, rfl, rfl⟩
      · rintro ⟨q, hq, _, e1, e2⟩
        exact ⟨P[q], List.getElem_mem hq, e1, e2⟩
    rw [inCl_congr e]
    exact h3.iff i
  | succ d ih =>
    intro k j t hd hj ht hs' hk
    obtain ⟨k, rfl⟩ : ∃ q, k = q + 1 := ⟨k - 1, by omega⟩
    have hlt : j < P.length := by omega
    have hv := hP _ (List.getElem_mem hlt)
    simp only [rank_Round.l1]
    have e0 : (mk36 P[j]).f0 = ((P[j]).1 : Int) := rfl
    have e1 : (mk36 P[j]).f1 = ((P[j]).2 : Int) := rfl
    rw [if_pos (by omega), if_pos (by omega), if_pos (by rw [List.length_map]; omega), rd36 hlt, e0, e1, wrapS (by omega) (by omega), show ((j : Int) + 1) = ((j + 1 : Nat) : Int) by omega]
    by_cases h : (P[j]).1 = i
    · rw [if_pos (by omega), if_pos (by omega), if_pos (by omega), show (((P[j]).2 : Nat) : Int).toNat = (P[j]).2 from rfl]
      refine ih k (j + 1) (t.set (P[j]).2 true) (by omega) (by omega) (by simpa using ht) ?_ (by omega)
      intro x
      rw [T_set (by omega), hs']
      constructor
      · rintro (rfl | ⟨q, hq, h1, h2⟩)
        · exact ⟨j, hlt, by omega, h, rfl⟩
        · exact ⟨q, hq, by omega, h2⟩
      · rintro ⟨q, hq, h1, h2, h3⟩
        rcases Nat.lt_or_ge q j with h4 | h4
        · exact .inr ⟨q, hq, h4, h2, h3⟩
        · have : q = j := by omega
          subst this
          exact .inl h3.symm
    · rw [if_neg (by omega)]
      refine ih k (j + 1) t (by omega) (by omega) ht ?_ (by omega)
      intro x
      rw [hs']
      constructor
      · rintro ⟨q, hq, h1, h2⟩
        exact ⟨q, hq, by omega, h2⟩
      · rintro ⟨q, hq, h1, h2, h3⟩
        rcases Nat.lt_or_ge q j with h4 | h4
        · exact ⟨q, hq, h4, h2, h3⟩
        · have : q = j := by omega
          subst this
          exact absurd h2 h
theorem round_l0 (d : Nat) : ∀ (k i : Nat) (seen : List Bool), n - i = d → i ≤ n → seen.length = n → (∀ x, x < i → (T seen x ↔ inCl P (seeds P x) x)) → 30000 + d * 300 ≤ k →
    rank_Round.l0 k (n : Int) (P.map mk36) seen (n : Int) (i : Int) = some (roundL P n, 0) := by
  induction d with
  | zero =>
    intro k i seen hd hi hs h hk
    obtain ⟨k, rfl⟩ : ∃ q, k = q + 1 := ⟨k - 1, by omega⟩
    simp only [rank_Round.l0]
    rw [if_neg (by omega), marked seen (by omega) k (by omega), idx_eq hs (f := rndB P) (fun x hx => (h x (by omega)).trans (rndB_iff P x).symm)]
    rfl
  | succ d ih =>
    intro k i seen hd hi hs h hk
    obtain ⟨k, rfl⟩ : ∃ q, k = q + 1 := ⟨k - 1, by omega⟩
    simp only [rank_Round.l0, List.length_map]
    rw [if_pos (by omega), if_pos (by omega), show (n : Int).toNat = n from rfl, if_pos (by omega)]
    refine round_l1 P n hP hn hl seen hs i (by omega) (30000 + d * 300) (by omega) _ ?_ P.length k 0 _ (by omega) (by omega) (by simp) ?_ (by omega)
    · intro k2 hk2 c hc
      refine ih k2 (i + 1) _ (by omega) (by omega) (by simpa using hs) ?_ hk2
      intro x hx
      have e : T (seen.set i c) x ↔ (if x = i then c = true else T seen x) := by
        unfold T
        rw [List.getD_eq_getElem?_getD, List.getD_eq_getElem?_getD, List.getElem?_set]
        by_cases hxi : i = x
        · subst hxi
          simp [show i < seen.length by omega]
        · rw [if_neg hxi, if_neg (Ne.symm hxi)]
      rw [e]
      by_cases hxi : x = i
      · subst hxi
        rw [if_pos rfl]
        exact hc
      · rw [if_neg hxi]
        exact h x (by omega)
    · intro j
      exact ⟨fun hh => absurd hh (T_rep n j), fun ⟨q, hq, h0, _⟩ => absurd h0 (by omega)⟩
theorem rround_l0 (d : Nat) : ∀ (k i : Nat), n - i = d → i ≤ n → 30000 + d ≤ k → ∀ acc : List Int, acc.length ≤ i →
    treenailref09_Round.l0 k (n : Int) (P.map mk47) acc (i : Int) = some (acc ++ (((List.range n).drop i).filter (rndB P)).map (fun i : Nat => (i : Int)), 0) := by
  induction d with
  | zero =>
    intro k i hd hi hk acc ha
    obtain ⟨k, rfl⟩ : ∃ q, k = q + 1 := ⟨k - 1, by omega⟩
    simp only [treenailref09_Round.l0]
    rw [if_neg (by omega), List.drop_eq_nil_of_le (by simp; omega)]
    simp
  | succ d ih =>
    intro k i hd hi hk acc ha
    obtain ⟨k, rfl⟩ : ∃ q, k = q + 1 := ⟨k - 1, by omega⟩
    obtain ⟨r, h1, h2, h3⟩ := leads P n hP hn hl i (by omega) i (by omega) k (by omega)
    have hb : (r.getD i false = true) ↔ rndB P i = true := (h3.iff i).trans (rndB_iff P i).symm
    simp only [treenailref09_Round.l0]
    rw [if_pos (by omega), h1]
    simp only [Option.bind_some]
    rw [wrapS (by omega) (by omega), show ((i : Int) + 1) = ((i + 1 : Nat) : Int) by omega, range_split (show i < n by omega), List.filter_cons]
    by_cases h : r.getD i false = true
    · rw [if_pos h, if_pos (by omega), if_pos (hb.1 h), ih k (i + 1) (by omega) (by omega) (by omega) _ (by simp; omega)]
      simp
    · rw [if_neg h, if_neg (fun hh => h (hb.2 hh)), ih k (i + 1) (by omega) (by omega) (by omega) _ (by omega)]
theorem rmeets_l0 (a : Nat) (ha : a < n) (d : Nat) : ∀ (k i : Nat), n - i = d → i ≤ n → 30000 + d ≤ k → ∀ acc : List Int, acc.length ≤ i →
    treenailref09_Meets.l0 k (n : Int) (P.map mk47) (a : Int) acc (i : Int) = some (acc ++ (((List.range n).drop i).filter (metB P a)).map (fun i : Nat => (i : Int)), 0) := by
  induction d with
  | zero =>
    intro k i hd hi hk acc hac
    obtain ⟨k, rfl⟩ : ∃ q, k = q + 1 := ⟨k - 1, by omega⟩
    simp only [treenailref09_Meets.l0]
    rw [if_neg (by omega), List.drop_eq_nil_of_le (by simp; omega)]
    simp
  | succ d ih =>
    intro k i hd hi hk acc hac
    obtain ⟨k, rfl⟩ : ∃ q, k = q + 1 := ⟨k - 1, by omega⟩
    obtain ⟨r, h1, h2, h3⟩ := leads P n hP hn hl i (by omega) a ha k (by omega)
    have hb : metB P a i = true ↔ (i = a ∨ r.getD i false = true) := by
      rw [metB_iff, met_iff]
      have := h3.iff i
      unfold T at this
      rw [this]
    simp only [treenailref09_Meets.l0]
    rw [if_pos (by omega), h1]
    simp only [Option.bind_some]
    rw [wrapS (by omega) (by omega), show ((i : Int) + 1) = ((i + 1 : Nat) : Int) by omega, range_split (show i < n by omega), List.filter_cons]
    by_cases e : i = a
    · rw [if_pos (by omega), if_pos (by omega), if_pos (hb.2 (.inl e)), ih k (i + 1) (by omega) (by omega) (by omega) _ (by simp; omega)]
      simp
    · rw [if_neg (by omega)]
      by_cases h : r.getD i false = true
      · rw [if_pos h, if_pos (by omega), if_pos (hb.2 (.inr h)), ih k (i + 1) (by omega) (by omega) (by omega) _ (by simp; omega)]
        simp
      · rw [if_neg h, if_neg (fun hh => (hb.1 hh).elim e h), ih k (i + 1) (by omega) (by omega) (by omega) _ (by omega)]
theorem met (a : Nat) (ha : a < n) (k : Nat) (hk : 20000 ≤ k) : ∃ r, rank_met.f k (n : Int) (P.map mk36) (a : Int) = some r ∧ r.length = n ∧ ∀ j, T r j ↔ inCl P (fun q => q = a) j := by
  unfold rank_met.f
  rw [if_pos (by omega), show (n : Int).toNat = n from rfl, if_pos (by omega)]
  simp only [Option.bind_some]
  obtain ⟨r, h1, h2, h3⟩ := spread P n hP hn hl ((List.replicate n false).set a true) (by simp) k hk
  rw [if_pos (by omega), if_pos (by simp; omega), show (a : Int).toNat = a from rfl, h1]
  refine ⟨r, rfl, h2, fun j => (h3.iff j).trans (inCl_congr (fun i => ?_) j)⟩
  rw [T_set (by simpa using ha)]
  exact ⟨fun h => h.elim id (fun h => absurd h (T_rep n i)), .inl⟩
end
end Go.Proofs.Ytfblajilalcnkaa.B
