/- The document's search, the checks and the comparison of lists. -/
import Derived.Test.YtfblajilalcnkaaQx2
import Derived.Test.YtfblajilalcnkaaQx3
import Derived.Test.YtfblajilalcnkaaB1
set_option linter.unusedVariables false
set_option linter.unusedSimpArgs false
namespace Go.Proofs.Ytfblajilalcnkaa.B
open Go.RowKit Go.Proofs.Ytfblajilalcnkaa.Q Go.Proofs.YtfblajilalcnkaaW.PrintWords Go.Proofs.YtfblajilalcnkaaW.PrintLast Go.Proofs.YtfblajilalcnkaaW.PrintMore

/-- What one thing's edges lead to. -/
def seeds (P : List (Nat × Nat)) (a : Nat) (i : Nat) : Prop := ∃ p ∈ P, p.1 = a ∧ p.2 = i
theorem T_rep (n i : Nat) : ¬ T (List.replicate n false) i := by
  unfold T
  rw [List.getD_eq_getElem?_getD, List.getElem?_replicate]
  split <;> simp
def stable (P : List (Nat × Nat)) (t : List Bool) : Prop := closed P (T t)
theorem set_same {t : List Bool} {j : Nat} (h : T t j) : t.set j true = t := by
  have hj := T_lt h
  have e : t[j] = true := by
    unfold T at h
    rwa [List.getD_eq_getElem?_getD, List.getElem?_eq_getElem hj] at h
  conv => rhs; rw [← List.set_getElem_self hj]
  rw [e]
theorem all_true : ∀ {t : List Bool}, falses t = 0 → ∀ i, i < t.length → T t i
  | a :: t, h, 0, hi => by cases a <;> simp_all [falses, T]
  | a :: t, h, i + 1, hi => by
    have h2 : falses t = 0 := by cases a <;> simp_all [falses, List.count_cons]
    have := all_true h2 i (by simpa using hi)
    simpa [T] using this
section
variable (P : List (Nat × Nat)) (n : Nat) (hP : valid n P) (hn : n ≤ 64) (hl : P.length ≤ 256) (b : Nat) (hb : b < n)
include hP hn hl hb
/-- The passes that are left. -/
theorem leads_l1 (d : Nat) : ∀ (k x : Nat) (t : List Bool), n - x = d → x ≤ n → t.length = n → (stable P t ∨ falses t + x ≤ n) → d * (P.length + 2) + 1 < k →
    ∃ r, treenailref09_Leads.l1 k (n : Int) (P.map mk47) (b : Int) t (x : Int) = some (r.getD b false) ∧ r.length = n ∧ IsCl P (T t) r := by
  induction d with
  | zero =>
    intro k x t hd hx ht hs hk
    obtain ⟨k, rfl⟩ : ∃ q, k = q + 1 := ⟨k - 1, by omega⟩
    refine ⟨t, ?_, ht, fun _ h => h, ?_, fun _ _ h => h⟩
    · simp only [treenailref09_Leads.l1]
      rw [if_neg (by omega), if_pos (by omega), if_pos (by omega), rdT]
    · rcases hs with hs | hs
      · exact hs
      · intro p hp _
        exact all_true (by omega) _ (by have := (hP p hp).2; omega)
  | succ d ih =>
    intro k x t hd hx ht hs hk
    obtain ⟨k, rfl⟩ : ∃ q, k = q + 1 := ⟨k - 1, by omega⟩
    rw [Nat.add_mul] at hk
    have pass : ∀ (c k i : Nat) (u : List Bool), P.length - i = c → i ≤ P.length → u.length = n → (∀ j, T t j → T u j) → (∀ v : Nat → Prop, closed P v → (∀ j, T t j → v j) → ∀ j, T u j → v j) →
        ((u = t ∧ ∀ j, (hj : j < P.length) → j < i → T t (P[j]).1 → T t (P[j]).2) ∨ (falses u < falses t ∧ ¬ stable P t)) → d * (P.length + 2) + 1 + c + 1 < k →
        ∃ r, treenailref09_Leads.l2 k (n : Int) (P.map mk47) (b : Int) u (x : Int) (P.map mk47) (P.length : Int) (i : Int) = some (r.getD b false) ∧ r.length = n ∧ IsCl P (T t) r := by
      intro c
      induction c with
      | zero =>
        intro k i u hc hi hu h1 h2 h3 hk
        obtain ⟨k, rfl⟩ : ∃ q, k = q + 1 := ⟨k - 1, by omega⟩
        simp only [treenailref09_Leads.l2]
        rw [if_neg (by omega), wrapS (by omega) (by omega), show ((x : Int) + 1) = ((x + 1 : Nat) : Int) by omega]
        obtain ⟨r, e1, e2, e3, e4, e5⟩ := ih k (x + 1) u (by omega) (by omega) hu (by
          rcases h3 with ⟨rfl, h3⟩ | ⟨h3, h4⟩
          · left
            intro p hp hh
            obtain ⟨j, hj, rfl⟩ := List.getElem_of_mem hp
            exact h3 j hj (by omega) hh
          · right
            rcases hs with hs | hs
            · exact absurd hs h4
            · omega) (by omega)
        exact ⟨r, e1, e2, fun j hj => e3 j (h1 j hj), e4, fun v hv hs' => e5 v hv (h2 v hv hs')⟩
      | succ c ihc =>
        intro k i u hc hi hu h1 h2 h3 hk
        obtain ⟨k, rfl⟩ : ∃ q, k = q + 1 := ⟨k - 1, by omega⟩
        have hlt : i < P.length := by omega
        have hv := hP _ (List.getElem_mem hlt)
        simp only [treenailref09_Leads.l2]
        have e0 : (mk47 P[i]).f0 = ((P[i]).1 : Int) := rfl
        have e1 : (mk47 P[i]).f1 = ((P[i]).2 : Int) := rfl
        rw [if_pos (by omega), if_pos (by omega), if_pos (by rw [List.length_map]; omega), rd47 hlt, e0, e1, if_pos (by omega), if_pos (by omega), rdT, wrapS (by omega) (by omega), show ((i : Int) + 1) = ((i + 1 : Nat) : Int) by omega]
        by_cases hf : u.getD (P[i]).1 false = true
        · rw [if_pos hf, if_pos (by omega), if_pos (by omega), show (((P[i]).2 : Nat) : Int).toNat = (P[i]).2 from rfl]
          refine ihc k (i + 1) (u.set (P[i]).2 true) (by omega) (by omega) (by simpa using hu) ?_ ?_ ?_ (by omega)
          · intro j hj
            exact (T_set (by omega) j).2 (.inr (h1 j hj))
          · intro v hv' hs' j hj
            rcases (T_set (by omega) j).1 hj with rfl | hj
            · exact hv' _ (List.getElem_mem hlt) (h2 v hv' hs' _ hf)
            · exact h2 v hv' hs' j hj
          · by_cases hg : T u (P[i]).2
            · rw [set_same hg]
              rcases h3 with ⟨rfl, h3⟩ | h3
              · refine .inl ⟨rfl, fun j hj hji hh => ?_⟩
                rcases Nat.lt_or_ge j i with h4 | h4
                · exact h3 j hj h4 hh
                · have : j = i := by omega
                  subst this
                  exact hg
              · exact .inr h3
            · have hfs := falses_set (t := u) (j := (P[i]).2) (by omega) hg
              right
              rcases h3 with ⟨rfl, h3⟩ | ⟨h3, h4⟩
              · exact ⟨by omega, fun hst => hg (hst _ (List.getElem_mem hlt) hf)⟩
              · exact ⟨by omega, h4⟩
        · rw [if_neg hf]
          refine ihc k (i + 1) u (by omega) (by omega) hu h1 h2 ?_ (by omega)
          rcases h3 with ⟨rfl, h3⟩ | h3
          · refine .inl ⟨rfl, fun j hj hji hh => ?_⟩
            rcases Nat.lt_or_ge j i with h4 | h4
            · exact h3 j hj h4 hh
            · have : j = i := by omega
              subst this
              exact absurd hh hf
          · exact .inr h3
    obtain ⟨r, h1, h2⟩ := pass P.length k 0 t (by omega) (by omega) ht (fun _ h => h) (fun _ _ h => h) (.inl ⟨rfl, fun j hj h0 => absurd h0 (by omega)⟩) (by omega)
    refine ⟨r, ?_, h2⟩
    simp only [treenailref09_Leads.l1, List.length_map]
    rw [if_pos (by omega)]
    exact h1
theorem leads_l0 (a : Nat) (ha : a < n) (d : Nat) : ∀ (k i : Nat) (t : List Bool), P.length - i = d → i ≤ P.length → t.length = n → (∀ j, T t j ↔ ∃ q, ∃ (hq : q < P.length), q < i ∧ (P[q]).1 = a ∧ (P[q]).2 = j) → n * (P.length + 2) + d + 10 < k →
    ∃ r, treenailref09_Leads.l0 k (n : Int) (P.map mk47) (a : Int) (b : Int) t (P.map mk47) (P.length : Int) (i : Int) = some (r.getD b false) ∧ r.length = n ∧ IsCl P (seeds P a) r := by
  induction d with
  | zero =>
    intro k i t hd hi ht hs hk
    obtain ⟨k, rfl⟩ : ∃ q, k = q + 1 := ⟨k - 1, by omega⟩
    have hf := falses_le t
    obtain ⟨r, h1, h2, h3⟩ := leads_l1 P n hP hn hl b hb n k 0 t (by omega) (by omega) ht (.inr (by omega)) (by omega)
    refine ⟨r, ?_, h2, ?_⟩
    · simp only [treenailref09_Leads.l0]
      rw [if_neg (by omega)]
      exact h1
    · have e : ∀ j, seeds P a j ↔ T t j := by
        intro j
        rw [hs]
        constructor
        · rintro ⟨p, hp, rfl, rfl⟩
          obtain ⟨q, hq, rfl⟩ := List.getElem_of_mem hp
          exact ⟨q, hq, by omega, rfl, rfl⟩
        · rintro ⟨q, hq, _, e1, e2⟩
          exact ⟨P[q], List.getElem_mem hq, e1, e2⟩
      exact ⟨fun j hj => h3.1 j ((e j).1 hj), h3.2.1, fun u hu hs' => h3.2.2 u hu (fun j hj => hs' j ((e j).2 hj))⟩
  | succ d ih =>
    intro k i t hd hi ht hs hk
    obtain ⟨k, rfl⟩ : ∃ q, k = q + 1 := ⟨k - 1, by omega⟩
    have hlt : i < P.length := by omega
    have hv := hP _ (List.getElem_mem hlt)
    simp only [treenailref09_Leads.l0]
    have e0 : (mk47 P[i]).f0 = ((P[i]).1 : Int) := rfl
    have e1 : (mk47 P[i]).f1 = ((P[i]).2 : Int) := rfl
    rw [if_pos (by omega), if_pos (by omega), if_pos (by rw [List.length_map]; omega), rd47 hlt, e0, e1, wrapS (by omega) (by omega), show ((i : Int) + 1) = ((i + 1 : Nat) : Int) by omega]
    by_cases h : (P[i]).1 = a
    · rw [if_pos (by omega), if_pos (by omega), if_pos (by omega), show (((P[i]).2 : Nat) : Int).toNat = (P[i]).2 from rfl]
      refine ih k (i + 1) (t.set (P[i]).2 true) (by omega) (by omega) (by simpa using ht) ?_ (by omega)
      intro j
      rw [T_set (by omega), hs]
      constructor
      · rintro (rfl | ⟨q, hq, h1, h2⟩)
        · exact ⟨i, hlt, by omega, h, rfl⟩
        · exact ⟨q, hq, by omega, h2⟩
      · rintro ⟨q, hq, h1, h2, h3⟩
        rcases Nat.lt_or_ge q i with h4 | h4
        · exact .inr ⟨q, hq, h4, h2, h3⟩
        · have : q = i := by omega
          subst this
          exact .inl h3.symm
    · rw [if_neg (by omega)]
      refine ih k (i + 1) t (by omega) (by omega) ht ?_ (by omega)
      intro j
      rw [hs]
      constructor
      · rintro ⟨q, hq, h1, h2⟩
        exact ⟨q, hq, by omega, h2⟩
      · rintro ⟨q, hq, h1, h2, h3⟩
        rcases Nat.lt_or_ge q i with h4 | h4
        · exact ⟨q, hq, h4, h2, h3⟩
        · have : q = i := by omega
          subst this
          exact absurd h2 h
theorem leads (a : Nat) (ha : a < n) (k : Nat) (hk : 20000 ≤ k) : ∃ r, treenailref09_Leads.f k (n : Int) (P.map mk47) (a : Int) (b : Int) = some (r.getD b false) ∧ r.length = n ∧ IsCl P (seeds P a) r := by
  unfold treenailref09_Leads.f
  rw [if_pos (by omega), show (n : Int).toNat = n from rfl, if_pos (by omega), List.length_map]
  have h1 : n * (P.length + 2) ≤ 64 * 258 := Nat.mul_le_mul hn (by omega)
  refine leads_l0 P n hP hn hl b hb a ha P.length k 0 _ (by omega) (by omega) (by simp) ?_ (by omega)
  intro j
  exact ⟨fun h => absurd h (T_rep n j), fun ⟨q, hq, h0, _⟩ => absurd h0 (by omega)⟩
end
end Go.Proofs.Ytfblajilalcnkaa.B
