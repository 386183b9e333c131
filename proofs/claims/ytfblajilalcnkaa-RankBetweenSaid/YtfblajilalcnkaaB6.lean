/- All between two: the program's answer. -/
import Derived.Test.YtfblajilalcnkaaB5
import Derived.Test.YtfblajilalcnkaaQx10
set_option linter.unusedVariables false
set_option linter.unusedSimpArgs false
set_option linter.unusedSectionVars false
set_option maxRecDepth 10000
namespace Go.Proofs.Ytfblajilalcnkaa.B
open Go.RowKit Go.Proofs.Ytfblajilalcnkaa.Q Go.Proofs.YtfblajilalcnkaaW.PrintWords Go.Proofs.YtfblajilalcnkaaW.PrintLast Go.Proofs.YtfblajilalcnkaaW.PrintMore

def flip (p : Nat × Nat) : Nat × Nat := (p.2, p.1)
def rev (P : List (Nat × Nat)) : List (Nat × Nat) := P.map flip
theorem rev_iff (P : List (Nat × Nat)) (b i : Nat) : inCl (rev P) (fun q => q = b) i ↔ i = b ∨ run P i b := by
  constructor
  · intro h
    refine h (fun i => i = b ∨ run P i b) ?_ (fun j hj => .inl hj)
    intro p hp hh
    obtain ⟨q, hq, rfl⟩ := List.mem_map.1 hp
    simp only [flip] at hh ⊢
    rcases hh with h1 | h1
    · exact .inr (h1 ▸ run_edge hq)
    · exact .inr (run_trans (run_edge hq) h1)
  · intro h u hu hs
    rcases h with rfl | h
    · exact hs _ rfl
    · refine h (fun x => u x → u i) ?_ ?_ (hs _ rfl)
      · intro p hp h1 h2
        exact h1 (hu (flip p) (List.mem_map.2 ⟨p, hp, rfl⟩) h2)
      · rintro x ⟨p, hp, rfl, rfl⟩ h2
        exact hu (flip p) (List.mem_map.2 ⟨p, hp, rfl⟩) h2
noncomputable def btB (P : List (Nat × Nat)) (a b i : Nat) : Bool := metB P a i && metB (rev P) b i
noncomputable def betL (P : List (Nat × Nat)) (n a b : Nat) : List Int := ((List.range n).filter (btB P a b)).map fun i : Nat => (i : Int)
theorem btB_iff (P : List (Nat × Nat)) (a b i : Nat) : btB P a b i = true ↔ (i = a ∨ run P a i) ∧ (i = b ∨ run P i b) := by
  unfold btB
  rw [Bool.and_eq_true, metB_iff, metB_iff, met_iff, rev_iff]
  exact Iff.rfl
section
variable (P : List (Nat × Nat)) (n : Nat) (hP : valid n P) (hn : n ≤ 64) (hl : P.length ≤ 256)
include hP hn hl
theorem valid_rev : valid n (rev P) := by
  intro p hp
  obtain ⟨q, hq, rfl⟩ := List.mem_map.1 hp
  exact ⟨(hP q hq).2, (hP q hq).1⟩
theorem bet_l1 (u : List Bool) (hu : u.length = n) (d : Nat) : ∀ (k i : Nat) (t : List Bool), n - i = d → i ≤ n → t.length = n → 200 + d < k →
    ∃ r : List Bool, r.length = n ∧ (∀ j, j < n → (T r j ↔ T t j ∧ (i ≤ j → T u j))) ∧ rank_Between.l1 k t u (n : Int) (i : Int) = some (idx r, 0) := by
  induction d with
  | zero =>
    intro k i t hd hi ht hk
    obtain ⟨k, rfl⟩ : ∃ q, k = q + 1 := ⟨k - 1, by omega⟩
    refine ⟨t, ht, fun j hj => ⟨fun h => ⟨h, fun h2 => absurd h2 (by omega)⟩, fun h => h.1⟩, ?_⟩
    simp only [rank_Between.l1]
    rw [if_neg (by omega), marked t (by omega) k (by omega)]
    rfl
  | succ d ih =>
    intro k i t hd hi ht hk
    obtain ⟨k, rfl⟩ : ∃ q, k = q + 1 := ⟨k - 1, by omega⟩
    simp only [rank_Between.l1]
    have key : ∀ c : Bool, (c = true ↔ T t i ∧ T u i) → ∃ r : List Bool, r.length = n ∧ (∀ j, j < n → (T r j ↔ T t j ∧ (i ≤ j → T u j))) ∧ rank_Between.l1 k (t.set i c) u (n : Int) ((i + 1 : Nat) : Int) = some (idx r, 0) := by
      intro c hc
      obtain ⟨r, h1, h2, h3⟩ := ih k (i + 1) (t.set i c) (by omega) (by omega) (by simpa using ht) (by omega)
      refine ⟨r, h1, ?_, h3⟩
      intro j hj
      rw [h2 j hj]
      have e : T (t.set i c) j ↔ (if j = i then c = true else T t j) := by
        unfold T
        rw [List.getD_eq_getElem?_getD, List.getD_eq_getElem?_getD, List.getElem?_set]
        by_cases hxi : i = j
        · subst hxi
          simp [show i < t.length by omega]
        · rw [if_neg hxi, if_neg (Ne.symm hxi)]
      rw [e]
      by_cases hji : j = i
      · subst hji
        rw [if_pos rfl, hc]
        exact ⟨fun h => ⟨h.1.1, fun _ => h.1.2⟩, fun h => ⟨⟨h.1, h.2 (Nat.le_refl _)⟩, fun hh => absurd hh (by omega)⟩⟩
      · rw [if_neg hji]
        exact ⟨fun h => ⟨h.1, fun hh => h.2 (by omega)⟩, fun h => ⟨h.1, fun hh => h.2 (by omega)⟩⟩
    rw [if_pos (by omega), if_pos (by omega), if_pos (by omega), rdT, rdT, wrapS (by omega) (by omega), show ((i : Int) + 1) = ((i + 1 : Nat) : Int) by omega, show (i : Int).toNat = i from rfl]
    by_cases h : T t i
    · rw [if_pos (show t.getD _ false = true from h), if_pos (by omega)]
      exact key _ ⟨fun h2 => ⟨h, h2⟩, fun h2 => h2.2⟩
    · rw [if_neg (show ¬ t.getD _ false = true from h)]
      exact key _ ⟨fun h2 => absurd h2 (by simp), fun h2 => absurd h2.1 h⟩
theorem bet_l0 (a b : Nat) (ha : a < n) (hb : b < n) (d : Nat) : ∀ (k j : Nat), P.length - j = d → j ≤ P.length → 20500 + d < k →
    rank_Between.l0 k (n : Int) (P.map mk36) (a : Int) (b : Int) (((P.take j).map flip).map mk36) (P.map mk36) (P.length : Int) (j : Int) = some (betL P n a b, 0) := by
  induction d with
  | zero =>
    intro k j hd hj hk
    obtain ⟨k, rfl⟩ : ∃ q, k = q + 1 := ⟨k - 1, by omega⟩
    simp only [rank_Between.l0]
    rw [if_neg (by omega), List.take_of_length_le (by omega)]
    obtain ⟨r, h1, h2, h3⟩ := met P n hP hn hl a ha k (by omega)
    obtain ⟨u, g1, g2, g3⟩ := met (rev P) n (valid_rev P n hP hn hl) hn (by unfold rev; rw [List.length_map]; exact hl) b hb k (by omega)
    rw [h1]
    simp only [Option.bind_some]
    rw [show (P.map flip) = rev P from rfl, g1]
    simp only [Option.bind_some]
    obtain ⟨s, e1, e2, e3⟩ := bet_l1 P n hP hn hl u g2 n k 0 r (by omega) (by omega) h2 (by omega)
    rw [h2]
    rw [show ((0 : Nat) : Int) = 0 from rfl] at e3
    rw [e3, idx_eq e1 (f := btB P a b)]
    · rfl
    · intro i hi
      rw [e2 i hi, h3, g3]
      unfold btB
      rw [Bool.and_eq_true, metB_iff, metB_iff]
      exact ⟨fun h => ⟨h.1, h.2 (by omega)⟩, fun h => ⟨h.1, fun _ => h.2⟩⟩
  | succ d ih =>
    intro k j hd hj hk
    obtain ⟨k, rfl⟩ : ∃ q, k = q + 1 := ⟨k - 1, by omega⟩
    have hlt : j < P.length := by omega
    have e0 : (mk36 P[j]).f0 = ((P[j]).1 : Int) := rfl
    have e1 : (mk36 P[j]).f1 = ((P[j]).2 : Int) := rfl
    simp only [rank_Between.l0]
    rw [if_pos (by omega), if_pos (by omega), if_pos (by rw [List.length_map]; omega), rd36 hlt, e0, e1, if_pos (by simp; omega), wrapS (by omega) (by omega), show ((j : Int) + 1) = ((j + 1 : Nat) : Int) by omega]
    have := ih k (j + 1) (by omega) (by omega) (by omega)
    rw [List.take_add_one, List.getElem?_eq_getElem hlt, Option.toList_some, List.map_append, List.map_append] at this
    exact this
theorem between (a b : Nat) (ha : a < n) (hb : b < n) (k : Nat) (hk : 30000 ≤ k) : rank_Between.j0 k (n : Int) (P.map mk36) (a : Int) (b : Int) false = some (betL P n a b, 0) := by
  obtain ⟨k, rfl⟩ : ∃ q, k = q + 1 := ⟨k - 1, by omega⟩
  simp only [rank_Between.j0]
  rw [if_neg (by decide), List.length_map]
  exact bet_l0 P n hP hn hl a b ha hb P.length k 0 (by omega) (by omega) (by omega)
theorem rbet_l0 (a b : Nat) (ha : a < n) (hb : b < n) (d : Nat) : ∀ (k i : Nat), n - i = d → i ≤ n → 30000 + d ≤ k → ∀ acc : List Int, acc.length ≤ i →
    treenailref09_Between.l0 k (n : Int) (P.map mk47) (a : Int) (b : Int) acc (i : Int) = some (acc ++ (((List.range n).drop i).filter (btB P a b)).map (fun i : Nat => (i : Int)), 0) := by
  induction d with
  | zero =>
    intro k i hd hi hk acc hac
    obtain ⟨k, rfl⟩ : ∃ q, k = q + 1 := ⟨k - 1, by omega⟩
    simp only [treenailref09_Between.l0]
    rw [if_neg (by omega), List.drop_eq_nil_of_le (by simp; omega)]
    simp
  | succ d ih =>
    intro k i hd hi hk acc hac
    obtain ⟨k, rfl⟩ : ∃ q, k = q + 1 := ⟨k - 1, by omega⟩
    obtain ⟨r, h1, h2, h3⟩ := leads P n hP hn hl i (by omega) a ha k (by omega)
    obtain ⟨s, g1, g2, g3⟩ := leads P n hP hn hl b hb i (by omega) k (by omega)
    have hr : r.getD i false = true ↔ run P a i := h3.iff i
    have hs : s.getD b false = true ↔ run P i b := g3.iff b
    have hbt := btB_iff P a b i
    rw [range_split (show i < n by omega), List.filter_cons]
    have yes : btB P a b i = true → treenailref09_Between.l0 k (n : Int) (P.map mk47) (a : Int) (b : Int) (acc ++ [(i : Int)]) ((i + 1 : Nat) : Int) = some (acc ++ (if btB P a b i = true then i :: ((List.range n).drop (i + 1)).filter (btB P a b) else ((List.range n).drop (i + 1)).filter (btB P a b)).map (fun i : Nat => (i : Int)), 0) := by
      intro h
      rw [if_pos h, ih k (i + 1) (by omega) (by omega) (by omega) _ (by simp; omega)]
      simp
    have no : ¬ btB P a b i = true → treenailref09_Between.l0 k (n : Int) (P.map mk47) (a : Int) (b : Int) acc ((i + 1 : Nat) : Int) = some (acc ++ (if btB P a b i = true then i :: ((List.range n).drop (i + 1)).filter (btB P a b) else ((List.range n).drop (i + 1)).filter (btB P a b)).map (fun i : Nat => (i : Int)), 0) := by
      intro h
      rw [if_neg h, ih k (i + 1) (by omega) (by omega) (by omega) _ (by omega)]
    simp only [treenailref09_Between.l0]
    rw [if_pos (by omega), h1, g1]
    simp only [Option.bind_some]
    rw [wrapS (by omega) (by omega), show ((i : Int) + 1) = ((i + 1 : Nat) : Int) by omega]
    have hlen : acc.length < 17592186044416 := by omega
    by_cases ea : i = a
    · rw [if_pos (by omega)]
      by_cases eb : i = b
      · rw [if_pos (by omega), if_pos hlen]
        exact yes (hbt.2 ⟨.inl ea, .inl eb⟩)
      · rw [if_neg (by omega)]
        by_cases c : run P i b
        · rw [if_pos (hs.2 c), if_pos hlen]
          exact yes (hbt.2 ⟨.inl ea, .inr c⟩)
        · rw [if_neg (fun h => c (hs.1 h))]
          exact no (fun h => (hbt.1 h).2.elim eb c)
    · rw [if_neg (by omega)]
      by_cases c1 : run P a i
      · rw [if_pos (hr.2 c1)]
        by_cases eb : i = b
        · rw [if_pos (by omega), if_pos hlen]
          exact yes (hbt.2 ⟨.inr c1, .inl eb⟩)
        · rw [if_neg (by omega)]
          by_cases c : run P i b
          · rw [if_pos (hs.2 c), if_pos hlen]
            exact yes (hbt.2 ⟨.inr c1, .inr c⟩)
          · rw [if_neg (fun h => c (hs.1 h))]
            exact no (fun h => (hbt.1 h).2.elim eb c)
      · rw [if_neg (fun h => c1 (hr.1 h))]
        exact no (fun h => (hbt.1 h).1.elim ea c1)
theorem rbetween (a b : Nat) (ha : a < n) (hb : b < n) (k : Nat) (hk : 31000 ≤ k) : treenailref09_Between.j0 k (n : Int) (P.map mk47) (a : Int) (b : Int) false = some (betL P n a b, 0) := by
  obtain ⟨k, rfl⟩ : ∃ q, k = q + 1 := ⟨k - 1, by omega⟩
  simp only [treenailref09_Between.j0]
  rw [if_neg (by decide)]
  have := rbet_l0 P n hP hn hl a b ha hb n k 0 (by omega) (by omega) (by omega) [] (by simp)
  simpa [betL] using this
end
theorem jbetween (n : Int) (E : List S36) (a b : Int) (k : Nat) (hk : 60000 ≤ k) : ∃ l e, rank_Between.f k n E a b = some (l, e) ∧ treenailref09_Between.f k n (E.map conv) a b = some (l, e) ∧ l.length ≤ 64 := by
  by_cases h : chk n E = 0
  · obtain ⟨N, P, rfl, hN, hl, rfl, e2, hP, hlen⟩ := chk_pairs h
    have no1 : rank_Between.j0 k (N : Int) (P.map mk36) a b true = some ([], 6) := by
      obtain ⟨k, rfl⟩ : ∃ q, k = q + 1 := ⟨k - 1, by omega⟩
      simp [rank_Between.j0]
    have no2 : treenailref09_Between.j0 k (N : Int) (P.map mk47) a b true = some ([], 6) := by
      obtain ⟨k, rfl⟩ : ∃ q, k = q + 1 := ⟨k - 1, by omega⟩
      simp [treenailref09_Between.j0]
    unfold rank_Between.f treenailref09_Between.f
    rw [check _ _ k (by omega), rcheck _ _ k (by omega), h, e2]
    simp only [Option.bind_some, if_true]
    by_cases h1 : a < 0
    · exact ⟨[], 6, by rw [if_pos h1, no1], by rw [if_pos h1, no2], by simp⟩
    rw [if_neg h1, if_neg h1]
    by_cases h2 : a ≥ (N : Int)
    · exact ⟨[], 6, by rw [if_pos h2, no1], by rw [if_pos h2, no2], by simp⟩
    rw [if_neg h2, if_neg h2]
    by_cases h3 : b < 0
    · exact ⟨[], 6, by rw [if_pos h3, no1], by rw [if_pos h3, no2], by simp⟩
    rw [if_neg h3, if_neg h3]
    by_cases h4 : b ≥ (N : Int)
    · rw [decide_eq_true h4]
      exact ⟨[], 6, no1, no2, by simp⟩
    rw [decide_eq_false h4]
    obtain ⟨a, rfl⟩ := Int.eq_ofNat_of_zero_le (show 0 ≤ a by omega)
    obtain ⟨b, rfl⟩ := Int.eq_ofNat_of_zero_le (show 0 ≤ b by omega)
    refine ⟨betL P N a b, 0, between P N hP hN hl a b (by omega) (by omega) k (by omega), rbetween P N hP hN hl a b (by omega) (by omega) k (by omega), ?_⟩
    unfold betL
    rw [List.length_map]
    exact Nat.le_trans (List.length_filter_le _ _) (by simpa using hN)
  · unfold rank_Between.f treenailref09_Between.f
    rw [check _ _ k (by omega), rcheck _ _ k (by omega)]
    simp only [Option.bind_some]
    exact ⟨[], chk n E, by rw [if_neg h], by rw [if_neg h], by simp⟩
end Go.Proofs.Ytfblajilalcnkaa.B
