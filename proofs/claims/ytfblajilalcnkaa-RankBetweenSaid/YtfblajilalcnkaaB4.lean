/- Which graphs are right; the whole answers of Round and Meets; comparisons; the small case. -/
import Derived.Test.YtfblajilalcnkaaB3
set_option linter.unusedVariables false
set_option linter.unusedSimpArgs false
namespace Go.Proofs.Ytfblajilalcnkaa.B
open Go.RowKit Go.Proofs.Ytfblajilalcnkaa.Q Go.Proofs.YtfblajilalcnkaaW.PrintWords Go.Proofs.YtfblajilalcnkaaW.PrintLast Go.Proofs.YtfblajilalcnkaaW.PrintMore

def okE (n : Int) (e : S36) : Prop := 0 ≤ e.f0 ∧ e.f0 < n ∧ 0 ≤ e.f1 ∧ e.f1 < n
instance (n : Int) (e : S36) : Decidable (okE n e) := by unfold okE; infer_instance
def conv (e : S36) : S47 := ⟨e.f0, e.f1⟩
def chk (n : Int) (E : List S36) : Int := if n < 0 ∨ 64 < n then 1 else if 256 < E.length then 2 else if ∀ e ∈ E, okE n e then 0 else 4
theorem rdE {E : List S36} {i : Nat} (h : i < E.length) : rd_T36 E (i : Int) = E[i] := by
  unfold rd_T36
  rw [show (i : Int).toNat = i from rfl, List.getD_eq_getElem?_getD, List.getElem?_eq_getElem h]
  rfl
theorem rdC {E : List S36} {i : Nat} (h : i < E.length) : rd_T47 (E.map conv) (i : Int) = conv E[i] := by
  unfold rd_T47
  rw [show (i : Int).toNat = i from rfl, List.getD_eq_getElem?_getD, List.getElem?_eq_getElem (by simpa using h)]
  simp
theorem in_f (n x : Int) : rank_in.f n x = some (decide (0 ≤ x ∧ x < n)) := by
  unfold rank_in.f
  by_cases h : x ≥ 0
  · rw [if_pos h]
    congr 1
    rw [decide_eq_decide]
    omega
  · rw [if_neg h, decide_eq_false (by omega)]
theorem chk_l0 (n : Int) (E : List S36) (hl : E.length ≤ 256) (d : Nat) : ∀ (k i : Nat), E.length - i = d → i ≤ E.length → d < k →
    rank_Check.l0 k n E (E.length : Int) (i : Int) = some (if ∀ e ∈ E.drop i, okE n e then 0 else 4) := by
  induction d with
  | zero =>
    intro k i hd hi hk
    obtain ⟨k, rfl⟩ : ∃ q, k = q + 1 := ⟨k - 1, by omega⟩
    simp only [rank_Check.l0]
    rw [if_neg (by omega), List.drop_eq_nil_of_le (by omega), if_pos (by simp)]
  | succ d ih =>
    intro k i hd hi hk
    obtain ⟨k, rfl⟩ : ∃ q, k = q + 1 := ⟨k - 1, by omega⟩
    have hlt : i < E.length := by omega
    simp only [rank_Check.l0]
    rw [if_pos (by omega), if_pos (by omega), if_pos (by omega), rdE hlt, in_f, in_f]
    simp only [Option.bind_some]
    have ed : E.drop i = E[i] :: E.drop (i + 1) := List.drop_eq_getElem_cons hlt
    have hall : (∀ e ∈ E.drop i, okE n e) ↔ okE n E[i] ∧ ∀ e ∈ E.drop (i + 1), okE n e := by rw [ed]; simp only [List.mem_cons, forall_eq_or_imp]
    by_cases h1 : 0 ≤ (E[i]).f0 ∧ (E[i]).f0 < n
    · rw [if_pos (by simpa using h1)]
      by_cases h2 : 0 ≤ (E[i]).f1 ∧ (E[i]).f1 < n
      · rw [if_pos (by simpa using h2), wrapS (by omega) (by omega), show ((i : Int) + 1) = ((i + 1 : Nat) : Int) by omega, ih k (i + 1) (by omega) (by omega) (by omega)]
        have hok : okE n E[i] := ⟨h1.1, h1.2, h2.1, h2.2⟩
        have : (∀ e ∈ E.drop i, okE n e) ↔ ∀ e ∈ E.drop (i + 1), okE n e := by rw [hall]; exact ⟨fun h => h.2, fun h => ⟨hok, h⟩⟩
        simp only [this]
      · rw [if_neg (by simpa using h2), if_neg (fun h => h2 ⟨((hall.1 h).1).2.2.1, ((hall.1 h).1).2.2.2⟩)]
    · rw [if_neg (by simpa using h1), if_neg (fun h => h1 ⟨((hall.1 h).1).1, ((hall.1 h).1).2.1⟩)]
theorem check (n : Int) (E : List S36) (k : Nat) (hk : 300 ≤ k) : rank_Check.f k n E = some (chk n E) := by
  have j0 : ∀ b, rank_Check.j0 k n E b = some (if b = true then 1 else if 256 < E.length then 2 else if ∀ e ∈ E, okE n e then 0 else 4) := by
    intro b
    obtain ⟨k, rfl⟩ : ∃ q, k = q + 1 := ⟨k - 1, by omega⟩
    simp only [rank_Check.j0]
    cases b with
    | true => simp
    | false =>
      simp only [Bool.false_eq_true, if_false]
      by_cases h : 256 < E.length
      · rw [if_pos (by omega), if_pos h]
      · rw [if_neg (by omega), if_neg h]
        have := chk_l0 n E (by omega) E.length k 0 (by omega) (by omega) (by omega)
        simpa using this
  unfold rank_Check.f chk
  rw [j0, j0]
  by_cases h : n < 0
  · rw [if_pos h, if_pos rfl, if_pos (.inl h)]
  · rw [if_neg h]
    by_cases h2 : 64 < n
    · rw [if_pos (by simpa using h2), if_pos (.inr h2)]
    · rw [if_neg (by simpa using h2), if_neg (show ¬ (n < 0 ∨ 64 < n) by omega)]
theorem rchk_l0 (n : Int) (E : List S36) (hl : E.length ≤ 256) (d : Nat) : ∀ (k i : Nat), E.length - i = d → i ≤ E.length → d < k →
    treenailref09_Check.l0 k n (E.map conv) (E.length : Int) (i : Int) = some (if ∀ e ∈ E.drop i, okE n e then 0 else 4) := by
  induction d with
  | zero =>
    intro k i hd hi hk
    obtain ⟨k, rfl⟩ : ∃ q, k = q + 1 := ⟨k - 1, by omega⟩
    simp only [treenailref09_Check.l0]
    rw [if_neg (by omega), List.drop_eq_nil_of_le (by omega), if_pos (by simp)]
  | succ d ih =>
    intro k i hd hi hk
    obtain ⟨k, rfl⟩ : ∃ q, k = q + 1 := ⟨k - 1, by omega⟩
    have hlt : i < E.length := by omega
    simp only [treenailref09_Check.l0]
    have e0 : (conv E[i]).f0 = (E[i]).f0 := rfl
    have e1 : (conv E[i]).f1 = (E[i]).f1 := rfl
    rw [if_pos (by omega), if_pos (by omega), if_pos (by rw [List.length_map]; omega), rdC hlt, e0, e1]
    have ed : E.drop i = E[i] :: E.drop (i + 1) := List.drop_eq_getElem_cons hlt
    have hall : (∀ e ∈ E.drop i, okE n e) ↔ okE n E[i] ∧ ∀ e ∈ E.drop (i + 1), okE n e := by rw [ed]; simp only [List.mem_cons, forall_eq_or_imp]
    by_cases h : okE n E[i]
    · have h' := h
      unfold okE at h'
      have : (∀ e ∈ E.drop i, okE n e) ↔ ∀ e ∈ E.drop (i + 1), okE n e := by rw [hall]; exact ⟨fun h => h.2, fun hh => ⟨h, hh⟩⟩
      rw [if_neg (by omega), if_neg (by omega), if_neg (by omega), if_neg (by omega), wrapS (by omega) (by omega), show ((i : Int) + 1) = ((i + 1 : Nat) : Int) by omega, ih k (i + 1) (by omega) (by omega) (by omega)]
      simp only [this]
    · rw [if_neg (show ¬ ∀ e ∈ E.drop i, okE n e from fun hh => h (hall.1 hh).1)]
      unfold okE at h
      repeat' split
      all_goals first | rfl | omega
theorem rcheck (n : Int) (E : List S36) (k : Nat) (hk : 300 ≤ k) : treenailref09_Check.f k n (E.map conv) = some (chk n E) := by
  have j0 : ∀ b, treenailref09_Check.j0 k n (E.map conv) b = some (if b = true then 1 else if 256 < E.length then 2 else if ∀ e ∈ E, okE n e then 0 else 4) := by
    intro b
    obtain ⟨k, rfl⟩ : ∃ q, k = q + 1 := ⟨k - 1, by omega⟩
    simp only [treenailref09_Check.j0, List.length_map]
    cases b with
    | true => simp
    | false =>
      simp only [Bool.false_eq_true, if_false]
      by_cases h : 256 < E.length
      · rw [if_pos (by omega), if_pos h]
      · rw [if_neg (by omega), if_neg h]
        have := rchk_l0 n E (by omega) E.length k 0 (by omega) (by omega) (by omega)
        simpa using this
  unfold treenailref09_Check.f chk
  rw [j0, j0]
  by_cases h : n < 0
  · rw [if_pos h, if_pos rfl, if_pos (.inl h)]
  · rw [if_neg h]
    by_cases h2 : 64 < n
    · rw [if_pos (by simpa using h2), if_pos (.inr h2)]
    · rw [if_neg (by simpa using h2), if_neg (show ¬ (n < 0 ∨ 64 < n) by omega)]
/-- A right graph is one of pairs. -/
theorem chk_pairs {n : Int} {E : List S36} (h : chk n E = 0) : ∃ (N : Nat) (P : List (Nat × Nat)), n = (N : Int) ∧ N ≤ 64 ∧ P.length ≤ 256 ∧ E = P.map mk36 ∧ E.map conv = P.map mk47 ∧ valid N P ∧ P.length = E.length := by
  unfold chk at h
  by_cases h1 : n < 0 ∨ 64 < n
  · rw [if_pos h1] at h; omega
  rw [if_neg h1] at h
  by_cases h2 : 256 < E.length
  · rw [if_pos h2] at h; omega
  rw [if_neg h2] at h
  by_cases h3 : ∀ e ∈ E, okE n e
  · obtain ⟨N, rfl⟩ := Int.eq_ofNat_of_zero_le (show 0 ≤ n by omega)
    have back : ∀ e ∈ E, mk36 (e.f0.toNat, e.f1.toNat) = e := by
      intro e he
      have := h3 e he
      unfold okE at this
      cases e with
      | mk a b =>
        simp only [mk36]
        simp only at this
        rw [Int.toNat_of_nonneg this.1, Int.toNat_of_nonneg this.2.2.1]
    have eE : E = (E.map fun e => (e.f0.toNat, e.f1.toNat)).map mk36 := by
      rw [List.map_map]
      conv => lhs; rw [← List.map_id E]
      apply List.map_congr_left
      intro e he
      exact (back e he).symm
    refine ⟨N, E.map fun e => (e.f0.toNat, e.f1.toNat), rfl, by omega, by simp; omega, eE, ?_, ?_, by simp⟩
    · conv => lhs; rw [eE]
      rw [List.map_map, List.map_map, List.map_map]
      rfl
    · intro p hp
      obtain ⟨e, he, rfl⟩ := List.mem_map.1 hp
      have := h3 e he
      unfold okE at this
      simp only
      omega
  · rw [if_neg h3] at h; omega
theorem refs_l0 (E : List S36) (hs : E.length ≤ 8796093022207) (d : Nat) : ∀ (k i : Nat) (acc : List S47), E.length - i = d → i ≤ E.length → acc.length = i → d < k →
    treenaillaw09_refs.l0 k acc E (E.length : Int) (i : Int) = some (acc ++ (E.drop i).map conv) := by
  induction d with
  | zero =>
    intro k i acc hd hi ha hk
    obtain ⟨k, rfl⟩ : ∃ m, k = m + 1 := ⟨k - 1, by omega⟩
    simp only [treenaillaw09_refs.l0]
    rw [if_neg (by omega), List.drop_eq_nil_of_le (by omega)]
    simp
  | succ d ih =>
    intro k i acc hd hi ha hk
    obtain ⟨k, rfl⟩ : ∃ m, k = m + 1 := ⟨k - 1, by omega⟩
    have hlt : i < E.length := by omega
    simp only [treenaillaw09_refs.l0]
    rw [if_pos (by omega), if_pos (by omega), if_pos (by omega), if_pos (by omega), wrapS (by omega) (by omega), rdE hlt]
    have := ih k (i + 1) (acc ++ [conv E[i]]) (by omega) (by omega) (by simp; omega) (by omega)
    rw [show ((i : Int) + 1) = ((i + 1 : Nat) : Int) by omega, show (⟨(E[i]).f0, (E[i]).f1⟩ : S47) = conv E[i] from rfl, this, List.drop_eq_getElem_cons hlt]
    simp only [List.map_cons, List.append_assoc, List.singleton_append]
theorem refs (E : List S36) (hs : E.length ≤ 8796093022207) (k : Nat) (hk : E.length < k) : treenaillaw09_refs.f k E = some (E.map conv) := by
  unfold treenaillaw09_refs.f
  have := refs_l0 E hs E.length k 0 [] (by omega) (by omega) rfl hk
  simpa using this
theorem ints_l0 (a : List Int) (hs : a.length ≤ 1000) (d : Nat) : ∀ (k i : Nat), a.length - i = d → i ≤ a.length → d < k → treenailplain_Ints.l0 k a a (a.length : Int) (i : Int) = some true := by
  induction d with
  | zero =>
    intro k i hd hi hk
    obtain ⟨k, rfl⟩ : ∃ m, k = m + 1 := ⟨k - 1, by omega⟩
    simp only [treenailplain_Ints.l0]
    rw [if_neg (by omega)]
    simp
  | succ d ih =>
    intro k i hd hi hk
    obtain ⟨k, rfl⟩ : ∃ m, k = m + 1 := ⟨k - 1, by omega⟩
    simp only [treenailplain_Ints.l0]
    rw [if_pos (by omega), if_neg (by omega), if_pos (by omega), if_pos (by omega)]
    simp only [if_true]
    rw [wrapS (by omega) (by omega), show ((i : Int) + 1) = ((i + 1 : Nat) : Int) by omega]
    first
    | exact ih k (i + 1) (by omega) (by omega) (by omega)
    | (rw [if_pos (by omega)]; exact ih k (i + 1) (by omega) (by omega) (by omega))
theorem ints (a : List Int) (hs : a.length ≤ 1000) (k : Nat) (hk : 1001 ≤ k) : treenailplain_Ints.f k a a = some true := by
  unfold treenailplain_Ints.f
  exact ints_l0 a hs a.length k 0 (by omega) (by omega) (by omega)
theorem three (k : Nat) (hk : 200 ≤ k) : treenaillaw09_three.f k = some true := by
  have h : treenaillaw09_three.f 200 = some true := by decide +kernel
  exact at_rounds (g := fun k => treenaillaw09_three.f k) (fun k => treenaillaw09_three.mono k) hk h
noncomputable def roundR (n : Int) (E : List S36) (P : List (Nat × Nat)) (N : Nat) : List Int × Int := if chk n E = 0 then (roundL P N, 0) else ([], chk n E)
theorem jround (n : Int) (E : List S36) (k : Nat) (hk : 60000 ≤ k) : (chk n E = 0 ∧ ∃ (N : Nat) (P : List (Nat × Nat)), n = (N : Int) ∧ N ≤ 64 ∧ P.length ≤ 256 ∧ E = P.map mk36 ∧ E.map conv = P.map mk47 ∧ valid N P ∧ P.length = E.length ∧ rank_Round.f k n E = some (roundL P N, 0) ∧ treenailref09_Round.f k n (E.map conv) = some (roundL P N, 0)) ∨
    (chk n E ≠ 0 ∧ rank_Round.f k n E = some ([], chk n E) ∧ treenailref09_Round.f k n (E.map conv) = some ([], chk n E)) := by
  by_cases h : chk n E = 0
  · left
    obtain ⟨N, P, rfl, hN, hl, rfl, e2, hP, hlen⟩ := chk_pairs h
    refine ⟨h, N, P, rfl, hN, hl, rfl, e2, hP, hlen, ?_, ?_⟩
    · unfold rank_Round.f
      rw [check _ _ k (by omega), h]
      simp only [Option.bind_some, if_true]
      rw [if_pos (by omega), show (N : Int).toNat = N from rfl, if_pos (by omega)]
      exact round_l0 P N hP hN hl N k 0 _ (by omega) (by omega) (by simp) (fun x hx => absurd hx (by omega)) (by omega)
    · unfold treenailref09_Round.f
      rw [rcheck _ _ k (by omega), h, e2]
      simp only [Option.bind_some, if_true]
      have := rround_l0 P N hP hN hl N k 0 (by omega) (by omega) (by omega) [] (by simp)
      simpa [roundL] using this
  · right
    refine ⟨h, ?_, ?_⟩
    · unfold rank_Round.f
      rw [check _ _ k (by omega)]
      simp only [Option.bind_some]
      rw [if_neg h]
    · unfold treenailref09_Round.f
      rw [rcheck _ _ k (by omega)]
      simp only [Option.bind_some]
      rw [if_neg h]
theorem jmeets (n : Int) (E : List S36) (a : Int) (k : Nat) (hk : 60000 ≤ k) : ∃ l e, rank_Meets.f k n E a = some (l, e) ∧ treenailref09_Meets.f k n (E.map conv) a = some (l, e) ∧ l.length ≤ 64 ∧ (e = 0 → ∃ (N : Nat) (P : List (Nat × Nat)) (b : Nat), n = (N : Int) ∧ a = (b : Int) ∧ b < N ∧ N ≤ 64 ∧ E = P.map mk36 ∧ valid N P ∧ l = meetL P N b) ∧
    (e ≠ 0 → l = []) ∧ (e = 0 ↔ chk n E = 0 ∧ 0 ≤ a ∧ a < n) := by
  by_cases h : chk n E = 0
  · obtain ⟨N, P, rfl, hN, hl, rfl, e2, hP, hlen⟩ := chk_pairs h
    have no1 : rank_Meets.j0 k (N : Int) (P.map mk36) a true = some ([], 6) := by
      obtain ⟨k, rfl⟩ : ∃ q, k = q + 1 := ⟨k - 1, by omega⟩
      simp [rank_Meets.j0]
    have no2 : treenailref09_Meets.j0 k (N : Int) (P.map mk47) a true = some ([], 6) := by
      obtain ⟨k, rfl⟩ : ∃ q, k = q + 1 := ⟨k - 1, by omega⟩
      simp [treenailref09_Meets.j0]
    unfold rank_Meets.f treenailref09_Meets.f
    rw [check _ _ k (by omega), rcheck _ _ k (by omega), h, e2]
    simp only [Option.bind_some, if_true]
    by_cases h1 : a < 0
    · refine ⟨[], 6, by rw [if_pos h1, no1], by rw [if_pos h1, no2], by simp, by simp, by simp, by simp; omega⟩
    rw [if_neg h1, if_neg h1]
    by_cases h2 : a ≥ (N : Int)
    · rw [decide_eq_true h2]
      exact ⟨[], 6, no1, no2, by simp, by simp, by simp, by simp; omega⟩
    rw [decide_eq_false h2]
    obtain ⟨b, rfl⟩ := Int.eq_ofNat_of_zero_le (show 0 ≤ a by omega)
    have hb : b < N := by omega
    have hml : (meetL P N b).length ≤ 64 := by
      unfold meetL
      rw [List.length_map]
      exact Nat.le_trans (List.length_filter_le _ _) (by simpa using hN)
    refine ⟨meetL P N b, 0, ?_, ?_, hml, fun _ => ⟨N, P, b, rfl, rfl, hb, hN, rfl, hP, rfl⟩, by simp, by simp; omega⟩
    · obtain ⟨k, rfl⟩ : ∃ q, k = q + 1 := ⟨k - 1, by omega⟩
      simp only [rank_Meets.j0]
      obtain ⟨r, h3, h4, h5⟩ := met P N hP hN hl b hb k (by omega)
      rw [if_neg (by decide), h3]
      simp only [Option.bind_some]
      rw [marked r (by omega) k (by omega), idx_eq h4 (f := metB P b) (fun x hx => (h5 x).trans (metB_iff P b x).symm)]
      rfl
    · obtain ⟨k, rfl⟩ : ∃ q, k = q + 1 := ⟨k - 1, by omega⟩
      simp only [treenailref09_Meets.j0]
      rw [if_neg (by decide)]
      have := rmeets_l0 P N hP hN hl b hb N k 0 (by omega) (by omega) (by omega) [] (by simp)
      simpa [meetL] using this
  · unfold rank_Meets.f treenailref09_Meets.f
    rw [check _ _ k (by omega), rcheck _ _ k (by omega)]
    simp only [Option.bind_some]
    exact ⟨[], chk n E, by rw [if_neg h], by rw [if_neg h], by simp, fun hh => absurd hh h, by simp, ⟨fun hh => absurd hh h, fun hh => hh.1⟩⟩
end Go.Proofs.Ytfblajilalcnkaa.B
