import Derived.Test.YtfblajilalcnkaaB5
import Derived.Test.YtfblajilalcnkaaQx7
import Derived.Test.YtfblajilalcnkaaQk
set_option linter.unusedVariables false
set_option linter.unusedSimpArgs false
set_option linter.unusedSectionVars false
set_option maxRecDepth 10000
namespace Go.Proofs.Ytfblajilalcnkaa.Pure
open Go.RowKit Go.Proofs.Ytfblajilalcnkaa.Q Go.Proofs.YtfblajilalcnkaaW.PrintWords Go.Proofs.YtfblajilalcnkaaW.PrintLast
open Go.Proofs.Ytfblajilalcnkaa.B

theorem rdN (a : List Int) (i : Nat) : rd a (i : Int) = a.getD i 0 := by unfold rd; rw [show (i : Int).toNat = i from rfl]
section
variable (P : List (Nat × Nat)) (N : Nat) (hP : valid N P) (hN : N ≤ 64) (hPl : P.length ≤ 256) (o : List Nat) (ho : Built P N o) (hol : o.length = N)
include hP hN hPl ho hol
theorem ahead_l1 (A : List Int) (hA : A.length = N) (hat : ∀ j, ∀ (hj : j < o.length), A.getD o[j] 0 = (j : Int)) (d : Nat) : ∀ (k j : Nat), P.length - j = d → j ≤ P.length → 300 + d < k →
    treenaillaw09_RankAhead.l1 k A (P.map mk36) (P.length : Int) (j : Int) = some true := by
  induction d with
  | zero =>
    intro k j hd hj hk
    obtain ⟨k, rfl⟩ : ∃ q, k = q + 1 := ⟨k - 1, by omega⟩
    simp only [treenaillaw09_RankAhead.l1]
    rw [if_neg (by omega), three _ (by omega)]
    rfl
  | succ d ih =>
    intro k j hd hj hk
    obtain ⟨k, rfl⟩ : ∃ q, k = q + 1 := ⟨k - 1, by omega⟩
    have hlt : j < P.length := by omega
    have hv := hP _ (List.getElem_mem hlt)
    have e0 : (mk36 P[j]).f0 = ((P[j]).1 : Int) := rfl
    have e1 : (mk36 P[j]).f1 = ((P[j]).2 : Int) := rfl
    simp only [treenaillaw09_RankAhead.l1]
    rw [if_pos (by omega), if_pos (by omega), if_pos (by rw [List.length_map]; omega), rd36 hlt, e0, e1, if_pos (by omega), if_pos (by omega), if_pos (by omega), if_pos (by omega), rdN, rdN, wrapS (by omega) (by omega), show ((j : Int) + 1) = ((j + 1 : Nat) : Int) by omega]
    have hin : (P[j]).2 ∈ o := by
      by_cases c : (P[j]).2 ∈ o
      · exact c
      · have := pig2 N ((P[j]).2 :: o) (List.nodup_cons.2 ⟨c, ho.nodup⟩) (fun x hx => by
          rcases List.mem_cons.1 hx with rfl | hx
          · exact hv.2
          · exact ho.lt x hx)
        rw [List.length_cons] at this
        omega
    obtain ⟨q2, hq2, e2⟩ := List.getElem_of_mem hin
    obtain ⟨q1, hq1, h1, e3⟩ := ho.ahead q2 hq2 P[j] (List.getElem_mem hlt) e2.symm
    rw [← e3, ← e2, hat q1 hq1, hat q2 hq2, if_neg (by omega)]
    exact ih k (j + 1) (by omega) (by omega) (by omega)
theorem ahead_l0 (d : Nat) : ∀ (k i : Nat) (A : List Int) (t : List Bool), N - i = d → i ≤ N → A.length = N → t.length = N → (∀ x, T t x ↔ x ∈ o.take i) → (∀ j, ∀ (hj : j < o.length), j < i → A.getD o[j] 0 = (j : Int)) → 600 + d < k →
    treenaillaw09_RankAhead.l0 k (N : Int) (P.map mk36) A t (o.map (fun i : Nat => (i : Int))) (N : Int) (i : Int) = some true := by
  induction d with
  | zero =>
    intro k i A t hd hi hA ht hto hat hk
    obtain ⟨k, rfl⟩ : ∃ q, k = q + 1 := ⟨k - 1, by omega⟩
    simp only [treenaillaw09_RankAhead.l0, List.length_map]
    rw [if_neg (by omega)]
    exact ahead_l1 P N hP hN hPl o ho hol A hA (fun j hj => hat j hj (by omega)) P.length k 0 (by omega) (by omega) (by omega)
  | succ d ih =>
    intro k i A t hd hi hA ht hto hat hk
    obtain ⟨k, rfl⟩ : ∃ q, k = q + 1 := ⟨k - 1, by omega⟩
    have hlt : i < o.length := by omega
    have hv := ho.lt _ (List.getElem_mem hlt)
    have er : rd (o.map (fun i : Nat => (i : Int))) (i : Int) = (o[i] : Int) := by
      rw [rdN, List.getD_eq_getElem?_getD, List.getElem?_map, List.getElem?_eq_getElem hlt]
      rfl
    have hnt : ¬ T t o[i] := by
      rw [hto]
      intro hm
      obtain ⟨q, hq, e⟩ := List.getElem_of_mem hm
      rw [List.getElem_take] at e
      rw [List.length_take] at hq
      have := (List.getElem_inj ho.nodup).1 e
      omega
    simp only [treenaillaw09_RankAhead.l0]
    rw [if_pos (by omega), if_pos (by omega), if_pos (by rw [List.length_map]; omega), er, if_neg (by omega), if_neg (by omega), if_pos (by omega), if_pos (by omega), rdT, if_neg (show ¬ t.getD _ false = true from hnt), if_pos (by omega), show ((o[i] : Nat) : Int).toNat = o[i] from rfl, wrapS (by omega) (by omega), show ((i : Int) + 1) = ((i + 1 : Nat) : Int) by omega]
    refine ih k (i + 1) _ _ (by omega) (by omega) (by simpa using hA) (by simpa using ht) ?_ ?_ (by omega)
    · intro x
      rw [T_set (by omega), hto, List.take_add_one, List.getElem?_eq_getElem hlt]
      simp only [Option.toList_some, List.mem_append, List.mem_singleton]
      exact Or.comm
    · intro j hj hji
      rw [List.getD_eq_getElem?_getD, List.getElem?_set]
      by_cases c : o[i] = o[j]
      · have := (List.getElem_inj ho.nodup).1 c
        subst this
        rw [if_pos rfl, if_pos (by omega)]
        rfl
      · rw [if_neg c, ← List.getD_eq_getElem?_getD]
        refine hat j hj ?_
        have : i ≠ j := fun e => c (by subst e; rfl)
        omega
end
theorem RankAhead : ∀ (a0 : Int) (x1 : List (S36)), (Lit.int .i64 a0).wf = true → (x1.length * 16 ≤ 140737488351232 ∧ x1.length ≤ 9223372036854775807 ∧ ∀ a_ ∈ x1, ok_T36 a_) → ∃ k, treenaillaw09_RankAhead.f k a0 x1 = some true := by
  intro n E _ hE
  have j0 : ∀ b : Bool, treenaillaw09_RankAhead.j0 1300003 n E b = some true := by
    intro b
    simp only [treenaillaw09_RankAhead.j0]
    cases b with
    | true =>
      simp only [if_true]
      rw [three _ (by omega)]
      rfl
    | false =>
      simp only [Bool.false_eq_true, if_false]
      rcases jorder n E 1300002 (by omega) with ⟨h4, h1, h2, h3⟩ | ⟨N, P, rfl, hN, hPl, rfl, hP, h3, ⟨h4, h1, h2⟩ | ⟨h4, o, ho, hol, h1, h2⟩⟩
      · rw [h1, h3]
        simp only [Option.bind_some, if_true]
        rw [if_neg h4, three _ (by omega)]
        rfl
      · rw [h1, h3]
        simp only [Option.bind_some, if_true]
        have hp : ((roundL P N).length : Int) > 0 := by
          have := List.length_pos_iff.2 h4
          omega
        rw [if_pos hp, if_pos (by simp), three _ (by omega)]
        rfl
      · rw [h1, h3, h4]
        simp only [Option.bind_some, if_true]
        rw [if_neg (by simp)]
        simp only [treenaillaw09_RankAhead.j1, List.length_map]
        rw [if_neg (by simp [hol]), if_pos (by omega), if_pos (by omega), if_pos (by omega), show (N : Int).toNat = N from rfl, hol]
        exact ahead_l0 P N hP hN hPl o ho hol N 1300001 0 _ _ (by omega) (by omega) (by simp) (by simp) (fun x => by simp [T_rep]) (fun j hj h => absurd h (by omega)) (by omega)
  refine ⟨1300003, ?_⟩
  unfold treenaillaw09_RankAhead.f
  split
  · split
    · exact j0 true
    · exact j0 _
  · exact j0 _
end Go.Proofs.Ytfblajilalcnkaa.Pure
