import Derived.Test.YtfblajilalcnkaaB4
import Derived.Test.YtfblajilalcnkaaQx5
import Derived.Test.YtfblajilalcnkaaQk
set_option linter.unusedVariables false
set_option linter.unusedSimpArgs false
namespace Go.Proofs.Ytfblajilalcnkaa.Pure
open Go.RowKit Go.Proofs.Ytfblajilalcnkaa.Q Go.Proofs.YtfblajilalcnkaaW.PrintWords Go.Proofs.YtfblajilalcnkaaW.PrintLast
open Go.Proofs.Ytfblajilalcnkaa.B

theorem RankMeets : ∀ (a0 : Int) (x1 : List (S36)) (a2 : Int), (Lit.int .i64 a0).wf = true → (x1.length * 16 ≤ 140737488351232 ∧ x1.length ≤ 9223372036854775807 ∧ ∀ a_ ∈ x1, ok_T36 a_) → (Lit.int .i64 a2).wf = true → ∃ k, treenaillaw09_RankMeets.f k a0 x1 a2 = some true := by
  intro n E a _ hE _
  have j0 : ∀ b : Bool, (b = false → E.length ≤ 300) → treenaillaw09_RankMeets.j0 60002 n E a b = some true := by
    intro b hb
    simp only [treenaillaw09_RankMeets.j0]
    cases b with
    | true =>
      simp only [if_true]
      rw [three _ (by omega)]
      rfl
    | false =>
      have hl := hb rfl
      simp only [Bool.false_eq_true, if_false]
      rw [refs E (by omega) _ (by omega)]
      simp only [Option.bind_some]
      obtain ⟨l, e, h1, h2, h3, -⟩ := jmeets n E a 60001 (by omega)
      rw [h1, h2]
      simp only [Option.bind_some]
      have hc := check n E 60001 (by omega)
      have hc2 := rcheck n E 60001 (by omega)
      have hi : ∀ l : List Int, l.length ≤ 1000 → treenailplain_Ints.f 60001 l l = some true := fun l hl => ints l hl _ (by omega)
      rcases jround n E 60001 (by omega) with ⟨h4, N, P, rfl, hN, hP, rfl, h5, h6, h7, h8, h9⟩ | ⟨h4, h8, h9⟩
      · have hrl : (roundL P N).length ≤ 64 := by
          unfold roundL
          rw [List.length_map]
          exact Nat.le_trans (List.length_filter_le _ _) (by simpa using hN)
        rw [h8, h9]
        simp only [Option.bind_some]
        rw [hi l (by omega), hi _ (by omega)]
        simp only [Option.bind_some, if_true]
        rw [hc, hc2]
        simp only [Option.bind_some, if_true]
        rw [three _ (by omega)]
        rfl
      · rw [h8, h9]
        simp only [Option.bind_some]
        rw [hi l (by omega), hi _ (by simp)]
        simp only [Option.bind_some, if_true]
        rw [hc, hc2]
        simp only [Option.bind_some, if_true]
        rw [three _ (by omega)]
        rfl
  refine ⟨60002, ?_⟩
  unfold treenaillaw09_RankMeets.f
  split
  · split
    · exact j0 true (by simp)
    · exact j0 _ (fun h => by have := of_decide_eq_false h; omega)
  · exact j0 _ (fun h => by have := of_decide_eq_false h; omega)
end Go.Proofs.Ytfblajilalcnkaa.Pure
