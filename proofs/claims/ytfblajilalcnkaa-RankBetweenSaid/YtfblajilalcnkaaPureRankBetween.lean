import Derived.Test.YtfblajilalcnkaaB6
import Derived.Test.YtfblajilalcnkaaQx10
import Derived.Test.YtfblajilalcnkaaQk
set_option linter.unusedVariables false
set_option linter.unusedSimpArgs false
set_option maxRecDepth 10000
namespace Go.Proofs.Ytfblajilalcnkaa.Pure
open Go.RowKit Go.Proofs.Ytfblajilalcnkaa.Q Go.Proofs.YtfblajilalcnkaaW.PrintWords Go.Proofs.YtfblajilalcnkaaW.PrintLast
open Go.Proofs.Ytfblajilalcnkaa.B

theorem RankBetween (n : Int) (E : List S36) (a b : Int) : ∃ k, treenaillaw09_RankBetween.f k n E a b = some true := by
  have j0 : ∀ c : Bool, (c = false → E.length ≤ 300) → treenaillaw09_RankBetween.j0 60002 n E c a b = some true := by
    intro c hb
    simp only [treenaillaw09_RankBetween.j0]
    cases c with
    | true =>
      simp only [if_true]
      rw [three _ (by omega)]
      rfl
    | false =>
      have hl := hb rfl
      simp only [Bool.false_eq_true, if_false]
      obtain ⟨l, e, h1, h2, h3⟩ := jbetween n E a b 60001 (by omega)
      rw [h1]
      simp only [Option.bind_some]
      rw [refs E (by omega) _ (by omega)]
      simp only [Option.bind_some]
      rw [h2]
      simp only [Option.bind_some]
      rw [ints l (by omega) _ (by omega)]
      simp only [Option.bind_some, if_true]
      rw [three _ (by omega)]
      rfl
  refine ⟨60002, ?_⟩
  unfold treenaillaw09_RankBetween.f
  split
  · split
    · exact j0 true (by simp)
    · exact j0 _ (fun h => by have := of_decide_eq_false h; omega)
  · exact j0 _ (fun h => by have := of_decide_eq_false h; omega)
end Go.Proofs.Ytfblajilalcnkaa.Pure
