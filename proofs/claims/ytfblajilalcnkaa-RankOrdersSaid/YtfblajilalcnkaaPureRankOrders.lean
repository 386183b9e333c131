import Derived.Test.YtfblajilalcnkaaB5
import Derived.Test.YtfblajilalcnkaaQx6
import Derived.Test.YtfblajilalcnkaaQk
set_option linter.unusedVariables false
set_option linter.unusedSimpArgs false
set_option maxRecDepth 10000
namespace Go.Proofs.Ytfblajilalcnkaa.Pure
open Go.RowKit Go.Proofs.Ytfblajilalcnkaa.Q Go.Proofs.YtfblajilalcnkaaW.PrintWords Go.Proofs.YtfblajilalcnkaaW.PrintLast
open Go.Proofs.Ytfblajilalcnkaa.B

theorem RankOrders : ∀ (a0 : Int) (x1 : List (S36)), (Lit.int .i64 a0).wf = true → (x1.length * 16 ≤ 140737488351232 ∧ x1.length ≤ 9223372036854775807 ∧ ∀ a_ ∈ x1, ok_T36 a_) → ∃ k, treenaillaw09_RankOrders.f k a0 x1 = some true := by
  intro n E _ hE
  have j0 : ∀ b : Bool, (b = false → E.length ≤ 300) → treenaillaw09_RankOrders.j0 1300002 n E b = some true := by
    intro b hb
    simp only [treenaillaw09_RankOrders.j0]
    cases b with
    | true =>
      simp only [if_true]
      rw [three _ (by omega)]
      rfl
    | false =>
      have hl := hb rfl
      simp only [Bool.false_eq_true, if_false]
      rw [refs E (by omega) _ (by omega)]
      simp only [Option.bind_some]
      have main : ∀ (l : List Int) (e : Int), l.length ≤ 1000 → rank_Order.f 1300001 n E = some (l, e) → treenailref09_Order.f 1300001 n (E.map conv) = some (l, e) →
          ((rank_Order.f 1300001 n E).bind fun bt241 => ((treenailref09_Order.f 1300001 n (E.map conv)).bind fun bt248 => ((treenailplain_Ints.f 1300001 bt241.1 bt248.1).bind fun t252 => (if t252 = true then (if bt241.2 = bt248.2 then ((treenaillaw09_three.f 1300001).bind fun t253 => (some t253)) else (some false)) else (some false))))) = some true := by
        intro l e hl h1 h2
        rw [h1, h2]
        simp only [Option.bind_some]
        rw [ints l hl _ (by omega)]
        simp only [Option.bind_some, if_true]
        rw [three _ (by omega)]
        rfl
      rcases jorder n E 1300001 (by omega) with ⟨h4, h1, h2, h3⟩ | ⟨N, P, rfl, hN, hPl, rfl, hP, h3, ⟨h4, h1, h2⟩ | ⟨h4, o, ho, hol, h1, h2⟩⟩
      · exact main _ _ (by simp) h1 h2
      · exact main _ _ (by simp) h1 h2
      · exact main _ _ (by rw [List.length_map]; omega) h1 h2
  refine ⟨1300002, ?_⟩
  unfold treenaillaw09_RankOrders.f
  split
  · split
    · exact j0 true (by simp)
    · exact j0 _ (fun h => by have := of_decide_eq_false h; omega)
  · exact j0 _ (fun h => by have := of_decide_eq_false h; omega)
end Go.Proofs.Ytfblajilalcnkaa.Pure
