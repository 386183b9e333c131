import Derived.Test.YtfblajilalcnkaaB4
import Derived.Test.YtfblajilalcnkaaQx8
import Derived.Test.YtfblajilalcnkaaQk
set_option linter.unusedVariables false
set_option linter.unusedSimpArgs false
set_option linter.unusedSectionVars false
set_option maxRecDepth 10000
namespace Go.Proofs.Ytfblajilalcnkaa.Pure
open Go.RowKit Go.Proofs.Ytfblajilalcnkaa.Q Go.Proofs.YtfblajilalcnkaaW.PrintWords Go.Proofs.YtfblajilalcnkaaW.PrintLast
open Go.Proofs.Ytfblajilalcnkaa.B

theorem rdI {a : List Int} {i : Nat} (h : i < a.length) : rd a (i : Int) = a[i] := by
  unfold rd
  rw [show (i : Int).toNat = i from rfl, List.getD_eq_getElem?_getD, List.getElem?_eq_getElem h]
  rfl
theorem grows_l0 (l1 l2 : List Int) (h1 : l1.length ≤ 64) (h2 : l2.length ≤ 64) (d : Nat) : ∀ (k i j : Nat), l2.length - j = d → j ≤ l2.length → i ≤ l1.length → (l1.drop i).Sublist (l2.drop j) → 300 + d < k →
    treenaillaw09_RankGrows.l0 k l1 0 (i : Int) l2 (l2.length : Int) (j : Int) = some true := by
  induction d with
  | zero =>
    intro k i j hd hj hi hs hk
    obtain ⟨k, rfl⟩ : ∃ q, k = q + 1 := ⟨k - 1, by omega⟩
    rw [List.drop_eq_nil_of_le (show l2.length ≤ j by omega)] at hs
    have := List.drop_eq_nil_iff.1 (List.sublist_nil.1 hs)
    simp only [treenaillaw09_RankGrows.l0]
    rw [if_neg (by omega), if_pos trivial, if_pos (by omega), three _ (by omega)]
    rfl
  | succ d ih =>
    intro k i j hd hj hi hs hk
    obtain ⟨k, rfl⟩ : ∃ q, k = q + 1 := ⟨k - 1, by omega⟩
    have hlt : j < l2.length := by omega
    simp only [treenaillaw09_RankGrows.l0]
    rw [if_pos (by omega), if_pos (by omega), if_pos (by omega), wrapS (x := (j : Int) + 1) (by omega) (by omega), show ((j : Int) + 1) = ((j + 1 : Nat) : Int) by omega]
    rw [List.drop_eq_getElem_cons hlt] at hs
    by_cases c : i < l1.length
    · rw [if_pos (by omega), if_pos (by omega), rdI c, rdI hlt, wrapS (by omega) (by omega), show ((i : Int) + 1) = ((i + 1 : Nat) : Int) by omega]
      rw [List.drop_eq_getElem_cons c] at hs
      by_cases e : l1[i] = l2[j]
      · rw [if_pos e]
        rw [e] at hs
        exact ih k (i + 1) (j + 1) (by omega) (by omega) (by omega) (List.cons_sublist_cons.1 hs) (by omega)
      · rw [if_neg e]
        refine ih k i (j + 1) (by omega) (by omega) (by omega) ?_ (by omega)
        rw [List.drop_eq_getElem_cons c]
        rcases List.sublist_cons_iff.1 hs with h | ⟨r, h, _⟩
        · exact h
        · exact absurd (List.cons.inj h).1 e
    · rw [if_neg (by omega)]
      refine ih k i (j + 1) (by omega) (by omega) (by omega) ?_ (by omega)
      rw [List.drop_eq_nil_of_le (show l1.length ≤ i by omega)]
      exact List.nil_sublist _
theorem mk_inj {a b : Nat × Nat} (h : mk36 a = mk36 b) : a = b := by
  cases a; cases b
  simp only [mk36, S36.mk.injEq] at h
  obtain ⟨h1, h2⟩ := h
  congr 1
  · omega
  · omega
theorem inCl_tail {P : List (Nat × Nat)} {s : Nat → Prop} {j : Nat} (h : inCl (P.drop 1) s j) : inCl P s j :=
  fun u hu hs => h u (fun p hp => hu p (List.mem_of_mem_drop hp)) hs
theorem meet_sub (P : List (Nat × Nat)) (N b : Nat) : (meetL (P.drop 1) N b).Sublist (meetL P N b) := by
  unfold meetL
  refine List.Sublist.map _ ?_
  have : (List.range N).filter (metB (P.drop 1) b) = ((List.range N).filter (metB P b)).filter (metB (P.drop 1) b) := by
    rw [List.filter_filter]
    apply List.filter_congr
    intro x hx
    by_cases c : metB (P.drop 1) b x = true
    · have := (metB_iff P b x).2 (inCl_tail ((metB_iff _ _ _).1 c))
      rw [c, this]
      rfl
    · rw [Bool.not_eq_true] at c
      rw [c]
      rfl
  rw [this]
  exact List.filter_sublist
theorem RankGrows : ∀ (a0 : Int) (x1 : List (S36)) (a2 : Int), (Lit.int .i64 a0).wf = true → (x1.length * 16 ≤ 140737488351232 ∧ x1.length ≤ 9223372036854775807 ∧ ∀ a_ ∈ x1, ok_T36 a_) → (Lit.int .i64 a2).wf = true → ∃ k, treenaillaw09_RankGrows.f k a0 x1 a2 = some true := by
  intro n E a _ hE _
  have j0 : ∀ b : Bool, (b = false → 1 ≤ E.length) → treenaillaw09_RankGrows.j0 60002 n E a b = some true := by
    intro b hb
    simp only [treenaillaw09_RankGrows.j0]
    cases b with
    | true =>
      simp only [if_true]
      rw [three _ (by omega)]
      rfl
    | false =>
      have hl := hb rfl
      simp only [Bool.false_eq_true, if_false]
      rw [if_pos (by omega)]
      obtain ⟨l1, e1, h1, -, h2, h3, h4, h5⟩ := jmeets n (E.drop 1) a 60001 (by omega)
      obtain ⟨l2, e2, g1, -, g2, g3, g4, g5⟩ := jmeets n E a 60001 (by omega)
      rw [h1, g1]
      simp only [Option.bind_some]
      by_cases c : e2 = 0
      · rw [if_pos c]
        have hc : chk n (E.drop 1) = 0 := by
          have := (g5.1 c).1
          unfold chk at this ⊢
          split at this
          · omega
          split at this
          · omega
          split at this
          · rename_i q1 q2 q3
            rw [if_neg q1, if_neg (by rw [List.length_drop]; omega), if_pos (fun e he => q3 e (List.mem_of_mem_drop he))]
          · omega
        have e10 : e1 = 0 := h5.2 ⟨hc, (g5.1 c).2⟩
        obtain ⟨N, P, b, rfl, rfl, hb, hN, rfl, hP, rfl⟩ := g3 c
        obtain ⟨N', P', b', hn', hb', -, -, hE', -, rfl⟩ := h3 e10
        have : N' = N := by omega
        subst this
        have : b' = b := by omega
        subst this
        rw [← List.map_drop] at hE'
        have hPe : P' = P.drop 1 := ((List.map_inj_right (fun x y h => mk_inj h)).1 hE').symm
        subst hPe
        rw [e10]
        exact grows_l0 _ _ (by omega) (by omega) (meetL P N' b').length 60001 0 0 (by omega) (by omega) (by omega) (by simpa using meet_sub P N' b') (by omega)
      · rw [if_neg c, if_pos (by simp [g4 c]), three _ (by omega)]
        rfl
  refine ⟨60002, ?_⟩
  unfold treenaillaw09_RankGrows.f
  split
  · split
    · exact j0 true (by simp)
    · split
      · exact j0 true (by simp)
      · exact j0 _ (fun h => by omega)
  · split
    · exact j0 true (by simp)
    · exact j0 _ (fun h => by omega)
end Go.Proofs.Ytfblajilalcnkaa.Pure
