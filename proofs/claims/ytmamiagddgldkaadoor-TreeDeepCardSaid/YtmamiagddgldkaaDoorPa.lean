/- What the walked functions come to is as the law says: plain Lean. -/
import Derived.Test.YtmamiagddgldkaaDoorMh
open Go Go.Proofs
namespace Go.Eng
set_option linter.unusedSimpArgs false
set_option linter.unusedVariables false
set_option maxRecDepth 100000
set_option maxHeartbeats 8000000
def deepE : Nat → El
  | 0 => .mk [97] [⟨[98], [99]⟩] [] []
  | k + 1 => .mk [97] [] [deepE k] []
theorem br_nil1 {x : Ctx} {O : Nat → Prop} {i : Nat} {a c d : C} {ty : Option TypeId} (h : BR x O i (.box [a, .nils, c, d] ty)) : BR x O i (.box [a, .d (.fz []), c, d] ty) := by
  obtain ⟨b, vs, t, h1, h2, h3, h4⟩ := h
  refine ⟨b, vs, t, h1, h2, h3, h4.1, fun j e hj => ?_⟩
  match j, hj with
  | 0, hj => exact h4.2 0 _ hj
  | 1, hj =>
    cases hj
    obtain ⟨u, hu, hv⟩ := h4.2 1 _ rfl
    refine ⟨u, hu, ?_⟩
    cases hv; exact .d _ _ (.nil _ _)
  | 2, hj => exact h4.2 2 _ hj
  | 3, hj => exact h4.2 3 _ hj
  | j + 4, hj => simp at hj
theorem br_nil2 {x : Ctx} {O : Nat → Prop} {i : Nat} {a c d : C} {ty : Option TypeId} (h : BR x O i (.box [a, c, .d (.sc (.slice none 0 0)), d] ty)) : BR x O i (.box [a, c, .d (.fz []), d] ty) := by
  obtain ⟨b, vs, t, h1, h2, h3, h4⟩ := h
  refine ⟨b, vs, t, h1, h2, h3, h4.1, fun j e hj => ?_⟩
  match j, hj with
  | 0, hj => exact h4.2 0 _ hj
  | 1, hj => exact h4.2 1 _ hj
  | 2, hj =>
    cases hj
    obtain ⟨u, hu, hv⟩ := h4.2 2 _ rfl
    refine ⟨u, hu, ?_⟩
    cases hv with | d _ _ hv => rw [hv.sc_eq]; exact .d _ _ (.nil _ _)
  | 3, hj => exact h4.2 3 _ hj
  | j + 4, hj => simp at hj
theorem nxO (a b c d : Nat) (l : List C) : nxC (.own a b c d :: l) 0 = .own a b c d :: l := rfl
theorem deep_ok (n : Nat) (hn : n < 1000) : AFn env 15 [aI ((n : Int) + 1)] [] (deepE n).a [] := by
  refine afn_body Tryd.func15 rfl (by decide) ?_
  simp only [Tryd.ntmps15, Tryd.results15, List.length_cons, List.length_nil, List.cons_append, List.nil_append, Nat.reduceAdd, Nat.reduceSub, List.replicate]
  repeat' first
  | with_reducible refine awp_seq ?_
  | ((with_reducible refine awp_region ?_); refine zS ?_)
  | ((with_reducible refine Gd_nd ?_ ?_) <;> intro hb hb2 <;> first | contradiction | (exfalso; omega) | (refine zH hb2 ?_; try clear hb2))
  | ((with_reducible refine Gd_nb ?_ ?_) <;> intro hb <;> first | contradiction | refine zH hb ?_)
  | ((with_reducible refine Gd_d ?_ ?_) <;> intro hb hb2 <;> first | contradiction | (exfalso; omega) | (refine zH hb2 ?_; try clear hb2))
  | ((with_reducible refine Gd_b ?_ ?_) <;> intro hb <;> first | contradiction | refine zH hb ?_)
  | ((with_reducible refine Res_id ?_); refine zS ?_)
  | ((with_reducible refine awp_drawnC ?_ ?_); rfl; refine zS ?_)
  | ((with_reducible refine awp_drawnA ?_ ?_); rfl; refine zS ?_)
  | ((with_reducible refine CGd_nd ?_ ?_) <;> intro hb hb2 <;> first | contradiction | (exfalso; omega) | (refine zH hb2 ?_; try clear hb2))
  | ((with_reducible refine CGd_nb ?_ ?_) <;> intro hb <;> first | contradiction | refine zH hb ?_)
  | ((with_reducible refine CGd_d ?_ ?_) <;> intro hb hb2 <;> first | contradiction | (exfalso; omega) | (refine zH hb2 ?_; try clear hb2))
  | ((with_reducible refine CGd_b ?_ ?_) <;> intro hb <;> first | contradiction | refine zH hb ?_)
  | ((with_reducible refine CRes_id ?_); refine zS ?_)
  | ((with_reducible refine DStep_id ?_); refine zdP ?_; refine ⟨_, by first | fail | fail, fun _ => rfl, fun _ => rfl, rfl, (fun h => by first | cases h | fail), ?_⟩; try refine zS ?_)
  | ((with_reducible refine DStep_id ?_); refine zdW ?_; refine ⟨_, by first | fail | fail, fun _ => rfl, fun _ => rfl, rfl, ?_⟩; try refine zS ?_)
  | ((with_reducible refine AWP_c ?_); refine zcdT ?_)
  | ((with_reducible refine AWP_c ?_); refine zcdF ?_)
  | ((with_reducible refine AWP_c ?_); refine zcdN ?_ ?_ <;> intro hb hb2 <;> first | contradiction | (exfalso; omega) | ((try refine zH hb2 ?_); try clear hb2))
  | ((with_reducible refine AWP_c ?_); refine zcdD ?_ ?_ <;> intro hb hb2 <;> first | contradiction | (exfalso; omega) | ((try refine zH hb2 ?_); try clear hb2))
  | ((with_reducible refine AWP_c ?_); refine zcdM ?_ ?_ <;> intro hb <;> first | contradiction | (try refine zH hb ?_))
  | ((with_reducible refine AWP_c ?_); refine zcdB ?_ ?_ <;> intro hb <;> first | contradiction | (try refine zH hb ?_))
  | ((with_reducible refine awp_ret ?_); refine fin_r ?_)
  | ((with_reducible refine awp_ret ?_); refine fin_q ?_ ?_)
  | with_reducible refine fin_qn ?_ ?_
  | ((with_reducible refine awp_skip ?_); refine zS ?_)
  | ((with_reducible refine awp_exit ?_); refine zS ?_)
  | ((with_reducible refine CallK_id ?_); refine zcF ?_; refine ⟨_, by first | fail | fail, fun _ => rfl, fun _ => rfl, rfl, ?_⟩; try refine zS ?_)
  | ((with_reducible refine awp_label ?_); try refine zS ?_)
  | ((with_reducible refine awp_goto ?_); try refine zS ?_)
  | ((with_reducible refine awp_scope0 ?_); try refine zS ?_)
  | exact True.intro
  | fail
  refine awp_block ?_
  refine awp_loopT (fun i : Nat => i ≤ n) (fun i => n - i) (fun i => [(4, aI ((i : Int) + 1)), (6, .any), (7, .any)]) (fun i => [some (.box [.d (.sc (.string ⟨#[]⟩)), .nils, .nils, .d (.sc (.string ⟨#[]⟩))]), none, some (.box (deepE i).bs)]) 0 (by omega)
    ((wk_fzB (i := 2) (j := 1) rfl).trans ((wk_tell 2 (b := .box [.d (dS [97]), .d (.fz [[dS [98], dS [99]]]), .d (.sc (.slice none 0 0)), .d (dS [])]) (b' := .box [.d (dS [97]), .d (.fz [[dS [98], dS [99]]]), .d (.fz []), .d (dS [])]) rfl rfl (fun x O h => br_nil2 h)).trans (wk_le (by simp only [go_sem, Bool.not_not, List.mem_singleton, forall_eq, ↓reduceIte, if_pos, rowsAt_map, wrap64, wrapu8, List.getElem?_cons_zero, List.getElem?_cons_succ, Int.reduceToNat, Nat.reduceAdd, Nat.reduceBEq, Bool.or_false, Bool.false_or, Bool.true_or, Nat.reduceSub, Nat.reduceMul, Int.reduceAdd, Int.reduceEq, Int.reduceLT, Int.reduceLE, Int.reduceNeg, Nat.reduceLT, Nat.reduceLeDiff, Nat.reduceEqDiff]; try simp) (by exact ⟨rfl, trivial, rfl, trivial⟩)))) ?_
  rintro i h1
  refine zT ?_
  repeat' first
  | with_reducible refine awp_seq ?_
  | ((with_reducible refine awp_region ?_); simp (maxSteps := 500000) (disch := omega) only [go_sem, Bool.not_not, List.mem_singleton, forall_eq, ↓reduceIte, if_pos, rowsAt_map, wrap64, wrapu8, List.getElem?_cons_zero, List.getElem?_cons_succ, Int.reduceToNat, Nat.reduceAdd, Nat.reduceBEq, Bool.or_false, Bool.false_or, Bool.true_or, Nat.reduceSub, Nat.reduceMul, Int.reduceAdd, Int.reduceEq, Int.reduceLT, Int.reduceLE, Int.reduceNeg, Nat.reduceLT, Nat.reduceLeDiff, Nat.reduceEqDiff, nxO])
  | ((with_reducible refine Gd_nd ?_ ?_) <;> intro hb hb2 <;> first | contradiction | (exfalso; omega) | (simp (maxSteps := 500000) (disch := omega) only [go_sem, Bool.not_not, List.mem_singleton, forall_eq, ↓reduceIte, if_pos, rowsAt_map, wrap64, wrapu8, List.getElem?_cons_zero, List.getElem?_cons_succ, Int.reduceToNat, Nat.reduceAdd, Nat.reduceBEq, Bool.or_false, Bool.false_or, Bool.true_or, Nat.reduceSub, Nat.reduceMul, Int.reduceAdd, Int.reduceEq, Int.reduceLT, Int.reduceLE, Int.reduceNeg, Nat.reduceLT, Nat.reduceLeDiff, Nat.reduceEqDiff, nxO, hb2]; try clear hb2))
  | ((with_reducible refine Gd_nb ?_ ?_) <;> intro hb <;> first | contradiction | simp (maxSteps := 500000) (disch := omega) only [go_sem, Bool.not_not, List.mem_singleton, forall_eq, ↓reduceIte, if_pos, rowsAt_map, wrap64, wrapu8, List.getElem?_cons_zero, List.getElem?_cons_succ, Int.reduceToNat, Nat.reduceAdd, Nat.reduceBEq, Bool.or_false, Bool.false_or, Bool.true_or, Nat.reduceSub, Nat.reduceMul, Int.reduceAdd, Int.reduceEq, Int.reduceLT, Int.reduceLE, Int.reduceNeg, Nat.reduceLT, Nat.reduceLeDiff, Nat.reduceEqDiff, nxO, hb])
  | ((with_reducible refine Gd_d ?_ ?_) <;> intro hb hb2 <;> first | contradiction | (exfalso; omega) | (simp (maxSteps := 500000) (disch := omega) only [go_sem, Bool.not_not, List.mem_singleton, forall_eq, ↓reduceIte, if_pos, rowsAt_map, wrap64, wrapu8, List.getElem?_cons_zero, List.getElem?_cons_succ, Int.reduceToNat, Nat.reduceAdd, Nat.reduceBEq, Bool.or_false, Bool.false_or, Bool.true_or, Nat.reduceSub, Nat.reduceMul, Int.reduceAdd, Int.reduceEq, Int.reduceLT, Int.reduceLE, Int.reduceNeg, Nat.reduceLT, Nat.reduceLeDiff, Nat.reduceEqDiff, nxO, hb2]; try clear hb2))
  | ((with_reducible refine Gd_b ?_ ?_) <;> intro hb <;> first | contradiction | simp (maxSteps := 500000) (disch := omega) only [go_sem, Bool.not_not, List.mem_singleton, forall_eq, ↓reduceIte, if_pos, rowsAt_map, wrap64, wrapu8, List.getElem?_cons_zero, List.getElem?_cons_succ, Int.reduceToNat, Nat.reduceAdd, Nat.reduceBEq, Bool.or_false, Bool.false_or, Bool.true_or, Nat.reduceSub, Nat.reduceMul, Int.reduceAdd, Int.reduceEq, Int.reduceLT, Int.reduceLE, Int.reduceNeg, Nat.reduceLT, Nat.reduceLeDiff, Nat.reduceEqDiff, nxO, hb])
  | ((with_reducible refine Res_id ?_); simp (maxSteps := 500000) (disch := omega) only [go_sem, Bool.not_not, List.mem_singleton, forall_eq, ↓reduceIte, if_pos, rowsAt_map, wrap64, wrapu8, List.getElem?_cons_zero, List.getElem?_cons_succ, Int.reduceToNat, Nat.reduceAdd, Nat.reduceBEq, Bool.or_false, Bool.false_or, Bool.true_or, Nat.reduceSub, Nat.reduceMul, Int.reduceAdd, Int.reduceEq, Int.reduceLT, Int.reduceLE, Int.reduceNeg, Nat.reduceLT, Nat.reduceLeDiff, Nat.reduceEqDiff, nxO])
  | ((with_reducible refine awp_drawnC ?_ ?_); rfl; simp (maxSteps := 500000) (disch := omega) only [go_sem, Bool.not_not, List.mem_singleton, forall_eq, ↓reduceIte, if_pos, rowsAt_map, wrap64, wrapu8, List.getElem?_cons_zero, List.getElem?_cons_succ, Int.reduceToNat, Nat.reduceAdd, Nat.reduceBEq, Bool.or_false, Bool.false_or, Bool.true_or, Nat.reduceSub, Nat.reduceMul, Int.reduceAdd, Int.reduceEq, Int.reduceLT, Int.reduceLE, Int.reduceNeg, Nat.reduceLT, Nat.reduceLeDiff, Nat.reduceEqDiff, nxO])
  | ((with_reducible refine awp_drawnA ?_ ?_); rfl; simp (maxSteps := 500000) (disch := omega) only [go_sem, Bool.not_not, List.mem_singleton, forall_eq, ↓reduceIte, if_pos, rowsAt_map, wrap64, wrapu8, List.getElem?_cons_zero, List.getElem?_cons_succ, Int.reduceToNat, Nat.reduceAdd, Nat.reduceBEq, Bool.or_false, Bool.false_or, Bool.true_or, Nat.reduceSub, Nat.reduceMul, Int.reduceAdd, Int.reduceEq, Int.reduceLT, Int.reduceLE, Int.reduceNeg, Nat.reduceLT, Nat.reduceLeDiff, Nat.reduceEqDiff, nxO])
  | ((with_reducible refine CGd_nd ?_ ?_) <;> intro hb hb2 <;> first | contradiction | (exfalso; omega) | (simp (maxSteps := 500000) (disch := omega) only [go_sem, Bool.not_not, List.mem_singleton, forall_eq, ↓reduceIte, if_pos, rowsAt_map, wrap64, wrapu8, List.getElem?_cons_zero, List.getElem?_cons_succ, Int.reduceToNat, Nat.reduceAdd, Nat.reduceBEq, Bool.or_false, Bool.false_or, Bool.true_or, Nat.reduceSub, Nat.reduceMul, Int.reduceAdd, Int.reduceEq, Int.reduceLT, Int.reduceLE, Int.reduceNeg, Nat.reduceLT, Nat.reduceLeDiff, Nat.reduceEqDiff, nxO, hb2]; try clear hb2))
  | ((with_reducible refine CGd_nb ?_ ?_) <;> intro hb <;> first | contradiction | simp (maxSteps := 500000) (disch := omega) only [go_sem, Bool.not_not, List.mem_singleton, forall_eq, ↓reduceIte, if_pos, rowsAt_map, wrap64, wrapu8, List.getElem?_cons_zero, List.getElem?_cons_succ, Int.reduceToNat, Nat.reduceAdd, Nat.reduceBEq, Bool.or_false, Bool.false_or, Bool.true_or, Nat.reduceSub, Nat.reduceMul, Int.reduceAdd, Int.reduceEq, Int.reduceLT, Int.reduceLE, Int.reduceNeg, Nat.reduceLT, Nat.reduceLeDiff, Nat.reduceEqDiff, nxO, hb])
  | ((with_reducible refine CGd_d ?_ ?_) <;> intro hb hb2 <;> first | contradiction | (exfalso; omega) | (simp (maxSteps := 500000) (disch := omega) only [go_sem, Bool.not_not, List.mem_singleton, forall_eq, ↓reduceIte, if_pos, rowsAt_map, wrap64, wrapu8, List.getElem?_cons_zero, List.getElem?_cons_succ, Int.reduceToNat, Nat.reduceAdd, Nat.reduceBEq, Bool.or_false, Bool.false_or, Bool.true_or, Nat.reduceSub, Nat.reduceMul, Int.reduceAdd, Int.reduceEq, Int.reduceLT, Int.reduceLE, Int.reduceNeg, Nat.reduceLT, Nat.reduceLeDiff, Nat.reduceEqDiff, nxO, hb2]; try clear hb2))
  | ((with_reducible refine CGd_b ?_ ?_) <;> intro hb <;> first | contradiction | simp (maxSteps := 500000) (disch := omega) only [go_sem, Bool.not_not, List.mem_singleton, forall_eq, ↓reduceIte, if_pos, rowsAt_map, wrap64, wrapu8, List.getElem?_cons_zero, List.getElem?_cons_succ, Int.reduceToNat, Nat.reduceAdd, Nat.reduceBEq, Bool.or_false, Bool.false_or, Bool.true_or, Nat.reduceSub, Nat.reduceMul, Int.reduceAdd, Int.reduceEq, Int.reduceLT, Int.reduceLE, Int.reduceNeg, Nat.reduceLT, Nat.reduceLeDiff, Nat.reduceEqDiff, nxO, hb])
  | ((with_reducible refine CRes_id ?_); simp (maxSteps := 500000) (disch := omega) only [go_sem, Bool.not_not, List.mem_singleton, forall_eq, ↓reduceIte, if_pos, rowsAt_map, wrap64, wrapu8, List.getElem?_cons_zero, List.getElem?_cons_succ, Int.reduceToNat, Nat.reduceAdd, Nat.reduceBEq, Bool.or_false, Bool.false_or, Bool.true_or, Nat.reduceSub, Nat.reduceMul, Int.reduceAdd, Int.reduceEq, Int.reduceLT, Int.reduceLE, Int.reduceNeg, Nat.reduceLT, Nat.reduceLeDiff, Nat.reduceEqDiff, nxO])
  | ((with_reducible refine DStep_id ?_); refine dcallP ⟨_, rfl⟩ rfl (by simp (maxSteps := 500000) (disch := omega) only [go_sem, Bool.not_not, List.mem_singleton, forall_eq, ↓reduceIte, if_pos, rowsAt_map, wrap64, wrapu8, List.getElem?_cons_zero, List.getElem?_cons_succ, Int.reduceToNat, Nat.reduceAdd, Nat.reduceBEq, Bool.or_false, Bool.false_or, Bool.true_or, Nat.reduceSub, Nat.reduceMul, Int.reduceAdd, Int.reduceEq, Int.reduceLT, Int.reduceLE, Int.reduceNeg, Nat.reduceLT, Nat.reduceLeDiff, Nat.reduceEqDiff, nxO]; first | done | rfl | fail) ?_; refine ⟨_, by first | fail | fail, ?_⟩; refine ⟨fun _ => rfl, fun _ => rfl, rfl, (fun h => by first | cases h | fail), ?_⟩; try simp (maxSteps := 500000) (disch := omega) only [go_sem, Bool.not_not, List.mem_singleton, forall_eq, ↓reduceIte, if_pos, rowsAt_map, wrap64, wrapu8, List.getElem?_cons_zero, List.getElem?_cons_succ, Int.reduceToNat, Nat.reduceAdd, Nat.reduceBEq, Bool.or_false, Bool.false_or, Bool.true_or, Nat.reduceSub, Nat.reduceMul, Int.reduceAdd, Int.reduceEq, Int.reduceLT, Int.reduceLE, Int.reduceNeg, Nat.reduceLT, Nat.reduceLeDiff, Nat.reduceEqDiff, nxO])
  | ((with_reducible refine DStep_id ?_); refine dcallPw ⟨_, rfl⟩ rfl (by simp (maxSteps := 500000) (disch := omega) only [go_sem, Bool.not_not, List.mem_singleton, forall_eq, ↓reduceIte, if_pos, rowsAt_map, wrap64, wrapu8, List.getElem?_cons_zero, List.getElem?_cons_succ, Int.reduceToNat, Nat.reduceAdd, Nat.reduceBEq, Bool.or_false, Bool.false_or, Bool.true_or, Nat.reduceSub, Nat.reduceMul, Int.reduceAdd, Int.reduceEq, Int.reduceLT, Int.reduceLE, Int.reduceNeg, Nat.reduceLT, Nat.reduceLeDiff, Nat.reduceEqDiff, nxO]; first | done | rfl | fail) ?_; refine ⟨_, by first | fail | fail, ?_⟩; refine ⟨fun _ => rfl, fun _ => rfl, rfl, ?_⟩; try simp (maxSteps := 500000) (disch := omega) only [go_sem, Bool.not_not, List.mem_singleton, forall_eq, ↓reduceIte, if_pos, rowsAt_map, wrap64, wrapu8, List.getElem?_cons_zero, List.getElem?_cons_succ, Int.reduceToNat, Nat.reduceAdd, Nat.reduceBEq, Bool.or_false, Bool.false_or, Bool.true_or, Nat.reduceSub, Nat.reduceMul, Int.reduceAdd, Int.reduceEq, Int.reduceLT, Int.reduceLE, Int.reduceNeg, Nat.reduceLT, Nat.reduceLeDiff, Nat.reduceEqDiff, nxO])
  | ((with_reducible refine AWP_c ?_); refine awp_cond_t (by simp (maxSteps := 500000) (disch := omega) only [go_sem, Bool.not_not, List.mem_singleton, forall_eq, ↓reduceIte, if_pos, rowsAt_map, wrap64, wrapu8, List.getElem?_cons_zero, List.getElem?_cons_succ, Int.reduceToNat, Nat.reduceAdd, Nat.reduceBEq, Bool.or_false, Bool.false_or, Bool.true_or, Nat.reduceSub, Nat.reduceMul, Int.reduceAdd, Int.reduceEq, Int.reduceLT, Int.reduceLE, Int.reduceNeg, Nat.reduceLT, Nat.reduceLeDiff, Nat.reduceEqDiff, nxO]; first | done | fail) ?_)
  | ((with_reducible refine AWP_c ?_); refine awp_cond_f (by simp (maxSteps := 500000) (disch := omega) only [go_sem, Bool.not_not, List.mem_singleton, forall_eq, ↓reduceIte, if_pos, rowsAt_map, wrap64, wrapu8, List.getElem?_cons_zero, List.getElem?_cons_succ, Int.reduceToNat, Nat.reduceAdd, Nat.reduceBEq, Bool.or_false, Bool.false_or, Bool.true_or, Nat.reduceSub, Nat.reduceMul, Int.reduceAdd, Int.reduceEq, Int.reduceLT, Int.reduceLE, Int.reduceNeg, Nat.reduceLT, Nat.reduceLeDiff, Nat.reduceEqDiff, nxO]; first | done | fail) ?_)
  | ((with_reducible refine AWP_c ?_); refine cond_nd (by simp (maxSteps := 500000) (disch := omega) only [go_sem, Bool.not_not, List.mem_singleton, forall_eq, ↓reduceIte, if_pos, rowsAt_map, wrap64, wrapu8, List.getElem?_cons_zero, List.getElem?_cons_succ, Int.reduceToNat, Nat.reduceAdd, Nat.reduceBEq, Bool.or_false, Bool.false_or, Bool.true_or, Nat.reduceSub, Nat.reduceMul, Int.reduceAdd, Int.reduceEq, Int.reduceLT, Int.reduceLE, Int.reduceNeg, Nat.reduceLT, Nat.reduceLeDiff, Nat.reduceEqDiff, nxO]; first | done | rfl) ?_ ?_ <;> intro hb hb2 <;> first | contradiction | (exfalso; omega) | ((try simp (maxSteps := 500000) (disch := omega) only [go_sem, Bool.not_not, List.mem_singleton, forall_eq, ↓reduceIte, if_pos, rowsAt_map, wrap64, wrapu8, List.getElem?_cons_zero, List.getElem?_cons_succ, Int.reduceToNat, Nat.reduceAdd, Nat.reduceBEq, Bool.or_false, Bool.false_or, Bool.true_or, Nat.reduceSub, Nat.reduceMul, Int.reduceAdd, Int.reduceEq, Int.reduceLT, Int.reduceLE, Int.reduceNeg, Nat.reduceLT, Nat.reduceLeDiff, Nat.reduceEqDiff, nxO, hb2]); try clear hb2))
  | ((with_reducible refine AWP_c ?_); refine cond_d (by simp (maxSteps := 500000) (disch := omega) only [go_sem, Bool.not_not, List.mem_singleton, forall_eq, ↓reduceIte, if_pos, rowsAt_map, wrap64, wrapu8, List.getElem?_cons_zero, List.getElem?_cons_succ, Int.reduceToNat, Nat.reduceAdd, Nat.reduceBEq, Bool.or_false, Bool.false_or, Bool.true_or, Nat.reduceSub, Nat.reduceMul, Int.reduceAdd, Int.reduceEq, Int.reduceLT, Int.reduceLE, Int.reduceNeg, Nat.reduceLT, Nat.reduceLeDiff, Nat.reduceEqDiff, nxO]; first | done | rfl) ?_ ?_ <;> intro hb hb2 <;> first | contradiction | (exfalso; omega) | ((try simp (maxSteps := 500000) (disch := omega) only [go_sem, Bool.not_not, List.mem_singleton, forall_eq, ↓reduceIte, if_pos, rowsAt_map, wrap64, wrapu8, List.getElem?_cons_zero, List.getElem?_cons_succ, Int.reduceToNat, Nat.reduceAdd, Nat.reduceBEq, Bool.or_false, Bool.false_or, Bool.true_or, Nat.reduceSub, Nat.reduceMul, Int.reduceAdd, Int.reduceEq, Int.reduceLT, Int.reduceLE, Int.reduceNeg, Nat.reduceLT, Nat.reduceLeDiff, Nat.reduceEqDiff, nxO, hb2]); try clear hb2))
  | ((with_reducible refine AWP_c ?_); refine cond_nb (by simp (maxSteps := 500000) (disch := omega) only [go_sem, Bool.not_not, List.mem_singleton, forall_eq, ↓reduceIte, if_pos, rowsAt_map, wrap64, wrapu8, List.getElem?_cons_zero, List.getElem?_cons_succ, Int.reduceToNat, Nat.reduceAdd, Nat.reduceBEq, Bool.or_false, Bool.false_or, Bool.true_or, Nat.reduceSub, Nat.reduceMul, Int.reduceAdd, Int.reduceEq, Int.reduceLT, Int.reduceLE, Int.reduceNeg, Nat.reduceLT, Nat.reduceLeDiff, Nat.reduceEqDiff, nxO]; first | done | rfl) ?_ ?_ <;> intro hb <;> first | contradiction | (try simp (maxSteps := 500000) (disch := omega) only [go_sem, Bool.not_not, List.mem_singleton, forall_eq, ↓reduceIte, if_pos, rowsAt_map, wrap64, wrapu8, List.getElem?_cons_zero, List.getElem?_cons_succ, Int.reduceToNat, Nat.reduceAdd, Nat.reduceBEq, Bool.or_false, Bool.false_or, Bool.true_or, Nat.reduceSub, Nat.reduceMul, Int.reduceAdd, Int.reduceEq, Int.reduceLT, Int.reduceLE, Int.reduceNeg, Nat.reduceLT, Nat.reduceLeDiff, Nat.reduceEqDiff, nxO, hb]))
  | ((with_reducible refine AWP_c ?_); refine awp_cond (by simp (maxSteps := 500000) (disch := omega) only [go_sem, Bool.not_not, List.mem_singleton, forall_eq, ↓reduceIte, if_pos, rowsAt_map, wrap64, wrapu8, List.getElem?_cons_zero, List.getElem?_cons_succ, Int.reduceToNat, Nat.reduceAdd, Nat.reduceBEq, Bool.or_false, Bool.false_or, Bool.true_or, Nat.reduceSub, Nat.reduceMul, Int.reduceAdd, Int.reduceEq, Int.reduceLT, Int.reduceLE, Int.reduceNeg, Nat.reduceLT, Nat.reduceLeDiff, Nat.reduceEqDiff, nxO]; first | done | rfl) ?_ ?_ <;> intro hb <;> first | contradiction | (try simp (maxSteps := 500000) (disch := omega) only [go_sem, Bool.not_not, List.mem_singleton, forall_eq, ↓reduceIte, if_pos, rowsAt_map, wrap64, wrapu8, List.getElem?_cons_zero, List.getElem?_cons_succ, Int.reduceToNat, Nat.reduceAdd, Nat.reduceBEq, Bool.or_false, Bool.false_or, Bool.true_or, Nat.reduceSub, Nat.reduceMul, Int.reduceAdd, Int.reduceEq, Int.reduceLT, Int.reduceLE, Int.reduceNeg, Nat.reduceLT, Nat.reduceLeDiff, Nat.reduceEqDiff, nxO, hb]))
  | ((with_reducible refine awp_ret ?_); refine fin_r ?_)
  | ((with_reducible refine awp_ret ?_); refine fin_q ?_ ?_)
  | with_reducible refine fin_qn ?_ ?_
  | ((with_reducible refine awp_skip ?_); simp (maxSteps := 500000) (disch := omega) only [go_sem, Bool.not_not, List.mem_singleton, forall_eq, ↓reduceIte, if_pos, rowsAt_map, wrap64, wrapu8, List.getElem?_cons_zero, List.getElem?_cons_succ, Int.reduceToNat, Nat.reduceAdd, Nat.reduceBEq, Bool.or_false, Bool.false_or, Bool.true_or, Nat.reduceSub, Nat.reduceMul, Int.reduceAdd, Int.reduceEq, Int.reduceLT, Int.reduceLE, Int.reduceNeg, Nat.reduceLT, Nat.reduceLeDiff, Nat.reduceEqDiff, nxO])
  | with_reducible refine awp_block ?_
  | ((with_reducible refine awp_exit ?_); simp (maxSteps := 500000) (disch := omega) only [go_sem, Bool.not_not, List.mem_singleton, forall_eq, ↓reduceIte, if_pos, rowsAt_map, wrap64, wrapu8, List.getElem?_cons_zero, List.getElem?_cons_succ, Int.reduceToNat, Nat.reduceAdd, Nat.reduceBEq, Bool.or_false, Bool.false_or, Bool.true_or, Nat.reduceSub, Nat.reduceMul, Int.reduceAdd, Int.reduceEq, Int.reduceLT, Int.reduceLE, Int.reduceNeg, Nat.reduceLT, Nat.reduceLeDiff, Nat.reduceEqDiff, nxO])
  | ((with_reducible refine CallK_id ?_); refine callF ⟨_, rfl⟩ rfl (by simp (maxSteps := 500000) (disch := omega) only [go_sem, Bool.not_not, List.mem_singleton, forall_eq, ↓reduceIte, if_pos, rowsAt_map, wrap64, wrapu8, List.getElem?_cons_zero, List.getElem?_cons_succ, Int.reduceToNat, Nat.reduceAdd, Nat.reduceBEq, Bool.or_false, Bool.false_or, Bool.true_or, Nat.reduceSub, Nat.reduceMul, Int.reduceAdd, Int.reduceEq, Int.reduceLT, Int.reduceLE, Int.reduceNeg, Nat.reduceLT, Nat.reduceLeDiff, Nat.reduceEqDiff, nxO]; first | done | rfl | fail) ?_; refine ⟨_, by first | fail | fail, ?_⟩; refine ⟨fun _ => rfl, fun _ => rfl, rfl, ?_⟩; try simp (maxSteps := 500000) (disch := omega) only [go_sem, Bool.not_not, List.mem_singleton, forall_eq, ↓reduceIte, if_pos, rowsAt_map, wrap64, wrapu8, List.getElem?_cons_zero, List.getElem?_cons_succ, Int.reduceToNat, Nat.reduceAdd, Nat.reduceBEq, Bool.or_false, Bool.false_or, Bool.true_or, Nat.reduceSub, Nat.reduceMul, Int.reduceAdd, Int.reduceEq, Int.reduceLT, Int.reduceLE, Int.reduceNeg, Nat.reduceLT, Nat.reduceLeDiff, Nat.reduceEqDiff, nxO])
  | fail
  · refine ⟨i + 1, by omega, by omega, ?_⟩
    refine (wk_fzB (i := 2) (j := 2) rfl).trans ((wk_tell 2 (b := .box [.d (dS [97]), .nils, .d (.fz [[dS (deepE i).name, .fz ((deepE i).ats.map At.row), .fz ((deepE i).kids.map El.row), dS (deepE i).text]]), .d (dS [])]) (b' := .box [.d (dS [97]), .d (.fz []), .d (.fz [[dS (deepE i).name, .fz ((deepE i).ats.map At.row), .fz ((deepE i).kids.map El.row), dS (deepE i).text]]), .d (dS [])]) rfl rfl (fun x O h => br_nil1 h)).trans (wk_cl 3 (by decide) (by simp [go_sem, Bool.not_not, List.mem_singleton, forall_eq, ↓reduceIte, if_pos, rowsAt_map, wrap64, wrapu8, List.getElem?_cons_zero, List.getElem?_cons_succ, Int.reduceToNat, Nat.reduceAdd, Nat.reduceBEq, Bool.or_false, Bool.false_or, Bool.true_or, Nat.reduceSub, Nat.reduceMul, Int.reduceAdd, Int.reduceEq, Int.reduceLT, Int.reduceLE, Int.reduceNeg, Nat.reduceLT, Nat.reduceLeDiff, Nat.reduceEqDiff]) (by simp only [go_sem, Bool.not_not, List.mem_singleton, forall_eq, ↓reduceIte, if_pos, rowsAt_map, wrap64, wrapu8, List.getElem?_cons_zero, List.getElem?_cons_succ, Int.reduceToNat, Nat.reduceAdd, Nat.reduceBEq, Bool.or_false, Bool.false_or, Bool.true_or, Nat.reduceSub, Nat.reduceMul, Int.reduceAdd, Int.reduceEq, Int.reduceLT, Int.reduceLE, Int.reduceNeg, Nat.reduceLT, Nat.reduceLeDiff, Nat.reduceEqDiff]; try simp) (by exact ⟨rfl, trivial, congrArg (fun r => some (Blk.box [.d (dS [97]), .d (.fz []), .d (.fz [r]), .d (dS [])])) (El.row_eq (deepE i)).symm, trivial⟩)))
  · have hi : i = n := by omega
    subst hi
    first | rfl | trace_state
def rep : Nat → Str → Str
  | 0, _ => []
  | k + 1, s => rep k s ++ s
def textD (n : Nat) : Str := rep n [60, 97, 62] ++ rep n [60, 47, 97, 62]
def chkD (k : Nat) : Bool :=
  let n := k + 1
  if 24 < n then (writeE (deepE k)).2 == 2 && ((parseR (textD n)).2.2 == 2 && ((parseR (textD n)).2.1 == 72 && (deepE k).dep == n))
  else (writeE (deepE k)).2 == 0 && ((parseR (textD n)).2.2 == 0 && ((parseR (textD n)).1.dep == n && (deepE k).dep == n))
theorem allD : (List.range 60).all chkD = true := by kernel_rfl
end Go.Eng
open Go Go.Proofs
namespace Go.Eng
set_option linter.unusedSimpArgs false
set_option linter.unusedVariables false
set_option maxRecDepth 100000
set_option maxHeartbeats 8000000
theorem rep_len (t : Str) : ∀ k, (rep k t).length = k * t.length
  | 0 => by simp [rep]
  | k + 1 => by rw [rep, List.length_append, rep_len t k, Nat.add_mul]; omega
theorem chk_of {k : Nat} (hk : k < 60) : chkD k = true := List.all_eq_true.1 allD k (List.mem_range.2 hk)
theorem deepE_wt : ∀ k : Nat, (deepE k).wt ≤ 3 * k + 10
  | 0 => by decide
  | k + 1 => by rw [deepE, El.wt]; have := deepE_wt k; simp only [At.wts, El.wts, List.length_nil]; omega
theorem chk_gt {k : Nat} (hk : k < 60) (h : 24 < k + 1) : (writeE (deepE k)).2 = 2 ∧ (parseR (textD (k + 1))).2.2 = 2 ∧ (parseR (textD (k + 1))).2.1 = 72 ∧ (deepE k).dep = k + 1 := by
  have := chk_of hk
  unfold chkD at this
  simp only [if_pos h, Bool.and_eq_true, beq_iff_eq] at this
  exact this
theorem chk_le {k : Nat} (hk : k < 60) (h : ¬ 24 < k + 1) : (writeE (deepE k)).2 = 0 ∧ (parseR (textD (k + 1))).2.2 = 0 ∧ (parseR (textD (k + 1))).1.dep = k + 1 ∧ (deepE k).dep = k + 1 := by
  have := chk_of hk
  unfold chkD at this
  simp only [if_neg h, Bool.and_eq_true, beq_iff_eq] at this
  exact this
theorem parse_sz (k : Nat) (hk : k < 60) : (parseR (textD (k + 1))).1.size ≤ 1000000000 := by
  have h : ((List.range 60).all fun k => decide ((parseR (textD (k + 1))).1.size ≤ 1000000000)) = true := by kernel_rfl
  exact of_decide_eq_true (List.all_eq_true.1 h k (List.mem_range.2 hk))
theorem parseD (k : Nat) (hk : k < 60) (i : Nat) (hi : i = k + 1) : AFn env 10 [aS (rep (k + 1) [60, 97, 62] ++ rep i [60, 47, 97, 62])] [] (.tup [(parseR (textD (k + 1))).1.a, aI (parseR (textD (k + 1))).2.1, aI (parseR (textD (k + 1))).2.2]) [] := by
  subst hi
  exact parse_ok (textD (k + 1)) (by rw [textD, List.length_append, rep_len, rep_len]; simp; omega)
theorem lawD_a (n : Int) (hn : n < 1 ∨ 60 < n) : AFn env 5 [aI n] [] (aB true) [] := by
  refine afn_body Tryd.func5 rfl (by decide) ?_
  simp only [Tryd.ntmps5, Tryd.results5, List.length_cons, List.length_nil, List.cons_append, List.nil_append, Nat.reduceAdd, Nat.reduceSub, List.replicate]
  repeat' first
  | with_reducible refine awp_seq ?_
  | ((with_reducible refine awp_region ?_); refine zS ?_)
  | ((with_reducible refine Gd_nd ?_ ?_) <;> intro hb hb2 <;> first | contradiction | (exfalso; omega) | (refine zH hb2 ?_; try clear hb2))
  | ((with_reducible refine Gd_nb ?_ ?_) <;> intro hb <;> first | contradiction | refine zH hb ?_)
  | ((with_reducible refine Gd_d ?_ ?_) <;> intro hb hb2 <;> first | contradiction | (exfalso; omega) | (refine zH hb2 ?_; try clear hb2))
  | ((with_reducible refine Gd_b ?_ ?_) <;> intro hb <;> first | contradiction | refine zH hb ?_)
  | ((with_reducible refine Res_id ?_); refine zS ?_)
  | ((with_reducible refine awp_drawnC ?_ ?_); rfl; refine zS ?_)
  | ((with_reducible refine awp_drawnA ?_ ?_); rfl; refine zS ?_)
  | ((with_reducible refine CGd_nd ?_ ?_) <;> intro hb hb2 <;> first | contradiction | (exfalso; omega) | (refine zH hb2 ?_; try clear hb2))
  | ((with_reducible refine CGd_nb ?_ ?_) <;> intro hb <;> first | contradiction | refine zH hb ?_)
  | ((with_reducible refine CGd_d ?_ ?_) <;> intro hb hb2 <;> first | contradiction | (exfalso; omega) | (refine zH hb2 ?_; try clear hb2))
  | ((with_reducible refine CGd_b ?_ ?_) <;> intro hb <;> first | contradiction | refine zH hb ?_)
  | ((with_reducible refine CRes_id ?_); refine zS ?_)
  | ((with_reducible refine DStep_id ?_); refine zdP ?_; refine ⟨_, by first | exact kids_ok | fail, fun _ => rfl, fun _ => rfl, rfl, (fun h => by first | cases h | fail), ?_⟩; try refine zS ?_)
  | ((with_reducible refine DStep_id ?_); refine zdW ?_; refine ⟨_, by first | exact kids_ok | fail, fun _ => rfl, fun _ => rfl, rfl, ?_⟩; try refine zS ?_)
  | ((with_reducible refine AWP_c ?_); refine zcdT ?_)
  | ((with_reducible refine AWP_c ?_); refine zcdF ?_)
  | ((with_reducible refine AWP_c ?_); refine zcdN ?_ ?_ <;> intro hb hb2 <;> first | contradiction | (exfalso; omega) | ((try refine zH hb2 ?_); try clear hb2))
  | ((with_reducible refine AWP_c ?_); refine zcdD ?_ ?_ <;> intro hb hb2 <;> first | contradiction | (exfalso; omega) | ((try refine zH hb2 ?_); try clear hb2))
  | ((with_reducible refine AWP_c ?_); refine zcdM ?_ ?_ <;> intro hb <;> first | contradiction | (try refine zH hb ?_))
  | ((with_reducible refine AWP_c ?_); refine zcdB ?_ ?_ <;> intro hb <;> first | contradiction | (try refine zH hb ?_))
  | ((with_reducible refine awp_ret ?_); refine fin_r ?_)
  | ((with_reducible refine awp_ret ?_); refine fin_q ?_ ?_)
  | with_reducible refine fin_qn ?_ ?_
  | ((with_reducible refine awp_skip ?_); refine zS ?_)
  | ((with_reducible refine awp_exit ?_); refine zS ?_)
  | ((with_reducible refine CallK_id ?_); refine zcF ?_; refine ⟨_, by first | exact kids_ok | fail, fun _ => rfl, fun _ => rfl, rfl, ?_⟩; try refine zS ?_)
  | ((with_reducible refine awp_label ?_); try refine zS ?_)
  | ((with_reducible refine awp_goto ?_); try refine zS ?_)
  | ((with_reducible refine awp_scope0 ?_); try refine zS ?_)
  | exact True.intro
  | fail
  all_goals first | rfl | (exfalso; omega) | trace_state
theorem lawD_b (k : Nat) (hk : k < 60) : AFn env 5 [aI ((k : Int) + 1)] [] (aB true) [] := by
  have hsz := (deepE k).size_wt
  have hwt := deepE_wt k
  refine afn_body Tryd.func5 rfl (by decide) ?_
  simp only [Tryd.ntmps5, Tryd.results5, List.length_cons, List.length_nil, List.cons_append, List.nil_append, Nat.reduceAdd, Nat.reduceSub, List.replicate]
  repeat' first
  | with_reducible refine awp_seq ?_
  | ((with_reducible refine awp_region ?_); refine zS ?_)
  | ((with_reducible refine Gd_nd ?_ ?_) <;> intro hb hb2 <;> first | contradiction | (exfalso; omega) | (refine zH hb2 ?_; try clear hb2))
  | ((with_reducible refine Gd_nb ?_ ?_) <;> intro hb <;> first | contradiction | refine zH hb ?_)
  | ((with_reducible refine Gd_d ?_ ?_) <;> intro hb hb2 <;> first | contradiction | (exfalso; omega) | (refine zH hb2 ?_; try clear hb2))
  | ((with_reducible refine Gd_b ?_ ?_) <;> intro hb <;> first | contradiction | refine zH hb ?_)
  | ((with_reducible refine Res_id ?_); refine zS ?_)
  | ((with_reducible refine awp_drawnC ?_ ?_); rfl; refine zS ?_)
  | ((with_reducible refine awp_drawnA ?_ ?_); rfl; refine zS ?_)
  | ((with_reducible refine CGd_nd ?_ ?_) <;> intro hb hb2 <;> first | contradiction | (exfalso; omega) | (refine zH hb2 ?_; try clear hb2))
  | ((with_reducible refine CGd_nb ?_ ?_) <;> intro hb <;> first | contradiction | refine zH hb ?_)
  | ((with_reducible refine CGd_d ?_ ?_) <;> intro hb hb2 <;> first | contradiction | (exfalso; omega) | (refine zH hb2 ?_; try clear hb2))
  | ((with_reducible refine CGd_b ?_ ?_) <;> intro hb <;> first | contradiction | refine zH hb ?_)
  | ((with_reducible refine CRes_id ?_); refine zS ?_)
  | ((with_reducible refine DStep_id ?_); refine zdP ?_; refine ⟨_, by first | exact deep_ok k (by omega) | fail, fun _ => rfl, fun _ => rfl, rfl, (fun h => by first | cases h | fail), ?_⟩; try refine zS ?_)
  | ((with_reducible refine DStep_id ?_); refine zdW ?_; refine ⟨_, by first | exact deep_ok k (by omega) | fail, fun _ => rfl, fun _ => rfl, rfl, ?_⟩; try refine zS ?_)
  | ((with_reducible refine AWP_c ?_); refine zcdT ?_)
  | ((with_reducible refine AWP_c ?_); refine zcdF ?_)
  | ((with_reducible refine AWP_c ?_); refine zcdN ?_ ?_ <;> intro hb hb2 <;> first | contradiction | (exfalso; omega) | ((try refine zH hb2 ?_); try clear hb2))
  | ((with_reducible refine AWP_c ?_); refine zcdD ?_ ?_ <;> intro hb hb2 <;> first | contradiction | (exfalso; omega) | ((try refine zH hb2 ?_); try clear hb2))
  | ((with_reducible refine AWP_c ?_); refine zcdM ?_ ?_ <;> intro hb <;> first | contradiction | (try refine zH hb ?_))
  | ((with_reducible refine AWP_c ?_); refine zcdB ?_ ?_ <;> intro hb <;> first | contradiction | (try refine zH hb ?_))
  | ((with_reducible refine awp_ret ?_); refine fin_r ?_)
  | ((with_reducible refine awp_ret ?_); refine fin_q ?_ ?_)
  | with_reducible refine fin_qn ?_ ?_
  | ((with_reducible refine awp_skip ?_); refine zS ?_)
  | ((with_reducible refine awp_exit ?_); refine zS ?_)
  | ((with_reducible refine CallK_id ?_); refine zcF ?_; refine ⟨_, by first | exact deep_ok k (by omega) | fail, fun _ => rfl, fun _ => rfl, rfl, ?_⟩; try refine zS ?_)
  | ((with_reducible refine awp_label ?_); try refine zS ?_)
  | ((with_reducible refine awp_goto ?_); try refine zS ?_)
  | ((with_reducible refine awp_scope0 ?_); try refine zS ?_)
  | exact True.intro
  | fail
  all_goals try (exfalso; omega)
  all_goals refine awp_block ?_
  all_goals refine awp_loopT (fun i : Nat => i ≤ k + 1) (fun i => k + 1 - i) (fun i => [(6, aI i), (5, aS (rep i [60, 97, 62]))]) (fun i => [some (.box (deepE k).bs)]) 0 (by omega) (wk_le (by simp only [go_sem, Bool.not_not, List.mem_singleton, forall_eq, ↓reduceIte, if_pos, rowsAt_map, wrap64, wrapu8, List.getElem?_cons_zero, List.getElem?_cons_succ, Int.reduceToNat, Nat.reduceAdd, Nat.reduceBEq, Bool.or_false, Bool.false_or, Bool.true_or, Nat.reduceSub, Nat.reduceMul, Int.reduceAdd, Int.reduceEq, Int.reduceLT, Int.reduceLE, Int.reduceNeg, Nat.reduceLT, Nat.reduceLeDiff, Nat.reduceEqDiff, rep, List.append_nil]; first | done | rfl | (simp; done) | (simp; rfl)) (by simp only [go_sem, Bool.not_not, List.mem_singleton, forall_eq, ↓reduceIte, if_pos, rowsAt_map, wrap64, wrapu8, List.getElem?_cons_zero, List.getElem?_cons_succ, Int.reduceToNat, Nat.reduceAdd, Nat.reduceBEq, Bool.or_false, Bool.false_or, Bool.true_or, Nat.reduceSub, Nat.reduceMul, Int.reduceAdd, Int.reduceEq, Int.reduceLT, Int.reduceLE, Int.reduceNeg, Nat.reduceLT, Nat.reduceLeDiff, Nat.reduceEqDiff])) ?_
  all_goals rintro i h1
  all_goals have hl1 : (rep i [60, 97, 62]).length = i * 3 := rep_len _ i
  all_goals refine zT ?_
  all_goals repeat' first
            | with_reducible refine awp_seq ?_
            | ((with_reducible refine awp_region ?_); refine zS ?_)
            | ((with_reducible refine Gd_nd ?_ ?_) <;> intro hb hb2 <;> first | contradiction | (exfalso; omega) | (refine zH hb2 ?_; try clear hb2))
            | ((with_reducible refine Gd_nb ?_ ?_) <;> intro hb <;> first | contradiction | refine zH hb ?_)
            | ((with_reducible refine Gd_d ?_ ?_) <;> intro hb hb2 <;> first | contradiction | (exfalso; omega) | (refine zH hb2 ?_; try clear hb2))
            | ((with_reducible refine Gd_b ?_ ?_) <;> intro hb <;> first | contradiction | refine zH hb ?_)
            | ((with_reducible refine Res_id ?_); refine zS ?_)
            | ((with_reducible refine awp_drawnC ?_ ?_); rfl; refine zS ?_)
            | ((with_reducible refine awp_drawnA ?_ ?_); rfl; refine zS ?_)
            | ((with_reducible refine CGd_nd ?_ ?_) <;> intro hb hb2 <;> first | contradiction | (exfalso; omega) | (refine zH hb2 ?_; try clear hb2))
            | ((with_reducible refine CGd_nb ?_ ?_) <;> intro hb <;> first | contradiction | refine zH hb ?_)
            | ((with_reducible refine CGd_d ?_ ?_) <;> intro hb hb2 <;> first | contradiction | (exfalso; omega) | (refine zH hb2 ?_; try clear hb2))
            | ((with_reducible refine CGd_b ?_ ?_) <;> intro hb <;> first | contradiction | refine zH hb ?_)
            | ((with_reducible refine CRes_id ?_); refine zS ?_)
            | ((with_reducible refine DStep_id ?_); refine zdP ?_; refine ⟨_, by first | exact deep_ok k (by omega) | fail, fun _ => rfl, fun _ => rfl, rfl, (fun h => by first | cases h | fail), ?_⟩; try refine zS ?_)
            | ((with_reducible refine DStep_id ?_); refine zdW ?_; refine ⟨_, by first | exact deep_ok k (by omega) | fail, fun _ => rfl, fun _ => rfl, rfl, ?_⟩; try refine zS ?_)
            | ((with_reducible refine AWP_c ?_); refine zcdT ?_)
            | ((with_reducible refine AWP_c ?_); refine zcdF ?_)
            | ((with_reducible refine AWP_c ?_); refine zcdN ?_ ?_ <;> intro hb hb2 <;> first | contradiction | (exfalso; omega) | ((try refine zH hb2 ?_); try clear hb2))
            | ((with_reducible refine AWP_c ?_); refine zcdD ?_ ?_ <;> intro hb hb2 <;> first | contradiction | (exfalso; omega) | ((try refine zH hb2 ?_); try clear hb2))
            | ((with_reducible refine AWP_c ?_); refine zcdM ?_ ?_ <;> intro hb <;> first | contradiction | (try refine zH hb ?_))
            | ((with_reducible refine AWP_c ?_); refine zcdB ?_ ?_ <;> intro hb <;> first | contradiction | (try refine zH hb ?_))
            | ((with_reducible refine awp_ret ?_); refine fin_r ?_)
            | ((with_reducible refine awp_ret ?_); refine fin_q ?_ ?_)
            | with_reducible refine fin_qn ?_ ?_
            | ((with_reducible refine awp_skip ?_); refine zS ?_)
            | with_reducible refine awp_block ?_
            | ((with_reducible refine awp_exit ?_); refine zS ?_)
            | ((with_reducible refine CallK_id ?_); refine zcF ?_; refine ⟨_, by first | exact deep_ok k (by omega) | fail, fun _ => rfl, fun _ => rfl, rfl, ?_⟩; try refine zS ?_)
            | ((with_reducible refine awp_label ?_); try refine zS ?_)
            | ((with_reducible refine awp_goto ?_); try refine zS ?_)
            | ((with_reducible refine awp_scope0 ?_); try refine zS ?_)
            | exact True.intro
            | fail
  all_goals try (exact ⟨i + 1, by omega, by omega, wk_cl 1 (by decide) (by simp) (by simp only [go_sem, Bool.not_not, List.mem_singleton, forall_eq, ↓reduceIte, if_pos, rowsAt_map, wrap64, wrapu8, List.getElem?_cons_zero, List.getElem?_cons_succ, Int.reduceToNat, Nat.reduceAdd, Nat.reduceBEq, Bool.or_false, Bool.false_or, Bool.true_or, Nat.reduceSub, Nat.reduceMul, Int.reduceAdd, Int.reduceEq, Int.reduceLT, Int.reduceLE, Int.reduceNeg, Nat.reduceLT, Nat.reduceLeDiff, Nat.reduceEqDiff, rep]; first | done | rfl | (simp; done)) (by simp only [go_sem, Bool.not_not, List.mem_singleton, forall_eq, ↓reduceIte, if_pos, rowsAt_map, wrap64, wrapu8, List.getElem?_cons_zero, List.getElem?_cons_succ, Int.reduceToNat, Nat.reduceAdd, Nat.reduceBEq, Bool.or_false, Bool.false_or, Bool.true_or, Nat.reduceSub, Nat.reduceMul, Int.reduceAdd, Int.reduceEq, Int.reduceLT, Int.reduceLE, Int.reduceNeg, Nat.reduceLT, Nat.reduceLeDiff, Nat.reduceEqDiff])⟩)
  all_goals have hi : i = k + 1 := by omega
  all_goals subst hi
  all_goals refine awp_loopT (fun i : Nat => i ≤ k + 1) (fun i => k + 1 - i) (fun i => [(7, aI i), (5, aS (rep (k + 1) [60, 97, 62] ++ rep i [60, 47, 97, 62]))]) (fun i => [some (.box (deepE k).bs)]) 0 (by omega) (wk_le (by simp only [go_sem, Bool.not_not, List.mem_singleton, forall_eq, ↓reduceIte, if_pos, rowsAt_map, wrap64, wrapu8, List.getElem?_cons_zero, List.getElem?_cons_succ, Int.reduceToNat, Nat.reduceAdd, Nat.reduceBEq, Bool.or_false, Bool.false_or, Bool.true_or, Nat.reduceSub, Nat.reduceMul, Int.reduceAdd, Int.reduceEq, Int.reduceLT, Int.reduceLE, Int.reduceNeg, Nat.reduceLT, Nat.reduceLeDiff, Nat.reduceEqDiff, rep, List.append_nil]; first | done | rfl | (simp; done) | (simp; rfl)) (by simp only [go_sem, Bool.not_not, List.mem_singleton, forall_eq, ↓reduceIte, if_pos, rowsAt_map, wrap64, wrapu8, List.getElem?_cons_zero, List.getElem?_cons_succ, Int.reduceToNat, Nat.reduceAdd, Nat.reduceBEq, Bool.or_false, Bool.false_or, Bool.true_or, Nat.reduceSub, Nat.reduceMul, Int.reduceAdd, Int.reduceEq, Int.reduceLT, Int.reduceLE, Int.reduceNeg, Nat.reduceLT, Nat.reduceLeDiff, Nat.reduceEqDiff])) ?_
  all_goals rintro i h2
  all_goals have hl2 : (rep i [60, 47, 97, 62]).length = i * 4 := rep_len _ i
  all_goals refine zT ?_
  all_goals repeat' first
            | with_reducible refine awp_seq ?_
            | ((with_reducible refine awp_region ?_); refine zS ?_)
            | ((with_reducible refine Gd_nd ?_ ?_) <;> intro hb hb2 <;> first | contradiction | (exfalso; omega) | (refine zH hb2 ?_; try clear hb2))
            | ((with_reducible refine Gd_nb ?_ ?_) <;> intro hb <;> first | contradiction | refine zH hb ?_)
            | ((with_reducible refine Gd_d ?_ ?_) <;> intro hb hb2 <;> first | contradiction | (exfalso; omega) | (refine zH hb2 ?_; try clear hb2))
            | ((with_reducible refine Gd_b ?_ ?_) <;> intro hb <;> first | contradiction | refine zH hb ?_)
            | ((with_reducible refine Res_id ?_); refine zS ?_)
            | ((with_reducible refine awp_drawnC ?_ ?_); rfl; refine zS ?_)
            | ((with_reducible refine awp_drawnA ?_ ?_); rfl; refine zS ?_)
            | ((with_reducible refine CGd_nd ?_ ?_) <;> intro hb hb2 <;> first | contradiction | (exfalso; omega) | (refine zH hb2 ?_; try clear hb2))
            | ((with_reducible refine CGd_nb ?_ ?_) <;> intro hb <;> first | contradiction | refine zH hb ?_)
            | ((with_reducible refine CGd_d ?_ ?_) <;> intro hb hb2 <;> first | contradiction | (exfalso; omega) | (refine zH hb2 ?_; try clear hb2))
            | ((with_reducible refine CGd_b ?_ ?_) <;> intro hb <;> first | contradiction | refine zH hb ?_)
            | ((with_reducible refine CRes_id ?_); refine zS ?_)
            | ((with_reducible refine DStep_id ?_); refine zdP ?_; refine ⟨_, by first | exact parseD k (by omega) i (by omega) | exact check_ok' (deepE k) (by omega) | exact depth_ok (deepE k) (by omega) | exact depth_ok (parseR (textD (k + 1))).1 (parse_sz k hk) | exact kids_ok | fail, fun _ => rfl, fun _ => rfl, rfl, (fun h => by first | cases h | fail), ?_⟩; try refine zS ?_)
            | ((with_reducible refine DStep_id ?_); refine zdW ?_; refine ⟨_, by first | exact parseD k (by omega) i (by omega) | exact check_ok' (deepE k) (by omega) | exact depth_ok (deepE k) (by omega) | exact depth_ok (parseR (textD (k + 1))).1 (parse_sz k hk) | exact kids_ok | fail, fun _ => rfl, fun _ => rfl, rfl, ?_⟩; try refine zS ?_)
            | ((with_reducible refine AWP_c ?_); refine zcdT ?_)
            | ((with_reducible refine AWP_c ?_); refine zcdF ?_)
            | ((with_reducible refine AWP_c ?_); refine zcdN ?_ ?_ <;> intro hb hb2 <;> first | contradiction | (exfalso; omega) | ((try refine zH hb2 ?_); try clear hb2))
            | ((with_reducible refine AWP_c ?_); refine zcdD ?_ ?_ <;> intro hb hb2 <;> first | contradiction | (exfalso; omega) | ((try refine zH hb2 ?_); try clear hb2))
            | ((with_reducible refine AWP_c ?_); refine zcdM ?_ ?_ <;> intro hb <;> first | contradiction | (try refine zH hb ?_))
            | ((with_reducible refine AWP_c ?_); refine zcdB ?_ ?_ <;> intro hb <;> first | contradiction | (try refine zH hb ?_))
            | ((with_reducible refine awp_ret ?_); refine fin_r ?_)
            | ((with_reducible refine awp_ret ?_); refine fin_q ?_ ?_)
            | with_reducible refine fin_qn ?_ ?_
            | ((with_reducible refine awp_skip ?_); refine zS ?_)
            | with_reducible refine awp_block ?_
            | ((with_reducible refine awp_exit ?_); refine zS ?_)
            | ((with_reducible refine CallK_id ?_); refine zcF ?_; refine ⟨_, by first | exact parseD k (by omega) i (by omega) | exact check_ok' (deepE k) (by omega) | exact depth_ok (deepE k) (by omega) | exact depth_ok (parseR (textD (k + 1))).1 (parse_sz k hk) | exact kids_ok | fail, fun _ => rfl, fun _ => rfl, rfl, ?_⟩; try refine zS ?_)
            | ((with_reducible refine awp_label ?_); try refine zS ?_)
            | ((with_reducible refine awp_goto ?_); try refine zS ?_)
            | ((with_reducible refine awp_scope0 ?_); try refine zS ?_)
            | exact True.intro
            | fail
  all_goals try (exact ⟨i + 1, by omega, by omega, wk_cl 1 (by decide) (by simp) (by simp only [go_sem, Bool.not_not, List.mem_singleton, forall_eq, ↓reduceIte, if_pos, rowsAt_map, wrap64, wrapu8, List.getElem?_cons_zero, List.getElem?_cons_succ, Int.reduceToNat, Nat.reduceAdd, Nat.reduceBEq, Bool.or_false, Bool.false_or, Bool.true_or, Nat.reduceSub, Nat.reduceMul, Int.reduceAdd, Int.reduceEq, Int.reduceLT, Int.reduceLE, Int.reduceNeg, Nat.reduceLT, Nat.reduceLeDiff, Nat.reduceEqDiff, rep, List.append_assoc]; first | done | rfl | (simp; done)) (by simp only [go_sem, Bool.not_not, List.mem_singleton, forall_eq, ↓reduceIte, if_pos, rowsAt_map, wrap64, wrapu8, List.getElem?_cons_zero, List.getElem?_cons_succ, Int.reduceToNat, Nat.reduceAdd, Nat.reduceBEq, Bool.or_false, Bool.false_or, Bool.true_or, Nat.reduceSub, Nat.reduceMul, Int.reduceAdd, Int.reduceEq, Int.reduceLT, Int.reduceLE, Int.reduceNeg, Nat.reduceLT, Nat.reduceLeDiff, Nat.reduceEqDiff])⟩)
  all_goals first
    | rfl
    | (exfalso
       by_cases h24 : 24 < k + 1
       · obtain ⟨c1, c2, c3, c4⟩ := chk_gt hk h24
         omega
       · obtain ⟨c1, c2, c3, c4⟩ := chk_le hk h24
         omega)
    | trace_state
theorem lawD_ok (n : Int) : AFn env 5 [aI n] [] (aB true) [] := by
  by_cases hn : n < 1 ∨ 60 < n
  · exact lawD_a n hn
  · obtain ⟨k, rfl⟩ : ∃ k : Nat, n = (k : Int) + 1 := ⟨(n - 1).toNat, by omega⟩
    exact lawD_b k (by omega)
end Go.Eng
