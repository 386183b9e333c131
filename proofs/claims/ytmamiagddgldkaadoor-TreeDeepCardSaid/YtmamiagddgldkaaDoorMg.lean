/- Each function of the program, walked over plain data: what it comes to, at all arguments. -/
import Derived.Test.YtmamiagddgldkaaDoorMf
open Go Go.Proofs Go.RowKit
namespace Go.Eng
set_option linter.unusedSimpArgs false
set_option linter.unusedVariables false
set_option maxRecDepth 100000
set_option maxHeartbeats 8000000
theorem fin_handN {E : Env} {rs : List ResultVar} {l : List A} {T : List A} {H H' : Heap} {m : Nat} {r : A} (h1 : resA E T H rs = some l) (h2 : Wk m [oneRes l] H [r] H') : Fin E rs r H' m .normal T H := ⟨l, h1, h2⟩
theorem top_ok2 (rs : List (List D)) (n N : Nat) (ty : Option TypeId) (hn : rs.length = N) (hN : n < N) (hl : n < 1000000) (h4 : (rowsAt rs n).length = 4) : AFn env 35 [.c (.own 0 0 (n + 1) N)] [some (.rows 4 rs ty)] (.c (.ptr 0 n 0 N)) [some (.rows 4 rs ty)] := by
  have e : (((n + 1 : Nat) : Int) - 1) = (n : Int) := by omega
  refine afn_body Tryd.func35 rfl (by decide) ?_
  simp only [Tryd.ntmps35, Tryd.results35, List.length_cons, List.length_nil, List.cons_append, List.nil_append, Nat.reduceAdd, Nat.reduceSub, List.replicate]
  repeat' first
  | with_reducible refine awp_seq ?_
  | ((with_reducible refine awp_region ?_); simp (maxSteps := 500000) (disch := omega) only [go_sem, Bool.not_not, List.mem_singleton, forall_eq, ↓reduceIte, if_pos, rowsAt_map, wrap64, wrapu8, List.getElem?_cons_zero, List.getElem?_cons_succ, Int.reduceToNat, Nat.reduceAdd, Nat.reduceBEq, Bool.or_false, Bool.false_or, Bool.true_or, Nat.reduceSub, Nat.reduceMul, Int.reduceAdd, Int.reduceEq, Int.reduceLT, Int.reduceLE, Int.reduceNeg, Nat.reduceLT, Nat.reduceLeDiff, Nat.reduceEqDiff, e, hn])
  | ((with_reducible refine Gd_nd ?_ ?_) <;> intro hb hb2 <;> first | contradiction | (exfalso; omega) | (simp (maxSteps := 500000) (disch := omega) only [go_sem, Bool.not_not, List.mem_singleton, forall_eq, ↓reduceIte, if_pos, rowsAt_map, wrap64, wrapu8, List.getElem?_cons_zero, List.getElem?_cons_succ, Int.reduceToNat, Nat.reduceAdd, Nat.reduceBEq, Bool.or_false, Bool.false_or, Bool.true_or, Nat.reduceSub, Nat.reduceMul, Int.reduceAdd, Int.reduceEq, Int.reduceLT, Int.reduceLE, Int.reduceNeg, Nat.reduceLT, Nat.reduceLeDiff, Nat.reduceEqDiff, e, hn, hb2]; try clear hb2))
  | ((with_reducible refine Gd_nb ?_ ?_) <;> intro hb <;> first | contradiction | simp (maxSteps := 500000) (disch := omega) only [go_sem, Bool.not_not, List.mem_singleton, forall_eq, ↓reduceIte, if_pos, rowsAt_map, wrap64, wrapu8, List.getElem?_cons_zero, List.getElem?_cons_succ, Int.reduceToNat, Nat.reduceAdd, Nat.reduceBEq, Bool.or_false, Bool.false_or, Bool.true_or, Nat.reduceSub, Nat.reduceMul, Int.reduceAdd, Int.reduceEq, Int.reduceLT, Int.reduceLE, Int.reduceNeg, Nat.reduceLT, Nat.reduceLeDiff, Nat.reduceEqDiff, e, hn, hb])
  | ((with_reducible refine Gd_d ?_ ?_) <;> intro hb hb2 <;> first | contradiction | (exfalso; omega) | (simp (maxSteps := 500000) (disch := omega) only [go_sem, Bool.not_not, List.mem_singleton, forall_eq, ↓reduceIte, if_pos, rowsAt_map, wrap64, wrapu8, List.getElem?_cons_zero, List.getElem?_cons_succ, Int.reduceToNat, Nat.reduceAdd, Nat.reduceBEq, Bool.or_false, Bool.false_or, Bool.true_or, Nat.reduceSub, Nat.reduceMul, Int.reduceAdd, Int.reduceEq, Int.reduceLT, Int.reduceLE, Int.reduceNeg, Nat.reduceLT, Nat.reduceLeDiff, Nat.reduceEqDiff, e, hn, hb2]; try clear hb2))
  | ((with_reducible refine Gd_b ?_ ?_) <;> intro hb <;> first | contradiction | simp (maxSteps := 500000) (disch := omega) only [go_sem, Bool.not_not, List.mem_singleton, forall_eq, ↓reduceIte, if_pos, rowsAt_map, wrap64, wrapu8, List.getElem?_cons_zero, List.getElem?_cons_succ, Int.reduceToNat, Nat.reduceAdd, Nat.reduceBEq, Bool.or_false, Bool.false_or, Bool.true_or, Nat.reduceSub, Nat.reduceMul, Int.reduceAdd, Int.reduceEq, Int.reduceLT, Int.reduceLE, Int.reduceNeg, Nat.reduceLT, Nat.reduceLeDiff, Nat.reduceEqDiff, e, hn, hb])
  | ((with_reducible refine Res_id ?_); simp (maxSteps := 500000) (disch := omega) only [go_sem, Bool.not_not, List.mem_singleton, forall_eq, ↓reduceIte, if_pos, rowsAt_map, wrap64, wrapu8, List.getElem?_cons_zero, List.getElem?_cons_succ, Int.reduceToNat, Nat.reduceAdd, Nat.reduceBEq, Bool.or_false, Bool.false_or, Bool.true_or, Nat.reduceSub, Nat.reduceMul, Int.reduceAdd, Int.reduceEq, Int.reduceLT, Int.reduceLE, Int.reduceNeg, Nat.reduceLT, Nat.reduceLeDiff, Nat.reduceEqDiff, e, hn])
  | ((with_reducible refine awp_drawnC ?_ ?_); rfl; simp (maxSteps := 500000) (disch := omega) only [go_sem, Bool.not_not, List.mem_singleton, forall_eq, ↓reduceIte, if_pos, rowsAt_map, wrap64, wrapu8, List.getElem?_cons_zero, List.getElem?_cons_succ, Int.reduceToNat, Nat.reduceAdd, Nat.reduceBEq, Bool.or_false, Bool.false_or, Bool.true_or, Nat.reduceSub, Nat.reduceMul, Int.reduceAdd, Int.reduceEq, Int.reduceLT, Int.reduceLE, Int.reduceNeg, Nat.reduceLT, Nat.reduceLeDiff, Nat.reduceEqDiff, e, hn])
  | ((with_reducible refine awp_drawnA ?_ ?_); rfl; simp (maxSteps := 500000) (disch := omega) only [go_sem, Bool.not_not, List.mem_singleton, forall_eq, ↓reduceIte, if_pos, rowsAt_map, wrap64, wrapu8, List.getElem?_cons_zero, List.getElem?_cons_succ, Int.reduceToNat, Nat.reduceAdd, Nat.reduceBEq, Bool.or_false, Bool.false_or, Bool.true_or, Nat.reduceSub, Nat.reduceMul, Int.reduceAdd, Int.reduceEq, Int.reduceLT, Int.reduceLE, Int.reduceNeg, Nat.reduceLT, Nat.reduceLeDiff, Nat.reduceEqDiff, e, hn])
  | ((with_reducible refine CGd_nd ?_ ?_) <;> intro hb hb2 <;> first | contradiction | (exfalso; omega) | (simp (maxSteps := 500000) (disch := omega) only [go_sem, Bool.not_not, List.mem_singleton, forall_eq, ↓reduceIte, if_pos, rowsAt_map, wrap64, wrapu8, List.getElem?_cons_zero, List.getElem?_cons_succ, Int.reduceToNat, Nat.reduceAdd, Nat.reduceBEq, Bool.or_false, Bool.false_or, Bool.true_or, Nat.reduceSub, Nat.reduceMul, Int.reduceAdd, Int.reduceEq, Int.reduceLT, Int.reduceLE, Int.reduceNeg, Nat.reduceLT, Nat.reduceLeDiff, Nat.reduceEqDiff, e, hn, hb2]; try clear hb2))
  | ((with_reducible refine CGd_nb ?_ ?_) <;> intro hb <;> first | contradiction | simp (maxSteps := 500000) (disch := omega) only [go_sem, Bool.not_not, List.mem_singleton, forall_eq, ↓reduceIte, if_pos, rowsAt_map, wrap64, wrapu8, List.getElem?_cons_zero, List.getElem?_cons_succ, Int.reduceToNat, Nat.reduceAdd, Nat.reduceBEq, Bool.or_false, Bool.false_or, Bool.true_or, Nat.reduceSub, Nat.reduceMul, Int.reduceAdd, Int.reduceEq, Int.reduceLT, Int.reduceLE, Int.reduceNeg, Nat.reduceLT, Nat.reduceLeDiff, Nat.reduceEqDiff, e, hn, hb])
  | ((with_reducible refine CGd_d ?_ ?_) <;> intro hb hb2 <;> first | contradiction | (exfalso; omega) | (simp (maxSteps := 500000) (disch := omega) only [go_sem, Bool.not_not, List.mem_singleton, forall_eq, ↓reduceIte, if_pos, rowsAt_map, wrap64, wrapu8, List.getElem?_cons_zero, List.getElem?_cons_succ, Int.reduceToNat, Nat.reduceAdd, Nat.reduceBEq, Bool.or_false, Bool.false_or, Bool.true_or, Nat.reduceSub, Nat.reduceMul, Int.reduceAdd, Int.reduceEq, Int.reduceLT, Int.reduceLE, Int.reduceNeg, Nat.reduceLT, Nat.reduceLeDiff, Nat.reduceEqDiff, e, hn, hb2]; try clear hb2))
  | ((with_reducible refine CGd_b ?_ ?_) <;> intro hb <;> first | contradiction | simp (maxSteps := 500000) (disch := omega) only [go_sem, Bool.not_not, List.mem_singleton, forall_eq, ↓reduceIte, if_pos, rowsAt_map, wrap64, wrapu8, List.getElem?_cons_zero, List.getElem?_cons_succ, Int.reduceToNat, Nat.reduceAdd, Nat.reduceBEq, Bool.or_false, Bool.false_or, Bool.true_or, Nat.reduceSub, Nat.reduceMul, Int.reduceAdd, Int.reduceEq, Int.reduceLT, Int.reduceLE, Int.reduceNeg, Nat.reduceLT, Nat.reduceLeDiff, Nat.reduceEqDiff, e, hn, hb])
  | ((with_reducible refine CRes_id ?_); simp (maxSteps := 500000) (disch := omega) only [go_sem, Bool.not_not, List.mem_singleton, forall_eq, ↓reduceIte, if_pos, rowsAt_map, wrap64, wrapu8, List.getElem?_cons_zero, List.getElem?_cons_succ, Int.reduceToNat, Nat.reduceAdd, Nat.reduceBEq, Bool.or_false, Bool.false_or, Bool.true_or, Nat.reduceSub, Nat.reduceMul, Int.reduceAdd, Int.reduceEq, Int.reduceLT, Int.reduceLE, Int.reduceNeg, Nat.reduceLT, Nat.reduceLeDiff, Nat.reduceEqDiff, e, hn])
  | ((with_reducible refine DStep_id ?_); refine dcallP ⟨_, rfl⟩ rfl (by simp (maxSteps := 500000) (disch := omega) only [go_sem, Bool.not_not, List.mem_singleton, forall_eq, ↓reduceIte, if_pos, rowsAt_map, wrap64, wrapu8, List.getElem?_cons_zero, List.getElem?_cons_succ, Int.reduceToNat, Nat.reduceAdd, Nat.reduceBEq, Bool.or_false, Bool.false_or, Bool.true_or, Nat.reduceSub, Nat.reduceMul, Int.reduceAdd, Int.reduceEq, Int.reduceLT, Int.reduceLE, Int.reduceNeg, Nat.reduceLT, Nat.reduceLeDiff, Nat.reduceEqDiff, e, hn]; first | done | rfl | fail) ?_; refine ⟨_, by first | fail | fail, ?_⟩; refine ⟨fun _ => rfl, fun _ => rfl, rfl, (fun h => by first | cases h | fail), ?_⟩; try simp (maxSteps := 500000) (disch := omega) only [go_sem, Bool.not_not, List.mem_singleton, forall_eq, ↓reduceIte, if_pos, rowsAt_map, wrap64, wrapu8, List.getElem?_cons_zero, List.getElem?_cons_succ, Int.reduceToNat, Nat.reduceAdd, Nat.reduceBEq, Bool.or_false, Bool.false_or, Bool.true_or, Nat.reduceSub, Nat.reduceMul, Int.reduceAdd, Int.reduceEq, Int.reduceLT, Int.reduceLE, Int.reduceNeg, Nat.reduceLT, Nat.reduceLeDiff, Nat.reduceEqDiff, e, hn])
  | ((with_reducible refine DStep_id ?_); refine dcallPw ⟨_, rfl⟩ rfl (by simp (maxSteps := 500000) (disch := omega) only [go_sem, Bool.not_not, List.mem_singleton, forall_eq, ↓reduceIte, if_pos, rowsAt_map, wrap64, wrapu8, List.getElem?_cons_zero, List.getElem?_cons_succ, Int.reduceToNat, Nat.reduceAdd, Nat.reduceBEq, Bool.or_false, Bool.false_or, Bool.true_or, Nat.reduceSub, Nat.reduceMul, Int.reduceAdd, Int.reduceEq, Int.reduceLT, Int.reduceLE, Int.reduceNeg, Nat.reduceLT, Nat.reduceLeDiff, Nat.reduceEqDiff, e, hn]; first | done | rfl | fail) ?_; refine ⟨_, by first | fail | fail, ?_⟩; refine ⟨fun _ => rfl, fun _ => rfl, rfl, ?_⟩; try simp (maxSteps := 500000) (disch := omega) only [go_sem, Bool.not_not, List.mem_singleton, forall_eq, ↓reduceIte, if_pos, rowsAt_map, wrap64, wrapu8, List.getElem?_cons_zero, List.getElem?_cons_succ, Int.reduceToNat, Nat.reduceAdd, Nat.reduceBEq, Bool.or_false, Bool.false_or, Bool.true_or, Nat.reduceSub, Nat.reduceMul, Int.reduceAdd, Int.reduceEq, Int.reduceLT, Int.reduceLE, Int.reduceNeg, Nat.reduceLT, Nat.reduceLeDiff, Nat.reduceEqDiff, e, hn])
  | ((with_reducible refine AWP_c ?_); refine awp_cond_t (by simp (maxSteps := 500000) (disch := omega) only [go_sem, Bool.not_not, List.mem_singleton, forall_eq, ↓reduceIte, if_pos, rowsAt_map, wrap64, wrapu8, List.getElem?_cons_zero, List.getElem?_cons_succ, Int.reduceToNat, Nat.reduceAdd, Nat.reduceBEq, Bool.or_false, Bool.false_or, Bool.true_or, Nat.reduceSub, Nat.reduceMul, Int.reduceAdd, Int.reduceEq, Int.reduceLT, Int.reduceLE, Int.reduceNeg, Nat.reduceLT, Nat.reduceLeDiff, Nat.reduceEqDiff, e, hn]; first | done | fail) ?_)
  | ((with_reducible refine AWP_c ?_); refine awp_cond_f (by simp (maxSteps := 500000) (disch := omega) only [go_sem, Bool.not_not, List.mem_singleton, forall_eq, ↓reduceIte, if_pos, rowsAt_map, wrap64, wrapu8, List.getElem?_cons_zero, List.getElem?_cons_succ, Int.reduceToNat, Nat.reduceAdd, Nat.reduceBEq, Bool.or_false, Bool.false_or, Bool.true_or, Nat.reduceSub, Nat.reduceMul, Int.reduceAdd, Int.reduceEq, Int.reduceLT, Int.reduceLE, Int.reduceNeg, Nat.reduceLT, Nat.reduceLeDiff, Nat.reduceEqDiff, e, hn]; first | done | fail) ?_)
  | ((with_reducible refine AWP_c ?_); refine cond_nd (by simp (maxSteps := 500000) (disch := omega) only [go_sem, Bool.not_not, List.mem_singleton, forall_eq, ↓reduceIte, if_pos, rowsAt_map, wrap64, wrapu8, List.getElem?_cons_zero, List.getElem?_cons_succ, Int.reduceToNat, Nat.reduceAdd, Nat.reduceBEq, Bool.or_false, Bool.false_or, Bool.true_or, Nat.reduceSub, Nat.reduceMul, Int.reduceAdd, Int.reduceEq, Int.reduceLT, Int.reduceLE, Int.reduceNeg, Nat.reduceLT, Nat.reduceLeDiff, Nat.reduceEqDiff, e, hn]; first | done | rfl) ?_ ?_ <;> intro hb hb2 <;> first | contradiction | (exfalso; omega) | ((try simp (maxSteps := 500000) (disch := omega) only [go_sem, Bool.not_not, List.mem_singleton, forall_eq, ↓reduceIte, if_pos, rowsAt_map, wrap64, wrapu8, List.getElem?_cons_zero, List.getElem?_cons_succ, Int.reduceToNat, Nat.reduceAdd, Nat.reduceBEq, Bool.or_false, Bool.false_or, Bool.true_or, Nat.reduceSub, Nat.reduceMul, Int.reduceAdd, Int.reduceEq, Int.reduceLT, Int.reduceLE, Int.reduceNeg, Nat.reduceLT, Nat.reduceLeDiff, Nat.reduceEqDiff, e, hn, hb2]); try clear hb2))
  | ((with_reducible refine AWP_c ?_); refine cond_d (by simp (maxSteps := 500000) (disch := omega) only [go_sem, Bool.not_not, List.mem_singleton, forall_eq, ↓reduceIte, if_pos, rowsAt_map, wrap64, wrapu8, List.getElem?_cons_zero, List.getElem?_cons_succ, Int.reduceToNat, Nat.reduceAdd, Nat.reduceBEq, Bool.or_false, Bool.false_or, Bool.true_or, Nat.reduceSub, Nat.reduceMul, Int.reduceAdd, Int.reduceEq, Int.reduceLT, Int.reduceLE, Int.reduceNeg, Nat.reduceLT, Nat.reduceLeDiff, Nat.reduceEqDiff, e, hn]; first | done | rfl) ?_ ?_ <;> intro hb hb2 <;> first | contradiction | (exfalso; omega) | ((try simp (maxSteps := 500000) (disch := omega) only [go_sem, Bool.not_not, List.mem_singleton, forall_eq, ↓reduceIte, if_pos, rowsAt_map, wrap64, wrapu8, List.getElem?_cons_zero, List.getElem?_cons_succ, Int.reduceToNat, Nat.reduceAdd, Nat.reduceBEq, Bool.or_false, Bool.false_or, Bool.true_or, Nat.reduceSub, Nat.reduceMul, Int.reduceAdd, Int.reduceEq, Int.reduceLT, Int.reduceLE, Int.reduceNeg, Nat.reduceLT, Nat.reduceLeDiff, Nat.reduceEqDiff, e, hn, hb2]); try clear hb2))
  | ((with_reducible refine AWP_c ?_); refine cond_nb (by simp (maxSteps := 500000) (disch := omega) only [go_sem, Bool.not_not, List.mem_singleton, forall_eq, ↓reduceIte, if_pos, rowsAt_map, wrap64, wrapu8, List.getElem?_cons_zero, List.getElem?_cons_succ, Int.reduceToNat, Nat.reduceAdd, Nat.reduceBEq, Bool.or_false, Bool.false_or, Bool.true_or, Nat.reduceSub, Nat.reduceMul, Int.reduceAdd, Int.reduceEq, Int.reduceLT, Int.reduceLE, Int.reduceNeg, Nat.reduceLT, Nat.reduceLeDiff, Nat.reduceEqDiff, e, hn]; first | done | rfl) ?_ ?_ <;> intro hb <;> first | contradiction | (try simp (maxSteps := 500000) (disch := omega) only [go_sem, Bool.not_not, List.mem_singleton, forall_eq, ↓reduceIte, if_pos, rowsAt_map, wrap64, wrapu8, List.getElem?_cons_zero, List.getElem?_cons_succ, Int.reduceToNat, Nat.reduceAdd, Nat.reduceBEq, Bool.or_false, Bool.false_or, Bool.true_or, Nat.reduceSub, Nat.reduceMul, Int.reduceAdd, Int.reduceEq, Int.reduceLT, Int.reduceLE, Int.reduceNeg, Nat.reduceLT, Nat.reduceLeDiff, Nat.reduceEqDiff, e, hn, hb]))
  | ((with_reducible refine AWP_c ?_); refine awp_cond (by simp (maxSteps := 500000) (disch := omega) only [go_sem, Bool.not_not, List.mem_singleton, forall_eq, ↓reduceIte, if_pos, rowsAt_map, wrap64, wrapu8, List.getElem?_cons_zero, List.getElem?_cons_succ, Int.reduceToNat, Nat.reduceAdd, Nat.reduceBEq, Bool.or_false, Bool.false_or, Bool.true_or, Nat.reduceSub, Nat.reduceMul, Int.reduceAdd, Int.reduceEq, Int.reduceLT, Int.reduceLE, Int.reduceNeg, Nat.reduceLT, Nat.reduceLeDiff, Nat.reduceEqDiff, e, hn]; first | done | rfl) ?_ ?_ <;> intro hb <;> first | contradiction | (try simp (maxSteps := 500000) (disch := omega) only [go_sem, Bool.not_not, List.mem_singleton, forall_eq, ↓reduceIte, if_pos, rowsAt_map, wrap64, wrapu8, List.getElem?_cons_zero, List.getElem?_cons_succ, Int.reduceToNat, Nat.reduceAdd, Nat.reduceBEq, Bool.or_false, Bool.false_or, Bool.true_or, Nat.reduceSub, Nat.reduceMul, Int.reduceAdd, Int.reduceEq, Int.reduceLT, Int.reduceLE, Int.reduceNeg, Nat.reduceLT, Nat.reduceLeDiff, Nat.reduceEqDiff, e, hn, hb]))
  | ((with_reducible refine awp_skip ?_); simp (maxSteps := 500000) (disch := omega) only [go_sem, Bool.not_not, List.mem_singleton, forall_eq, ↓reduceIte, if_pos, rowsAt_map, wrap64, wrapu8, List.getElem?_cons_zero, List.getElem?_cons_succ, Int.reduceToNat, Nat.reduceAdd, Nat.reduceBEq, Bool.or_false, Bool.false_or, Bool.true_or, Nat.reduceSub, Nat.reduceMul, Int.reduceAdd, Int.reduceEq, Int.reduceLT, Int.reduceLE, Int.reduceNeg, Nat.reduceLT, Nat.reduceLeDiff, Nat.reduceEqDiff, e, hn])
  | with_reducible refine awp_block ?_
  | ((with_reducible refine awp_exit ?_); simp (maxSteps := 500000) (disch := omega) only [go_sem, Bool.not_not, List.mem_singleton, forall_eq, ↓reduceIte, if_pos, rowsAt_map, wrap64, wrapu8, List.getElem?_cons_zero, List.getElem?_cons_succ, Int.reduceToNat, Nat.reduceAdd, Nat.reduceBEq, Bool.or_false, Bool.false_or, Bool.true_or, Nat.reduceSub, Nat.reduceMul, Int.reduceAdd, Int.reduceEq, Int.reduceLT, Int.reduceLE, Int.reduceNeg, Nat.reduceLT, Nat.reduceLeDiff, Nat.reduceEqDiff, e, hn])
  | ((with_reducible refine CallK_id ?_); refine callF ⟨_, rfl⟩ rfl (by simp (maxSteps := 500000) (disch := omega) only [go_sem, Bool.not_not, List.mem_singleton, forall_eq, ↓reduceIte, if_pos, rowsAt_map, wrap64, wrapu8, List.getElem?_cons_zero, List.getElem?_cons_succ, Int.reduceToNat, Nat.reduceAdd, Nat.reduceBEq, Bool.or_false, Bool.false_or, Bool.true_or, Nat.reduceSub, Nat.reduceMul, Int.reduceAdd, Int.reduceEq, Int.reduceLT, Int.reduceLE, Int.reduceNeg, Nat.reduceLT, Nat.reduceLeDiff, Nat.reduceEqDiff, e, hn]; first | done | rfl | fail) ?_; refine ⟨_, by first | fail | fail, ?_⟩; refine ⟨fun _ => rfl, fun _ => rfl, rfl, ?_⟩; try simp (maxSteps := 500000) (disch := omega) only [go_sem, Bool.not_not, List.mem_singleton, forall_eq, ↓reduceIte, if_pos, rowsAt_map, wrap64, wrapu8, List.getElem?_cons_zero, List.getElem?_cons_succ, Int.reduceToNat, Nat.reduceAdd, Nat.reduceBEq, Bool.or_false, Bool.false_or, Bool.true_or, Nat.reduceSub, Nat.reduceMul, Int.reduceAdd, Int.reduceEq, Int.reduceLT, Int.reduceLE, Int.reduceNeg, Nat.reduceLT, Nat.reduceLeDiff, Nat.reduceEqDiff, e, hn])
  | fail
  refine awp_ret (fin_hand (by first | rfl | (simp only [go_sem, Bool.not_not, List.mem_singleton, forall_eq, ↓reduceIte, if_pos, rowsAt_map, wrap64, wrapu8, List.getElem?_cons_zero, List.getElem?_cons_succ, Int.reduceToNat, Nat.reduceAdd, Nat.reduceBEq, Bool.or_false, Bool.false_or, Bool.true_or, Nat.reduceSub, Nat.reduceMul, Int.reduceAdd, Int.reduceEq, Int.reduceLT, Int.reduceLE, Int.reduceNeg, Nat.reduceLT, Nat.reduceLeDiff, Nat.reduceEqDiff]; rfl)) ?_)
  refine zT ?_
  exact zwl
theorem rws_cellG {w : World} {F : Nat → Prop} {rws : List RW} {rs : List (List D)} {cell : Nat → Nat → Value} (hc : ∀ (i c : Nat) r d, rs[i]? = some r → r[c]? = some d → DR w F d (cell i c) ∧ one (cell i c) = true) (hrs : ∀ (i : Nat) r, rws[i]? = some r → rs[i]? = some r.row) :
    ∀ (i c : Nat) r u, rws[i]? = some r → r.cells[c]? = some u → u = cell i c ∧ ∃ r' d, rs[i]? = some r' ∧ r'[c]? = some d := by
  intro i c r u hr hu
  have hr' : rs[i]? = some r.row := hrs i r hr
  match c, hu with
  | 0, hu => cases hu; exact ⟨((hc i 0 _ _ hr' rfl).1.sc_eq).symm, _, _, hr', rfl⟩
  | 1, hu => cases hu; exact ⟨((hc i 1 _ _ hr' rfl).1.sc_eq).symm, _, _, hr', rfl⟩
  | 2, hu => cases hu; exact ⟨((hc i 2 _ _ hr' rfl).1.sc_eq).symm, _, _, hr', rfl⟩
  | 3, hu => cases hu; exact ⟨((hc i 3 _ _ hr' rfl).1.sc_eq).symm, _, _, hr', rfl⟩
def put1 (os : List OE) (e : El) : List OE × Option El := match os.getLast? with
  | none => ([], some e)
  | some t => (os.dropLast ++ [{ t with kids := t.kids ++ [e] }], none)
theorem put_nil (e : El) (rows : List (List D)) (hr : rows.length = 1) : AFn env 37 [P0, e.a] [some (.box [.own 1 0 0 1, wC none]), some (.rows 4 rows), some (.raw (kidsR [] []))] (.tup []) [some (.raw (parR [] (some e))), none, none] := by
  simp only [wC]
  refine afn_body Tryd.func37 rfl (by decide) ?_
  simp only [Tryd.ntmps37, Tryd.results37, List.length_cons, List.length_nil, List.cons_append, List.nil_append, Nat.reduceAdd, Nat.reduceSub, List.replicate]
  repeat' first
  | with_reducible refine awp_seq ?_
  | ((with_reducible refine awp_region ?_); refine zS ?_)
  | ((with_reducible refine Gd_nd ?_ ?_) <;> intro hb hb2 <;> first | contradiction | (exfalso; omega) | (refine zH hb2 ?_; try clear hb2))
  | ((with_reducible refine Gd_nb ?_ ?_) <;> intro hb <;> first | contradiction | refine zH hb ?_)
  | ((with_reducible refine Gd_d ?_ ?_) <;> intro hb hb2 <;> first | contradiction | (exfalso; omega) | (refine zH hb2 ?_; try clear hb2))
  | ((with_reducible refine Gd_b ?_ ?_) <;> intro hb <;> first | contradiction | refine zH hb ?_)
  | ((with_reducible refine Res_id ?_); refine zS ?_)
  | ((with_reducible refine awp_drawnC ?_ ?_); rfl; refine zS ?_)
  | ((with_reducible refine awp_drawnA ?_ ?_); rfl; refine zS ?_)
  | ((with_reducible refine CGd_nd ?_ ?_) <;> intro hb hb2 <;> first | contradiction | (exfalso; omega) | (refine zH hb2 ?_; try clear hb2))
  | ((with_reducible refine CGd_nb ?_ ?_) <;> intro hb <;> first | contradiction | refine zH hb ?_)
  | ((with_reducible refine CGd_d ?_ ?_) <;> intro hb hb2 <;> first | contradiction | (exfalso; omega) | (refine zH hb2 ?_; try clear hb2))
  | ((with_reducible refine CGd_b ?_ ?_) <;> intro hb <;> first | contradiction | refine zH hb ?_)
  | ((with_reducible refine CRes_id ?_); refine zS ?_)
  | ((with_reducible refine DStep_id ?_); refine zdP ?_; refine ⟨_, by first | fail | fail, fun _ => rfl, fun _ => rfl, rfl, (fun h => by first | cases h | fail), ?_⟩; try refine zS ?_)
  | ((with_reducible refine DStep_id ?_); refine zdW ?_; refine ⟨_, by first | fail | fail, fun _ => rfl, fun _ => rfl, rfl, ?_⟩; try refine zS ?_)
  | ((with_reducible refine AWP_c ?_); refine zcdT ?_)
  | ((with_reducible refine AWP_c ?_); refine zcdF ?_)
  | ((with_reducible refine AWP_c ?_); refine zcdN ?_ ?_ <;> intro hb hb2 <;> first | contradiction | (exfalso; omega) | ((try refine zH hb2 ?_); try clear hb2))
  | ((with_reducible refine AWP_c ?_); refine zcdD ?_ ?_ <;> intro hb hb2 <;> first | contradiction | (exfalso; omega) | ((try refine zH hb2 ?_); try clear hb2))
  | ((with_reducible refine AWP_c ?_); refine zcdM ?_ ?_ <;> intro hb <;> first | contradiction | (try refine zH hb ?_))
  | ((with_reducible refine AWP_c ?_); refine zcdB ?_ ?_ <;> intro hb <;> first | contradiction | (try refine zH hb ?_))
  | ((with_reducible refine awp_skip ?_); refine zS ?_)
  | with_reducible refine awp_block ?_
  | ((with_reducible refine awp_exit ?_); refine zS ?_)
  | ((with_reducible refine CallK_id ?_); refine zcF ?_; refine ⟨_, by first | fail | fail, fun _ => rfl, fun _ => rfl, rfl, ?_⟩; try refine zS ?_)
  | ((with_reducible refine awp_label ?_); try refine zS ?_)
  | ((with_reducible refine awp_goto ?_); try refine zS ?_)
  | ((with_reducible refine awp_scope0 ?_); try refine zS ?_)
  | exact True.intro
  | fail
  exact awp_ret (fin_put0 hr)
theorem put_cons (os0 : List OE) (q : OE) (e : El) (rws : List RW) (rows : List (List D)) (p : Nat) (hp : rws.length = p + 1) (ho : p = os0.length) (hr : rows.length = p + 2) (hrows : ∀ (i : Nat) r, rws[i]? = some r → rows[i]? = some r.row) (hl : p < 1000) (hk : q.kids.length < 1000000) :
    AFn env 37 [P0, e.a] [some (.box [.own 1 0 (p + 1) (p + 2), wC none]), some (.rows 4 rows), some (.raw (kidsR rws (os0 ++ [q])))] (.tup []) [some (.raw (parR (os0 ++ [{ q with kids := q.kids ++ [e] }]) none)), none, none] := by
  simp only [wC]
  have hrp : rowsAt rows p = (gt rws p).row := by
    have h1 := hrows p _ (gt_some (by omega))
    have h2 := rowsAt_get (rs := rows) (i := p) (by omega)
    rw [h1] at h2
    exact (Option.some.inj h2).symm
  refine afn_body Tryd.func37 rfl (by decide) ?_
  simp only [Tryd.ntmps37, Tryd.results37, List.length_cons, List.length_nil, List.cons_append, List.nil_append, Nat.reduceAdd, Nat.reduceSub, List.replicate]
  repeat' first
  | with_reducible refine awp_seq ?_
  | ((with_reducible refine awp_region ?_); refine zS ?_)
  | ((with_reducible refine Gd_nd ?_ ?_) <;> intro hb hb2 <;> first | contradiction | (exfalso; omega) | (refine zH hb2 ?_; try clear hb2))
  | ((with_reducible refine Gd_nb ?_ ?_) <;> intro hb <;> first | contradiction | refine zH hb ?_)
  | ((with_reducible refine Gd_d ?_ ?_) <;> intro hb hb2 <;> first | contradiction | (exfalso; omega) | (refine zH hb2 ?_; try clear hb2))
  | ((with_reducible refine Gd_b ?_ ?_) <;> intro hb <;> first | contradiction | refine zH hb ?_)
  | ((with_reducible refine Res_id ?_); refine zS ?_)
  | ((with_reducible refine awp_drawnC ?_ ?_); rfl; refine zS ?_)
  | ((with_reducible refine awp_drawnA ?_ ?_); rfl; refine zS ?_)
  | ((with_reducible refine CGd_nd ?_ ?_) <;> intro hb hb2 <;> first | contradiction | (exfalso; omega) | (refine zH hb2 ?_; try clear hb2))
  | ((with_reducible refine CGd_nb ?_ ?_) <;> intro hb <;> first | contradiction | refine zH hb ?_)
  | ((with_reducible refine CGd_d ?_ ?_) <;> intro hb hb2 <;> first | contradiction | (exfalso; omega) | (refine zH hb2 ?_; try clear hb2))
  | ((with_reducible refine CGd_b ?_ ?_) <;> intro hb <;> first | contradiction | refine zH hb ?_)
  | ((with_reducible refine CRes_id ?_); refine zS ?_)
  | ((with_reducible refine DStep_id ?_); refine zdP ?_; refine ⟨_, by first | fail | fail, fun _ => rfl, fun _ => rfl, rfl, (fun h => by first | cases h | fail), ?_⟩; try refine zS ?_)
  | ((with_reducible refine DStep_id ?_); refine zdW ?_; refine ⟨_, by first | fail | fail, fun _ => rfl, fun _ => rfl, rfl, ?_⟩; try refine zS ?_)
  | ((with_reducible refine AWP_c ?_); refine zcdT ?_)
  | ((with_reducible refine AWP_c ?_); refine zcdF ?_)
  | ((with_reducible refine AWP_c ?_); refine zcdN ?_ ?_ <;> intro hb hb2 <;> first | contradiction | (exfalso; omega) | ((try refine zH hb2 ?_); try clear hb2))
  | ((with_reducible refine AWP_c ?_); refine zcdD ?_ ?_ <;> intro hb hb2 <;> first | contradiction | (exfalso; omega) | ((try refine zH hb2 ?_); try clear hb2))
  | ((with_reducible refine AWP_c ?_); refine zcdM ?_ ?_ <;> intro hb <;> first | contradiction | (try refine zH hb ?_))
  | ((with_reducible refine AWP_c ?_); refine zcdB ?_ ?_ <;> intro hb <;> first | contradiction | (try refine zH hb ?_))
  | ((with_reducible refine awp_skip ?_); refine zS ?_)
  | with_reducible refine awp_block ?_
  | ((with_reducible refine awp_exit ?_); refine zS ?_)
  | ((with_reducible refine CallK_id ?_); refine zcF ?_; refine ⟨_, by first | fail | fail, fun _ => rfl, fun _ => rfl, rfl, ?_⟩; try refine zS ?_)
  | ((with_reducible refine awp_label ?_); try refine zS ?_)
  | ((with_reducible refine awp_goto ?_); try refine zS ?_)
  | ((with_reducible refine awp_scope0 ?_); try refine zS ?_)
  | exact True.intro
  | fail
  refine awp_drawN (Θ := KT) 15 18 2 (some 28) (fun θ => .c (.d (.sc (.slice θ.ka ((gt rws p).kn + 1) θ.kc)))) (fun θ => .raw (kidsR (kAdd rws p θ) (os0 ++ [{ q with kids := q.kids ++ [e] }])))
    (fun θ => [some (.box [.own 1 0 (p + 1) (p + 2), .d (.sc (.pointer none))]), some (.rows 4 (rows.set p [dS (gt rws p).name, .sc (gt rws p).av, .sc (.slice θ.ka ((gt rws p).kn + 1) θ.kc), dS (gt rws p).text])), some (.raw (kidsR (kAdd rws p θ) (os0 ++ [{ q with kids := q.kids ++ [e] }]))), some (.box e.bs)]) (by decide) rfl rfl rfl rfl (by simp) ?_
  refine gn_p (fun bb => by simp (disch := omega) only [go_sem, Bool.not_not, List.mem_singleton, forall_eq, ↓reduceIte, if_pos, rowsAt_map, wrap64, wrapu8, List.getElem?_cons_zero, List.getElem?_cons_succ, Int.reduceToNat, Nat.reduceAdd, Nat.reduceBEq, Bool.or_false, Bool.false_or, Bool.true_or, Nat.reduceSub, Nat.reduceMul, Int.reduceAdd, Int.reduceEq, Int.reduceLT, Int.reduceLE, Int.reduceNeg, Nat.reduceLT, Nat.reduceLeDiff, Nat.reduceEqDiff, hrp, hr, List.set_cons_succ, List.set_cons_zero]; rfl) rfl (by decide) ?_
  refine zT ?_
  refine gn_p (fun bb => by simp (disch := omega) only [go_sem, Bool.not_not, List.mem_singleton, forall_eq, ↓reduceIte, if_pos, rowsAt_map, wrap64, wrapu8, List.getElem?_cons_zero, List.getElem?_cons_succ, Int.reduceToNat, Nat.reduceAdd, Nat.reduceBEq, Bool.or_false, Bool.false_or, Bool.true_or, Nat.reduceSub, Nat.reduceMul, Int.reduceAdd, Int.reduceEq, Int.reduceLT, Int.reduceLE, Int.reduceNeg, Nat.reduceLT, Nat.reduceLeDiff, Nat.reduceEqDiff, hrp, hr, List.set_cons_succ, List.set_cons_zero]; rfl) rfl (by decide) ?_
  refine zT ?_
  refine gn_p (fun bb => by simp (disch := omega) only [go_sem, Bool.not_not, List.mem_singleton, forall_eq, ↓reduceIte, if_pos, rowsAt_map, wrap64, wrapu8, List.getElem?_cons_zero, List.getElem?_cons_succ, Int.reduceToNat, Nat.reduceAdd, Nat.reduceBEq, Bool.or_false, Bool.false_or, Bool.true_or, Nat.reduceSub, Nat.reduceMul, Int.reduceAdd, Int.reduceEq, Int.reduceLT, Int.reduceLE, Int.reduceNeg, Nat.reduceLT, Nat.reduceLeDiff, Nat.reduceEqDiff, hrp, hr, List.set_cons_succ, List.set_cons_zero]; rfl) rfl (by decide) ?_
  refine zT ?_
  refine gn_p (fun bb => by simp (disch := omega) only [go_sem, Bool.not_not, List.mem_singleton, forall_eq, ↓reduceIte, if_pos, rowsAt_map, wrap64, wrapu8, List.getElem?_cons_zero, List.getElem?_cons_succ, Int.reduceToNat, Nat.reduceAdd, Nat.reduceBEq, Bool.or_false, Bool.false_or, Bool.true_or, Nat.reduceSub, Nat.reduceMul, Int.reduceAdd, Int.reduceEq, Int.reduceLT, Int.reduceLE, Int.reduceNeg, Nat.reduceLT, Nat.reduceLeDiff, Nat.reduceEqDiff, hrp, hr, List.set_cons_succ, List.set_cons_zero]; rfl) rfl (by decide) ?_
  refine zT ?_
  refine gn_c [1] (top_ok2 rows p (p + 2) none hr (by omega) (by omega) (by rw [hrp]; rfl)) ⟨_, rfl⟩ rfl rfl rfl (fun bb => rfl) rfl rfl rfl (by decide) ?_
  refine zT ?_
  refine gn_p (fun bb => by simp (disch := omega) only [go_sem, Bool.not_not, List.mem_singleton, forall_eq, ↓reduceIte, if_pos, rowsAt_map, wrap64, wrapu8, List.getElem?_cons_zero, List.getElem?_cons_succ, Int.reduceToNat, Nat.reduceAdd, Nat.reduceBEq, Bool.or_false, Bool.false_or, Bool.true_or, Nat.reduceSub, Nat.reduceMul, Int.reduceAdd, Int.reduceEq, Int.reduceLT, Int.reduceLE, Int.reduceNeg, Nat.reduceLT, Nat.reduceLeDiff, Nat.reduceEqDiff, hrp, hr, List.set_cons_succ, List.set_cons_zero]; rfl) rfl (by decide) ?_
  refine zT ?_
  refine gn_p (fun bb => by simp (disch := omega) only [go_sem, Bool.not_not, List.mem_singleton, forall_eq, ↓reduceIte, if_pos, rowsAt_map, wrap64, wrapu8, List.getElem?_cons_zero, List.getElem?_cons_succ, Int.reduceToNat, Nat.reduceAdd, Nat.reduceBEq, Bool.or_false, Bool.false_or, Bool.true_or, Nat.reduceSub, Nat.reduceMul, Int.reduceAdd, Int.reduceEq, Int.reduceLT, Int.reduceLE, Int.reduceNeg, Nat.reduceLT, Nat.reduceLeDiff, Nat.reduceEqDiff, hrp, hr, List.set_cons_succ, List.set_cons_zero]; rfl) rfl (by decide) ?_
  refine zT ?_
  refine gn_p (fun bb => by simp (disch := omega) only [go_sem, Bool.not_not, List.mem_singleton, forall_eq, ↓reduceIte, if_pos, rowsAt_map, wrap64, wrapu8, List.getElem?_cons_zero, List.getElem?_cons_succ, Int.reduceToNat, Nat.reduceAdd, Nat.reduceBEq, Bool.or_false, Bool.false_or, Bool.true_or, Nat.reduceSub, Nat.reduceMul, Int.reduceAdd, Int.reduceEq, Int.reduceLT, Int.reduceLE, Int.reduceNeg, Nat.reduceLT, Nat.reduceLeDiff, Nat.reduceEqDiff, hrp, hr, List.set_cons_succ, List.set_cons_zero]; rfl) rfl (by decide) ?_
  refine zT ?_
  refine gn_p (fun bb => by simp (disch := omega) only [go_sem, Bool.not_not, List.mem_singleton, forall_eq, ↓reduceIte, if_pos, rowsAt_map, wrap64, wrapu8, List.getElem?_cons_zero, List.getElem?_cons_succ, Int.reduceToNat, Nat.reduceAdd, Nat.reduceBEq, Bool.or_false, Bool.false_or, Bool.true_or, Nat.reduceSub, Nat.reduceMul, Int.reduceAdd, Int.reduceEq, Int.reduceLT, Int.reduceLE, Int.reduceNeg, Nat.reduceLT, Nat.reduceLeDiff, Nat.reduceEqDiff, hrp, hr, List.set_cons_succ, List.set_cons_zero]; rfl) rfl (by decide) ?_
  refine zT ?_
  refine gn_c [1] (top_ok2 rows p (p + 2) none hr (by omega) (by omega) (by rw [hrp]; rfl)) ⟨_, rfl⟩ rfl rfl rfl (fun bb => rfl) rfl rfl rfl (by decide) ?_
  refine zT ?_
  refine gn_p (fun bb => by simp (disch := omega) only [go_sem, Bool.not_not, List.mem_singleton, forall_eq, ↓reduceIte, if_pos, rowsAt_map, wrap64, wrapu8, List.getElem?_cons_zero, List.getElem?_cons_succ, Int.reduceToNat, Nat.reduceAdd, Nat.reduceBEq, Bool.or_false, Bool.false_or, Bool.true_or, Nat.reduceSub, Nat.reduceMul, Int.reduceAdd, Int.reduceEq, Int.reduceLT, Int.reduceLE, Int.reduceNeg, Nat.reduceLT, Nat.reduceLeDiff, Nat.reduceEqDiff, hrp, hr, List.set_cons_succ, List.set_cons_zero]; rfl) rfl (by decide) ?_
  refine zT ?_
  refine gn_p (fun bb => by simp (disch := omega) only [go_sem, Bool.not_not, List.mem_singleton, forall_eq, ↓reduceIte, if_pos, rowsAt_map, wrap64, wrapu8, List.getElem?_cons_zero, List.getElem?_cons_succ, Int.reduceToNat, Nat.reduceAdd, Nat.reduceBEq, Bool.or_false, Bool.false_or, Bool.true_or, Nat.reduceSub, Nat.reduceMul, Int.reduceAdd, Int.reduceEq, Int.reduceLT, Int.reduceLE, Int.reduceNeg, Nat.reduceLT, Nat.reduceLeDiff, Nat.reduceEqDiff, hrp, hr, List.set_cons_succ, List.set_cons_zero]; rfl) rfl (by decide) ?_
  refine zT ?_
  refine gn_p (fun bb => by simp (disch := omega) only [go_sem, Bool.not_not, List.mem_singleton, forall_eq, ↓reduceIte, if_pos, rowsAt_map, wrap64, wrapu8, List.getElem?_cons_zero, List.getElem?_cons_succ, Int.reduceToNat, Nat.reduceAdd, Nat.reduceBEq, Bool.or_false, Bool.false_or, Bool.true_or, Nat.reduceSub, Nat.reduceMul, Int.reduceAdd, Int.reduceEq, Int.reduceLT, Int.reduceLE, Int.reduceNeg, Nat.reduceLT, Nat.reduceLeDiff, Nat.reduceEqDiff, hrp, hr, List.set_cons_succ, List.set_cons_zero]; rfl) rfl (by decide) ?_
  refine zT ?_
  refine gn_p (fun bb => by simp (disch := omega) only [go_sem, Bool.not_not, List.mem_singleton, forall_eq, ↓reduceIte, if_pos, rowsAt_map, wrap64, wrapu8, List.getElem?_cons_zero, List.getElem?_cons_succ, Int.reduceToNat, Nat.reduceAdd, Nat.reduceBEq, Bool.or_false, Bool.false_or, Bool.true_or, Nat.reduceSub, Nat.reduceMul, Int.reduceAdd, Int.reduceEq, Int.reduceLT, Int.reduceLE, Int.reduceNeg, Nat.reduceLT, Nat.reduceLeDiff, Nat.reduceEqDiff, hrp, hr, List.set_cons_succ, List.set_cons_zero]; rfl) rfl (by decide) ?_
  refine zT ?_
  refine gn_p (fun bb => by simp (disch := omega) only [go_sem, Bool.not_not, List.mem_singleton, forall_eq, ↓reduceIte, if_pos, rowsAt_map, wrap64, wrapu8, List.getElem?_cons_zero, List.getElem?_cons_succ, Int.reduceToNat, Nat.reduceAdd, Nat.reduceBEq, Bool.or_false, Bool.false_or, Bool.true_or, Nat.reduceSub, Nat.reduceMul, Int.reduceAdd, Int.reduceEq, Int.reduceLT, Int.reduceLE, Int.reduceNeg, Nat.reduceLT, Nat.reduceLeDiff, Nat.reduceEqDiff, hrp, hr, List.set_cons_succ, List.set_cons_zero]; rfl) rfl (by decide) ?_
  refine zT ?_
  refine gn_s rfl rfl (app_kid rfl rfl hp ho rfl (by rw [El.row_eq]; rfl) hk) ?_
  refine zT ?_
  refine gn_p (fun bb => by simp (disch := omega) only [go_sem, Bool.not_not, List.mem_singleton, forall_eq, ↓reduceIte, if_pos, rowsAt_map, wrap64, wrapu8, List.getElem?_cons_zero, List.getElem?_cons_succ, Int.reduceToNat, Nat.reduceAdd, Nat.reduceBEq, Bool.or_false, Bool.false_or, Bool.true_or, Nat.reduceSub, Nat.reduceMul, Int.reduceAdd, Int.reduceEq, Int.reduceLT, Int.reduceLE, Int.reduceNeg, Nat.reduceLT, Nat.reduceLeDiff, Nat.reduceEqDiff, hrp, hr, List.set_cons_succ, List.set_cons_zero]; rfl) rfl (by decide) ?_
  refine zT ?_
  refine gn_p (fun bb => by simp (disch := omega) only [go_sem, Bool.not_not, List.mem_singleton, forall_eq, ↓reduceIte, if_pos, rowsAt_map, wrap64, wrapu8, List.getElem?_cons_zero, List.getElem?_cons_succ, Int.reduceToNat, Nat.reduceAdd, Nat.reduceBEq, Bool.or_false, Bool.false_or, Bool.true_or, Nat.reduceSub, Nat.reduceMul, Int.reduceAdd, Int.reduceEq, Int.reduceLT, Int.reduceLE, Int.reduceNeg, Nat.reduceLT, Nat.reduceLeDiff, Nat.reduceEqDiff, hrp, hr, List.set_cons_succ, List.set_cons_zero]; rfl) rfl (by decide) ?_
  refine zT ?_
  refine gn_j rfl rfl (fun θ => ⟨Yld.y ?_, ?_⟩)
  · simp (disch := omega) only [go_sem, Bool.not_not, List.mem_singleton, forall_eq, ↓reduceIte, if_pos, rowsAt_map, wrap64, wrapu8, List.getElem?_cons_zero, List.getElem?_cons_succ, Int.reduceToNat, Nat.reduceAdd, Nat.reduceBEq, Bool.or_false, Bool.false_or, Bool.true_or, Nat.reduceSub, Nat.reduceMul, Int.reduceAdd, Int.reduceEq, Int.reduceLT, Int.reduceLE, Int.reduceNeg, Nat.reduceLT, Nat.reduceLeDiff, Nat.reduceEqDiff, hrp, hr, List.set_cons_succ, List.set_cons_zero]
    trace_state
  · simp (disch := omega) only [go_sem, Bool.not_not, List.mem_singleton, forall_eq, ↓reduceIte, if_pos, rowsAt_map, wrap64, wrapu8, List.getElem?_cons_zero, List.getElem?_cons_succ, Int.reduceToNat, Nat.reduceAdd, Nat.reduceBEq, Bool.or_false, Bool.false_or, Bool.true_or, Nat.reduceSub, Nat.reduceMul, Int.reduceAdd, Int.reduceEq, Int.reduceLT, Int.reduceLE, Int.reduceNeg, Nat.reduceLT, Nat.reduceLeDiff, Nat.reduceEqDiff, hrp, hr, List.set_cons_succ, List.set_cons_zero]
    have hlk : (kAdd rws p θ).length = p + 1 := by rw [kAdd, List.length_set, hp]
    refine fin_handN (l := []) rfl (wk_par (j := 2) (wh := none) (rws0 := kAdd rws p θ) (os0 := os0 ++ [{ q with kids := q.kids ++ [e] }]) (n := p + 1) (N := p + 2) scal_t rfl rfl (by rw [List.length_set, hr]) rfl (fun w F cell hc => ⟨kAdd rws p θ, hlk, rws_cellG hc (fun i r h => ?_), fun O' h => h⟩))
    unfold kAdd at h
    by_cases hi : p = i
    · subst hi
      rw [List.getElem?_set_self (by omega)] at h ⊢
      cases h; rfl
    · rw [List.getElem?_set_ne hi] at h ⊢
      exact hrows i r h
theorem put1_snoc (os0 : List OE) (q : OE) (e : El) : put1 (os0 ++ [q]) e = (os0 ++ [{ q with kids := q.kids ++ [e] }], none) := by simp [put1]
theorem put_ok (os : List OE) (e : El) (rws : List RW) (rows : List (List D)) (n : Nat) (hn : rws.length = n) (ho : os.length = n) (hr : rows.length = n + 1) (hrows : ∀ (i : Nat) r, rws[i]? = some r → rows[i]? = some r.row) (hl : n < 1000) (hk : ∀ q ∈ os, q.kids.length < 1000000) :
    AFn env 37 [P0, e.a] [some (.box [.own 1 0 n (n + 1), wC none]), some (.rows 4 rows), some (.raw (kidsR rws os))] (.tup []) [some (.raw (parR (put1 os e).1 (put1 os e).2)), none, none] := by
  rcases List.eq_nil_or_concat os with rfl | ⟨os0, q, h⟩
  · cases ho
    obtain rfl : rws = [] := List.length_eq_zero_iff.1 hn
    exact put_nil e rows hr
  · rw [List.concat_eq_append] at h
    subst h
    rw [put1_snoc]
    rw [List.length_append] at ho
    subst ho
    exact put_cons os0 q e rws rows os0.length hn rfl hr hrows (by simp at hl; omega) (hk q (by simp))
end Go.Eng
open Go Go.Proofs
namespace Go.Eng
set_option linter.unusedSimpArgs false
set_option linter.unusedVariables false
set_option maxRecDepth 100000
set_option maxHeartbeats 8000000
theorem awp_drawnS {E : Env} {T : List A} {H : Heap} {Q : Exit → List A → Heap → Prop} {m id : Nat} {ops : Array Oper} (fs : List Nat) (hrg : rgOk ops.toList (ops.toList.map fun o => wrOpF fs o.op) (ops.toList.map fun _ => false) = true)
    (h : COps E true [] (dsts ops.toList) ops.toList (ops.toList.map fun o => wrOpF fs o.op) (ops.toList.map fun _ => false) T H (Q .normal)) : AWP E (.region id ops true) T H Q m := awp_drawn _ hrg h
theorem push_ok (rs : List (List D)) (row : List D) (n : Nat) (wc : C) (hn : rs.length = n) (hl : n < 1000000) (hr : row.length = 4) (hw : okC 2 wc = true) :
    AFn env 36 [P0, .c (.d (.fz [row]))] [some (.box [.own 1 0 n n, wc]), some (.rows 4 rs)] (.tup []) [some (.box [.own 1 0 (n + 1) (n + 1), wc]), some (.rows 4 (rs ++ [row]))] := by
  have hrw : ∀ r, r ∈ [row] → r.length = 4 := by intro r h; rw [List.mem_singleton.1 h, hr]
  refine afn_body Tryd.func36 rfl (by decide) ?_
  simp only [Tryd.ntmps36, Tryd.results36, List.length_cons, List.length_nil, List.cons_append, List.nil_append, Nat.reduceAdd, Nat.reduceSub, List.replicate]
  repeat' first
  | with_reducible refine awp_seq ?_
  | ((with_reducible refine awp_region ?_); simp (maxSteps := 500000) (disch := omega) only [go_sem, Bool.not_not, List.mem_singleton, forall_eq, ↓reduceIte, if_pos, rowsAt_map, wrap64, wrapu8, List.getElem?_cons_zero, List.getElem?_cons_succ, Int.reduceToNat, Nat.reduceAdd, Nat.reduceBEq, Bool.or_false, Bool.false_or, Bool.true_or, Nat.reduceSub, Nat.reduceMul, Int.reduceAdd, Int.reduceEq, Int.reduceLT, Int.reduceLE, Int.reduceNeg, Nat.reduceLT, Nat.reduceLeDiff, Nat.reduceEqDiff, hn, hw, hr])
  | ((with_reducible refine Gd_nd ?_ ?_) <;> intro hb hb2 <;> first | contradiction | (exfalso; omega) | (simp (maxSteps := 500000) (disch := omega) only [go_sem, Bool.not_not, List.mem_singleton, forall_eq, ↓reduceIte, if_pos, rowsAt_map, wrap64, wrapu8, List.getElem?_cons_zero, List.getElem?_cons_succ, Int.reduceToNat, Nat.reduceAdd, Nat.reduceBEq, Bool.or_false, Bool.false_or, Bool.true_or, Nat.reduceSub, Nat.reduceMul, Int.reduceAdd, Int.reduceEq, Int.reduceLT, Int.reduceLE, Int.reduceNeg, Nat.reduceLT, Nat.reduceLeDiff, Nat.reduceEqDiff, hn, hw, hr, hb2]; try clear hb2))
  | ((with_reducible refine Gd_nb ?_ ?_) <;> intro hb <;> first | contradiction | simp (maxSteps := 500000) (disch := omega) only [go_sem, Bool.not_not, List.mem_singleton, forall_eq, ↓reduceIte, if_pos, rowsAt_map, wrap64, wrapu8, List.getElem?_cons_zero, List.getElem?_cons_succ, Int.reduceToNat, Nat.reduceAdd, Nat.reduceBEq, Bool.or_false, Bool.false_or, Bool.true_or, Nat.reduceSub, Nat.reduceMul, Int.reduceAdd, Int.reduceEq, Int.reduceLT, Int.reduceLE, Int.reduceNeg, Nat.reduceLT, Nat.reduceLeDiff, Nat.reduceEqDiff, hn, hw, hr, hb])
  | ((with_reducible refine Gd_d ?_ ?_) <;> intro hb hb2 <;> first | contradiction | (exfalso; omega) | (simp (maxSteps := 500000) (disch := omega) only [go_sem, Bool.not_not, List.mem_singleton, forall_eq, ↓reduceIte, if_pos, rowsAt_map, wrap64, wrapu8, List.getElem?_cons_zero, List.getElem?_cons_succ, Int.reduceToNat, Nat.reduceAdd, Nat.reduceBEq, Bool.or_false, Bool.false_or, Bool.true_or, Nat.reduceSub, Nat.reduceMul, Int.reduceAdd, Int.reduceEq, Int.reduceLT, Int.reduceLE, Int.reduceNeg, Nat.reduceLT, Nat.reduceLeDiff, Nat.reduceEqDiff, hn, hw, hr, hb2]; try clear hb2))
  | ((with_reducible refine Gd_b ?_ ?_) <;> intro hb <;> first | contradiction | simp (maxSteps := 500000) (disch := omega) only [go_sem, Bool.not_not, List.mem_singleton, forall_eq, ↓reduceIte, if_pos, rowsAt_map, wrap64, wrapu8, List.getElem?_cons_zero, List.getElem?_cons_succ, Int.reduceToNat, Nat.reduceAdd, Nat.reduceBEq, Bool.or_false, Bool.false_or, Bool.true_or, Nat.reduceSub, Nat.reduceMul, Int.reduceAdd, Int.reduceEq, Int.reduceLT, Int.reduceLE, Int.reduceNeg, Nat.reduceLT, Nat.reduceLeDiff, Nat.reduceEqDiff, hn, hw, hr, hb])
  | ((with_reducible refine Res_id ?_); simp (maxSteps := 500000) (disch := omega) only [go_sem, Bool.not_not, List.mem_singleton, forall_eq, ↓reduceIte, if_pos, rowsAt_map, wrap64, wrapu8, List.getElem?_cons_zero, List.getElem?_cons_succ, Int.reduceToNat, Nat.reduceAdd, Nat.reduceBEq, Bool.or_false, Bool.false_or, Bool.true_or, Nat.reduceSub, Nat.reduceMul, Int.reduceAdd, Int.reduceEq, Int.reduceLT, Int.reduceLE, Int.reduceNeg, Nat.reduceLT, Nat.reduceLeDiff, Nat.reduceEqDiff, hn, hw, hr])
  | ((with_reducible refine awp_drawnC ?_ ?_); rfl; simp (maxSteps := 500000) (disch := omega) only [go_sem, Bool.not_not, List.mem_singleton, forall_eq, ↓reduceIte, if_pos, rowsAt_map, wrap64, wrapu8, List.getElem?_cons_zero, List.getElem?_cons_succ, Int.reduceToNat, Nat.reduceAdd, Nat.reduceBEq, Bool.or_false, Bool.false_or, Bool.true_or, Nat.reduceSub, Nat.reduceMul, Int.reduceAdd, Int.reduceEq, Int.reduceLT, Int.reduceLE, Int.reduceNeg, Nat.reduceLT, Nat.reduceLeDiff, Nat.reduceEqDiff, hn, hw, hr])
  | ((with_reducible refine awp_drawnA ?_ ?_); rfl; simp (maxSteps := 500000) (disch := omega) only [go_sem, Bool.not_not, List.mem_singleton, forall_eq, ↓reduceIte, if_pos, rowsAt_map, wrap64, wrapu8, List.getElem?_cons_zero, List.getElem?_cons_succ, Int.reduceToNat, Nat.reduceAdd, Nat.reduceBEq, Bool.or_false, Bool.false_or, Bool.true_or, Nat.reduceSub, Nat.reduceMul, Int.reduceAdd, Int.reduceEq, Int.reduceLT, Int.reduceLE, Int.reduceNeg, Nat.reduceLT, Nat.reduceLeDiff, Nat.reduceEqDiff, hn, hw, hr])
  | ((with_reducible refine CGd_nd ?_ ?_) <;> intro hb hb2 <;> first | contradiction | (exfalso; omega) | (simp (maxSteps := 500000) (disch := omega) only [go_sem, Bool.not_not, List.mem_singleton, forall_eq, ↓reduceIte, if_pos, rowsAt_map, wrap64, wrapu8, List.getElem?_cons_zero, List.getElem?_cons_succ, Int.reduceToNat, Nat.reduceAdd, Nat.reduceBEq, Bool.or_false, Bool.false_or, Bool.true_or, Nat.reduceSub, Nat.reduceMul, Int.reduceAdd, Int.reduceEq, Int.reduceLT, Int.reduceLE, Int.reduceNeg, Nat.reduceLT, Nat.reduceLeDiff, Nat.reduceEqDiff, hn, hw, hr, hb2]; try clear hb2))
  | ((with_reducible refine CGd_nb ?_ ?_) <;> intro hb <;> first | contradiction | simp (maxSteps := 500000) (disch := omega) only [go_sem, Bool.not_not, List.mem_singleton, forall_eq, ↓reduceIte, if_pos, rowsAt_map, wrap64, wrapu8, List.getElem?_cons_zero, List.getElem?_cons_succ, Int.reduceToNat, Nat.reduceAdd, Nat.reduceBEq, Bool.or_false, Bool.false_or, Bool.true_or, Nat.reduceSub, Nat.reduceMul, Int.reduceAdd, Int.reduceEq, Int.reduceLT, Int.reduceLE, Int.reduceNeg, Nat.reduceLT, Nat.reduceLeDiff, Nat.reduceEqDiff, hn, hw, hr, hb])
  | ((with_reducible refine CGd_d ?_ ?_) <;> intro hb hb2 <;> first | contradiction | (exfalso; omega) | (simp (maxSteps := 500000) (disch := omega) only [go_sem, Bool.not_not, List.mem_singleton, forall_eq, ↓reduceIte, if_pos, rowsAt_map, wrap64, wrapu8, List.getElem?_cons_zero, List.getElem?_cons_succ, Int.reduceToNat, Nat.reduceAdd, Nat.reduceBEq, Bool.or_false, Bool.false_or, Bool.true_or, Nat.reduceSub, Nat.reduceMul, Int.reduceAdd, Int.reduceEq, Int.reduceLT, Int.reduceLE, Int.reduceNeg, Nat.reduceLT, Nat.reduceLeDiff, Nat.reduceEqDiff, hn, hw, hr, hb2]; try clear hb2))
  | ((with_reducible refine CGd_b ?_ ?_) <;> intro hb <;> first | contradiction | simp (maxSteps := 500000) (disch := omega) only [go_sem, Bool.not_not, List.mem_singleton, forall_eq, ↓reduceIte, if_pos, rowsAt_map, wrap64, wrapu8, List.getElem?_cons_zero, List.getElem?_cons_succ, Int.reduceToNat, Nat.reduceAdd, Nat.reduceBEq, Bool.or_false, Bool.false_or, Bool.true_or, Nat.reduceSub, Nat.reduceMul, Int.reduceAdd, Int.reduceEq, Int.reduceLT, Int.reduceLE, Int.reduceNeg, Nat.reduceLT, Nat.reduceLeDiff, Nat.reduceEqDiff, hn, hw, hr, hb])
  | ((with_reducible refine CRes_id ?_); simp (maxSteps := 500000) (disch := omega) only [go_sem, Bool.not_not, List.mem_singleton, forall_eq, ↓reduceIte, if_pos, rowsAt_map, wrap64, wrapu8, List.getElem?_cons_zero, List.getElem?_cons_succ, Int.reduceToNat, Nat.reduceAdd, Nat.reduceBEq, Bool.or_false, Bool.false_or, Bool.true_or, Nat.reduceSub, Nat.reduceMul, Int.reduceAdd, Int.reduceEq, Int.reduceLT, Int.reduceLE, Int.reduceNeg, Nat.reduceLT, Nat.reduceLeDiff, Nat.reduceEqDiff, hn, hw, hr])
  | ((with_reducible refine DStep_id ?_); refine dcallP ⟨_, rfl⟩ rfl (by simp (maxSteps := 500000) (disch := omega) only [go_sem, Bool.not_not, List.mem_singleton, forall_eq, ↓reduceIte, if_pos, rowsAt_map, wrap64, wrapu8, List.getElem?_cons_zero, List.getElem?_cons_succ, Int.reduceToNat, Nat.reduceAdd, Nat.reduceBEq, Bool.or_false, Bool.false_or, Bool.true_or, Nat.reduceSub, Nat.reduceMul, Int.reduceAdd, Int.reduceEq, Int.reduceLT, Int.reduceLE, Int.reduceNeg, Nat.reduceLT, Nat.reduceLeDiff, Nat.reduceEqDiff, hn, hw, hr]; first | done | rfl | fail) ?_; refine ⟨_, by first | fail | fail, ?_⟩; refine ⟨fun _ => rfl, fun _ => rfl, rfl, (fun h => by first | cases h | fail), ?_⟩; try simp (maxSteps := 500000) (disch := omega) only [go_sem, Bool.not_not, List.mem_singleton, forall_eq, ↓reduceIte, if_pos, rowsAt_map, wrap64, wrapu8, List.getElem?_cons_zero, List.getElem?_cons_succ, Int.reduceToNat, Nat.reduceAdd, Nat.reduceBEq, Bool.or_false, Bool.false_or, Bool.true_or, Nat.reduceSub, Nat.reduceMul, Int.reduceAdd, Int.reduceEq, Int.reduceLT, Int.reduceLE, Int.reduceNeg, Nat.reduceLT, Nat.reduceLeDiff, Nat.reduceEqDiff, hn, hw, hr])
  | ((with_reducible refine DStep_id ?_); refine dcallPw ⟨_, rfl⟩ rfl (by simp (maxSteps := 500000) (disch := omega) only [go_sem, Bool.not_not, List.mem_singleton, forall_eq, ↓reduceIte, if_pos, rowsAt_map, wrap64, wrapu8, List.getElem?_cons_zero, List.getElem?_cons_succ, Int.reduceToNat, Nat.reduceAdd, Nat.reduceBEq, Bool.or_false, Bool.false_or, Bool.true_or, Nat.reduceSub, Nat.reduceMul, Int.reduceAdd, Int.reduceEq, Int.reduceLT, Int.reduceLE, Int.reduceNeg, Nat.reduceLT, Nat.reduceLeDiff, Nat.reduceEqDiff, hn, hw, hr]; first | done | rfl | fail) ?_; refine ⟨_, by first | fail | fail, ?_⟩; refine ⟨fun _ => rfl, fun _ => rfl, rfl, ?_⟩; try simp (maxSteps := 500000) (disch := omega) only [go_sem, Bool.not_not, List.mem_singleton, forall_eq, ↓reduceIte, if_pos, rowsAt_map, wrap64, wrapu8, List.getElem?_cons_zero, List.getElem?_cons_succ, Int.reduceToNat, Nat.reduceAdd, Nat.reduceBEq, Bool.or_false, Bool.false_or, Bool.true_or, Nat.reduceSub, Nat.reduceMul, Int.reduceAdd, Int.reduceEq, Int.reduceLT, Int.reduceLE, Int.reduceNeg, Nat.reduceLT, Nat.reduceLeDiff, Nat.reduceEqDiff, hn, hw, hr])
  | ((with_reducible refine AWP_c ?_); refine awp_cond_t (by simp (maxSteps := 500000) (disch := omega) only [go_sem, Bool.not_not, List.mem_singleton, forall_eq, ↓reduceIte, if_pos, rowsAt_map, wrap64, wrapu8, List.getElem?_cons_zero, List.getElem?_cons_succ, Int.reduceToNat, Nat.reduceAdd, Nat.reduceBEq, Bool.or_false, Bool.false_or, Bool.true_or, Nat.reduceSub, Nat.reduceMul, Int.reduceAdd, Int.reduceEq, Int.reduceLT, Int.reduceLE, Int.reduceNeg, Nat.reduceLT, Nat.reduceLeDiff, Nat.reduceEqDiff, hn, hw, hr]; first | done | fail) ?_)
  | ((with_reducible refine AWP_c ?_); refine awp_cond_f (by simp (maxSteps := 500000) (disch := omega) only [go_sem, Bool.not_not, List.mem_singleton, forall_eq, ↓reduceIte, if_pos, rowsAt_map, wrap64, wrapu8, List.getElem?_cons_zero, List.getElem?_cons_succ, Int.reduceToNat, Nat.reduceAdd, Nat.reduceBEq, Bool.or_false, Bool.false_or, Bool.true_or, Nat.reduceSub, Nat.reduceMul, Int.reduceAdd, Int.reduceEq, Int.reduceLT, Int.reduceLE, Int.reduceNeg, Nat.reduceLT, Nat.reduceLeDiff, Nat.reduceEqDiff, hn, hw, hr]; first | done | fail) ?_)
  | ((with_reducible refine AWP_c ?_); refine cond_nd (by simp (maxSteps := 500000) (disch := omega) only [go_sem, Bool.not_not, List.mem_singleton, forall_eq, ↓reduceIte, if_pos, rowsAt_map, wrap64, wrapu8, List.getElem?_cons_zero, List.getElem?_cons_succ, Int.reduceToNat, Nat.reduceAdd, Nat.reduceBEq, Bool.or_false, Bool.false_or, Bool.true_or, Nat.reduceSub, Nat.reduceMul, Int.reduceAdd, Int.reduceEq, Int.reduceLT, Int.reduceLE, Int.reduceNeg, Nat.reduceLT, Nat.reduceLeDiff, Nat.reduceEqDiff, hn, hw, hr]; first | done | rfl) ?_ ?_ <;> intro hb hb2 <;> first | contradiction | (exfalso; omega) | ((try simp (maxSteps := 500000) (disch := omega) only [go_sem, Bool.not_not, List.mem_singleton, forall_eq, ↓reduceIte, if_pos, rowsAt_map, wrap64, wrapu8, List.getElem?_cons_zero, List.getElem?_cons_succ, Int.reduceToNat, Nat.reduceAdd, Nat.reduceBEq, Bool.or_false, Bool.false_or, Bool.true_or, Nat.reduceSub, Nat.reduceMul, Int.reduceAdd, Int.reduceEq, Int.reduceLT, Int.reduceLE, Int.reduceNeg, Nat.reduceLT, Nat.reduceLeDiff, Nat.reduceEqDiff, hn, hw, hr, hb2]); try clear hb2))
  | ((with_reducible refine AWP_c ?_); refine cond_d (by simp (maxSteps := 500000) (disch := omega) only [go_sem, Bool.not_not, List.mem_singleton, forall_eq, ↓reduceIte, if_pos, rowsAt_map, wrap64, wrapu8, List.getElem?_cons_zero, List.getElem?_cons_succ, Int.reduceToNat, Nat.reduceAdd, Nat.reduceBEq, Bool.or_false, Bool.false_or, Bool.true_or, Nat.reduceSub, Nat.reduceMul, Int.reduceAdd, Int.reduceEq, Int.reduceLT, Int.reduceLE, Int.reduceNeg, Nat.reduceLT, Nat.reduceLeDiff, Nat.reduceEqDiff, hn, hw, hr]; first | done | rfl) ?_ ?_ <;> intro hb hb2 <;> first | contradiction | (exfalso; omega) | ((try simp (maxSteps := 500000) (disch := omega) only [go_sem, Bool.not_not, List.mem_singleton, forall_eq, ↓reduceIte, if_pos, rowsAt_map, wrap64, wrapu8, List.getElem?_cons_zero, List.getElem?_cons_succ, Int.reduceToNat, Nat.reduceAdd, Nat.reduceBEq, Bool.or_false, Bool.false_or, Bool.true_or, Nat.reduceSub, Nat.reduceMul, Int.reduceAdd, Int.reduceEq, Int.reduceLT, Int.reduceLE, Int.reduceNeg, Nat.reduceLT, Nat.reduceLeDiff, Nat.reduceEqDiff, hn, hw, hr, hb2]); try clear hb2))
  | ((with_reducible refine AWP_c ?_); refine cond_nb (by simp (maxSteps := 500000) (disch := omega) only [go_sem, Bool.not_not, List.mem_singleton, forall_eq, ↓reduceIte, if_pos, rowsAt_map, wrap64, wrapu8, List.getElem?_cons_zero, List.getElem?_cons_succ, Int.reduceToNat, Nat.reduceAdd, Nat.reduceBEq, Bool.or_false, Bool.false_or, Bool.true_or, Nat.reduceSub, Nat.reduceMul, Int.reduceAdd, Int.reduceEq, Int.reduceLT, Int.reduceLE, Int.reduceNeg, Nat.reduceLT, Nat.reduceLeDiff, Nat.reduceEqDiff, hn, hw, hr]; first | done | rfl) ?_ ?_ <;> intro hb <;> first | contradiction | (try simp (maxSteps := 500000) (disch := omega) only [go_sem, Bool.not_not, List.mem_singleton, forall_eq, ↓reduceIte, if_pos, rowsAt_map, wrap64, wrapu8, List.getElem?_cons_zero, List.getElem?_cons_succ, Int.reduceToNat, Nat.reduceAdd, Nat.reduceBEq, Bool.or_false, Bool.false_or, Bool.true_or, Nat.reduceSub, Nat.reduceMul, Int.reduceAdd, Int.reduceEq, Int.reduceLT, Int.reduceLE, Int.reduceNeg, Nat.reduceLT, Nat.reduceLeDiff, Nat.reduceEqDiff, hn, hw, hr, hb]))
  | ((with_reducible refine AWP_c ?_); refine awp_cond (by simp (maxSteps := 500000) (disch := omega) only [go_sem, Bool.not_not, List.mem_singleton, forall_eq, ↓reduceIte, if_pos, rowsAt_map, wrap64, wrapu8, List.getElem?_cons_zero, List.getElem?_cons_succ, Int.reduceToNat, Nat.reduceAdd, Nat.reduceBEq, Bool.or_false, Bool.false_or, Bool.true_or, Nat.reduceSub, Nat.reduceMul, Int.reduceAdd, Int.reduceEq, Int.reduceLT, Int.reduceLE, Int.reduceNeg, Nat.reduceLT, Nat.reduceLeDiff, Nat.reduceEqDiff, hn, hw, hr]; first | done | rfl) ?_ ?_ <;> intro hb <;> first | contradiction | (try simp (maxSteps := 500000) (disch := omega) only [go_sem, Bool.not_not, List.mem_singleton, forall_eq, ↓reduceIte, if_pos, rowsAt_map, wrap64, wrapu8, List.getElem?_cons_zero, List.getElem?_cons_succ, Int.reduceToNat, Nat.reduceAdd, Nat.reduceBEq, Bool.or_false, Bool.false_or, Bool.true_or, Nat.reduceSub, Nat.reduceMul, Int.reduceAdd, Int.reduceEq, Int.reduceLT, Int.reduceLE, Int.reduceNeg, Nat.reduceLT, Nat.reduceLeDiff, Nat.reduceEqDiff, hn, hw, hr, hb]))
  | ((with_reducible refine awp_ret ?_); refine fin_r ?_)
  | ((with_reducible refine awp_ret ?_); refine fin_q ?_ ?_)
  | with_reducible refine fin_qn ?_ ?_
  | ((with_reducible refine awp_skip ?_); simp (maxSteps := 500000) (disch := omega) only [go_sem, Bool.not_not, List.mem_singleton, forall_eq, ↓reduceIte, if_pos, rowsAt_map, wrap64, wrapu8, List.getElem?_cons_zero, List.getElem?_cons_succ, Int.reduceToNat, Nat.reduceAdd, Nat.reduceBEq, Bool.or_false, Bool.false_or, Bool.true_or, Nat.reduceSub, Nat.reduceMul, Int.reduceAdd, Int.reduceEq, Int.reduceLT, Int.reduceLE, Int.reduceNeg, Nat.reduceLT, Nat.reduceLeDiff, Nat.reduceEqDiff, hn, hw, hr])
  | with_reducible refine awp_block ?_
  | ((with_reducible refine awp_exit ?_); simp (maxSteps := 500000) (disch := omega) only [go_sem, Bool.not_not, List.mem_singleton, forall_eq, ↓reduceIte, if_pos, rowsAt_map, wrap64, wrapu8, List.getElem?_cons_zero, List.getElem?_cons_succ, Int.reduceToNat, Nat.reduceAdd, Nat.reduceBEq, Bool.or_false, Bool.false_or, Bool.true_or, Nat.reduceSub, Nat.reduceMul, Int.reduceAdd, Int.reduceEq, Int.reduceLT, Int.reduceLE, Int.reduceNeg, Nat.reduceLT, Nat.reduceLeDiff, Nat.reduceEqDiff, hn, hw, hr])
  | ((with_reducible refine CallK_id ?_); refine callF ⟨_, rfl⟩ rfl (by simp (maxSteps := 500000) (disch := omega) only [go_sem, Bool.not_not, List.mem_singleton, forall_eq, ↓reduceIte, if_pos, rowsAt_map, wrap64, wrapu8, List.getElem?_cons_zero, List.getElem?_cons_succ, Int.reduceToNat, Nat.reduceAdd, Nat.reduceBEq, Bool.or_false, Bool.false_or, Bool.true_or, Nat.reduceSub, Nat.reduceMul, Int.reduceAdd, Int.reduceEq, Int.reduceLT, Int.reduceLE, Int.reduceNeg, Nat.reduceLT, Nat.reduceLeDiff, Nat.reduceEqDiff, hn, hw, hr]; first | done | rfl | fail) ?_; refine ⟨_, by first | fail | fail, ?_⟩; refine ⟨fun _ => rfl, fun _ => rfl, rfl, ?_⟩; try simp (maxSteps := 500000) (disch := omega) only [go_sem, Bool.not_not, List.mem_singleton, forall_eq, ↓reduceIte, if_pos, rowsAt_map, wrap64, wrapu8, List.getElem?_cons_zero, List.getElem?_cons_succ, Int.reduceToNat, Nat.reduceAdd, Nat.reduceBEq, Bool.or_false, Bool.false_or, Bool.true_or, Nat.reduceSub, Nat.reduceMul, Int.reduceAdd, Int.reduceEq, Int.reduceLT, Int.reduceLE, Int.reduceNeg, Nat.reduceLT, Nat.reduceLeDiff, Nat.reduceEqDiff, hn, hw, hr])
  | fail
  all_goals (first | rfl | (simp [go_sem, hw, hn]; done) | trace_state)
def newO (m : Mk) : OE := ⟨m.name, [], m.ats, []⟩
def take1 (os : List OE) (t : OE) (m : Mk) : Int × List OE × Option El :=
  if m.kind = 1 then (if t.text ≠ [] then (4, os ++ [t], none) else if os.length = 23 ∨ t.kids.length = 64 then (2, os ++ [t], none) else (0, os ++ [t] ++ [newO m], none))
  else if m.kind = 3 then (if 0 < t.kids.length then (4, os ++ [t], none) else (0, os ++ [{ t with text := m.text }], none))
  else if t.name ≠ m.name then (4, os ++ [t], none) else (0, (put1 os (.mk t.name t.ats t.kids t.text)).1, (put1 os (.mk t.name t.ats t.kids t.text)).2)
theorem take1_a {os : List OE} {t : OE} {m : Mk} (h1 : m.kind = 1) (h2 : ¬ t.text = []) : take1 os t m = (4, os ++ [t], none) := by rw [take1, if_pos h1, if_pos h2]
theorem take1_b {os : List OE} {t : OE} {m : Mk} (h1 : m.kind = 1) (h2 : t.text = []) (h3 : os.length = 23 ∨ t.kids.length = 64) : take1 os t m = (2, os ++ [t], none) := by rw [take1, if_pos h1, if_neg (fun h => h h2), if_pos h3]
theorem take1_c {os : List OE} {t : OE} {m : Mk} (h1 : m.kind = 1) (h2 : t.text = []) (h3 : ¬ (os.length = 23 ∨ t.kids.length = 64)) : take1 os t m = (0, os ++ [t] ++ [newO m], none) := by rw [take1, if_pos h1, if_neg (fun h => h h2), if_neg h3]
theorem take1_d {os : List OE} {t : OE} {m : Mk} (h1 : ¬ m.kind = 1) (h2 : m.kind = 3) (h3 : 0 < t.kids.length) : take1 os t m = (4, os ++ [t], none) := by rw [take1, if_neg h1, if_pos h2, if_pos h3]
theorem take1_e {os : List OE} {t : OE} {m : Mk} (h1 : ¬ m.kind = 1) (h2 : m.kind = 3) (h3 : ¬ 0 < t.kids.length) : take1 os t m = (0, os ++ [{ t with text := m.text }], none) := by rw [take1, if_neg h1, if_pos h2, if_neg h3]
theorem take1_f {os : List OE} {t : OE} {m : Mk} (h1 : ¬ m.kind = 1) (h2 : ¬ m.kind = 3) (h3 : ¬ t.name = m.name) : take1 os t m = (4, os ++ [t], none) := by rw [take1, if_neg h1, if_neg h2, if_pos h3]
theorem take1_g {os : List OE} {t : OE} {m : Mk} (h1 : ¬ m.kind = 1) (h2 : ¬ m.kind = 3) (h3 : t.name = m.name) : take1 os t m = (0, (put1 os (.mk t.name t.ats t.kids t.text)).1, (put1 os (.mk t.name t.ats t.kids t.text)).2) := by rw [take1, if_neg h1, if_neg h2, if_neg (fun h => h h3)]
theorem fin_par0 {T : List A} {rest : Heap} {v : Value} {n : Nat} {rws : List RW} {os : List OE} {wh : Option El} {ty1 ty2 : Option TypeId} {rs : List ResultVar}
    (h1 : resA env T (some (.box [.own 1 0 n n, wC wh] ty1) :: some (.rows 4 (rws.map RW.row) ty2) :: some (.raw (kidsR rws os)) :: rest) rs = some [.c (.d (.sc v))]) (hn : n = rws.length) :
    Fin env rs (.c (.d (.sc v))) [some (.raw (parR os wh))] 1 .ret T (some (.box [.own 1 0 n n, wC wh] ty1) :: some (.rows 4 (rws.map RW.row) ty2) :: some (.raw (kidsR rws os)) :: rest) :=
  fin_hand h1 (wk_par0 (scal_sc _) hn)
theorem fin_parP {T : List A} {rest : Heap} {v : Value} {n : Nat} {rws : List RW} {os : List OE} {wh : Option El} {ty1 ty2 : Option TypeId} {rs : List ResultVar} {nm : Str} {ats : List At}
    (h1 : resA env T (some (.box [.own 1 0 n n, wC wh] ty1) :: some (.rows 4 (rws.map RW.row ++ [[dS nm, .fz (ats.map At.row), .sc (.slice none 0 0), dS []]]) ty2) :: some (.raw (kidsR rws os)) :: rest) rs = some [.c (.d (.sc v))]) (hn : n = rws.length + 1) :
    Fin env rs (.c (.d (.sc v))) [some (.raw (parR (os ++ [⟨nm, [], ats, []⟩]) wh))] 1 .ret T (some (.box [.own 1 0 n n, wC wh] ty1) :: some (.rows 4 (rws.map RW.row ++ [[dS nm, .fz (ats.map At.row), .sc (.slice none 0 0), dS []]]) ty2) :: some (.raw (kidsR rws os)) :: rest) :=
  fin_hand h1 (wk_parP (scal_sc _) hn)
theorem Kd.text {w : World} {F O : Nat → Prop} {rws : List RW} {os : List OE} {t : OE} {n : Nat} {tx : Str} (hn : rws.length = n + 1) (ho : n = os.length) (h : Kd w F O rws (os ++ [t])) :
    Kd w F O (rws.set n { gt rws n with text := tx }) (os ++ [{ t with text := tx }]) := by
  have hg : rws[n]? = some (gt rws n) := by rw [gt, List.getD_eq_getElem?_getD, List.getElem?_eq_getElem (by omega)]; rfl
  have get : ∀ (i : Nat) r, (rws.set n { gt rws n with text := tx })[i]? = some r → (rws[i]? = some r ∧ i ≠ n) ∨ (i = n ∧ r = { gt rws n with text := tx }) := fun i r hr => by
    by_cases hi : n = i
    · subst hi
      rw [List.getElem?_set_self (by omega)] at hr
      exact .inr ⟨rfl, (Option.some.inj hr).symm⟩
    · rw [List.getElem?_set_ne hi] at hr
      exact .inl ⟨hr, fun e => hi e.symm⟩
  have get2 : ∀ (i : Nat) r, (rws.set n { gt rws n with text := tx })[i]? = some r → ∃ r0, rws[i]? = some r0 ∧ r.kv = r0.kv ∧ r.kn = r0.kn ∧ r.ks = r0.ks ∧ r.av = r0.av ∧ r.name = r0.name := fun i r hr => by
    rcases get i r hr with ⟨h1, _⟩ | ⟨rfl, rfl⟩
    · exact ⟨r, h1, rfl, rfl, rfl, rfl, rfl⟩
    · exact ⟨_, hg, rfl, rfl, rfl, rfl, rfl⟩
  refine ⟨by have := h.len; simp at this ⊢; exact this, fun i r hr => ?_, fun i r hr k hk => ?_, fun i j r s k hr hs hk hk2 => ?_, fun i r o hr ho2 => ?_⟩
  · obtain ⟨r0, h1, h2, h3, h4, _⟩ := get2 i r hr
    rw [h2, h3, h4]; exact h.kid i r0 h1
  · obtain ⟨r0, h1, h2, _⟩ := get2 i r hr
    rw [h2] at hk; exact h.own i r0 h1 k hk
  · obtain ⟨r0, h1, h2, _⟩ := get2 i r hr
    obtain ⟨s0, h3, h4, _⟩ := get2 j s hs
    rw [h2] at hk; rw [h4] at hk2
    exact h.dis i j r0 s0 k h1 h3 hk hk2
  · rcases get i r hr with ⟨h1, h2⟩ | ⟨rfl, rfl⟩
    · have h3 : i < rws.length := (List.getElem?_eq_some_iff.1 h1).1
      have h4 : i < os.length := by omega
      rw [List.getElem?_append_left h4] at ho2
      exact h.ar i r o h1 (by rw [List.getElem?_append_left h4]; exact ho2)
    · have h5 := h.ar i _ t hg (by rw [ho, List.getElem?_append_right (Nat.le_refl _)]; simp)
      rw [ho, List.getElem?_append_right (Nat.le_refl _)] at ho2
      simp at ho2
      subst ho2
      exact ⟨h5.name, rfl, h5.one, h5.av, h5.ks⟩
theorem fin_parT {T : List A} {rest : Heap} {v : Value} {n : Nat} {rws : List RW} {os : List OE} {t : OE} {wh : Option El} {ty1 ty2 : Option TypeId} {rs : List ResultVar} {tx : Str} (hn : rws.length = n + 1) (ho : n = os.length)
    (h1 : resA env T (some (.box [.own 1 0 (n + 1) (n + 1), wC wh] ty1) :: some (.rows 4 ((rws.map RW.row).set n [dS (gt rws n).name, .sc (gt rws n).av, .sc (.slice (gt rws n).ka (gt rws n).kn (gt rws n).kc), dS tx]) ty2) :: some (.raw (kidsR rws (os ++ [t]))) :: rest) rs = some [.c (.d (.sc v))]) :
    Fin env rs (.c (.d (.sc v))) [some (.raw (parR (os ++ [{ t with text := tx }]) wh))] 1 .ret T (some (.box [.own 1 0 (n + 1) (n + 1), wC wh] ty1) :: some (.rows 4 ((rws.map RW.row).set n [dS (gt rws n).name, .sc (gt rws n).av, .sc (.slice (gt rws n).ka (gt rws n).kn (gt rws n).kc), dS tx]) ty2) :: some (.raw (kidsR rws (os ++ [t]))) :: rest) := by
  refine fin_hand h1 ?_
  have e : (rws.map RW.row).set n [dS (gt rws n).name, .sc (gt rws n).av, .sc (.slice (gt rws n).ka (gt rws n).kn (gt rws n).kc), dS tx] = (rws.set n { gt rws n with text := tx }).map RW.row := by rw [List.map_set]; rfl
  rw [e]
  exact wk_par (j := 0) (scal_sc _) rfl rfl (by simp [hn]) rfl (fun w F cell hc => ⟨_, by simp [hn], rws_cell hc, fun O' h => h.text hn ho⟩)
theorem take_rows {rws : List RW} (n : Nat) : ∀ (i : Nat) r, (rws.take n)[i]? = some r → (rws.map RW.row)[i]? = some r.row := fun i r h => by
  rw [List.getElem?_take] at h
  split at h
  · rw [List.getElem?_map, h]; rfl
  · cases h
theorem take1_ok (os : List OE) (t : OE) (m : Mk) (hl : os.length < 1000) (hkk : ∀ q ∈ os, q.kids.length < 1000000) : AFn env 26 [P0, m.a] [some (.raw (parR (os ++ [t]) none))] (aI (take1 os t m).1) [some (.raw (parR (take1 os t m).2.1 (take1 os t m).2.2))] := by
  refine afn_body Tryd.func26 rfl (by decide) ?_
  simp only [Tryd.ntmps26, Tryd.results26, List.length_cons, List.length_nil, List.cons_append, List.nil_append, Nat.reduceAdd, Nat.reduceSub, List.replicate]
  refine awp_open fun rws hrl hrw => ?_
  obtain ⟨n, hn⟩ : ∃ n, rws.length = n + 1 := ⟨os.length, by simpa using hrl⟩
  have hno : n = os.length := by rw [hn] at hrl; simpa using hrl
  have hn6 : n < 1000000 := by omega
  obtain ⟨ht1, ht2, ht3⟩ := hrw n (gt rws n) t (by rw [gt, List.getD_eq_getElem?_getD, List.getElem?_eq_getElem (by omega)]; rfl) (by rw [hno]; simp)
  clear hrw
  obtain ⟨tn, tt, ta, tk⟩ := t
  simp only at ht1 ht2 ht3
  subst ht1 ht2
  have htop := top_ok (rws.map RW.row) n none (by rw [List.length_map]; exact hn) hn6 (by rw [rowsAt_map _ _ _ (by omega)]; rfl)
  simp only [wC]
  rw [hn]
  repeat' first
  | with_reducible refine awp_seq ?_
  | ((with_reducible refine awp_region ?_); refine zS ?_)
  | ((with_reducible refine Gd_nd ?_ ?_) <;> intro hb hb2 <;> first | contradiction | (exfalso; omega) | (refine zH hb2 ?_; try clear hb2))
  | ((with_reducible refine Gd_nb ?_ ?_) <;> intro hb <;> first | contradiction | refine zH hb ?_)
  | ((with_reducible refine Gd_d ?_ ?_) <;> intro hb hb2 <;> first | contradiction | (exfalso; omega) | (refine zH hb2 ?_; try clear hb2))
  | ((with_reducible refine Gd_b ?_ ?_) <;> intro hb <;> first | contradiction | refine zH hb ?_)
  | ((with_reducible refine Res_id ?_); refine zS ?_)
  | ((with_reducible refine awp_drawnW [999] ?_ ?_); rfl; refine zS ?_)
  | ((with_reducible refine awp_drawnA ?_ ?_); rfl; refine zS ?_)
  | ((with_reducible refine CGd_nd ?_ ?_) <;> intro hb hb2 <;> first | contradiction | (exfalso; omega) | (refine zH hb2 ?_; try clear hb2))
  | ((with_reducible refine CGd_nb ?_ ?_) <;> intro hb <;> first | contradiction | refine zH hb ?_)
  | ((with_reducible refine CGd_d ?_ ?_) <;> intro hb hb2 <;> first | contradiction | (exfalso; omega) | (refine zH hb2 ?_; try clear hb2))
  | ((with_reducible refine CGd_b ?_ ?_) <;> intro hb <;> first | contradiction | refine zH hb ?_)
  | ((with_reducible refine CRes_id ?_); refine zS ?_)
  | ((with_reducible refine DStep_id ?_); refine zdP ?_; refine ⟨_, by first | fail | fail, fun _ => rfl, fun _ => rfl, rfl, (fun h => by first | cases h | fail), ?_⟩; try refine zS ?_)
  | ((with_reducible refine DStep_id ?_); refine zdW ?_; refine ⟨_, by first | fail | fail, fun _ => rfl, fun _ => rfl, rfl, ?_⟩; try refine zS ?_)
  | ((with_reducible refine DStep_id ?_); refine zdT [1] ?_; refine ⟨_, _, by first | exact htop | fail, ?_⟩; try refine zS ?_)
  | ((with_reducible refine DStep_id ?_); refine zdR [1] ?_; refine ⟨_, by first | exact htop | fail, ?_⟩; try refine zS ?_)
  | ((with_reducible refine AWP_c ?_); refine zcdT ?_)
  | ((with_reducible refine AWP_c ?_); refine zcdF ?_)
  | ((with_reducible refine AWP_c ?_); refine zcdN ?_ ?_ <;> intro hb hb2 <;> first | contradiction | (exfalso; omega) | ((try refine zH hb2 ?_); try clear hb2))
  | ((with_reducible refine AWP_c ?_); refine zcdD ?_ ?_ <;> intro hb hb2 <;> first | contradiction | (exfalso; omega) | ((try refine zH hb2 ?_); try clear hb2))
  | ((with_reducible refine AWP_c ?_); refine zcdM ?_ ?_ <;> intro hb <;> first | contradiction | (try refine zH hb ?_))
  | ((with_reducible refine AWP_c ?_); refine zcdB ?_ ?_ <;> intro hb <;> first | contradiction | (try refine zH hb ?_))
  | ((with_reducible refine awp_skip ?_); refine zS ?_)
  | with_reducible refine awp_block ?_
  | ((with_reducible refine awp_exit ?_); refine zS ?_)
  | ((with_reducible refine CallK_id ?_); refine zcF ?_; refine ⟨_, by first | fail | fail, fun _ => rfl, fun _ => rfl, rfl, ?_⟩; try refine zS ?_)
  | ((with_reducible refine CallK_id ?_); refine zcT [1] ?_; refine ⟨_, _, by first | exact htop | fail, ?_⟩; try refine zS ?_)
  | ((with_reducible refine awp_label ?_); try refine zS ?_)
  | ((with_reducible refine awp_goto ?_); try refine zS ?_)
  | ((with_reducible refine awp_scope0 ?_); try refine zS ?_)
  | exact True.intro
  | fail
  all_goals first
    | (rw [take1_a (by assumption) (by assumption)]; exact awp_ret (fin_par0 (wh := none) (by first | rfl | (simp only [go_sem, Bool.not_not, List.mem_singleton, forall_eq, ↓reduceIte, if_pos, rowsAt_map, wrap64, wrapu8, List.getElem?_cons_zero, List.getElem?_cons_succ, Int.reduceToNat, Nat.reduceAdd, Nat.reduceBEq, Bool.or_false, Bool.false_or, Bool.true_or, Nat.reduceSub, Nat.reduceMul, Int.reduceAdd, Int.reduceEq, Int.reduceLT, Int.reduceLE, Int.reduceNeg, Nat.reduceLT, Nat.reduceLeDiff, Nat.reduceEqDiff]; rfl)) hn.symm))
    | (rw [take1_b (by assumption) (by assumption) (by simp only; omega)]; exact awp_ret (fin_par0 (wh := none) (by first | rfl | (simp only [go_sem, Bool.not_not, List.mem_singleton, forall_eq, ↓reduceIte, if_pos, rowsAt_map, wrap64, wrapu8, List.getElem?_cons_zero, List.getElem?_cons_succ, Int.reduceToNat, Nat.reduceAdd, Nat.reduceBEq, Bool.or_false, Bool.false_or, Bool.true_or, Nat.reduceSub, Nat.reduceMul, Int.reduceAdd, Int.reduceEq, Int.reduceLT, Int.reduceLE, Int.reduceNeg, Nat.reduceLT, Nat.reduceLeDiff, Nat.reduceEqDiff]; rfl)) hn.symm))
    | (rw [take1_d (by assumption) (by assumption) (by simp only; omega)]; exact awp_ret (fin_par0 (wh := none) (by first | rfl | (simp only [go_sem, Bool.not_not, List.mem_singleton, forall_eq, ↓reduceIte, if_pos, rowsAt_map, wrap64, wrapu8, List.getElem?_cons_zero, List.getElem?_cons_succ, Int.reduceToNat, Nat.reduceAdd, Nat.reduceBEq, Bool.or_false, Bool.false_or, Bool.true_or, Nat.reduceSub, Nat.reduceMul, Int.reduceAdd, Int.reduceEq, Int.reduceLT, Int.reduceLE, Int.reduceNeg, Nat.reduceLT, Nat.reduceLeDiff, Nat.reduceEqDiff]; rfl)) hn.symm))
    | (rw [take1_f (by assumption) (by assumption) (by assumption)]; exact awp_ret (fin_par0 (wh := none) (by first | rfl | (simp only [go_sem, Bool.not_not, List.mem_singleton, forall_eq, ↓reduceIte, if_pos, rowsAt_map, wrap64, wrapu8, List.getElem?_cons_zero, List.getElem?_cons_succ, Int.reduceToNat, Nat.reduceAdd, Nat.reduceBEq, Bool.or_false, Bool.false_or, Bool.true_or, Nat.reduceSub, Nat.reduceMul, Int.reduceAdd, Int.reduceEq, Int.reduceLT, Int.reduceLE, Int.reduceNeg, Nat.reduceLT, Nat.reduceLeDiff, Nat.reduceEqDiff]; rfl)) hn.symm))
    | skip
  · rw [take1_c (by assumption) (by assumption) (by simp only; omega)]
    refine awp_drawnS [36] ?_ ?_
    · rfl
    refine zS ?_
    repeat' first
    | with_reducible refine awp_seq ?_
    | ((with_reducible refine awp_region ?_); refine zS ?_)
    | ((with_reducible refine Gd_nd ?_ ?_) <;> intro hb hb2 <;> first | contradiction | (exfalso; omega) | (refine zH hb2 ?_; try clear hb2))
    | ((with_reducible refine Gd_nb ?_ ?_) <;> intro hb <;> first | contradiction | refine zH hb ?_)
    | ((with_reducible refine Gd_d ?_ ?_) <;> intro hb hb2 <;> first | contradiction | (exfalso; omega) | (refine zH hb2 ?_; try clear hb2))
    | ((with_reducible refine Gd_b ?_ ?_) <;> intro hb <;> first | contradiction | refine zH hb ?_)
    | ((with_reducible refine Res_id ?_); refine zS ?_)
    | ((with_reducible refine awp_drawnW [999] ?_ ?_); rfl; refine zS ?_)
    | ((with_reducible refine awp_drawnA ?_ ?_); rfl; refine zS ?_)
    | ((with_reducible refine CGd_nd ?_ ?_) <;> intro hb hb2 <;> first | contradiction | (exfalso; omega) | (refine zH hb2 ?_; try clear hb2))
    | ((with_reducible refine CGd_nb ?_ ?_) <;> intro hb <;> first | contradiction | refine zH hb ?_)
    | ((with_reducible refine CGd_d ?_ ?_) <;> intro hb hb2 <;> first | contradiction | (exfalso; omega) | (refine zH hb2 ?_; try clear hb2))
    | ((with_reducible refine CGd_b ?_ ?_) <;> intro hb <;> first | contradiction | refine zH hb ?_)
    | ((with_reducible refine CRes_id ?_); refine zS ?_)
    | ((with_reducible refine DStep_id ?_); refine zdP ?_; refine ⟨_, by first | fail | fail, fun _ => rfl, fun _ => rfl, rfl, (fun h => by first | cases h | fail), ?_⟩; try refine zS ?_)
    | ((with_reducible refine DStep_id ?_); refine zdW ?_; refine ⟨_, by first | fail | fail, fun _ => rfl, fun _ => rfl, rfl, ?_⟩; try refine zS ?_)
    | ((with_reducible refine DStep_id ?_); refine zdT [0, 1] ?_; refine ⟨_, _, by first | exact push_ok (rws.map RW.row) _ (n + 1) (.d (.sc (.pointer none))) (by rw [List.length_map]; exact hn) (by omega) rfl rfl | fail, ?_⟩; try refine zS ?_)
    | ((with_reducible refine DStep_id ?_); refine zdR [0, 1] ?_; refine ⟨_, by first | exact push_ok (rws.map RW.row) _ (n + 1) (.d (.sc (.pointer none))) (by rw [List.length_map]; exact hn) (by omega) rfl rfl | fail, ?_⟩; try refine zS ?_)
    | ((with_reducible refine AWP_c ?_); refine zcdT ?_)
    | ((with_reducible refine AWP_c ?_); refine zcdF ?_)
    | ((with_reducible refine AWP_c ?_); refine zcdN ?_ ?_ <;> intro hb hb2 <;> first | contradiction | (exfalso; omega) | ((try refine zH hb2 ?_); try clear hb2))
    | ((with_reducible refine AWP_c ?_); refine zcdD ?_ ?_ <;> intro hb hb2 <;> first | contradiction | (exfalso; omega) | ((try refine zH hb2 ?_); try clear hb2))
    | ((with_reducible refine AWP_c ?_); refine zcdM ?_ ?_ <;> intro hb <;> first | contradiction | (try refine zH hb ?_))
    | ((with_reducible refine AWP_c ?_); refine zcdB ?_ ?_ <;> intro hb <;> first | contradiction | (try refine zH hb ?_))
    | ((with_reducible refine awp_skip ?_); refine zS ?_)
    | with_reducible refine awp_block ?_
    | ((with_reducible refine awp_exit ?_); refine zS ?_)
    | ((with_reducible refine CallK_id ?_); refine zcF ?_; refine ⟨_, by first | fail | fail, fun _ => rfl, fun _ => rfl, rfl, ?_⟩; try refine zS ?_)
    | ((with_reducible refine CallK_id ?_); refine zcT [0, 1] ?_; refine ⟨_, _, by first | exact push_ok (rws.map RW.row) _ (n + 1) (.d (.sc (.pointer none))) (by rw [List.length_map]; exact hn) (by omega) rfl rfl | fail, ?_⟩; try refine zS ?_)
    | ((with_reducible refine awp_label ?_); try refine zS ?_)
    | ((with_reducible refine awp_goto ?_); try refine zS ?_)
    | ((with_reducible refine awp_scope0 ?_); try refine zS ?_)
    | exact True.intro
    | fail
    exact awp_ret (fin_parP (wh := none) (by first | rfl | (simp only [go_sem, Bool.not_not, List.mem_singleton, forall_eq, ↓reduceIte, if_pos, rowsAt_map, wrap64, wrapu8, List.getElem?_cons_zero, List.getElem?_cons_succ, Int.reduceToNat, Nat.reduceAdd, Nat.reduceBEq, Bool.or_false, Bool.false_or, Bool.true_or, Nat.reduceSub, Nat.reduceMul, Int.reduceAdd, Int.reduceEq, Int.reduceLT, Int.reduceLE, Int.reduceNeg, Nat.reduceLT, Nat.reduceLeDiff, Nat.reduceEqDiff]; rfl)) (by rw [hn]))
  · rw [take1_e (by assumption) (by assumption) (by simp only; omega)]
    refine awp_ret ?_
    exact (fin_parT (rws := rws) (os := os) (n := n) (v := .int .i64 0) (wh := none) (tx := m.text) (t := ⟨(gt rws n).name, (gt rws n).text, ta, tk⟩) hn hno (by first | rfl | (simp only [go_sem, Bool.not_not, List.mem_singleton, forall_eq, ↓reduceIte, if_pos, rowsAt_map, wrap64, wrapu8, List.getElem?_cons_zero, List.getElem?_cons_succ, Int.reduceToNat, Nat.reduceAdd, Nat.reduceBEq, Bool.or_false, Bool.false_or, Bool.true_or, Nat.reduceSub, Nat.reduceMul, Int.reduceAdd, Int.reduceEq, Int.reduceLT, Int.reduceLE, Int.reduceNeg, Nat.reduceLT, Nat.reduceLeDiff, Nat.reduceEqDiff]; rfl)))
  · rw [take1_g (by assumption) (by assumption) (by assumption)]
    repeat' first
    | with_reducible refine awp_seq ?_
    | ((with_reducible refine awp_region ?_); refine zS ?_)
    | ((with_reducible refine Gd_nd ?_ ?_) <;> intro hb hb2 <;> first | contradiction | (exfalso; omega) | (refine zH hb2 ?_; try clear hb2))
    | ((with_reducible refine Gd_nb ?_ ?_) <;> intro hb <;> first | contradiction | refine zH hb ?_)
    | ((with_reducible refine Gd_d ?_ ?_) <;> intro hb hb2 <;> first | contradiction | (exfalso; omega) | (refine zH hb2 ?_; try clear hb2))
    | ((with_reducible refine Gd_b ?_ ?_) <;> intro hb <;> first | contradiction | refine zH hb ?_)
    | ((with_reducible refine Res_id ?_); refine zS ?_)
    | ((with_reducible refine awp_drawnW [999] ?_ ?_); rfl; refine zS ?_)
    | ((with_reducible refine awp_drawnA ?_ ?_); rfl; refine zS ?_)
    | ((with_reducible refine CGd_nd ?_ ?_) <;> intro hb hb2 <;> first | contradiction | (exfalso; omega) | (refine zH hb2 ?_; try clear hb2))
    | ((with_reducible refine CGd_nb ?_ ?_) <;> intro hb <;> first | contradiction | refine zH hb ?_)
    | ((with_reducible refine CGd_d ?_ ?_) <;> intro hb hb2 <;> first | contradiction | (exfalso; omega) | (refine zH hb2 ?_; try clear hb2))
    | ((with_reducible refine CGd_b ?_ ?_) <;> intro hb <;> first | contradiction | refine zH hb ?_)
    | ((with_reducible refine CRes_id ?_); refine zS ?_)
    | ((with_reducible refine DStep_id ?_); refine zdP ?_; refine ⟨_, by first | fail | fail, fun _ => rfl, fun _ => rfl, rfl, (fun h => by first | cases h | fail), ?_⟩; try refine zS ?_)
    | ((with_reducible refine DStep_id ?_); refine zdW ?_; refine ⟨_, by first | fail | fail, fun _ => rfl, fun _ => rfl, rfl, ?_⟩; try refine zS ?_)
    | ((with_reducible refine DStep_id ?_); refine zdT [0, 1] ?_; refine ⟨_, _, by first | exact pop_ok (rws.map RW.row) n _ _ _ _ (.d (.sc (.pointer none))) none (by rw [List.length_map]; exact hn) hn6 (by rw [rowsAt_map _ _ _ (by omega)]; rfl) rfl | fail, ?_⟩; try refine zS ?_)
    | ((with_reducible refine DStep_id ?_); refine zdR [0, 1] ?_; refine ⟨_, by first | exact pop_ok (rws.map RW.row) n _ _ _ _ (.d (.sc (.pointer none))) none (by rw [List.length_map]; exact hn) hn6 (by rw [rowsAt_map _ _ _ (by omega)]; rfl) rfl | fail, ?_⟩; try refine zS ?_)
    | ((with_reducible refine AWP_c ?_); refine zcdT ?_)
    | ((with_reducible refine AWP_c ?_); refine zcdF ?_)
    | ((with_reducible refine AWP_c ?_); refine zcdN ?_ ?_ <;> intro hb hb2 <;> first | contradiction | (exfalso; omega) | ((try refine zH hb2 ?_); try clear hb2))
    | ((with_reducible refine AWP_c ?_); refine zcdD ?_ ?_ <;> intro hb hb2 <;> first | contradiction | (exfalso; omega) | ((try refine zH hb2 ?_); try clear hb2))
    | ((with_reducible refine AWP_c ?_); refine zcdM ?_ ?_ <;> intro hb <;> first | contradiction | (try refine zH hb ?_))
    | ((with_reducible refine AWP_c ?_); refine zcdB ?_ ?_ <;> intro hb <;> first | contradiction | (try refine zH hb ?_))
    | ((with_reducible refine awp_skip ?_); refine zS ?_)
    | with_reducible refine awp_block ?_
    | ((with_reducible refine awp_exit ?_); refine zS ?_)
    | ((with_reducible refine CallK_id ?_); refine zcF ?_; refine ⟨_, by first | fail | fail, fun _ => rfl, fun _ => rfl, rfl, ?_⟩; try refine zS ?_)
    | ((with_reducible refine CallK_id ?_); refine zcT [0, 1] ?_; refine ⟨_, _, by first | exact pop_ok (rws.map RW.row) n _ _ _ _ (.d (.sc (.pointer none))) none (by rw [List.length_map]; exact hn) hn6 (by rw [rowsAt_map _ _ _ (by omega)]; rfl) rfl | fail, ?_⟩; try refine zS ?_)
    | ((with_reducible refine awp_label ?_); try refine zS ?_)
    | ((with_reducible refine awp_goto ?_); try refine zS ?_)
    | ((with_reducible refine awp_scope0 ?_); try refine zS ?_)
    | exact True.intro
    | fail
    repeat' first
    | with_reducible refine awp_seq ?_
    | ((with_reducible refine awp_region ?_); refine zS ?_)
    | ((with_reducible refine Gd_nd ?_ ?_) <;> intro hb hb2 <;> first | contradiction | (exfalso; omega) | (refine zH hb2 ?_; try clear hb2))
    | ((with_reducible refine Gd_nb ?_ ?_) <;> intro hb <;> first | contradiction | refine zH hb ?_)
    | ((with_reducible refine Gd_d ?_ ?_) <;> intro hb hb2 <;> first | contradiction | (exfalso; omega) | (refine zH hb2 ?_; try clear hb2))
    | ((with_reducible refine Gd_b ?_ ?_) <;> intro hb <;> first | contradiction | refine zH hb ?_)
    | ((with_reducible refine Res_id ?_); refine zS ?_)
    | ((with_reducible refine awp_drawnW [999] ?_ ?_); rfl; refine zS ?_)
    | ((with_reducible refine awp_drawnA ?_ ?_); rfl; refine zS ?_)
    | ((with_reducible refine CGd_nd ?_ ?_) <;> intro hb hb2 <;> first | contradiction | (exfalso; omega) | (refine zH hb2 ?_; try clear hb2))
    | ((with_reducible refine CGd_nb ?_ ?_) <;> intro hb <;> first | contradiction | refine zH hb ?_)
    | ((with_reducible refine CGd_d ?_ ?_) <;> intro hb hb2 <;> first | contradiction | (exfalso; omega) | (refine zH hb2 ?_; try clear hb2))
    | ((with_reducible refine CGd_b ?_ ?_) <;> intro hb <;> first | contradiction | refine zH hb ?_)
    | ((with_reducible refine CRes_id ?_); refine zS ?_)
    | ((with_reducible refine DStep_id ?_); refine zdP ?_; refine ⟨_, by first | fail | fail, fun _ => rfl, fun _ => rfl, rfl, (fun h => by first | cases h | fail), ?_⟩; try refine zS ?_)
    | ((with_reducible refine DStep_id ?_); refine zdW ?_; refine ⟨_, by first | fail | fail, fun _ => rfl, fun _ => rfl, rfl, ?_⟩; try refine zS ?_)
    | ((with_reducible refine DStep_id ?_); refine zdT [0, 1, 2] ?_; refine ⟨_, _, by first | exact put_pre (t := ⟨(gt rws n).name, (gt rws n).text, ta, tk⟩) (n := n) hno hn (put_ok os (.mk (gt rws n).name ta tk (gt rws n).text) (rws.take n) (rws.map RW.row) n (by rw [List.length_take]; omega) hno.symm (by rw [List.length_map]; exact hn) (take_rows n) (by omega) hkk) | fail, ?_⟩; try refine zS ?_)
    | ((with_reducible refine DStep_id ?_); refine zdR [0, 1, 2] ?_; refine ⟨_, by first | exact put_pre (t := ⟨(gt rws n).name, (gt rws n).text, ta, tk⟩) (n := n) hno hn (put_ok os (.mk (gt rws n).name ta tk (gt rws n).text) (rws.take n) (rws.map RW.row) n (by rw [List.length_take]; omega) hno.symm (by rw [List.length_map]; exact hn) (take_rows n) (by omega) hkk) | fail, ?_⟩; try refine zS ?_)
    | ((with_reducible refine AWP_c ?_); refine zcdT ?_)
    | ((with_reducible refine AWP_c ?_); refine zcdF ?_)
    | ((with_reducible refine AWP_c ?_); refine zcdN ?_ ?_ <;> intro hb hb2 <;> first | contradiction | (exfalso; omega) | ((try refine zH hb2 ?_); try clear hb2))
    | ((with_reducible refine AWP_c ?_); refine zcdD ?_ ?_ <;> intro hb hb2 <;> first | contradiction | (exfalso; omega) | ((try refine zH hb2 ?_); try clear hb2))
    | ((with_reducible refine AWP_c ?_); refine zcdM ?_ ?_ <;> intro hb <;> first | contradiction | (try refine zH hb ?_))
    | ((with_reducible refine AWP_c ?_); refine zcdB ?_ ?_ <;> intro hb <;> first | contradiction | (try refine zH hb ?_))
    | ((with_reducible refine awp_skip ?_); refine zS ?_)
    | with_reducible refine awp_block ?_
    | ((with_reducible refine awp_exit ?_); refine zS ?_)
    | ((with_reducible refine CallK_id ?_); refine zcF ?_; refine ⟨_, by first | fail | fail, fun _ => rfl, fun _ => rfl, rfl, ?_⟩; try refine zS ?_)
    | ((with_reducible refine CallK_id ?_); refine zcT [0, 1, 2] ?_; refine ⟨_, _, by first | exact put_pre (t := ⟨(gt rws n).name, (gt rws n).text, ta, tk⟩) (n := n) hno hn (put_ok os (.mk (gt rws n).name ta tk (gt rws n).text) (rws.take n) (rws.map RW.row) n (by rw [List.length_take]; omega) hno.symm (by rw [List.length_map]; exact hn) (take_rows n) (by omega) hkk) | fail, ?_⟩; try refine zS ?_)
    | ((with_reducible refine awp_label ?_); try refine zS ?_)
    | ((with_reducible refine awp_goto ?_); try refine zS ?_)
    | ((with_reducible refine awp_scope0 ?_); try refine zS ?_)
    | exact True.intro
    | fail
    refine awp_ret (fin_hand (by first | rfl | (simp only [go_sem, Bool.not_not, List.mem_singleton, forall_eq, ↓reduceIte, if_pos, rowsAt_map, wrap64, wrapu8, List.getElem?_cons_zero, List.getElem?_cons_succ, Int.reduceToNat, Nat.reduceAdd, Nat.reduceBEq, Bool.or_false, Bool.false_or, Bool.true_or, Nat.reduceSub, Nat.reduceMul, Int.reduceAdd, Int.reduceEq, Int.reduceLT, Int.reduceLE, Int.reduceNeg, Nat.reduceLT, Nat.reduceLeDiff, Nat.reduceEqDiff]; rfl)) ?_)
    refine zT ?_
    exact (by exact zwc 1)
end Go.Eng
open Go Go.Proofs Go.RowKit
namespace Go.Eng
set_option linter.unusedSimpArgs false
set_option linter.unusedVariables false
set_option maxRecDepth 100000
set_option maxHeartbeats 8000000
def take0 (wh : Option El) (m : Mk) : Int × List OE × Option El :=
  if m.kind = 1 then (match wh with | some e => (4, [], some e) | none => (0, [newO m], none)) else (4, [], wh)
theorem take0_none (m : Mk) : AFn env 26 [P0, m.a] [some (.raw (parR [] none))] (aI (take0 none m).1) [some (.raw (parR (take0 none m).2.1 (take0 none m).2.2))] := by
  refine afn_body Tryd.func26 rfl (by decide) ?_
  simp only [Tryd.ntmps26, Tryd.results26, List.length_cons, List.length_nil, List.cons_append, List.nil_append, Nat.reduceAdd, Nat.reduceSub, List.replicate]
  refine awp_open fun rws hrl hrw => ?_
  obtain rfl : rws = [] := List.length_eq_zero_iff.1 hrl
  clear hrl hrw
  simp only [wC]
  repeat' first
  | with_reducible refine awp_seq ?_
  | ((with_reducible refine awp_region ?_); refine zS ?_)
  | ((with_reducible refine Gd_nd ?_ ?_) <;> intro hb hb2 <;> first | contradiction | (exfalso; omega) | (refine zH hb2 ?_; try clear hb2))
  | ((with_reducible refine Gd_nb ?_ ?_) <;> intro hb <;> first | contradiction | refine zH hb ?_)
  | ((with_reducible refine Gd_d ?_ ?_) <;> intro hb hb2 <;> first | contradiction | (exfalso; omega) | (refine zH hb2 ?_; try clear hb2))
  | ((with_reducible refine Gd_b ?_ ?_) <;> intro hb <;> first | contradiction | refine zH hb ?_)
  | ((with_reducible refine Res_id ?_); refine zS ?_)
  | ((with_reducible refine awp_drawnW [999] ?_ ?_); rfl; refine zS ?_)
  | ((with_reducible refine awp_drawnA ?_ ?_); rfl; refine zS ?_)
  | ((with_reducible refine CGd_nd ?_ ?_) <;> intro hb hb2 <;> first | contradiction | (exfalso; omega) | (refine zH hb2 ?_; try clear hb2))
  | ((with_reducible refine CGd_nb ?_ ?_) <;> intro hb <;> first | contradiction | refine zH hb ?_)
  | ((with_reducible refine CGd_d ?_ ?_) <;> intro hb hb2 <;> first | contradiction | (exfalso; omega) | (refine zH hb2 ?_; try clear hb2))
  | ((with_reducible refine CGd_b ?_ ?_) <;> intro hb <;> first | contradiction | refine zH hb ?_)
  | ((with_reducible refine CRes_id ?_); refine zS ?_)
  | ((with_reducible refine DStep_id ?_); refine zdP ?_; refine ⟨_, by first | fail | fail, fun _ => rfl, fun _ => rfl, rfl, (fun h => by first | cases h | fail), ?_⟩; try refine zS ?_)
  | ((with_reducible refine DStep_id ?_); refine zdW ?_; refine ⟨_, by first | fail | fail, fun _ => rfl, fun _ => rfl, rfl, ?_⟩; try refine zS ?_)
  | ((with_reducible refine AWP_c ?_); refine zcdT ?_)
  | ((with_reducible refine AWP_c ?_); refine zcdF ?_)
  | ((with_reducible refine AWP_c ?_); refine zcdN ?_ ?_ <;> intro hb hb2 <;> first | contradiction | (exfalso; omega) | ((try refine zH hb2 ?_); try clear hb2))
  | ((with_reducible refine AWP_c ?_); refine zcdD ?_ ?_ <;> intro hb hb2 <;> first | contradiction | (exfalso; omega) | ((try refine zH hb2 ?_); try clear hb2))
  | ((with_reducible refine AWP_c ?_); refine zcdM ?_ ?_ <;> intro hb <;> first | contradiction | (try refine zH hb ?_))
  | ((with_reducible refine AWP_c ?_); refine zcdB ?_ ?_ <;> intro hb <;> first | contradiction | (try refine zH hb ?_))
  | ((with_reducible refine awp_skip ?_); refine zS ?_)
  | with_reducible refine awp_block ?_
  | ((with_reducible refine awp_exit ?_); refine zS ?_)
  | ((with_reducible refine CallK_id ?_); refine zcF ?_; refine ⟨_, by first | fail | fail, fun _ => rfl, fun _ => rfl, rfl, ?_⟩; try refine zS ?_)
  | ((with_reducible refine awp_label ?_); try refine zS ?_)
  | ((with_reducible refine awp_goto ?_); try refine zS ?_)
  | ((with_reducible refine awp_scope0 ?_); try refine zS ?_)
  | exact True.intro
  | fail
  · have h4 : take0 none m = (0, [newO m], none) := by unfold take0; rw [if_pos (by assumption)]
    rw [h4]
    refine awp_drawnS [36] ?_ ?_
    · rfl
    refine zS ?_
    repeat' first
    | with_reducible refine awp_seq ?_
    | ((with_reducible refine awp_region ?_); refine zS ?_)
    | ((with_reducible refine Gd_nd ?_ ?_) <;> intro hb hb2 <;> first | contradiction | (exfalso; omega) | (refine zH hb2 ?_; try clear hb2))
    | ((with_reducible refine Gd_nb ?_ ?_) <;> intro hb <;> first | contradiction | refine zH hb ?_)
    | ((with_reducible refine Gd_d ?_ ?_) <;> intro hb hb2 <;> first | contradiction | (exfalso; omega) | (refine zH hb2 ?_; try clear hb2))
    | ((with_reducible refine Gd_b ?_ ?_) <;> intro hb <;> first | contradiction | refine zH hb ?_)
    | ((with_reducible refine Res_id ?_); refine zS ?_)
    | ((with_reducible refine awp_drawnW [999] ?_ ?_); rfl; refine zS ?_)
    | ((with_reducible refine awp_drawnA ?_ ?_); rfl; refine zS ?_)
    | ((with_reducible refine CGd_nd ?_ ?_) <;> intro hb hb2 <;> first | contradiction | (exfalso; omega) | (refine zH hb2 ?_; try clear hb2))
    | ((with_reducible refine CGd_nb ?_ ?_) <;> intro hb <;> first | contradiction | refine zH hb ?_)
    | ((with_reducible refine CGd_d ?_ ?_) <;> intro hb hb2 <;> first | contradiction | (exfalso; omega) | (refine zH hb2 ?_; try clear hb2))
    | ((with_reducible refine CGd_b ?_ ?_) <;> intro hb <;> first | contradiction | refine zH hb ?_)
    | ((with_reducible refine CRes_id ?_); refine zS ?_)
    | ((with_reducible refine DStep_id ?_); refine zdP ?_; refine ⟨_, by first | fail | fail, fun _ => rfl, fun _ => rfl, rfl, (fun h => by first | cases h | fail), ?_⟩; try refine zS ?_)
    | ((with_reducible refine DStep_id ?_); refine zdW ?_; refine ⟨_, by first | fail | fail, fun _ => rfl, fun _ => rfl, rfl, ?_⟩; try refine zS ?_)
    | ((with_reducible refine DStep_id ?_); refine zdT [0, 1] ?_; refine ⟨_, _, by first | exact push_ok [] _ 0 (.d (.sc (.pointer none))) rfl (by omega) rfl rfl | fail, ?_⟩; try refine zS ?_)
    | ((with_reducible refine AWP_c ?_); refine zcdT ?_)
    | ((with_reducible refine AWP_c ?_); refine zcdF ?_)
    | ((with_reducible refine AWP_c ?_); refine zcdN ?_ ?_ <;> intro hb hb2 <;> first | contradiction | (exfalso; omega) | ((try refine zH hb2 ?_); try clear hb2))
    | ((with_reducible refine AWP_c ?_); refine zcdD ?_ ?_ <;> intro hb hb2 <;> first | contradiction | (exfalso; omega) | ((try refine zH hb2 ?_); try clear hb2))
    | ((with_reducible refine AWP_c ?_); refine zcdM ?_ ?_ <;> intro hb <;> first | contradiction | (try refine zH hb ?_))
    | ((with_reducible refine AWP_c ?_); refine zcdB ?_ ?_ <;> intro hb <;> first | contradiction | (try refine zH hb ?_))
    | ((with_reducible refine awp_skip ?_); refine zS ?_)
    | with_reducible refine awp_block ?_
    | ((with_reducible refine awp_exit ?_); refine zS ?_)
    | ((with_reducible refine CallK_id ?_); refine zcF ?_; refine ⟨_, by first | fail | fail, fun _ => rfl, fun _ => rfl, rfl, ?_⟩; try refine zS ?_)
    | ((with_reducible refine CallK_id ?_); refine zcT [0, 1] ?_; refine ⟨_, _, by first | exact push_ok [] _ 0 (.d (.sc (.pointer none))) rfl (by omega) rfl rfl | fail, ?_⟩; try refine zS ?_)
    | ((with_reducible refine awp_label ?_); try refine zS ?_)
    | ((with_reducible refine awp_goto ?_); try refine zS ?_)
    | ((with_reducible refine awp_scope0 ?_); try refine zS ?_)
    | exact True.intro
    | fail
    refine awp_ret ?_
    exact (fin_parP (n := 1) (rws := []) (os := []) (nm := m.name) (ats := m.ats) (v := .int .i64 0) (wh := none) (by first | rfl | (simp only [go_sem, Bool.not_not, List.mem_singleton, forall_eq, ↓reduceIte, if_pos, rowsAt_map, wrap64, wrapu8, List.getElem?_cons_zero, List.getElem?_cons_succ, Int.reduceToNat, Nat.reduceAdd, Nat.reduceBEq, Bool.or_false, Bool.false_or, Bool.true_or, Nat.reduceSub, Nat.reduceMul, Int.reduceAdd, Int.reduceEq, Int.reduceLT, Int.reduceLE, Int.reduceNeg, Nat.reduceLT, Nat.reduceLeDiff, Nat.reduceEqDiff]; rfl)) rfl)
  · have h4 : take0 none m = (4, [], none) := by unfold take0; rw [if_neg (by assumption)]
    rw [h4]
    refine awp_ret ?_
    exact (fin_par0 (n := 0) (rws := []) (os := []) (v := .int .i64 4) (wh := none) (by first | rfl | (simp only [go_sem, Bool.not_not, List.mem_singleton, forall_eq, ↓reduceIte, if_pos, rowsAt_map, wrap64, wrapu8, List.getElem?_cons_zero, List.getElem?_cons_succ, Int.reduceToNat, Nat.reduceAdd, Nat.reduceBEq, Bool.or_false, Bool.false_or, Bool.true_or, Nat.reduceSub, Nat.reduceMul, Int.reduceAdd, Int.reduceEq, Int.reduceLT, Int.reduceLE, Int.reduceNeg, Nat.reduceLT, Nat.reduceLeDiff, Nat.reduceEqDiff]; rfl)) rfl)
theorem take0_some (e : El) (m : Mk) : AFn env 26 [P0, m.a] [some (.raw (parR [] (some e)))] (aI (take0 (some e) m).1) [some (.raw (parR (take0 (some e) m).2.1 (take0 (some e) m).2.2))] := by
  have h4 : (take0 (some e) m) = (4, [], some e) := by unfold take0; split <;> rfl
  rw [h4]
  have er : [D.sc (.string (st e.name)), .fz (e.ats.map At.row), .fz (e.kids.map El.row), .sc (.string (st e.text))] = e.row := (El.row_eq e).symm
  refine afn_body Tryd.func26 rfl (by decide) ?_
  simp only [Tryd.ntmps26, Tryd.results26, List.length_cons, List.length_nil, List.cons_append, List.nil_append, Nat.reduceAdd, Nat.reduceSub, List.replicate]
  refine awp_open fun rws hrl hrw => ?_
  obtain rfl : rws = [] := List.length_eq_zero_iff.1 hrl
  clear hrl hrw
  simp only [wC]
  repeat' first
  | with_reducible refine awp_seq ?_
  | ((with_reducible refine awp_region ?_); refine zS ?_)
  | ((with_reducible refine Gd_nd ?_ ?_) <;> intro hb hb2 <;> first | contradiction | (exfalso; omega) | (refine zH hb2 ?_; try clear hb2))
  | ((with_reducible refine Gd_nb ?_ ?_) <;> intro hb <;> first | contradiction | refine zH hb ?_)
  | ((with_reducible refine Gd_d ?_ ?_) <;> intro hb hb2 <;> first | contradiction | (exfalso; omega) | (refine zH hb2 ?_; try clear hb2))
  | ((with_reducible refine Gd_b ?_ ?_) <;> intro hb <;> first | contradiction | refine zH hb ?_)
  | ((with_reducible refine Res_id ?_); refine zS ?_)
  | ((with_reducible refine awp_drawnW [999] ?_ ?_); rfl; refine zS ?_)
  | ((with_reducible refine awp_drawnA ?_ ?_); rfl; refine zS ?_)
  | ((with_reducible refine CGd_nd ?_ ?_) <;> intro hb hb2 <;> first | contradiction | (exfalso; omega) | (refine zH hb2 ?_; try clear hb2))
  | ((with_reducible refine CGd_nb ?_ ?_) <;> intro hb <;> first | contradiction | refine zH hb ?_)
  | ((with_reducible refine CGd_d ?_ ?_) <;> intro hb hb2 <;> first | contradiction | (exfalso; omega) | (refine zH hb2 ?_; try clear hb2))
  | ((with_reducible refine CGd_b ?_ ?_) <;> intro hb <;> first | contradiction | refine zH hb ?_)
  | ((with_reducible refine CRes_id ?_); refine zS ?_)
  | ((with_reducible refine DStep_id ?_); refine zdP ?_; refine ⟨_, by first | fail | fail, fun _ => rfl, fun _ => rfl, rfl, (fun h => by first | cases h | fail), ?_⟩; try refine zS ?_)
  | ((with_reducible refine DStep_id ?_); refine zdW ?_; refine ⟨_, by first | fail | fail, fun _ => rfl, fun _ => rfl, rfl, ?_⟩; try refine zS ?_)
  | ((with_reducible refine DStep_id ?_); refine zdT [0, 1] ?_; refine ⟨_, _, by first | exact push_ok [] _ 0 (.d (.sc (.pointer none))) rfl (by omega) rfl rfl | fail, ?_⟩; try refine zS ?_)
  | ((with_reducible refine AWP_c ?_); refine zcdT ?_)
  | ((with_reducible refine AWP_c ?_); refine zcdF ?_)
  | ((with_reducible refine AWP_c ?_); refine zcdN ?_ ?_ <;> intro hb hb2 <;> first | contradiction | (exfalso; omega) | ((try refine zH hb2 ?_); try clear hb2))
  | ((with_reducible refine AWP_c ?_); refine zcdD ?_ ?_ <;> intro hb hb2 <;> first | contradiction | (exfalso; omega) | ((try refine zH hb2 ?_); try clear hb2))
  | ((with_reducible refine AWP_c ?_); refine zcdM ?_ ?_ <;> intro hb <;> first | contradiction | (try refine zH hb ?_))
  | ((with_reducible refine AWP_c ?_); refine zcdB ?_ ?_ <;> intro hb <;> first | contradiction | (try refine zH hb ?_))
  | ((with_reducible refine awp_skip ?_); refine zS ?_)
  | with_reducible refine awp_block ?_
  | ((with_reducible refine awp_exit ?_); refine zS ?_)
  | ((with_reducible refine CallK_id ?_); refine zcF ?_; refine ⟨_, by first | fail | fail, fun _ => rfl, fun _ => rfl, rfl, ?_⟩; try refine zS ?_)
  | ((with_reducible refine CallK_id ?_); refine zcT [0, 1] ?_; refine ⟨_, _, by first | exact push_ok [] _ 0 (.d (.sc (.pointer none))) rfl (by omega) rfl rfl | fail, ?_⟩; try refine zS ?_)
  | ((with_reducible refine awp_label ?_); try refine zS ?_)
  | ((with_reducible refine awp_goto ?_); try refine zS ?_)
  | ((with_reducible refine awp_scope0 ?_); try refine zS ?_)
  | exact True.intro
  | fail
  all_goals (rw [er]; refine awp_ret ?_; exact (fin_par0 (n := 0) (rws := []) (os := []) (v := .int .i64 4) (wh := some e) (by first | rfl | (simp only [go_sem, Bool.not_not, List.mem_singleton, forall_eq, ↓reduceIte, if_pos, rowsAt_map, wrap64, wrapu8, List.getElem?_cons_zero, List.getElem?_cons_succ, Int.reduceToNat, Nat.reduceAdd, Nat.reduceBEq, Bool.or_false, Bool.false_or, Bool.true_or, Nat.reduceSub, Nat.reduceMul, Int.reduceAdd, Int.reduceEq, Int.reduceLT, Int.reduceLE, Int.reduceNeg, Nat.reduceLT, Nat.reduceLeDiff, Nat.reduceEqDiff]; rfl)) rfl))
structure OkS (os : List OE) : Prop where
  len : os.length ≤ 24
  all : ∀ q ∈ os, q.kids.length ≤ 64
  low : ∀ q ∈ os.dropLast, q.kids.length < 64
def take (os : List OE) (wh : Option El) (m : Mk) : Int × List OE × Option El :=
  match os.getLast? with
  | none => take0 wh m
  | some t => take1 os.dropLast t m
theorem take_nil (wh : Option El) (m : Mk) : take [] wh m = take0 wh m := rfl
theorem take_snoc (os : List OE) (t : OE) (wh : Option El) (m : Mk) : take (os ++ [t]) wh m = take1 os t m := by simp [take]
theorem take_ok (os : List OE) (wh : Option El) (m : Mk) (h : OkS os) (hw : os ≠ [] → wh = none) : AFn env 26 [P0, m.a] [some (.raw (parR os wh))] (aI (take os wh m).1) [some (.raw (parR (take os wh m).2.1 (take os wh m).2.2))] := by
  rcases List.eq_nil_or_concat os with rfl | ⟨os0, t, e⟩
  · rw [take_nil]
    cases wh with
    | none => exact take0_none m
    | some e => exact take0_some e m
  · rw [List.concat_eq_append] at e
    subst e
    rw [take_snoc, hw (by simp)]
    have := h.len
    simp at this
    exact take1_ok os0 t m (by omega) (fun q hq => by have := h.low q (by simpa using hq); omega)
theorem take_okS (os : List OE) (wh : Option El) (m : Mk) (h : OkS os) : OkS (take os wh m).2.1 := by
  rcases List.eq_nil_or_concat os with rfl | ⟨os0, t, e⟩
  · rw [take_nil]
    unfold take0
    split
    · cases wh with
      | none => exact ⟨by simp, by simp [newO], by simp⟩
      | some e => exact h
    · exact h
  · rw [List.concat_eq_append] at e
    subst e
    rw [take_snoc]
    have h1 := h.len
    have h2 := h.all
    have h3 := h.low
    simp at h1 h3
    unfold take1
    split
    · split
      · exact h
      · split
        · exact h
        · rename_i hn
          refine ⟨by simp; omega, ?_, ?_⟩
          · intro q hq
            rcases List.mem_append.1 hq with hq | hq
            · exact h2 q hq
            · rw [List.mem_singleton.1 hq]; simp [newO]
          · intro q hq
            have hq' : q ∈ os0 ++ [t] := by
              have : (os0 ++ [t] ++ [newO m]).dropLast = os0 ++ [t] := List.dropLast_concat
              rw [this] at hq; exact hq
            rcases List.mem_append.1 hq' with hq' | hq'
            · exact h3 q hq'
            · rw [List.mem_singleton.1 hq']
              have := h2 t (by simp)
              omega
    · split
      · split
        · exact h
        · refine ⟨by simp; omega, ?_, ?_⟩
          · intro q hq
            rcases List.mem_append.1 hq with hq | hq
            · exact h2 q (by simp [hq])
            · rw [List.mem_singleton.1 hq]; exact h2 t (by simp)
          · intro q hq
            simp at hq
            exact h3 q hq
      · split
        · exact h
        · rcases List.eq_nil_or_concat os0 with rfl | ⟨os1, t1, e⟩
          · exact ⟨by simp [put1], by simp [put1], by simp [put1]⟩
          · rw [List.concat_eq_append] at e
            subst e
            simp only [put1_snoc]
            simp at h1
            refine ⟨by simp; omega, ?_, ?_⟩
            · intro q hq
              rcases List.mem_append.1 hq with hq | hq
              · exact h2 q (by simp [hq])
              · rw [List.mem_singleton.1 hq]
                have := h3 t1 (by simp)
                simp; omega
            · intro q hq
              simp at hq
              exact h3 q (by simp [hq])
theorem take_wh (os : List OE) (wh : Option El) (m : Mk) (hw : os ≠ [] → wh = none) : (take os wh m).2.1 ≠ [] → (take os wh m).2.2 = none := by
  rcases List.eq_nil_or_concat os with rfl | ⟨os0, t, e⟩
  · rw [take_nil]
    unfold take0
    split
    · cases wh with
      | none => intro _; rfl
      | some e => intro h; exact absurd rfl h
    · intro h; exact absurd rfl h
  · rw [List.concat_eq_append] at e
    subst e
    rw [take_snoc]
    unfold take1
    split
    · split
      · intro _; rfl
      · split
        · intro _; rfl
        · intro _; rfl
    · split
      · split
        · intro _; rfl
        · intro _; rfl
      · split
        · intro _; rfl
        · rcases List.eq_nil_or_concat os0 with rfl | ⟨os1, t1, e⟩
          · intro h; exact absurd rfl h
          · rw [List.concat_eq_append] at e
            subst e
            simp only [put1_snoc]
            intro _; trivial
end Go.Eng
