/- Each function of the program, walked over plain data: what it comes to, at all arguments. -/
import Derived.Test.YtmamiagddgldkaaDoorMb
import Derived.Test.YtmamiagddgldkaaDoorEg
open Go Go.Proofs
namespace Go.Eng
set_option linter.unusedSimpArgs false
set_option linter.unusedVariables false
set_option maxRecDepth 100000
set_option maxHeartbeats 8000000
def idxF {α : Type} (p : α → Bool) : List α → Nat → Int
  | [], _ => -1
  | x :: l, i => if p x = true then i else idxF p l (i + 1)
theorem idxF_lt {α : Type} {p : α → Bool} : ∀ {l : List α} {i : Nat}, idxF p l i < i + l.length ∧ (0 ≤ idxF p l i → i ≤ idxF p l i)
  | [], i => by simp [idxF]; omega
  | x :: l, i => by
    simp only [idxF, List.length_cons]
    split
    · omega
    · have := idxF_lt (p := p) (l := l) (i := i + 1); omega
theorem idxF_p {α : Type} [Inhabited α] {p : α → Bool} : ∀ {l : List α} {i : Nat}, 0 ≤ idxF p l i → p (gt l (idxF p l i - i).toNat) = true
  | [], i, h => by simp [idxF] at h
  | x :: l, i, h => by
    simp only [idxF] at h ⊢
    split
    · rename_i hp; simpa [gt] using hp
    · rename_i hp
      rw [if_neg hp] at h
      have h1 := (idxF_lt (p := p) (l := l) (i := i + 1)).2 h
      have h2 := idxF_p h
      have e : (idxF p l (i + 1) - i).toNat = (idxF p l (i + 1) - (i + 1 : Nat)).toNat + 1 := by omega
      rw [e]
      simpa [gt] using h2
theorem idxF_none {α : Type} {p : α → Bool} : ∀ {l : List α} {i : Nat}, 0 ≤ idxF p l i ↔ ∃ x ∈ l, p x = true
  | [], i => by simp [idxF]
  | x :: l, i => by
    simp only [idxF, List.mem_cons, exists_eq_or_imp]
    split
    · rename_i h; simp [h]
    · rename_i h; rw [idxF_none]; simp [h]
theorem take_gt {α : Type} [Inhabited α] {l : List α} {i : Nat} (h : i < l.length) : l.take (i + 1) = l.take i ++ [gt l i] := by
  rw [List.take_add_one, gt, List.getD_eq_getElem?_getD, List.getElem?_eq_getElem h]; rfl
theorem idxF_any {α : Type} (p : α → Bool) (l : List α) : decide (0 ≤ idxF p l 0) = l.any p := by
  rw [Bool.eq_iff_iff, decide_eq_true_eq, idxF_none, List.any_eq_true]
def bx (d : D) : Option Blk := some (.box [.d d])
attribute [go_sem] bx
theorem idxE_ok (l : List Ec) (f : FuncId) (p : Ec → Bool) (d1 d2 : D) (hl : l.length < 4611686018427387904) (hp : ∀ x ∈ l, AFn env f [x.a, .c (.ptr 0 0 0 0), .c (.ptr 1 0 0 0)] [bx d1, bx d2] (aB (p x)) [bx d1, bx d2]) :
    AFn env 45 [aF (l.map Ec.row), .c (.clo (.func f) [.ptr 0 0 0 0, .ptr 1 0 0 0])] [bx d1, bx d2] (aI (idxF p l 0)) [bx d1, bx d2] := by
  refine afn_body Tryd.func45 rfl (by decide) ?_
  simp only [Tryd.ntmps45, Tryd.results45, List.length_cons, List.length_nil, List.cons_append, List.nil_append, Nat.reduceAdd, Nat.reduceSub, List.replicate]
  repeat' first
  | with_reducible refine awp_seq ?_
  | ((with_reducible refine awp_region ?_); refine zS ?_)
  | ((with_reducible refine Gd_nd ?_ ?_) <;> intro hb hb2 <;> first | contradiction | (exfalso; omega) | (refine zH hb2 ?_; try clear hb2))
  | ((with_reducible refine Gd_nb ?_ ?_) <;> intro hb <;> first | contradiction | refine zH hb ?_)
  | ((with_reducible refine Gd_d ?_ ?_) <;> intro hb hb2 <;> first | contradiction | (exfalso; omega) | (refine zH hb2 ?_; try clear hb2))
  | ((with_reducible refine Gd_b ?_ ?_) <;> intro hb <;> first | contradiction | refine zH hb ?_)
  | ((with_reducible refine Res_id ?_); refine zS ?_)
  | ((with_reducible refine awp_drawnC ?_ ?_); rfl; refine zS ?_)
  | ((with_reducible refine awp_drawnA ?_ ?_); rfl; refine zS ?_)
  | ((with_reducible refine CGd_nd ?_ ?_) <;> intro hb hb2 <;> first | contradiction | (exfalso; omega) | (refine zH hb2 ?_; try clear hb2))
  | ((with_reducible refine CGd_nb ?_ ?_) <;> intro hb <;> first | contradiction | refine zH hb ?_)
  | ((with_reducible refine CGd_d ?_ ?_) <;> intro hb hb2 <;> first | contradiction | (exfalso; omega) | (refine zH hb2 ?_; try clear hb2))
  | ((with_reducible refine CGd_b ?_ ?_) <;> intro hb <;> first | contradiction | refine zH hb ?_)
  | ((with_reducible refine CRes_id ?_); refine zS ?_)
  | ((with_reducible refine DStep_id ?_); refine zdP ?_; refine ⟨_, by first | fail | fail, fun _ => rfl, fun _ => rfl, rfl, (fun h => by first | cases h | fail), ?_⟩; try refine zS ?_)
  | ((with_reducible refine DStep_id ?_); refine zdW ?_; refine ⟨_, by first | fail | fail, fun _ => rfl, fun _ => rfl, rfl, ?_⟩; try refine zS ?_)
  | ((with_reducible refine DStep_id ?_); refine zdT [0, 1] ?_; refine ⟨_, _, by first | exact hp _ (gt_mem (by omega)) | fail, ?_⟩; try refine zS ?_)
  | ((with_reducible refine AWP_c ?_); refine zcdT ?_)
  | ((with_reducible refine AWP_c ?_); refine zcdF ?_)
  | ((with_reducible refine AWP_c ?_); refine zcdN ?_ ?_ <;> intro hb hb2 <;> first | contradiction | (exfalso; omega) | ((try refine zH hb2 ?_); try clear hb2))
  | ((with_reducible refine AWP_c ?_); refine zcdD ?_ ?_ <;> intro hb hb2 <;> first | contradiction | (exfalso; omega) | ((try refine zH hb2 ?_); try clear hb2))
  | ((with_reducible refine AWP_c ?_); refine zcdM ?_ ?_ <;> intro hb <;> first | contradiction | (try refine zH hb ?_))
  | ((with_reducible refine AWP_c ?_); refine zcdB ?_ ?_ <;> intro hb <;> first | contradiction | (try refine zH hb ?_))
  | ((with_reducible refine awp_ret ?_); refine fin_r ?_)
  | ((with_reducible refine awp_ret ?_); refine fin_q ?_ ?_)
  | with_reducible refine fin_qn ?_ ?_
  | ((with_reducible refine awp_skip ?_); refine zS ?_)
  | with_reducible refine awp_block ?_
  | ((with_reducible refine awp_exit ?_); refine zS ?_)
  | ((with_reducible refine CallK_id ?_); refine zcF ?_; refine ⟨_, by first | fail | fail, fun _ => rfl, fun _ => rfl, rfl, ?_⟩; try refine zS ?_)
  | ((with_reducible refine CallK_id ?_); refine zcT [0, 1] ?_; refine ⟨_, _, by first | exact hp _ (gt_mem (by omega)) | fail, ?_⟩; try refine zS ?_)
  | ((with_reducible refine awp_label ?_); try refine zS ?_)
  | ((with_reducible refine awp_goto ?_); try refine zS ?_)
  | ((with_reducible refine awp_scope0 ?_); try refine zS ?_)
  | exact True.intro
  | fail
  refine awp_loopT (fun i : Nat => i ≤ l.length ∧ idxF p (l.drop i) i = idxF p l 0) (fun i => l.length - i) (fun i => [(8, aI i)]) (fun _ => [bx d1, bx d2]) 0 ⟨by omega, rfl⟩ (by exact zwl) ?_
  rintro i ⟨h1, h2⟩
  refine zT ?_
  repeat' first
  | with_reducible refine awp_seq ?_
  | ((with_reducible refine awp_region ?_); refine zS ?_)
  | ((with_reducible refine Gd_nd ?_ ?_) <;> intro hb hb2 <;> first | contradiction | (exfalso; omega) | (refine zH hb2 ?_; try clear hb2))
  | ((with_reducible refine Gd_nb ?_ ?_) <;> intro hb <;> first | contradiction | refine zH hb ?_)
  | ((with_reducible refine Gd_d ?_ ?_) <;> intro hb hb2 <;> first | contradiction | (exfalso; omega) | (refine zH hb2 ?_; try clear hb2))
  | ((with_reducible refine Gd_b ?_ ?_) <;> intro hb <;> first | contradiction | refine zH hb ?_)
  | ((with_reducible refine Res_id ?_); refine zS ?_)
  | ((with_reducible refine awp_drawnC ?_ ?_); rfl; refine zS ?_)
  | ((with_reducible refine awp_drawnA ?_ ?_); rfl; refine zS ?_)
  | ((with_reducible refine CGd_nd ?_ ?_) <;> intro hb hb2 <;> first | contradiction | (exfalso; omega) | (refine zH hb2 ?_; try clear hb2))
  | ((with_reducible refine CGd_nb ?_ ?_) <;> intro hb <;> first | contradiction | refine zH hb ?_)
  | ((with_reducible refine CGd_d ?_ ?_) <;> intro hb hb2 <;> first | contradiction | (exfalso; omega) | (refine zH hb2 ?_; try clear hb2))
  | ((with_reducible refine CGd_b ?_ ?_) <;> intro hb <;> first | contradiction | refine zH hb ?_)
  | ((with_reducible refine CRes_id ?_); refine zS ?_)
  | ((with_reducible refine DStep_id ?_); refine zdP ?_; refine ⟨_, by first | fail | fail, fun _ => rfl, fun _ => rfl, rfl, (fun h => by first | cases h | fail), ?_⟩; try refine zS ?_)
  | ((with_reducible refine DStep_id ?_); refine zdW ?_; refine ⟨_, by first | fail | fail, fun _ => rfl, fun _ => rfl, rfl, ?_⟩; try refine zS ?_)
  | ((with_reducible refine DStep_id ?_); refine zdT [0, 1] ?_; refine ⟨_, _, by first | exact hp _ (gt_mem (by omega)) | fail, ?_⟩; try refine zS ?_)
  | ((with_reducible refine AWP_c ?_); refine zcdT ?_)
  | ((with_reducible refine AWP_c ?_); refine zcdF ?_)
  | ((with_reducible refine AWP_c ?_); refine zcdN ?_ ?_ <;> intro hb hb2 <;> first | contradiction | (exfalso; omega) | ((try refine zH hb2 ?_); try clear hb2))
  | ((with_reducible refine AWP_c ?_); refine zcdD ?_ ?_ <;> intro hb hb2 <;> first | contradiction | (exfalso; omega) | ((try refine zH hb2 ?_); try clear hb2))
  | ((with_reducible refine AWP_c ?_); refine zcdM ?_ ?_ <;> intro hb <;> first | contradiction | (try refine zH hb ?_))
  | ((with_reducible refine AWP_c ?_); refine zcdB ?_ ?_ <;> intro hb <;> first | contradiction | (try refine zH hb ?_))
  | ((with_reducible refine awp_ret ?_); refine fin_r ?_)
  | ((with_reducible refine awp_ret ?_); refine fin_q ?_ ?_)
  | with_reducible refine fin_qn ?_ ?_
  | ((with_reducible refine awp_skip ?_); refine zS ?_)
  | with_reducible refine awp_block ?_
  | ((with_reducible refine awp_exit ?_); refine zS ?_)
  | ((with_reducible refine CallK_id ?_); refine zcF ?_; refine ⟨_, by first | fail | fail, fun _ => rfl, fun _ => rfl, rfl, ?_⟩; try refine zS ?_)
  | ((with_reducible refine CallK_id ?_); refine zcT [0, 1] ?_; refine ⟨_, _, by first | exact hp _ (gt_mem (by omega)) | fail, ?_⟩; try refine zS ?_)
  | ((with_reducible refine awp_label ?_); try refine zS ?_)
  | ((with_reducible refine awp_goto ?_); try refine zS ?_)
  | ((with_reducible refine awp_scope0 ?_); try refine zS ?_)
  | exact True.intro
  | fail
  · have hi : i < l.length := by omega
    rw [← h2, drop_gt hi, idxF, if_pos (by simp [hb])]
  · have hi : i < l.length := by omega
    exact ⟨i + 1, ⟨by omega, by rw [← h2, drop_gt hi, idxF, if_neg (by simp [hb])]⟩, by omega, wk_le (by simp only [go_sem, Bool.not_not, List.mem_singleton, forall_eq, ↓reduceIte, if_pos, rowsAt_map, wrap64, wrapu8, List.getElem?_cons_zero, List.getElem?_cons_succ, Int.reduceToNat, Nat.reduceAdd, Nat.reduceBEq, Bool.or_false, Bool.false_or, Bool.true_or, Nat.reduceSub, Nat.reduceMul, Int.reduceAdd, Int.reduceEq, Int.reduceLT, Int.reduceLE, Int.reduceNeg, Nat.reduceLT, Nat.reduceLeDiff, Nat.reduceEqDiff]; simp) (by simp only [go_sem, Bool.not_not, List.mem_singleton, forall_eq, ↓reduceIte, if_pos, rowsAt_map, wrap64, wrapu8, List.getElem?_cons_zero, List.getElem?_cons_succ, Int.reduceToNat, Nat.reduceAdd, Nat.reduceBEq, Bool.or_false, Bool.false_or, Bool.true_or, Nat.reduceSub, Nat.reduceMul, Int.reduceAdd, Int.reduceEq, Int.reduceLT, Int.reduceLE, Int.reduceNeg, Nat.reduceLT, Nat.reduceLeDiff, Nat.reduceEqDiff])⟩
  · have hi : i = l.length := by omega
    subst hi
    rw [← h2, List.drop_length, idxF]
theorem esc1_ok (e : Ec) (s : Str) (i : Nat) (hi : i < s.length) : AFn env 46 [e.a, .c (.ptr 0 0 0 0), .c (.ptr 1 0 0 0)] [bx (dS s), bx (dI i)] (aB (decide (e.c = byteAt s i))) [bx (dS s), bx (dI i)] := by
  refine afn_body Tryd.func46 rfl (by decide) ?_
  simp only [Tryd.ntmps46, Tryd.results46, List.length_cons, List.length_nil, List.cons_append, List.nil_append, Nat.reduceAdd, Nat.reduceSub, List.replicate]
  repeat' first
  | with_reducible refine awp_seq ?_
  | ((with_reducible refine awp_region ?_); refine zS ?_)
  | ((with_reducible refine Gd_nd ?_ ?_) <;> intro hb hb2 <;> first | contradiction | (exfalso; omega) | (refine zH hb2 ?_; try clear hb2))
  | ((with_reducible refine Gd_nb ?_ ?_) <;> intro hb <;> first | contradiction | refine zH hb ?_)
  | ((with_reducible refine Gd_d ?_ ?_) <;> intro hb hb2 <;> first | contradiction | (exfalso; omega) | (refine zH hb2 ?_; try clear hb2))
  | ((with_reducible refine Gd_b ?_ ?_) <;> intro hb <;> first | contradiction | refine zH hb ?_)
  | ((with_reducible refine Res_id ?_); refine zS ?_)
  | ((with_reducible refine awp_drawnC ?_ ?_); rfl; refine zS ?_)
  | ((with_reducible refine awp_drawnA ?_ ?_); rfl; refine zS ?_)
  | ((with_reducible refine CGd_nd ?_ ?_) <;> intro hb hb2 <;> first | contradiction | (exfalso; omega) | (refine zH hb2 ?_; try clear hb2))
  | ((with_reducible refine CGd_nb ?_ ?_) <;> intro hb <;> first | contradiction | refine zH hb ?_)
  | ((with_reducible refine CGd_d ?_ ?_) <;> intro hb hb2 <;> first | contradiction | (exfalso; omega) | (refine zH hb2 ?_; try clear hb2))
  | ((with_reducible refine CGd_b ?_ ?_) <;> intro hb <;> first | contradiction | refine zH hb ?_)
  | ((with_reducible refine CRes_id ?_); refine zS ?_)
  | ((with_reducible refine DStep_id ?_); refine zdP ?_; refine ⟨_, by first | fail | fail, fun _ => rfl, fun _ => rfl, rfl, (fun h => by first | cases h | fail), ?_⟩; try refine zS ?_)
  | ((with_reducible refine DStep_id ?_); refine zdW ?_; refine ⟨_, by first | fail | fail, fun _ => rfl, fun _ => rfl, rfl, ?_⟩; try refine zS ?_)
  | ((with_reducible refine DStep_id ?_); refine zdT [0, 1] ?_; refine ⟨_, _, by first | exact hp _ (gt_mem (by omega)) | fail, ?_⟩; try refine zS ?_)
  | ((with_reducible refine AWP_c ?_); refine zcdT ?_)
  | ((with_reducible refine AWP_c ?_); refine zcdF ?_)
  | ((with_reducible refine AWP_c ?_); refine zcdN ?_ ?_ <;> intro hb hb2 <;> first | contradiction | (exfalso; omega) | ((try refine zH hb2 ?_); try clear hb2))
  | ((with_reducible refine AWP_c ?_); refine zcdD ?_ ?_ <;> intro hb hb2 <;> first | contradiction | (exfalso; omega) | ((try refine zH hb2 ?_); try clear hb2))
  | ((with_reducible refine AWP_c ?_); refine zcdM ?_ ?_ <;> intro hb <;> first | contradiction | (try refine zH hb ?_))
  | ((with_reducible refine AWP_c ?_); refine zcdB ?_ ?_ <;> intro hb <;> first | contradiction | (try refine zH hb ?_))
  | ((with_reducible refine awp_ret ?_); refine fin_r ?_)
  | ((with_reducible refine awp_ret ?_); refine fin_q ?_ ?_)
  | with_reducible refine fin_qn ?_ ?_
  | ((with_reducible refine awp_skip ?_); refine zS ?_)
  | with_reducible refine awp_block ?_
  | ((with_reducible refine awp_exit ?_); refine zS ?_)
  | ((with_reducible refine CallK_id ?_); refine zcF ?_; refine ⟨_, by first | fail | fail, fun _ => rfl, fun _ => rfl, rfl, ?_⟩; try refine zS ?_)
  | ((with_reducible refine CallK_id ?_); refine zcT [0, 1] ?_; refine ⟨_, _, by first | exact hp _ (gt_mem (by omega)) | fail, ?_⟩; try refine zS ?_)
  | ((with_reducible refine awp_label ?_); try refine zS ?_)
  | ((with_reducible refine awp_goto ?_); try refine zS ?_)
  | ((with_reducible refine awp_scope0 ?_); try refine zS ?_)
  | exact True.intro
  | fail
  all_goals (first | rfl | (simp [go_sem]; done) | trace_state)
theorem mean1_ok (e : Ec) (s : Str) (i : Nat) (hi : i < s.length) : AFn env 68 [e.a, .c (.ptr 0 0 0 0), .c (.ptr 1 0 0 0)] [bx (dS s), bx (dI i)] (aB (pfx (s.drop i) e.s)) [bx (dS s), bx (dI i)] := by
  refine afn_body Tryd.func68 rfl (by decide) ?_
  simp only [Tryd.ntmps68, Tryd.results68, List.length_cons, List.length_nil, List.cons_append, List.nil_append, Nat.reduceAdd, Nat.reduceSub, List.replicate]
  repeat' first
  | with_reducible refine awp_seq ?_
  | ((with_reducible refine awp_region ?_); refine zS ?_)
  | ((with_reducible refine Gd_nd ?_ ?_) <;> intro hb hb2 <;> first | contradiction | (exfalso; omega) | (refine zH hb2 ?_; try clear hb2))
  | ((with_reducible refine Gd_nb ?_ ?_) <;> intro hb <;> first | contradiction | refine zH hb ?_)
  | ((with_reducible refine Gd_d ?_ ?_) <;> intro hb hb2 <;> first | contradiction | (exfalso; omega) | (refine zH hb2 ?_; try clear hb2))
  | ((with_reducible refine Gd_b ?_ ?_) <;> intro hb <;> first | contradiction | refine zH hb ?_)
  | ((with_reducible refine Res_id ?_); refine zS ?_)
  | ((with_reducible refine awp_drawnC ?_ ?_); rfl; refine zS ?_)
  | ((with_reducible refine awp_drawnA ?_ ?_); rfl; refine zS ?_)
  | ((with_reducible refine CGd_nd ?_ ?_) <;> intro hb hb2 <;> first | contradiction | (exfalso; omega) | (refine zH hb2 ?_; try clear hb2))
  | ((with_reducible refine CGd_nb ?_ ?_) <;> intro hb <;> first | contradiction | refine zH hb ?_)
  | ((with_reducible refine CGd_d ?_ ?_) <;> intro hb hb2 <;> first | contradiction | (exfalso; omega) | (refine zH hb2 ?_; try clear hb2))
  | ((with_reducible refine CGd_b ?_ ?_) <;> intro hb <;> first | contradiction | refine zH hb ?_)
  | ((with_reducible refine CRes_id ?_); refine zS ?_)
  | ((with_reducible refine DStep_id ?_); refine zdP ?_; refine ⟨_, by first | exact hasPrefix_ok _ _ | fail, fun _ => rfl, fun _ => rfl, rfl, (fun h => by first | cases h | fail), ?_⟩; try refine zS ?_)
  | ((with_reducible refine DStep_id ?_); refine zdW ?_; refine ⟨_, by first | exact hasPrefix_ok _ _ | fail, fun _ => rfl, fun _ => rfl, rfl, ?_⟩; try refine zS ?_)
  | ((with_reducible refine AWP_c ?_); refine zcdT ?_)
  | ((with_reducible refine AWP_c ?_); refine zcdF ?_)
  | ((with_reducible refine AWP_c ?_); refine zcdN ?_ ?_ <;> intro hb hb2 <;> first | contradiction | (exfalso; omega) | ((try refine zH hb2 ?_); try clear hb2))
  | ((with_reducible refine AWP_c ?_); refine zcdD ?_ ?_ <;> intro hb hb2 <;> first | contradiction | (exfalso; omega) | ((try refine zH hb2 ?_); try clear hb2))
  | ((with_reducible refine AWP_c ?_); refine zcdM ?_ ?_ <;> intro hb <;> first | contradiction | (try refine zH hb ?_))
  | ((with_reducible refine AWP_c ?_); refine zcdB ?_ ?_ <;> intro hb <;> first | contradiction | (try refine zH hb ?_))
  | ((with_reducible refine awp_ret ?_); refine fin_r ?_)
  | ((with_reducible refine awp_ret ?_); refine fin_q ?_ ?_)
  | with_reducible refine fin_qn ?_ ?_
  | ((with_reducible refine awp_skip ?_); refine zS ?_)
  | with_reducible refine awp_block ?_
  | ((with_reducible refine awp_exit ?_); refine zS ?_)
  | ((with_reducible refine CallK_id ?_); refine zcF ?_; refine ⟨_, by first | exact hasPrefix_ok _ _ | fail, fun _ => rfl, fun _ => rfl, rfl, ?_⟩; try refine zS ?_)
  | ((with_reducible refine awp_label ?_); try refine zS ?_)
  | ((with_reducible refine awp_goto ?_); try refine zS ?_)
  | ((with_reducible refine awp_scope0 ?_); try refine zS ?_)
  | exact True.intro
  | fail
  all_goals (first | rfl | (simp [go_sem]; done) | trace_state)
theorem cut_ok (s : Str) (f : FuncId) (p : Int → Bool) (hs : s.length < 4611686018427387904) (hp : ∀ c, AFn env f [aU c] [] (aB (p c)) []) :
    AFn env 51 [aS s, .c (.clo (.func f) [])] [] (.tup [aS (s.takeWhile fun c => p c.toNat), aS (s.dropWhile fun c => p c.toNat)]) [] := by
  refine afn_body Tryd.func51 rfl (by decide) ?_
  simp only [Tryd.ntmps51, Tryd.results51, List.length_cons, List.length_nil, List.cons_append, List.nil_append, Nat.reduceAdd, Nat.reduceSub, List.replicate]
  repeat' first
  | with_reducible refine awp_seq ?_
  | ((with_reducible refine awp_region ?_); refine zS ?_)
  | ((with_reducible refine Gd_nd ?_ ?_) <;> intro hb hb2 <;> first | contradiction | (exfalso; omega) | (refine zH hb2 ?_; try clear hb2))
  | ((with_reducible refine Gd_nb ?_ ?_) <;> intro hb <;> first | contradiction | refine zH hb ?_)
  | ((with_reducible refine Gd_d ?_ ?_) <;> intro hb hb2 <;> first | contradiction | (exfalso; omega) | (refine zH hb2 ?_; try clear hb2))
  | ((with_reducible refine Gd_b ?_ ?_) <;> intro hb <;> first | contradiction | refine zH hb ?_)
  | ((with_reducible refine Res_id ?_); refine zS ?_)
  | ((with_reducible refine awp_drawnC ?_ ?_); rfl; refine zS ?_)
  | ((with_reducible refine awp_drawnA ?_ ?_); rfl; refine zS ?_)
  | ((with_reducible refine CGd_nd ?_ ?_) <;> intro hb hb2 <;> first | contradiction | (exfalso; omega) | (refine zH hb2 ?_; try clear hb2))
  | ((with_reducible refine CGd_nb ?_ ?_) <;> intro hb <;> first | contradiction | refine zH hb ?_)
  | ((with_reducible refine CGd_d ?_ ?_) <;> intro hb hb2 <;> first | contradiction | (exfalso; omega) | (refine zH hb2 ?_; try clear hb2))
  | ((with_reducible refine CGd_b ?_ ?_) <;> intro hb <;> first | contradiction | refine zH hb ?_)
  | ((with_reducible refine CRes_id ?_); refine zS ?_)
  | ((with_reducible refine DStep_id ?_); refine zdP ?_; refine ⟨_, by first | exact hp _ | fail, fun _ => rfl, fun _ => rfl, rfl, (fun h => by first | cases h | fail), ?_⟩; try refine zS ?_)
  | ((with_reducible refine DStep_id ?_); refine zdW ?_; refine ⟨_, by first | exact hp _ | fail, fun _ => rfl, fun _ => rfl, rfl, ?_⟩; try refine zS ?_)
  | ((with_reducible refine AWP_c ?_); refine zcdT ?_)
  | ((with_reducible refine AWP_c ?_); refine zcdF ?_)
  | ((with_reducible refine AWP_c ?_); refine zcdN ?_ ?_ <;> intro hb hb2 <;> first | contradiction | (exfalso; omega) | ((try refine zH hb2 ?_); try clear hb2))
  | ((with_reducible refine AWP_c ?_); refine zcdD ?_ ?_ <;> intro hb hb2 <;> first | contradiction | (exfalso; omega) | ((try refine zH hb2 ?_); try clear hb2))
  | ((with_reducible refine AWP_c ?_); refine zcdM ?_ ?_ <;> intro hb <;> first | contradiction | (try refine zH hb ?_))
  | ((with_reducible refine AWP_c ?_); refine zcdB ?_ ?_ <;> intro hb <;> first | contradiction | (try refine zH hb ?_))
  | ((with_reducible refine awp_ret ?_); refine fin_r ?_)
  | ((with_reducible refine awp_ret ?_); refine fin_q ?_ ?_)
  | with_reducible refine fin_qn ?_ ?_
  | ((with_reducible refine awp_skip ?_); refine zS ?_)
  | with_reducible refine awp_block ?_
  | ((with_reducible refine awp_exit ?_); refine zS ?_)
  | ((with_reducible refine CallK_id ?_); refine zcF ?_; refine ⟨_, by first | exact hp _ | fail, fun _ => rfl, fun _ => rfl, rfl, ?_⟩; try refine zS ?_)
  | ((with_reducible refine awp_label ?_); try refine zS ?_)
  | ((with_reducible refine awp_goto ?_); try refine zS ?_)
  | ((with_reducible refine awp_scope0 ?_); try refine zS ?_)
  | exact True.intro
  | fail
  refine awp_loopT (fun i : Nat => i ≤ s.length ∧ (s.takeWhile fun c => p c.toNat) = s.take i ++ (s.drop i).takeWhile (fun c => p c.toNat) ∧ (s.dropWhile fun c => p c.toNat) = (s.drop i).dropWhile (fun c => p c.toNat)) (fun i => s.length - i) (fun i => [(6, aI i)]) (fun _ => []) 0 ⟨by omega, by simp, rfl⟩ (by exact zwl) ?_
  rintro i ⟨h1, h2, h3⟩
  refine zT ?_
  repeat' first
  | with_reducible refine awp_seq ?_
  | ((with_reducible refine awp_region ?_); refine zS ?_)
  | ((with_reducible refine Gd_nd ?_ ?_) <;> intro hb hb2 <;> first | contradiction | (exfalso; omega) | (refine zH hb2 ?_; try clear hb2))
  | ((with_reducible refine Gd_nb ?_ ?_) <;> intro hb <;> first | contradiction | refine zH hb ?_)
  | ((with_reducible refine Gd_d ?_ ?_) <;> intro hb hb2 <;> first | contradiction | (exfalso; omega) | (refine zH hb2 ?_; try clear hb2))
  | ((with_reducible refine Gd_b ?_ ?_) <;> intro hb <;> first | contradiction | refine zH hb ?_)
  | ((with_reducible refine Res_id ?_); refine zS ?_)
  | ((with_reducible refine awp_drawnC ?_ ?_); rfl; refine zS ?_)
  | ((with_reducible refine awp_drawnA ?_ ?_); rfl; refine zS ?_)
  | ((with_reducible refine CGd_nd ?_ ?_) <;> intro hb hb2 <;> first | contradiction | (exfalso; omega) | (refine zH hb2 ?_; try clear hb2))
  | ((with_reducible refine CGd_nb ?_ ?_) <;> intro hb <;> first | contradiction | refine zH hb ?_)
  | ((with_reducible refine CGd_d ?_ ?_) <;> intro hb hb2 <;> first | contradiction | (exfalso; omega) | (refine zH hb2 ?_; try clear hb2))
  | ((with_reducible refine CGd_b ?_ ?_) <;> intro hb <;> first | contradiction | refine zH hb ?_)
  | ((with_reducible refine CRes_id ?_); refine zS ?_)
  | ((with_reducible refine DStep_id ?_); refine zdP ?_; refine ⟨_, by first | exact hp _ | fail, fun _ => rfl, fun _ => rfl, rfl, (fun h => by first | cases h | fail), ?_⟩; try refine zS ?_)
  | ((with_reducible refine DStep_id ?_); refine zdW ?_; refine ⟨_, by first | exact hp _ | fail, fun _ => rfl, fun _ => rfl, rfl, ?_⟩; try refine zS ?_)
  | ((with_reducible refine AWP_c ?_); refine zcdT ?_)
  | ((with_reducible refine AWP_c ?_); refine zcdF ?_)
  | ((with_reducible refine AWP_c ?_); refine zcdN ?_ ?_ <;> intro hb hb2 <;> first | contradiction | (exfalso; omega) | ((try refine zH hb2 ?_); try clear hb2))
  | ((with_reducible refine AWP_c ?_); refine zcdD ?_ ?_ <;> intro hb hb2 <;> first | contradiction | (exfalso; omega) | ((try refine zH hb2 ?_); try clear hb2))
  | ((with_reducible refine AWP_c ?_); refine zcdM ?_ ?_ <;> intro hb <;> first | contradiction | (try refine zH hb ?_))
  | ((with_reducible refine AWP_c ?_); refine zcdB ?_ ?_ <;> intro hb <;> first | contradiction | (try refine zH hb ?_))
  | ((with_reducible refine awp_ret ?_); refine fin_r ?_)
  | ((with_reducible refine awp_ret ?_); refine fin_q ?_ ?_)
  | with_reducible refine fin_qn ?_ ?_
  | ((with_reducible refine awp_skip ?_); refine zS ?_)
  | with_reducible refine awp_block ?_
  | ((with_reducible refine awp_exit ?_); refine zS ?_)
  | ((with_reducible refine CallK_id ?_); refine zcF ?_; refine ⟨_, by first | exact hp _ | fail, fun _ => rfl, fun _ => rfl, rfl, ?_⟩; try refine zS ?_)
  | ((with_reducible refine awp_label ?_); try refine zS ?_)
  | ((with_reducible refine awp_goto ?_); try refine zS ?_)
  | ((with_reducible refine awp_scope0 ?_); try refine zS ?_)
  | exact True.intro
  | fail
  · have hi : i < s.length := by omega
    have hc : p ((gt s i).toNat : Int) = true := by first | assumption | simpa [byteAt_gt] using ‹_›
    exact ⟨i + 1, ⟨by omega, by rw [h2, drop_gt hi, List.takeWhile_cons, if_pos hc, take_gt hi]; simp, by rw [h3, drop_gt hi, List.dropWhile_cons, if_pos hc]⟩, by omega, wk_le (by simp only [go_sem, Bool.not_not, List.mem_singleton, forall_eq, ↓reduceIte, if_pos, rowsAt_map, wrap64, wrapu8, List.getElem?_cons_zero, List.getElem?_cons_succ, Int.reduceToNat, Nat.reduceAdd, Nat.reduceBEq, Bool.or_false, Bool.false_or, Bool.true_or, Nat.reduceSub, Nat.reduceMul, Int.reduceAdd, Int.reduceEq, Int.reduceLT, Int.reduceLE, Int.reduceNeg, Nat.reduceLT, Nat.reduceLeDiff, Nat.reduceEqDiff]; simp) (by simp only [go_sem, Bool.not_not, List.mem_singleton, forall_eq, ↓reduceIte, if_pos, rowsAt_map, wrap64, wrapu8, List.getElem?_cons_zero, List.getElem?_cons_succ, Int.reduceToNat, Nat.reduceAdd, Nat.reduceBEq, Bool.or_false, Bool.false_or, Bool.true_or, Nat.reduceSub, Nat.reduceMul, Int.reduceAdd, Int.reduceEq, Int.reduceLT, Int.reduceLE, Int.reduceNeg, Nat.reduceLT, Nat.reduceLeDiff, Nat.reduceEqDiff])⟩
  · have hi : i < s.length := by omega
    have hc : p ((gt s i).toNat : Int) = false := by first | assumption | simpa [byteAt_gt] using ‹_›
    rw [h2, h3, drop_gt hi, List.takeWhile_cons, List.dropWhile_cons, if_neg (by simp [hc]), if_neg (by simp [hc])]; simp
  · rw [h2, h3, List.drop_eq_nil_of_le (by omega)]; simp
theorem named_ok (s : Str) (hs : s.length < 4611686018427387904) : AFn env 49 [aS s] [] (.tup [aS (s.takeWhile ptU), aS (s.dropWhile ptU), aB (isName (s.takeWhile ptU))]) [] := by
  refine afn_body Tryd.func49 rfl (by decide) ?_
  simp only [Tryd.ntmps49, Tryd.results49, List.length_cons, List.length_nil, List.cons_append, List.nil_append, Nat.reduceAdd, Nat.reduceSub, List.replicate]
  repeat' first
  | with_reducible refine awp_seq ?_
  | ((with_reducible refine awp_region ?_); refine zS ?_)
  | ((with_reducible refine Gd_nd ?_ ?_) <;> intro hb hb2 <;> first | contradiction | (exfalso; omega) | (refine zH hb2 ?_; try clear hb2))
  | ((with_reducible refine Gd_nb ?_ ?_) <;> intro hb <;> first | contradiction | refine zH hb ?_)
  | ((with_reducible refine Gd_d ?_ ?_) <;> intro hb hb2 <;> first | contradiction | (exfalso; omega) | (refine zH hb2 ?_; try clear hb2))
  | ((with_reducible refine Gd_b ?_ ?_) <;> intro hb <;> first | contradiction | refine zH hb ?_)
  | ((with_reducible refine Res_id ?_); refine zS ?_)
  | ((with_reducible refine awp_drawnC ?_ ?_); rfl; refine zS ?_)
  | ((with_reducible refine awp_drawnA ?_ ?_); rfl; refine zS ?_)
  | ((with_reducible refine CGd_nd ?_ ?_) <;> intro hb hb2 <;> first | contradiction | (exfalso; omega) | (refine zH hb2 ?_; try clear hb2))
  | ((with_reducible refine CGd_nb ?_ ?_) <;> intro hb <;> first | contradiction | refine zH hb ?_)
  | ((with_reducible refine CGd_d ?_ ?_) <;> intro hb hb2 <;> first | contradiction | (exfalso; omega) | (refine zH hb2 ?_; try clear hb2))
  | ((with_reducible refine CGd_b ?_ ?_) <;> intro hb <;> first | contradiction | refine zH hb ?_)
  | ((with_reducible refine CRes_id ?_); refine zS ?_)
  | ((with_reducible refine DStep_id ?_); refine zdP ?_; refine ⟨_, by first | exact cut_ok s _ partF hs part_ok | exact name_ok _ | fail, fun _ => rfl, fun _ => rfl, rfl, (fun h => by first | cases h | fail), ?_⟩; try refine zS ?_)
  | ((with_reducible refine DStep_id ?_); refine zdW ?_; refine ⟨_, by first | exact cut_ok s _ partF hs part_ok | exact name_ok _ | fail, fun _ => rfl, fun _ => rfl, rfl, ?_⟩; try refine zS ?_)
  | ((with_reducible refine AWP_c ?_); refine zcdT ?_)
  | ((with_reducible refine AWP_c ?_); refine zcdF ?_)
  | ((with_reducible refine AWP_c ?_); refine zcdN ?_ ?_ <;> intro hb hb2 <;> first | contradiction | (exfalso; omega) | ((try refine zH hb2 ?_); try clear hb2))
  | ((with_reducible refine AWP_c ?_); refine zcdD ?_ ?_ <;> intro hb hb2 <;> first | contradiction | (exfalso; omega) | ((try refine zH hb2 ?_); try clear hb2))
  | ((with_reducible refine AWP_c ?_); refine zcdM ?_ ?_ <;> intro hb <;> first | contradiction | (try refine zH hb ?_))
  | ((with_reducible refine AWP_c ?_); refine zcdB ?_ ?_ <;> intro hb <;> first | contradiction | (try refine zH hb ?_))
  | ((with_reducible refine awp_ret ?_); refine fin_r ?_)
  | ((with_reducible refine awp_ret ?_); refine fin_q ?_ ?_)
  | with_reducible refine fin_qn ?_ ?_
  | ((with_reducible refine awp_skip ?_); refine zS ?_)
  | with_reducible refine awp_block ?_
  | ((with_reducible refine awp_exit ?_); refine zS ?_)
  | ((with_reducible refine CallK_id ?_); refine zcF ?_; refine ⟨_, by first | exact cut_ok s _ partF hs part_ok | exact name_ok _ | fail, fun _ => rfl, fun _ => rfl, rfl, ?_⟩; try refine zS ?_)
  | ((with_reducible refine awp_label ?_); try refine zS ?_)
  | ((with_reducible refine awp_goto ?_); try refine zS ?_)
  | ((with_reducible refine awp_scope0 ?_); try refine zS ?_)
  | exact True.intro
  | fail
  all_goals (first | rfl | trace_state)
def cB (k : Nat) (u : Bool) : C := if u = true then .ptr k 0 0 0 else .d (.sc (.pointer none))
theorem cB_t (k : Nat) : cB k true = .ptr k 0 0 0 := rfl
theorem cB_f (k : Nat) : cB k false = .d (.sc (.pointer none)) := rfl
attribute [go_sem] cB_t cB_f bdT bdF
theorem sg_idx (c : UInt8) : (idxF (fun e : Ec => decide (e.c = (c.toNat : Int))) escs 0 < 0 ∧ sg c = []) ∨ (0 ≤ idxF (fun e : Ec => decide (e.c = (c.toNat : Int))) escs 0 ∧ idxF (fun e : Ec => decide (e.c = (c.toNat : Int))) escs 0 < 4 ∧ sg c ≠ [] ∧ (gt escs (idxF (fun e : Ec => decide (e.c = (c.toNat : Int))) escs 0).toNat).s = sg c) := by
  by_cases h0 : c = 60
  · subst h0; decide
  by_cases h1 : c = 62
  · subst h1; decide
  by_cases h2 : c = 38
  · subst h2; decide
  by_cases h3 : c = 34
  · subst h3; decide
  have e : ∀ k : Nat, k < 256 → c ≠ UInt8.ofNat k → ¬ (k : Int) = (c.toNat : Int) := fun k hk h he => h (UInt8.toNat_inj.1 (by simp; omega))
  left
  have e0 : ¬ (60 : Int) = (c.toNat : Int) := e 60 (by decide) h0
  have e1 : ¬ (62 : Int) = (c.toNat : Int) := e 62 (by decide) h1
  have e2 : ¬ (38 : Int) = (c.toNat : Int) := e 38 (by decide) h2
  have e3 : ¬ (34 : Int) = (c.toNat : Int) := e 34 (by decide) h3
  refine ⟨?_, by simp [sg, h0, h1, h2, h3]⟩
  simp [escs, idxF, e0, e1, e2, e3]
theorem esc1_len (c : UInt8) : (esc1 c).length ≤ 6 ∧ esc1 c ≠ [] := by
  unfold esc1 sg
  repeat' split
  all_goals simp_all
def escR (s : Str) : Str × Int := match escP s with | some o => (o, 0) | none => ([], 4)
theorem escape0_ok : AFn env 33 [aS []] [] (.tup [aS [], aI 0]) [] := by
  refine afn_body Tryd.func33 rfl (by decide) ?_
  simp only [Tryd.ntmps33, Tryd.results33, List.length_cons, List.length_nil, List.cons_append, List.nil_append, Nat.reduceAdd, Nat.reduceSub, List.replicate]
  repeat' first
  | with_reducible refine awp_seq ?_
  | ((with_reducible refine awp_region ?_); refine zS ?_)
  | ((with_reducible refine Gd_nd ?_ ?_) <;> intro hb hb2 <;> first | contradiction | (exfalso; omega) | (refine zH hb2 ?_; try clear hb2))
  | ((with_reducible refine Gd_nb ?_ ?_) <;> intro hb <;> first | contradiction | refine zH hb ?_)
  | ((with_reducible refine Gd_d ?_ ?_) <;> intro hb hb2 <;> first | contradiction | (exfalso; omega) | (refine zH hb2 ?_; try clear hb2))
  | ((with_reducible refine Gd_b ?_ ?_) <;> intro hb <;> first | contradiction | refine zH hb ?_)
  | ((with_reducible refine Res_id ?_); refine zS ?_)
  | ((with_reducible refine awp_drawnC ?_ ?_); rfl; refine zS ?_)
  | ((with_reducible refine awp_drawnA ?_ ?_); rfl; refine zS ?_)
  | ((with_reducible refine CGd_nd ?_ ?_) <;> intro hb hb2 <;> first | contradiction | (exfalso; omega) | (refine zH hb2 ?_; try clear hb2))
  | ((with_reducible refine CGd_nb ?_ ?_) <;> intro hb <;> first | contradiction | refine zH hb ?_)
  | ((with_reducible refine CGd_d ?_ ?_) <;> intro hb hb2 <;> first | contradiction | (exfalso; omega) | (refine zH hb2 ?_; try clear hb2))
  | ((with_reducible refine CGd_b ?_ ?_) <;> intro hb <;> first | contradiction | refine zH hb ?_)
  | ((with_reducible refine CRes_id ?_); refine zS ?_)
  | ((with_reducible refine DStep_id ?_); refine zdP ?_; refine ⟨_, by first | fail | fail, fun _ => rfl, fun _ => rfl, rfl, (fun h => by first | cases h | fail), ?_⟩; try refine zS ?_)
  | ((with_reducible refine DStep_id ?_); refine zdW ?_; refine ⟨_, by first | fail | fail, fun _ => rfl, fun _ => rfl, rfl, ?_⟩; try refine zS ?_)
  | ((with_reducible refine DStep_id ?_); refine zdT [1] ?_; refine ⟨_, _, by first | exact void_ok _ | fail, ?_⟩; try refine zS ?_)
  | ((with_reducible refine AWP_c ?_); refine zcdT ?_)
  | ((with_reducible refine AWP_c ?_); refine zcdF ?_)
  | ((with_reducible refine AWP_c ?_); refine zcdN ?_ ?_ <;> intro hb hb2 <;> first | contradiction | (exfalso; omega) | ((try refine zH hb2 ?_); try clear hb2))
  | ((with_reducible refine AWP_c ?_); refine zcdD ?_ ?_ <;> intro hb hb2 <;> first | contradiction | (exfalso; omega) | ((try refine zH hb2 ?_); try clear hb2))
  | ((with_reducible refine AWP_c ?_); refine zcdM ?_ ?_ <;> intro hb <;> first | contradiction | (try refine zH hb ?_))
  | ((with_reducible refine AWP_c ?_); refine zcdB ?_ ?_ <;> intro hb <;> first | contradiction | (try refine zH hb ?_))
  | ((with_reducible refine awp_ret ?_); refine fin_r ?_)
  | ((with_reducible refine awp_ret ?_); refine fin_q ?_ ?_)
  | with_reducible refine fin_qn ?_ ?_
  | ((with_reducible refine awp_skip ?_); refine zS ?_)
  | with_reducible refine awp_block ?_
  | ((with_reducible refine awp_exit ?_); refine zS ?_)
  | ((with_reducible refine CallK_id ?_); refine zcF ?_; refine ⟨_, by first | fail | fail, fun _ => rfl, fun _ => rfl, rfl, ?_⟩; try refine zS ?_)
  | ((with_reducible refine CallK_id ?_); refine zcT [1] ?_; refine ⟨_, _, by first | exact void_ok _ | fail, ?_⟩; try refine zS ?_)
  | ((with_reducible refine awp_label ?_); try refine zS ?_)
  | ((with_reducible refine awp_goto ?_); try refine zS ?_)
  | ((with_reducible refine awp_scope0 ?_); try refine zS ?_)
  | exact True.intro
  | fail
  refine awp_loopT (fun i : Nat => i = 0) (fun i => 0) (fun i => [(9, aI 0)]) (fun _ => [bx (dS []), some (.box [.d (.sc (.pointer none)), .nils] (some 59))]) 0 rfl (by exact zwl) ?_
  rintro i rfl
  refine zT ?_
  repeat' first
  | with_reducible refine awp_seq ?_
  | ((with_reducible refine awp_region ?_); refine zS ?_)
  | ((with_reducible refine Gd_nd ?_ ?_) <;> intro hb hb2 <;> first | contradiction | (exfalso; omega) | (refine zH hb2 ?_; try clear hb2))
  | ((with_reducible refine Gd_nb ?_ ?_) <;> intro hb <;> first | contradiction | refine zH hb ?_)
  | ((with_reducible refine Gd_d ?_ ?_) <;> intro hb hb2 <;> first | contradiction | (exfalso; omega) | (refine zH hb2 ?_; try clear hb2))
  | ((with_reducible refine Gd_b ?_ ?_) <;> intro hb <;> first | contradiction | refine zH hb ?_)
  | ((with_reducible refine Res_id ?_); refine zS ?_)
  | ((with_reducible refine awp_drawnC ?_ ?_); rfl; refine zS ?_)
  | ((with_reducible refine awp_drawnA ?_ ?_); rfl; refine zS ?_)
  | ((with_reducible refine CGd_nd ?_ ?_) <;> intro hb hb2 <;> first | contradiction | (exfalso; omega) | (refine zH hb2 ?_; try clear hb2))
  | ((with_reducible refine CGd_nb ?_ ?_) <;> intro hb <;> first | contradiction | refine zH hb ?_)
  | ((with_reducible refine CGd_d ?_ ?_) <;> intro hb hb2 <;> first | contradiction | (exfalso; omega) | (refine zH hb2 ?_; try clear hb2))
  | ((with_reducible refine CGd_b ?_ ?_) <;> intro hb <;> first | contradiction | refine zH hb ?_)
  | ((with_reducible refine CRes_id ?_); refine zS ?_)
  | ((with_reducible refine DStep_id ?_); refine zdP ?_; refine ⟨_, by first | fail | fail, fun _ => rfl, fun _ => rfl, rfl, (fun h => by first | cases h | fail), ?_⟩; try refine zS ?_)
  | ((with_reducible refine DStep_id ?_); refine zdW ?_; refine ⟨_, by first | fail | fail, fun _ => rfl, fun _ => rfl, rfl, ?_⟩; try refine zS ?_)
  | ((with_reducible refine DStep_id ?_); refine zdT [1] ?_; refine ⟨_, _, by first | exact void_ok _ | fail, ?_⟩; try refine zS ?_)
  | ((with_reducible refine AWP_c ?_); refine zcdT ?_)
  | ((with_reducible refine AWP_c ?_); refine zcdF ?_)
  | ((with_reducible refine AWP_c ?_); refine zcdN ?_ ?_ <;> intro hb hb2 <;> first | contradiction | (exfalso; omega) | ((try refine zH hb2 ?_); try clear hb2))
  | ((with_reducible refine AWP_c ?_); refine zcdD ?_ ?_ <;> intro hb hb2 <;> first | contradiction | (exfalso; omega) | ((try refine zH hb2 ?_); try clear hb2))
  | ((with_reducible refine AWP_c ?_); refine zcdM ?_ ?_ <;> intro hb <;> first | contradiction | (try refine zH hb ?_))
  | ((with_reducible refine AWP_c ?_); refine zcdB ?_ ?_ <;> intro hb <;> first | contradiction | (try refine zH hb ?_))
  | ((with_reducible refine awp_ret ?_); refine fin_r ?_)
  | ((with_reducible refine awp_ret ?_); refine fin_q ?_ ?_)
  | with_reducible refine fin_qn ?_ ?_
  | ((with_reducible refine awp_skip ?_); refine zS ?_)
  | with_reducible refine awp_block ?_
  | ((with_reducible refine awp_exit ?_); refine zS ?_)
  | ((with_reducible refine CallK_id ?_); refine zcF ?_; refine ⟨_, by first | fail | fail, fun _ => rfl, fun _ => rfl, rfl, ?_⟩; try refine zS ?_)
  | ((with_reducible refine CallK_id ?_); refine zcT [1] ?_; refine ⟨_, _, by first | exact void_ok _ | fail, ?_⟩; try refine zS ?_)
  | ((with_reducible refine awp_label ?_); try refine zS ?_)
  | ((with_reducible refine awp_goto ?_); try refine zS ?_)
  | ((with_reducible refine awp_scope0 ?_); try refine zS ?_)
  | exact True.intro
  | fail
  all_goals (first | rfl | trace_state)
end Go.Eng
open Go Go.Proofs
namespace Go.Eng
set_option linter.unusedSimpArgs false
set_option linter.unusedVariables false
set_option maxRecDepth 100000
set_option maxHeartbeats 8000000
theorem sg_idxB (c : UInt8) (b : Int) (hb : b = (c.toNat : Int)) : (idxF (fun e : Ec => decide (e.c = b)) escs 0 < 0 ∧ sg c = []) ∨ (0 ≤ idxF (fun e : Ec => decide (e.c = b)) escs 0 ∧ idxF (fun e : Ec => decide (e.c = b)) escs 0 < 4 ∧ sg c ≠ [] ∧ (gt escs (idxF (fun e : Ec => decide (e.c = b)) escs 0).toNat).s = sg c) := by
  subst hb; exact sg_idx c
theorem escape_ok (s : Str) (hs : s.length ≤ 1000000000000) (h0 : s ≠ []) : AFn env 33 [aS s] [] (.tup [aS (escR s).1, aI (escR s).2]) [] := by
  have hsl : escs.length = 4 := rfl
  have hne : 0 < s.length := List.length_pos_iff.2 h0
  refine afn_body Tryd.func33 rfl (by decide) ?_
  simp only [Tryd.ntmps33, Tryd.results33, List.length_cons, List.length_nil, List.cons_append, List.nil_append, Nat.reduceAdd, Nat.reduceSub, List.replicate]
  iterate 2 (refine awp_seq ?_; refine awp_region ?_; refine zS ?_)
  refine awp_wk (wk_virtB (i := 1) (j := 1) (s := 1) (some 5) (by decide) rfl rfl) ?_
  refine zT ?_
  repeat' first
  | with_reducible refine awp_seq ?_
  | ((with_reducible refine awp_region ?_); refine zS ?_)
  | ((with_reducible refine Gd_nd ?_ ?_) <;> intro hb hb2 <;> first | contradiction | (exfalso; omega) | (refine zH hb2 ?_; try clear hb2))
  | ((with_reducible refine Gd_nb ?_ ?_) <;> intro hb <;> first | contradiction | refine zH hb ?_)
  | ((with_reducible refine Gd_d ?_ ?_) <;> intro hb hb2 <;> first | contradiction | (exfalso; omega) | (refine zH hb2 ?_; try clear hb2))
  | ((with_reducible refine Gd_b ?_ ?_) <;> intro hb <;> first | contradiction | refine zH hb ?_)
  | ((with_reducible refine Res_id ?_); refine zS ?_)
  | ((with_reducible refine awp_drawnC ?_ ?_); rfl; refine zS ?_)
  | ((with_reducible refine awp_drawnA ?_ ?_); rfl; refine zS ?_)
  | ((with_reducible refine CGd_nd ?_ ?_) <;> intro hb hb2 <;> first | contradiction | (exfalso; omega) | (refine zH hb2 ?_; try clear hb2))
  | ((with_reducible refine CGd_nb ?_ ?_) <;> intro hb <;> first | contradiction | refine zH hb ?_)
  | ((with_reducible refine CGd_d ?_ ?_) <;> intro hb hb2 <;> first | contradiction | (exfalso; omega) | (refine zH hb2 ?_; try clear hb2))
  | ((with_reducible refine CGd_b ?_ ?_) <;> intro hb <;> first | contradiction | refine zH hb ?_)
  | ((with_reducible refine CRes_id ?_); refine zS ?_)
  | ((with_reducible refine DStep_id ?_); refine zdP ?_; refine ⟨_, by first | exact plain_ok _ | fail, fun _ => rfl, fun _ => rfl, rfl, (fun h => by first | cases h | fail), ?_⟩; try refine zS ?_)
  | ((with_reducible refine DStep_id ?_); refine zdW ?_; refine ⟨_, by first | exact plain_ok _ | fail, fun _ => rfl, fun _ => rfl, rfl, ?_⟩; try refine zS ?_)
  | ((with_reducible refine DStep_id ?_); refine zdT [0, 3] ?_; refine ⟨_, _, by first | exact idxE_ok escs 46 (fun e => decide (e.c = byteAt s i)) (dS s) (dI i) (by decide) (fun x _ => esc1_ok x s i (by omega)) | fail, ?_⟩; try refine zS ?_)
  | ((with_reducible refine DStep_id ?_); refine zdT [1, 2] ?_; refine ⟨_, _, by first | exact writeByte_ok true o (gt s i) (by omega) | exact writeByte_ok false o (gt s i) (by omega) | exact writeString_ok true o _ (hws (by omega)) | exact writeString_ok false o _ (hws (by omega)) | exact text_ok true o (h4 (by omega)) (by omega) | exact text_ok false o (h4 (by omega)) (by omega) | fail, ?_⟩; try refine zS ?_)
  | ((with_reducible refine AWP_c ?_); refine zcdT ?_)
  | ((with_reducible refine AWP_c ?_); refine zcdF ?_)
  | ((with_reducible refine AWP_c ?_); refine zcdN ?_ ?_ <;> intro hb hb2 <;> first | contradiction | (exfalso; omega) | ((try refine zH hb2 ?_); try clear hb2))
  | ((with_reducible refine AWP_c ?_); refine zcdD ?_ ?_ <;> intro hb hb2 <;> first | contradiction | (exfalso; omega) | ((try refine zH hb2 ?_); try clear hb2))
  | ((with_reducible refine AWP_c ?_); refine zcdM ?_ ?_ <;> intro hb <;> first | contradiction | (try refine zH hb ?_))
  | ((with_reducible refine AWP_c ?_); refine zcdB ?_ ?_ <;> intro hb <;> first | contradiction | (try refine zH hb ?_))
  | ((with_reducible refine awp_ret ?_); refine fin_r ?_)
  | ((with_reducible refine awp_ret ?_); refine fin_q ?_ ?_)
  | with_reducible refine fin_qn ?_ ?_
  | ((with_reducible refine awp_skip ?_); refine zS ?_)
  | with_reducible refine awp_block ?_
  | ((with_reducible refine awp_exit ?_); refine zS ?_)
  | ((with_reducible refine CallK_id ?_); refine zcF ?_; refine ⟨_, by first | exact plain_ok _ | fail, fun _ => rfl, fun _ => rfl, rfl, ?_⟩; try refine zS ?_)
  | ((with_reducible refine CallK_id ?_); refine zcT [0, 3] ?_; refine ⟨_, _, by first | exact idxE_ok escs 46 (fun e => decide (e.c = byteAt s i)) (dS s) (dI i) (by decide) (fun x _ => esc1_ok x s i (by omega)) | fail, ?_⟩; try refine zS ?_)
  | ((with_reducible refine CallK_id ?_); refine zcT [1, 2] ?_; refine ⟨_, _, by first | exact writeByte_ok true o (gt s i) (by omega) | exact writeByte_ok false o (gt s i) (by omega) | exact writeString_ok true o _ (hws (by omega)) | exact writeString_ok false o _ (hws (by omega)) | exact text_ok true o (h4 (by omega)) (by omega) | exact text_ok false o (h4 (by omega)) (by omega) | fail, ?_⟩; try refine zS ?_)
  | ((with_reducible refine awp_label ?_); try refine zS ?_)
  | ((with_reducible refine awp_goto ?_); try refine zS ?_)
  | ((with_reducible refine awp_scope0 ?_); try refine zS ?_)
  | exact True.intro
  | fail
  refine awp_loopT (fun z : Nat × Str × Bool => z.1 ≤ s.length ∧ escP s = (escP (s.drop z.1)).map (z.2.1 ++ ·) ∧ z.2.1.length ≤ 6 * z.1 ∧ (0 < z.1 → z.2.1 ≠ [])) (fun z => s.length - z.1) (fun z => [(9, aI z.1)]) (fun z => [bx (dS s), some (.box [cB 1 z.2.2, .own 2 0 z.2.1.length z.2.1.length] (some 59)), some (.rows 1 (z.2.1.map rU8) (some 5))]) (0, [], false) ⟨by simp, by simp, by simp, by simp⟩ (by exact zwl) ?_
  rintro ⟨i, o, u⟩ ⟨h1, h2, h3, h4⟩
  simp only at h1 h2 h3 h4
  have hx := sg_idxB (gt s i) (byteAt s i) rfl
  have hx4 : idxF (fun e : Ec => decide (e.c = byteAt s i)) escs 0 < 4 := by omega
  have hpl : ∀ hi : i < s.length, escP (s.drop i) = if plainF (byteAt s i) = true then (escP (s.drop (i + 1))).map (esc1 (gt s i) ++ ·) else none := fun hi => by rw [drop_gt hi, escP]; rfl
  have hst : ∀ hi : i < s.length, plainF (byteAt s i) = true → escP s = (escP (s.drop (i + 1))).map ((o ++ esc1 (gt s i)) ++ ·) := fun hi hp => by
    rw [h2, hpl hi, if_pos hp, Option.map_map]; congr 1; funext y; simp
  have hln := esc1_len (gt s i)
  have hinv : ∀ hi : i < s.length, plainF (byteAt s i) = true → (i + 1 ≤ s.length ∧ escP s = (escP (s.drop (i + 1))).map ((o ++ esc1 (gt s i)) ++ ·) ∧ (o ++ esc1 (gt s i)).length ≤ 6 * (i + 1) ∧ (0 < i + 1 → o ++ esc1 (gt s i) ≠ [])) := fun hi hp => ⟨by omega, hst hi hp, by rw [List.length_append]; omega, fun _ => by simp [hln.2]⟩
  have hend : i = s.length → escR s = (o, 0) := fun hi => by unfold escR; rw [h2, hi, List.drop_length]; simp [escP]
  have hbad : ∀ hi : i < s.length, plainF (byteAt s i) = false → escR s = ([], 4) := fun hi hp => by unfold escR; rw [h2, hpl hi, hp]; rfl
  have hs2 : 0 ≤ idxF (fun e : Ec => decide (e.c = byteAt s i)) escs 0 → (gt escs (idxF (fun e : Ec => decide (e.c = byteAt s i)) escs 0).toNat).s = esc1 (gt s i) := fun h => by
    rcases hx with hx | hx
    · omega
    · unfold esc1; rw [if_neg hx.2.2.1, hx.2.2.2]
  have hs1 : idxF (fun e : Ec => decide (e.c = byteAt s i)) escs 0 < 0 → esc1 (gt s i) = [gt s i] := fun h => by
    rcases hx with hx | hx
    · unfold esc1; rw [if_pos hx.2]
    · omega
  have hws : 0 ≤ idxF (fun e : Ec => decide (e.c = byteAt s i)) escs 0 → o.length + (gt escs (idxF (fun e : Ec => decide (e.c = byteAt s i)) escs 0).toNat).s.length ≤ 100000000000000 := fun h => by
    rw [hs2 h]; omega
  clear hst hpl h2 hx
  cases u
  all_goals refine zT ?_
  all_goals repeat' first
            | with_reducible refine awp_seq ?_
            | ((with_reducible refine awp_region ?_); refine zS ?_)
            | ((with_reducible refine Gd_nd ?_ ?_) <;> intro hb hb2 <;> first | contradiction | (exfalso; omega) | (refine zH hb2 ?_; try clear hb2))
            | ((with_reducible refine Gd_nb ?_ ?_) <;> intro hb <;> first | contradiction | refine zH hb ?_)
            | ((with_reducible refine Gd_d ?_ ?_) <;> intro hb hb2 <;> first | contradiction | (exfalso; omega) | (refine zH hb2 ?_; try clear hb2))
            | ((with_reducible refine Gd_b ?_ ?_) <;> intro hb <;> first | contradiction | refine zH hb ?_)
            | ((with_reducible refine Res_id ?_); refine zS ?_)
            | ((with_reducible refine awp_drawnC ?_ ?_); rfl; refine zS ?_)
            | ((with_reducible refine awp_drawnA ?_ ?_); rfl; refine zS ?_)
            | ((with_reducible refine CGd_nd ?_ ?_) <;> intro hb hb2 <;> first | contradiction | (exfalso; omega) | (refine zH hb2 ?_; try clear hb2))
            | ((with_reducible refine CGd_nb ?_ ?_) <;> intro hb <;> first | contradiction | refine zH hb ?_)
            | ((with_reducible refine CGd_d ?_ ?_) <;> intro hb hb2 <;> first | contradiction | (exfalso; omega) | (refine zH hb2 ?_; try clear hb2))
            | ((with_reducible refine CGd_b ?_ ?_) <;> intro hb <;> first | contradiction | refine zH hb ?_)
            | ((with_reducible refine CRes_id ?_); refine zS ?_)
            | ((with_reducible refine DStep_id ?_); refine zdP ?_; refine ⟨_, by first | exact plain_ok _ | fail, fun _ => rfl, fun _ => rfl, rfl, (fun h => by first | cases h | fail), ?_⟩; try refine zS ?_)
            | ((with_reducible refine DStep_id ?_); refine zdW ?_; refine ⟨_, by first | exact plain_ok _ | fail, fun _ => rfl, fun _ => rfl, rfl, ?_⟩; try refine zS ?_)
            | ((with_reducible refine DStep_id ?_); refine zdT [0, 3] ?_; refine ⟨_, _, by first | exact idxE_ok escs 46 (fun e => decide (e.c = byteAt s i)) (dS s) (dI i) (by decide) (fun x _ => esc1_ok x s i (by omega)) | fail, ?_⟩; try refine zS ?_)
            | ((with_reducible refine DStep_id ?_); refine zdT [1, 2] ?_; refine ⟨_, _, by first | exact writeByte_ok true o (gt s i) (by omega) | exact writeByte_ok false o (gt s i) (by omega) | exact writeString_ok true o _ (hws (by omega)) | exact writeString_ok false o _ (hws (by omega)) | exact text_ok true o (h4 (by omega)) (by omega) | exact text_ok false o (h4 (by omega)) (by omega) | fail, ?_⟩; try refine zS ?_)
            | ((with_reducible refine AWP_c ?_); refine zcdT ?_)
            | ((with_reducible refine AWP_c ?_); refine zcdF ?_)
            | ((with_reducible refine AWP_c ?_); refine zcdN ?_ ?_ <;> intro hb hb2 <;> first | contradiction | (exfalso; omega) | ((try refine zH hb2 ?_); try clear hb2))
            | ((with_reducible refine AWP_c ?_); refine zcdD ?_ ?_ <;> intro hb hb2 <;> first | contradiction | (exfalso; omega) | ((try refine zH hb2 ?_); try clear hb2))
            | ((with_reducible refine AWP_c ?_); refine zcdM ?_ ?_ <;> intro hb <;> first | contradiction | (try refine zH hb ?_))
            | ((with_reducible refine AWP_c ?_); refine zcdB ?_ ?_ <;> intro hb <;> first | contradiction | (try refine zH hb ?_))
            | ((with_reducible refine awp_ret ?_); refine fin_r ?_)
            | ((with_reducible refine awp_ret ?_); refine fin_q ?_ ?_)
            | with_reducible refine fin_qn ?_ ?_
            | ((with_reducible refine awp_skip ?_); refine zS ?_)
            | with_reducible refine awp_block ?_
            | ((with_reducible refine awp_exit ?_); refine zS ?_)
            | ((with_reducible refine CallK_id ?_); refine zcF ?_; refine ⟨_, by first | exact plain_ok _ | fail, fun _ => rfl, fun _ => rfl, rfl, ?_⟩; try refine zS ?_)
            | ((with_reducible refine CallK_id ?_); refine zcT [0, 3] ?_; refine ⟨_, _, by first | exact idxE_ok escs 46 (fun e => decide (e.c = byteAt s i)) (dS s) (dI i) (by decide) (fun x _ => esc1_ok x s i (by omega)) | fail, ?_⟩; try refine zS ?_)
            | ((with_reducible refine CallK_id ?_); refine zcT [1, 2] ?_; refine ⟨_, _, by first | exact writeByte_ok true o (gt s i) (by omega) | exact writeByte_ok false o (gt s i) (by omega) | exact writeString_ok true o _ (hws (by omega)) | exact writeString_ok false o _ (hws (by omega)) | exact text_ok true o (h4 (by omega)) (by omega) | exact text_ok false o (h4 (by omega)) (by omega) | fail, ?_⟩; try refine zS ?_)
            | ((with_reducible refine awp_label ?_); try refine zS ?_)
            | ((with_reducible refine awp_goto ?_); try refine zS ?_)
            | ((with_reducible refine awp_scope0 ?_); try refine zS ?_)
            | exact True.intro
            | fail
  all_goals first
    | (rw [hbad (by omega) ‹_›]; rfl)
    | (rw [hend (by omega)]; done)
    | (have hiv := hinv (by omega) ‹_›
       rw [hs1 ‹_›] at hiv
       exact ⟨(i + 1, o ++ [gt s i], true), hiv, by simp only; omega, (by exact zwc 3)⟩)
    | (have hiv := hinv (by omega) ‹_›
       rw [← hs2 (by omega)] at hiv
       exact ⟨(i + 1, o ++ (gt escs (idxF (fun e : Ec => decide (e.c = byteAt s i)) escs 0).toNat).s, true), hiv, by simp only; omega, (by exact zwc 3)⟩)
    | skip
  all_goals trace_state
end Go.Eng
open Go Go.Proofs
namespace Go.Eng
set_option linter.unusedSimpArgs false
set_option linter.unusedVariables false
set_option maxRecDepth 100000
set_option maxHeartbeats 8000000
def meanR (s : Str) : Str × Bool := match mean s 0 with | some o => (o, true) | none => ([], false)
theorem meant0_ok : AFn env 53 [aS []] [] (.tup [aS [], aB true]) [] := by
  refine afn_body Tryd.func53 rfl (by decide) ?_
  simp only [Tryd.ntmps53, Tryd.results53, List.length_cons, List.length_nil, List.cons_append, List.nil_append, Nat.reduceAdd, Nat.reduceSub, List.replicate]
  repeat' first
  | with_reducible refine awp_seq ?_
  | ((with_reducible refine awp_region ?_); refine zS ?_)
  | ((with_reducible refine Gd_nd ?_ ?_) <;> intro hb hb2 <;> first | contradiction | (exfalso; omega) | (refine zH hb2 ?_; try clear hb2))
  | ((with_reducible refine Gd_nb ?_ ?_) <;> intro hb <;> first | contradiction | refine zH hb ?_)
  | ((with_reducible refine Gd_d ?_ ?_) <;> intro hb hb2 <;> first | contradiction | (exfalso; omega) | (refine zH hb2 ?_; try clear hb2))
  | ((with_reducible refine Gd_b ?_ ?_) <;> intro hb <;> first | contradiction | refine zH hb ?_)
  | ((with_reducible refine Res_id ?_); refine zS ?_)
  | ((with_reducible refine awp_drawnC ?_ ?_); rfl; refine zS ?_)
  | ((with_reducible refine awp_drawnA ?_ ?_); rfl; refine zS ?_)
  | ((with_reducible refine CGd_nd ?_ ?_) <;> intro hb hb2 <;> first | contradiction | (exfalso; omega) | (refine zH hb2 ?_; try clear hb2))
  | ((with_reducible refine CGd_nb ?_ ?_) <;> intro hb <;> first | contradiction | refine zH hb ?_)
  | ((with_reducible refine CGd_d ?_ ?_) <;> intro hb hb2 <;> first | contradiction | (exfalso; omega) | (refine zH hb2 ?_; try clear hb2))
  | ((with_reducible refine CGd_b ?_ ?_) <;> intro hb <;> first | contradiction | refine zH hb ?_)
  | ((with_reducible refine CRes_id ?_); refine zS ?_)
  | ((with_reducible refine DStep_id ?_); refine zdP ?_; refine ⟨_, by first | fail | fail, fun _ => rfl, fun _ => rfl, rfl, (fun h => by first | cases h | fail), ?_⟩; try refine zS ?_)
  | ((with_reducible refine DStep_id ?_); refine zdW ?_; refine ⟨_, by first | fail | fail, fun _ => rfl, fun _ => rfl, rfl, ?_⟩; try refine zS ?_)
  | ((with_reducible refine DStep_id ?_); refine zdT [1] ?_; refine ⟨_, _, by first | exact void_ok _ | fail, ?_⟩; try refine zS ?_)
  | ((with_reducible refine AWP_c ?_); refine zcdT ?_)
  | ((with_reducible refine AWP_c ?_); refine zcdF ?_)
  | ((with_reducible refine AWP_c ?_); refine zcdN ?_ ?_ <;> intro hb hb2 <;> first | contradiction | (exfalso; omega) | ((try refine zH hb2 ?_); try clear hb2))
  | ((with_reducible refine AWP_c ?_); refine zcdD ?_ ?_ <;> intro hb hb2 <;> first | contradiction | (exfalso; omega) | ((try refine zH hb2 ?_); try clear hb2))
  | ((with_reducible refine AWP_c ?_); refine zcdM ?_ ?_ <;> intro hb <;> first | contradiction | (try refine zH hb ?_))
  | ((with_reducible refine AWP_c ?_); refine zcdB ?_ ?_ <;> intro hb <;> first | contradiction | (try refine zH hb ?_))
  | ((with_reducible refine awp_ret ?_); refine fin_r ?_)
  | ((with_reducible refine awp_ret ?_); refine fin_q ?_ ?_)
  | with_reducible refine fin_qn ?_ ?_
  | ((with_reducible refine awp_skip ?_); refine zS ?_)
  | with_reducible refine awp_block ?_
  | ((with_reducible refine awp_exit ?_); refine zS ?_)
  | ((with_reducible refine CallK_id ?_); refine zcF ?_; refine ⟨_, by first | fail | fail, fun _ => rfl, fun _ => rfl, rfl, ?_⟩; try refine zS ?_)
  | ((with_reducible refine CallK_id ?_); refine zcT [1] ?_; refine ⟨_, _, by first | exact void_ok _ | fail, ?_⟩; try refine zS ?_)
  | ((with_reducible refine awp_label ?_); try refine zS ?_)
  | ((with_reducible refine awp_goto ?_); try refine zS ?_)
  | ((with_reducible refine awp_scope0 ?_); try refine zS ?_)
  | exact True.intro
  | fail
  refine awp_loopT (fun i : Nat => i = 0) (fun i => 0) (fun i => [(5, .c (.ptr 2 0 0 0))]) (fun _ => [bx (dS []), some (.box [.d (.sc (.pointer none)), .nils] (some 59)), bx (dI 0)]) 0 rfl (by exact zwl) ?_
  rintro i rfl
  refine zT ?_
  repeat' first
  | with_reducible refine awp_seq ?_
  | ((with_reducible refine awp_region ?_); refine zS ?_)
  | ((with_reducible refine Gd_nd ?_ ?_) <;> intro hb hb2 <;> first | contradiction | (exfalso; omega) | (refine zH hb2 ?_; try clear hb2))
  | ((with_reducible refine Gd_nb ?_ ?_) <;> intro hb <;> first | contradiction | refine zH hb ?_)
  | ((with_reducible refine Gd_d ?_ ?_) <;> intro hb hb2 <;> first | contradiction | (exfalso; omega) | (refine zH hb2 ?_; try clear hb2))
  | ((with_reducible refine Gd_b ?_ ?_) <;> intro hb <;> first | contradiction | refine zH hb ?_)
  | ((with_reducible refine Res_id ?_); refine zS ?_)
  | ((with_reducible refine awp_drawnC ?_ ?_); rfl; refine zS ?_)
  | ((with_reducible refine awp_drawnA ?_ ?_); rfl; refine zS ?_)
  | ((with_reducible refine CGd_nd ?_ ?_) <;> intro hb hb2 <;> first | contradiction | (exfalso; omega) | (refine zH hb2 ?_; try clear hb2))
  | ((with_reducible refine CGd_nb ?_ ?_) <;> intro hb <;> first | contradiction | refine zH hb ?_)
  | ((with_reducible refine CGd_d ?_ ?_) <;> intro hb hb2 <;> first | contradiction | (exfalso; omega) | (refine zH hb2 ?_; try clear hb2))
  | ((with_reducible refine CGd_b ?_ ?_) <;> intro hb <;> first | contradiction | refine zH hb ?_)
  | ((with_reducible refine CRes_id ?_); refine zS ?_)
  | ((with_reducible refine DStep_id ?_); refine zdP ?_; refine ⟨_, by first | fail | fail, fun _ => rfl, fun _ => rfl, rfl, (fun h => by first | cases h | fail), ?_⟩; try refine zS ?_)
  | ((with_reducible refine DStep_id ?_); refine zdW ?_; refine ⟨_, by first | fail | fail, fun _ => rfl, fun _ => rfl, rfl, ?_⟩; try refine zS ?_)
  | ((with_reducible refine DStep_id ?_); refine zdT [1] ?_; refine ⟨_, _, by first | exact void_ok _ | fail, ?_⟩; try refine zS ?_)
  | ((with_reducible refine AWP_c ?_); refine zcdT ?_)
  | ((with_reducible refine AWP_c ?_); refine zcdF ?_)
  | ((with_reducible refine AWP_c ?_); refine zcdN ?_ ?_ <;> intro hb hb2 <;> first | contradiction | (exfalso; omega) | ((try refine zH hb2 ?_); try clear hb2))
  | ((with_reducible refine AWP_c ?_); refine zcdD ?_ ?_ <;> intro hb hb2 <;> first | contradiction | (exfalso; omega) | ((try refine zH hb2 ?_); try clear hb2))
  | ((with_reducible refine AWP_c ?_); refine zcdM ?_ ?_ <;> intro hb <;> first | contradiction | (try refine zH hb ?_))
  | ((with_reducible refine AWP_c ?_); refine zcdB ?_ ?_ <;> intro hb <;> first | contradiction | (try refine zH hb ?_))
  | ((with_reducible refine awp_ret ?_); refine fin_r ?_)
  | ((with_reducible refine awp_ret ?_); refine fin_q ?_ ?_)
  | with_reducible refine fin_qn ?_ ?_
  | ((with_reducible refine awp_skip ?_); refine zS ?_)
  | with_reducible refine awp_block ?_
  | ((with_reducible refine awp_exit ?_); refine zS ?_)
  | ((with_reducible refine CallK_id ?_); refine zcF ?_; refine ⟨_, by first | fail | fail, fun _ => rfl, fun _ => rfl, rfl, ?_⟩; try refine zS ?_)
  | ((with_reducible refine CallK_id ?_); refine zcT [1] ?_; refine ⟨_, _, by first | exact void_ok _ | fail, ?_⟩; try refine zS ?_)
  | ((with_reducible refine awp_label ?_); try refine zS ?_)
  | ((with_reducible refine awp_goto ?_); try refine zS ?_)
  | ((with_reducible refine awp_scope0 ?_); try refine zS ?_)
  | exact True.intro
  | fail
  all_goals (first | rfl | trace_state)
theorem fnd_idx (l : Str) : (idxF (fun e : Ec => pfx l e.s) escs 0 < 0 ∧ findE l = none) ∨ (0 ≤ idxF (fun e : Ec => pfx l e.s) escs 0 ∧ idxF (fun e : Ec => pfx l e.s) escs 0 < 4 ∧ ∃ c : UInt8, (gt escs (idxF (fun e : Ec => pfx l e.s) escs 0).toNat).c = (c.toNat : Int) ∧ findE l = some (c, (gt escs (idxF (fun e : Ec => pfx l e.s) escs 0).toNat).s.length) ∧ 1 ≤ (gt escs (idxF (fun e : Ec => pfx l e.s) escs 0).toNat).s.length ∧ (gt escs (idxF (fun e : Ec => pfx l e.s) escs 0).toNat).s.length ≤ l.length) := by
  unfold findE
  simp only [escs, idxF]
  by_cases h0 : pfx l [38, 108, 116, 59] = true
  · have := pfx_len h0; right; simp only [h0, if_true]; exact ⟨by decide, by decide, 60, rfl, rfl, by decide, this⟩
  by_cases h1 : pfx l [38, 103, 116, 59] = true
  · have := pfx_len h1; right; simp only [h0, h1, if_true, if_false, Bool.false_eq_true]; exact ⟨by decide, by decide, 62, rfl, rfl, by decide, this⟩
  by_cases h2 : pfx l [38, 97, 109, 112, 59] = true
  · have := pfx_len h2; right; simp only [h0, h1, h2, if_true, if_false, Bool.false_eq_true]; exact ⟨by decide, by decide, 38, rfl, rfl, by decide, this⟩
  by_cases h3 : pfx l [38, 113, 117, 111, 116, 59] = true
  · have := pfx_len h3; right; simp only [h0, h1, h2, h3, if_true, if_false, Bool.false_eq_true]; exact ⟨by decide, by decide, 34, rfl, rfl, by decide, this⟩
  · left; simp [h0, h1, h2, h3]
theorem meant_ok (s : Str) (hs : s.length ≤ 1000000000000) (h0 : s ≠ []) : AFn env 53 [aS s] [] (.tup [aS (meanR s).1, aB (meanR s).2]) [] := by
  have hsl : escs.length = 4 := rfl
  have hne : 0 < s.length := List.length_pos_iff.2 h0
  refine afn_body Tryd.func53 rfl (by decide) ?_
  simp only [Tryd.ntmps53, Tryd.results53, List.length_cons, List.length_nil, List.cons_append, List.nil_append, Nat.reduceAdd, Nat.reduceSub, List.replicate]
  iterate 2 (refine awp_seq ?_; refine awp_region ?_; refine zS ?_)
  refine awp_wk (wk_virtB (i := 1) (j := 1) (s := 1) (some 5) (by decide) rfl rfl) ?_
  refine zT ?_
  repeat' first
  | with_reducible refine awp_seq ?_
  | ((with_reducible refine awp_region ?_); refine zS ?_)
  | ((with_reducible refine Gd_nd ?_ ?_) <;> intro hb hb2 <;> first | contradiction | (exfalso; omega) | (refine zH hb2 ?_; try clear hb2))
  | ((with_reducible refine Gd_nb ?_ ?_) <;> intro hb <;> first | contradiction | refine zH hb ?_)
  | ((with_reducible refine Gd_d ?_ ?_) <;> intro hb hb2 <;> first | contradiction | (exfalso; omega) | (refine zH hb2 ?_; try clear hb2))
  | ((with_reducible refine Gd_b ?_ ?_) <;> intro hb <;> first | contradiction | refine zH hb ?_)
  | ((with_reducible refine Res_id ?_); refine zS ?_)
  | ((with_reducible refine awp_drawnC ?_ ?_); rfl; refine zS ?_)
  | ((with_reducible refine awp_drawnA ?_ ?_); rfl; refine zS ?_)
  | ((with_reducible refine CGd_nd ?_ ?_) <;> intro hb hb2 <;> first | contradiction | (exfalso; omega) | (refine zH hb2 ?_; try clear hb2))
  | ((with_reducible refine CGd_nb ?_ ?_) <;> intro hb <;> first | contradiction | refine zH hb ?_)
  | ((with_reducible refine CGd_d ?_ ?_) <;> intro hb hb2 <;> first | contradiction | (exfalso; omega) | (refine zH hb2 ?_; try clear hb2))
  | ((with_reducible refine CGd_b ?_ ?_) <;> intro hb <;> first | contradiction | refine zH hb ?_)
  | ((with_reducible refine CRes_id ?_); refine zS ?_)
  | ((with_reducible refine DStep_id ?_); refine zdP ?_; refine ⟨_, by first | exact plain_ok _ | fail, fun _ => rfl, fun _ => rfl, rfl, (fun h => by first | cases h | fail), ?_⟩; try refine zS ?_)
  | ((with_reducible refine DStep_id ?_); refine zdW ?_; refine ⟨_, by first | exact plain_ok _ | fail, fun _ => rfl, fun _ => rfl, rfl, ?_⟩; try refine zS ?_)
  | ((with_reducible refine DStep_id ?_); refine zdT [0, 3] ?_; refine ⟨_, _, by first | exact hix (by omega) | fail, ?_⟩; try refine zS ?_)
  | ((with_reducible refine DStep_id ?_); refine zdT [1, 2] ?_; refine ⟨_, _, by first | exact writeByte_ok true o (gt s i) (by omega) | exact writeByte_ok false o (gt s i) (by omega) | exact hwb true (by omega) | exact hwb false (by omega) | exact text_ok true o (h4 (by omega)) (by omega) | exact text_ok false o (h4 (by omega)) (by omega) | fail, ?_⟩; try refine zS ?_)
  | ((with_reducible refine AWP_c ?_); refine zcdT ?_)
  | ((with_reducible refine AWP_c ?_); refine zcdF ?_)
  | ((with_reducible refine AWP_c ?_); refine zcdN ?_ ?_ <;> intro hb hb2 <;> first | contradiction | (exfalso; omega) | ((try refine zH hb2 ?_); try clear hb2))
  | ((with_reducible refine AWP_c ?_); refine zcdD ?_ ?_ <;> intro hb hb2 <;> first | contradiction | (exfalso; omega) | ((try refine zH hb2 ?_); try clear hb2))
  | ((with_reducible refine AWP_c ?_); refine zcdM ?_ ?_ <;> intro hb <;> first | contradiction | (try refine zH hb ?_))
  | ((with_reducible refine AWP_c ?_); refine zcdB ?_ ?_ <;> intro hb <;> first | contradiction | (try refine zH hb ?_))
  | ((with_reducible refine awp_ret ?_); refine fin_r ?_)
  | ((with_reducible refine awp_ret ?_); refine fin_q ?_ ?_)
  | with_reducible refine fin_qn ?_ ?_
  | ((with_reducible refine awp_skip ?_); refine zS ?_)
  | with_reducible refine awp_block ?_
  | ((with_reducible refine awp_exit ?_); refine zS ?_)
  | ((with_reducible refine CallK_id ?_); refine zcF ?_; refine ⟨_, by first | exact plain_ok _ | fail, fun _ => rfl, fun _ => rfl, rfl, ?_⟩; try refine zS ?_)
  | ((with_reducible refine CallK_id ?_); refine zcT [0, 3] ?_; refine ⟨_, _, by first | exact hix (by omega) | fail, ?_⟩; try refine zS ?_)
  | ((with_reducible refine CallK_id ?_); refine zcT [1, 2] ?_; refine ⟨_, _, by first | exact writeByte_ok true o (gt s i) (by omega) | exact writeByte_ok false o (gt s i) (by omega) | exact hwb true (by omega) | exact hwb false (by omega) | exact text_ok true o (h4 (by omega)) (by omega) | exact text_ok false o (h4 (by omega)) (by omega) | fail, ?_⟩; try refine zS ?_)
  | ((with_reducible refine awp_label ?_); try refine zS ?_)
  | ((with_reducible refine awp_goto ?_); try refine zS ?_)
  | ((with_reducible refine awp_scope0 ?_); try refine zS ?_)
  | exact True.intro
  | fail
  refine awp_loopT (fun z : Nat × Str × Bool => z.1 ≤ s.length ∧ mean s 0 = (mean (s.drop z.1) 0).map (z.2.1 ++ ·) ∧ z.2.1.length ≤ z.1 ∧ (0 < z.1 → z.2.1 ≠ [])) (fun z => s.length - z.1) (fun z => [(5, .c (.ptr 3 0 0 0))]) (fun z => [bx (dS s), some (.box [cB 1 z.2.2, .own 2 0 z.2.1.length z.2.1.length] (some 59)), some (.rows 1 (z.2.1.map rU8) (some 5)), bx (dI z.1)]) (0, [], false) ⟨by simp, by simp, by simp, by simp⟩ (by exact zwl) ?_
  rintro ⟨i, o, u⟩ ⟨h1, h2, h3, h4⟩
  simp only at h1 h2 h3 h4
  have hx := fnd_idx (s.drop i)
  generalize hk : idxF (fun e : Ec => pfx (s.drop i) e.s) escs 0 = k at hx
  have hk4 : k < 4 := by omega
  have hix : i < s.length → AFn env 45 [aF (escs.map Ec.row), .c (.clo (.func 68) [.ptr 0 0 0 0, .ptr 1 0 0 0])] [bx (dS s), bx (dI i)] (aI k) [bx (dS s), bx (dI i)] := fun hi => by
    rw [← hk]; exact idxE_ok escs 68 (fun e => pfx (s.drop i) e.s) (dS s) (dI i) (by decide) (fun x _ => mean1_ok x s i hi)
  have hwb : ∀ u, 0 ≤ k → AFn env 47 [P0, aU (gt escs k.toNat).c] (Bd u o) (.c (.d (.sc .nilIface))) (Bd true (o ++ [UInt8.ofNat (gt escs k.toNat).c.toNat])) := fun u h => by
    rcases hx with hx | ⟨_, _, c, hc, _⟩
    · omega
    · rw [hc]; simpa using writeByte_ok u o c (by omega)
  have hln : 0 ≤ k → 1 ≤ (gt escs k.toNat).s.length ∧ i + (gt escs k.toNat).s.length ≤ s.length := fun h => by
    rcases hx with hx | ⟨_, _, c, _, _, h5, h6⟩
    · omega
    · rw [List.length_drop] at h6; omega
  have hpl : ∀ hi : i < s.length, mean (s.drop i) 0 = if plainF (byteAt s i) = true ∧ ¬ byteAt s i = 60 then (if byteAt s i = 38 then (match findE (s.drop i) with | none => none | some x => (mean (s.drop (i + 1)) (x.2 - 1)).map (x.1 :: ·)) else (mean (s.drop (i + 1)) 0).map (gt s i :: ·)) else none := fun hi => by
    have e60 : (byteAt s i = 60) ↔ gt s i = 60 := by rw [byteAt_gt, ← UInt8.toNat_inj]; simp; omega
    have e38 : (byteAt s i = 38) ↔ gt s i = 38 := by rw [byteAt_gt, ← UInt8.toNat_inj]; simp; omega
    rw [drop_gt hi, mean]
    simp only [e60, e38]; rfl
  have hend : i = s.length → meanR s = (o, true) := fun hi => by unfold meanR; rw [h2, hi, List.drop_length]; simp [mean]
  have hbad1 : ∀ hi : i < s.length, plainF (byteAt s i) = false → meanR s = ([], false) := fun hi hp => by unfold meanR; rw [h2, hpl hi, if_neg (by simp [hp])]; rfl
  have hbad2 : ∀ hi : i < s.length, byteAt s i = 60 → meanR s = ([], false) := fun hi hp => by unfold meanR; rw [h2, hpl hi, if_neg (by simp [hp])]; rfl
  have hbad3 : ∀ hi : i < s.length, byteAt s i = 38 → k < 0 → meanR s = ([], false) := fun hi hp hk0 => by
    unfold meanR; rw [h2, hpl hi]
    rcases hx with hx | hx
    · rw [hx.2, hp]; simp
    · omega
  have hgo1 : ∀ hi : i < s.length, plainF (byteAt s i) = true → ¬ byteAt s i = 60 → ¬ byteAt s i = 38 → (i + 1 ≤ s.length ∧ mean s 0 = (mean (s.drop (i + 1)) 0).map ((o ++ [gt s i]) ++ ·) ∧ (o ++ [gt s i]).length ≤ i + 1 ∧ (0 < i + 1 → o ++ [gt s i] ≠ [])) := fun hi a b c => ⟨by omega, by rw [h2, hpl hi, if_pos ⟨a, b⟩, if_neg c, Option.map_map]; congr 1; funext y; simp, by simp; omega, by simp⟩
  have hgo2 : ∀ hi : i < s.length, plainF (byteAt s i) = true → byteAt s i = 38 → 0 ≤ k → (i + (gt escs k.toNat).s.length ≤ s.length ∧ mean s 0 = (mean (s.drop (i + (gt escs k.toNat).s.length)) 0).map ((o ++ [UInt8.ofNat (gt escs k.toNat).c.toNat]) ++ ·) ∧ (o ++ [UInt8.ofNat (gt escs k.toNat).c.toNat]).length ≤ i + (gt escs k.toNat).s.length ∧ (0 < i + (gt escs k.toNat).s.length → o ++ [UInt8.ofNat (gt escs k.toNat).c.toNat] ≠ [])) := fun hi a b hk0 => by
    have hl := hln hk0
    refine ⟨hl.2, ?_, by simp; omega, by simp⟩
    rcases hx with hx | ⟨_, _, c, hc, hf, _, _⟩
    · omega
    · rw [h2, hpl hi, if_pos ⟨a, by omega⟩, if_pos b, hf, hc]
      simp only [Int.toNat_natCast, UInt8.ofNat_toNat]
      rw [mean_drop, List.drop_drop, show i + 1 + ((gt escs k.toNat).s.length - 1) = i + (gt escs k.toNat).s.length by omega, Option.map_map]; congr 1; funext y; simp
  clear hpl h2 hx hk
  cases u
  all_goals refine zT ?_
  all_goals repeat' first
            | with_reducible refine awp_seq ?_
            | ((with_reducible refine awp_region ?_); refine zS ?_)
            | ((with_reducible refine Gd_nd ?_ ?_) <;> intro hb hb2 <;> first | contradiction | (exfalso; omega) | (refine zH hb2 ?_; try clear hb2))
            | ((with_reducible refine Gd_nb ?_ ?_) <;> intro hb <;> first | contradiction | refine zH hb ?_)
            | ((with_reducible refine Gd_d ?_ ?_) <;> intro hb hb2 <;> first | contradiction | (exfalso; omega) | (refine zH hb2 ?_; try clear hb2))
            | ((with_reducible refine Gd_b ?_ ?_) <;> intro hb <;> first | contradiction | refine zH hb ?_)
            | ((with_reducible refine Res_id ?_); refine zS ?_)
            | ((with_reducible refine awp_drawnC ?_ ?_); rfl; refine zS ?_)
            | ((with_reducible refine awp_drawnA ?_ ?_); rfl; refine zS ?_)
            | ((with_reducible refine CGd_nd ?_ ?_) <;> intro hb hb2 <;> first | contradiction | (exfalso; omega) | (refine zH hb2 ?_; try clear hb2))
            | ((with_reducible refine CGd_nb ?_ ?_) <;> intro hb <;> first | contradiction | refine zH hb ?_)
            | ((with_reducible refine CGd_d ?_ ?_) <;> intro hb hb2 <;> first | contradiction | (exfalso; omega) | (refine zH hb2 ?_; try clear hb2))
            | ((with_reducible refine CGd_b ?_ ?_) <;> intro hb <;> first | contradiction | refine zH hb ?_)
            | ((with_reducible refine CRes_id ?_); refine zS ?_)
            | ((with_reducible refine DStep_id ?_); refine zdP ?_; refine ⟨_, by first | exact plain_ok _ | fail, fun _ => rfl, fun _ => rfl, rfl, (fun h => by first | cases h | fail), ?_⟩; try refine zS ?_)
            | ((with_reducible refine DStep_id ?_); refine zdW ?_; refine ⟨_, by first | exact plain_ok _ | fail, fun _ => rfl, fun _ => rfl, rfl, ?_⟩; try refine zS ?_)
            | ((with_reducible refine DStep_id ?_); refine zdT [0, 3] ?_; refine ⟨_, _, by first | exact hix (by omega) | fail, ?_⟩; try refine zS ?_)
            | ((with_reducible refine DStep_id ?_); refine zdT [1, 2] ?_; refine ⟨_, _, by first | exact writeByte_ok true o (gt s i) (by omega) | exact writeByte_ok false o (gt s i) (by omega) | exact hwb true (by omega) | exact hwb false (by omega) | exact text_ok true o (h4 (by omega)) (by omega) | exact text_ok false o (h4 (by omega)) (by omega) | fail, ?_⟩; try refine zS ?_)
            | ((with_reducible refine AWP_c ?_); refine zcdT ?_)
            | ((with_reducible refine AWP_c ?_); refine zcdF ?_)
            | ((with_reducible refine AWP_c ?_); refine zcdN ?_ ?_ <;> intro hb hb2 <;> first | contradiction | (exfalso; omega) | ((try refine zH hb2 ?_); try clear hb2))
            | ((with_reducible refine AWP_c ?_); refine zcdD ?_ ?_ <;> intro hb hb2 <;> first | contradiction | (exfalso; omega) | ((try refine zH hb2 ?_); try clear hb2))
            | ((with_reducible refine AWP_c ?_); refine zcdM ?_ ?_ <;> intro hb <;> first | contradiction | (try refine zH hb ?_))
            | ((with_reducible refine AWP_c ?_); refine zcdB ?_ ?_ <;> intro hb <;> first | contradiction | (try refine zH hb ?_))
            | ((with_reducible refine awp_ret ?_); refine fin_r ?_)
            | ((with_reducible refine awp_ret ?_); refine fin_q ?_ ?_)
            | with_reducible refine fin_qn ?_ ?_
            | ((with_reducible refine awp_skip ?_); refine zS ?_)
            | with_reducible refine awp_block ?_
            | ((with_reducible refine awp_exit ?_); refine zS ?_)
            | ((with_reducible refine CallK_id ?_); refine zcF ?_; refine ⟨_, by first | exact plain_ok _ | fail, fun _ => rfl, fun _ => rfl, rfl, ?_⟩; try refine zS ?_)
            | ((with_reducible refine CallK_id ?_); refine zcT [0, 3] ?_; refine ⟨_, _, by first | exact hix (by omega) | fail, ?_⟩; try refine zS ?_)
            | ((with_reducible refine CallK_id ?_); refine zcT [1, 2] ?_; refine ⟨_, _, by first | exact writeByte_ok true o (gt s i) (by omega) | exact writeByte_ok false o (gt s i) (by omega) | exact hwb true (by omega) | exact hwb false (by omega) | exact text_ok true o (h4 (by omega)) (by omega) | exact text_ok false o (h4 (by omega)) (by omega) | fail, ?_⟩; try refine zS ?_)
            | ((with_reducible refine awp_label ?_); try refine zS ?_)
            | ((with_reducible refine awp_goto ?_); try refine zS ?_)
            | ((with_reducible refine awp_scope0 ?_); try refine zS ?_)
            | exact True.intro
            | fail
  all_goals first
    | (rw [hbad1 (by omega) ‹_›]; rfl)
    | (rw [hbad2 (by omega) ‹_›]; rfl)
    | (rw [hbad3 (by omega) ‹_› ‹_›]; rfl)
    | (rw [hend (by omega)]; done)
    | exact ⟨(i + 1, o ++ [gt s i], true), hgo1 (by omega) ‹_› ‹_› ‹_›, by simp only; omega, (wk_swap 3 4 (by decide) (by decide) (by simp) (by simp) (by decide)).trans (by exact zwc 4)⟩
    | (have hl := hln (by omega)
       exact ⟨(i + (gt escs k.toNat).s.length, o ++ [UInt8.ofNat (gt escs k.toNat).c.toNat], true), hgo2 (by omega) ‹_› ‹_› (by omega), by simp only; omega, (wk_swap 3 4 (by decide) (by decide) (by simp) (by simp) (by decide)).trans (wk_cl 4 (by decide) (by simp) (by simp only [go_sem, Bool.not_not, List.mem_singleton, forall_eq, ↓reduceIte, if_pos, rowsAt_map, wrap64, wrapu8, List.getElem?_cons_zero, List.getElem?_cons_succ, Int.reduceToNat, Nat.reduceAdd, Nat.reduceBEq, Bool.or_false, Bool.false_or, Bool.true_or, Nat.reduceSub, Nat.reduceMul, Int.reduceAdd, Int.reduceEq, Int.reduceLT, Int.reduceLE, Int.reduceNeg, Nat.reduceLT, Nat.reduceLeDiff, Nat.reduceEqDiff]; try simp) (by simp only [go_sem, Bool.not_not, List.mem_singleton, forall_eq, ↓reduceIte, if_pos, rowsAt_map, wrap64, wrapu8, List.getElem?_cons_zero, List.getElem?_cons_succ, Int.reduceToNat, Nat.reduceAdd, Nat.reduceBEq, Bool.or_false, Bool.false_or, Bool.true_or, Nat.reduceSub, Nat.reduceMul, Int.reduceAdd, Int.reduceEq, Int.reduceLT, Int.reduceLE, Int.reduceNeg, Nat.reduceLT, Nat.reduceLeDiff, Nat.reduceEqDiff]; simp; omega))⟩)
    | skip
  all_goals trace_state
end Go.Eng
