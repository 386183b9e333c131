/- Each function of the program, walked over plain data: what it comes to, at all arguments. -/
import Derived.Test.YtjegmlclpecpdaaDoorMc
import Derived.Test.YtjegmlclpecpdaaDoorMa
import Derived.Test.YtjegmlclpecpdaaDoorEc
import Derived.Test.YtjegmlclpecpdaaDoorRows
open Go Go.Proofs
namespace Go.Eng
set_option linter.unusedSimpArgs false
set_option linter.unusedVariables false
set_option maxRecDepth 10000
set_option maxHeartbeats 40000000
theorem bareK_ok (k : Int) (n x y : Int) (t : T) (c : List T) (ks : List B) (l : List Lk) (ns : List Nd) (fs : List Fl) (hk : k = 1 ∨ k = 2 ∨ k = 3 ∨ k = 4 ∨ k = 5 ∨ k = 6 ∨ k = 7 ∨ k = 8 ∨ k = 9 ∨ k = 10 ∨ k = 11 ∨ k = 12 ∨ k = 13 ∨ k = 14) : AFn env 36 [(B.mk k n x y t c ks l ns fs).a] [] (bareF (B.mk k n x y t c ks l ns fs)).a [] := by
  refine afn_body Tryd.func36 rfl (by decide) ?_
  simp only [Tryd.ntmps36, Tryd.results36, List.length_cons, List.length_nil, List.cons_append, List.nil_append, Nat.reduceAdd, Nat.reduceSub, List.replicate]
  rcases hk with rfl | rfl | rfl | rfl | rfl | rfl | rfl | rfl | rfl | rfl | rfl | rfl | rfl | rfl
  all_goals repeat' first
            | ((with_reducible refine awp_seqQ ?_); intro _ _)
            | ((with_reducible refine awp_region ?_); refine zS ?_)
            | ((with_reducible refine Gd_nd ?_ ?_) <;> intro hb hb2 <;> first | contradiction | (exfalso; omega) | (refine zH hb2 ?_; try clear hb2))
            | ((with_reducible refine Gd_nb ?_ ?_) <;> intro hb <;> first | contradiction | refine zH hb ?_)
            | ((with_reducible refine Gd_d ?_ ?_) <;> intro hb hb2 <;> first | contradiction | (exfalso; omega) | (refine zH hb2 ?_; try clear hb2))
            | ((with_reducible refine Gd_b ?_ ?_) <;> intro hb <;> first | contradiction | refine zH hb ?_)
            | ((with_reducible refine Res_id ?_); refine zS ?_)
            | ((with_reducible refine awp_drawnC ?_ ?_); rfl; refine zS ?_)
            | ((with_reducible refine awp_drawnA ?_ ?_); rfl; refine zS ?_)
            | ((with_reducible refine CGd_nd ?_ ?_) <;> intro hb hb2 <;> first | contradiction | (exfalso; omega) | (refine zH hb2 ?_; try clear hb2))
            | ((with_reducible refine CGd_nb ?_ ?_) <;> intro hb <;> first | contradiction | refine zH hb ?_)
            | ((with_reducible refine CGd_d ?_ ?_) <;> intro hb hb2 <;> first | contradiction | (exfalso; omega) | (refine zH hb2 ?_; try clear hb2))
            | ((with_reducible refine CGd_b ?_ ?_) <;> intro hb <;> first | contradiction | refine zH hb ?_)
            | ((with_reducible refine CRes_id ?_); refine zS ?_)
            | ((with_reducible refine DStep_id ?_); refine zdP ?_; refine ⟨_, by first | fail | fail, fun _ => rfl, fun _ => rfl, rfl, (fun h => by first | cases h | fail), ?_⟩; try refine zS ?_)
            | ((with_reducible refine DStep_id ?_); refine zdW ?_; refine ⟨_, by first | fail | fail, fun _ => rfl, fun _ => rfl, rfl, ?_⟩; try refine zS ?_)
            | ((with_reducible refine AWP_c ?_); refine zcdT ?_)
            | ((with_reducible refine AWP_c ?_); refine zcdF ?_)
            | ((with_reducible refine AWP_c ?_); refine zcdN ?_ ?_ <;> intro hb hb2 <;> first | contradiction | (exfalso; omega) | ((try refine zH hb2 ?_); try clear hb2))
            | ((with_reducible refine AWP_c ?_); refine zcdD ?_ ?_ <;> intro hb hb2 <;> first | contradiction | (exfalso; omega) | ((try refine zH hb2 ?_); try clear hb2))
            | ((with_reducible refine AWP_c ?_); refine zcdM ?_ ?_ <;> intro hb <;> first | contradiction | (try refine zH hb ?_))
            | ((with_reducible refine AWP_c ?_); refine zcdB ?_ ?_ <;> intro hb <;> first | contradiction | (try refine zH hb ?_))
            | ((with_reducible refine awp_ret ?_); refine fin_r ?_)
            | ((with_reducible refine awp_ret ?_); refine fin_q ?_ ?_)
            | with_reducible refine fin_qn ?_ ?_
            | ((with_reducible refine awp_skip ?_); try refine zS ?_)
            | with_reducible refine awp_block ?_
            | ((with_reducible refine awp_exit ?_); try refine zS ?_)
            | ((with_reducible refine CallK_id ?_); refine zcF ?_; refine ⟨_, by first | fail | fail, fun _ => rfl, fun _ => rfl, rfl, ?_⟩; try refine zS ?_)
            | ((with_reducible refine awp_label ?_); try refine zS ?_)
            | ((with_reducible refine awp_goto ?_); try refine zS ?_)
            | ((with_reducible refine awp_scope0 ?_); try refine zS ?_)
            | exact True.intro
            | ((with_reducible refine awp_ret ?_); refine q_step (by assumption) ?_)
            | with_reducible refine fin_r ?_
            | with_reducible refine fin_q ?_ ?_
            | ((with_reducible refine q_step (by assumption) ?_); try refine zS ?_)
            | fail
  all_goals first | (simp [go_sem, bareF, *]; done) | (simp [go_sem, bareF, *]; exact ⟨rfl, rfl, rfl⟩)
theorem bare0_ok (k : Int) (n x y : Int) (t : T) (c : List T) (ks : List B) (l : List Lk) (ns : List Nd) (fs : List Fl) (hk : k < 1 ∨ 14 < k) : AFn env 36 [(B.mk k n x y t c ks l ns fs).a] [] (bareF (B.mk k n x y t c ks l ns fs)).a [] := by
  have e1 : ¬ k = 1 := by omega
  have e2 : ¬ k = 2 := by omega
  have e3 : ¬ k = 3 := by omega
  have e4 : ¬ k = 4 := by omega
  have e5 : ¬ k = 5 := by omega
  have e6 : ¬ k = 6 := by omega
  have e7 : ¬ k = 7 := by omega
  have e8 : ¬ k = 8 := by omega
  have e9 : ¬ k = 9 := by omega
  have e10 : ¬ k = 10 := by omega
  have e11 : ¬ k = 11 := by omega
  have e12 : ¬ k = 12 := by omega
  have e13 : ¬ k = 13 := by omega
  have e14 : ¬ k = 14 := by omega
  refine afn_body Tryd.func36 rfl (by decide) ?_
  simp only [Tryd.ntmps36, Tryd.results36, List.length_cons, List.length_nil, List.cons_append, List.nil_append, Nat.reduceAdd, Nat.reduceSub, List.replicate]
  repeat' first
  | ((with_reducible refine awp_seqQ ?_); intro _ _)
  | ((with_reducible refine awp_region ?_); refine zS ?_)
  | ((with_reducible refine Gd_nd ?_ ?_) <;> intro hb hb2 <;> first | contradiction | (exfalso; omega) | (refine zH hb2 ?_; try clear hb2))
  | ((with_reducible refine Gd_nb ?_ ?_) <;> intro hb <;> first | contradiction | refine zH hb ?_)
  | ((with_reducible refine Gd_d ?_ ?_) <;> intro hb hb2 <;> first | contradiction | (exfalso; omega) | (refine zH hb2 ?_; try clear hb2))
  | ((with_reducible refine Gd_b ?_ ?_) <;> intro hb <;> first | contradiction | refine zH hb ?_)
  | ((with_reducible refine Res_id ?_); refine zS ?_)
  | ((with_reducible refine awp_drawnC ?_ ?_); rfl; refine zS ?_)
  | ((with_reducible refine awp_drawnA ?_ ?_); rfl; refine zS ?_)
  | ((with_reducible refine CGd_nd ?_ ?_) <;> intro hb hb2 <;> first | contradiction | (exfalso; omega) | (refine zH hb2 ?_; try clear hb2))
  | ((with_reducible refine CGd_nb ?_ ?_) <;> intro hb <;> first | contradiction | refine zH hb ?_)
  | ((with_reducible refine CGd_d ?_ ?_) <;> intro hb hb2 <;> first | contradiction | (exfalso; omega) | (refine zH hb2 ?_; try clear hb2))
  | ((with_reducible refine CGd_b ?_ ?_) <;> intro hb <;> first | contradiction | refine zH hb ?_)
  | ((with_reducible refine CRes_id ?_); refine zS ?_)
  | ((with_reducible refine DStep_id ?_); refine zdP ?_; refine ⟨_, by first | fail | fail, fun _ => rfl, fun _ => rfl, rfl, (fun h => by first | cases h | fail), ?_⟩; try refine zS ?_)
  | ((with_reducible refine DStep_id ?_); refine zdW ?_; refine ⟨_, by first | fail | fail, fun _ => rfl, fun _ => rfl, rfl, ?_⟩; try refine zS ?_)
  | ((with_reducible refine AWP_c ?_); refine zcdT ?_)
  | ((with_reducible refine AWP_c ?_); refine zcdF ?_)
  | ((with_reducible refine AWP_c ?_); refine zcdN ?_ ?_ <;> intro hb hb2 <;> first | contradiction | (exfalso; omega) | ((try refine zH hb2 ?_); try clear hb2))
  | ((with_reducible refine AWP_c ?_); refine zcdD ?_ ?_ <;> intro hb hb2 <;> first | contradiction | (exfalso; omega) | ((try refine zH hb2 ?_); try clear hb2))
  | ((with_reducible refine AWP_c ?_); refine zcdM ?_ ?_ <;> intro hb <;> first | contradiction | (try refine zH hb ?_))
  | ((with_reducible refine AWP_c ?_); refine zcdB ?_ ?_ <;> intro hb <;> first | contradiction | (try refine zH hb ?_))
  | ((with_reducible refine awp_ret ?_); refine fin_r ?_)
  | ((with_reducible refine awp_ret ?_); refine fin_q ?_ ?_)
  | with_reducible refine fin_qn ?_ ?_
  | ((with_reducible refine awp_skip ?_); try refine zS ?_)
  | with_reducible refine awp_block ?_
  | ((with_reducible refine awp_exit ?_); try refine zS ?_)
  | ((with_reducible refine CallK_id ?_); refine zcF ?_; refine ⟨_, by first | fail | fail, fun _ => rfl, fun _ => rfl, rfl, ?_⟩; try refine zS ?_)
  | ((with_reducible refine awp_label ?_); try refine zS ?_)
  | ((with_reducible refine awp_goto ?_); try refine zS ?_)
  | ((with_reducible refine awp_scope0 ?_); try refine zS ?_)
  | exact True.intro
  | ((with_reducible refine awp_ret ?_); refine q_step (by assumption) ?_)
  | with_reducible refine fin_r ?_
  | with_reducible refine fin_q ?_ ?_
  | ((with_reducible refine q_step (by assumption) ?_); try refine zS ?_)
  | fail
  all_goals simp [go_sem, bareF, e1, e2, e3, e4, e5, e6, e7, e8, e9, e10, e11, e12, e13, e14]
theorem bare_ok (b : B) : AFn env 36 [b.a] [] (bareF b).a [] := by
  cases b with | mk k n x y t c ks l ns fs =>
  by_cases h : k < 1 ∨ 14 < k
  · exact bare0_ok k n x y t c ks l ns fs h
  · exact bareK_ok k n x y t c ks l ns fs (by omega)
end Go.Eng
open Go Go.Proofs
namespace Go.Eng
set_option linter.unusedSimpArgs false
set_option linter.unusedVariables false
set_option maxRecDepth 10000
set_option maxHeartbeats 40000000
def grB (b : B) : Gr := ⟨b.nodes, b.flows⟩
def numF (b : B) : Bool :=
  let v := decide (0 ≤ b.x) && decide (b.x < 4)
  let k : Int := b.kids.length
  if b.kind = 1 ∨ b.kind = 5 then true else if b.kind = 2 ∨ b.kind = 4 then v else if b.kind = 3 then v && ofF b.t 1 else if b.kind = 6 ∨ b.kind = 7 ∨ b.kind = 9 then decide (k > 1)
  else if b.kind = 8 then decide (k > 1) && decide ((b.conds.length : Int) = k) && condsF b.conds b.x else if b.kind = 10 then decide (k = 1) && decide (b.x ≥ 0) && decide (b.x ≤ 4)
  else if b.kind = 11 then decide (k = 2) && decide ((b.conds.length : Int) = 2) && condsF b.conds b.x && decide (b.y ≥ 0) && decide (b.y < 2)
  else if b.kind = 12 then (decide (b.x = 3) && decide ((b.conds.length : Int) > 1) && condsF b.conds b.y) || decide (b.x = 1) || decide (b.x = 2) || decide (b.x = 4)
  else if b.kind = 13 then decide (k > 0) && linkedF b else if b.kind = 14 then decide ((checkN (grB b)).1 = 0) else false
theorem gr0_ok (b : B) (hs : b.size < 1000000000000) : Gr0 (grB b) := by
  have hz := B.size_eq b
  have h1 := Nd.len_le b.nodes
  have h2 := Fl.len_le b.flows
  exact ⟨by simp only [grB]; omega, by simp only [grB]; omega, fun d hd => by have := Nd.size_kid (l := b.nodes) hd; omega, fun d hd => by have := Fl.size_kid (l := b.flows) hd; omega⟩
attribute [go_sem] grB
theorem numK_ok (k : Int) (n x y : Int) (t : T) (c : List T) (ks : List B) (l : List Lk) (ns : List Nd) (fs : List Fl) (hs : (B.mk k n x y t c ks l ns fs).size < 1000000000000) (hk : k = 1 ∨ k = 2 ∨ k = 3 ∨ k = 4 ∨ k = 5 ∨ k = 6 ∨ k = 7 ∨ k = 8 ∨ k = 9 ∨ k = 10 ∨ k = 11 ∨ k = 12 ∨ k = 13 ∨ k = 14) : AFn env 37 [(B.mk k n x y t c ks l ns fs).a] [] (aB (numF (B.mk k n x y t c ks l ns fs))) [] := by
  have hz := B.size_eq (B.mk k n x y t c ks l ns fs)
  have l2 := B.len_le ks
  have l3 := T.len_le c
  simp only [mk_kids, mk_t, mk_conds] at hz
  refine afn_body Tryd.func37 rfl (by decide) ?_
  simp only [Tryd.ntmps37, Tryd.results37, List.length_cons, List.length_nil, List.cons_append, List.nil_append, Nat.reduceAdd, Nat.reduceSub, List.replicate]
  rcases hk with rfl | rfl | rfl | rfl | rfl | rfl | rfl | rfl | rfl | rfl | rfl | rfl | rfl | rfl
  all_goals repeat' first
            | ((with_reducible refine awp_seqQ ?_); intro _ _)
            | ((with_reducible refine awp_region ?_); refine zS ?_)
            | ((with_reducible refine Gd_nd ?_ ?_) <;> intro hb hb2 <;> first | contradiction | (exfalso; omega) | (refine zH hb2 ?_; try clear hb2))
            | ((with_reducible refine Gd_nb ?_ ?_) <;> intro hb <;> first | contradiction | refine zH hb ?_)
            | ((with_reducible refine Gd_d ?_ ?_) <;> intro hb hb2 <;> first | contradiction | (exfalso; omega) | (refine zH hb2 ?_; try clear hb2))
            | ((with_reducible refine Gd_b ?_ ?_) <;> intro hb <;> first | contradiction | refine zH hb ?_)
            | ((with_reducible refine Res_id ?_); refine zS ?_)
            | ((with_reducible refine awp_drawnC ?_ ?_); rfl; refine zS ?_)
            | ((with_reducible refine awp_drawnA ?_ ?_); rfl; refine zS ?_)
            | ((with_reducible refine CGd_nd ?_ ?_) <;> intro hb hb2 <;> first | contradiction | (exfalso; omega) | (refine zH hb2 ?_; try clear hb2))
            | ((with_reducible refine CGd_nb ?_ ?_) <;> intro hb <;> first | contradiction | refine zH hb ?_)
            | ((with_reducible refine CGd_d ?_ ?_) <;> intro hb hb2 <;> first | contradiction | (exfalso; omega) | (refine zH hb2 ?_; try clear hb2))
            | ((with_reducible refine CGd_b ?_ ?_) <;> intro hb <;> first | contradiction | refine zH hb ?_)
            | ((with_reducible refine CRes_id ?_); refine zS ?_)
            | ((with_reducible refine DStep_id ?_); refine zdP ?_; refine ⟨_, by first | exact of_ok t 1 (by omega) | exact conds_ok c x (by omega) | exact conds_ok c y (by omega) | exact linked_ok _ hs | exact checkN_ok _ (gr0_ok (B.mk 14 n x y t c ks l ns fs) hs) | fail, fun _ => rfl, fun _ => rfl, rfl, (fun h => by first | cases h | fail), ?_⟩; try refine zS ?_)
            | ((with_reducible refine DStep_id ?_); refine zdW ?_; refine ⟨_, by first | exact of_ok t 1 (by omega) | exact conds_ok c x (by omega) | exact conds_ok c y (by omega) | exact linked_ok _ hs | exact checkN_ok _ (gr0_ok (B.mk 14 n x y t c ks l ns fs) hs) | fail, fun _ => rfl, fun _ => rfl, rfl, ?_⟩; try refine zS ?_)
            | ((with_reducible refine AWP_c ?_); refine zcdT ?_)
            | ((with_reducible refine AWP_c ?_); refine zcdF ?_)
            | ((with_reducible refine AWP_c ?_); refine zcdN ?_ ?_ <;> intro hb hb2 <;> first | contradiction | (exfalso; omega) | ((try refine zH hb2 ?_); try clear hb2))
            | ((with_reducible refine AWP_c ?_); refine zcdD ?_ ?_ <;> intro hb hb2 <;> first | contradiction | (exfalso; omega) | ((try refine zH hb2 ?_); try clear hb2))
            | ((with_reducible refine AWP_c ?_); refine zcdM ?_ ?_ <;> intro hb <;> first | contradiction | (try refine zH hb ?_))
            | ((with_reducible refine AWP_c ?_); refine zcdB ?_ ?_ <;> intro hb <;> first | contradiction | (try refine zH hb ?_))
            | ((with_reducible refine awp_ret ?_); refine fin_r ?_)
            | ((with_reducible refine awp_ret ?_); refine fin_q ?_ ?_)
            | with_reducible refine fin_qn ?_ ?_
            | ((with_reducible refine awp_skip ?_); try refine zS ?_)
            | with_reducible refine awp_block ?_
            | ((with_reducible refine awp_exit ?_); try refine zS ?_)
            | ((with_reducible refine CallK_id ?_); refine zcF ?_; refine ⟨_, by first | exact of_ok t 1 (by omega) | exact conds_ok c x (by omega) | exact conds_ok c y (by omega) | exact linked_ok _ hs | exact checkN_ok _ (gr0_ok (B.mk 14 n x y t c ks l ns fs) hs) | fail, fun _ => rfl, fun _ => rfl, rfl, ?_⟩; try refine zS ?_)
            | ((with_reducible refine awp_label ?_); try refine zS ?_)
            | ((with_reducible refine awp_goto ?_); try refine zS ?_)
            | ((with_reducible refine awp_scope0 ?_); try refine zS ?_)
            | exact True.intro
            | ((with_reducible refine awp_ret ?_); refine q_step (by assumption) ?_)
            | with_reducible refine fin_r ?_
            | with_reducible refine fin_q ?_ ?_
            | ((with_reducible refine q_step (by assumption) ?_); try refine zS ?_)
            | fail
  all_goals (clear hs hz l2 l3; first | (simp [go_sem, numF, *]; done) | (simp [go_sem, numF, *]; omega) | (simp [go_sem, numF]; omega) | (simp [go_sem, numF, *]; first | rfl | exact decide_eq_decide.2 Iff.rfl))
theorem numk0_ok (k : Int) (n x y : Int) (t : T) (c : List T) (ks : List B) (l : List Lk) (ns : List Nd) (fs : List Fl) (hs : (B.mk k n x y t c ks l ns fs).size < 1000000000000) (hk : k < 1 ∨ 14 < k) : AFn env 37 [(B.mk k n x y t c ks l ns fs).a] [] (aB (numF (B.mk k n x y t c ks l ns fs))) [] := by
  have e1 : ¬ k = 1 := by omega
  have e2 : ¬ k = 2 := by omega
  have e3 : ¬ k = 3 := by omega
  have e4 : ¬ k = 4 := by omega
  have e5 : ¬ k = 5 := by omega
  have e6 : ¬ k = 6 := by omega
  have e7 : ¬ k = 7 := by omega
  have e8 : ¬ k = 8 := by omega
  have e9 : ¬ k = 9 := by omega
  have e10 : ¬ k = 10 := by omega
  have e11 : ¬ k = 11 := by omega
  have e12 : ¬ k = 12 := by omega
  have e13 : ¬ k = 13 := by omega
  have e14 : ¬ k = 14 := by omega
  have hz := B.size_eq (B.mk k n x y t c ks l ns fs)
  have l2 := B.len_le ks
  simp only [mk_kids, mk_t, mk_conds] at hz
  refine afn_body Tryd.func37 rfl (by decide) ?_
  simp only [Tryd.ntmps37, Tryd.results37, List.length_cons, List.length_nil, List.cons_append, List.nil_append, Nat.reduceAdd, Nat.reduceSub, List.replicate]
  repeat' first
  | ((with_reducible refine awp_seqQ ?_); intro _ _)
  | ((with_reducible refine awp_region ?_); refine zS ?_)
  | ((with_reducible refine Gd_nd ?_ ?_) <;> intro hb hb2 <;> first | contradiction | (exfalso; omega) | (refine zH hb2 ?_; try clear hb2))
  | ((with_reducible refine Gd_nb ?_ ?_) <;> intro hb <;> first | contradiction | refine zH hb ?_)
  | ((with_reducible refine Gd_d ?_ ?_) <;> intro hb hb2 <;> first | contradiction | (exfalso; omega) | (refine zH hb2 ?_; try clear hb2))
  | ((with_reducible refine Gd_b ?_ ?_) <;> intro hb <;> first | contradiction | refine zH hb ?_)
  | ((with_reducible refine Res_id ?_); refine zS ?_)
  | ((with_reducible refine awp_drawnC ?_ ?_); rfl; refine zS ?_)
  | ((with_reducible refine awp_drawnA ?_ ?_); rfl; refine zS ?_)
  | ((with_reducible refine CGd_nd ?_ ?_) <;> intro hb hb2 <;> first | contradiction | (exfalso; omega) | (refine zH hb2 ?_; try clear hb2))
  | ((with_reducible refine CGd_nb ?_ ?_) <;> intro hb <;> first | contradiction | refine zH hb ?_)
  | ((with_reducible refine CGd_d ?_ ?_) <;> intro hb hb2 <;> first | contradiction | (exfalso; omega) | (refine zH hb2 ?_; try clear hb2))
  | ((with_reducible refine CGd_b ?_ ?_) <;> intro hb <;> first | contradiction | refine zH hb ?_)
  | ((with_reducible refine CRes_id ?_); refine zS ?_)
  | ((with_reducible refine DStep_id ?_); refine zdP ?_; refine ⟨_, by first | exact trivial | fail, fun _ => rfl, fun _ => rfl, rfl, (fun h => by first | cases h | fail), ?_⟩; try refine zS ?_)
  | ((with_reducible refine DStep_id ?_); refine zdW ?_; refine ⟨_, by first | exact trivial | fail, fun _ => rfl, fun _ => rfl, rfl, ?_⟩; try refine zS ?_)
  | ((with_reducible refine AWP_c ?_); refine zcdT ?_)
  | ((with_reducible refine AWP_c ?_); refine zcdF ?_)
  | ((with_reducible refine AWP_c ?_); refine zcdN ?_ ?_ <;> intro hb hb2 <;> first | contradiction | (exfalso; omega) | ((try refine zH hb2 ?_); try clear hb2))
  | ((with_reducible refine AWP_c ?_); refine zcdD ?_ ?_ <;> intro hb hb2 <;> first | contradiction | (exfalso; omega) | ((try refine zH hb2 ?_); try clear hb2))
  | ((with_reducible refine AWP_c ?_); refine zcdM ?_ ?_ <;> intro hb <;> first | contradiction | (try refine zH hb ?_))
  | ((with_reducible refine AWP_c ?_); refine zcdB ?_ ?_ <;> intro hb <;> first | contradiction | (try refine zH hb ?_))
  | ((with_reducible refine awp_ret ?_); refine fin_r ?_)
  | ((with_reducible refine awp_ret ?_); refine fin_q ?_ ?_)
  | with_reducible refine fin_qn ?_ ?_
  | ((with_reducible refine awp_skip ?_); try refine zS ?_)
  | with_reducible refine awp_block ?_
  | ((with_reducible refine awp_exit ?_); try refine zS ?_)
  | ((with_reducible refine CallK_id ?_); refine zcF ?_; refine ⟨_, by first | exact trivial | fail, fun _ => rfl, fun _ => rfl, rfl, ?_⟩; try refine zS ?_)
  | ((with_reducible refine awp_label ?_); try refine zS ?_)
  | ((with_reducible refine awp_goto ?_); try refine zS ?_)
  | ((with_reducible refine awp_scope0 ?_); try refine zS ?_)
  | exact True.intro
  | ((with_reducible refine awp_ret ?_); refine q_step (by assumption) ?_)
  | with_reducible refine fin_r ?_
  | with_reducible refine fin_q ?_ ?_
  | ((with_reducible refine q_step (by assumption) ?_); try refine zS ?_)
  | fail
  all_goals simp [go_sem, numF, e1, e2, e3, e4, e5, e6, e7, e8, e9, e10, e11, e12, e13, e14]
theorem num_ok (b : B) (hs : b.size < 1000000000000) : AFn env 37 [b.a] [] (aB (numF b)) [] := by
  cases b with | mk k n x y t c ks l ns fs =>
  by_cases h : k < 1 ∨ 14 < k
  · exact numk0_ok k n x y t c ks l ns fs hs h
  · exact numK_ok k n x y t c ks l ns fs hs (by omega)
end Go.Eng
open Go Go.Proofs
namespace Go.Eng
set_option linter.unusedSimpArgs false
set_option linter.unusedVariables false
set_option maxRecDepth 10000
set_option maxHeartbeats 4000000
mutual
def pL : B → List B
  | .mk k n x y t c ks l ns fs => .mk k n x y t c ks l ns fs :: pLs ks
def pLs : List B → List B
  | [] => []
  | b :: l => pL b ++ pLs l
end
theorem pL_eq (b : B) : pL b = b :: pLs b.kids := by cases b; rw [pL]; rfl
mutual
theorem items_pL : ∀ (b : B) (p q : Int) (off : Nat), (itemsF b p q off).map It.b = pL b
  | .mk k n x y t c ks l ns fs, p, q, off => by rw [itemsF, pL, List.map_cons, itemsK_pL ks]
theorem itemsK_pL : ∀ (l : List B) (own off i : Nat), (itemsK l own off i).map It.b = pLs l
  | [], _, _, _ => by rw [itemsK, pLs]; rfl
  | b :: l, own, off, i => by rw [itemsK, pLs, List.map_append, items_pL b, itemsK_pL l]
end
mutual
theorem pL_sub : ∀ (b x : B), x ∈ pL b → (pL x).Sublist (pL b)
  | .mk k n x y t c ks l ns fs, z, h => by
    rw [pL] at h ⊢
    rcases List.mem_cons.1 h with rfl | h
    · rw [pL]; exact List.Sublist.refl _
    · exact (pLs_sub ks z h).cons _
theorem pLs_sub : ∀ (l : List B) (x : B), x ∈ pLs l → (pL x).Sublist (pLs l)
  | [], x, h => by simp [pLs] at h
  | b :: l, x, h => by
    rw [pLs] at h ⊢
    rcases List.mem_append.1 h with h | h
    · exact (pL_sub b x h).trans (List.sublist_append_left _ _)
    · exact (pLs_sub l x h).trans (List.sublist_append_right _ _)
end
mutual
theorem pL_deep : ∀ (b x : B), x ∈ pL b → deepF x ≤ deepF b
  | .mk k n x y t c ks l ns fs, z, h => by
    rw [pL] at h
    rcases List.mem_cons.1 h with rfl | h
    · exact Nat.le_refl _
    · have := pLs_deep ks z h
      rw [deepF_eq (.mk k n x y t c ks l ns fs)]; simp only [B.kids]; omega
theorem pLs_deep : ∀ (l : List B) (x : B), x ∈ pLs l → deepF x ≤ deeps l
  | [], x, h => by simp [pLs] at h
  | b :: l, x, h => by
    rw [pLs] at h
    rw [deeps]
    rcases List.mem_append.1 h with h | h
    · have := pL_deep b x h; omega
    · have := pLs_deep l x h; omega
end
mutual
theorem pL_right (N : B → Bool) : ∀ (b x : B), x ∈ pL b → rightF N b = true → rightF N x = true
  | .mk k n x y t c ks l ns fs, z, h, hr => by
    rw [pL] at h
    rcases List.mem_cons.1 h with rfl | h
    · exact hr
    · rw [rightF_eq] at hr
      simp only [Bool.and_eq_true, Bool.not_eq_true', B.kids] at hr
      exact pLs_right N k ks z h hr.2
theorem pLs_right (N : B → Bool) (k : Int) : ∀ (l : List B) (x : B), x ∈ pLs l → l.any (wrong1 N k) = false → rightF N x = true
  | [], x, h, _ => by simp [pLs] at h
  | b :: l, x, h, hr => by
    rw [pLs] at h
    rw [List.any_cons, Bool.or_eq_false_iff] at hr
    rcases List.mem_append.1 h with h | h
    · refine pL_right N b x h ?_
      have := hr.1
      simp only [wrong1, Bool.or_eq_false_iff, Bool.not_eq_false'] at this
      exact this.2
    · exact pLs_right N k l x h hr.2
end
def nodesL (l : List B) : List Int := l.filterMap fun b => if skips b.kind then none else some b.node
theorem nodesL_sub {l l' : List B} (h : l.Sublist l') : (nodesL l).Sublist (nodesL l') := h.filterMap _
theorem dupF_ok : ∀ (L : List It) (s : List Int), dupF L s = false ↔ (nodesL (L.map It.b)).Nodup ∧ ∀ n ∈ nodesL (L.map It.b), n ∉ s
  | [], s => by simp [dupF, nodesL]
  | x :: l, s => by
    rw [dupF]
    by_cases hk : skips x.b.kind
    · rw [if_pos hk, dupF_ok l s]
      simp [nodesL, hk]
    · have hn : nodesL ((x :: l).map It.b) = x.b.node :: nodesL (l.map It.b) := by simp [nodesL, hk]
      rw [if_neg hk, hn]
      by_cases hm : x.b.node ∈ s
      · rw [if_pos hm]
        constructor
        · intro h; cases h
        · rintro ⟨_, h⟩; exact absurd hm (h _ (by simp))
      · rw [if_neg hm, dupF_ok l]
        simp only [List.nodup_cons, List.mem_cons, ins, if_neg hm, List.mem_append, List.mem_singleton, not_or]
        constructor
        · rintro ⟨h1, h2⟩
          refine ⟨⟨fun h => ?_, h1⟩, ?_⟩
          · exact (h2 _ h).2.1 rfl
          · rintro n (rfl | h)
            · exact hm
            · exact (h2 n h).1
        · rintro ⟨⟨h1, h2⟩, h3⟩
          refine ⟨h2, fun n hn => ⟨h3 n (.inr hn), fun h => ?_, by simp⟩⟩
          subst h; exact h1 hn
theorem check_part {N : B → Bool} {b x : B} (h : checkF N b = 0) (hx : x ∈ pL b) (h1 : x.kind ≠ 12) (h2 : x.kind ≠ 10) : checkF N x = 0 := by
  unfold checkF at h ⊢
  split at h
  · cases h
  · split at h
    · cases h
    · split at h
      · cases h
      · rename_i q1 q2 q3
        have hs := pL_sub b x hx
        have hc : x.count ≤ b.count := by
          have := hs.length_le
          rwa [← items_pL b (-1) 0 0, ← items_pL x (-1) 0 0, List.length_map, List.length_map, itemsF_len, itemsF_len] at this
        have hd := pL_deep b x hx
        have hr : rightF N b = true := by
          cases hh : rightF N b with
          | true => rfl
          | false => exact absurd (.inr (.inr hh)) q2
        have hr2 := pL_right N b x hx hr
        have q3 : dupF (itemsF b (-1) 0 0) [] = false := by simpa using q3
        rw [dupF_ok, items_pL] at q3
        have q4 : dupF (itemsF x (-1) 0 0) [] = false := by
          rw [dupF_ok, items_pL]
          exact ⟨q3.1.sublist (nodesL_sub hs), fun n hn => by simp⟩
        rw [if_neg (by omega), if_neg (by rw [hr2]; simp; exact ⟨h2, h1⟩), if_neg (by rw [q4]; simp)]
theorem right_okA (b : B) (hs : b.size ≤ 100000) : AFn env 28 [b.a] [] (aB (rightF numF b)) [] :=
  right_ok numF (fun b => decide (b.size ≤ 100000)) (fun b h k hk => by have := B.size_lt hk; simp only [decide_eq_true_eq] at *; omega) (fun b _ => bare_ok b) (fun b h => num_ok b (by simp only [decide_eq_true_eq] at h; omega)) b (by simpa using hs) hs
theorem check_okA (b : B) (hs : b.size ≤ 100000) : AFn env 15 [b.a] [] (aI (checkF numF b)) [] := check_ok numF b hs (right_okA b hs)
end Go.Eng
open Go Go.Proofs
namespace Go.Eng
set_option linter.unusedSimpArgs false
set_option linter.unusedVariables false
set_option maxRecDepth 10000
set_option maxHeartbeats 4000000
theorem law5_ok (b : B) : AFn env 5 [b.a] [] (aB true) [] := by
  have hlen := itemsF_len b (-1) 0 0
  have hc := b.count_le
  refine afn_body Tryd.func5 rfl (by decide) ?_
  simp only [Tryd.ntmps5, Tryd.results5, List.length_cons, List.length_nil, List.cons_append, List.nil_append, Nat.reduceAdd, Nat.reduceSub, List.replicate]
  repeat' first
  | ((with_reducible refine awp_seqQ ?_); intro _ _)
  | ((with_reducible refine awp_region ?_); refine zS ?_)
  | ((with_reducible refine Gd_nd ?_ ?_) <;> intro hb hb2 <;> first | contradiction | (exfalso; omega) | (refine zH hb2 ?_; try clear hb2))
  | ((with_reducible refine Gd_nb ?_ ?_) <;> intro hb <;> first | contradiction | refine zH hb ?_)
  | ((with_reducible refine Gd_d ?_ ?_) <;> intro hb hb2 <;> first | contradiction | (exfalso; omega) | (refine zH hb2 ?_; try clear hb2))
  | ((with_reducible refine Gd_b ?_ ?_) <;> intro hb <;> first | contradiction | refine zH hb ?_)
  | ((with_reducible refine Res_id ?_); refine zS ?_)
  | ((with_reducible refine awp_drawnC ?_ ?_); rfl; refine zS ?_)
  | ((with_reducible refine awp_drawnA ?_ ?_); rfl; refine zS ?_)
  | ((with_reducible refine CGd_nd ?_ ?_) <;> intro hb hb2 <;> first | contradiction | (exfalso; omega) | (refine zH hb2 ?_; try clear hb2))
  | ((with_reducible refine CGd_nb ?_ ?_) <;> intro hb <;> first | contradiction | refine zH hb ?_)
  | ((with_reducible refine CGd_d ?_ ?_) <;> intro hb hb2 <;> first | contradiction | (exfalso; omega) | (refine zH hb2 ?_; try clear hb2))
  | ((with_reducible refine CGd_b ?_ ?_) <;> intro hb <;> first | contradiction | refine zH hb ?_)
  | ((with_reducible refine CRes_id ?_); refine zS ?_)
  | ((with_reducible refine DStep_id ?_); refine zdP ?_; refine ⟨_, by first | exact twice_ok | exact check_okA b (not_large ‹(largeB b 600 1).1 = false› (by decide) (by decide)) | exact items_ok b (by have := not_large ‹(largeB b 600 1).1 = false› (by decide) (by decide); omega) | fail, fun _ => rfl, fun _ => rfl, rfl, (fun h => by first | cases h | fail), ?_⟩; try refine zS ?_)
  | ((with_reducible refine DStep_id ?_); refine zdW ?_; refine ⟨_, by first | exact twice_ok | exact check_okA b (not_large ‹(largeB b 600 1).1 = false› (by decide) (by decide)) | exact items_ok b (by have := not_large ‹(largeB b 600 1).1 = false› (by decide) (by decide); omega) | fail, fun _ => rfl, fun _ => rfl, rfl, ?_⟩; try refine zS ?_)
  | ((with_reducible refine DStep_id ?_); refine zdT [1] ?_; refine ⟨_, _, by first | exact large_ok b 600 1 (by decide) (by decide) (by decide) (by decide) | fail, ?_⟩; try refine zS ?_)
  | ((with_reducible refine AWP_c ?_); refine zcdT ?_)
  | ((with_reducible refine AWP_c ?_); refine zcdF ?_)
  | ((with_reducible refine AWP_c ?_); refine zcdN ?_ ?_ <;> intro hb hb2 <;> first | contradiction | (exfalso; omega) | ((try refine zH hb2 ?_); try clear hb2))
  | ((with_reducible refine AWP_c ?_); refine zcdD ?_ ?_ <;> intro hb hb2 <;> first | contradiction | (exfalso; omega) | ((try refine zH hb2 ?_); try clear hb2))
  | ((with_reducible refine AWP_c ?_); refine zcdM ?_ ?_ <;> intro hb <;> first | contradiction | (try refine zH hb ?_))
  | ((with_reducible refine AWP_c ?_); refine zcdB ?_ ?_ <;> intro hb <;> first | contradiction | (try refine zH hb ?_))
  | ((with_reducible refine awp_ret ?_); refine fin_r ?_)
  | ((with_reducible refine awp_ret ?_); refine fin_q ?_ ?_)
  | with_reducible refine fin_qn ?_ ?_
  | ((with_reducible refine awp_skip ?_); try refine zS ?_)
  | with_reducible refine awp_block ?_
  | ((with_reducible refine awp_exit ?_); try refine zS ?_)
  | ((with_reducible refine CallK_id ?_); refine zcF ?_; refine ⟨_, by first | exact twice_ok | exact check_okA b (not_large ‹(largeB b 600 1).1 = false› (by decide) (by decide)) | exact items_ok b (by have := not_large ‹(largeB b 600 1).1 = false› (by decide) (by decide); omega) | fail, fun _ => rfl, fun _ => rfl, rfl, ?_⟩; try refine zS ?_)
  | ((with_reducible refine CallK_id ?_); refine zcT [1] ?_; refine ⟨_, _, by first | exact large_ok b 600 1 (by decide) (by decide) (by decide) (by decide) | fail, ?_⟩; try refine zS ?_)
  | ((with_reducible refine awp_label ?_); try refine zS ?_)
  | ((with_reducible refine awp_goto ?_); try refine zS ?_)
  | ((with_reducible refine awp_scope0 ?_); try refine zS ?_)
  | exact True.intro
  | ((with_reducible refine awp_ret ?_); refine q_step (by assumption) ?_)
  | with_reducible refine fin_r ?_
  | with_reducible refine fin_q ?_ ?_
  | ((with_reducible refine q_step (by assumption) ?_); try refine zS ?_)
  | fail
  · rfl
  rotate_left
  · rfl
  have hz := not_large ‹(largeB b 600 1).1 = false› (by decide) (by decide)
  have hit : ∀ i, i < (itemsF b (-1) 0 0).length → (gt (itemsF b (-1) 0 0) i).b.size ≤ 100000 := fun i hi => by
    have := itemsF_size b (-1) 0 0 (gt (itemsF b (-1) 0 0) i) (gt_mem hi)
    omega
  have hpt : ∀ i, i < (itemsF b (-1) 0 0).length → (gt (itemsF b (-1) 0 0) i).b ∈ pL b := fun i hi => by
    rw [← items_pL b (-1) 0 0]; exact List.mem_map.2 ⟨_, gt_mem hi, rfl⟩
  have hck : checkF numF b = 0 := ‹_›
  generalize hL : itemsF b (-1) 0 0 = L at *
  refine awp_loopT (fun i : Nat => i ≤ L.length) (fun i => L.length - i) (fun i => [(18, aI i)]) (fun _ => [some (.box b.bs), Rm (largeB b 600 1).2]) 0 (by omega) (wk_le (by simp only [go_sem, Bool.not_not, List.mem_singleton, forall_eq, ↓reduceIte, if_pos, rowsAt_map, wrap64, wrapu8, List.getElem?_cons_zero, List.getElem?_cons_succ, Int.reduceToNat, Nat.reduceAdd, Nat.reduceBEq, Bool.or_false, Bool.false_or, Bool.true_or, Nat.reduceSub, Nat.reduceMul, Int.reduceAdd, Int.reduceEq, Int.reduceLT, Int.reduceLE, Int.reduceNeg, Nat.reduceLT, Nat.reduceLeDiff, Nat.reduceEqDiff]; simp) (by simp only [go_sem, Bool.not_not, List.mem_singleton, forall_eq, ↓reduceIte, if_pos, rowsAt_map, wrap64, wrapu8, List.getElem?_cons_zero, List.getElem?_cons_succ, Int.reduceToNat, Nat.reduceAdd, Nat.reduceBEq, Bool.or_false, Bool.false_or, Bool.true_or, Nat.reduceSub, Nat.reduceMul, Int.reduceAdd, Int.reduceEq, Int.reduceLT, Int.reduceLE, Int.reduceNeg, Nat.reduceLT, Nat.reduceLeDiff, Nat.reduceEqDiff])) ?_
  rintro i h1
  refine zT ?_
  repeat' first
  | ((with_reducible refine awp_seqQ ?_); intro _ _)
  | ((with_reducible refine awp_region ?_); refine zS ?_)
  | ((with_reducible refine Gd_nd ?_ ?_) <;> intro hb hb2 <;> first | contradiction | (exfalso; omega) | (refine zH hb2 ?_; try clear hb2))
  | ((with_reducible refine Gd_nb ?_ ?_) <;> intro hb <;> first | contradiction | refine zH hb ?_)
  | ((with_reducible refine Gd_d ?_ ?_) <;> intro hb hb2 <;> first | contradiction | (exfalso; omega) | (refine zH hb2 ?_; try clear hb2))
  | ((with_reducible refine Gd_b ?_ ?_) <;> intro hb <;> first | contradiction | refine zH hb ?_)
  | ((with_reducible refine Res_id ?_); refine zS ?_)
  | ((with_reducible refine awp_drawnC ?_ ?_); rfl; refine zS ?_)
  | ((with_reducible refine awp_drawnA ?_ ?_); rfl; refine zS ?_)
  | ((with_reducible refine CGd_nd ?_ ?_) <;> intro hb hb2 <;> first | contradiction | (exfalso; omega) | (refine zH hb2 ?_; try clear hb2))
  | ((with_reducible refine CGd_nb ?_ ?_) <;> intro hb <;> first | contradiction | refine zH hb ?_)
  | ((with_reducible refine CGd_d ?_ ?_) <;> intro hb hb2 <;> first | contradiction | (exfalso; omega) | (refine zH hb2 ?_; try clear hb2))
  | ((with_reducible refine CGd_b ?_ ?_) <;> intro hb <;> first | contradiction | refine zH hb ?_)
  | ((with_reducible refine CRes_id ?_); refine zS ?_)
  | ((with_reducible refine DStep_id ?_); refine zdP ?_; refine ⟨_, by first | exact twice_ok | exact check_okA (gt L i).b (hit i (by omega)) | fail, fun _ => rfl, fun _ => rfl, rfl, (fun h => by first | cases h | fail), ?_⟩; try refine zS ?_)
  | ((with_reducible refine DStep_id ?_); refine zdW ?_; refine ⟨_, by first | exact twice_ok | exact check_okA (gt L i).b (hit i (by omega)) | fail, fun _ => rfl, fun _ => rfl, rfl, ?_⟩; try refine zS ?_)
  | ((with_reducible refine AWP_c ?_); refine zcdT ?_)
  | ((with_reducible refine AWP_c ?_); refine zcdF ?_)
  | ((with_reducible refine AWP_c ?_); refine zcdN ?_ ?_ <;> intro hb hb2 <;> first | contradiction | (exfalso; omega) | ((try refine zH hb2 ?_); try clear hb2))
  | ((with_reducible refine AWP_c ?_); refine zcdD ?_ ?_ <;> intro hb hb2 <;> first | contradiction | (exfalso; omega) | ((try refine zH hb2 ?_); try clear hb2))
  | ((with_reducible refine AWP_c ?_); refine zcdM ?_ ?_ <;> intro hb <;> first | contradiction | (try refine zH hb ?_))
  | ((with_reducible refine AWP_c ?_); refine zcdB ?_ ?_ <;> intro hb <;> first | contradiction | (try refine zH hb ?_))
  | ((with_reducible refine awp_ret ?_); refine fin_r ?_)
  | ((with_reducible refine awp_ret ?_); refine fin_q ?_ ?_)
  | with_reducible refine fin_qn ?_ ?_
  | ((with_reducible refine awp_skip ?_); try refine zS ?_)
  | with_reducible refine awp_block ?_
  | ((with_reducible refine awp_exit ?_); try refine zS ?_)
  | ((with_reducible refine CallK_id ?_); refine zcF ?_; refine ⟨_, by first | exact twice_ok | exact check_okA (gt L i).b (hit i (by omega)) | fail, fun _ => rfl, fun _ => rfl, rfl, ?_⟩; try refine zS ?_)
  | ((with_reducible refine awp_label ?_); try refine zS ?_)
  | ((with_reducible refine awp_goto ?_); try refine zS ?_)
  | ((with_reducible refine awp_scope0 ?_); try refine zS ?_)
  | exact True.intro
  | ((with_reducible refine awp_ret ?_); refine q_step (by assumption) ?_)
  | with_reducible refine fin_r ?_
  | with_reducible refine fin_q ?_ ?_
  | ((with_reducible refine q_step (by assumption) ?_); try refine zS ?_)
  | fail
  all_goals first
    | rfl
    | (exact absurd (check_part hck (hpt i (by omega)) ‹_› ‹_›) ‹_›)
    | exact ⟨i + 1, by omega, by omega, wk_cl 2 (by decide) (by simp) (by simp only [go_sem, Bool.not_not, List.mem_singleton, forall_eq, ↓reduceIte, if_pos, rowsAt_map, wrap64, wrapu8, List.getElem?_cons_zero, List.getElem?_cons_succ, Int.reduceToNat, Nat.reduceAdd, Nat.reduceBEq, Bool.or_false, Bool.false_or, Bool.true_or, Nat.reduceSub, Nat.reduceMul, Int.reduceAdd, Int.reduceEq, Int.reduceLT, Int.reduceLE, Int.reduceNeg, Nat.reduceLT, Nat.reduceLeDiff, Nat.reduceEqDiff]; simp) (by simp only [go_sem, Bool.not_not, List.mem_singleton, forall_eq, ↓reduceIte, if_pos, rowsAt_map, wrap64, wrapu8, List.getElem?_cons_zero, List.getElem?_cons_succ, Int.reduceToNat, Nat.reduceAdd, Nat.reduceBEq, Bool.or_false, Bool.false_or, Bool.true_or, Nat.reduceSub, Nat.reduceMul, Int.reduceAdd, Int.reduceEq, Int.reduceLT, Int.reduceLE, Int.reduceNeg, Nat.reduceLT, Nat.reduceLeDiff, Nat.reduceEqDiff])⟩
    | trace_state
end Go.Eng
open Go Go.Proofs Go.RowKit
namespace Go.Eng
set_option linter.unusedSimpArgs false
set_option linter.unusedVariables false
set_option maxRecDepth 100000

section
variable {H : Type} {enc : TypeId × Value → H} {W : World} {F : Nat → Prop} {base : Nat} {spare : Nat → Bool} {held : Bool}
theorem opD_T (hF : ∀ a u, W.cell? a = some u → F a.block) : ∀ n, OpD enc Tryd.prog W F base spare held 24 T.row (fun _ => True) n := by
  refine opD_fix (fun n ih => ?_)
  have hk : ∀ m, m < n → OpD enc Tryd.prog W F base spare held 22 (fun xs : List T => [.fz (xs.map T.row)]) _ m := fun m hm => opD_slice (s := 3) (B := 40) hF Tryd.underlying22 (by kernel_rfl) (by kernel_rfl) (by decide) (fun a => by cases a; rfl) (fun m' hm' => ih m' (by omega))
  refine opD_imp (opD_struct (β := T) (g := fun x : Int × Int × List T × Unit => .mk x.1 x.2.1 x.2.2.1) (f := fun t => (t.op, t.n, t.kids, ())) Tryd.underlying24 (by kernel_rfl) (fun a => rfl) (fun m hm => opDF_cons (s := 1) rfl (by kernel_rfl) (opD_int Tryd.underlying3) (opDF_cons (s := 1) rfl (by kernel_rfl) (opD_int Tryd.underlying3) (opDF_cons (s := 1) rfl (by kernel_rfl) (hk m hm) opDF_nil)))) (fun t => ?_) (fun _ _ => trivial)
  rw [T.row_eq]; rfl
theorem opD_Ts (hF : ∀ a u, W.cell? a = some u → F a.block) (n : Nat) : OpD enc Tryd.prog W F base spare held 22 (fun xs : List T => [.fz (xs.map T.row)]) (fun _ => True) n :=
  opD_imp (opD_slice (s := 3) (B := 40) hF Tryd.underlying22 (by kernel_rfl) (by kernel_rfl) (by decide) (fun a => by cases a; rfl) (fun m' _ => opD_T hF m')) (fun _ => rfl) (fun _ _ => trivial)
theorem opD_Nd (hF : ∀ a u, W.cell? a = some u → F a.block) (n : Nat) : OpD enc Tryd.prog W F base spare held 61 Nd.row (fun _ => True) n := by
  refine opD_imp (opD_struct (β := Nd) (g := fun x : Int × Int × T × Unit => ⟨x.1, x.2.1, x.2.2.1⟩) (f := fun d => (d.kind, d.x, d.t, ())) Tryd.underlying61 (by kernel_rfl) (fun a => rfl) (fun m hm => opDF_cons (s := 1) rfl (by kernel_rfl) (opD_int Tryd.underlying3) (opDF_cons (s := 1) rfl (by kernel_rfl) (opD_int Tryd.underlying3) (opDF_cons (s := 3) rfl (by kernel_rfl) (opD_T hF m) opDF_nil)))) (fun t => ?_) (fun _ _ => trivial)
  simp only [T.row_eq]; rfl
theorem opD_Fl (hF : ∀ a u, W.cell? a = some u → F a.block) (n : Nat) : OpD enc Tryd.prog W F base spare held 63 Fl.row (fun _ => True) n := by
  refine opD_imp (opD_struct (β := Fl) (g := fun x : Int × Int × Bool × T × Unit => ⟨x.1, x.2.1, x.2.2.1, x.2.2.2.1⟩) (f := fun d => (d.src, d.dst, d.els, d.t, ())) Tryd.underlying63 (by kernel_rfl) (fun a => rfl) (fun m hm => opDF_cons (s := 1) rfl (by kernel_rfl) (opD_int Tryd.underlying3) (opDF_cons (s := 1) rfl (by kernel_rfl) (opD_int Tryd.underlying3) (opDF_cons (s := 1) rfl (by kernel_rfl) (opD_bool Tryd.underlying4) (opDF_cons (s := 3) rfl (by kernel_rfl) (opD_T hF m) opDF_nil))))) (fun t => ?_) (fun _ _ => trivial)
  simp only [T.row_eq]; rfl
theorem opD_Lk (n : Nat) : OpD enc Tryd.prog W F base spare held 66 Lk.row (fun _ => True) n := by
  refine opD_imp (opD_struct (β := Lk) (g := fun x : Int × Int × Unit => ⟨x.1, x.2.1⟩) (f := fun d => (d.src, d.dst, ())) Tryd.underlying66 (by kernel_rfl) (fun a => rfl) (fun m hm => opDF_cons (s := 1) rfl (by kernel_rfl) (opD_int Tryd.underlying3) (opDF_cons (s := 1) rfl (by kernel_rfl) (opD_int Tryd.underlying3) opDF_nil))) (fun t => rfl) (fun _ _ => trivial)
theorem opD_Nt (hF : ∀ a u, W.cell? a = some u → F a.block) (n : Nat) : OpD enc Tryd.prog W F base spare held 30 (fun x : List Nd × List Fl => [.fz (x.1.map Nd.row), .fz (x.2.map Fl.row)]) (fun _ => True) n := by
  have h1 : ∀ m, OpD enc Tryd.prog W F base spare held 27 (fun xs : List Nd => [.fz (xs.map Nd.row)]) _ m := fun m => opD_slice (s := 5) (B := 56) hF Tryd.underlying27 (by kernel_rfl) (by kernel_rfl) (by decide) (fun a => rfl) (fun m' _ => opD_Nd hF m')
  have h2 : ∀ m, OpD enc Tryd.prog W F base spare held 28 (fun xs : List Fl => [.fz (xs.map Fl.row)]) _ m := fun m => opD_slice (s := 6) (B := 64) hF Tryd.underlying28 (by kernel_rfl) (by kernel_rfl) (by decide) (fun a => rfl) (fun m' _ => opD_Fl hF m')
  exact opD_imp (opD_struct (β := List Nd × List Fl) (g := fun x : List Nd × List Fl × Unit => (x.1, x.2.1)) (f := fun d => (d.1, d.2, ())) Tryd.underlying30 (by kernel_rfl) (fun a => rfl) (fun m hm => opDF_cons (s := 1) rfl (by kernel_rfl) (h1 m) (opDF_cons (s := 1) rfl (by kernel_rfl) (h2 m) opDF_nil))) (fun t => rfl) (fun _ _ => trivial)
theorem opD_B (hF : ∀ a u, W.cell? a = some u → F a.block) : ∀ n, OpD enc Tryd.prog W F base spare held 32 B.row (fun _ => True) n := by
  refine opD_fix (fun n ih => ?_)
  have hk : ∀ m, m < n → OpD enc Tryd.prog W F base spare held 25 (fun xs : List B => [.fz (xs.map B.row)]) _ m := fun m hm => opD_slice (s := 12) (B := 192) hF Tryd.underlying25 (by kernel_rfl) (by kernel_rfl) (by decide) (fun a => by cases a; rfl) (fun m' hm' => ih m' (by omega))
  have hl : ∀ m, OpD enc Tryd.prog W F base spare held 26 (fun xs : List Lk => [.fz (xs.map Lk.row)]) _ m := fun m => opD_slice (s := 2) (B := 16) hF Tryd.underlying26 (by kernel_rfl) (by kernel_rfl) (by decide) (fun a => rfl) (fun m' _ => opD_Lk m')
  refine opD_imp (opD_struct (β := B) (g := fun x : Int × Int × Int × Int × T × List T × List B × List Lk × (List Nd × List Fl) × Unit => .mk x.1 x.2.1 x.2.2.1 x.2.2.2.1 x.2.2.2.2.1 x.2.2.2.2.2.1 x.2.2.2.2.2.2.1 x.2.2.2.2.2.2.2.1 x.2.2.2.2.2.2.2.2.1.1 x.2.2.2.2.2.2.2.2.1.2) (f := fun b => (b.kind, b.node, b.x, b.y, b.t, b.conds, b.kids, b.links, (b.nodes, b.flows), ())) Tryd.underlying32 (by kernel_rfl) (fun a => rfl)
    (fun m hm => opDF_cons (s := 1) rfl (by kernel_rfl) (opD_int Tryd.underlying3) (opDF_cons (s := 1) rfl (by kernel_rfl) (opD_int Tryd.underlying3) (opDF_cons (s := 1) rfl (by kernel_rfl) (opD_int Tryd.underlying3) (opDF_cons (s := 1) rfl (by kernel_rfl) (opD_int Tryd.underlying3)
      (opDF_cons (s := 3) rfl (by kernel_rfl) (opD_T hF m) (opDF_cons (s := 1) rfl (by kernel_rfl) (opD_Ts hF m) (opDF_cons (s := 1) rfl (by kernel_rfl) (hk m hm) (opDF_cons (s := 1) rfl (by kernel_rfl) (hl m) (opDF_cons (s := 2) rfl (by kernel_rfl) (opD_Nt hF m) opDF_nil)))))))))) (fun t => ?_) (fun _ _ => trivial)
  rw [B.row_eq]; simp only [T.row_eq]; rfl
end
def laid1 : List (String × DataW Unit) := [("treenail/term.words", Go.Proofs.YtjegmlclpecpdaaDoor.Rows.laid_treenail_term_words)]
def wordVals : List Value := words.flatMap fun b => [.string (st b.text), .int .i64 b.kids, .int .i64 b.of, .int .i64 b.out]
theorem base_ok {W : World} (h : laidMetH Tryd.prog laid1 W) : (B0 W).ok env := by
  intro g
  match g with
  | 0 =>
    have hc := cells_of_laid rfl h (.head _) (g := 0) (by kernel_rfl) (t := 114) (by kernel_rfl) 8 wordVals (by kernel_rfl)
    exact vr_pa (s := 4) (by decide) (by kernel_rfl) (by kernel_rfl) (by decide) hc
  | g + 1 => exact .any _ rfl
end Go.Eng
