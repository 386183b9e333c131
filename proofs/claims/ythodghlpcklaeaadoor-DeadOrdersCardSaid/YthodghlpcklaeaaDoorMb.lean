/- Each function of the program, walked over plain data: what it comes to, at all arguments. -/
import Derived.Test.YthodghlpcklaeaaDoorMa
import Derived.Test.YthodghlpcklaeaaDoorEf
open Go Go.Proofs
namespace Go.Eng
set_option linter.unusedSimpArgs false
set_option linter.unusedVariables false
set_option maxRecDepth 10000
set_option maxHeartbeats 8000000
mutual
def deepF : B → Nat
  | .mk _ _ _ _ _ _ ks _ _ _ => deeps ks + 1
def deeps : List B → Nat
  | [] => 0
  | k :: l => max (deepF k) (deeps l)
end
theorem deepF_eq (b : B) : deepF b = deeps b.kids + 1 := by cases b; rw [deepF]; rfl
mutual
theorem deepF_le : ∀ b : B, deepF b ≤ b.size
  | .mk _ _ _ _ _ _ ks _ _ _ => by have := deeps_le ks; simp only [deepF, B.size]; omega
theorem deeps_le : ∀ l : List B, deeps l ≤ B.sizes l
  | [] => by simp [deeps]
  | t :: l => by have := deepF_le t; have := deeps_le l; simp only [deeps, B.sizes]; omega
end
theorem deep_ok (b : B) (hs : b.size ≤ 100000) : AFn env 23 [b.a] [] (aI (deepF b)) [] := by
  generalize hn : b.size = n
  induction n using Nat.strongRecOn generalizing b with
  | _ n ih0 =>
    have ih : ∀ k : B, k.size < b.size → AFn env 23 [k.a] [] (aI (deepF k)) [] := fun k h => ih0 k.size (by omega) k (by omega) rfl
    have hz := b.size_eq
    have l2 := B.len_le b.kids
    have hd := deepF_le b
    refine afn_body Tryd.func23 rfl (by decide) ?_
    simp only [Tryd.ntmps23, Tryd.results23, List.length_cons, List.length_nil, List.cons_append, List.nil_append, Nat.reduceAdd, Nat.reduceSub, List.replicate]
    repeat' first
    | with_reducible refine awp_seq ?_
    | ((with_reducible refine awp_region ?_); refine zS ?_)
    | with_reducible refine awp_block ?_
    refine awp_loopT (fun s : Nat × Nat => s.1 ≤ b.kids.length ∧ max s.2 (deeps (b.kids.drop s.1)) + 1 = deepF b) (fun s => b.kids.length - s.1) (fun s => [(3, aI s.2), (9, aI s.1)]) (fun s => [some (.box b.bs)]) (0, 0) ⟨by simp, by rw [deepF_eq]; simp⟩ (wk_le (by simp only [go_sem, Bool.not_not, List.mem_singleton, forall_eq, ↓reduceIte, if_pos, rowsAt_map, wrap64, wrapu8, List.getElem?_cons_zero, List.getElem?_cons_succ, Int.reduceToNat, Nat.reduceAdd, Nat.reduceBEq, Bool.or_false, Bool.false_or, Bool.true_or, Nat.reduceSub, Nat.reduceMul, Int.reduceAdd, Int.reduceEq, Int.reduceLT, Int.reduceLE, Int.reduceNeg, Nat.reduceLT, Nat.reduceLeDiff, Nat.reduceEqDiff]; simp) (by simp only [go_sem, Bool.not_not, List.mem_singleton, forall_eq, ↓reduceIte, if_pos, rowsAt_map, wrap64, wrapu8, List.getElem?_cons_zero, List.getElem?_cons_succ, Int.reduceToNat, Nat.reduceAdd, Nat.reduceBEq, Bool.or_false, Bool.false_or, Bool.true_or, Nat.reduceSub, Nat.reduceMul, Int.reduceAdd, Int.reduceEq, Int.reduceLT, Int.reduceLE, Int.reduceNeg, Nat.reduceLT, Nat.reduceLeDiff, Nat.reduceEqDiff, B.bs])) ?_
    rintro ⟨i, m⟩ ⟨h1, h2⟩
    simp only at h1 h2
    simp only [go_sem, Bool.not_not, List.mem_singleton, forall_eq, ↓reduceIte, if_pos, rowsAt_map, wrap64, wrapu8, List.getElem?_cons_zero, List.getElem?_cons_succ, Int.reduceToNat, Nat.reduceAdd, Nat.reduceBEq, Bool.or_false, Bool.false_or, Bool.true_or, Nat.reduceSub, Nat.reduceMul, Int.reduceAdd, Int.reduceEq, Int.reduceLT, Int.reduceLE, Int.reduceNeg, Nat.reduceLT, Nat.reduceLeDiff, Nat.reduceEqDiff, B.bs]
    repeat' first
    | with_reducible refine awp_seq ?_
    | ((with_reducible refine awp_region ?_); refine zS ?_)
    | ((with_reducible refine AWP_c ?_); refine zcdD ?_ ?_ <;> intro hb hb2 <;> first | contradiction | (exfalso; omega) | ((try refine zH hb2 ?_); try clear hb2))
    | ((with_reducible refine awp_ret ?_); refine fin_r ?_)
    | ((with_reducible refine awp_skip ?_); refine zS ?_)
    | with_reducible refine awp_block ?_
    | ((with_reducible refine awp_exit ?_); refine zS ?_)
    | ((with_reducible refine CallK_id ?_); refine zcF ?_; refine ⟨_, by first | exact ih (gt b.kids i) (B.size_lt (gt_mem (by omega))) | fail, fun _ => rfl, fun _ => rfl, rfl, ?_⟩; try refine zS ?_)
    · have hi : i < b.kids.length := by omega
      rw [drop_gt hi, deeps] at h2
      exact ⟨(i + 1, max m (deepF (gt b.kids i))), ⟨by simp only; omega, by simp only; omega⟩, by simp only; omega, wk_cl 1 (by decide) (by simp) (by simp only [go_sem, Bool.not_not, List.mem_singleton, forall_eq, ↓reduceIte, if_pos, rowsAt_map, wrap64, wrapu8, List.getElem?_cons_zero, List.getElem?_cons_succ, Int.reduceToNat, Nat.reduceAdd, Nat.reduceBEq, Bool.or_false, Bool.false_or, Bool.true_or, Nat.reduceSub, Nat.reduceMul, Int.reduceAdd, Int.reduceEq, Int.reduceLT, Int.reduceLE, Int.reduceNeg, Nat.reduceLT, Nat.reduceLeDiff, Nat.reduceEqDiff]; simp; try omega) (by simp only [go_sem, Bool.not_not, List.mem_singleton, forall_eq, ↓reduceIte, if_pos, rowsAt_map, wrap64, wrapu8, List.getElem?_cons_zero, List.getElem?_cons_succ, Int.reduceToNat, Nat.reduceAdd, Nat.reduceBEq, Bool.or_false, Bool.false_or, Bool.true_or, Nat.reduceSub, Nat.reduceMul, Int.reduceAdd, Int.reduceEq, Int.reduceLT, Int.reduceLE, Int.reduceNeg, Nat.reduceLT, Nat.reduceLeDiff, Nat.reduceEqDiff, B.bs])⟩
    have hi : i = b.kids.length := by omega
    subst hi
    rw [List.drop_length, deeps] at h2
    rw [show ((m : Int) + 1) = ((deepF b : Nat) : Int) by omega]
def bareF (b : B) : B :=
  .mk 0 (if b.kind = 8 ∨ b.kind = 9 ∨ b.kind = 11 ∨ b.kind = 2 ∨ b.kind = 4 ∨ b.kind = 5 ∨ b.kind = 12 ∨ b.kind = 3 ∨ b.kind = 10 then 0 else b.node)
    (if b.kind = 3 ∨ b.kind = 2 ∨ b.kind = 4 ∨ b.kind = 10 ∨ b.kind = 8 ∨ b.kind = 11 ∨ b.kind = 12 then 0 else b.x)
    (if b.kind = 11 ∨ b.kind = 12 ∧ b.x = 3 then 0 else b.y)
    (if b.kind = 3 then t0 else b.t)
    (if b.kind = 8 ∨ b.kind = 11 ∨ b.kind = 12 ∧ b.x = 3 then [] else b.conds)
    (if b.kind = 8 ∨ b.kind = 9 ∨ b.kind = 11 ∨ b.kind = 10 ∨ b.kind = 6 ∨ b.kind = 7 ∨ b.kind = 13 then [] else b.kids)
    (if b.kind = 13 then [] else b.links) (if b.kind = 14 then [] else b.nodes) (if b.kind = 14 then [] else b.flows)
section
variable (k n x y : Int) (t : T) (c : List T) (ks : List B) (l : List Lk) (ns : List Nd) (fs : List Fl)
theorem mk_kind : (B.mk k n x y t c ks l ns fs).kind = k := rfl
theorem mk_node : (B.mk k n x y t c ks l ns fs).node = n := rfl
theorem mk_x : (B.mk k n x y t c ks l ns fs).x = x := rfl
theorem mk_y : (B.mk k n x y t c ks l ns fs).y = y := rfl
theorem mk_t : (B.mk k n x y t c ks l ns fs).t = t := rfl
theorem mk_conds : (B.mk k n x y t c ks l ns fs).conds = c := rfl
theorem mk_kids : (B.mk k n x y t c ks l ns fs).kids = ks := rfl
theorem mk_links : (B.mk k n x y t c ks l ns fs).links = l := rfl
theorem mk_nodes : (B.mk k n x y t c ks l ns fs).nodes = ns := rfl
theorem mk_flows : (B.mk k n x y t c ks l ns fs).flows = fs := rfl
end
attribute [go_sem] mk_kind mk_node mk_x mk_y mk_t mk_conds mk_kids mk_links mk_nodes mk_flows
theorem bare2_ok (n x y : Int) (t : T) (c : List T) (ks : List B) (l : List Lk) (ns : List Nd) (fs : List Fl) : AFn env 28 [(B.mk 2 n x y t c ks l ns fs).a] [] (bareF (B.mk 2 n x y t c ks l ns fs)).a [] := by
  refine afn_body Tryd.func28 rfl (by decide) ?_
  simp only [Tryd.ntmps28, Tryd.results28, List.length_cons, List.length_nil, List.cons_append, List.nil_append, Nat.reduceAdd, Nat.reduceSub, List.replicate]
  repeat' first
  | ((with_reducible refine awp_seqQ ?_); intro _ _)
  | ((with_reducible refine awp_region ?_); refine zS ?_)
  | ((with_reducible refine AWP_c ?_); refine zcdT ?_)
  | ((with_reducible refine AWP_c ?_); refine zcdF ?_)
  | ((with_reducible refine awp_skip ?_); try refine zS ?_)
  | with_reducible refine awp_block ?_
  | ((with_reducible refine awp_exit ?_); try refine zS ?_)
  | ((with_reducible refine awp_ret ?_); refine q_step (by assumption) ?_)
  | with_reducible refine fin_r ?_
  | ((with_reducible refine q_step (by assumption) ?_); try refine zS ?_)
  all_goals simp [go_sem, bareF]
theorem bare5_ok (n x y : Int) (t : T) (c : List T) (ks : List B) (l : List Lk) (ns : List Nd) (fs : List Fl) : AFn env 28 [(B.mk 5 n x y t c ks l ns fs).a] [] (bareF (B.mk 5 n x y t c ks l ns fs)).a [] := by
  refine afn_body Tryd.func28 rfl (by decide) ?_
  simp only [Tryd.ntmps28, Tryd.results28, List.length_cons, List.length_nil, List.cons_append, List.nil_append, Nat.reduceAdd, Nat.reduceSub, List.replicate]
  repeat' first
  | ((with_reducible refine awp_seqQ ?_); intro _ _)
  | ((with_reducible refine awp_region ?_); refine zS ?_)
  | ((with_reducible refine AWP_c ?_); refine zcdT ?_)
  | ((with_reducible refine AWP_c ?_); refine zcdF ?_)
  | ((with_reducible refine awp_skip ?_); try refine zS ?_)
  | with_reducible refine awp_block ?_
  | ((with_reducible refine awp_exit ?_); try refine zS ?_)
  | ((with_reducible refine awp_ret ?_); refine q_step (by assumption) ?_)
  | with_reducible refine fin_r ?_
  | ((with_reducible refine q_step (by assumption) ?_); try refine zS ?_)
  all_goals simp [go_sem, bareF]
theorem bare6_ok (n x y : Int) (t : T) (c : List T) (ks : List B) (l : List Lk) (ns : List Nd) (fs : List Fl) : AFn env 28 [(B.mk 6 n x y t c ks l ns fs).a] [] (bareF (B.mk 6 n x y t c ks l ns fs)).a [] := by
  refine afn_body Tryd.func28 rfl (by decide) ?_
  simp only [Tryd.ntmps28, Tryd.results28, List.length_cons, List.length_nil, List.cons_append, List.nil_append, Nat.reduceAdd, Nat.reduceSub, List.replicate]
  repeat' first
  | ((with_reducible refine awp_seqQ ?_); intro _ _)
  | ((with_reducible refine awp_region ?_); refine zS ?_)
  | ((with_reducible refine AWP_c ?_); refine zcdT ?_)
  | ((with_reducible refine AWP_c ?_); refine zcdF ?_)
  | ((with_reducible refine awp_skip ?_); try refine zS ?_)
  | with_reducible refine awp_block ?_
  | ((with_reducible refine awp_exit ?_); try refine zS ?_)
  | ((with_reducible refine awp_ret ?_); refine q_step (by assumption) ?_)
  | with_reducible refine fin_r ?_
  | ((with_reducible refine q_step (by assumption) ?_); try refine zS ?_)
  all_goals simp [go_sem, bareF]
end Go.Eng
open Go Go.Proofs
namespace Go.Eng
set_option linter.unusedSimpArgs false
set_option linter.unusedVariables false
set_option maxRecDepth 10000
set_option maxHeartbeats 8000000
attribute [go_sem] B.bs
theorem num2_ok (n x y : Int) (t : T) (c : List T) (ks : List B) (l : List Lk) (ns : List Nd) (fs : List Fl) : AFn env 29 [(B.mk 2 n x y t c ks l ns fs).a] [] (aB (decide (0 ≤ x) && decide (x < 4))) [] := by
  refine afn_body Tryd.func29 rfl (by decide) ?_
  simp only [Tryd.ntmps29, Tryd.results29, List.length_cons, List.length_nil, List.cons_append, List.nil_append, Nat.reduceAdd, Nat.reduceSub, List.replicate]
  repeat' first
  | ((with_reducible refine awp_seqQ ?_); intro _ _)
  | ((with_reducible refine awp_region ?_); refine zS ?_)
  | ((with_reducible refine Gd_d ?_ ?_) <;> intro hb hb2 <;> first | contradiction | (exfalso; omega) | (refine zH hb2 ?_; try clear hb2))
  | ((with_reducible refine AWP_c ?_); refine zcdT ?_)
  | ((with_reducible refine AWP_c ?_); refine zcdF ?_)
  | with_reducible refine awp_block ?_
  | ((with_reducible refine awp_ret ?_); refine q_step (by assumption) ?_)
  | with_reducible refine fin_r ?_
  | ((with_reducible refine q_step (by assumption) ?_); try refine zS ?_)
  all_goals first | (simp [go_sem]; done) | (simp [go_sem]; omega)
theorem num5_ok (n x y : Int) (t : T) (c : List T) (ks : List B) (l : List Lk) (ns : List Nd) (fs : List Fl) : AFn env 29 [(B.mk 5 n x y t c ks l ns fs).a] [] (aB true) [] := by
  refine afn_body Tryd.func29 rfl (by decide) ?_
  simp only [Tryd.ntmps29, Tryd.results29, List.length_cons, List.length_nil, List.cons_append, List.nil_append, Nat.reduceAdd, Nat.reduceSub, List.replicate]
  repeat' first
  | ((with_reducible refine awp_seqQ ?_); intro _ _)
  | ((with_reducible refine awp_region ?_); refine zS ?_)
  | ((with_reducible refine Gd_d ?_ ?_) <;> intro hb hb2 <;> first | contradiction | (exfalso; omega) | (refine zH hb2 ?_; try clear hb2))
  | ((with_reducible refine AWP_c ?_); refine zcdT ?_)
  | ((with_reducible refine AWP_c ?_); refine zcdF ?_)
  | with_reducible refine awp_block ?_
  | ((with_reducible refine awp_ret ?_); refine q_step (by assumption) ?_)
  | with_reducible refine fin_r ?_
  | ((with_reducible refine q_step (by assumption) ?_); try refine zS ?_)
  all_goals simp [go_sem]
theorem num6_ok (n x y : Int) (t : T) (c : List T) (ks : List B) (l : List Lk) (ns : List Nd) (fs : List Fl) : AFn env 29 [(B.mk 6 n x y t c ks l ns fs).a] [] (aB (decide (1 < ks.length))) [] := by
  refine afn_body Tryd.func29 rfl (by decide) ?_
  simp only [Tryd.ntmps29, Tryd.results29, List.length_cons, List.length_nil, List.cons_append, List.nil_append, Nat.reduceAdd, Nat.reduceSub, List.replicate]
  repeat' first
  | ((with_reducible refine awp_seqQ ?_); intro _ _)
  | ((with_reducible refine awp_region ?_); refine zS ?_)
  | ((with_reducible refine Gd_d ?_ ?_) <;> intro hb hb2 <;> first | contradiction | (exfalso; omega) | (refine zH hb2 ?_; try clear hb2))
  | ((with_reducible refine AWP_c ?_); refine zcdT ?_)
  | ((with_reducible refine AWP_c ?_); refine zcdF ?_)
  | ((with_reducible refine awp_skip ?_); try refine zS ?_)
  | with_reducible refine awp_block ?_
  | ((with_reducible refine awp_ret ?_); refine q_step (by assumption) ?_)
  | with_reducible refine fin_r ?_
  | ((with_reducible refine q_step (by assumption) ?_); try refine zS ?_)
  all_goals (simp [go_sem]; omega)
def idxF {α : Type} (p : α → Bool) : List α → Nat → Int
  | [], _ => -1
  | x :: l, i => if p x = true then i else idxF p l (i + 1)
theorem idxF_any {α : Type} (p : α → Bool) : ∀ (l : List α) (i : Nat), decide (0 ≤ idxF p l i) = l.any p
  | [], i => by simp [idxF]
  | x :: l, i => by
    rw [idxF, List.any_cons]
    split
    · rename_i h; simp [h]
    · rename_i h; rw [idxF_any p l]; simp [h]
theorem idxF_any' {α : Type} (p : α → Bool) (l : List α) (i : Nat) : decide (idxF p l i ≥ 0) = l.any p := idxF_any p l i
theorem idxB_ok (F : FuncId) (p : B → Bool) (l : List B) (b : B) (hl : l.length < 4611686018427387904) (h : ∀ i, i < l.length → AFn env F [(gt l i).a, P0] [some (.box b.bs)] (aB (p (gt l i))) [some (.box b.bs)]) :
    AFn env 41 [aF (l.map B.row), .c (.clo (.func F) [.ptr 0 0 0 0])] [some (.box b.bs)] (aI (idxF p l 0)) [some (.box b.bs)] := by
  refine afn_body Tryd.func41 rfl (by decide) ?_
  simp only [Tryd.ntmps41, Tryd.results41, List.length_cons, List.length_nil, List.cons_append, List.nil_append, Nat.reduceAdd, Nat.reduceSub, List.replicate]
  repeat' first
  | with_reducible refine awp_seq ?_
  | ((with_reducible refine awp_region ?_); refine zS ?_)
  | with_reducible refine awp_block ?_
  refine awp_loopT (fun i : Nat => i ≤ l.length ∧ idxF p l 0 = idxF p (l.drop i) i) (fun i => l.length - i) (fun i => [(8, aI i)]) (fun _ => [some (.box b.bs)]) 0 ⟨by omega, rfl⟩ (by exact zwl) ?_
  rintro i ⟨h1, h2⟩
  refine zT ?_
  repeat' first
  | with_reducible refine awp_seq ?_
  | ((with_reducible refine awp_region ?_); refine zS ?_)
  | ((with_reducible refine AWP_c ?_); refine zcdD ?_ ?_ <;> intro hb hb2 <;> first | contradiction | (exfalso; omega) | ((try refine zH hb2 ?_); try clear hb2))
  | ((with_reducible refine AWP_c ?_); refine zcdB ?_ ?_ <;> intro hb <;> first | contradiction | (try refine zH hb ?_))
  | ((with_reducible refine awp_ret ?_); refine fin_r ?_)
  | ((with_reducible refine awp_skip ?_); refine zS ?_)
  | with_reducible refine awp_block ?_
  | ((with_reducible refine awp_exit ?_); refine zS ?_)
  | ((with_reducible refine CallK_id ?_); refine zcT [0] ?_; refine ⟨_, _, by first | exact h i (by omega) | fail, ?_⟩; try refine zS ?_)
  · rw [h2, drop_gt (by omega), idxF, if_pos ‹_›]
  · exact ⟨i + 1, ⟨by omega, by rw [h2, drop_gt (by omega), idxF, if_neg (by simp [*])]⟩, by omega, (by exact zwc 1)⟩
  · rw [h2, List.drop_eq_nil_of_le (by omega), idxF]
theorem anyB_ok (F : FuncId) (p : B → Bool) (l : List B) (b : B) (hl : l.length < 4611686018427387904) (h : ∀ i, i < l.length → AFn env F [(gt l i).a, P0] [some (.box b.bs)] (aB (p (gt l i))) [some (.box b.bs)]) :
    AFn env 30 [aF (l.map B.row), .c (.clo (.func F) [.ptr 0 0 0 0])] [some (.box b.bs)] (aB (l.any p)) [some (.box b.bs)] := by
  refine afn_body Tryd.func30 rfl (by decide) ?_
  simp only [Tryd.ntmps30, Tryd.results30, List.length_cons, List.length_nil, List.cons_append, List.nil_append, Nat.reduceAdd, Nat.reduceSub, List.replicate]
  repeat' first
  | with_reducible refine awp_seq ?_
  | ((with_reducible refine awp_region ?_); refine zS ?_)
  | ((with_reducible refine awp_ret ?_); refine fin_r ?_)
  | ((with_reducible refine CallK_id ?_); refine zcT [0] ?_; refine ⟨_, _, by first | exact idxB_ok F p l b hl h | fail, ?_⟩; try refine zS ?_)
  rw [idxF_any']
def badK (k : Int) (x : B) : Bool := decide (13 ≤ x.kind) || decide (x.kind = 12) && decide (k ≠ 13) || decide (x.kind = 10) != decide (k = 9)
mutual
def rightF (N : B → Bool) : B → Bool
  | .mk k n x y t c ks l ns fs => eqB (bareF (.mk k n x y t c ks l ns fs)) b0 && decide (0 ≤ n) && decide (n < 24) && N (.mk k n x y t c ks l ns fs) && !wrongs N k ks
def wrongs (N : B → Bool) : Int → List B → Bool
  | _, [] => false
  | k, x :: l => badK k x || !rightF N x || wrongs N k l
end
def wrong1 (N : B → Bool) (k : Int) (x : B) : Bool := badK k x || !rightF N x
theorem wrongs_eq (N : B → Bool) (k : Int) : ∀ l : List B, wrongs N k l = l.any (wrong1 N k)
  | [] => by rw [wrongs]; rfl
  | x :: l => by rw [wrongs, List.any_cons, wrongs_eq N k l]; rfl
theorem rightF_eq (N : B → Bool) (b : B) : rightF N b = (eqB (bareF b) b0 && decide (0 ≤ b.node) && decide (b.node < 24) && N b && !(b.kids.any (wrong1 N b.kind))) := by
  cases b with | mk => rw [rightF, wrongs_eq]; rfl
theorem bareF_size (b : B) : (bareF b).size ≤ 2 * b.size := by
  have h0 : t0.size = 1 := rfl
  have h1 := b.t.size_pos
  rw [B.size_eq (bareF b), B.size_eq b]
  simp only [bareF, B.t, B.conds, B.links, B.nodes, B.flows, B.kids]
  have e1 : (if b.kind = 3 then t0 else b.t).size ≤ b.t.size := by split <;> omega
  have e2 : ∀ (p : Prop) [Decidable p], T.sizes (if p then [] else b.conds) ≤ T.sizes b.conds := fun p _ => by split <;> simp [T.sizes]
  have e3 : ∀ (p : Prop) [Decidable p], (if p then [] else b.links).length ≤ b.links.length := fun p _ => by split <;> simp
  have e4 : ∀ (p : Prop) [Decidable p], Nd.sizes (if p then [] else b.nodes) ≤ Nd.sizes b.nodes := fun p _ => by split <;> simp [Nd.sizes]
  have e5 : ∀ (p : Prop) [Decidable p], Fl.sizes (if p then [] else b.flows) ≤ Fl.sizes b.flows := fun p _ => by split <;> simp [Fl.sizes]
  have e6 : ∀ (p : Prop) [Decidable p], B.sizes (if p then [] else b.kids) ≤ B.sizes b.kids := fun p _ => by split <;> simp [B.sizes]
  have a2 := e2 (b.kind = 8 ∨ b.kind = 11 ∨ b.kind = 12 ∧ b.x = 3)
  have a3 := e3 (b.kind = 13)
  have a4 := e4 (b.kind = 14)
  have a5 := e5 (b.kind = 14)
  have a6 := e6 (b.kind = 8 ∨ b.kind = 9 ∨ b.kind = 11 ∨ b.kind = 10 ∨ b.kind = 6 ∨ b.kind = 7 ∨ b.kind = 13)
  simp only [B.t, B.conds, B.links, B.nodes, B.flows, B.kids] at *
  omega
theorem wrong_ok (N : B → Bool) (b x : B) (hx : AFn env 24 [x.a] [] (aB (rightF N x)) []) : AFn env 31 [x.a, P0] [some (.box b.bs)] (aB (wrong1 N b.kind x)) [some (.box b.bs)] := by
  refine afn_body Tryd.func31 rfl (by decide) ?_
  simp only [Tryd.ntmps31, Tryd.results31, List.length_cons, List.length_nil, List.cons_append, List.nil_append, Nat.reduceAdd, Nat.reduceSub, List.replicate]
  repeat' first
  | with_reducible refine awp_seq ?_
  | ((with_reducible refine awp_region ?_); refine zS ?_)
  | ((with_reducible refine Gd_nd ?_ ?_) <;> intro hb hb2 <;> first | contradiction | (exfalso; omega) | (refine zH hb2 ?_; try clear hb2))
  | ((with_reducible refine Gd_d ?_ ?_) <;> intro hb hb2 <;> first | contradiction | (exfalso; omega) | (refine zH hb2 ?_; try clear hb2))
  | ((with_reducible refine Gd_b ?_ ?_) <;> intro hb <;> first | contradiction | refine zH hb ?_)
  | ((with_reducible refine awp_ret ?_); refine fin_r ?_)
  | ((with_reducible refine CallK_id ?_); refine zcF ?_; refine ⟨_, by first | exact hx | fail, fun _ => rfl, fun _ => rfl, rfl, ?_⟩; try refine zS ?_)
  all_goals clear hx
  all_goals first
    | (simp [go_sem, wrong1, badK, *]; done)
    | (by_cases g1 : x.kind = 10 <;> by_cases g2 : b.kind = 9 <;> simp_all [go_sem, wrong1, badK] <;> first | done | omega)
    | trace_state
theorem right_ok (N P : B → Bool) (hK : ∀ b, P b = true → ∀ k ∈ b.kids, P k = true) (hb1 : ∀ b, P b = true → AFn env 28 [b.a] [] (bareF b).a []) (hN : ∀ b, P b = true → AFn env 29 [b.a] [] (aB (N b)) [])
    (b : B) (hP : P b = true) (hs : b.size ≤ 100000) : AFn env 24 [b.a] [] (aB (rightF N b)) [] := by
  generalize hn : b.size = n
  induction n using Nat.strongRecOn generalizing b with
  | _ n ih0 =>
    have ih : ∀ k : B, k.size < b.size → P k = true → AFn env 24 [k.a] [] (aB (rightF N k)) [] := fun k h hp => ih0 k.size (by omega) k hp (by omega) rfl
    have hz := b.size_eq
    have l2 := B.len_le b.kids
    have hbs : (bareF b).size ≤ 2 * b.size := bareF_size b
    refine afn_body Tryd.func24 rfl (by decide) ?_
    simp only [Tryd.ntmps24, Tryd.results24, List.length_cons, List.length_nil, List.cons_append, List.nil_append, Nat.reduceAdd, Nat.reduceSub, List.replicate]
    repeat' first
    | with_reducible refine awp_seq ?_
    | ((with_reducible refine awp_region ?_); refine zS ?_)
    | ((with_reducible refine Gd_nd ?_ ?_) <;> intro hb hb2 <;> first | contradiction | (exfalso; omega) | (refine zH hb2 ?_; try clear hb2))
    | ((with_reducible refine Gd_b ?_ ?_) <;> intro hb <;> first | contradiction | refine zH hb ?_)
    | ((with_reducible refine AWP_c ?_); refine zcdT ?_)
    | ((with_reducible refine AWP_c ?_); refine zcdM ?_ ?_ <;> intro hb <;> first | contradiction | (try refine zH hb ?_))
    | ((with_reducible refine awp_ret ?_); refine fin_r ?_)
    | ((with_reducible refine awp_skip ?_); refine zS ?_)
    | ((with_reducible refine CallK_id ?_); refine zcF ?_; refine ⟨_, by first | exact hb1 b hP | exact sameB_ok (bareF b) b0 (by omega) | exact hN b hP | fail, fun _ => rfl, fun _ => rfl, rfl, ?_⟩; try refine zS ?_)
    | ((with_reducible refine CallK_id ?_); refine zcT [0] ?_; refine ⟨_, _, by first | exact anyB_ok 31 (wrong1 N b.kind) b.kids b (by omega) (fun i hi => wrong_ok N b (gt b.kids i) (ih _ (B.size_lt (gt_mem hi)) (hK b hP _ (gt_mem hi)))) | fail, ?_⟩; try refine zS ?_)
    all_goals clear ih ih0 hb1 hN hK
    all_goals first | (rw [rightF_eq]; simp [*]; done) | (rw [rightF_eq]; simp [*]; omega)
end Go.Eng
open Go Go.Proofs
namespace Go.Eng
set_option linter.unusedSimpArgs false
set_option linter.unusedVariables false
set_option maxRecDepth 10000
set_option maxHeartbeats 8000000
def ents (l : List Int) : List (Value × Value) := l.map fun n => (.int .i64 n, .bool true)
theorem mfind_ents (k : Int) : ∀ l : List Int, mfind .i64 k (ents l) = some (if k ∈ l then some (l.idxOf k, .bool true) else none)
  | [] => by simp [ents, mfind]
  | a :: l => by
    have ih := mfind_ents k l
    show mfind .i64 k ((.int .i64 a, .bool true) :: ents l) = _
    rw [mfind, if_pos rfl, ih]
    by_cases h : k = a
    · subst h; simp
    · rw [if_neg h]
      have h' : ¬ a = k := fun e => h e.symm
      by_cases h2 : k ∈ l
      · have hb : (a == k) = false := by simpa using h'
        simp [h, h2, List.idxOf_cons, hb]
      · simp [h, h2]
theorem look_ents (k : Int) (l : List Int) : lookB env 4 false (mfind .i64 k (ents l)) = some (.c (.d (.sc (.bool (decide (k ∈ l)))))) := by
  rw [mfind_ents]
  by_cases h : k ∈ l
  · simp [h, lookB, lookA, one, sc]
  · simp [h, lookB, lookA, one, sc, t4zer]
def ins (l : List Int) (k : Int) : List Int := if k ∈ l then l else l ++ [k]
theorem put_ents (k : Int) (l : List Int) : mput .i64 k (.bool true) (ents l) (mfind .i64 k (ents l)) = some (ents (ins l k)) := by
  rw [mfind_ents]
  unfold ins
  by_cases h : k ∈ l
  · simp only [if_pos h, mput]
    congr 1
    have hi := List.idxOf_lt_length_of_mem h
    unfold ents
    rw [← List.map_set (f := fun n => (Value.int .i64 n, Value.bool true)) (a := k)]
    congr 1
    apply List.ext_getElem?
    intro i
    rw [List.getElem?_set]
    split
    · rename_i e; subst e; simp [List.getElem?_eq_getElem hi]
    · rfl
  · simp only [if_neg h, mput]
    simp [ents]
attribute [go_sem] look_ents put_ents
theorem ents_nil : ents [] = [] := rfl
def skips (k : Int) : Prop := k = 1 ∨ k = 6 ∨ k = 7 ∨ k = 13 ∨ k = 14
instance (k : Int) : Decidable (skips k) := by unfold skips; infer_instance
def dupF : List It → List Int → Bool
  | [], _ => false
  | x :: l, seen => if skips x.b.kind then dupF l seen else if x.b.node ∈ seen then true else dupF l (ins seen x.b.node)
theorem dup_skip {L : List It} {i : Nat} {s : List Int} (h : i < L.length) (hk : skips (gt L i).b.kind) : dupF (L.drop i) s = dupF (L.drop (i + 1)) s := by rw [drop_gt h, dupF, if_pos hk]
theorem dup_in {L : List It} {i : Nat} {s : List Int} (h : i < L.length) (hk : ¬ skips (gt L i).b.kind) (hm : (gt L i).b.node ∈ s) : dupF (L.drop i) s = true := by rw [drop_gt h, dupF, if_neg hk, if_pos hm]
theorem dup_new {L : List It} {i : Nat} {s : List Int} (h : i < L.length) (hk : ¬ skips (gt L i).b.kind) (hm : ¬ (gt L i).b.node ∈ s) : dupF (L.drop i) s = dupF (L.drop (i + 1)) (ins s (gt L i).b.node) := by rw [drop_gt h, dupF, if_neg hk, if_neg hm]
def checkF (N : B → Bool) (b : B) : Int := if b.count > 96 ∨ deepF b > 24 then 2 else if b.kind = 10 ∨ b.kind = 12 ∨ rightF N b = false then 4 else if dupF (itemsF b (-1) 0 0) [] = true then 8 else 0
def Mp (l : List Int) : Option Blk := some (.mp (ents l))
attribute [go_sem] Mp
theorem check_ok (N : B → Bool) (b : B) (hs : b.size ≤ 100000) (hr : AFn env 24 [b.a] [] (aB (rightF N b)) []) : AFn env 20 [b.a] [] (aI (checkF N b)) [] := by
  have hd := deepF_le b
  have hlen := itemsF_len b (-1) 0 0
  refine afn_body Tryd.func20 rfl (by decide) ?_
  simp only [Tryd.ntmps20, Tryd.results20, List.length_cons, List.length_nil, List.cons_append, List.nil_append, Nat.reduceAdd, Nat.reduceSub, List.replicate]
  refine awp_seq ?_
  refine awp_region ?_
  refine zT ?_
  repeat' first
  | ((with_reducible refine awp_seqQ ?_); intro _ _)
  | ((with_reducible refine awp_region ?_); refine zS ?_)
  | ((with_reducible refine Gd_nd ?_ ?_) <;> intro hb hb2 <;> first | contradiction | (exfalso; omega) | (refine zH hb2 ?_; try clear hb2))
  | ((with_reducible refine AWP_c ?_); refine zcdT ?_)
  | ((with_reducible refine AWP_c ?_); refine zcdD ?_ ?_ <;> intro hb hb2 <;> first | contradiction | (exfalso; omega) | ((try refine zH hb2 ?_); try clear hb2))
  | ((with_reducible refine AWP_c ?_); refine zcdM ?_ ?_ <;> intro hb <;> first | contradiction | (try refine zH hb ?_))
  | ((with_reducible refine awp_skip ?_); try refine zS ?_)
  | with_reducible refine awp_block ?_
  | ((with_reducible refine CallK_id ?_); refine zcF ?_; refine ⟨_, by first | exact items_ok b (by omega) | exact deep_ok b hs | exact hr | fail, fun _ => rfl, fun _ => rfl, rfl, ?_⟩; try refine zS ?_)
  | ((with_reducible refine awp_ret ?_); refine q_step (by assumption) ?_)
  | with_reducible refine fin_r ?_
  | ((with_reducible refine q_step (by assumption) ?_); try refine zS ?_)
  all_goals first
    | (simp only [checkF]; rw [if_pos (by first | exact .inl (by omega) | exact .inr (by omega))]; done)
    | (simp only [checkF]; rw [if_neg (by omega), if_pos (by first | exact .inl (by assumption) | exact .inr (.inl (by assumption)) | exact .inr (.inr (by assumption)))]; done)
    | skip
  have h0 : checkF N b = if dupF (itemsF b (-1) 0 0) [] = true then 8 else 0 := by
    simp only [checkF]
    rw [if_neg (by omega), if_neg (by rintro (h | h | h) <;> simp_all)]
  clear hr
  generalize hL : itemsF b (-1) 0 0 = L at *
  refine awp_loopT (fun s : Nat × List Int => s.1 ≤ L.length ∧ dupF L [] = dupF (L.drop s.1) s.2) (fun s => L.length - s.1) (fun s => [(35, aI s.1)]) (fun s => [some (.box b.bs), Mp s.2]) (0, []) ⟨by simp, rfl⟩
    (wk_le (by simp only [go_sem, Bool.not_not, List.mem_singleton, forall_eq, ↓reduceIte, if_pos, rowsAt_map, wrap64, wrapu8, List.getElem?_cons_zero, List.getElem?_cons_succ, Int.reduceToNat, Nat.reduceAdd, Nat.reduceBEq, Bool.or_false, Bool.false_or, Bool.true_or, Nat.reduceSub, Nat.reduceMul, Int.reduceAdd, Int.reduceEq, Int.reduceLT, Int.reduceLE, Int.reduceNeg, Nat.reduceLT, Nat.reduceLeDiff, Nat.reduceEqDiff]; simp) (by simp only [go_sem, Bool.not_not, List.mem_singleton, forall_eq, ↓reduceIte, if_pos, rowsAt_map, wrap64, wrapu8, List.getElem?_cons_zero, List.getElem?_cons_succ, Int.reduceToNat, Nat.reduceAdd, Nat.reduceBEq, Bool.or_false, Bool.false_or, Bool.true_or, Nat.reduceSub, Nat.reduceMul, Int.reduceAdd, Int.reduceEq, Int.reduceLT, Int.reduceLE, Int.reduceNeg, Nat.reduceLT, Nat.reduceLeDiff, Nat.reduceEqDiff, ents_nil])) ?_
  rintro ⟨i, sn⟩ ⟨h1, h2⟩
  simp only at h1 h2
  refine zT ?_
  repeat' first
  | ((with_reducible refine awp_seqQ ?_); intro _ _)
  | ((with_reducible refine awp_region ?_); refine zS ?_)
  | ((with_reducible refine AWP_c ?_); refine zcdT ?_)
  | ((with_reducible refine AWP_c ?_); refine zcdD ?_ ?_ <;> intro hb hb2 <;> first | contradiction | (exfalso; omega) | ((try refine zH hb2 ?_); try clear hb2))
  | ((with_reducible refine awp_skip ?_); try refine zS ?_)
  | with_reducible refine awp_block ?_
  | ((with_reducible refine awp_exit ?_); try refine zS ?_)
  | ((with_reducible refine awp_ret ?_); refine q_step (by assumption) ?_)
  | with_reducible refine fin_r ?_
  | ((with_reducible refine q_step (by assumption) ?_); try refine zS ?_)
  all_goals first
    | exact ⟨(i + 1, sn), ⟨by simp only; omega, by rw [h2, dup_skip (by omega) (by unfold skips; omega)]⟩, by simp only; omega, (by exact zwc 2)⟩
    | exact ⟨(i + 1, ins sn (gt L i).b.node), ⟨by simp only; omega, by rw [h2, dup_new (by omega) (by unfold skips; omega) (by assumption)]⟩, by simp only; omega, (by exact zwc 2)⟩
    | (rw [h0, h2, dup_in (by omega) (by unfold skips; omega) (by assumption)]; rfl)
    | (rw [h0, h2, List.drop_eq_nil_of_le (by omega), dupF]; rfl)
    | trace_state
end Go.Eng
open Go Go.Proofs
namespace Go.Eng
set_option linter.unusedSimpArgs false
set_option linter.unusedVariables false
set_option maxRecDepth 10000
set_option maxHeartbeats 4000000
theorem indexFuncT1_ok (l : List T) (f : FuncId) (p : T → Bool) (ds : List D) (hp : ∀ x ∈ l, AFn env f [x.a, .c (.ptr 0 0 0 0)] [some (.box (ds.map .d))] (aB (p x)) [some (.box (ds.map .d))]) (hl : l.length < 4611686018427387904) :
    AFn env 81 [aF (l.map T.row), .c (.clo (.func f) [.ptr 0 0 0 0])] [some (.box (ds.map .d))] (aI (idxF p l 0)) [some (.box (ds.map .d))] := by
  refine afn_body Tryd.func81 rfl (by decide) ?_
  simp only [Tryd.ntmps81, Tryd.results81, List.length_cons, List.length_nil, List.cons_append, List.nil_append, Nat.reduceAdd, Nat.reduceSub, List.replicate]
  repeat' first
  | with_reducible refine awp_seq ?_
  | ((with_reducible refine awp_region ?_); refine zS ?_)
  | with_reducible refine awp_block ?_
  refine awp_loopT (fun i : Nat => i ≤ l.length ∧ idxF p (l.drop i) i = idxF p l 0) (fun i => l.length - i) (fun i => [(8, aI i)]) (fun _ => [some (.box (ds.map .d))]) 0 ⟨by omega, rfl⟩ (wk_le (by simp only [go_sem, Bool.not_not, List.mem_singleton, forall_eq, ↓reduceIte, if_pos, rowsAt_map, wrap64, wrapu8, List.getElem?_cons_zero, List.getElem?_cons_succ, Int.reduceToNat, Nat.reduceAdd, Nat.reduceBEq, Bool.or_false, Bool.false_or, Bool.true_or, Nat.reduceSub, Nat.reduceMul, Int.reduceAdd, Int.reduceEq, Int.reduceLT, Int.reduceLE, Int.reduceNeg, Nat.reduceLT, Nat.reduceLeDiff, Nat.reduceEqDiff]; simp) (by simp only [go_sem])) ?_
  rintro i ⟨h1, h2⟩
  simp only [go_sem]
  repeat' first
  | with_reducible refine awp_seq ?_
  | ((with_reducible refine awp_region ?_); refine zS ?_)
  | ((with_reducible refine AWP_c ?_); refine zcdD ?_ ?_ <;> intro hb hb2 <;> first | contradiction | (exfalso; omega) | ((try refine zH hb2 ?_); try clear hb2))
  | ((with_reducible refine AWP_c ?_); refine zcdB ?_ ?_ <;> intro hb <;> first | contradiction | (try refine zH hb ?_))
  | ((with_reducible refine awp_ret ?_); refine fin_r ?_)
  | ((with_reducible refine awp_skip ?_); refine zS ?_)
  | with_reducible refine awp_block ?_
  | ((with_reducible refine awp_exit ?_); refine zS ?_)
  | ((with_reducible refine CallK_id ?_); refine zcT [0] ?_; refine ⟨_, _, by first | exact hp _ (gt_mem (by omega)) | fail, ?_⟩; try refine zS ?_)
  · have hi : i < l.length := by omega
    rw [← h2, drop_gt hi, idxF, if_pos (by simp [hb])]
  · have hi : i < l.length := by omega
    exact ⟨i + 1, ⟨by omega, by rw [← h2, drop_gt hi, idxF, if_neg (by simp [hb])]⟩, by omega, wk_le (by simp only [go_sem, Bool.not_not, List.mem_singleton, forall_eq, ↓reduceIte, if_pos, rowsAt_map, wrap64, wrapu8, List.getElem?_cons_zero, List.getElem?_cons_succ, Int.reduceToNat, Nat.reduceAdd, Nat.reduceBEq, Bool.or_false, Bool.false_or, Bool.true_or, Nat.reduceSub, Nat.reduceMul, Int.reduceAdd, Int.reduceEq, Int.reduceLT, Int.reduceLE, Int.reduceNeg, Nat.reduceLT, Nat.reduceLeDiff, Nat.reduceEqDiff]; simp) (by simp only [go_sem])⟩
  · have hi : i = l.length := by omega
    subst hi
    rw [← h2, List.drop_length, idxF]
theorem indexFuncT0_ok (l : List T) (f : FuncId) (p : T → Bool) (hp : ∀ x ∈ l, AFn env f [x.a] [] (aB (p x)) []) (hl : l.length < 4611686018427387904) :
    AFn env 81 [aF (l.map T.row), .c (.clo (.func f) [])] [] (aI (idxF p l 0)) [] := by
  refine afn_body Tryd.func81 rfl (by decide) ?_
  simp only [Tryd.ntmps81, Tryd.results81, List.length_cons, List.length_nil, List.cons_append, List.nil_append, Nat.reduceAdd, Nat.reduceSub, List.replicate]
  repeat' first
  | with_reducible refine awp_seq ?_
  | ((with_reducible refine awp_region ?_); refine zS ?_)
  | with_reducible refine awp_block ?_
  refine awp_loopT (fun i : Nat => i ≤ l.length ∧ idxF p (l.drop i) i = idxF p l 0) (fun i => l.length - i) (fun i => [(8, aI i)]) (fun _ => []) 0 ⟨by omega, rfl⟩ (wk_le (by simp only [go_sem, Bool.not_not, List.mem_singleton, forall_eq, ↓reduceIte, if_pos, rowsAt_map, wrap64, wrapu8, List.getElem?_cons_zero, List.getElem?_cons_succ, Int.reduceToNat, Nat.reduceAdd, Nat.reduceBEq, Bool.or_false, Bool.false_or, Bool.true_or, Nat.reduceSub, Nat.reduceMul, Int.reduceAdd, Int.reduceEq, Int.reduceLT, Int.reduceLE, Int.reduceNeg, Nat.reduceLT, Nat.reduceLeDiff, Nat.reduceEqDiff]; simp) (by simp only [go_sem])) ?_
  rintro i ⟨h1, h2⟩
  simp only [go_sem]
  repeat' first
  | with_reducible refine awp_seq ?_
  | ((with_reducible refine awp_region ?_); refine zS ?_)
  | ((with_reducible refine AWP_c ?_); refine zcdD ?_ ?_ <;> intro hb hb2 <;> first | contradiction | (exfalso; omega) | ((try refine zH hb2 ?_); try clear hb2))
  | ((with_reducible refine AWP_c ?_); refine zcdB ?_ ?_ <;> intro hb <;> first | contradiction | (try refine zH hb ?_))
  | ((with_reducible refine awp_ret ?_); refine fin_r ?_)
  | ((with_reducible refine awp_skip ?_); refine zS ?_)
  | with_reducible refine awp_block ?_
  | ((with_reducible refine awp_exit ?_); refine zS ?_)
  | ((with_reducible refine CallK_id ?_); refine zcF ?_; refine ⟨_, by first | exact hp _ (gt_mem (by omega)) | fail, fun _ => rfl, fun _ => rfl, rfl, ?_⟩; try refine zS ?_)
  · have hi : i < l.length := by omega
    rw [← h2, drop_gt hi, idxF, if_pos (by simp [hb])]
  · have hi : i < l.length := by omega
    exact ⟨i + 1, ⟨by omega, by rw [← h2, drop_gt hi, idxF, if_neg (by simp [hb])]⟩, by omega, wk_le (by simp only [go_sem, Bool.not_not, List.mem_singleton, forall_eq, ↓reduceIte, if_pos, rowsAt_map, wrap64, wrapu8, List.getElem?_cons_zero, List.getElem?_cons_succ, Int.reduceToNat, Nat.reduceAdd, Nat.reduceBEq, Bool.or_false, Bool.false_or, Bool.true_or, Nat.reduceSub, Nat.reduceMul, Int.reduceAdd, Int.reduceEq, Int.reduceLT, Int.reduceLE, Int.reduceNeg, Nat.reduceLT, Nat.reduceLeDiff, Nat.reduceEqDiff]; simp) (by simp only [go_sem])⟩
  · have hi : i = l.length := by omega
    subst hi
    rw [← h2, List.drop_length, idxF]
theorem containsFuncT1_ok (l : List T) (f : FuncId) (p : T → Bool) (ds : List D) (hp : ∀ x ∈ l, AFn env f [x.a, .c (.ptr 0 0 0 0)] [some (.box (ds.map .d))] (aB (p x)) [some (.box (ds.map .d))]) (hl : l.length < 4611686018427387904) :
    AFn env 65 [aF (l.map T.row), .c (.clo (.func f) [.ptr 0 0 0 0])] [some (.box (ds.map .d))] (aB (l.any p)) [some (.box (ds.map .d))] := by
  rw [← idxF_any p l 0]
  refine afn_body Tryd.func65 rfl (by decide) ?_
  simp only [Tryd.ntmps65, Tryd.results65, List.length_cons, List.length_nil, List.cons_append, List.nil_append, Nat.reduceAdd, Nat.reduceSub, List.replicate]
  repeat' first
  | with_reducible refine awp_seq ?_
  | ((with_reducible refine awp_region ?_); refine zS ?_)
  | ((with_reducible refine awp_ret ?_); refine fin_r ?_)
  | ((with_reducible refine CallK_id ?_); refine zcT [0] ?_; refine ⟨_, _, by first | exact indexFuncT1_ok l f p ds hp hl | fail, ?_⟩; try refine zS ?_)
  all_goals rfl
theorem containsFuncT0_ok (l : List T) (f : FuncId) (p : T → Bool) (hp : ∀ x ∈ l, AFn env f [x.a] [] (aB (p x)) []) (hl : l.length < 4611686018427387904) :
    AFn env 65 [aF (l.map T.row), .c (.clo (.func f) [])] [] (aB (l.any p)) [] := by
  rw [← idxF_any p l 0]
  refine afn_body Tryd.func65 rfl (by decide) ?_
  simp only [Tryd.ntmps65, Tryd.results65, List.length_cons, List.length_nil, List.cons_append, List.nil_append, Nat.reduceAdd, Nat.reduceSub, List.replicate]
  repeat' first
  | with_reducible refine awp_seq ?_
  | ((with_reducible refine awp_region ?_); refine zS ?_)
  | ((with_reducible refine awp_ret ?_); refine fin_r ?_)
  | ((with_reducible refine CallK_id ?_); refine zcF ?_; refine ⟨_, by first | exact indexFuncT0_ok l f p hp hl | fail, fun _ => rfl, fun _ => rfl, rfl, ?_⟩; try refine zS ?_)
  all_goals rfl
mutual
def deepTF : T → Int → Bool
  | .mk _ _ k, d => decide (d > 24) || deepTs k (d + 1)
def deepTs : List T → Int → Bool
  | [], _ => false
  | t :: l, d => deepTF t d || deepTs l d
end
theorem deepTs_eq (d : Int) : ∀ l : List T, deepTs l d = l.any fun t => deepTF t d
  | [] => rfl
  | t :: l => by simp only [deepTs, List.any_cons, deepTs_eq d l]
theorem deepTF_eq (t : T) (d : Int) : deepTF t d = (decide (d > 24) || t.kids.any fun t => deepTF t (d + 1)) := by
  cases t with | mk o n k => rw [deepTF, deepTs_eq]; rfl
theorem deepT1_ok (k : T) (d : Int) (hd : d ≤ 24) (hd0 : 0 ≤ d) (h : AFn env 63 [k.a, aI (d + 1)] [] (aB (deepTF k (d + 1))) []) : AFn env 79 [k.a, .c (.ptr 0 0 0 0)] [some (.box [.d (dI d)])] (aB (deepTF k (d + 1))) [some (.box [.d (dI d)])] := by
  refine afn_body Tryd.func79 rfl (by decide) ?_
  simp only [Tryd.ntmps79, Tryd.results79, List.length_cons, List.length_nil, List.cons_append, List.nil_append, Nat.reduceAdd, Nat.reduceSub, List.replicate]
  repeat' first
  | with_reducible refine awp_seq ?_
  | ((with_reducible refine awp_region ?_); refine zS ?_)
  | ((with_reducible refine awp_ret ?_); refine fin_r ?_)
  | ((with_reducible refine CallK_id ?_); refine zcF ?_; refine ⟨_, by first | exact h | fail, fun _ => rfl, fun _ => rfl, rfl, ?_⟩; try refine zS ?_)
  all_goals rfl
theorem deepT_ok (t : T) (d : Int) (hs : t.size < 4611686018427387904) (hd : d ≤ 25) (hd0 : 0 ≤ d) : AFn env 63 [t.a, aI d] [] (aB (deepTF t d)) [] := by
  generalize hn : t.size = n
  induction n using Nat.strongRecOn generalizing t d with
  | _ n ih0 =>
    have hl := t.kids_len
    have ih : ∀ k d, k.size < t.size → d ≤ 25 → 0 ≤ d → AFn env 63 [k.a, aI d] [] (aB (deepTF k d)) [] := fun k d h h2 h3 => ih0 k.size (by omega) k d (by omega) h2 h3 rfl
    refine afn_body Tryd.func63 rfl (by decide) ?_
    simp only [Tryd.ntmps63, Tryd.results63, List.length_cons, List.length_nil, List.cons_append, List.nil_append, Nat.reduceAdd, Nat.reduceSub, List.replicate]
    repeat' first
    | with_reducible refine awp_seq ?_
    | ((with_reducible refine awp_region ?_); refine zS ?_)
    | ((with_reducible refine Gd_nd ?_ ?_) <;> intro hb hb2 <;> first | contradiction | (exfalso; omega) | (refine zH hb2 ?_; try clear hb2))
    | ((with_reducible refine awp_ret ?_); refine fin_r ?_)
    | ((with_reducible refine CallK_id ?_); refine zcT [1] ?_; refine ⟨_, _, by first | exact containsFuncT1_ok t.kids 79 (fun k => deepTF k (d + 1)) [dI d] (fun k hk => deepT1_ok k d (by omega) (by omega) (ih k (d + 1) (by have := T.size_lt hk; omega) (by omega) (by omega))) (by omega) | fail, ?_⟩; try refine zS ?_)
    · rw [deepTF_eq]; simp [go_sem, hb]
    · rw [deepTF_eq]; simp [go_sem, hb]
mutual
def shapedF : T → Bool
  | .mk o n k => if o = 1 then decide (k.length = 0) && decide (0 ≤ n) && decide (n ≤ 1099511627776) else if o = 2 then decide (k.length = 0) && decide (0 ≤ n) && decide (n < 4)
    else if o < 3 ∨ o > 14 ∨ n ≠ 0 ∨ (k.length : Int) ≠ (gt words o.toNat).kids then false else shapedFs k
def shapedFs : List T → Bool
  | [] => true
  | t :: l => shapedF t && shapedFs l
end
theorem shapedFs_eq : ∀ l : List T, shapedFs l = !(l.any fun t => !shapedF t)
  | [] => rfl
  | t :: l => by simp only [shapedFs, List.any_cons, shapedFs_eq l]; cases shapedF t <;> simp
theorem shapedF_eq (t : T) : shapedF t = if t.op = 1 then decide (t.kids.length = 0) && decide (0 ≤ t.n) && decide (t.n ≤ 1099511627776) else if t.op = 2 then decide (t.kids.length = 0) && decide (0 ≤ t.n) && decide (t.n < 4)
    else if t.op < 3 ∨ t.op > 14 ∨ t.n ≠ 0 ∨ (t.kids.length : Int) ≠ (gt words t.op.toNat).kids then false else !(t.kids.any fun t => !shapedF t) := by
  cases t with | mk o n k => rw [shapedF, shapedFs_eq]; rfl
theorem shaped1_ok (k : T) (h : AFn env 64 [k.a] [] (aB (shapedF k)) []) : AFn env 80 [k.a] [] (aB (!shapedF k)) [] := by
  refine afn_body Tryd.func80 rfl (by decide) ?_
  simp only [Tryd.ntmps80, Tryd.results80, List.length_cons, List.length_nil, List.cons_append, List.nil_append, Nat.reduceAdd, Nat.reduceSub, List.replicate]
  repeat' first
  | with_reducible refine awp_seq ?_
  | ((with_reducible refine awp_region ?_); refine zS ?_)
  | ((with_reducible refine awp_ret ?_); refine fin_r ?_)
  | ((with_reducible refine CallK_id ?_); refine zcF ?_; refine ⟨_, by first | exact h | fail, fun _ => rfl, fun _ => rfl, rfl, ?_⟩; try refine zS ?_)
  all_goals rfl
theorem shaped_ok (t : T) (hs : t.size < 4611686018427387904) : AFn env 64 [t.a] [] (aB (shapedF t)) [] := by
  generalize hn : t.size = n
  induction n using Nat.strongRecOn generalizing t with
  | _ n ih0 =>
    have hl := t.kids_len
    have hwl : words.length = 15 := rfl
    have ih : ∀ k, k.size < t.size → AFn env 64 [k.a] [] (aB (shapedF k)) [] := fun k h => ih0 k.size (by omega) k (by omega) rfl
    rw [shapedF_eq]
    refine afn_body Tryd.func64 rfl (by decide) ?_
    simp only [Tryd.ntmps64, Tryd.results64, List.length_cons, List.length_nil, List.cons_append, List.nil_append, Nat.reduceAdd, Nat.reduceSub, List.replicate]
    repeat' first
    | with_reducible refine awp_seq ?_
    | ((with_reducible refine awp_region ?_); refine zS ?_)
    | ((with_reducible refine Gd_d ?_ ?_) <;> intro hb hb2 <;> first | contradiction | (exfalso; omega) | (refine zH hb2 ?_; try clear hb2))
    | ((with_reducible refine awp_drawnC ?_ ?_); rfl; refine zS ?_)
    | ((with_reducible refine CGd_nd ?_ ?_) <;> intro hb hb2 <;> first | contradiction | (exfalso; omega) | (refine zH hb2 ?_; try clear hb2))
    | ((with_reducible refine CGd_d ?_ ?_) <;> intro hb hb2 <;> first | contradiction | (exfalso; omega) | (refine zH hb2 ?_; try clear hb2))
    | ((with_reducible refine AWP_c ?_); refine zcdT ?_)
    | ((with_reducible refine AWP_c ?_); refine zcdN ?_ ?_ <;> intro hb hb2 <;> first | contradiction | (exfalso; omega) | ((try refine zH hb2 ?_); try clear hb2))
    | ((with_reducible refine AWP_c ?_); refine zcdD ?_ ?_ <;> intro hb hb2 <;> first | contradiction | (exfalso; omega) | ((try refine zH hb2 ?_); try clear hb2))
    | ((with_reducible refine awp_ret ?_); refine fin_r ?_)
    | ((with_reducible refine awp_skip ?_); refine zS ?_)
    | with_reducible refine awp_block ?_
    | ((with_reducible refine CallK_id ?_); refine zcF ?_; refine ⟨_, by first | exact containsFuncT0_ok t.kids 80 (fun k => !shapedF k) (fun k hk => shaped1_ok k (ih k (T.size_lt hk))) (by omega) | fail, fun _ => rfl, fun _ => rfl, rfl, ?_⟩; try refine zS ?_)
    all_goals clear ih ih0 hn hl hs
    all_goals simp_all [go_sem]
    all_goals trace_state
def wrongTF (t : T) : Int := if deepTF t 1 = true then 2 else if shapedF t = true then 0 else 4
theorem wrongT_ok (t : T) (hs : t.size < 4611686018427387904) : AFn env 50 [t.a] [] (aI (wrongTF t)) [] := by
  refine afn_body Tryd.func50 rfl (by decide) ?_
  simp only [Tryd.ntmps50, Tryd.results50, List.length_cons, List.length_nil, List.cons_append, List.nil_append, Nat.reduceAdd, Nat.reduceSub, List.replicate]
  repeat' first
  | with_reducible refine awp_seq ?_
  | ((with_reducible refine awp_region ?_); refine zS ?_)
  | ((with_reducible refine AWP_c ?_); refine zcdM ?_ ?_ <;> intro hb <;> first | contradiction | (try refine zH hb ?_))
  | ((with_reducible refine AWP_c ?_); refine zcdB ?_ ?_ <;> intro hb <;> first | contradiction | (try refine zH hb ?_))
  | ((with_reducible refine awp_ret ?_); refine fin_r ?_)
  | ((with_reducible refine awp_skip ?_); refine zS ?_)
  | with_reducible refine awp_block ?_
  | ((with_reducible refine CallK_id ?_); refine zcF ?_; refine ⟨_, by first | exact deepT_ok _ _ (by omega) (by omega) (by omega) | exact shaped_ok _ (by omega) | fail, fun _ => rfl, fun _ => rfl, rfl, ?_⟩; try refine zS ?_)
  all_goals simp_all [go_sem, wrongTF]

mutual
def typedF : T → Int
  | .mk o _ k => if o = 1 ∨ o = 2 then 1 else if anyOff (gt words o.toNat).of k then 0 else (gt words o.toNat).out
def anyOff (w : Int) : List T → Bool
  | [] => false
  | t :: l => decide (typedF t ≠ w) || anyOff w l
end
theorem anyOff_eq (w : Int) : ∀ l : List T, anyOff w l = l.any fun t => decide (typedF t ≠ w)
  | [] => by rw [anyOff]; rfl
  | t :: l => by rw [anyOff, List.any_cons, anyOff_eq w l]
theorem typedF_eq (t : T) : typedF t = if t.op = 1 ∨ t.op = 2 then 1 else if (t.kids.any fun k => decide (typedF k ≠ (gt words t.op.toNat).of)) = true then 0 else (gt words t.op.toNat).out := by
  cases t with | mk o n k => rw [typedF, anyOff_eq]; rfl
theorem shaped_op {t : T} (h : shapedF t = true) (h1 : ¬ t.op = 1) (h2 : ¬ t.op = 2) : 3 ≤ t.op ∧ t.op ≤ 14 ∧ ∀ k ∈ t.kids, shapedF k = true := by
  rw [shapedF_eq, if_neg h1, if_neg h2] at h
  split at h
  · cases h
  · rename_i hn
    refine ⟨by omega, by omega, fun k hk => ?_⟩
    simp only [Bool.not_eq_true', List.any_eq_false, Bool.not_eq_true] at h
    have := h k hk
    simpa using this
def wds (w : Wd) : List D := [dS w.text, dI w.kids, dI w.of, dI w.out]
attribute [go_sem] wds
theorem typed1_ok (k : T) (w : Wd) (h : AFn env 51 [k.a] [] (aI (typedF k)) []) : AFn env 66 [k.a, .c (.ptr 0 0 0 0)] [some (.box ((wds w).map .d))] (aB (decide (typedF k ≠ w.of))) [some (.box ((wds w).map .d))] := by
  refine afn_body Tryd.func66 rfl (by decide) ?_
  simp only [Tryd.ntmps66, Tryd.results66, List.length_cons, List.length_nil, List.cons_append, List.nil_append, Nat.reduceAdd, Nat.reduceSub, List.replicate]
  repeat' first
  | with_reducible refine awp_seq ?_
  | ((with_reducible refine awp_region ?_); refine zS ?_)
  | ((with_reducible refine awp_drawnA ?_ ?_); rfl; refine zS ?_)
  | ((with_reducible refine DStep_id ?_); refine zdP ?_; refine ⟨_, by first | exact h | fail, fun _ => rfl, fun _ => rfl, rfl, (fun h => by first | cases h | fail), ?_⟩; try refine zS ?_)
  | ((with_reducible refine awp_ret ?_); refine fin_r ?_)
  all_goals simp [go_sem]
theorem typed_ok (t : T) (hs : t.size < 4611686018427387904) (hw : shapedF t = true) : AFn env 51 [t.a] [] (aI (typedF t)) [] := by
  generalize hn : t.size = n
  induction n using Nat.strongRecOn generalizing t with
  | _ n ih0 =>
    have hl := t.kids_len
    have hwl : words.length = 15 := rfl
    have ih : ∀ k, k.size < t.size → shapedF k = true → AFn env 51 [k.a] [] (aI (typedF k)) [] := fun k h h2 => ih0 k.size (by omega) k (by omega) h2 rfl
    have hop : ¬ t.op = 1 → ¬ t.op = 2 → 3 ≤ t.op ∧ t.op ≤ 14 := fun h1 h2 => ⟨(shaped_op hw h1 h2).1, (shaped_op hw h1 h2).2.1⟩
    have hk2 : ¬ t.op = 1 → ¬ t.op = 2 → ∀ k ∈ t.kids, shapedF k = true := fun h1 h2 => (shaped_op hw h1 h2).2.2
    rw [typedF_eq]
    refine afn_body Tryd.func51 rfl (by decide) ?_
    simp only [Tryd.ntmps51, Tryd.results51, List.length_cons, List.length_nil, List.cons_append, List.nil_append, Nat.reduceAdd, Nat.reduceSub, List.replicate]
    repeat' first
    | ((with_reducible refine awp_seqQ ?_); intro _ _)
    | ((with_reducible refine awp_region ?_); refine zS ?_)
    | ((with_reducible refine Gd_nd ?_ ?_) <;> intro hb hb2 <;> first | contradiction | (exfalso; omega) | (refine zH hb2 ?_; try clear hb2))
    | ((with_reducible refine AWP_c ?_); refine zcdT ?_)
    | ((with_reducible refine AWP_c ?_); refine zcdD ?_ ?_ <;> intro hb hb2 <;> first | contradiction | (exfalso; omega) | ((try refine zH hb2 ?_); try clear hb2))
    | ((with_reducible refine AWP_c ?_); refine zcdB ?_ ?_ <;> intro hb <;> first | contradiction | (try refine zH hb ?_))
    | ((with_reducible refine awp_skip ?_); try refine zS ?_)
    | ((with_reducible refine CallK_id ?_); refine zcT [1] ?_; refine ⟨_, _, by first | exact containsFuncT1_ok t.kids 66 (fun k => decide (typedF k ≠ (gt words t.op.toNat).of)) (wds (gt words t.op.toNat)) (fun k hk => typed1_ok k (gt words t.op.toNat) (ih k (T.size_lt hk) (hk2 (by assumption) (by assumption) k hk))) (by omega) | fail, ?_⟩; try refine zS ?_)
    | ((with_reducible refine awp_ret ?_); refine q_step (by assumption) ?_)
    | with_reducible refine fin_r ?_
    | ((with_reducible refine q_step (by assumption) ?_); try refine zS ?_)
    all_goals clear ih ih0 hn hw hop hk2
    all_goals first | rfl | (rw [if_neg (by omega), if_neg (fun h => by have := h.symm.trans hb; cases this)]; done) | (simp [go_sem, *]; done)
def checkTF (t : T) : Int × Int := if wrongTF t ≠ 0 then (0, wrongTF t) else if typedF t = 0 then (0, 30) else (typedF t, 0)
theorem wrong_shaped {t : T} (h : wrongTF t = 0) : shapedF t = true := by
  unfold wrongTF at h
  split at h
  · cases h
  · split at h
    · assumption
    · cases h
theorem checkT_ok (t : T) (hs : t.size < 4611686018427387904) : AFn env 46 [t.a] [] (.tup [aI (checkTF t).1, aI (checkTF t).2]) [] := by
  refine afn_body Tryd.func46 rfl (by decide) ?_
  simp only [Tryd.ntmps46, Tryd.results46, List.length_cons, List.length_nil, List.cons_append, List.nil_append, Nat.reduceAdd, Nat.reduceSub, List.replicate]
  repeat' first
  | ((with_reducible refine awp_seqQ ?_); intro _ _)
  | ((with_reducible refine awp_region ?_); refine zS ?_)
  | ((with_reducible refine AWP_c ?_); refine zcdN ?_ ?_ <;> intro hb hb2 <;> first | contradiction | (exfalso; omega) | ((try refine zH hb2 ?_); try clear hb2))
  | ((with_reducible refine AWP_c ?_); refine zcdD ?_ ?_ <;> intro hb hb2 <;> first | contradiction | (exfalso; omega) | ((try refine zH hb2 ?_); try clear hb2))
  | ((with_reducible refine awp_skip ?_); try refine zS ?_)
  | ((with_reducible refine CallK_id ?_); refine zcF ?_; refine ⟨_, by first | exact wrongT_ok t hs | exact typed_ok t hs (wrong_shaped ‹_›) | fail, fun _ => rfl, fun _ => rfl, rfl, ?_⟩; try refine zS ?_)
  | ((with_reducible refine awp_ret ?_); refine q_step (by assumption) ?_)
  | with_reducible refine fin_r ?_
  | ((with_reducible refine q_step (by assumption) ?_); try refine zS ?_)
  all_goals simp [go_sem, checkTF, *]
def ofF (t : T) (k : Int) : Bool := decide ((checkTF t).2 = 0) && decide ((checkTF t).1 = k)
theorem of_ok (t : T) (k : Int) (hs : t.size < 4611686018427387904) : AFn env 37 [t.a, aI k] [] (aB (ofF t k)) [] := by
  refine afn_body Tryd.func37 rfl (by decide) ?_
  simp only [Tryd.ntmps37, Tryd.results37, List.length_cons, List.length_nil, List.cons_append, List.nil_append, Nat.reduceAdd, Nat.reduceSub, List.replicate]
  repeat' first
  | ((with_reducible refine awp_seqQ ?_); intro _ _)
  | ((with_reducible refine awp_region ?_); refine zS ?_)
  | ((with_reducible refine Gd_d ?_ ?_) <;> intro hb hb2 <;> first | contradiction | (exfalso; omega) | (refine zH hb2 ?_; try clear hb2))
  | ((with_reducible refine CallK_id ?_); refine zcF ?_; refine ⟨_, by first | exact checkT_ok t hs | fail, fun _ => rfl, fun _ => rfl, rfl, ?_⟩; try refine zS ?_)
  | ((with_reducible refine awp_ret ?_); refine q_step (by assumption) ?_)
  | with_reducible refine fin_r ?_
  | ((with_reducible refine q_step (by assumption) ?_); try refine zS ?_)
  all_goals simp [go_sem, ofF, *]
theorem noneT_ok (t : T) (hs : t.size < 4611686018427387904) : AFn env 47 [t.a] [] (aB (eqT t t0)) [] := by
  refine afn_body Tryd.func47 rfl (by decide) ?_
  simp only [Tryd.ntmps47, Tryd.results47, List.length_cons, List.length_nil, List.cons_append, List.nil_append, Nat.reduceAdd, Nat.reduceSub, List.replicate]
  repeat' first
  | ((with_reducible refine awp_seqQ ?_); intro _ _)
  | ((with_reducible refine awp_region ?_); refine zS ?_)
  | ((with_reducible refine CallK_id ?_); refine zcF ?_; refine ⟨_, by first | exact same_ok t t0 hs | fail, fun _ => rfl, fun _ => rfl, rfl, ?_⟩; try refine zS ?_)
  | ((with_reducible refine awp_ret ?_); refine q_step (by assumption) ?_)
  | with_reducible refine fin_r ?_
  | ((with_reducible refine q_step (by assumption) ?_); try refine zS ?_)
  all_goals rfl
def condsL (other : Int) : List T → Nat → Bool
  | [], _ => true
  | t :: l, i => (decide ((i : Int) = other) || ofF t 2) && condsL other l (i + 1)
def condsF (l : List T) (other : Int) : Bool := decide (0 ≤ other) && decide (other < l.length) && eqT (gt l other.toNat) t0 && condsL other l 0
theorem conds_ok (l : List T) (other : Int) (hs : T.sizes l < 4611686018427387904) : AFn env 38 [aF (l.map T.row), aI other] [] (aB (condsF l other)) [] := by
  have hl := T.len_le l
  refine afn_body Tryd.func38 rfl (by decide) ?_
  simp only [Tryd.ntmps38, Tryd.results38, List.length_cons, List.length_nil, List.cons_append, List.nil_append, Nat.reduceAdd, Nat.reduceSub, List.replicate]
  refine awp_seq ?_
  refine awp_region ?_
  refine zT ?_
  refine awp_cut (fun _ : Unit => (0 ≤ other ∧ other < l.length) ∧ eqT (gt l other.toNat) t0 = true) (fun _ => []) (fun _ => []) ?_ ?_
  · repeat' first
    | ((with_reducible refine awp_seqQ ?_); intro _ _)
    | ((with_reducible refine awp_region ?_); refine zS ?_)
    | ((with_reducible refine Gd_nd ?_ ?_) <;> intro hb hb2 <;> first | contradiction | (exfalso; omega) | (refine zH hb2 ?_; try clear hb2))
    | ((with_reducible refine AWP_c ?_); refine zcdT ?_)
    | ((with_reducible refine AWP_c ?_); refine zcdM ?_ ?_ <;> intro hb <;> first | contradiction | (try refine zH hb ?_))
    | ((with_reducible refine awp_skip ?_); try refine zS ?_)
    | ((with_reducible refine CallK_id ?_); refine zcF ?_; refine ⟨_, by first | exact noneT_ok _ (by have := T.size_kid (gt_mem (l := l) (i := other.toNat) (by omega)); omega) | fail, fun _ => rfl, fun _ => rfl, rfl, ?_⟩; try refine zS ?_)
    | ((with_reducible refine awp_ret ?_); refine q_step (by assumption) ?_)
    | with_reducible refine fin_r ?_
    | ((with_reducible refine q_step (by assumption) ?_); try refine zS ?_)
    all_goals first
      | exact ⟨(), ⟨⟨by omega, by omega⟩, by assumption⟩, wk_le (by simp only [go_sem]) (by simp only [go_sem])⟩
      | (simp [go_sem, condsF, *]; done)
      | (rw [condsF, decide_eq_false (p := 0 ≤ other) (by omega)]; rfl)
      | (rw [condsF, decide_eq_false (p := other < l.length) (by omega), Bool.and_false]; rfl)
      | trace_state
  rintro _ ⟨⟨m1, m2⟩, m3⟩
  have h0 : condsF l other = condsL other l 0 := by rw [condsF, decide_eq_true m1, decide_eq_true m2, m3]; rfl
  refine zT ?_
  repeat' first
  | ((with_reducible refine awp_seqQ ?_); intro _ _)
  | ((with_reducible refine awp_region ?_); refine zS ?_)
  | with_reducible refine awp_block ?_
  refine awp_loopT (fun i : Nat => i ≤ l.length ∧ condsL other l 0 = condsL other (l.drop i) i) (fun i => l.length - i) (fun i => [(25, aI i)]) (fun _ => []) 0 ⟨by omega, rfl⟩ (by exact zwl) ?_
  rintro i ⟨h1, h2⟩
  refine zT ?_
  repeat' first
  | ((with_reducible refine awp_seqQ ?_); intro _ _)
  | ((with_reducible refine awp_region ?_); refine zS ?_)
  | ((with_reducible refine Gd_nd ?_ ?_) <;> intro hb hb2 <;> first | contradiction | (exfalso; omega) | (refine zH hb2 ?_; try clear hb2))
  | ((with_reducible refine AWP_c ?_); refine zcdF ?_)
  | ((with_reducible refine AWP_c ?_); refine zcdD ?_ ?_ <;> intro hb hb2 <;> first | contradiction | (exfalso; omega) | ((try refine zH hb2 ?_); try clear hb2))
  | ((with_reducible refine AWP_c ?_); refine zcdM ?_ ?_ <;> intro hb <;> first | contradiction | (try refine zH hb ?_))
  | ((with_reducible refine awp_skip ?_); try refine zS ?_)
  | with_reducible refine awp_block ?_
  | ((with_reducible refine awp_exit ?_); try refine zS ?_)
  | ((with_reducible refine CallK_id ?_); refine zcF ?_; refine ⟨_, by first | exact of_ok _ 2 (by have := T.size_kid (gt_mem (l := l) (i := i) (by omega)); omega) | fail, fun _ => rfl, fun _ => rfl, rfl, ?_⟩; try refine zS ?_)
  | ((with_reducible refine awp_ret ?_); refine q_step (by assumption) ?_)
  | with_reducible refine fin_r ?_
  | ((with_reducible refine q_step (by assumption) ?_); try refine zS ?_)
  all_goals first
    | (rw [h0, h2, drop_gt (by omega), condsL, ‹ofF _ 2 = false›, decide_eq_false (by omega)]; rfl)
    | exact ⟨i + 1, ⟨by omega, by rw [h2, drop_gt (by omega), condsL, ‹ofF _ 2 = true›, Bool.or_true, Bool.true_and]⟩, by omega, (by exact zwc 0)⟩
    | exact ⟨i + 1, ⟨by omega, by rw [h2, drop_gt (by omega), condsL, decide_eq_true (by omega), Bool.true_or, Bool.true_and]⟩, by omega, (by exact zwc 0)⟩
    | (rw [h0, h2, List.drop_eq_nil_of_le (by omega), condsL])
    | trace_state
end Go.Eng
open Go Go.Proofs
namespace Go.Eng
set_option linter.unusedSimpArgs false
set_option linter.unusedVariables false
set_option maxRecDepth 10000
set_option maxHeartbeats 8000000
def inR (n i : Int) : Bool := decide (0 ≤ i) && decide (i < n)
theorem inR_ok (n i : Int) : AFn env 82 [aI i, P0] [Rm n] (aB (inR n i)) [Rm n] := by
  refine afn_body Tryd.func82 rfl (by decide) ?_
  simp only [Tryd.ntmps82, Tryd.results82, List.length_cons, List.length_nil, List.cons_append, List.nil_append, Nat.reduceAdd, Nat.reduceSub, List.replicate]
  repeat' first
  | ((with_reducible refine awp_seqQ ?_); intro _ _)
  | ((with_reducible refine awp_region ?_); refine zS ?_)
  | ((with_reducible refine Gd_d ?_ ?_) <;> intro hb hb2 <;> first | contradiction | (exfalso; omega) | (refine zH hb2 ?_; try clear hb2))
  | ((with_reducible refine awp_ret ?_); refine q_step (by assumption) ?_)
  | with_reducible refine fin_r ?_
  | ((with_reducible refine q_step (by assumption) ?_); try refine zS ?_)
  all_goals first | (simp [go_sem, inR, *]; done) | (simp [go_sem, inR, *]; omega)
def rkC (n : Int) (l : List Lk) : Int := if n < 0 ∨ n > 64 then 1 else if l.length > 256 then 2 else if (l.all fun e => inR n e.src && inR n e.dst) = true then 0 else 4
theorem rkC_ok (n : Int) (l : List Lk) : AFn env 67 [aI n, aF (l.map Lk.row)] [] (aI (rkC n l)) [] := by
  refine afn_body Tryd.func67 rfl (by decide) ?_
  simp only [Tryd.ntmps67, Tryd.results67, List.length_cons, List.length_nil, List.cons_append, List.nil_append, Nat.reduceAdd, Nat.reduceSub, List.replicate]
  refine awp_seq ?_
  refine awp_region ?_
  refine zT ?_
  refine awp_seq ?_
  refine awp_region ?_
  refine zT ?_
  repeat' first
  | ((with_reducible refine awp_seqQ ?_); intro _ _)
  | ((with_reducible refine awp_region ?_); refine zS ?_)
  | ((with_reducible refine Gd_nd ?_ ?_) <;> intro hb hb2 <;> first | contradiction | (exfalso; omega) | (refine zH hb2 ?_; try clear hb2))
  | ((with_reducible refine AWP_c ?_); refine zcdT ?_)
  | ((with_reducible refine AWP_c ?_); refine zcdD ?_ ?_ <;> intro hb hb2 <;> first | contradiction | (exfalso; omega) | ((try refine zH hb2 ?_); try clear hb2))
  | ((with_reducible refine awp_skip ?_); try refine zS ?_)
  | with_reducible refine awp_block ?_
  | ((with_reducible refine awp_ret ?_); refine q_step (by assumption) ?_)
  | with_reducible refine fin_r ?_
  | ((with_reducible refine q_step (by assumption) ?_); try refine zS ?_)
  all_goals first
    | (rw [rkC, if_pos (by omega)]; done)
    | (rw [rkC, if_neg (by omega), if_pos (by omega)]; done)
    | skip
  have h0 : rkC n l = if (l.all fun e => inR n e.src && inR n e.dst) = true then 0 else 4 := by rw [rkC, if_neg (by omega), if_neg (by omega)]
  refine awp_loopT (fun i : Nat => i ≤ l.length ∧ (l.all fun e => inR n e.src && inR n e.dst) = ((l.drop i).all fun e => inR n e.src && inR n e.dst)) (fun i => l.length - i) (fun i => [(22, aI i)]) (fun _ => [Rm n]) 0 ⟨by omega, rfl⟩ (by exact zwl) ?_
  rintro i ⟨h1, h2⟩
  refine zT ?_
  repeat' first
  | ((with_reducible refine awp_seqQ ?_); intro _ _)
  | ((with_reducible refine awp_region ?_); refine zS ?_)
  | ((with_reducible refine Gd_b ?_ ?_) <;> intro hb <;> first | contradiction | refine zH hb ?_)
  | ((with_reducible refine AWP_c ?_); refine zcdT ?_)
  | ((with_reducible refine AWP_c ?_); refine zcdD ?_ ?_ <;> intro hb hb2 <;> first | contradiction | (exfalso; omega) | ((try refine zH hb2 ?_); try clear hb2))
  | ((with_reducible refine AWP_c ?_); refine zcdM ?_ ?_ <;> intro hb <;> first | contradiction | (try refine zH hb ?_))
  | ((with_reducible refine awp_skip ?_); try refine zS ?_)
  | with_reducible refine awp_block ?_
  | ((with_reducible refine awp_exit ?_); try refine zS ?_)
  | ((with_reducible refine CallK_id ?_); refine zcT [0] ?_; refine ⟨_, _, by first | exact inR_ok n _ | fail, ?_⟩; try refine zS ?_)
  | ((with_reducible refine awp_ret ?_); refine q_step (by assumption) ?_)
  | with_reducible refine fin_r ?_
  | ((with_reducible refine q_step (by assumption) ?_); try refine zS ?_)
  all_goals first
    | (rw [h0, h2, drop_gt (by omega), List.all_cons, ‹inR n _ = false›]; simp; done)
    | (rw [h0, h2, drop_gt (by omega), List.all_cons, ‹inR n (gt l i).dst = false›]; simp; done)
    | exact ⟨i + 1, ⟨by omega, by rw [h2, drop_gt (by omega), List.all_cons, ‹inR n (gt l i).src = true›, ‹inR n (gt l i).dst = true›]; rfl⟩, by omega, (by exact zwc 1)⟩
    | (rw [h0, h2, List.drop_eq_nil_of_le (by omega)]; rfl)
    | trace_state
def bRow (b : Bool) : List D := [dB b]
def RwO (s : List Bool) : Option Blk := some (.rows 1 (s.map bRow))
theorem set_bRow (s : List Bool) (j : Nat) (b : Bool) : (s.map bRow).set j [D.sc (.bool b)] = (s.set j b).map bRow := by rw [List.map_set]; rfl
attribute [go_sem] RwO bRow set_bRow List.length_set
def gb (s : List Bool) (i : Int) : Bool := gt s i.toNat
def hot (s : List Bool) (e : Lk) : Bool := gb s e.src && !gb s e.dst
def cf : List Bool → Nat
  | [] => 0
  | b :: l => (if b = true then 0 else 1) + cf l
theorem cf_set : ∀ {s : List Bool} {j : Nat}, j < s.length → gt s j = false → cf (s.set j true) + 1 = cf s
  | [], j, h, _ => by simp at h
  | b :: l, 0, _, hb => by
    have : b = false := hb
    subst this
    simp [cf]; omega
  | b :: l, j + 1, h, hb => by
    have := cf_set (s := l) (j := j) (by simpa using h) (by simpa [gt, List.getD] using hb)
    simp only [List.set_cons_succ, cf]; omega
def spreadN : Nat → List Bool → List Lk → List Bool
  | 0, s, _ => s
  | n + 1, s, l => match l.find? (hot s) with | none => s | some e => spreadN n (s.set e.dst.toNat true) l
def spreadF (s : List Bool) (l : List Lk) : List Bool := spreadN (cf s) s l
theorem spread_none {s : List Bool} {l : List Lk} (h : l.find? (hot s) = none) : spreadF s l = s := by
  unfold spreadF
  cases cf s with
  | zero => rfl
  | succ n => rw [spreadN, h]
def inL (n : Nat) (l : List Lk) : Prop := ∀ e ∈ l, 0 ≤ e.src ∧ e.src < n ∧ 0 ≤ e.dst ∧ e.dst < n
theorem spread_some {s : List Bool} {l : List Lk} {e : Lk} (hl : inL s.length l) (h : l.find? (hot s) = some e) : spreadF s l = spreadF (s.set e.dst.toNat true) l ∧ cf (s.set e.dst.toNat true) < cf s := by
  have hm := hl e (List.mem_of_find?_eq_some h)
  have hh := List.find?_some h
  unfold hot gb at hh
  simp only [Bool.and_eq_true, Bool.not_eq_true'] at hh
  have hc := cf_set (s := s) (j := e.dst.toNat) (by omega) hh.2
  refine ⟨?_, by omega⟩
  unfold spreadF
  rw [← hc, spreadN, h]
theorem spread_ok (s : List Bool) (l : List Lk) (hs : s.length ≤ 100000) (hl : inL s.length l) (hll : l.length ≤ 100000) : AFn env 68 [Own s.length, aF (l.map Lk.row)] [RwO s] (.tup []) [RwO (spreadF s l)] := by
  refine afn_body Tryd.func68 rfl (by decide) ?_
  simp only [Tryd.ntmps68, Tryd.results68, List.length_cons, List.length_nil, List.cons_append, List.nil_append, Nat.reduceAdd, Nat.reduceSub, List.replicate]
  refine awp_scopeJ 0 (fun s1 : List Bool => s1.length = s.length ∧ spreadF s1 l = spreadF s l) (fun s1 => (Own s.length :: aF (l.map Lk.row) :: List.replicate 28 .any, [RwO s1])) cf rfl ?_ ?_
  · obtain ⟨s1, hs1⟩ : ∃ s1, s1 = s := ⟨s, rfl⟩
    have e1 : s1.length = s.length := by rw [hs1]
    have e2 : spreadF s1 l = spreadF s l := by rw [hs1]
    rw [show [RwO s] = [RwO s1] by rw [hs1]]
    clear hs1
    simp only [go_sem, Bool.not_not, List.mem_singleton, forall_eq, ↓reduceIte, if_pos, rowsAt_map, wrap64, wrapu8, List.getElem?_cons_zero, List.getElem?_cons_succ, Int.reduceToNat, Nat.reduceAdd, Nat.reduceBEq, Bool.or_false, Bool.false_or, Bool.true_or, Nat.reduceSub, Nat.reduceMul, Int.reduceAdd, Int.reduceEq, Int.reduceLT, Int.reduceLE, Int.reduceNeg, Nat.reduceLT, Nat.reduceLeDiff, Nat.reduceEqDiff, List.replicate]
    repeat' first
    | with_reducible refine awp_seq ?_
    | ((with_reducible refine awp_region ?_); refine zS ?_)
    | with_reducible refine awp_block ?_
    | ((with_reducible refine awp_label ?_); try refine zS ?_)
    refine awp_loopT (fun i : Nat => i ≤ l.length ∧ l.find? (hot s1) = (l.drop i).find? (hot s1)) (fun i => l.length - i) (fun i => [(8, aI i)]) (fun _ => [RwO s1]) 0 ⟨by omega, rfl⟩ (by exact zwl) ?_
    rintro i ⟨h1, h2⟩
    have hR : i < l.length → 0 ≤ (gt l i).src ∧ (gt l i).src < s1.length ∧ 0 ≤ (gt l i).dst ∧ (gt l i).dst < s1.length := fun h => by have := hl _ (gt_mem h); omega
    refine zT ?_
    repeat' first
    | with_reducible refine awp_seq ?_
    | ((with_reducible refine awp_region ?_); refine zS ?_)
    | ((with_reducible refine Gd_b ?_ ?_) <;> intro hb <;> first | contradiction | refine zH hb ?_)
    | ((with_reducible refine AWP_c ?_); refine zcdF ?_)
    | ((with_reducible refine AWP_c ?_); refine zcdD ?_ ?_ <;> intro hb hb2 <;> first | contradiction | (exfalso; omega) | ((try refine zH hb2 ?_); try clear hb2))
    | ((with_reducible refine AWP_c ?_); refine zcdM ?_ ?_ <;> intro hb <;> first | contradiction | (try refine zH hb ?_))
    | with_reducible refine fin_qn ?_ ?_
    | ((with_reducible refine awp_skip ?_); refine zS ?_)
    | with_reducible refine awp_block ?_
    | ((with_reducible refine awp_exit ?_); refine zS ?_)
    | ((with_reducible refine awp_goto ?_); try refine zS ?_)
    · have hh : hot s1 (gt l i) = true := by simp only [hot, gb, hb]; simp [*]
      have hf : l.find? (hot s1) = some (gt l i) := by rw [h2, drop_gt (by omega), List.find?_cons_of_pos hh]
      obtain ⟨q1, q2⟩ := spread_some (s := s1) (by rw [e1]; exact hl) hf
      exact ⟨s1.set (gt l i).dst.toNat true, ⟨by simp [e1], by rw [← q1, e2]⟩, (by exact zwc 1)⟩
    all_goals first
      | rfl
      | (rw [← e2, spread_none (by rw [h2, List.drop_eq_nil_of_le (by omega)]; rfl)]; done)
      | exact ⟨i + 1, ⟨by omega, by rw [h2, drop_gt (by omega), List.find?_cons_of_neg (by simp [hot, gb, *])]⟩, by omega, (by exact zwc 1)⟩
      | trace_state
  · rintro s1 ⟨e1, e2⟩
    simp only [go_sem, Bool.not_not, List.mem_singleton, forall_eq, ↓reduceIte, if_pos, rowsAt_map, wrap64, wrapu8, List.getElem?_cons_zero, List.getElem?_cons_succ, Int.reduceToNat, Nat.reduceAdd, Nat.reduceBEq, Bool.or_false, Bool.false_or, Bool.true_or, Nat.reduceSub, Nat.reduceMul, Int.reduceAdd, Int.reduceEq, Int.reduceLT, Int.reduceLE, Int.reduceNeg, Nat.reduceLT, Nat.reduceLeDiff, Nat.reduceEqDiff, List.replicate]
    repeat' first
    | with_reducible refine awp_seq ?_
    | ((with_reducible refine awp_region ?_); refine zS ?_)
    | ((with_reducible refine awp_skip ?_); refine zS ?_)
    | with_reducible refine awp_block ?_
    refine awp_loopT (fun i : Nat => i ≤ l.length ∧ l.find? (hot s1) = (l.drop i).find? (hot s1)) (fun i => l.length - i) (fun i => [(8, aI i)]) (fun _ => [RwO s1]) 0 ⟨by omega, rfl⟩ (by exact zwl) ?_
    rintro i ⟨h1, h2⟩
    have hR : i < l.length → 0 ≤ (gt l i).src ∧ (gt l i).src < s1.length ∧ 0 ≤ (gt l i).dst ∧ (gt l i).dst < s1.length := fun h => by have := hl _ (gt_mem h); omega
    refine zT ?_
    repeat' first
    | with_reducible refine awp_seq ?_
    | ((with_reducible refine awp_region ?_); refine zS ?_)
    | ((with_reducible refine Gd_b ?_ ?_) <;> intro hb <;> first | contradiction | refine zH hb ?_)
    | ((with_reducible refine AWP_c ?_); refine zcdF ?_)
    | ((with_reducible refine AWP_c ?_); refine zcdD ?_ ?_ <;> intro hb hb2 <;> first | contradiction | (exfalso; omega) | ((try refine zH hb2 ?_); try clear hb2))
    | ((with_reducible refine AWP_c ?_); refine zcdM ?_ ?_ <;> intro hb <;> first | contradiction | (try refine zH hb ?_))
    | with_reducible refine fin_qn ?_ ?_
    | ((with_reducible refine awp_skip ?_); refine zS ?_)
    | with_reducible refine awp_block ?_
    | ((with_reducible refine awp_exit ?_); refine zS ?_)
    | ((with_reducible refine awp_goto ?_); try refine zS ?_)
    · have hh : hot s1 (gt l i) = true := by simp only [hot, gb, hb]; simp [*]
      have hf : l.find? (hot s1) = some (gt l i) := by rw [h2, drop_gt (by omega), List.find?_cons_of_pos hh]
      obtain ⟨q1, q2⟩ := spread_some (s := s1) (by rw [e1]; exact hl) hf
      exact ⟨s1.set (gt l i).dst.toNat true, ⟨by simp [e1], by rw [← q1, e2]⟩, q2, (by exact zwc 1)⟩
    all_goals first
      | rfl
      | (rw [← e2, spread_none (by rw [h2, List.drop_eq_nil_of_le (by omega)]; rfl)]; done)
      | exact ⟨i + 1, ⟨by omega, by rw [h2, drop_gt (by omega), List.find?_cons_of_neg (by simp [hot, gb, *])]⟩, by omega, (by exact zwc 1)⟩
      | trace_state
def markF (s : List Bool) : List Int := ((List.range s.length).filter fun i => gt s i).map fun (i : Nat) => (i : Int)
def iRow (n : Int) : List D := [dI n]
attribute [go_sem] iRow
def RwG (i : List Int) : Option Blk := some (.rows 1 (i.map iRow))
def OwnK (i n : Nat) : A := .c (.own i 0 n n)
attribute [go_sem] RwG OwnK
def markL : List Bool → Nat → List Int
  | [], _ => []
  | b :: l, i => if b = true then (i : Int) :: markL l (i + 1) else markL l (i + 1)
theorem markL_len : ∀ (s : List Bool) (i : Nat), (markL s i).length ≤ s.length
  | [], _ => by simp [markL]
  | b :: l, i => by have := markL_len l (i + 1); rw [markL]; split <;> simp <;> omega
def Own0 (n : Nat) : A := .c (.own 0 0 n n)
def RwZ (s : List Int) : Option Blk := some (.rows 1 (s.map iRow))
attribute [go_sem] Own0 RwZ
theorem mark_ok (s : List Bool) (hs : s.length ≤ 100000) : AFn env 69 [aF (s.map bRow)] [] (aF ((markL s 0).map iRow)) [] := by
  refine afn_body Tryd.func69 rfl (by decide) ?_
  simp only [Tryd.ntmps69, Tryd.results69, List.length_cons, List.length_nil, List.cons_append, List.nil_append, Nat.reduceAdd, Nat.reduceSub, List.replicate]
  iterate 2 (refine awp_seq ?_; refine awp_region ?_; refine zS ?_)
  refine awp_wk (wk_virt none (i := 3) (s := 1) (by decide) rfl) ?_
  refine zT ?_
  repeat' first
  | with_reducible refine awp_seq ?_
  | ((with_reducible refine awp_region ?_); refine zS ?_)
  | with_reducible refine awp_block ?_
  refine awp_loopT (fun z : Nat × List Int => z.1 ≤ s.length ∧ z.2 ++ markL (s.drop z.1) z.1 = markL s 0 ∧ z.2.length ≤ z.1) (fun z => s.length - z.1) (fun z => [(3, Own0 z.2.length), (8, aI z.1)]) (fun z => [RwZ z.2]) (0, []) ⟨by simp, by simp, by simp⟩ (by exact zwl) ?_
  rintro ⟨i, o⟩ ⟨h1, h2, h3⟩
  simp only at h1 h2 h3
  refine zT ?_
  repeat' first
  | with_reducible refine awp_seq ?_
  | ((with_reducible refine awp_region ?_); refine zS ?_)
  | ((with_reducible refine AWP_c ?_); refine zcdD ?_ ?_ <;> intro hb hb2 <;> first | contradiction | (exfalso; omega) | ((try refine zH hb2 ?_); try clear hb2))
  | ((with_reducible refine AWP_c ?_); refine zcdB ?_ ?_ <;> intro hb <;> first | contradiction | (try refine zH hb ?_))
  | ((with_reducible refine awp_ret ?_); refine fin_r ?_)
  | ((with_reducible refine awp_skip ?_); refine zS ?_)
  | with_reducible refine awp_block ?_
  | ((with_reducible refine awp_exit ?_); refine zS ?_)
  · exact ⟨(i + 1, o ++ [(i : Int)]), ⟨by simp only; omega, by rw [← h2, drop_gt (l := s) (i := i) (by omega), markL, if_pos ‹_›]; simp, by simp; omega⟩, by simp only; omega, wk_cl 1 (by decide) (by simp) (by simp only [go_sem, Bool.not_not, List.mem_singleton, forall_eq, ↓reduceIte, if_pos, rowsAt_map, wrap64, wrapu8, List.getElem?_cons_zero, List.getElem?_cons_succ, Int.reduceToNat, Nat.reduceAdd, Nat.reduceBEq, Bool.or_false, Bool.false_or, Bool.true_or, Nat.reduceSub, Nat.reduceMul, Int.reduceAdd, Int.reduceEq, Int.reduceLT, Int.reduceLE, Int.reduceNeg, Nat.reduceLT, Nat.reduceLeDiff, Nat.reduceEqDiff]; try simp) (by simp only [go_sem, Bool.not_not, List.mem_singleton, forall_eq, ↓reduceIte, if_pos, rowsAt_map, wrap64, wrapu8, List.getElem?_cons_zero, List.getElem?_cons_succ, Int.reduceToNat, Nat.reduceAdd, Nat.reduceBEq, Bool.or_false, Bool.false_or, Bool.true_or, Nat.reduceSub, Nat.reduceMul, Int.reduceAdd, Int.reduceEq, Int.reduceLT, Int.reduceLE, Int.reduceNeg, Nat.reduceLT, Nat.reduceLeDiff, Nat.reduceEqDiff, List.map_append]; try simp [go_sem])⟩
  · exact ⟨(i + 1, o), ⟨by simp only; omega, by rw [← h2, drop_gt (l := s) (i := i) (by omega), markL, if_neg (by simp [*])], by simp only; omega⟩, by simp only; omega, (by exact zwc 1)⟩
  rw [List.drop_eq_nil_of_le (by omega), markL, List.append_nil] at h2
  rw [h2]
end Go.Eng
open Go Go.Proofs
namespace Go.Eng
set_option linter.unusedSimpArgs false
set_option linter.unusedVariables false
set_option maxRecDepth 10000
set_option maxHeartbeats 8000000
def first1 (i : Int) : List Lk → List Bool → List Bool
  | [], s => s
  | e :: l, s => first1 i l (if e.src = i then s.set e.dst.toNat true else s)
theorem first1_len (i : Int) : ∀ (l : List Lk) (s : List Bool), (first1 i l s).length = s.length
  | [], s => rfl
  | e :: l, s => by rw [first1, first1_len i l]; split <;> simp
theorem spreadN_len : ∀ (n : Nat) (s : List Bool) (l : List Lk), (spreadN n s l).length = s.length
  | 0, s, l => rfl
  | n + 1, s, l => by
    rw [spreadN]
    split
    · rfl
    · rw [spreadN_len n]; simp
theorem spreadF_len (s : List Bool) (l : List Lk) : (spreadF s l).length = s.length := spreadN_len _ _ _
def aheadF (n : Nat) (l : List Lk) (i : Nat) : List Bool := spreadF (first1 i l (List.replicate n false)) l
def seenF (n : Nat) (l : List Lk) : List Bool := (List.range n).map fun i => gt (aheadF n l i) i
def roundF (n : Int) (l : List Lk) : List Int × Int := if rkC n l = 0 then (markL (seenF n.toNat l) 0, 0) else ([], rkC n l)
theorem rkC_in {n : Int} {l : List Lk} (h : rkC n l = 0) : (0 ≤ n ∧ n ≤ 64 ∧ l.length ≤ 256) ∧ inL n.toNat l := by
  unfold rkC at h
  split at h
  · cases h
  · split at h
    · cases h
    · split at h
      · rename_i h1 h2 h3
        refine ⟨by omega, fun e he => ?_⟩
        have := List.all_eq_true.1 h3 e he
        simp only [inR, Bool.and_eq_true, decide_eq_true_eq] at this
        omega
      · cases h
theorem rep_bRow (n : Nat) (b : Bool) : List.replicate n [D.sc (.bool b)] = (List.replicate n b).map bRow := by rw [List.map_replicate]; rfl
attribute [go_sem] rep_bRow List.length_replicate
theorem ext_gt {s t : List Bool} (h : s.length = t.length) (hg : ∀ j, j < s.length → gt s j = gt t j) : s = t := by
  apply List.ext_getElem h
  intro j h1 h2
  have := hg j h1
  simpa [gt, List.getD, h1, h2] using this
theorem gt_set (s : List Bool) (i j : Nat) (b : Bool) (h : i < s.length) : gt (s.set i b) j = if i = j then b else gt s j := by
  unfold gt
  rw [List.getD_eq_getElem?_getD, List.getElem?_set, List.getD_eq_getElem?_getD]
  split
  · rename_i e; subst e; simp [h]
  · rfl
theorem spread_okn (n : Nat) (s : List Bool) (l : List Lk) (hn : s.length = n) (hs : n ≤ 100000) (hl : inL n l) (hll : l.length ≤ 100000) : AFn env 68 [Own n, aF (l.map Lk.row)] [RwO s] (.tup []) [RwO (spreadF s l)] := by
  subst hn; exact spread_ok s l hs hl hll
theorem first1_nil (i : Int) (s : List Bool) : first1 i [] s = s := rfl
theorem first1_t {i : Int} {l : List Lk} {j : Nat} {s : List Bool} (h : j < l.length) (he : (gt l j).src = i) : first1 i (l.drop j) s = first1 i (l.drop (j + 1)) (s.set (gt l j).dst.toNat true) := by rw [drop_gt (l := l) h, first1, if_pos he]
theorem first1_f {i : Int} {l : List Lk} {j : Nat} {s : List Bool} (h : j < l.length) (he : ¬ (gt l j).src = i) : first1 i (l.drop j) s = first1 i (l.drop (j + 1)) s := by rw [drop_gt (l := l) h, first1, if_neg he]
theorem round_ok (n : Nat) (l : List Lk) : AFn env 52 [aI n, aF (l.map Lk.row)] [] (.tup [aF ((roundF n l).1.map iRow), aI (roundF n l).2]) [] := by
  have hf : rkC n l = 0 → n ≤ 64 ∧ l.length ≤ 256 := fun h => by have := rkC_in h; omega
  refine afn_body Tryd.func52 rfl (by decide) ?_
  simp only [Tryd.ntmps52, Tryd.results52, List.length_cons, List.length_nil, List.cons_append, List.nil_append, Nat.reduceAdd, Nat.reduceSub, List.replicate]
  repeat' first
  | ((with_reducible refine awp_seqQ ?_); intro _ _)
  | ((with_reducible refine awp_region ?_); refine zS ?_)
  | ((with_reducible refine AWP_c ?_); refine zcdN ?_ ?_ <;> intro hb hb2 <;> first | contradiction | (exfalso; omega) | ((try refine zH hb2 ?_); try clear hb2))
  | ((with_reducible refine awp_skip ?_); try refine zS ?_)
  | with_reducible refine awp_block ?_
  | ((with_reducible refine CallK_id ?_); refine zcF ?_; refine ⟨_, by first | exact rkC_ok n l | fail, fun _ => rfl, fun _ => rfl, rfl, ?_⟩; try refine zS ?_)
  | ((with_reducible refine awp_ret ?_); refine q_step (by assumption) ?_)
  | with_reducible refine fin_r ?_
  | ((with_reducible refine q_step (by assumption) ?_); try refine zS ?_)
  · rw [roundF, if_neg ‹_›]; rfl
  have hr0 : rkC n l = 0 := ‹_›
  have hin : inL n l := by have := (rkC_in hr0).2; rwa [Int.toNat_natCast] at this
  have hsl : (seenF n l).length = n := by simp [seenF]
  refine awp_loopT (fun z : Nat × List Bool => z.1 ≤ n ∧ z.2.length = n ∧ ∀ j, j < z.1 → gt z.2 j = gt (seenF n l) j) (fun z => n - z.1) (fun z => [(21, aI z.1)]) (fun z => [RwO z.2]) (0, List.replicate n false) ⟨by simp, by simp, by simp⟩ (by exact zwl) ?_
  rintro ⟨i, sn⟩ ⟨h1, h2, h3⟩
  simp only at h1 h2 h3
  refine zT ?_
  repeat' first
  | ((with_reducible refine awp_seqQ ?_); intro _ _)
  | ((with_reducible refine awp_region ?_); refine zS ?_)
  | ((with_reducible refine AWP_c ?_); refine zcdD ?_ ?_ <;> intro hb hb2 <;> first | contradiction | (exfalso; omega) | ((try refine zH hb2 ?_); try clear hb2))
  | ((with_reducible refine awp_skip ?_); try refine zS ?_)
  | with_reducible refine awp_block ?_
  | ((with_reducible refine awp_exit ?_); try refine zS ?_)
  | ((with_reducible refine CallK_id ?_); refine zcF ?_; refine ⟨_, by first | exact mark_ok sn (by omega) | fail, fun _ => rfl, fun _ => rfl, rfl, ?_⟩; try refine zS ?_)
  | ((with_reducible refine awp_ret ?_); refine q_step (by assumption) ?_)
  | with_reducible refine fin_r ?_
  | ((with_reducible refine q_step (by assumption) ?_); try refine zS ?_)
  rotate_left
  · have hi : i = n := by omega
    have : sn = seenF n l := ext_gt (by rw [hsl]; exact h2) (fun j hj => h3 j (by omega))
    rw [roundF, if_pos hr0, this, Int.toNat_natCast]
  refine awp_loopT (fun z : Nat × List Bool => z.1 ≤ l.length ∧ z.2.length = n ∧ first1 i l (List.replicate n false) = first1 i (l.drop z.1) z.2) (fun z => l.length - z.1) (fun z => [(28, aI z.1)]) (fun z => [RwO sn, RwO z.2]) (0, List.replicate n false) ⟨by simp, by simp, rfl⟩ (by exact zwl) ?_
  rintro ⟨j, s⟩ ⟨g1, g2, g3⟩
  simp only at g1 g2 g3
  have hR : j < l.length → 0 ≤ (gt l j).src ∧ (gt l j).src < n ∧ 0 ≤ (gt l j).dst ∧ (gt l j).dst < n := fun h => hin _ (gt_mem h)
  have hS := spreadF_len s l
  refine zT ?_
  repeat' first
  | ((with_reducible refine awp_seqQ ?_); intro _ _)
  | ((with_reducible refine awp_region ?_); refine zS ?_)
  | ((with_reducible refine AWP_c ?_); refine zcdD ?_ ?_ <;> intro hb hb2 <;> first | contradiction | (exfalso; omega) | ((try refine zH hb2 ?_); try clear hb2))
  | ((with_reducible refine awp_skip ?_); try refine zS ?_)
  | with_reducible refine awp_block ?_
  | ((with_reducible refine awp_exit ?_); try refine zS ?_)
  | ((with_reducible refine CallK_id ?_); refine zcT [1] ?_; refine ⟨_, _, by first | exact spread_okn n s l g2 (by omega) hin (by omega) | fail, ?_⟩; try refine zS ?_)
  | ((with_reducible refine q_step (by assumption) ?_); try refine zS ?_)
  · exact ⟨(j + 1, s.set (gt l j).dst.toNat true), ⟨by simp only; omega, by simpa using g2, by rw [g3, first1_t (by omega) ‹_›]⟩, by simp only; omega, (by exact zwc 2)⟩
  · exact ⟨(j + 1, s), ⟨by simp only; omega, g2, by rw [g3, first1_f (by omega) ‹_›]⟩, by simp only; omega, (by exact zwc 2)⟩
  have hs : first1 i l (List.replicate n false) = s := by rw [g3, List.drop_eq_nil_of_le (by omega), first1_nil]
  have ha : aheadF n l i = spreadF s l := by rw [aheadF, hs]
  refine ⟨(i + 1, sn.set i (gt (spreadF s l) i)), ⟨by simp only; omega, by simpa using h2, fun k hk => ?_⟩, by simp only; omega, (by exact zwc 1)⟩
  simp only at hk ⊢
  rw [gt_set _ _ _ _ (by omega)]
  by_cases e : i = k
  · subst e
    rw [if_pos rfl, seenF, ← ha]
    simp [gt, List.getD, show i < n by omega]
  · rw [if_neg e]; exact h3 k (by omega)
end Go.Eng
open Go Go.Proofs
namespace Go.Eng
set_option linter.unusedSimpArgs false
set_option linter.unusedVariables false
set_option maxRecDepth 10000
set_option maxHeartbeats 8000000
def freeE (t : List Bool) (i : Nat) (e : Lk) : Bool := !decide (e.dst = i) || gb t e.src
def freeF (t : List Bool) (l : List Lk) (i : Nat) : Bool := !gt t i && l.all (freeE t i)
def orderN (n : Nat) (l : List Lk) : Nat → List Int → List Bool → List Int
  | 0, o, _ => o
  | k + 1, o, t => match (List.range n).find? (freeF t l) with | none => o | some i => orderN n l k (o ++ [(i : Int)]) (t.set i true)
def orderF (n : Nat) (l : List Lk) : List Int := orderN n l (cf (List.replicate n false)) [] (List.replicate n false)
def ordF (n : Nat) (l : List Lk) : List Int × Int := if (roundF n l).2 ≠ 0 then ([], (roundF n l).2) else if (roundF n l).1.length > 0 then ([], 7) else (orderF n l, 0)
theorem cf_le : ∀ t : List Bool, cf t ≤ t.length
  | [] => by simp [cf]
  | b :: l => by have := cf_le l; simp only [cf, List.length_cons]; split <;> omega
theorem cf_rep : ∀ n, cf (List.replicate n false) = n
  | 0 => rfl
  | n + 1 => by rw [List.replicate_succ, cf, cf_rep n]; simp; omega
def Acy (n : Nat) (l : List Lk) : Prop := ∀ t : List Bool, t.length = n → 0 < cf t → ∃ i, i < n ∧ freeF t l i = true
theorem find_least {n : Nat} {p : Nat → Bool} {i : Nat} (hi : i < n) (hp : p i = true) (hn : ∀ j, j < i → p j = false) : (List.range n).find? p = some i := by
  rw [List.find?_range_eq_some]
  exact ⟨hp, by simpa using hi, fun j hj => by simp [hn j hj]⟩
theorem free_no {t : List Bool} {l : List Lk} {i j : Nat} (h : j < l.length) (he : freeE t i (gt l j) = false) : freeF t l i = false := by
  unfold freeF
  rw [Bool.and_eq_false_iff]
  right
  rw [List.all_eq_false]
  exact ⟨_, gt_mem h, by simp [he]⟩
theorem free_yes {t : List Bool} {l : List Lk} {i : Nat} (h : gt t i = false) (he : ∀ k, k < l.length → freeE t i (gt l k) = true) : freeF t l i = true := by
  unfold freeF
  rw [h, List.all_eq_true.2 (fun e hm => by
    obtain ⟨k, hk, rfl⟩ := List.getElem_of_mem hm
    have := he k hk
    simpa [gt, List.getD, hk] using this)]
  rfl
theorem upto {p : Nat → Prop} {i : Nat} (h : ∀ j, j < i → p j) (hi : p i) : ∀ j, j < i + 1 → p j := fun j hj => by
  rcases Nat.lt_or_ge j i with h' | h'
  · exact h j h'
  · obtain rfl : j = i := by omega
    exact hi
theorem order_ok (n : Nat) (l : List Lk) (hac : (roundF n l).2 = 0 → (roundF n l).1.length = 0 → Acy n l) : AFn env 48 [aI n, aF (l.map Lk.row)] [] (.tup [aF ((ordF n l).1.map iRow), aI (ordF n l).2]) [] := by
  have hf : (roundF n l).2 = 0 → n ≤ 64 ∧ l.length ≤ 256 := fun h => by
    unfold roundF at h
    split at h
    · rename_i h2; have := rkC_in h2; omega
    · exact absurd h ‹_›
  have hin : (roundF n l).2 = 0 → inL n l := fun h => by
    unfold roundF at h
    split at h
    · rename_i h2; have := (rkC_in h2).2; rwa [Int.toNat_natCast] at this
    · exact absurd h ‹_›
  refine afn_body Tryd.func48 rfl (by decide) ?_
  simp only [Tryd.ntmps48, Tryd.results48, List.length_cons, List.length_nil, List.cons_append, List.nil_append, Nat.reduceAdd, Nat.reduceSub, List.replicate]
  repeat' first
  | ((with_reducible refine awp_seqQ ?_); intro _ _)
  | ((with_reducible refine awp_region ?_); refine zS ?_)
  | ((with_reducible refine AWP_c ?_); refine zcdN ?_ ?_ <;> intro hb hb2 <;> first | contradiction | (exfalso; omega) | ((try refine zH hb2 ?_); try clear hb2))
  | ((with_reducible refine AWP_c ?_); refine zcdD ?_ ?_ <;> intro hb hb2 <;> first | contradiction | (exfalso; omega) | ((try refine zH hb2 ?_); try clear hb2))
  | ((with_reducible refine awp_skip ?_); try refine zS ?_)
  | with_reducible refine awp_block ?_
  | ((with_reducible refine CallK_id ?_); refine zcF ?_; refine ⟨_, by first | exact round_ok n l | fail, fun _ => rfl, fun _ => rfl, rfl, ?_⟩; try refine zS ?_)
  | ((with_reducible refine awp_label ?_); try refine zS ?_)
  | ((with_reducible refine awp_scope0 ?_); try refine zS ?_)
  | ((with_reducible refine awp_ret ?_); refine q_step (by assumption) ?_)
  | with_reducible refine fin_r ?_
  | ((with_reducible refine q_step (by assumption) ?_); try refine zS ?_)
  · rw [ordF, if_pos ‹_›]; rfl
  · rw [ordF, if_neg (by simp [*]), if_pos (by omega)]; rfl
  have hq : (roundF n l).2 = 0 := ‹_›
  have hq2 : (roundF n l).1.length = 0 := by omega
  have ha := hac hq hq2
  have hl := hin hq
  have hord : ordF n l = (orderF n l, 0) := by rw [ordF, if_neg (by simp [hq]), if_neg (by omega)]
  refine awp_wk (wk_virt none (i := 9) (s := 1) (by decide) rfl) ?_
  refine zT ?_
  refine awp_loopT (fun z : List Int × List Bool => z.2.length = n ∧ z.1.length + cf z.2 = n ∧ orderN n l (cf z.2) z.1 z.2 = orderF n l) (fun z => cf z.2) (fun z => [(9, Own1 z.1.length), (13, .any), (16, .any)]) (fun z => [RwO z.2, RwZ z.1]) ([], List.replicate n false) ⟨by simp, by simp [cf_rep], by simp [orderF]⟩ (by exact zwl) ?_
  rintro ⟨o, t⟩ ⟨h1, h2, h3⟩
  simp only at h1 h2 h3
  refine zT ?_
  repeat' first
  | ((with_reducible refine awp_seqQ ?_); intro _ _)
  | ((with_reducible refine awp_region ?_); refine zS ?_)
  | ((with_reducible refine AWP_c ?_); refine zcdD ?_ ?_ <;> intro hb hb2 <;> first | contradiction | (exfalso; omega) | ((try refine zH hb2 ?_); try clear hb2))
  | ((with_reducible refine awp_skip ?_); try refine zS ?_)
  | with_reducible refine awp_block ?_
  | ((with_reducible refine awp_exit ?_); try refine zS ?_)
  | ((with_reducible refine awp_label ?_); try refine zS ?_)
  | ((with_reducible refine awp_scope0 ?_); try refine zS ?_)
  | ((with_reducible refine awp_ret ?_); refine q_step (by assumption) ?_)
  | ((with_reducible refine q_step (by assumption) ?_); try refine zS ?_)
  rotate_left
  · have hz : cf t = 0 := by omega
    rw [hz, orderN] at h3
    refine fin_r (r0 := .tup [aF (o.map iRow), aI 0]) (H1 := [RwO t, none]) ?_ (h2 := by simp only [go_sem, Bool.not_not, List.mem_singleton, forall_eq, ↓reduceIte, if_pos, rowsAt_map, wrap64, wrapu8, List.getElem?_cons_zero, List.getElem?_cons_succ, Int.reduceToNat, Nat.reduceAdd, Nat.reduceBEq, Bool.or_false, Bool.false_or, Bool.true_or, Nat.reduceSub, Nat.reduceMul, Int.reduceAdd, Int.reduceEq, Int.reduceLT, Int.reduceLE, Int.reduceNeg, Nat.reduceLT, Nat.reduceLeDiff, Nat.reduceEqDiff, frA, frAs, subR, Nat.le_refl, and_self]; try rfl)
    rw [hord, h3]; rfl
  obtain ⟨x, hx, hfx⟩ := ha t h1 (by omega)
  refine awp_loopT (fun i : Nat => i ≤ n ∧ ∀ j, j < i → freeF t l j = false) (fun i => n - i) (fun i => [(9, Own1 o.length), (34, aI i)]) (fun _ => [RwO t, RwZ o]) 0 ⟨by omega, fun j h => by omega⟩ (by exact zwl) ?_
  rintro i ⟨g1, g2⟩
  refine zT ?_
  repeat' first
  | ((with_reducible refine awp_seqQ ?_); intro _ _)
  | ((with_reducible refine awp_region ?_); refine zS ?_)
  | ((with_reducible refine AWP_c ?_); refine zcdD ?_ ?_ <;> intro hb hb2 <;> first | contradiction | (exfalso; omega) | ((try refine zH hb2 ?_); try clear hb2))
  | ((with_reducible refine AWP_c ?_); refine zcdB ?_ ?_ <;> intro hb <;> first | contradiction | (try refine zH hb ?_))
  | ((with_reducible refine awp_skip ?_); try refine zS ?_)
  | with_reducible refine awp_block ?_
  | ((with_reducible refine awp_exit ?_); try refine zS ?_)
  | ((with_reducible refine q_step (by assumption) ?_); try refine zS ?_)
  · exact ⟨i + 1, ⟨by omega, upto g2 (by simp [freeF, hb])⟩, by omega, (by exact zwc 2)⟩
  rotate_left
  · exfalso
    have := g2 x (by omega)
    rw [hfx] at this
    cases this
  have hti : gt t i = false := ‹_›
  refine awp_loopT (fun j : Nat => j ≤ l.length ∧ ∀ k, k < j → freeE t i (gt l k) = true) (fun j => l.length - j) (fun j => [(43, aI j)]) (fun _ => [RwO t, RwZ o]) 0 ⟨by omega, fun j h => by omega⟩ (by exact zwl) ?_
  rintro j ⟨k1, k2⟩
  have hR : j < l.length → 0 ≤ (gt l j).src ∧ (gt l j).src < n ∧ 0 ≤ (gt l j).dst ∧ (gt l j).dst < n := fun h => hl _ (gt_mem h)
  refine zT ?_
  repeat' first
  | ((with_reducible refine awp_seqQ ?_); intro _ _)
  | ((with_reducible refine awp_region ?_); refine zS ?_)
  | ((with_reducible refine Gd_d ?_ ?_) <;> intro hb hb2 <;> first | contradiction | (exfalso; omega) | (refine zH hb2 ?_; try clear hb2))
  | ((with_reducible refine AWP_c ?_); refine zcdF ?_)
  | ((with_reducible refine AWP_c ?_); refine zcdD ?_ ?_ <;> intro hb hb2 <;> first | contradiction | (exfalso; omega) | ((try refine zH hb2 ?_); try clear hb2))
  | ((with_reducible refine AWP_c ?_); refine zcdM ?_ ?_ <;> intro hb <;> first | contradiction | (try refine zH hb ?_))
  | ((with_reducible refine awp_skip ?_); try refine zS ?_)
  | with_reducible refine awp_block ?_
  | ((with_reducible refine awp_exit ?_); try refine zS ?_)
  | ((with_reducible refine q_step (by assumption) ?_); try refine zS ?_)
  · exact ⟨i + 1, ⟨by omega, upto g2 (free_no (j := j) (by omega) (by simp [freeE, gb, *]))⟩, by omega, (by exact zwc 2)⟩
  · exact ⟨j + 1, ⟨by omega, upto k2 (by simp [freeE, gb, *])⟩, by omega, (by exact zwc 2)⟩
  · exact ⟨j + 1, ⟨by omega, upto k2 (by simp [freeE, gb, *])⟩, by omega, (by exact zwc 2)⟩
  have hfi : freeF t l i = true := free_yes hti (fun k hk => k2 k (by omega))
  have hfd : (List.range n).find? (freeF t l) = some i := find_least (by omega) hfi g2
  have hc := cf_set (s := t) (j := i) (by omega) hti
  rw [← hc, orderN, hfd] at h3
  exact ⟨(o ++ [(i : Int)], t.set i true), ⟨by simpa using h1, by simp only [List.length_append, List.length_cons, List.length_nil]; omega, h3⟩, by simp only; omega, wk_cl 2 (by decide) (by simp) (by simp only [go_sem, Bool.not_not, List.mem_singleton, forall_eq, ↓reduceIte, if_pos, rowsAt_map, wrap64, wrapu8, List.getElem?_cons_zero, List.getElem?_cons_succ, Int.reduceToNat, Nat.reduceAdd, Nat.reduceBEq, Bool.or_false, Bool.false_or, Bool.true_or, Nat.reduceSub, Nat.reduceMul, Int.reduceAdd, Int.reduceEq, Int.reduceLT, Int.reduceLE, Int.reduceNeg, Nat.reduceLT, Nat.reduceLeDiff, Nat.reduceEqDiff]; try simp) (by simp only [go_sem, Bool.not_not, List.mem_singleton, forall_eq, ↓reduceIte, if_pos, rowsAt_map, wrap64, wrapu8, List.getElem?_cons_zero, List.getElem?_cons_succ, Int.reduceToNat, Nat.reduceAdd, Nat.reduceBEq, Bool.or_false, Bool.false_or, Bool.true_or, Nat.reduceSub, Nat.reduceMul, Int.reduceAdd, Int.reduceEq, Int.reduceLT, Int.reduceLE, Int.reduceNeg, Nat.reduceLT, Nat.reduceLeDiff, Nat.reduceEqDiff, List.map_append]; try simp [go_sem])⟩
end Go.Eng
open Go Go.Proofs
namespace Go.Eng
set_option linter.unusedSimpArgs false
set_option linter.unusedVariables false
theorem gt_lt {s : List Bool} {k : Nat} (h : gt s k = true) : k < s.length := by
  rcases Nat.lt_or_ge k s.length with h' | h'
  · exact h'
  · rw [show gt s k = false by simp [gt, List.getD, h']] at h; cases h
theorem gt_mono (s : List Bool) (j k : Nat) (h : gt s k = true) : gt (s.set j true) k = true := by
  by_cases hj : j < s.length
  · rw [gt_set _ _ _ _ hj]; split <;> simp [h]
  · rw [List.set_eq_of_length_le (by omega)]; exact h
theorem spreadN_mono : ∀ (n : Nat) (s : List Bool) (l : List Lk) (k : Nat), gt s k = true → gt (spreadN n s l) k = true
  | 0, s, l, k, h => h
  | n + 1, s, l, k, h => by
    rw [spreadN]
    split
    · exact h
    · exact spreadN_mono n _ l k (gt_mono _ _ _ h)
theorem spreadN_closed {l : List Lk} : ∀ (n : Nat) (s : List Bool), inL s.length l → cf s ≤ n → l.find? (hot (spreadN n s l)) = none
  | 0, s, hl, hc => by
    rw [spreadN]
    cases h : l.find? (hot s) with
    | none => rfl
    | some e => have := (spread_some hl h).2; omega
  | n + 1, s, hl, hc => by
    rw [spreadN]
    cases h : l.find? (hot s) with
    | none => simp [h]
    | some e =>
      have h2 := (spread_some hl h).2
      exact spreadN_closed n _ (by simpa using hl) (by omega)
theorem spread_closed {l : List Lk} {s : List Bool} (hl : inL s.length l) {e : Lk} (he : e ∈ l) (h : gb (spreadF s l) e.src = true) : gb (spreadF s l) e.dst = true := by
  have := spreadN_closed (cf s) s hl (Nat.le_refl _)
  rw [List.find?_eq_none] at this
  have := this e he
  unfold hot at this
  rw [show gb (spreadN (cf s) s l) e.src = true from h] at this
  simpa [spreadF] using this
theorem first1_mono (i : Int) : ∀ (l : List Lk) (s : List Bool) (k : Nat), gt s k = true → gt (first1 i l s) k = true
  | [], s, k, h => h
  | e :: l, s, k, h => by
    rw [first1]
    split
    · exact first1_mono i l _ k (gt_mono _ _ _ h)
    · exact first1_mono i l _ k h
theorem first1_seed (i : Int) : ∀ (l : List Lk) (s : List Bool), inL s.length l → ∀ e ∈ l, e.src = i → gb (first1 i l s) e.dst = true
  | [], s, _, e, h, _ => by simp at h
  | x :: l, s, hl, e, h, he => by
    rw [first1]
    have hx := hl x (by simp)
    rcases List.mem_cons.1 h with rfl | h
    · rw [if_pos he]
      exact first1_mono i l _ _ (by rw [gt_set _ _ _ _ (by omega), if_pos rfl])
    · refine first1_seed i l _ (fun y hy => ?_) e h he
      have := hl y (by simp [hy])
      split <;> simpa using this
def run (l : List Lk) (y x : Int) : Prop := ∀ u : Int → Prop, (∀ e ∈ l, u e.src → u e.dst) → (∀ e ∈ l, e.src = y → u e.dst) → u x
theorem run_trans {l : List Lk} {a b c : Int} (h : run l a b) (g : run l b c) : run l a c := fun u hu hs => g u hu fun e he hb => hu e he (by rw [hb]; exact h u hu hs)
theorem run_edge {l : List Lk} {e : Lk} (h : e ∈ l) : run l e.src e.dst := fun u hu hs => hs e h rfl
theorem run_ahead {n : Nat} {l : List Lk} (hl : inL n l) {i : Nat} {x : Int} (h : run l i x) : gb (aheadF n l i) x = true := by
  have hlen : (first1 i l (List.replicate n false)).length = n := by rw [first1_len]; simp
  refine h (fun k => gb (aheadF n l i) k = true) (fun e he hs => spread_closed (by rw [hlen]; exact hl) he hs) (fun e he hs => ?_)
  exact spreadN_mono _ _ _ _ (first1_seed _ _ _ (by simpa using hl) e he hs)
theorem markL_nil : ∀ (s : List Bool) (i : Nat), (markL s i).length = 0 → ∀ k, gt s k = false
  | [], i, _, k => by simp [gt]
  | b :: l, i, h, k => by
    rw [markL] at h
    split at h
    · simp at h
    · rename_i hb
      cases k with
      | zero => simpa [gt] using hb
      | succ k => have := markL_nil l (i + 1) h k; simpa [gt, List.getD] using this
theorem no_round {n : Nat} {l : List Lk} (h0 : (roundF n l).2 = 0) (h : (roundF n l).1.length = 0) : inL n l ∧ ∀ i : Nat, i < n → ¬ run l i i := by
  unfold roundF at h0 h
  split at h0
  · rename_i hr
    rw [if_pos hr, Int.toNat_natCast] at h
    have hl := (rkC_in hr).2
    rw [Int.toNat_natCast] at hl
    refine ⟨hl, fun i hi hrun => ?_⟩
    have h1 := run_ahead hl hrun
    have h2 := markL_nil _ _ h i
    rw [show gt (seenF n l) i = gt (aheadF n l i) i by simp [seenF, gt, List.getD, hi]] at h2
    rw [show gb (aheadF n l i) i = gt (aheadF n l i) i by simp [gb]] at h1
    rw [h1] at h2; cases h2
  · exact absurd h0 ‹_›
theorem leastR {α : Type} (R : α → α → Prop) (tr : ∀ a b c, R a b → R b c → R a c) : ∀ L : List α, (∀ a ∈ L, ¬ R a a) → L ≠ [] → ∃ m ∈ L, ∀ y ∈ L, ¬ R y m
  | [], _, h => absurd rfl h
  | [a], hr, _ => ⟨a, by simp, fun y hy => by simp at hy; subst hy; exact hr _ (by simp)⟩
  | a :: b :: L, hr, _ => by
    obtain ⟨m, hm, hy⟩ := leastR R tr (b :: L) (fun x hx => hr x (by simp [List.mem_cons.1 hx])) (by simp)
    by_cases h : R a m
    · refine ⟨a, by simp, fun y hy' => ?_⟩
      rcases List.mem_cons.1 hy' with rfl | hy'
      · exact hr _ (by simp)
      · exact fun hya => hy y hy' (tr _ _ _ hya h)
    · refine ⟨m, by simp [List.mem_cons.1 hm], fun y hy' => ?_⟩
      rcases List.mem_cons.1 hy' with rfl | hy'
      · exact h
      · exact hy y hy'
theorem cf_pos : ∀ {t : List Bool}, 0 < cf t → ∃ i, i < t.length ∧ gt t i = false
  | [], h => by simp [cf] at h
  | b :: l, h => by
    cases b with
    | false => exact ⟨0, by simp, rfl⟩
    | true =>
      obtain ⟨i, hi, hg⟩ := cf_pos (t := l) (by simpa [cf] using h)
      exact ⟨i + 1, by simpa using hi, by simpa [gt, List.getD] using hg⟩
theorem acyclic {n : Nat} {l : List Lk} (h0 : (roundF n l).2 = 0) (h : (roundF n l).1.length = 0) : Acy n l := by
  obtain ⟨hl, hr⟩ := no_round h0 h
  intro t ht hc
  obtain ⟨i0, hi0, hg0⟩ := cf_pos hc
  let U := (List.range n).filter fun i => !gt t i
  have hU : ∀ i, i ∈ U ↔ i < n ∧ gt t i = false := fun i => by simp [U]
  obtain ⟨m, hm, hy⟩ := leastR (fun a b : Nat => run l a b) (fun a b c h g => run_trans h g) U (fun a ha => hr a ((hU a).1 ha).1) (by
    intro e
    have := (hU i0).2 ⟨by omega, hg0⟩
    rw [e] at this; cases this)
  obtain ⟨hmn, hmt⟩ := (hU m).1 hm
  refine ⟨m, hmn, ?_⟩
  unfold freeF
  rw [hmt, List.all_eq_true.2 (fun e he => ?_)]
  · rfl
  · unfold freeE
    by_cases hd : e.dst = m
    · have hb := hl e he
      have hs : gb t e.src = true := by
        cases hg : gb t e.src with
        | true => rfl
        | false =>
          exfalso
          refine hy e.src.toNat ((hU _).2 ⟨by omega, hg⟩) ?_
          have := run_edge he
          rw [hd] at this
          rwa [show ((e.src.toNat : Nat) : Int) = e.src by omega]
      simp [hs]
    · simp [hd]
end Go.Eng
