/- Each function of the program, walked over plain data: what it comes to, at all arguments. -/
import Derived.Test.YtjegmlclpecpdaaGreatDoorMb
import Derived.Test.YtjegmlclpecpdaaGreatDoorMa
import Derived.Test.YtjegmlclpecpdaaGreatDoorEc
import Derived.Test.YtjegmlclpecpdaaGreatDoorRows
open Go Go.Proofs
namespace Go.Eng
set_option linter.unusedSimpArgs false
set_option linter.unusedVariables false
set_option maxRecDepth 10000
set_option maxHeartbeats 8000000
def aS (s : List UInt8) : A := .c (.d (.sc (.string (st s))))
def aU (c : Int) : A := .c (.d (.sc (.int .u8 c)))
attribute [go_sem] aS aU
theorem B.count_eq (b : B) : b.count = B.counts b.kids + 1 := by cases b; rfl
theorem counts_drop {l : List B} {i : Nat} (h : i < l.length) : B.counts (l.drop i) = (gt l i).count + B.counts (l.drop (i + 1)) := by rw [drop_gt h, B.counts]
theorem rSize_ok (b : B) (hs : b.size ≤ 1000000) : AFn env 10 [b.a] [] (aI b.count) [] := by
  generalize hn : b.size = n
  induction n using Nat.strongRecOn generalizing b with
  | _ n ih0 =>
    have ih : ∀ k : B, k.size < b.size → AFn env 10 [k.a] [] (aI k.count) [] := fun k h => ih0 k.size (by omega) k (by omega) rfl
    have hz := b.size_eq
    have l2 := B.len_le b.kids
    have hd := b.count_le
    refine afn_body Tryz.func10 rfl (by decide) ?_
    simp only [Tryz.ntmps10, Tryz.results10, List.length_cons, List.length_nil, List.cons_append, List.nil_append, Nat.reduceAdd, Nat.reduceSub, List.replicate]
    repeat' first
    | with_reducible refine awp_seq ?_
    | ((with_reducible refine awp_region ?_); refine zS ?_)
    | with_reducible refine awp_block ?_
    refine awp_loopT (fun s : Nat × Nat => s.1 ≤ b.kids.length ∧ s.2 + B.counts (b.kids.drop s.1) = b.count) (fun s => b.kids.length - s.1) (fun s => [(3, aI s.2), (9, aI s.1)]) (fun s => [some (.box b.bs)]) (0, 1) ⟨by simp, by rw [b.count_eq]; simp; omega⟩ (wk_le (by simp only [go_sem, Bool.not_not, List.mem_singleton, forall_eq, ↓reduceIte, if_pos, rowsAt_map, wrap64, wrapu8, List.getElem?_cons_zero, List.getElem?_cons_succ, Int.reduceToNat, Nat.reduceAdd, Nat.reduceBEq, Bool.or_false, Bool.false_or, Bool.true_or, Nat.reduceSub, Nat.reduceMul, Int.reduceAdd, Int.reduceEq, Int.reduceLT, Int.reduceLE, Int.reduceNeg, Nat.reduceLT, Nat.reduceLeDiff, Nat.reduceEqDiff]; simp) (by simp only [go_sem, Bool.not_not, List.mem_singleton, forall_eq, ↓reduceIte, if_pos, rowsAt_map, wrap64, wrapu8, List.getElem?_cons_zero, List.getElem?_cons_succ, Int.reduceToNat, Nat.reduceAdd, Nat.reduceBEq, Bool.or_false, Bool.false_or, Bool.true_or, Nat.reduceSub, Nat.reduceMul, Int.reduceAdd, Int.reduceEq, Int.reduceLT, Int.reduceLE, Int.reduceNeg, Nat.reduceLT, Nat.reduceLeDiff, Nat.reduceEqDiff, B.bs])) ?_
    rintro ⟨i, m⟩ ⟨h1, h2⟩
    simp only at h1 h2
    have hc : i < b.kids.length → m + (gt b.kids i).count ≤ b.count := fun h => by rw [counts_drop h] at h2; omega
    simp only [go_sem, Bool.not_not, List.mem_singleton, forall_eq, ↓reduceIte, if_pos, rowsAt_map, wrap64, wrapu8, List.getElem?_cons_zero, List.getElem?_cons_succ, Int.reduceToNat, Nat.reduceAdd, Nat.reduceBEq, Bool.or_false, Bool.false_or, Bool.true_or, Nat.reduceSub, Nat.reduceMul, Int.reduceAdd, Int.reduceEq, Int.reduceLT, Int.reduceLE, Int.reduceNeg, Nat.reduceLT, Nat.reduceLeDiff, Nat.reduceEqDiff, B.bs]
    repeat' first
    | with_reducible refine awp_seq ?_
    | ((with_reducible refine awp_region ?_); refine zS ?_)
    | ((with_reducible refine AWP_c ?_); refine zcdD ?_ ?_ <;> intro hb hb2 <;> first | contradiction | (exfalso; omega) | ((try refine zH hb2 ?_); try clear hb2))
    | ((with_reducible refine awp_ret ?_); refine fin_r ?_)
    | ((with_reducible refine awp_skip ?_); refine zS ?_)
    | with_reducible refine awp_block ?_
    | ((with_reducible refine awp_exit ?_); refine zS ?_)
    | ((with_reducible refine CallK_id ?_); refine zcF ?_; refine ⟨_, by first | exact ih (gt b.kids i) (B.size_lt (gt_mem (by omega))) | fail, fun _ => rfl, fun _ => rfl, rfl, ?_⟩; try refine zS ?_)
    · have hi : i < b.kids.length := by omega
      rw [counts_drop hi] at h2
      exact ⟨(i + 1, m + (gt b.kids i).count), ⟨by simp only; omega, by simp only; omega⟩, by simp only; omega, wk_cl 1 (by decide) (by simp) (by simp only [go_sem, Bool.not_not, List.mem_singleton, forall_eq, ↓reduceIte, if_pos, rowsAt_map, wrap64, wrapu8, List.getElem?_cons_zero, List.getElem?_cons_succ, Int.reduceToNat, Nat.reduceAdd, Nat.reduceBEq, Bool.or_false, Bool.false_or, Bool.true_or, Nat.reduceSub, Nat.reduceMul, Int.reduceAdd, Int.reduceEq, Int.reduceLT, Int.reduceLE, Int.reduceNeg, Nat.reduceLT, Nat.reduceLeDiff, Nat.reduceEqDiff]; simp; try omega) (by simp only [go_sem, Bool.not_not, List.mem_singleton, forall_eq, ↓reduceIte, if_pos, rowsAt_map, wrap64, wrapu8, List.getElem?_cons_zero, List.getElem?_cons_succ, Int.reduceToNat, Nat.reduceAdd, Nat.reduceBEq, Bool.or_false, Bool.false_or, Bool.true_or, Nat.reduceSub, Nat.reduceMul, Int.reduceAdd, Int.reduceEq, Int.reduceLT, Int.reduceLE, Int.reduceNeg, Nat.reduceLT, Nat.reduceLeDiff, Nat.reduceEqDiff, B.bs])⟩
    rw [List.drop_eq_nil_of_le (by omega), B.counts] at h2
    rw [show m = b.count by omega]
theorem deeps_drop {l : List B} {i : Nat} (h : i < l.length) : deeps (l.drop i) = max (deepF (gt l i)) (deeps (l.drop (i + 1))) := by rw [drop_gt h, deeps]
theorem rDepth_ok (b : B) (hs : b.size ≤ 1000000) : AFn env 11 [b.a] [] (aI (deepF b)) [] := by
  generalize hn : b.size = n
  induction n using Nat.strongRecOn generalizing b with
  | _ n ih0 =>
    have ih : ∀ k : B, k.size < b.size → AFn env 11 [k.a] [] (aI (deepF k)) [] := fun k h => ih0 k.size (by omega) k (by omega) rfl
    have hz := b.size_eq
    have l2 := B.len_le b.kids
    have hd := deepF_le b
    refine afn_body Tryz.func11 rfl (by decide) ?_
    simp only [Tryz.ntmps11, Tryz.results11, List.length_cons, List.length_nil, List.cons_append, List.nil_append, Nat.reduceAdd, Nat.reduceSub, List.replicate]
    repeat' first
    | with_reducible refine awp_seq ?_
    | ((with_reducible refine awp_region ?_); refine zS ?_)
    | with_reducible refine awp_block ?_
    refine awp_loopT (fun s : Nat × Nat => s.1 ≤ b.kids.length ∧ max s.2 (deeps (b.kids.drop s.1)) + 1 = deepF b) (fun s => b.kids.length - s.1) (fun s => [(3, aI s.2), (10, aI s.1)]) (fun s => [some (.box b.bs)]) (0, 0) ⟨by simp, by rw [deepF_eq]; simp⟩ (wk_le (by simp only [go_sem, Bool.not_not, List.mem_singleton, forall_eq, ↓reduceIte, if_pos, rowsAt_map, wrap64, wrapu8, List.getElem?_cons_zero, List.getElem?_cons_succ, Int.reduceToNat, Nat.reduceAdd, Nat.reduceBEq, Bool.or_false, Bool.false_or, Bool.true_or, Nat.reduceSub, Nat.reduceMul, Int.reduceAdd, Int.reduceEq, Int.reduceLT, Int.reduceLE, Int.reduceNeg, Nat.reduceLT, Nat.reduceLeDiff, Nat.reduceEqDiff]; simp) (by simp only [go_sem, Bool.not_not, List.mem_singleton, forall_eq, ↓reduceIte, if_pos, rowsAt_map, wrap64, wrapu8, List.getElem?_cons_zero, List.getElem?_cons_succ, Int.reduceToNat, Nat.reduceAdd, Nat.reduceBEq, Bool.or_false, Bool.false_or, Bool.true_or, Nat.reduceSub, Nat.reduceMul, Int.reduceAdd, Int.reduceEq, Int.reduceLT, Int.reduceLE, Int.reduceNeg, Nat.reduceLT, Nat.reduceLeDiff, Nat.reduceEqDiff, B.bs])) ?_
    rintro ⟨i, m⟩ ⟨h1, h2⟩
    simp only at h1 h2
    simp only [go_sem, Bool.not_not, List.mem_singleton, forall_eq, ↓reduceIte, if_pos, rowsAt_map, wrap64, wrapu8, List.getElem?_cons_zero, List.getElem?_cons_succ, Int.reduceToNat, Nat.reduceAdd, Nat.reduceBEq, Bool.or_false, Bool.false_or, Bool.true_or, Nat.reduceSub, Nat.reduceMul, Int.reduceAdd, Int.reduceEq, Int.reduceLT, Int.reduceLE, Int.reduceNeg, Nat.reduceLT, Nat.reduceLeDiff, Nat.reduceEqDiff, B.bs]
    repeat' first
    | with_reducible refine awp_seq ?_
    | ((with_reducible refine awp_region ?_); refine zS ?_)
    | ((with_reducible refine AWP_c ?_); refine zcdD ?_ ?_ <;> intro hb hb2 <;> first | contradiction | (exfalso; omega) | ((try refine zH hb2 ?_); try clear hb2))
    | ((with_reducible refine awp_ret ?_); refine fin_r ?_)
    | ((with_reducible refine awp_skip ?_); refine zS ?_)
    | with_reducible refine awp_block ?_
    | ((with_reducible refine awp_exit ?_); refine zS ?_)
    | ((with_reducible refine CallK_id ?_); refine zcF ?_; refine ⟨_, by first | exact ih (gt b.kids i) (B.size_lt (gt_mem (by omega))) | fail, fun _ => rfl, fun _ => rfl, rfl, ?_⟩; try refine zS ?_)
    · have hi : i < b.kids.length := by omega
      rw [deeps_drop hi] at h2
      exact ⟨(i + 1, deepF (gt b.kids i)), ⟨by simp only; omega, by simp only; omega⟩, by simp only; omega, wk_cl 1 (by decide) (by simp) (by simp only [go_sem, Bool.not_not, List.mem_singleton, forall_eq, ↓reduceIte, if_pos, rowsAt_map, wrap64, wrapu8, List.getElem?_cons_zero, List.getElem?_cons_succ, Int.reduceToNat, Nat.reduceAdd, Nat.reduceBEq, Bool.or_false, Bool.false_or, Bool.true_or, Nat.reduceSub, Nat.reduceMul, Int.reduceAdd, Int.reduceEq, Int.reduceLT, Int.reduceLE, Int.reduceNeg, Nat.reduceLT, Nat.reduceLeDiff, Nat.reduceEqDiff]; simp; try omega) (by simp only [go_sem, Bool.not_not, List.mem_singleton, forall_eq, ↓reduceIte, if_pos, rowsAt_map, wrap64, wrapu8, List.getElem?_cons_zero, List.getElem?_cons_succ, Int.reduceToNat, Nat.reduceAdd, Nat.reduceBEq, Bool.or_false, Bool.false_or, Bool.true_or, Nat.reduceSub, Nat.reduceMul, Int.reduceAdd, Int.reduceEq, Int.reduceLT, Int.reduceLE, Int.reduceNeg, Nat.reduceLT, Nat.reduceLeDiff, Nat.reduceEqDiff, B.bs])⟩
    · have hi : i < b.kids.length := by omega
      rw [deeps_drop hi] at h2
      exact ⟨(i + 1, m), ⟨by simp only; omega, by simp only; omega⟩, by simp only; omega, wk_cl 1 (by decide) (by simp) (by simp only [go_sem, Bool.not_not, List.mem_singleton, forall_eq, ↓reduceIte, if_pos, rowsAt_map, wrap64, wrapu8, List.getElem?_cons_zero, List.getElem?_cons_succ, Int.reduceToNat, Nat.reduceAdd, Nat.reduceBEq, Bool.or_false, Bool.false_or, Bool.true_or, Nat.reduceSub, Nat.reduceMul, Int.reduceAdd, Int.reduceEq, Int.reduceLT, Int.reduceLE, Int.reduceNeg, Nat.reduceLT, Nat.reduceLeDiff, Nat.reduceEqDiff]; simp; try omega) (by simp only [go_sem, Bool.not_not, List.mem_singleton, forall_eq, ↓reduceIte, if_pos, rowsAt_map, wrap64, wrapu8, List.getElem?_cons_zero, List.getElem?_cons_succ, Int.reduceToNat, Nat.reduceAdd, Nat.reduceBEq, Bool.or_false, Bool.false_or, Bool.true_or, Nat.reduceSub, Nat.reduceMul, Int.reduceAdd, Int.reduceEq, Int.reduceLT, Int.reduceLE, Int.reduceNeg, Nat.reduceLT, Nat.reduceLeDiff, Nat.reduceEqDiff, B.bs])⟩
    rw [List.drop_eq_nil_of_le (by omega), deeps] at h2
    rw [show ((m : Int) + 1) = ((deepF b : Nat) : Int) by omega]
theorem in_drop {s : List UInt8} {i : Nat} {c : Int} (h : i < s.length) : inF (s.drop i) c = (decide (byteAt s i = c) || inF (s.drop (i + 1)) c) := by
  rw [List.drop_eq_getElem_cons h, inF, List.any_cons, byteAt, List.getD_eq_getElem?_getD, List.getElem?_eq_getElem h]; rfl
theorem in_ok (s : List UInt8) (c : Int) (hs : s.length < 4611686018427387904) : AFn env 32 [aS s, aU c] [] (aB (inF s c)) [] := by
  refine afn_body Tryz.func32 rfl (by decide) ?_
  simp only [Tryz.ntmps32, Tryz.results32, List.length_cons, List.length_nil, List.cons_append, List.nil_append, Nat.reduceAdd, Nat.reduceSub, List.replicate]
  repeat' first
  | with_reducible refine awp_seq ?_
  | ((with_reducible refine awp_region ?_); refine zS ?_)
  | with_reducible refine awp_block ?_
  refine awp_loopT (fun i : Nat => i ≤ s.length ∧ inF s c = inF (s.drop i) c) (fun i => s.length - i) (fun i => [(5, aI i)]) (fun _ => []) 0 ⟨by omega, rfl⟩ zwl ?_
  rintro i ⟨h1, h2⟩
  refine zT ?_
  repeat' first
  | with_reducible refine awp_seq ?_
  | ((with_reducible refine awp_region ?_); refine zS ?_)
  | ((with_reducible refine AWP_c ?_); refine zcdD ?_ ?_ <;> intro hb hb2 <;> first | contradiction | (exfalso; omega) | ((try refine zH hb2 ?_); try clear hb2))
  | ((with_reducible refine awp_ret ?_); refine fin_r ?_)
  | ((with_reducible refine awp_skip ?_); refine zS ?_)
  | with_reducible refine awp_block ?_
  | ((with_reducible refine awp_exit ?_); refine zS ?_)
  · rw [h2, in_drop (by omega), decide_eq_true ‹_›]; rfl
  · exact ⟨i + 1, ⟨by omega, by rw [h2, in_drop (by omega), decide_eq_false ‹_›]; rfl⟩, by omega, zwc 0⟩
  · rw [h2, List.drop_eq_nil_of_le (by omega)]; rfl
theorem has_ok (b : B) : AFn env 33 [b.a] [] (aS (hasF b)) [] := by
  refine afn_body Tryz.func33 rfl (by decide) ?_
  simp only [Tryz.ntmps33, Tryz.results33, List.length_cons, List.length_nil, List.cons_append, List.nil_append, Nat.reduceAdd, Nat.reduceSub, List.replicate]
  repeat' first
  | with_reducible refine awp_seq ?_
  | ((with_reducible refine awp_region ?_); refine zS ?_)
  | ((with_reducible refine AWP_c ?_); refine zcdT ?_)
  | ((with_reducible refine AWP_c ?_); refine zcdD ?_ ?_ <;> intro hb hb2 <;> first | contradiction | (exfalso; omega) | ((try refine zH hb2 ?_); try clear hb2))
  | ((with_reducible refine awp_ret ?_); refine fin_r ?_)
  | ((with_reducible refine awp_skip ?_); refine zS ?_)
  | with_reducible refine awp_block ?_
  all_goals first | (simp [go_sem, hasF, hasK, *]; done) | (simp [go_sem, hasF, hasK, *]; rfl) | trace_state
theorem rNone16_ok (t : T) (hs : t.size < 4611686018427387904) : AFn env 43 [t.a] [] (aB (noneF t)) [] := by
  rw [← eqT_t0]
  refine afn_body Tryz.func43 rfl (by decide) ?_
  simp only [Tryz.ntmps43, Tryz.results43, List.length_cons, List.length_nil, List.cons_append, List.nil_append, Nat.reduceAdd, Nat.reduceSub, List.replicate]
  repeat' first
  | ((with_reducible refine awp_seqQ ?_); intro _ _)
  | ((with_reducible refine awp_region ?_); refine zS ?_)
  | ((with_reducible refine CallK_id ?_); refine zcF ?_; refine ⟨_, by first | exact plain_ok t t0 hs | fail, fun _ => rfl, fun _ => rfl, rfl, ?_⟩; try refine zS ?_)
  | ((with_reducible refine awp_ret ?_); refine q_step (by assumption) ?_)
  | with_reducible refine fin_r ?_
  | ((with_reducible refine q_step (by assumption) ?_); try refine zS ?_)
  all_goals rfl
theorem rOf16_ok (t : T) (k : Int) (hs : t.size < 4611686018427387904) : AFn env 44 [t.a, aI k] [] (aB (ofF t k)) [] := by
  refine afn_body Tryz.func44 rfl (by decide) ?_
  simp only [Tryz.ntmps44, Tryz.results44, List.length_cons, List.length_nil, List.cons_append, List.nil_append, Nat.reduceAdd, Nat.reduceSub, List.replicate]
  repeat' first
  | ((with_reducible refine awp_seqQ ?_); intro _ _)
  | ((with_reducible refine awp_region ?_); refine zS ?_)
  | ((with_reducible refine Gd_d ?_ ?_) <;> intro hb hb2 <;> first | contradiction | (exfalso; omega) | (refine zH hb2 ?_; try clear hb2))
  | ((with_reducible refine CallK_id ?_); refine zcF ?_; refine ⟨_, by first | exact rCheckT_ok t hs | fail, fun _ => rfl, fun _ => rfl, rfl, ?_⟩; try refine zS ?_)
  | ((with_reducible refine awp_ret ?_); refine q_step (by assumption) ?_)
  | with_reducible refine fin_r ?_
  | ((with_reducible refine q_step (by assumption) ?_); try refine zS ?_)
  all_goals simp [go_sem, ofF, *]
def rcL (o : Int) : List T → Nat → Bool
  | [], _ => true
  | t :: l, i => (if (i : Int) = o then noneF t else ofF t 2) && rcL o l (i + 1)
theorem rcL_eq (o : Int) : ∀ (l : List T) (i : Nat), rcL o l i = ((if (i : Int) ≤ o ∧ o < i + l.length then noneF (gt l (o.toNat - i)) else true) && condsL o l i)
  | [], i => by rw [rcL, condsL, if_neg (by simp)]; rfl
  | t :: l, i => by
    rw [rcL, condsL, rcL_eq o l (i + 1)]
    by_cases h : (i : Int) = o
    · have a1 : ¬ (((i + 1 : Nat) : Int) ≤ o ∧ o < ((i + 1 : Nat) : Int) + l.length) := by omega
      have a2 : (i : Int) ≤ o ∧ o < i + ((t :: l).length : Nat) := by simp only [List.length_cons]; omega
      rw [if_pos h, if_neg a1, if_pos a2, decide_eq_true h, show o.toNat - i = 0 by omega]; simp [gt]
    · rw [if_neg h, decide_eq_false h, Bool.false_or]
      by_cases h2 : ((i + 1 : Nat) : Int) ≤ o ∧ o < ((i + 1 : Nat) : Int) + l.length
      · rw [if_pos h2, if_pos (by simp only [List.length_cons]; omega), show o.toNat - i = (o.toNat - (i + 1)) + 1 by omega, show gt (t :: l) (o.toNat - (i + 1) + 1) = gt l (o.toNat - (i + 1)) by simp [gt]]
        cases ofF t 2 <;> cases noneF (gt l (o.toNat - (i + 1))) <;> simp
      · rw [if_neg h2, if_neg (by simp only [List.length_cons]; omega)]; simp
theorem condsR {l : List T} {o : Int} (h : 0 ≤ o ∧ o < l.length) : condsF l o = rcL o l 0 := by
  rw [rcL_eq, if_pos (by omega), condsF, decide_eq_true h.1, decide_eq_true h.2, eqT_t0]; rfl
theorem conds_no {l : List T} {o : Int} (h : ¬ (0 ≤ o ∧ o < l.length)) : condsF l o = false := by
  unfold condsF
  by_cases h0 : 0 ≤ o
  · rw [decide_eq_false (p := o < l.length) (by omega)]; simp
  · rw [decide_eq_false h0]; simp
theorem rc_drop {o : Int} {l : List T} {i : Nat} (h : i < l.length) : rcL o (l.drop i) i = ((if (i : Int) = o then noneF (gt l i) else ofF (gt l i) 2) && rcL o (l.drop (i + 1)) (i + 1)) := by rw [drop_gt h, rcL]
theorem rConds_ok (l : List T) (o : Int) (hs : T.sizes l < 4611686018427387904) : AFn env 45 [aF (l.map T.row), aI o] [] (aB (condsF l o)) [] := by
  have hl := T.len_le l
  have hsz : ∀ i, i < l.length → (gt l i).size < 4611686018427387904 := fun i hi => by have := T.size_kid (gt_mem (l := l) hi); omega
  refine afn_body Tryz.func45 rfl (by decide) ?_
  simp only [Tryz.ntmps45, Tryz.results45, List.length_cons, List.length_nil, List.cons_append, List.nil_append, Nat.reduceAdd, Nat.reduceSub, List.replicate]
  repeat' first
  | with_reducible refine awp_seq ?_
  | ((with_reducible refine awp_region ?_); refine zS ?_)
  | ((with_reducible refine Gd_nd ?_ ?_) <;> intro hb hb2 <;> first | contradiction | (exfalso; omega) | (refine zH hb2 ?_; try clear hb2))
  | ((with_reducible refine AWP_c ?_); refine zcdT ?_)
  | ((with_reducible refine AWP_c ?_); refine zcdD ?_ ?_ <;> intro hb hb2 <;> first | contradiction | (exfalso; omega) | ((try refine zH hb2 ?_); try clear hb2))
  | ((with_reducible refine awp_ret ?_); refine fin_r ?_)
  | ((with_reducible refine awp_skip ?_); refine zS ?_)
  | with_reducible refine awp_block ?_
  all_goals try (rw [conds_no (by omega)]; done)
  refine awp_loopT (fun i : Nat => i ≤ l.length ∧ condsF l o = rcL o (l.drop i) i) (fun i => l.length - i) (fun i => [(17, aI i)]) (fun _ => []) 0 ⟨by omega, condsR (by omega)⟩ zwl ?_
  rintro i ⟨h1, h2⟩
  refine zT ?_
  repeat' first
  | with_reducible refine awp_seq ?_
  | ((with_reducible refine awp_region ?_); refine zS ?_)
  | ((with_reducible refine Gd_nd ?_ ?_) <;> intro hb hb2 <;> first | contradiction | (exfalso; omega) | (refine zH hb2 ?_; try clear hb2))
  | ((with_reducible refine Gd_d ?_ ?_) <;> intro hb hb2 <;> first | contradiction | (exfalso; omega) | (refine zH hb2 ?_; try clear hb2))
  | ((with_reducible refine Gd_b ?_ ?_) <;> intro hb <;> first | contradiction | refine zH hb ?_)
  | ((with_reducible refine AWP_c ?_); refine zcdT ?_)
  | ((with_reducible refine AWP_c ?_); refine zcdF ?_)
  | ((with_reducible refine AWP_c ?_); refine zcdD ?_ ?_ <;> intro hb hb2 <;> first | contradiction | (exfalso; omega) | ((try refine zH hb2 ?_); try clear hb2))
  | ((with_reducible refine AWP_c ?_); refine zcdM ?_ ?_ <;> intro hb <;> first | contradiction | (try refine zH hb ?_))
  | ((with_reducible refine awp_ret ?_); refine fin_r ?_)
  | ((with_reducible refine awp_skip ?_); refine zS ?_)
  | with_reducible refine awp_block ?_
  | ((with_reducible refine awp_exit ?_); refine zS ?_)
  | ((with_reducible refine CallK_id ?_); refine zcF ?_; refine ⟨_, by first | exact rNone16_ok (gt l i) (hsz _ (by omega)) | exact rOf16_ok (gt l i) 2 (hsz _ (by omega)) | fail, fun _ => rfl, fun _ => rfl, rfl, ?_⟩; try refine zS ?_)
  all_goals first
    | (rw [h2, rc_drop (by omega), if_pos (by omega)]; simp [*]; done)
    | (rw [h2, rc_drop (by omega), if_neg (by omega)]; simp [*]; done)
    | exact ⟨i + 1, ⟨by omega, by rw [h2, rc_drop (by omega), if_pos (by omega)]; simp [*]⟩, by omega, zwc 0⟩
    | exact ⟨i + 1, ⟨by omega, by rw [h2, rc_drop (by omega), if_neg (by omega)]; simp [*]⟩, by omega, zwc 0⟩
    | (rw [h2, List.drop_eq_nil_of_le (by omega), rcL]; done)
    | trace_state
theorem cI_drop {l : List Lk} {j : Nat} (h : j < l.length) (i : Int) : cI (l.drop j) i = cI (l.drop (j + 1)) i + (if (gt l j).dst = i then 1 else 0) := by rw [drop_gt h, cI_cons]
theorem cO_drop {l : List Lk} {j : Nat} (h : j < l.length) (i : Int) : cO (l.drop j) i = cO (l.drop (j + 1)) i + (if (gt l j).src = i then 1 else 0) := by rw [drop_gt h, cO_cons]
theorem rIns16_ok (b : B) (i : Int) (hs : b.size < 1000000000000) : AFn env 54 [b.a, aI i] [] (aI (cI b.links i)) [] := by
  have hz := B.size_eq b
  have hc := cI_le b.links i
  refine afn_body Tryz.func54 rfl (by decide) ?_
  simp only [Tryz.ntmps54, Tryz.results54, List.length_cons, List.length_nil, List.cons_append, List.nil_append, Nat.reduceAdd, Nat.reduceSub, List.replicate]
  repeat' first
  | ((with_reducible refine awp_seqQ ?_); intro _ _)
  | ((with_reducible refine awp_region ?_); refine zS ?_)
  | with_reducible refine awp_block ?_
  refine awp_loopT (fun s : Nat × Nat => s.1 ≤ b.links.length ∧ s.2 + cI (b.links.drop s.1) i = cI b.links i) (fun s => b.links.length - s.1) (fun s => [(5, aI s.2), (11, aI s.1)]) (fun s => [some (.box b.bs)]) (0, 0) ⟨by simp, by simp⟩ (wk_le (by simp only [go_sem, Bool.not_not, List.mem_singleton, forall_eq, ↓reduceIte, if_pos, rowsAt_map, wrap64, wrapu8, List.getElem?_cons_zero, List.getElem?_cons_succ, Int.reduceToNat, Nat.reduceAdd, Nat.reduceBEq, Bool.or_false, Bool.false_or, Bool.true_or, Nat.reduceSub, Nat.reduceMul, Int.reduceAdd, Int.reduceEq, Int.reduceLT, Int.reduceLE, Int.reduceNeg, Nat.reduceLT, Nat.reduceLeDiff, Nat.reduceEqDiff]; simp) (by simp only [go_sem, Bool.not_not, List.mem_singleton, forall_eq, ↓reduceIte, if_pos, rowsAt_map, wrap64, wrapu8, List.getElem?_cons_zero, List.getElem?_cons_succ, Int.reduceToNat, Nat.reduceAdd, Nat.reduceBEq, Bool.or_false, Bool.false_or, Bool.true_or, Nat.reduceSub, Nat.reduceMul, Int.reduceAdd, Int.reduceEq, Int.reduceLT, Int.reduceLE, Int.reduceNeg, Nat.reduceLT, Nat.reduceLeDiff, Nat.reduceEqDiff, B.bs])) ?_
  rintro ⟨j, m⟩ ⟨h1, h2⟩
  simp only at h1 h2
  simp only [go_sem, Bool.not_not, List.mem_singleton, forall_eq, ↓reduceIte, if_pos, rowsAt_map, wrap64, wrapu8, List.getElem?_cons_zero, List.getElem?_cons_succ, Int.reduceToNat, Nat.reduceAdd, Nat.reduceBEq, Bool.or_false, Bool.false_or, Bool.true_or, Nat.reduceSub, Nat.reduceMul, Int.reduceAdd, Int.reduceEq, Int.reduceLT, Int.reduceLE, Int.reduceNeg, Nat.reduceLT, Nat.reduceLeDiff, Nat.reduceEqDiff, B.bs]
  repeat' first
  | ((with_reducible refine awp_seqQ ?_); intro _ _)
  | ((with_reducible refine awp_region ?_); refine zS ?_)
  | ((with_reducible refine AWP_c ?_); refine zcdD ?_ ?_ <;> intro hb hb2 <;> first | contradiction | (exfalso; omega) | ((try refine zH hb2 ?_); try clear hb2))
  | ((with_reducible refine awp_skip ?_); try refine zS ?_)
  | with_reducible refine awp_block ?_
  | ((with_reducible refine awp_exit ?_); try refine zS ?_)
  | ((with_reducible refine awp_ret ?_); refine q_step (by assumption) ?_)
  | with_reducible refine fin_r ?_
  | ((with_reducible refine q_step (by assumption) ?_); try refine zS ?_)
  · rw [cI_drop (by omega), if_pos ‹_›] at h2
    exact ⟨(j + 1, m + 1), ⟨by simp only; omega, by simp only; omega⟩, by simp only; omega, wk_cl 1 (by decide) (by simp) (by simp only [go_sem, Bool.not_not, List.mem_singleton, forall_eq, ↓reduceIte, if_pos, rowsAt_map, wrap64, wrapu8, List.getElem?_cons_zero, List.getElem?_cons_succ, Int.reduceToNat, Nat.reduceAdd, Nat.reduceBEq, Bool.or_false, Bool.false_or, Bool.true_or, Nat.reduceSub, Nat.reduceMul, Int.reduceAdd, Int.reduceEq, Int.reduceLT, Int.reduceLE, Int.reduceNeg, Nat.reduceLT, Nat.reduceLeDiff, Nat.reduceEqDiff]; simp; try omega) (by simp only [go_sem, Bool.not_not, List.mem_singleton, forall_eq, ↓reduceIte, if_pos, rowsAt_map, wrap64, wrapu8, List.getElem?_cons_zero, List.getElem?_cons_succ, Int.reduceToNat, Nat.reduceAdd, Nat.reduceBEq, Bool.or_false, Bool.false_or, Bool.true_or, Nat.reduceSub, Nat.reduceMul, Int.reduceAdd, Int.reduceEq, Int.reduceLT, Int.reduceLE, Int.reduceNeg, Nat.reduceLT, Nat.reduceLeDiff, Nat.reduceEqDiff, B.bs])⟩
  · rw [cI_drop (by omega), if_neg ‹_›] at h2
    exact ⟨(j + 1, m), ⟨by simp only; omega, by simp only; omega⟩, by simp only; omega, wk_cl 1 (by decide) (by simp) (by simp only [go_sem, Bool.not_not, List.mem_singleton, forall_eq, ↓reduceIte, if_pos, rowsAt_map, wrap64, wrapu8, List.getElem?_cons_zero, List.getElem?_cons_succ, Int.reduceToNat, Nat.reduceAdd, Nat.reduceBEq, Bool.or_false, Bool.false_or, Bool.true_or, Nat.reduceSub, Nat.reduceMul, Int.reduceAdd, Int.reduceEq, Int.reduceLT, Int.reduceLE, Int.reduceNeg, Nat.reduceLT, Nat.reduceLeDiff, Nat.reduceEqDiff]; simp; try omega) (by simp only [go_sem, Bool.not_not, List.mem_singleton, forall_eq, ↓reduceIte, if_pos, rowsAt_map, wrap64, wrapu8, List.getElem?_cons_zero, List.getElem?_cons_succ, Int.reduceToNat, Nat.reduceAdd, Nat.reduceBEq, Bool.or_false, Bool.false_or, Bool.true_or, Nat.reduceSub, Nat.reduceMul, Int.reduceAdd, Int.reduceEq, Int.reduceLT, Int.reduceLE, Int.reduceNeg, Nat.reduceLT, Nat.reduceLeDiff, Nat.reduceEqDiff, B.bs])⟩
  rw [List.drop_eq_nil_of_le (by omega)] at h2
  rw [show m = cI b.links i by simpa [cI] using h2]
theorem rOuts16_ok (b : B) (i : Int) (hs : b.size < 1000000000000) : AFn env 55 [b.a, aI i] [] (aI (cO b.links i)) [] := by
  have hz := B.size_eq b
  have hc := cO_le b.links i
  refine afn_body Tryz.func55 rfl (by decide) ?_
  simp only [Tryz.ntmps55, Tryz.results55, List.length_cons, List.length_nil, List.cons_append, List.nil_append, Nat.reduceAdd, Nat.reduceSub, List.replicate]
  repeat' first
  | ((with_reducible refine awp_seqQ ?_); intro _ _)
  | ((with_reducible refine awp_region ?_); refine zS ?_)
  | with_reducible refine awp_block ?_
  refine awp_loopT (fun s : Nat × Nat => s.1 ≤ b.links.length ∧ s.2 + cO (b.links.drop s.1) i = cO b.links i) (fun s => b.links.length - s.1) (fun s => [(5, aI s.2), (11, aI s.1)]) (fun s => [some (.box b.bs)]) (0, 0) ⟨by simp, by simp⟩ (wk_le (by simp only [go_sem, Bool.not_not, List.mem_singleton, forall_eq, ↓reduceIte, if_pos, rowsAt_map, wrap64, wrapu8, List.getElem?_cons_zero, List.getElem?_cons_succ, Int.reduceToNat, Nat.reduceAdd, Nat.reduceBEq, Bool.or_false, Bool.false_or, Bool.true_or, Nat.reduceSub, Nat.reduceMul, Int.reduceAdd, Int.reduceEq, Int.reduceLT, Int.reduceLE, Int.reduceNeg, Nat.reduceLT, Nat.reduceLeDiff, Nat.reduceEqDiff]; simp) (by simp only [go_sem, Bool.not_not, List.mem_singleton, forall_eq, ↓reduceIte, if_pos, rowsAt_map, wrap64, wrapu8, List.getElem?_cons_zero, List.getElem?_cons_succ, Int.reduceToNat, Nat.reduceAdd, Nat.reduceBEq, Bool.or_false, Bool.false_or, Bool.true_or, Nat.reduceSub, Nat.reduceMul, Int.reduceAdd, Int.reduceEq, Int.reduceLT, Int.reduceLE, Int.reduceNeg, Nat.reduceLT, Nat.reduceLeDiff, Nat.reduceEqDiff, B.bs])) ?_
  rintro ⟨j, m⟩ ⟨h1, h2⟩
  simp only at h1 h2
  simp only [go_sem, Bool.not_not, List.mem_singleton, forall_eq, ↓reduceIte, if_pos, rowsAt_map, wrap64, wrapu8, List.getElem?_cons_zero, List.getElem?_cons_succ, Int.reduceToNat, Nat.reduceAdd, Nat.reduceBEq, Bool.or_false, Bool.false_or, Bool.true_or, Nat.reduceSub, Nat.reduceMul, Int.reduceAdd, Int.reduceEq, Int.reduceLT, Int.reduceLE, Int.reduceNeg, Nat.reduceLT, Nat.reduceLeDiff, Nat.reduceEqDiff, B.bs]
  repeat' first
  | ((with_reducible refine awp_seqQ ?_); intro _ _)
  | ((with_reducible refine awp_region ?_); refine zS ?_)
  | ((with_reducible refine AWP_c ?_); refine zcdD ?_ ?_ <;> intro hb hb2 <;> first | contradiction | (exfalso; omega) | ((try refine zH hb2 ?_); try clear hb2))
  | ((with_reducible refine awp_skip ?_); try refine zS ?_)
  | with_reducible refine awp_block ?_
  | ((with_reducible refine awp_exit ?_); try refine zS ?_)
  | ((with_reducible refine awp_ret ?_); refine q_step (by assumption) ?_)
  | with_reducible refine fin_r ?_
  | ((with_reducible refine q_step (by assumption) ?_); try refine zS ?_)
  · rw [cO_drop (by omega), if_pos ‹_›] at h2
    exact ⟨(j + 1, m + 1), ⟨by simp only; omega, by simp only; omega⟩, by simp only; omega, wk_cl 1 (by decide) (by simp) (by simp only [go_sem, Bool.not_not, List.mem_singleton, forall_eq, ↓reduceIte, if_pos, rowsAt_map, wrap64, wrapu8, List.getElem?_cons_zero, List.getElem?_cons_succ, Int.reduceToNat, Nat.reduceAdd, Nat.reduceBEq, Bool.or_false, Bool.false_or, Bool.true_or, Nat.reduceSub, Nat.reduceMul, Int.reduceAdd, Int.reduceEq, Int.reduceLT, Int.reduceLE, Int.reduceNeg, Nat.reduceLT, Nat.reduceLeDiff, Nat.reduceEqDiff]; simp; try omega) (by simp only [go_sem, Bool.not_not, List.mem_singleton, forall_eq, ↓reduceIte, if_pos, rowsAt_map, wrap64, wrapu8, List.getElem?_cons_zero, List.getElem?_cons_succ, Int.reduceToNat, Nat.reduceAdd, Nat.reduceBEq, Bool.or_false, Bool.false_or, Bool.true_or, Nat.reduceSub, Nat.reduceMul, Int.reduceAdd, Int.reduceEq, Int.reduceLT, Int.reduceLE, Int.reduceNeg, Nat.reduceLT, Nat.reduceLeDiff, Nat.reduceEqDiff, B.bs])⟩
  · rw [cO_drop (by omega), if_neg ‹_›] at h2
    exact ⟨(j + 1, m), ⟨by simp only; omega, by simp only; omega⟩, by simp only; omega, wk_cl 1 (by decide) (by simp) (by simp only [go_sem, Bool.not_not, List.mem_singleton, forall_eq, ↓reduceIte, if_pos, rowsAt_map, wrap64, wrapu8, List.getElem?_cons_zero, List.getElem?_cons_succ, Int.reduceToNat, Nat.reduceAdd, Nat.reduceBEq, Bool.or_false, Bool.false_or, Bool.true_or, Nat.reduceSub, Nat.reduceMul, Int.reduceAdd, Int.reduceEq, Int.reduceLT, Int.reduceLE, Int.reduceNeg, Nat.reduceLT, Nat.reduceLeDiff, Nat.reduceEqDiff]; simp; try omega) (by simp only [go_sem, Bool.not_not, List.mem_singleton, forall_eq, ↓reduceIte, if_pos, rowsAt_map, wrap64, wrapu8, List.getElem?_cons_zero, List.getElem?_cons_succ, Int.reduceToNat, Nat.reduceAdd, Nat.reduceBEq, Bool.or_false, Bool.false_or, Bool.true_or, Nat.reduceSub, Nat.reduceMul, Int.reduceAdd, Int.reduceEq, Int.reduceLT, Int.reduceLE, Int.reduceNeg, Nat.reduceLT, Nat.reduceLeDiff, Nat.reduceEqDiff, B.bs])⟩
  rw [List.drop_eq_nil_of_le (by omega)] at h2
  rw [show m = cO b.links i by simpa [cO] using h2]
theorem rKid_ok (b : B) (i : Nat) (hs : b.size < 1000000000000) (hi : i < b.kids.length) : AFn env 56 [b.a, aI i] [] (aB (rKidF b i)) [] := by
  refine afn_body Tryz.func56 rfl (by decide) ?_
  simp only [Tryz.ntmps56, Tryz.results56, List.length_cons, List.length_nil, List.cons_append, List.nil_append, Nat.reduceAdd, Nat.reduceSub, List.replicate]
  repeat' first
  | with_reducible refine awp_seq ?_
  | ((with_reducible refine awp_region ?_); refine zS ?_)
  | ((with_reducible refine Gd_d ?_ ?_) <;> intro hb hb2 <;> first | contradiction | (exfalso; omega) | (refine zH hb2 ?_; try clear hb2))
  | ((with_reducible refine AWP_c ?_); refine zcdT ?_)
  | ((with_reducible refine AWP_c ?_); refine zcdN ?_ ?_ <;> intro hb hb2 <;> first | contradiction | (exfalso; omega) | ((try refine zH hb2 ?_); try clear hb2))
  | ((with_reducible refine AWP_c ?_); refine zcdD ?_ ?_ <;> intro hb hb2 <;> first | contradiction | (exfalso; omega) | ((try refine zH hb2 ?_); try clear hb2))
  | ((with_reducible refine awp_ret ?_); refine fin_r ?_)
  | ((with_reducible refine awp_skip ?_); refine zS ?_)
  | with_reducible refine awp_block ?_
  | ((with_reducible refine CallK_id ?_); refine zcF ?_; refine ⟨_, by first | exact rIns16_ok b i hs | exact rOuts16_ok b i hs | fail, fun _ => rfl, fun _ => rfl, rfl, ?_⟩; try refine zS ?_)
  all_goals first | (simp [go_sem, rKidF, *]; done) | (simp [go_sem, rKidF, *]; omega) | trace_state
end Go.Eng
open Go Go.Proofs
namespace Go.Eng
set_option linter.unusedSimpArgs false
set_option linter.unusedVariables false
set_option maxRecDepth 10000
set_option maxHeartbeats 40000000
theorem in0_n : inF [] 110 = false := rfl
theorem in0_a : inF [] 97 = false := rfl
theorem in0_b : inF [] 98 = false := rfl
theorem in0_t : inF [] 116 = false := rfl
theorem in0_c : inF [] 99 = false := rfl
theorem in0_k : inF [] 107 = false := rfl
theorem in0_l : inF [] 108 = false := rfl
theorem in0_p : inF [] 112 = false := rfl
theorem in1_n : inF [110, 97] 110 = true := rfl
theorem in1_a : inF [110, 97] 97 = true := rfl
theorem in1_b : inF [110, 97] 98 = false := rfl
theorem in1_t : inF [110, 97] 116 = false := rfl
theorem in1_c : inF [110, 97] 99 = false := rfl
theorem in1_k : inF [110, 97] 107 = false := rfl
theorem in1_l : inF [110, 97] 108 = false := rfl
theorem in1_p : inF [110, 97] 112 = false := rfl
theorem in2_n : inF [110, 97, 116] 110 = true := rfl
theorem in2_a : inF [110, 97, 116] 97 = true := rfl
theorem in2_b : inF [110, 97, 116] 98 = false := rfl
theorem in2_t : inF [110, 97, 116] 116 = true := rfl
theorem in2_c : inF [110, 97, 116] 99 = false := rfl
theorem in2_k : inF [110, 97, 116] 107 = false := rfl
theorem in2_l : inF [110, 97, 116] 108 = false := rfl
theorem in2_p : inF [110, 97, 116] 112 = false := rfl
theorem in3_n : inF [110] 110 = true := rfl
theorem in3_a : inF [110] 97 = false := rfl
theorem in3_b : inF [110] 98 = false := rfl
theorem in3_t : inF [110] 116 = false := rfl
theorem in3_c : inF [110] 99 = false := rfl
theorem in3_k : inF [110] 107 = false := rfl
theorem in3_l : inF [110] 108 = false := rfl
theorem in3_p : inF [110] 112 = false := rfl
theorem in4_n : inF [107] 110 = false := rfl
theorem in4_a : inF [107] 97 = false := rfl
theorem in4_b : inF [107] 98 = false := rfl
theorem in4_t : inF [107] 116 = false := rfl
theorem in4_c : inF [107] 99 = false := rfl
theorem in4_k : inF [107] 107 = true := rfl
theorem in4_l : inF [107] 108 = false := rfl
theorem in4_p : inF [107] 112 = false := rfl
theorem in5_n : inF [110, 97, 107, 99] 110 = true := rfl
theorem in5_a : inF [110, 97, 107, 99] 97 = true := rfl
theorem in5_b : inF [110, 97, 107, 99] 98 = false := rfl
theorem in5_t : inF [110, 97, 107, 99] 116 = false := rfl
theorem in5_c : inF [110, 97, 107, 99] 99 = true := rfl
theorem in5_k : inF [110, 97, 107, 99] 107 = true := rfl
theorem in5_l : inF [110, 97, 107, 99] 108 = false := rfl
theorem in5_p : inF [110, 97, 107, 99] 112 = false := rfl
theorem in6_n : inF [110, 107] 110 = true := rfl
theorem in6_a : inF [110, 107] 97 = false := rfl
theorem in6_b : inF [110, 107] 98 = false := rfl
theorem in6_t : inF [110, 107] 116 = false := rfl
theorem in6_c : inF [110, 107] 99 = false := rfl
theorem in6_k : inF [110, 107] 107 = true := rfl
theorem in6_l : inF [110, 107] 108 = false := rfl
theorem in6_p : inF [110, 107] 112 = false := rfl
theorem in7_n : inF [110, 97, 107] 110 = true := rfl
theorem in7_a : inF [110, 97, 107] 97 = true := rfl
theorem in7_b : inF [110, 97, 107] 98 = false := rfl
theorem in7_t : inF [110, 97, 107] 116 = false := rfl
theorem in7_c : inF [110, 97, 107] 99 = false := rfl
theorem in7_k : inF [110, 97, 107] 107 = true := rfl
theorem in7_l : inF [110, 97, 107] 108 = false := rfl
theorem in7_p : inF [110, 97, 107] 112 = false := rfl
theorem in8_n : inF [110, 97, 98, 107, 99] 110 = true := rfl
theorem in8_a : inF [110, 97, 98, 107, 99] 97 = true := rfl
theorem in8_b : inF [110, 97, 98, 107, 99] 98 = true := rfl
theorem in8_t : inF [110, 97, 98, 107, 99] 116 = false := rfl
theorem in8_c : inF [110, 97, 98, 107, 99] 99 = true := rfl
theorem in8_k : inF [110, 97, 98, 107, 99] 107 = true := rfl
theorem in8_l : inF [110, 97, 98, 107, 99] 108 = false := rfl
theorem in8_p : inF [110, 97, 98, 107, 99] 112 = false := rfl
theorem in9_n : inF [110, 97, 98, 99] 110 = true := rfl
theorem in9_a : inF [110, 97, 98, 99] 97 = true := rfl
theorem in9_b : inF [110, 97, 98, 99] 98 = true := rfl
theorem in9_t : inF [110, 97, 98, 99] 116 = false := rfl
theorem in9_c : inF [110, 97, 98, 99] 99 = true := rfl
theorem in9_k : inF [110, 97, 98, 99] 107 = false := rfl
theorem in9_l : inF [110, 97, 98, 99] 108 = false := rfl
theorem in9_p : inF [110, 97, 98, 99] 112 = false := rfl
theorem in10_n : inF [107, 108] 110 = false := rfl
theorem in10_a : inF [107, 108] 97 = false := rfl
theorem in10_b : inF [107, 108] 98 = false := rfl
theorem in10_t : inF [107, 108] 116 = false := rfl
theorem in10_c : inF [107, 108] 99 = false := rfl
theorem in10_k : inF [107, 108] 107 = true := rfl
theorem in10_l : inF [107, 108] 108 = true := rfl
theorem in10_p : inF [107, 108] 112 = false := rfl
theorem in11_n : inF [112] 110 = false := rfl
theorem in11_a : inF [112] 97 = false := rfl
theorem in11_b : inF [112] 98 = false := rfl
theorem in11_t : inF [112] 116 = false := rfl
theorem in11_c : inF [112] 99 = false := rfl
theorem in11_k : inF [112] 107 = false := rfl
theorem in11_l : inF [112] 108 = false := rfl
theorem in11_p : inF [112] 112 = true := rfl
attribute [go_sem] in0_n in0_a in0_b in0_t in0_c in0_k in0_l in0_p in1_n in1_a in1_b in1_t in1_c in1_k in1_l in1_p in2_n in2_a in2_b in2_t in2_c in2_k in2_l in2_p in3_n in3_a in3_b in3_t in3_c in3_k in3_l in3_p in4_n in4_a in4_b in4_t in4_c in4_k in4_l in4_p in5_n in5_a in5_b in5_t in5_c in5_k in5_l in5_p in6_n in6_a in6_b in6_t in6_c in6_k in6_l in6_p in7_n in7_a in7_b in7_t in7_c in7_k in7_l in7_p in8_n in8_a in8_b in8_t in8_c in8_k in8_l in8_p in9_n in9_a in9_b in9_t in9_c in9_k in9_l in9_p in10_n in10_a in10_b in10_t in10_c in10_k in10_l in10_p in11_n in11_a in11_b in11_t in11_c in11_k in11_l in11_p
theorem has_some (b : B) : hasF b = [] ∨ hasF b = [110, 97] ∨ hasF b = [110, 97, 116] ∨ hasF b = [110] ∨ hasF b = [107] ∨ hasF b = [110, 97, 107, 99] ∨ hasF b = [110, 107] ∨ hasF b = [110, 97, 107] ∨ hasF b = [110, 97, 98, 107, 99] ∨ hasF b = [110, 97, 98, 99] ∨ hasF b = [107, 108] ∨ hasF b = [112] := by
  unfold hasF hasK
  repeat' split
  all_goals simp
theorem rBare_ok (b : B) (hs : b.t.size < 4611686018427387904) : AFn env 30 [b.a] [] (aB (bareR (hasF b) b)) [] := by
  have hh := has_ok b
  have hH := has_some b
  generalize hasF b = s at *
  refine afn_body Tryz.func30 rfl (by decide) ?_
  simp only [Tryz.ntmps30, Tryz.results30, List.length_cons, List.length_nil, List.cons_append, List.nil_append, Nat.reduceAdd, Nat.reduceSub, List.replicate]
  rcases hH with rfl | rfl | rfl | rfl | rfl | rfl | rfl | rfl | rfl | rfl | rfl | rfl
  all_goals repeat' first
            | ((with_reducible refine awp_seqQ ?_); intro _ _)
            | ((with_reducible refine awp_region ?_); refine zS ?_)
            | ((with_reducible refine Gd_d ?_ ?_) <;> intro hb hb2 <;> first | contradiction | (exfalso; omega) | (refine zH hb2 ?_; try clear hb2))
            | ((with_reducible refine AWP_c ?_); refine zcdT ?_)
            | ((with_reducible refine AWP_c ?_); refine zcdF ?_)
            | ((with_reducible refine AWP_c ?_); refine zcdN ?_ ?_ <;> intro hb hb2 <;> first | contradiction | (exfalso; omega) | ((try refine zH hb2 ?_); try clear hb2))
            | ((with_reducible refine AWP_c ?_); refine zcdM ?_ ?_ <;> intro hb <;> first | contradiction | (try refine zH hb ?_))
            | ((with_reducible refine awp_skip ?_); try refine zS ?_)
            | ((with_reducible refine CallK_id ?_); refine zcF ?_; refine ⟨_, by first | exact hh | exact in_ok _ _ (by simp) | exact rNone16_ok b.t hs | fail, fun _ => rfl, fun _ => rfl, rfl, ?_⟩; try refine zS ?_)
            | ((with_reducible refine awp_ret ?_); refine q_step (by assumption) ?_)
            | with_reducible refine fin_r ?_
            | ((with_reducible refine q_step (by assumption) ?_); try refine zS ?_)
  all_goals (clear hh; first | (simp only [go_sem, bareR, *, not_true_eq_false, not_false_eq_true, Bool.false_or, Bool.true_or, Bool.or_true, Bool.or_false, Bool.true_and, Bool.and_true, Bool.false_and, Bool.and_false, decide_true, decide_false]; done) | trace_state)
end Go.Eng
open Go Go.Proofs
namespace Go.Eng
set_option linter.unusedSimpArgs false
set_option linter.unusedVariables false
set_option maxRecDepth 10000
set_option maxHeartbeats 8000000
theorem any_t {p : Nat → Bool} {n j : Nat} (h : j < n) (hp : p j = true) : (List.range' j (n - j)).any p = true := by
  rw [show n - j = (n - (j + 1)) + 1 by omega, List.range'_succ, List.any_cons, hp, Bool.true_or]
theorem any_f {p : Nat → Bool} {n j : Nat} (h : j < n) (hp : p j = false) : (List.range' j (n - j)).any p = (List.range' (j + 1) (n - (j + 1))).any p := by
  rw [show n - j = (n - (j + 1)) + 1 by omega, List.range'_succ, List.any_cons, hp, Bool.false_or]
theorem rlk_bad {b : B} {j : Nat} (hj : j < b.links.length) (h : lkBad b.kids.length (gt b.links j) = true) : rLinkedF b = false := by
  rw [rLinkedF, if_pos (List.any_eq_true.2 ⟨_, gt_mem hj, h⟩)]
theorem rLinked_ok (b : B) (hs : b.size < 1000000000000) : AFn env 46 [b.a] [] (aB (rLinkedF b)) [] := by
  have hz := B.size_eq b
  have hk := B.len_le b.kids
  have hci := cI_le b.links (-1)
  have hco := cO_le b.links (-1)
  have hil : (inner b.links).length ≤ b.links.length := List.length_filter_le _ _
  refine afn_body Tryz.func46 rfl (by decide) ?_
  simp only [Tryz.ntmps46, Tryz.results46, List.length_cons, List.length_nil, List.cons_append, List.nil_append, Nat.reduceAdd, Nat.reduceSub, List.replicate]
  iterate 2 (refine awp_seq ?_; refine awp_region ?_; refine zS ?_)
  refine awp_wk (wk_virt none (i := 3) (s := 2) (by decide) rfl) ?_
  refine zT ?_
  repeat' first
  | ((with_reducible refine awp_seqQ ?_); intro _ _)
  | ((with_reducible refine awp_region ?_); refine zS ?_)
  | with_reducible refine awp_block ?_
  refine awp_loopT (fun z : Nat × List Lk => z.1 ≤ b.links.length ∧ z.2 ++ inner (b.links.drop z.1) = inner b.links ∧ b.links.any (lkBad b.kids.length) = (b.links.drop z.1).any (lkBad b.kids.length)) (fun z => b.links.length - z.1) (fun z => [(12, aI z.1), (3, OwnK 1 z.2.length)]) (fun z => [some (.box b.bs), RwK z.2]) (0, []) ⟨by simp, by simp, by simp⟩ zwl ?_
  rintro ⟨j, es⟩ ⟨h1, h3, h4⟩
  simp only at h1 h3 h4
  have hel : es.length ≤ 1000000000000 := by
    have := congrArg List.length h3
    simp only [List.length_append] at *; omega
  refine zT ?_
  repeat' first
  | ((with_reducible refine awp_seqQ ?_); intro _ _)
  | ((with_reducible refine awp_region ?_); refine zS ?_)
  | ((with_reducible refine Gd_nd ?_ ?_) <;> intro hb hb2 <;> first | contradiction | (exfalso; omega) | (refine zH hb2 ?_; try clear hb2))
  | ((with_reducible refine Gd_d ?_ ?_) <;> intro hb hb2 <;> first | contradiction | (exfalso; omega) | (refine zH hb2 ?_; try clear hb2))
  | ((with_reducible refine AWP_c ?_); refine zcdT ?_)
  | ((with_reducible refine AWP_c ?_); refine zcdF ?_)
  | ((with_reducible refine AWP_c ?_); refine zcdD ?_ ?_ <;> intro hb hb2 <;> first | contradiction | (exfalso; omega) | ((try refine zH hb2 ?_); try clear hb2))
  | ((with_reducible refine awp_skip ?_); try refine zS ?_)
  | with_reducible refine awp_block ?_
  | ((with_reducible refine awp_exit ?_); try refine zS ?_)
  | ((with_reducible refine CallK_id ?_); refine zcF ?_; refine ⟨_, by first | exact rIns16_ok b (-1) hs | exact rOuts16_ok b (-1) hs | fail, fun _ => rfl, fun _ => rfl, rfl, ?_⟩; try refine zS ?_)
  | ((with_reducible refine awp_ret ?_); refine q_step (by assumption) ?_)
  | with_reducible refine fin_r ?_
  | ((with_reducible refine q_step (by assumption) ?_); try refine zS ?_)
  all_goals first
    | (rw [rlk_bad (j := j) (by omega) (by simp [lkBad, *]; done)]; done)
    | exact ⟨(j + 1, es ++ [gt b.links j]), ⟨by simp only; omega, by rw [← h3, inner_t (j := j) (by omega) (by omega) (by omega)]; simp, by rw [h4, bad_drop (j := j) (by omega) (by simp [lkBad]; omega)]⟩, by simp only; omega, wk_cl 2 (by decide) (by simp) (by simp only [go_sem, Bool.not_not, List.mem_singleton, forall_eq, ↓reduceIte, if_pos, rowsAt_map, wrap64, wrapu8, List.getElem?_cons_zero, List.getElem?_cons_succ, Int.reduceToNat, Nat.reduceAdd, Nat.reduceBEq, Bool.or_false, Bool.false_or, Bool.true_or, Nat.reduceSub, Nat.reduceMul, Int.reduceAdd, Int.reduceEq, Int.reduceLT, Int.reduceLE, Int.reduceNeg, Nat.reduceLT, Nat.reduceLeDiff, Nat.reduceEqDiff]; try simp) (by simp only [go_sem, Bool.not_not, List.mem_singleton, forall_eq, ↓reduceIte, if_pos, rowsAt_map, wrap64, wrapu8, List.getElem?_cons_zero, List.getElem?_cons_succ, Int.reduceToNat, Nat.reduceAdd, Nat.reduceBEq, Bool.or_false, Bool.false_or, Bool.true_or, Nat.reduceSub, Nat.reduceMul, Int.reduceAdd, Int.reduceEq, Int.reduceLT, Int.reduceLE, Int.reduceNeg, Nat.reduceLT, Nat.reduceLeDiff, Nat.reduceEqDiff, List.map_append]; try simp [go_sem])⟩
    | exact ⟨(j + 1, es), ⟨by simp only; omega, by rw [← h3, inner_f (j := j) (by omega) (by omega)], by rw [h4, bad_drop (j := j) (by omega) (by simp [lkBad]; omega)]⟩, by simp only; omega, wk_cl 2 (by decide) (by simp) (by simp only [go_sem, Bool.not_not, List.mem_singleton, forall_eq, ↓reduceIte, if_pos, rowsAt_map, wrap64, wrapu8, List.getElem?_cons_zero, List.getElem?_cons_succ, Int.reduceToNat, Nat.reduceAdd, Nat.reduceBEq, Bool.or_false, Bool.false_or, Bool.true_or, Nat.reduceSub, Nat.reduceMul, Int.reduceAdd, Int.reduceEq, Int.reduceLT, Int.reduceLE, Int.reduceNeg, Nat.reduceLT, Nat.reduceLeDiff, Nat.reduceEqDiff]; try simp) (by simp only [go_sem, Bool.not_not, List.mem_singleton, forall_eq, ↓reduceIte, if_pos, rowsAt_map, wrap64, wrapu8, List.getElem?_cons_zero, List.getElem?_cons_succ, Int.reduceToNat, Nat.reduceAdd, Nat.reduceBEq, Bool.or_false, Bool.false_or, Bool.true_or, Nat.reduceSub, Nat.reduceMul, Int.reduceAdd, Int.reduceEq, Int.reduceLT, Int.reduceLE, Int.reduceNeg, Nat.reduceLT, Nat.reduceLeDiff, Nat.reduceEqDiff]; try simp [go_sem])⟩
    | skip
  all_goals
    have hj : j = b.links.length := by omega
    subst hj
    rw [List.drop_length] at h3 h4
    have h4 : b.links.any (lkBad b.kids.length) = false := h4
    have he : es = inner b.links := by rw [← h3]; simp [inner]
    subst he
  all_goals try (rw [rLinkedF, if_neg (by simp [h4]), if_pos (by omega)]; done)
  have h0 : rLinkedF b = if ((List.range' 0 b.kids.length).any fun i => !rKidF b i) = true then false else decide ((rRoundF b.kids.length (inner b.links)).1.length = 0) := by
    rw [rLinkedF, if_neg (by simp [h4]), if_neg (by omega)]
  refine awp_loopT (fun i : Nat => i ≤ b.kids.length ∧ ((List.range' 0 b.kids.length).any fun i => !rKidF b i) = ((List.range' i (b.kids.length - i)).any fun i => !rKidF b i)) (fun i => b.kids.length - i) (fun i => [(80, aI i)]) (fun _ => [some (.box b.bs), RwK (inner b.links)]) 0 ⟨by omega, rfl⟩ zwl ?_
  rintro i ⟨g1, g2⟩
  refine zT ?_
  repeat' first
  | ((with_reducible refine awp_seqQ ?_); intro _ _)
  | ((with_reducible refine awp_region ?_); refine zS ?_)
  | ((with_reducible refine AWP_c ?_); refine zcdD ?_ ?_ <;> intro hb hb2 <;> first | contradiction | (exfalso; omega) | ((try refine zH hb2 ?_); try clear hb2))
  | ((with_reducible refine AWP_c ?_); refine zcdM ?_ ?_ <;> intro hb <;> first | contradiction | (try refine zH hb ?_))
  | ((with_reducible refine awp_skip ?_); try refine zS ?_)
  | with_reducible refine awp_block ?_
  | ((with_reducible refine awp_exit ?_); try refine zS ?_)
  | ((with_reducible refine CallK_id ?_); refine zcF ?_; refine ⟨_, by first | exact rKid_ok b i hs (by omega) | exact rRound_ok b.kids.length (inner b.links) (by omega) (by omega) | fail, fun _ => rfl, fun _ => rfl, rfl, ?_⟩; try refine zS ?_)
  | ((with_reducible refine awp_ret ?_); refine q_step (by assumption) ?_)
  | with_reducible refine fin_r ?_
  | ((with_reducible refine q_step (by assumption) ?_); try refine zS ?_)
  · rw [h0, g2, any_t (by omega) (by simp [*]), if_pos rfl]
  · exact ⟨i + 1, ⟨by omega, by rw [g2, any_f (by omega) (by simp [*])]⟩, by omega, zwc 2⟩
  rw [show b.kids.length - i = 0 by omega, List.range'_zero, List.any_nil] at g2
  rw [h0, g2, if_neg (by simp)]
  simp [go_sem]
end Go.Eng
open Go Go.Proofs
namespace Go.Eng
set_option linter.unusedSimpArgs false
set_option linter.unusedVariables false
set_option maxRecDepth 10000
set_option maxHeartbeats 40000000
theorem rNumK_ok (k : Int) (n x y : Int) (t : T) (c : List T) (ks : List B) (l : List Lk) (ns : List Nd) (fs : List Fl) (hs : (B.mk k n x y t c ks l ns fs).size < 1000000000000) (hk : k = 1 ∨ k = 2 ∨ k = 3 ∨ k = 4 ∨ k = 5 ∨ k = 6 ∨ k = 7 ∨ k = 8 ∨ k = 9 ∨ k = 10 ∨ k = 11 ∨ k = 12 ∨ k = 13 ∨ k = 14) : AFn env 31 [(B.mk k n x y t c ks l ns fs).a] [] (aB (rNumF (B.mk k n x y t c ks l ns fs))) [] := by
  have hz := B.size_eq (B.mk k n x y t c ks l ns fs)
  have l2 := B.len_le ks
  have l3 := T.len_le c
  have hch := chk5_eq (grB (B.mk k n x y t c ks l ns fs))
  simp only [mk_kids, mk_t, mk_conds] at hz
  refine afn_body Tryz.func31 rfl (by decide) ?_
  simp only [Tryz.ntmps31, Tryz.results31, List.length_cons, List.length_nil, List.cons_append, List.nil_append, Nat.reduceAdd, Nat.reduceSub, List.replicate]
  rcases hk with rfl | rfl | rfl | rfl | rfl | rfl | rfl | rfl | rfl | rfl | rfl | rfl | rfl | rfl
  all_goals repeat' first
            | ((with_reducible refine awp_seqQ ?_); intro _ _)
            | ((with_reducible refine awp_region ?_); refine zS ?_)
            | ((with_reducible refine Gd_nd ?_ ?_) <;> intro hb hb2 <;> first | contradiction | (exfalso; omega) | (refine zH hb2 ?_; try clear hb2))
            | ((with_reducible refine Gd_d ?_ ?_) <;> intro hb hb2 <;> first | contradiction | (exfalso; omega) | (refine zH hb2 ?_; try clear hb2))
            | ((with_reducible refine Gd_b ?_ ?_) <;> intro hb <;> first | contradiction | refine zH hb ?_)
            | ((with_reducible refine AWP_c ?_); refine zcdT ?_)
            | ((with_reducible refine AWP_c ?_); refine zcdF ?_)
            | ((with_reducible refine AWP_c ?_); refine zcdD ?_ ?_ <;> intro hb hb2 <;> first | contradiction | (exfalso; omega) | ((try refine zH hb2 ?_); try clear hb2))
            | ((with_reducible refine awp_skip ?_); try refine zS ?_)
            | with_reducible refine awp_block ?_
            | ((with_reducible refine CallK_id ?_); refine zcF ?_; refine ⟨_, by first | exact rOf16_ok t 1 (by omega) | exact rConds_ok c x (by omega) | exact rConds_ok c y (by omega) | exact rLinked_ok _ hs | exact rCheck5_ok _ (gr0_ok (B.mk 14 n x y t c ks l ns fs) hs) | fail, fun _ => rfl, fun _ => rfl, rfl, ?_⟩; try refine zS ?_)
            | ((with_reducible refine awp_ret ?_); refine q_step (by assumption) ?_)
            | with_reducible refine fin_r ?_
            | ((with_reducible refine q_step (by assumption) ?_); try refine zS ?_)
  all_goals (clear hs hz l2 l3; simp only [grB, mk_nodes, mk_flows] at hch; first | (simp [go_sem, rNumF, numF, *]; done) | (simp [go_sem, rNumF, numF, *]; omega) | (simp [go_sem, rNumF, numF]; omega) | (simp [go_sem, rNumF, numF, *]; first | rfl | exact decide_eq_decide.2 Iff.rfl) | (refine congrArg (fun b => A.c (C.d (D.sc (Value.bool b)))) ?_; rw [Bool.eq_iff_iff]; simp [rNumF, numF, go_sem]; first | done | omega | grind) | trace_state)
theorem rNum0_ok (k : Int) (n x y : Int) (t : T) (c : List T) (ks : List B) (l : List Lk) (ns : List Nd) (fs : List Fl) (hs : (B.mk k n x y t c ks l ns fs).size < 1000000000000) (hk : k < 1 ∨ 14 < k) : AFn env 31 [(B.mk k n x y t c ks l ns fs).a] [] (aB (rNumF (B.mk k n x y t c ks l ns fs))) [] := by
  have e1 : ¬ k = 1 := by omega
  have e2 : ¬ k = 2 := by omega
  have e3 : ¬ k = 3 := by omega
  have e4 : ¬ k = 4 := by omega
  have e5 : ¬ k = 5 := by omega
  have e6 : ¬ k = 6 := by omega
  have e7 : ¬ k = 7 := by omega
  have e8 : ¬ k = 8 := by omega
  have e9 : ¬ k = 9 := by omega
  have e10 : ¬ k = 10 := by omega
  have e11 : ¬ k = 11 := by omega
  have e12 : ¬ k = 12 := by omega
  have e13 : ¬ k = 13 := by omega
  have e14 : ¬ k = 14 := by omega
  have hz := B.size_eq (B.mk k n x y t c ks l ns fs)
  have l2 := B.len_le ks
  simp only [mk_kids, mk_t, mk_conds] at hz
  refine afn_body Tryz.func31 rfl (by decide) ?_
  simp only [Tryz.ntmps31, Tryz.results31, List.length_cons, List.length_nil, List.cons_append, List.nil_append, Nat.reduceAdd, Nat.reduceSub, List.replicate]
  repeat' first
  | ((with_reducible refine awp_seqQ ?_); intro _ _)
  | ((with_reducible refine awp_region ?_); refine zS ?_)
  | ((with_reducible refine Gd_d ?_ ?_) <;> intro hb hb2 <;> first | contradiction | (exfalso; omega) | (refine zH hb2 ?_; try clear hb2))
  | ((with_reducible refine AWP_c ?_); refine zcdD ?_ ?_ <;> intro hb hb2 <;> first | contradiction | (exfalso; omega) | ((try refine zH hb2 ?_); try clear hb2))
  | ((with_reducible refine awp_skip ?_); try refine zS ?_)
  | with_reducible refine awp_block ?_
  | ((with_reducible refine awp_ret ?_); refine q_step (by assumption) ?_)
  | with_reducible refine fin_r ?_
  | ((with_reducible refine q_step (by assumption) ?_); try refine zS ?_)
  all_goals simp [go_sem, rNumF, numF, e1, e2, e3, e4, e5, e6, e7, e8, e9, e10, e11, e12, e13, e14]
theorem rNum_ok (b : B) (hs : b.size < 1000000000000) : AFn env 31 [b.a] [] (aB (rNumF b)) [] := by
  cases b with | mk k n x y t c ks l ns fs =>
  by_cases h : k < 1 ∨ 14 < k
  · exact rNum0_ok k n x y t c ks l ns fs hs h
  · exact rNumK_ok k n x y t c ks l ns fs hs (by omega)
end Go.Eng
open Go Go.Proofs
namespace Go.Eng
set_option linter.unusedSimpArgs false
set_option linter.unusedVariables false
set_option maxRecDepth 10000
set_option maxHeartbeats 8000000
theorem bareR_w {N : B → Bool} {b : B} (h : bareR (hasF b) b = false) : rightF N b = false := by rw [rightF_eq, ← rBare_eq, h]; simp
theorem wrongs_drop {N : B → Bool} {k : Int} {l : List B} {i : Nat} (h : i < l.length) : wrongs N k (l.drop i) = (wrong1 N k (gt l i) || wrongs N k (l.drop (i + 1))) := by rw [drop_gt h, wrongs]; rfl
theorem wrong1_iff {N : B → Bool} {k : Int} {x : B} : wrong1 N k x = true ↔ 13 ≤ x.kind ∨ (x.kind = 12 ∧ k ≠ 13) ∨ (x.kind = 10 ∧ k ≠ 9) ∨ (x.kind ≠ 10 ∧ k = 9) ∨ rightF N x = false := by
  unfold wrong1 badK
  by_cases h1 : x.kind = 10 <;> by_cases h2 : k = 9 <;> simp [h1, h2] <;> first | done | grind
theorem wrong1_f {N : B → Bool} {k : Int} {x : B} (h1 : ¬ 13 ≤ x.kind) (h2 : ¬ (x.kind = 12 ∧ k ≠ 13)) (h3 : ¬ (x.kind = 10 ∧ k ≠ 9)) (h4 : ¬ (x.kind ≠ 10 ∧ k = 9)) (h5 : rightF N x = true) : wrong1 N k x = false := by
  cases h : wrong1 N k x with
  | false => rfl
  | true => rcases wrong1_iff.1 h with h | h | h | h | h <;> first | contradiction | (rw [h] at h5; cases h5)
theorem rForm_ok (b : B) (hs : b.size ≤ 100000) : AFn env 18 [b.a] [] (aB (rightF rNumF b)) [] := by
  generalize hn : b.size = n
  induction n using Nat.strongRecOn generalizing b with
  | _ n ih0 =>
    have ih : ∀ k : B, k.size < b.size → AFn env 18 [k.a] [] (aB (rightF rNumF k)) [] := fun k h => ih0 k.size (by omega) k (by omega) rfl
    have hz := b.size_eq
    have l2 := B.len_le b.kids
    refine afn_body Tryz.func18 rfl (by decide) ?_
    simp only [Tryz.ntmps18, Tryz.results18, List.length_cons, List.length_nil, List.cons_append, List.nil_append, Nat.reduceAdd, Nat.reduceSub, List.replicate]
    repeat' first
    | ((with_reducible refine awp_seqQ ?_); intro _ _)
    | ((with_reducible refine awp_region ?_); refine zS ?_)
    | ((with_reducible refine Gd_nd ?_ ?_) <;> intro hb hb2 <;> first | contradiction | (exfalso; omega) | (refine zH hb2 ?_; try clear hb2))
    | ((with_reducible refine Gd_b ?_ ?_) <;> intro hb <;> first | contradiction | refine zH hb ?_)
    | ((with_reducible refine AWP_c ?_); refine zcdT ?_)
    | ((with_reducible refine AWP_c ?_); refine zcdM ?_ ?_ <;> intro hb <;> first | contradiction | (try refine zH hb ?_))
    | ((with_reducible refine awp_skip ?_); try refine zS ?_)
    | with_reducible refine awp_block ?_
    | ((with_reducible refine CallK_id ?_); refine zcF ?_; refine ⟨_, by first | exact rBare_ok b (by omega) | exact rNum_ok b (by omega) | fail, fun _ => rfl, fun _ => rfl, rfl, ?_⟩; try refine zS ?_)
    | ((with_reducible refine awp_ret ?_); refine q_step (by assumption) ?_)
    | with_reducible refine fin_r ?_
    | ((with_reducible refine q_step (by assumption) ?_); try refine zS ?_)
    all_goals try (rw [bareR_w (by assumption)]; done)
    all_goals try (rw [rightF_eq]; simp [*]; done)
    all_goals try (rw [rightF_eq]; simp [*]; omega)
    have h0 : rightF rNumF b = !wrongs rNumF b.kind b.kids := by
      rw [rightF_eq, ← rBare_eq, ‹bareR _ b = true›, ‹rNumF b = true›, decide_eq_true (p := 0 ≤ b.node) (by omega), decide_eq_true (p := b.node < 24) (by omega), wrongs_eq]; rfl
    refine awp_loopT (fun i : Nat => i ≤ b.kids.length ∧ wrongs rNumF b.kind b.kids = wrongs rNumF b.kind (b.kids.drop i)) (fun i => b.kids.length - i) (fun i => [(26, aI i)]) (fun _ => [some (.box b.bs)]) 0 ⟨by omega, rfl⟩ (wk_le (by simp only [go_sem, Bool.not_not, List.mem_singleton, forall_eq, ↓reduceIte, if_pos, rowsAt_map, wrap64, wrapu8, List.getElem?_cons_zero, List.getElem?_cons_succ, Int.reduceToNat, Nat.reduceAdd, Nat.reduceBEq, Bool.or_false, Bool.false_or, Bool.true_or, Nat.reduceSub, Nat.reduceMul, Int.reduceAdd, Int.reduceEq, Int.reduceLT, Int.reduceLE, Int.reduceNeg, Nat.reduceLT, Nat.reduceLeDiff, Nat.reduceEqDiff]; simp) (by simp only [go_sem, Bool.not_not, List.mem_singleton, forall_eq, ↓reduceIte, if_pos, rowsAt_map, wrap64, wrapu8, List.getElem?_cons_zero, List.getElem?_cons_succ, Int.reduceToNat, Nat.reduceAdd, Nat.reduceBEq, Bool.or_false, Bool.false_or, Bool.true_or, Nat.reduceSub, Nat.reduceMul, Int.reduceAdd, Int.reduceEq, Int.reduceLT, Int.reduceLE, Int.reduceNeg, Nat.reduceLT, Nat.reduceLeDiff, Nat.reduceEqDiff, B.bs])) ?_
    rintro i ⟨h1, h2⟩
    simp only [go_sem, Bool.not_not, List.mem_singleton, forall_eq, ↓reduceIte, if_pos, rowsAt_map, wrap64, wrapu8, List.getElem?_cons_zero, List.getElem?_cons_succ, Int.reduceToNat, Nat.reduceAdd, Nat.reduceBEq, Bool.or_false, Bool.false_or, Bool.true_or, Nat.reduceSub, Nat.reduceMul, Int.reduceAdd, Int.reduceEq, Int.reduceLT, Int.reduceLE, Int.reduceNeg, Nat.reduceLT, Nat.reduceLeDiff, Nat.reduceEqDiff, B.bs]
    repeat' first
    | ((with_reducible refine awp_seqQ ?_); intro _ _)
    | ((with_reducible refine awp_region ?_); refine zS ?_)
    | ((with_reducible refine Gd_nd ?_ ?_) <;> intro hb hb2 <;> first | contradiction | (exfalso; omega) | (refine zH hb2 ?_; try clear hb2))
    | ((with_reducible refine Gd_d ?_ ?_) <;> intro hb hb2 <;> first | contradiction | (exfalso; omega) | (refine zH hb2 ?_; try clear hb2))
    | ((with_reducible refine AWP_c ?_); refine zcdT ?_)
    | ((with_reducible refine AWP_c ?_); refine zcdD ?_ ?_ <;> intro hb hb2 <;> first | contradiction | (exfalso; omega) | ((try refine zH hb2 ?_); try clear hb2))
    | ((with_reducible refine AWP_c ?_); refine zcdM ?_ ?_ <;> intro hb <;> first | contradiction | (try refine zH hb ?_))
    | ((with_reducible refine awp_skip ?_); try refine zS ?_)
    | with_reducible refine awp_block ?_
    | ((with_reducible refine awp_exit ?_); try refine zS ?_)
    | ((with_reducible refine CallK_id ?_); refine zcF ?_; refine ⟨_, by first | exact ih (gt b.kids i) (B.size_lt (gt_mem (by omega))) | fail, fun _ => rfl, fun _ => rfl, rfl, ?_⟩; try refine zS ?_)
    | ((with_reducible refine awp_ret ?_); refine q_step (by assumption) ?_)
    | with_reducible refine fin_r ?_
    | ((with_reducible refine q_step (by assumption) ?_); try refine zS ?_)
    all_goals first
      | (rw [h0, h2, wrongs_drop (by omega), wrong1_iff.2 (by first | (exfalso; omega) | exact .inr (.inr (.inr (.inr (by assumption)))) | exact .inl (by omega) | exact .inr (.inl (by omega)) | exact .inr (.inr (.inl (by omega))) | exact .inr (.inr (.inr (.inl (by omega)))))]; rfl)
      | exact ⟨i + 1, ⟨by omega, by rw [h2, wrongs_drop (by omega), wrong1_f (by omega) (by omega) (by omega) (by omega) (by assumption)]; rfl⟩, by omega, wk_cl 1 (by decide) (by simp) (by simp only [go_sem, Bool.not_not, List.mem_singleton, forall_eq, ↓reduceIte, if_pos, rowsAt_map, wrap64, wrapu8, List.getElem?_cons_zero, List.getElem?_cons_succ, Int.reduceToNat, Nat.reduceAdd, Nat.reduceBEq, Bool.or_false, Bool.false_or, Bool.true_or, Nat.reduceSub, Nat.reduceMul, Int.reduceAdd, Int.reduceEq, Int.reduceLT, Int.reduceLE, Int.reduceNeg, Nat.reduceLT, Nat.reduceLeDiff, Nat.reduceEqDiff]; simp) (by simp only [go_sem, Bool.not_not, List.mem_singleton, forall_eq, ↓reduceIte, if_pos, rowsAt_map, wrap64, wrapu8, List.getElem?_cons_zero, List.getElem?_cons_succ, Int.reduceToNat, Nat.reduceAdd, Nat.reduceBEq, Bool.or_false, Bool.false_or, Bool.true_or, Nat.reduceSub, Nat.reduceMul, Int.reduceAdd, Int.reduceEq, Int.reduceLT, Int.reduceLE, Int.reduceNeg, Nat.reduceLT, Nat.reduceLeDiff, Nat.reduceEqDiff, B.bs])⟩
      | (rw [h0, h2, List.drop_eq_nil_of_le (by omega), wrongs]; rfl)
      | trace_state
theorem timess_drop {n : Int} {l : List B} {i : Nat} (h : i < l.length) : timess n (l.drop i) = timesF n (gt l i) + timess n (l.drop (i + 1)) := by rw [drop_gt h, timess]
theorem nmd_t {b : B} {i : Int} (h : inF (hasF b) 110 = true) (h2 : b.node = i) : nmd b i = 1 := if_pos ⟨h, h2⟩
mutual
theorem timesF_le (n : Int) : ∀ b : B, timesF n b ≤ b.count
  | .mk k m x y t c ks l ns fs => by
    have := timess_le n ks
    have h1 : nmd (.mk k m x y t c ks l ns fs) n ≤ 1 := by unfold nmd; split <;> omega
    rw [timesF, B.count]; omega
theorem timess_le (n : Int) : ∀ l : List B, timess n l ≤ B.counts l
  | [] => by rw [timess]; omega
  | b :: l => by have := timesF_le n b; have := timess_le n l; rw [timess, B.counts]; omega
end
theorem has_len (b : B) : (hasF b).length ≤ 5 := by rcases has_some b with h | h | h | h | h | h | h | h | h | h | h | h <;> rw [h] <;> decide
theorem rTimes_ok (b : B) (m : Int) (hs : b.size ≤ 100000) : AFn env 19 [b.a, aI m] [] (aI (timesF m b)) [] := by
  generalize hn : b.size = n
  induction n using Nat.strongRecOn generalizing b with
  | _ n ih0 =>
    have ih : ∀ k : B, k.size < b.size → AFn env 19 [k.a, aI m] [] (aI (timesF m k)) [] := fun k h => ih0 k.size (by omega) k (by omega) rfl
    have hz := b.size_eq
    have l2 := B.len_le b.kids
    have hd := b.count_le
    have ht := timesF_le m b
    have hte := timesF_eq m b
    refine afn_body Tryz.func19 rfl (by decide) ?_
    simp only [Tryz.ntmps19, Tryz.results19, List.length_cons, List.length_nil, List.cons_append, List.nil_append, Nat.reduceAdd, Nat.reduceSub, List.replicate]
    repeat' first
    | ((with_reducible refine awp_seqQ ?_); intro _ _)
    | ((with_reducible refine awp_region ?_); refine zS ?_)
    | ((with_reducible refine Gd_b ?_ ?_) <;> intro hb <;> first | contradiction | refine zH hb ?_)
    | ((with_reducible refine AWP_c ?_); refine zcdF ?_)
    | ((with_reducible refine AWP_c ?_); refine zcdD ?_ ?_ <;> intro hb hb2 <;> first | contradiction | (exfalso; omega) | ((try refine zH hb2 ?_); try clear hb2))
    | ((with_reducible refine awp_skip ?_); try refine zS ?_)
    | with_reducible refine awp_block ?_
    | ((with_reducible refine CallK_id ?_); refine zcF ?_; refine ⟨_, by first | exact has_ok b | exact in_ok (hasF b) 110 (by have := has_len b; omega) | fail, fun _ => rfl, fun _ => rfl, rfl, ?_⟩; try refine zS ?_)
    | ((with_reducible refine q_step (by assumption) ?_); try refine zS ?_)
    all_goals first
      | have hn1 : nmd b m = 1 := nmd_t (by assumption) (by assumption)
      | have hn1 : nmd b m = 0 := if_neg (by rintro ⟨h, h'⟩; first | contradiction | (rw [‹inF (hasF b) 110 = false›] at h; cases h))
    all_goals (
      refine awp_loopT (fun s : Nat × Nat => s.1 ≤ b.kids.length ∧ s.2 + timess m (b.kids.drop s.1) = timesF m b) (fun s => b.kids.length - s.1) (fun s => [(5, aI s.2), (20, aI s.1)]) (fun s => [some (.box b.bs)]) (0, nmd b m) ⟨by simp, by simp [hte]⟩ (wk_le (by simp only [go_sem, Bool.not_not, List.mem_singleton, forall_eq, ↓reduceIte, if_pos, rowsAt_map, wrap64, wrapu8, List.getElem?_cons_zero, List.getElem?_cons_succ, Int.reduceToNat, Nat.reduceAdd, Nat.reduceBEq, Bool.or_false, Bool.false_or, Bool.true_or, Nat.reduceSub, Nat.reduceMul, Int.reduceAdd, Int.reduceEq, Int.reduceLT, Int.reduceLE, Int.reduceNeg, Nat.reduceLT, Nat.reduceLeDiff, Nat.reduceEqDiff, hn1]; simp) (by simp only [go_sem, Bool.not_not, List.mem_singleton, forall_eq, ↓reduceIte, if_pos, rowsAt_map, wrap64, wrapu8, List.getElem?_cons_zero, List.getElem?_cons_succ, Int.reduceToNat, Nat.reduceAdd, Nat.reduceBEq, Bool.or_false, Bool.false_or, Bool.true_or, Nat.reduceSub, Nat.reduceMul, Int.reduceAdd, Int.reduceEq, Int.reduceLT, Int.reduceLE, Int.reduceNeg, Nat.reduceLT, Nat.reduceLeDiff, Nat.reduceEqDiff, B.bs])) ?_
      clear hn1
      rintro ⟨i, c⟩ ⟨h1, h2⟩
      simp only at h1 h2
      have hc : i < b.kids.length → c + timesF m (gt b.kids i) ≤ b.count := fun h => by rw [timess_drop h] at h2; omega
      simp only [go_sem, Bool.not_not, List.mem_singleton, forall_eq, ↓reduceIte, if_pos, rowsAt_map, wrap64, wrapu8, List.getElem?_cons_zero, List.getElem?_cons_succ, Int.reduceToNat, Nat.reduceAdd, Nat.reduceBEq, Bool.or_false, Bool.false_or, Bool.true_or, Nat.reduceSub, Nat.reduceMul, Int.reduceAdd, Int.reduceEq, Int.reduceLT, Int.reduceLE, Int.reduceNeg, Nat.reduceLT, Nat.reduceLeDiff, Nat.reduceEqDiff, B.bs])
    all_goals repeat' first
              | ((with_reducible refine awp_seqQ ?_); intro _ _)
              | ((with_reducible refine awp_region ?_); refine zS ?_)
              | ((with_reducible refine AWP_c ?_); refine zcdD ?_ ?_ <;> intro hb hb2 <;> first | contradiction | (exfalso; omega) | ((try refine zH hb2 ?_); try clear hb2))
              | ((with_reducible refine awp_skip ?_); try refine zS ?_)
              | with_reducible refine awp_block ?_
              | ((with_reducible refine awp_exit ?_); try refine zS ?_)
              | ((with_reducible refine CallK_id ?_); refine zcF ?_; refine ⟨_, by first | exact ih (gt b.kids i) (B.size_lt (gt_mem (by omega))) | fail, fun _ => rfl, fun _ => rfl, rfl, ?_⟩; try refine zS ?_)
              | ((with_reducible refine awp_ret ?_); refine q_step (by assumption) ?_)
              | with_reducible refine fin_r ?_
              | ((with_reducible refine q_step (by assumption) ?_); try refine zS ?_)
    all_goals first
      | (have hi : i < b.kids.length := (by omega)
         rw [timess_drop hi] at h2
         exact ⟨(i + 1, c + timesF m (gt b.kids i)), ⟨by simp only; omega, by simp only; omega⟩, by simp only; omega, wk_cl 1 (by decide) (by simp) (by simp only [go_sem, Bool.not_not, List.mem_singleton, forall_eq, ↓reduceIte, if_pos, rowsAt_map, wrap64, wrapu8, List.getElem?_cons_zero, List.getElem?_cons_succ, Int.reduceToNat, Nat.reduceAdd, Nat.reduceBEq, Bool.or_false, Bool.false_or, Bool.true_or, Nat.reduceSub, Nat.reduceMul, Int.reduceAdd, Int.reduceEq, Int.reduceLT, Int.reduceLE, Int.reduceNeg, Nat.reduceLT, Nat.reduceLeDiff, Nat.reduceEqDiff]; simp; try omega) (by simp only [go_sem, Bool.not_not, List.mem_singleton, forall_eq, ↓reduceIte, if_pos, rowsAt_map, wrap64, wrapu8, List.getElem?_cons_zero, List.getElem?_cons_succ, Int.reduceToNat, Nat.reduceAdd, Nat.reduceBEq, Bool.or_false, Bool.false_or, Bool.true_or, Nat.reduceSub, Nat.reduceMul, Int.reduceAdd, Int.reduceEq, Int.reduceLT, Int.reduceLE, Int.reduceNeg, Nat.reduceLT, Nat.reduceLeDiff, Nat.reduceEqDiff, B.bs])⟩)
      | (rw [List.drop_eq_nil_of_le (by omega), timess] at h2
         rw [show c = timesF m b by omega])
      | trace_state
theorem any24 {b : B} : ((List.range' 0 24).any fun i : Nat => decide (timesF i b > 1)) = ((List.range' 0 (24 - 0)).any fun i : Nat => decide (timesF i b > 1)) := rfl
theorem rCheck16_ok (b : B) (hs : b.size ≤ 100000) : AFn env 8 [b.a] [] (aI (checkF numF b)) [] := by
  rw [← rChk_eq]
  have hc := b.count_le
  have hd := deepF_le b
  refine afn_body Tryz.func8 rfl (by decide) ?_
  simp only [Tryz.ntmps8, Tryz.results8, List.length_cons, List.length_nil, List.cons_append, List.nil_append, Nat.reduceAdd, Nat.reduceSub, List.replicate]
  repeat' first
  | with_reducible refine awp_seq ?_
  | ((with_reducible refine awp_region ?_); refine zS ?_)
  | ((with_reducible refine Gd_nd ?_ ?_) <;> intro hb hb2 <;> first | contradiction | (exfalso; omega) | (refine zH hb2 ?_; try clear hb2))
  | ((with_reducible refine AWP_c ?_); refine zcdT ?_)
  | ((with_reducible refine AWP_c ?_); refine zcdD ?_ ?_ <;> intro hb hb2 <;> first | contradiction | (exfalso; omega) | ((try refine zH hb2 ?_); try clear hb2))
  | ((with_reducible refine AWP_c ?_); refine zcdM ?_ ?_ <;> intro hb <;> first | contradiction | (try refine zH hb ?_))
  | ((with_reducible refine awp_ret ?_); refine fin_r ?_)
  | ((with_reducible refine awp_skip ?_); refine zS ?_)
  | with_reducible refine awp_block ?_
  | ((with_reducible refine CallK_id ?_); refine zcF ?_; refine ⟨_, by first | exact rSize_ok b (by omega) | exact rDepth_ok b (by omega) | exact rForm_ok b hs | fail, fun _ => rfl, fun _ => rfl, rfl, ?_⟩; try refine zS ?_)
  all_goals first
    | (simp only [rChkF]; rw [if_pos (by first | exact .inl (by omega) | exact .inr (by omega))]; done)
    | (simp only [rChkF]; rw [if_neg (by omega), if_pos (by first | exact .inl (by assumption) | exact .inr (.inl (by assumption)) | exact .inr (.inr (by assumption)))]; done)
    | skip
  have h0 : rChkF b = if ((List.range' 0 24).any fun i : Nat => decide (timesF i b > 1)) = true then 8 else 0 := by
    simp only [rChkF]
    rw [if_neg (by omega), if_neg (by rintro (h | h | h) <;> simp_all)]
  refine awp_loopT (fun i : Nat => i ≤ 24 ∧ rChkF b = if ((List.range' i (24 - i)).any fun i : Nat => decide (timesF i b > 1)) = true then 8 else 0) (fun i => 24 - i) (fun i => [(3, aI i)]) (fun _ => [some (.box b.bs)]) 0 ⟨by omega, h0⟩ zwl ?_
  rintro i ⟨h1, h2⟩
  refine zT ?_
  repeat' first
  | with_reducible refine awp_seq ?_
  | ((with_reducible refine awp_region ?_); refine zS ?_)
  | ((with_reducible refine AWP_c ?_); refine zcdD ?_ ?_ <;> intro hb hb2 <;> first | contradiction | (exfalso; omega) | ((try refine zH hb2 ?_); try clear hb2))
  | ((with_reducible refine awp_ret ?_); refine fin_r ?_)
  | ((with_reducible refine awp_skip ?_); refine zS ?_)
  | with_reducible refine awp_block ?_
  | ((with_reducible refine awp_exit ?_); refine zS ?_)
  | ((with_reducible refine CallK_id ?_); refine zcF ?_; refine ⟨_, by first | exact rTimes_ok b i hs | fail, fun _ => rfl, fun _ => rfl, rfl, ?_⟩; try refine zS ?_)
  · rw [h2, any_t (by omega) (by simp; omega), if_pos rfl]
  · exact ⟨i + 1, ⟨by omega, by rw [h2, any_f (by omega) (by simp; omega)]⟩, by omega, zwc 1⟩
  rw [h2, show 24 - i = 0 by omega]; rfl
end Go.Eng
open Go Go.Proofs
namespace Go.Eng
set_option linter.unusedSimpArgs false
set_option linter.unusedVariables false
set_option maxRecDepth 10000
set_option maxHeartbeats 8000000
theorem lawC_ok (b : B) : AFn env 3 [b.a] [] (aB true) [] := by
  refine afn_body Tryz.func3 rfl (by decide) ?_
  simp only [Tryz.ntmps3, Tryz.results3, List.length_cons, List.length_nil, List.cons_append, List.nil_append, Nat.reduceAdd, Nat.reduceSub, List.replicate]
  repeat' first
  | ((with_reducible refine awp_seqQ ?_); intro _ _)
  | ((with_reducible refine awp_region ?_); refine zS ?_)
  | ((with_reducible refine awp_drawnA ?_ ?_); rfl; refine zS ?_)
  | ((with_reducible refine DStep_id ?_); refine zdP ?_; refine ⟨_, by first | exact twice_ok | exact check_okA b (not_large ‹(largeB b 1500 1).1 = false› (by decide) (by decide)) | exact rCheck16_ok b (not_large ‹(largeB b 1500 1).1 = false› (by decide) (by decide)) | exact ref_ok b (by have := not_large ‹(largeB b 1500 1).1 = false› (by decide) (by decide); omega) | fail, fun _ => rfl, fun _ => rfl, rfl, (fun h => by first | cases h | fail), ?_⟩; try refine zS ?_)
  | ((with_reducible refine AWP_c ?_); refine zcdB ?_ ?_ <;> intro hb <;> first | contradiction | (try refine zH hb ?_))
  | ((with_reducible refine awp_skip ?_); try refine zS ?_)
  | ((with_reducible refine CallK_id ?_); refine zcF ?_; refine ⟨_, by first | exact twice_ok | exact check_okA b (not_large ‹(largeB b 1500 1).1 = false› (by decide) (by decide)) | exact rCheck16_ok b (not_large ‹(largeB b 1500 1).1 = false› (by decide) (by decide)) | exact ref_ok b (by have := not_large ‹(largeB b 1500 1).1 = false› (by decide) (by decide); omega) | fail, fun _ => rfl, fun _ => rfl, rfl, ?_⟩; try refine zS ?_)
  | ((with_reducible refine CallK_id ?_); refine zcT [1] ?_; refine ⟨_, _, by first | exact large_ok b 1500 1 (by decide) (by decide) (by decide) (by decide) | fail, ?_⟩; try refine zS ?_)
  | ((with_reducible refine awp_ret ?_); refine q_step (by assumption) ?_)
  | with_reducible refine fin_r ?_
  | ((with_reducible refine q_step (by assumption) ?_); try refine zS ?_)
  all_goals first | rfl | trace_state
def sqB (a b : B) : B := .mk 6 0 0 0 t0 [] [a, b] [] [] []
def sqA (a b : B) : A := .agg [.d (dI 6), .d (dI 0), .d (dI 0), .d (dI 0), .d (dI 0), .d (dI 0), .d (.fz []), .d (.fz []), .d (.fz [a.cs, b.cs]), .d (.fz []), .d (.fz []), .d (.fz [])]
attribute [go_sem] sqA B.cs
theorem sq_a (a b : B) : (sqB a b).a = sqA a b := by
  simp only [sqB, sqA, B.a, B.cs, mk_kind, mk_node, mk_x, mk_y, mk_t, mk_conds, mk_kids, mk_links, mk_nodes, mk_flows, List.map_cons, List.map_nil, B.row_eq, t0, T.op, T.n, T.kids]
theorem sq_big {a b : B} (h : (sqB a b).count > 96 ∨ deepF (sqB a b) > 24) : checkF numF (sqB a b) = 2 := by unfold checkF; rw [if_pos h]
theorem check_right {b : B} (h : checkF numF b = 0) : rightF numF b = true ∧ b.kind ≠ 10 ∧ b.kind ≠ 12 := by
  unfold checkF at h
  split at h
  · cases h
  · split at h
    · cases h
    · rename_i q
      refine ⟨?_, fun e => q (.inl e), fun e => q (.inr (.inl e))⟩
      cases hh : rightF numF b with
      | true => rfl
      | false => exact absurd (.inr (.inr hh)) q
theorem sq_right {a b : B} (ha : checkF numF a = 0) (hb : checkF numF b = 0) (h1 : a.kind < 13) (h2 : b.kind < 13) : rightF numF (sqB a b) = true := by
  obtain ⟨a1, a2, a3⟩ := check_right ha
  obtain ⟨b1, b2, b3⟩ := check_right hb
  rw [rightF_eq, eqB_0]
  have w1 : wrong1 numF 6 a = false := by simp [wrong1, badK, a1, a2, a3]; omega
  have w2 : wrong1 numF 6 b = false := by simp [wrong1, badK, b1, b2, b3]; omega
  simp [sqB, bareF, mk_kind, mk_node, mk_x, mk_y, mk_t, mk_conds, mk_kids, mk_links, mk_nodes, mk_flows, numF, w1, w2, noneF_t0]
theorem sq_kind {a b : B} (h0 : ¬ ((sqB a b).count > 96 ∨ deepF (sqB a b) > 24)) (h : a.kind ≥ 13 ∨ b.kind ≥ 13) : checkF numF (sqB a b) = 4 := by
  unfold checkF
  rw [if_neg h0, if_pos]
  refine .inr (.inr ?_)
  rw [rightF_eq]
  have : ((sqB a b).kids.any (wrong1 numF (sqB a b).kind)) = true := by
    simp only [sqB, mk_kids, mk_kind, List.any_cons, List.any_nil, Bool.or_false, Bool.or_eq_true, wrong1, badK, decide_eq_true_eq]
    rcases h with h | h
    · exact .inl (.inl (.inl (.inl h)))
    · exact .inr (.inl (.inl (.inl h)))
  rw [this]; simp
theorem sq_rest {a b : B} (h0 : ¬ ((sqB a b).count > 96 ∨ deepF (sqB a b) > 24)) (ha : checkF numF a = 0) (hb : checkF numF b = 0) (h1 : a.kind < 13) (h2 : b.kind < 13) : checkF numF (sqB a b) = 0 ∨ checkF numF (sqB a b) = 8 := by
  have hr := sq_right ha hb h1 h2
  unfold checkF
  rw [if_neg h0, if_neg (by rw [hr]; simp [sqB, mk_kind])]
  split
  · exact .inr rfl
  · exact .inl rfl
theorem not_large6 {b : B} (h : (largeB b 600 1).1 = false) : b.size ≤ 49000 := by
  have := (largeB_le b 600 1)
  have h2 := this.2.2 h
  omega
theorem lawR_ok (a b : B) : AFn env 4 [a.a, b.a] [] (aB true) [] := by
  refine afn_body Tryz.func4 rfl (by decide) ?_
  simp only [Tryz.ntmps4, Tryz.results4, List.length_cons, List.length_nil, List.cons_append, List.nil_append, Nat.reduceAdd, Nat.reduceSub, List.replicate]
  refine awp_seq ?_
  refine awp_region ?_
  refine zT ?_
  refine awp_cut (fun _ : Unit => (a.size ≤ 49000 ∧ b.size ≤ 49000) ∧ checkF numF a = 0 ∧ checkF numF b = 0) (fun _ => []) (fun _ => [some (.box a.bs), some (.box b.bs)]) ?_ ?_
  · repeat' first
    | ((with_reducible refine awp_seqQ ?_); intro _ _)
    | ((with_reducible refine awp_region ?_); refine zS ?_)
    | ((with_reducible refine Gd_nb ?_ ?_) <;> intro hb <;> first | contradiction | refine zH hb ?_)
    | ((with_reducible refine Gd_d ?_ ?_) <;> intro hb hb2 <;> first | contradiction | (exfalso; omega) | (refine zH hb2 ?_; try clear hb2))
    | ((with_reducible refine AWP_c ?_); refine zcdT ?_)
    | ((with_reducible refine AWP_c ?_); refine zcdN ?_ ?_ <;> intro hb hb2 <;> first | contradiction | (exfalso; omega) | ((try refine zH hb2 ?_); try clear hb2))
    | ((with_reducible refine awp_skip ?_); try refine zS ?_)
    | ((with_reducible refine CallK_id ?_); refine zcF ?_; refine ⟨_, by first | exact twice_ok | exact check_okA a (not_large ‹(largeB a 600 1).1 = false› (by decide) (by decide)) | exact check_okA b (not_large ‹(largeB b 600 1).1 = false› (by decide) (by decide)) | fail, fun _ => rfl, fun _ => rfl, rfl, ?_⟩; try refine zS ?_)
    | ((with_reducible refine CallK_id ?_); refine zcT [2] ?_; refine ⟨_, _, by first | exact large_ok a 600 1 (by decide) (by decide) (by decide) (by decide) | exact large_ok b 600 1 (by decide) (by decide) (by decide) (by decide) | fail, ?_⟩; try refine zS ?_)
    | ((with_reducible refine CallK_id ?_); refine zcT [3] ?_; refine ⟨_, _, by first | exact large_ok b 600 1 (by decide) (by decide) (by decide) (by decide) | fail, ?_⟩; try refine zS ?_)
    | ((with_reducible refine awp_ret ?_); refine q_step (by assumption) ?_)
    | with_reducible refine fin_r ?_
    | ((with_reducible refine q_step (by assumption) ?_); try refine zS ?_)
    all_goals first
      | rfl
      | exact ⟨(), ⟨⟨not_large6 (by assumption), not_large6 (by assumption)⟩, by assumption, by assumption⟩, zwc 2⟩
      | trace_state
  rintro _ ⟨⟨g1, g2⟩, g3, g4⟩
  refine zT ?_
  refine awp_seq ?_
  refine awp_region ?_
  refine zS ?_
  refine awp_wk (wk_fzB (i := 3) (j := 8) rfl) ?_
  refine zT ?_
  have hsz : (sqB a b).size ≤ 100000 := by rw [sqB, B.size]; simp [B.sizes, T.size, T.sizes, t0, Nd.sizes, Fl.sizes]; omega
  have c1 := check_okA (sqB a b) hsz
  have c2 := rCheck16_ok (sqB a b) hsz
  have c3 := ref_ok (sqB a b) (by omega)
  have c4 := rSize_ok (sqB a b) (by omega)
  have c5 := rDepth_ok (sqB a b) (by omega)
  rw [sq_a] at c1 c2 c3 c4 c5
  repeat' first
  | ((with_reducible refine awp_seqQ ?_); intro _ _)
  | ((with_reducible refine awp_region ?_); refine zS ?_)
  | ((with_reducible refine Gd_nd ?_ ?_) <;> intro hb hb2 <;> first | contradiction | (exfalso; omega) | (refine zH hb2 ?_; try clear hb2))
  | ((with_reducible refine Gd_d ?_ ?_) <;> intro hb hb2 <;> first | contradiction | (exfalso; omega) | (refine zH hb2 ?_; try clear hb2))
  | ((with_reducible refine AWP_c ?_); refine zcdT ?_)
  | ((with_reducible refine AWP_c ?_); refine zcdD ?_ ?_ <;> intro hb hb2 <;> first | contradiction | (exfalso; omega) | ((try refine zH hb2 ?_); try clear hb2))
  | ((with_reducible refine awp_skip ?_); try refine zS ?_)
  | ((with_reducible refine CallK_id ?_); refine zcF ?_; refine ⟨_, by first | exact twice_ok | exact c1 | exact c2 | exact c3 | exact c4 | exact c5 | fail, fun _ => rfl, fun _ => rfl, rfl, ?_⟩; try refine zS ?_)
  | ((with_reducible refine awp_ret ?_); refine q_step (by assumption) ?_)
  | with_reducible refine fin_r ?_
  | ((with_reducible refine q_step (by assumption) ?_); try refine zS ?_)
  all_goals clear c1 c2 c3 c4 c5
  all_goals first
    | rfl
    | exact absurd (sq_big (a := a) (b := b) (by omega)) ‹¬ checkF numF (sqB a b) = 2›
    | exact absurd (sq_kind (a := a) (b := b) (by omega) (by omega)) ‹¬ checkF numF (sqB a b) = 4›
    | (rcases sq_rest (a := a) (b := b) (by omega) g3 g4 (by omega) (by omega) with h | h <;> contradiction)
    | trace_state
end Go.Eng
open Go Go.Proofs Go.RowKit
namespace Go.Eng
set_option linter.unusedSimpArgs false
set_option linter.unusedVariables false
set_option maxRecDepth 100000

section
variable {H : Type} {enc : TypeId × Value → H} {W : World} {F : Nat → Prop} {base : Nat} {spare : Nat → Bool} {held : Bool}
theorem opD_T (hF : ∀ a u, W.cell? a = some u → F a.block) : ∀ n, OpD enc Tryz.prog W F base spare held 24 T.row (fun _ => True) n := by
  refine opD_fix (fun n ih => ?_)
  have hk : ∀ m, m < n → OpD enc Tryz.prog W F base spare held 22 (fun xs : List T => [.fz (xs.map T.row)]) _ m := fun m hm => opD_slice (s := 3) (B := 40) hF Tryz.underlying22 (by kernel_rfl) (by kernel_rfl) (by decide) (fun a => by cases a; rfl) (fun m' hm' => ih m' (by omega))
  refine opD_imp (opD_struct (β := T) (g := fun x : Int × Int × List T × Unit => .mk x.1 x.2.1 x.2.2.1) (f := fun t => (t.op, t.n, t.kids, ())) Tryz.underlying24 (by kernel_rfl) (fun a => rfl) (fun m hm => opDF_cons (s := 1) rfl (by kernel_rfl) (opD_int Tryz.underlying3) (opDF_cons (s := 1) rfl (by kernel_rfl) (opD_int Tryz.underlying3) (opDF_cons (s := 1) rfl (by kernel_rfl) (hk m hm) opDF_nil)))) (fun t => ?_) (fun _ _ => trivial)
  rw [T.row_eq]; rfl
theorem opD_Ts (hF : ∀ a u, W.cell? a = some u → F a.block) (n : Nat) : OpD enc Tryz.prog W F base spare held 22 (fun xs : List T => [.fz (xs.map T.row)]) (fun _ => True) n :=
  opD_imp (opD_slice (s := 3) (B := 40) hF Tryz.underlying22 (by kernel_rfl) (by kernel_rfl) (by decide) (fun a => by cases a; rfl) (fun m' _ => opD_T hF m')) (fun _ => rfl) (fun _ _ => trivial)
theorem opD_Nd (hF : ∀ a u, W.cell? a = some u → F a.block) (n : Nat) : OpD enc Tryz.prog W F base spare held 50 Nd.row (fun _ => True) n := by
  refine opD_imp (opD_struct (β := Nd) (g := fun x : Int × Int × T × Unit => ⟨x.1, x.2.1, x.2.2.1⟩) (f := fun d => (d.kind, d.x, d.t, ())) Tryz.underlying50 (by kernel_rfl) (fun a => rfl) (fun m hm => opDF_cons (s := 1) rfl (by kernel_rfl) (opD_int Tryz.underlying3) (opDF_cons (s := 1) rfl (by kernel_rfl) (opD_int Tryz.underlying3) (opDF_cons (s := 3) rfl (by kernel_rfl) (opD_T hF m) opDF_nil)))) (fun t => ?_) (fun _ _ => trivial)
  simp only [T.row_eq]; rfl
theorem opD_Fl (hF : ∀ a u, W.cell? a = some u → F a.block) (n : Nat) : OpD enc Tryz.prog W F base spare held 52 Fl.row (fun _ => True) n := by
  refine opD_imp (opD_struct (β := Fl) (g := fun x : Int × Int × Bool × T × Unit => ⟨x.1, x.2.1, x.2.2.1, x.2.2.2.1⟩) (f := fun d => (d.src, d.dst, d.els, d.t, ())) Tryz.underlying52 (by kernel_rfl) (fun a => rfl) (fun m hm => opDF_cons (s := 1) rfl (by kernel_rfl) (opD_int Tryz.underlying3) (opDF_cons (s := 1) rfl (by kernel_rfl) (opD_int Tryz.underlying3) (opDF_cons (s := 1) rfl (by kernel_rfl) (opD_bool Tryz.underlying4) (opDF_cons (s := 3) rfl (by kernel_rfl) (opD_T hF m) opDF_nil))))) (fun t => ?_) (fun _ _ => trivial)
  simp only [T.row_eq]; rfl
theorem opD_Lk (n : Nat) : OpD enc Tryz.prog W F base spare held 62 Lk.row (fun _ => True) n := by
  refine opD_imp (opD_struct (β := Lk) (g := fun x : Int × Int × Unit => ⟨x.1, x.2.1⟩) (f := fun d => (d.src, d.dst, ())) Tryz.underlying62 (by kernel_rfl) (fun a => rfl) (fun m hm => opDF_cons (s := 1) rfl (by kernel_rfl) (opD_int Tryz.underlying3) (opDF_cons (s := 1) rfl (by kernel_rfl) (opD_int Tryz.underlying3) opDF_nil))) (fun t => rfl) (fun _ _ => trivial)
theorem opD_Nt (hF : ∀ a u, W.cell? a = some u → F a.block) (n : Nat) : OpD enc Tryz.prog W F base spare held 30 (fun x : List Nd × List Fl => [.fz (x.1.map Nd.row), .fz (x.2.map Fl.row)]) (fun _ => True) n := by
  have h1 : ∀ m, OpD enc Tryz.prog W F base spare held 27 (fun xs : List Nd => [.fz (xs.map Nd.row)]) _ m := fun m => opD_slice (s := 5) (B := 56) hF Tryz.underlying27 (by kernel_rfl) (by kernel_rfl) (by decide) (fun a => rfl) (fun m' _ => opD_Nd hF m')
  have h2 : ∀ m, OpD enc Tryz.prog W F base spare held 28 (fun xs : List Fl => [.fz (xs.map Fl.row)]) _ m := fun m => opD_slice (s := 6) (B := 64) hF Tryz.underlying28 (by kernel_rfl) (by kernel_rfl) (by decide) (fun a => rfl) (fun m' _ => opD_Fl hF m')
  exact opD_imp (opD_struct (β := List Nd × List Fl) (g := fun x : List Nd × List Fl × Unit => (x.1, x.2.1)) (f := fun d => (d.1, d.2, ())) Tryz.underlying30 (by kernel_rfl) (fun a => rfl) (fun m hm => opDF_cons (s := 1) rfl (by kernel_rfl) (h1 m) (opDF_cons (s := 1) rfl (by kernel_rfl) (h2 m) opDF_nil))) (fun t => rfl) (fun _ _ => trivial)
theorem opD_B (hF : ∀ a u, W.cell? a = some u → F a.block) : ∀ n, OpD enc Tryz.prog W F base spare held 32 B.row (fun _ => True) n := by
  refine opD_fix (fun n ih => ?_)
  have hk : ∀ m, m < n → OpD enc Tryz.prog W F base spare held 25 (fun xs : List B => [.fz (xs.map B.row)]) _ m := fun m hm => opD_slice (s := 12) (B := 192) hF Tryz.underlying25 (by kernel_rfl) (by kernel_rfl) (by decide) (fun a => by cases a; rfl) (fun m' hm' => ih m' (by omega))
  have hl : ∀ m, OpD enc Tryz.prog W F base spare held 26 (fun xs : List Lk => [.fz (xs.map Lk.row)]) _ m := fun m => opD_slice (s := 2) (B := 16) hF Tryz.underlying26 (by kernel_rfl) (by kernel_rfl) (by decide) (fun a => rfl) (fun m' _ => opD_Lk m')
  refine opD_imp (opD_struct (β := B) (g := fun x : Int × Int × Int × Int × T × List T × List B × List Lk × (List Nd × List Fl) × Unit => .mk x.1 x.2.1 x.2.2.1 x.2.2.2.1 x.2.2.2.2.1 x.2.2.2.2.2.1 x.2.2.2.2.2.2.1 x.2.2.2.2.2.2.2.1 x.2.2.2.2.2.2.2.2.1.1 x.2.2.2.2.2.2.2.2.1.2) (f := fun b => (b.kind, b.node, b.x, b.y, b.t, b.conds, b.kids, b.links, (b.nodes, b.flows), ())) Tryz.underlying32 (by kernel_rfl) (fun a => rfl)
    (fun m hm => opDF_cons (s := 1) rfl (by kernel_rfl) (opD_int Tryz.underlying3) (opDF_cons (s := 1) rfl (by kernel_rfl) (opD_int Tryz.underlying3) (opDF_cons (s := 1) rfl (by kernel_rfl) (opD_int Tryz.underlying3) (opDF_cons (s := 1) rfl (by kernel_rfl) (opD_int Tryz.underlying3)
      (opDF_cons (s := 3) rfl (by kernel_rfl) (opD_T hF m) (opDF_cons (s := 1) rfl (by kernel_rfl) (opD_Ts hF m) (opDF_cons (s := 1) rfl (by kernel_rfl) (hk m hm) (opDF_cons (s := 1) rfl (by kernel_rfl) (hl m) (opDF_cons (s := 2) rfl (by kernel_rfl) (opD_Nt hF m) opDF_nil)))))))))) (fun t => ?_) (fun _ _ => trivial)
  rw [B.row_eq]; simp only [T.row_eq]; rfl
end
def laid1 : List (String × DataW Unit) := [("treenail/term.words", Go.Proofs.YtjegmlclpecpdaaGreatDoor.Rows.laid_treenail_term_words)]
def wordVals : List Value := words.flatMap fun b => [.string (st b.text), .int .i64 b.kids, .int .i64 b.of, .int .i64 b.out]
theorem base_ok {W : World} (h : laidMetH Tryz.prog laid1 W) : (B0 W).ok env := by
  intro g
  match g with
  | 0 =>
    have hc := cells_of_laid rfl h (.head _) (g := 0) (by kernel_rfl) (t := 120) (by kernel_rfl) 8 wordVals (by kernel_rfl)
    exact vr_pa (s := 4) (by decide) (by kernel_rfl) (by kernel_rfl) (by decide) hc
  | g + 1 => exact .any _ rfl
end Go.Eng
