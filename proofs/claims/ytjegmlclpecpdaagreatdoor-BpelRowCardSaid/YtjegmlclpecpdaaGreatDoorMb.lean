/- Each function of the program, walked over plain data: what it comes to, at all arguments. -/
import Derived.Test.YtjegmlclpecpdaaGreatDoorMa
import Derived.Test.YtjegmlclpecpdaaGreatDoorEc
open Go Go.Proofs
namespace Go.Eng
set_option linter.unusedSimpArgs false
set_option linter.unusedVariables false
set_option maxRecDepth 10000
set_option maxHeartbeats 8000000
attribute [go_sem] aMakeV
def lkBad (n : Int) (e : Lk) : Bool := decide (e.src < -1) || decide (e.src ≥ n) || decide (e.dst < -1) || decide (e.dst ≥ n)
def cI (l : List Lk) (i : Int) : Nat := l.countP fun e => decide (e.dst = i)
def cO (l : List Lk) (i : Int) : Nat := l.countP fun e => decide (e.src = i)
def inner (l : List Lk) : List Lk := l.filter fun e => decide (e.src ≥ 0) && decide (e.dst ≥ 0)
def kidBad (ls : List Lk) (k : B) (i : Int) : Bool := if k.kind ≠ 12 then decide ((cI ls i : Int) ≠ 1 ∨ (cO ls i : Int) ≠ 1)
  else decide (k.x = 1 ∧ ((cI ls i : Int) ≠ 1 ∨ (cO ls i : Int) < 2)) || (decide (k.x = 3 ∧ ((cI ls i : Int) ≠ 1 ∨ (cO ls i : Int) ≠ k.conds.length)) || decide (k.x.tmod 2 = 0 ∧ ¬ ((cI ls i : Int) > 1 ∧ (cO ls i : Int) = 1)))
def kidsBad (ls : List Lk) : List B → Nat → Bool
  | [], _ => false
  | k :: l, i => kidBad ls k i || kidsBad ls l (i + 1)
def linkedF (b : B) : Bool := if b.links.any (lkBad b.kids.length) = true then false else if (cI b.links (-1) : Int) ≠ 1 ∨ (cO b.links (-1) : Int) ≠ 1 ∨ b.links.length > 40 ∨ b.kids.length > 64 then false
  else if kidsBad b.links b.kids 0 = true then false else decide ((ordF b.kids.length (inner b.links)).2 = 0)
def RwK (l : List Lk) : Option Blk := some (.rows 2 (l.map Lk.row))
attribute [go_sem] RwK
theorem rep_iRow (n : Nat) (b : Int) : List.replicate n [D.sc (.int .i64 b)] = (List.replicate n b).map iRow := by rw [List.map_replicate]; rfl
attribute [go_sem] rep_iRow
def cnts (b : B) (j : Nat) (ins outs : List Int) : Prop := ins.length = b.kids.length + 1 ∧ outs.length = b.kids.length + 1 ∧ (∀ k, k ≤ b.kids.length → 0 ≤ gt ins k ∧ gt ins k + cI (b.links.drop j) (k - 1) = cI b.links (k - 1)) ∧
  (∀ k, k ≤ b.kids.length → 0 ≤ gt outs k ∧ gt outs k + cO (b.links.drop j) (k - 1) = cO b.links (k - 1))
theorem cI_le (l : List Lk) (i : Int) : cI l i ≤ l.length := List.countP_le_length
theorem cO_le (l : List Lk) (i : Int) : cO l i ≤ l.length := List.countP_le_length
theorem cnts_I {b : B} {j : Nat} {ins outs : List Int} {d : Int} (h : cnts b j ins outs) (hs : b.links.length ≤ 1000000000000) (h1 : -1 ≤ d) (h2 : d < b.kids.length) : 0 ≤ gt ins (d + 1).toNat ∧ gt ins (d + 1).toNat ≤ 1000000000000 := by
  have := h.2.2.1 (d + 1).toNat (by omega)
  have := cI_le b.links ((d + 1).toNat - 1)
  omega
theorem cnts_O {b : B} {j : Nat} {ins outs : List Int} {d : Int} (h : cnts b j ins outs) (hs : b.links.length ≤ 1000000000000) (h1 : -1 ≤ d) (h2 : d < b.kids.length) : 0 ≤ gt outs (d + 1).toNat ∧ gt outs (d + 1).toNat ≤ 1000000000000 := by
  have := h.2.2.2 (d + 1).toNat (by omega)
  have := cO_le b.links ((d + 1).toNat - 1)
  omega
theorem gt_rep (n k : Nat) (x : Int) (h : k < n) : gt (List.replicate n x) k = x := by simp [gt, List.getD, h]
theorem cnts_0 (b : B) : cnts b 0 (List.replicate (b.kids.length + 1) 0) (List.replicate (b.kids.length + 1) 0) := by
  refine ⟨by simp, by simp, fun k hk => ?_, fun k hk => ?_⟩
  · rw [gt_rep _ _ _ (by omega)]; simp
  · rw [gt_rep _ _ _ (by omega)]; simp
theorem gtI_set (s : List Int) (i j : Nat) (b : Int) (h : i < s.length) : gt (s.set i b) j = if i = j then b else gt s j := by
  unfold gt
  rw [List.getD_eq_getElem?_getD, List.getElem?_set, List.getD_eq_getElem?_getD]
  split
  · rename_i e; subst e; simp [h]
  · rfl
theorem cI_cons (e : Lk) (l : List Lk) (i : Int) : cI (e :: l) i = cI l i + (if e.dst = i then 1 else 0) := by simp [cI, List.countP_cons]
theorem cO_cons (e : Lk) (l : List Lk) (i : Int) : cO (e :: l) i = cO l i + (if e.src = i then 1 else 0) := by simp [cO, List.countP_cons]
theorem cnts_s {b : B} {j : Nat} {ins outs : List Int} (h : cnts b j ins outs) (hj : j < b.links.length) (h1 : -1 ≤ (gt b.links j).src) (h2 : -1 ≤ (gt b.links j).dst) (h3 : (gt b.links j).src < b.kids.length) (h4 : (gt b.links j).dst < b.kids.length) :
    cnts b (j + 1) (ins.set ((gt b.links j).dst + 1).toNat (gt ins ((gt b.links j).dst + 1).toNat + 1)) (outs.set ((gt b.links j).src + 1).toNat (gt outs ((gt b.links j).src + 1).toNat + 1)) := by
  obtain ⟨a1, a2, a3, a4⟩ := h
  refine ⟨by simpa using a1, by simpa using a2, fun k hk => ?_, fun k hk => ?_⟩
  · have := a3 k hk
    rw [drop_gt hj, cI_cons] at this
    rw [gtI_set _ _ _ _ (by omega)]
    split
    · rename_i e; subst e
      rw [if_pos (by omega)] at this; omega
    · rw [if_neg (by omega)] at this; omega
  · have := a4 k hk
    rw [drop_gt hj, cO_cons] at this
    rw [gtI_set _ _ _ _ (by omega)]
    split
    · rename_i e; subst e
      rw [if_pos (by omega)] at this; omega
    · rw [if_neg (by omega)] at this; omega
theorem lk_bad {b : B} {j : Nat} (hj : j < b.links.length) (h : lkBad b.kids.length (gt b.links j) = true) : linkedF b = false := by
  rw [linkedF, if_pos (List.any_eq_true.2 ⟨_, gt_mem hj, h⟩)]
theorem bad_drop {n : Int} {l : List Lk} {j : Nat} (hj : j < l.length) (h : lkBad n (gt l j) = false) : (l.drop j).any (lkBad n) = (l.drop (j + 1)).any (lkBad n) := by
  rw [drop_gt hj, List.any_cons, h, Bool.false_or]
theorem inner_t {l : List Lk} {j : Nat} (hj : j < l.length) (h1 : (gt l j).src ≥ 0) (h2 : (gt l j).dst ≥ 0) : inner (l.drop j) = gt l j :: inner (l.drop (j + 1)) := by
  rw [drop_gt hj, inner, List.filter_cons, if_pos (by simp [h1, h2])]; rfl
theorem inner_f {l : List Lk} {j : Nat} (hj : j < l.length) (h : ¬ ((gt l j).src ≥ 0 ∧ (gt l j).dst ≥ 0)) : inner (l.drop j) = inner (l.drop (j + 1)) := by
  rw [drop_gt hj, inner, List.filter_cons, if_neg (by simpa using h)]; rfl
theorem kidBad_iff (ls : List Lk) (k : B) (i : Int) : kidBad ls k i = true ↔ (k.kind ≠ 12 ∧ ((cI ls i : Int) ≠ 1 ∨ (cO ls i : Int) ≠ 1)) ∨ (k.kind = 12 ∧ ((k.x = 1 ∧ ((cI ls i : Int) ≠ 1 ∨ (cO ls i : Int) < 2)) ∨ (k.x = 3 ∧ ((cI ls i : Int) ≠ 1 ∨ (cO ls i : Int) ≠ k.conds.length)) ∨ (k.x.tmod 2 = 0 ∧ ¬ ((cI ls i : Int) > 1 ∧ (cO ls i : Int) = 1)))) := by
  unfold kidBad
  by_cases h : k.kind = 12
  · rw [if_neg (by omega)]
    simp only [Bool.or_eq_true, decide_eq_true_eq, h, true_and, not_true, ne_eq, false_and, false_or]
  · rw [if_pos h]
    simp only [decide_eq_true_eq, h, false_and, or_false, ne_eq, not_false_eq_true, true_and]
theorem kids_bad {ls : List Lk} {ks : List B} {i : Nat} (hi : i < ks.length) (h : kidBad ls (gt ks i) i = true) : kidsBad ls (ks.drop i) i = true := by
  rw [drop_gt hi, kidsBad, h, Bool.true_or]
theorem kids_ok {ls : List Lk} {ks : List B} {i : Nat} (hi : i < ks.length) (h : ¬ kidBad ls (gt ks i) i = true) : kidsBad ls (ks.drop i) i = kidsBad ls (ks.drop (i + 1)) (i + 1) := by
  rw [drop_gt hi, kidsBad, Bool.eq_false_iff.2 h, Bool.false_or]
theorem linked_ok (b : B) (hs : b.size < 1000000000000) : AFn env 40 [b.a] [] (aB (linkedF b)) [] := by
  have hz := B.size_eq b
  have hk := B.len_le b.kids
  refine afn_body Tryz.func40 rfl (by decide) ?_
  simp only [Tryz.ntmps40, Tryz.results40, List.length_cons, List.length_nil, List.cons_append, List.nil_append, Nat.reduceAdd, Nat.reduceSub, List.replicate]
  refine awp_seq ?_
  refine awp_region ?_
  refine zS ?_
  refine awp_wk (wk_vnew (s := 1) none (by decide)) ?_
  refine awp_wk (wk_vnew (s := 1) none (by decide)) ?_
  refine zT ?_
  refine awp_seq ?_
  refine awp_draw2 4 9 1 1 2 1 (by decide) (by decide) rfl rfl (by decide) (by decide) (by decide) ?_
  simp only [List.set_cons_succ, List.set_cons_zero]
  iterate 4 (refine fo_p (by simp (disch := omega) only [go_sem, Bool.not_not, List.mem_singleton, forall_eq, ↓reduceIte, if_pos, rowsAt_map, wrap64, wrapu8, List.getElem?_cons_zero, List.getElem?_cons_succ, Int.reduceToNat, Nat.reduceAdd, Nat.reduceBEq, Bool.or_false, Bool.false_or, Bool.true_or, Nat.reduceSub, Nat.reduceMul, Int.reduceAdd, Int.reduceEq, Int.reduceLT, Int.reduceLE, Int.reduceNeg, Nat.reduceLT, Nat.reduceLeDiff, Nat.reduceEqDiff]; rfl) rfl (by decide) (by decide) rfl rfl ?_; simp only [go_sem, Bool.not_not, List.mem_singleton, forall_eq, ↓reduceIte, if_pos, rowsAt_map, wrap64, wrapu8, List.getElem?_cons_zero, List.getElem?_cons_succ, Int.reduceToNat, Nat.reduceAdd, Nat.reduceBEq, Bool.or_false, Bool.false_or, Bool.true_or, Nat.reduceSub, Nat.reduceMul, Int.reduceAdd, Int.reduceEq, Int.reduceLT, Int.reduceLE, Int.reduceNeg, Nat.reduceLT, Nat.reduceLeDiff, Nat.reduceEqDiff])
  refine fo_1 rfl (by simp (disch := omega) only [go_sem, Bool.not_not, List.mem_singleton, forall_eq, ↓reduceIte, if_pos, rowsAt_map, wrap64, wrapu8, List.getElem?_cons_zero, List.getElem?_cons_succ, Int.reduceToNat, Nat.reduceAdd, Nat.reduceBEq, Bool.or_false, Bool.false_or, Bool.true_or, Nat.reduceSub, Nat.reduceMul, Int.reduceAdd, Int.reduceEq, Int.reduceLT, Int.reduceLE, Int.reduceNeg, Nat.reduceLT, Nat.reduceLeDiff, Nat.reduceEqDiff]; rfl) rfl ?_
  refine zT ?_
  iterate 4 (refine fo_p (by simp (disch := omega) only [go_sem, Bool.not_not, List.mem_singleton, forall_eq, ↓reduceIte, if_pos, rowsAt_map, wrap64, wrapu8, List.getElem?_cons_zero, List.getElem?_cons_succ, Int.reduceToNat, Nat.reduceAdd, Nat.reduceBEq, Bool.or_false, Bool.false_or, Bool.true_or, Nat.reduceSub, Nat.reduceMul, Int.reduceAdd, Int.reduceEq, Int.reduceLT, Int.reduceLE, Int.reduceNeg, Nat.reduceLT, Nat.reduceLeDiff, Nat.reduceEqDiff]; rfl) rfl (by decide) (by decide) rfl rfl ?_; simp only [go_sem, Bool.not_not, List.mem_singleton, forall_eq, ↓reduceIte, if_pos, rowsAt_map, wrap64, wrapu8, List.getElem?_cons_zero, List.getElem?_cons_succ, Int.reduceToNat, Nat.reduceAdd, Nat.reduceBEq, Bool.or_false, Bool.false_or, Bool.true_or, Nat.reduceSub, Nat.reduceMul, Int.reduceAdd, Int.reduceEq, Int.reduceLT, Int.reduceLE, Int.reduceNeg, Nat.reduceLT, Nat.reduceLeDiff, Nat.reduceEqDiff])
  refine fo_2 rfl (by simp (disch := omega) only [go_sem, Bool.not_not, List.mem_singleton, forall_eq, ↓reduceIte, if_pos, rowsAt_map, wrap64, wrapu8, List.getElem?_cons_zero, List.getElem?_cons_succ, Int.reduceToNat, Nat.reduceAdd, Nat.reduceBEq, Bool.or_false, Bool.false_or, Bool.true_or, Nat.reduceSub, Nat.reduceMul, Int.reduceAdd, Int.reduceEq, Int.reduceLT, Int.reduceLE, Int.reduceNeg, Nat.reduceLT, Nat.reduceLeDiff, Nat.reduceEqDiff]; rfl) rfl (by decide) ?_
  refine zT ?_
  iterate 2 (refine fo_q (fun H2 => by simp only [go_sem, Bool.not_not, List.mem_singleton, forall_eq, ↓reduceIte, if_pos, rowsAt_map, wrap64, wrapu8, List.getElem?_cons_zero, List.getElem?_cons_succ, Int.reduceToNat, Nat.reduceAdd, Nat.reduceBEq, Bool.or_false, Bool.false_or, Bool.true_or, Nat.reduceSub, Nat.reduceMul, Int.reduceAdd, Int.reduceEq, Int.reduceLT, Int.reduceLE, Int.reduceNeg, Nat.reduceLT, Nat.reduceLeDiff, Nat.reduceEqDiff]; rfl) rfl (by decide) (by decide) ?_; simp only [go_sem, Bool.not_not, List.mem_singleton, forall_eq, ↓reduceIte, if_pos, rowsAt_map, wrap64, wrapu8, List.getElem?_cons_zero, List.getElem?_cons_succ, Int.reduceToNat, Nat.reduceAdd, Nat.reduceBEq, Bool.or_false, Bool.false_or, Bool.true_or, Nat.reduceSub, Nat.reduceMul, Int.reduceAdd, Int.reduceEq, Int.reduceLT, Int.reduceLE, Int.reduceNeg, Nat.reduceLT, Nat.reduceLeDiff, Nat.reduceEqDiff])
  refine fo_e ?_
  rw [show ((b.kids.length : Int) + 1).toNat = b.kids.length + 1 by omega]
  refine awp_seq ?_
  refine awp_region ?_
  refine zT ?_
  refine awp_wk (wk_virt none (i := 5) (s := 2) (by decide) rfl) ?_
  refine zT ?_
  repeat' first
  | ((with_reducible refine awp_seqQ ?_); intro _ _)
  | ((with_reducible refine awp_region ?_); refine zS ?_)
  | with_reducible refine awp_block ?_
  refine awp_loopT (fun z : Nat × List Int × List Int × List Lk => z.1 ≤ b.links.length ∧ cnts b z.1 z.2.1 z.2.2.1 ∧ z.2.2.2 ++ inner (b.links.drop z.1) = inner b.links ∧ b.links.any (lkBad b.kids.length) = (b.links.drop z.1).any (lkBad b.kids.length)) (fun z => b.links.length - z.1) (fun z => [(28, aI z.1), (5, OwnK 3 z.2.2.2.length)]) (fun z => [some (.box b.bs), RwG z.2.1, RwG z.2.2.1, RwK z.2.2.2]) (0, List.replicate (b.kids.length + 1) 0, List.replicate (b.kids.length + 1) 0, []) ⟨by simp, cnts_0 b, by simp, by simp⟩ zwl ?_
  rintro ⟨j, ins, outs, es⟩ ⟨h1, h2, h3, h4⟩
  simp only at h1 h2 h3 h4
  have hil := h2.1
  have hol := h2.2.1
  have hI : -1 ≤ (gt b.links j).dst → (gt b.links j).dst < b.kids.length → 0 ≤ gt ins ((gt b.links j).dst + 1).toNat ∧ gt ins ((gt b.links j).dst + 1).toNat ≤ 1000000000000 := fun q1 q2 => cnts_I h2 (by omega) q1 q2
  have hO : -1 ≤ (gt b.links j).src → (gt b.links j).src < b.kids.length → 0 ≤ gt outs ((gt b.links j).src + 1).toNat ∧ gt outs ((gt b.links j).src + 1).toNat ≤ 1000000000000 := fun q1 q2 => cnts_O h2 (by omega) q1 q2
  have hel : es.length ≤ 1000000000000 := by
    have := congrArg List.length h3
    have := List.length_filter_le (fun e : Lk => decide (e.src ≥ 0) && decide (e.dst ≥ 0)) b.links
    simp only [List.length_append, inner] at *; omega
  refine zT ?_
  repeat' first
  | ((with_reducible refine awp_seqQ ?_); intro _ _)
  | ((with_reducible refine awp_region ?_); refine zS ?_)
  | ((with_reducible refine Gd_nd ?_ ?_) <;> intro hb hb2 <;> first | contradiction | (exfalso; omega) | (refine zH hb2 ?_; try clear hb2))
  | ((with_reducible refine Gd_d ?_ ?_) <;> intro hb hb2 <;> first | contradiction | (exfalso; omega) | (refine zH hb2 ?_; try clear hb2))
  | ((with_reducible refine AWP_c ?_); refine zcdT ?_)
  | ((with_reducible refine AWP_c ?_); refine zcdF ?_)
  | ((with_reducible refine AWP_c ?_); refine zcdD ?_ ?_ <;> intro hb hb2 <;> first | contradiction | (exfalso; omega) | ((try refine zH hb2 ?_); try clear hb2))
  | ((with_reducible refine awp_skip ?_); try refine zS ?_)
  | with_reducible refine awp_block ?_
  | ((with_reducible refine awp_exit ?_); try refine zS ?_)
  | ((with_reducible refine awp_ret ?_); refine q_step (by assumption) ?_)
  | with_reducible refine fin_r ?_
  | ((with_reducible refine q_step (by assumption) ?_); try refine zS ?_)
  all_goals first
    | (rw [lk_bad (j := j) (by omega) (by simp [lkBad, *]; done)]; done)
    | exact ⟨(j + 1, ins.set ((gt b.links j).dst + 1).toNat (gt ins ((gt b.links j).dst + 1).toNat + 1), outs.set ((gt b.links j).src + 1).toNat (gt outs ((gt b.links j).src + 1).toNat + 1), es ++ [gt b.links j]), ⟨by simp only; omega, cnts_s h2 (by omega) (by omega) (by omega) (by omega) (by omega), by rw [← h3, inner_t (j := j) (by omega) (by omega) (by omega)]; simp, by rw [h4, bad_drop (j := j) (by omega) (by simp [lkBad]; omega)]⟩, by simp only; omega, wk_cl 4 (by decide) (by simp) (by simp only [go_sem, Bool.not_not, List.mem_singleton, forall_eq, ↓reduceIte, if_pos, rowsAt_map, wrap64, wrapu8, List.getElem?_cons_zero, List.getElem?_cons_succ, Int.reduceToNat, Nat.reduceAdd, Nat.reduceBEq, Bool.or_false, Bool.false_or, Bool.true_or, Nat.reduceSub, Nat.reduceMul, Int.reduceAdd, Int.reduceEq, Int.reduceLT, Int.reduceLE, Int.reduceNeg, Nat.reduceLT, Nat.reduceLeDiff, Nat.reduceEqDiff]; try simp) (by simp only [go_sem, Bool.not_not, List.mem_singleton, forall_eq, ↓reduceIte, if_pos, rowsAt_map, wrap64, wrapu8, List.getElem?_cons_zero, List.getElem?_cons_succ, Int.reduceToNat, Nat.reduceAdd, Nat.reduceBEq, Bool.or_false, Bool.false_or, Bool.true_or, Nat.reduceSub, Nat.reduceMul, Int.reduceAdd, Int.reduceEq, Int.reduceLT, Int.reduceLE, Int.reduceNeg, Nat.reduceLT, Nat.reduceLeDiff, Nat.reduceEqDiff, List.map_append]; try simp [go_sem])⟩
    | exact ⟨(j + 1, ins.set ((gt b.links j).dst + 1).toNat (gt ins ((gt b.links j).dst + 1).toNat + 1), outs.set ((gt b.links j).src + 1).toNat (gt outs ((gt b.links j).src + 1).toNat + 1), es), ⟨by simp only; omega, cnts_s h2 (by omega) (by omega) (by omega) (by omega) (by omega), by rw [← h3, inner_f (j := j) (by omega) (by omega)], by rw [h4, bad_drop (j := j) (by omega) (by simp [lkBad]; omega)]⟩, by simp only; omega, wk_cl 4 (by decide) (by simp) (by simp only [go_sem, Bool.not_not, List.mem_singleton, forall_eq, ↓reduceIte, if_pos, rowsAt_map, wrap64, wrapu8, List.getElem?_cons_zero, List.getElem?_cons_succ, Int.reduceToNat, Nat.reduceAdd, Nat.reduceBEq, Bool.or_false, Bool.false_or, Bool.true_or, Nat.reduceSub, Nat.reduceMul, Int.reduceAdd, Int.reduceEq, Int.reduceLT, Int.reduceLE, Int.reduceNeg, Nat.reduceLT, Nat.reduceLeDiff, Nat.reduceEqDiff]; try simp) (by simp only [go_sem, Bool.not_not, List.mem_singleton, forall_eq, ↓reduceIte, if_pos, rowsAt_map, wrap64, wrapu8, List.getElem?_cons_zero, List.getElem?_cons_succ, Int.reduceToNat, Nat.reduceAdd, Nat.reduceBEq, Bool.or_false, Bool.false_or, Bool.true_or, Nat.reduceSub, Nat.reduceMul, Int.reduceAdd, Int.reduceEq, Int.reduceLT, Int.reduceLE, Int.reduceNeg, Nat.reduceLT, Nat.reduceLeDiff, Nat.reduceEqDiff]; try simp [go_sem])⟩
    | skip
  all_goals
    have hj : j = b.links.length := by omega
    subst hj
    rw [List.drop_length] at h3 h4
    have h4 : b.links.any (lkBad b.kids.length) = false := h4
    have he : es = inner b.links := by rw [← h3]; simp [inner]
    subst he
    have hI2 : ∀ k, k ≤ b.kids.length → gt ins k = cI b.links (k - 1) := fun k hk => by have := (h2.2.2.1 k hk).2; rw [List.drop_length] at this; simpa [cI] using this
    have hO2 : ∀ k, k ≤ b.kids.length → gt outs k = cO b.links (k - 1) := fun k hk => by have := (h2.2.2.2 k hk).2; rw [List.drop_length] at this; simpa [cO] using this
    have hI0 : gt ins 0 = cI b.links (-1) := hI2 0 (by omega)
    have hO0 : gt outs 0 = cO b.links (-1) := hO2 0 (by omega)
  all_goals try (rw [linkedF, if_neg (by simp [h4]), if_pos (by omega)]; done)
  have h0 : linkedF b = if kidsBad b.links b.kids 0 = true then false else decide ((ordF b.kids.length (inner b.links)).2 = 0) := by
    rw [linkedF, if_neg (by simp [h4]), if_neg (by omega)]
  refine awp_loopT (fun i : Nat => i ≤ b.kids.length ∧ kidsBad b.links b.kids 0 = kidsBad b.links (b.kids.drop i) i) (fun i => b.kids.length - i) (fun i => [(114, aI i)]) (fun _ => [some (.box b.bs), RwG ins, RwG outs, RwK (inner b.links)]) 0 ⟨by omega, rfl⟩ zwl ?_
  rintro i ⟨g1, g2⟩
  have hI3 : i < b.kids.length → (cI b.links i : Int) = gt ins ((i : Int) + 1).toNat := fun h => by rw [show ((i : Int) + 1).toNat = i + 1 by omega, hI2 (i + 1) (by omega)]; congr 2; omega
  have hO3 : i < b.kids.length → (cO b.links i : Int) = gt outs ((i : Int) + 1).toNat := fun h => by rw [show ((i : Int) + 1).toNat = i + 1 by omega, hO2 (i + 1) (by omega)]; congr 2; omega
  refine zT ?_
  repeat' first
  | ((with_reducible refine awp_seqQ ?_); intro _ _)
  | ((with_reducible refine awp_region ?_); refine zS ?_)
  | ((with_reducible refine Gd_d ?_ ?_) <;> intro hb hb2 <;> first | contradiction | (exfalso; omega) | (refine zH hb2 ?_; try clear hb2))
  | ((with_reducible refine awp_drawnC ?_ ?_); rfl; refine zS ?_)
  | ((with_reducible refine AWP_c ?_); refine zcdT ?_)
  | ((with_reducible refine AWP_c ?_); refine zcdF ?_)
  | ((with_reducible refine AWP_c ?_); refine zcdN ?_ ?_ <;> intro hb hb2 <;> first | contradiction | (exfalso; omega) | ((try refine zH hb2 ?_); try clear hb2))
  | ((with_reducible refine AWP_c ?_); refine zcdD ?_ ?_ <;> intro hb hb2 <;> first | contradiction | (exfalso; omega) | ((try refine zH hb2 ?_); try clear hb2))
  | ((with_reducible refine awp_skip ?_); try refine zS ?_)
  | with_reducible refine awp_block ?_
  | ((with_reducible refine awp_exit ?_); try refine zS ?_)
  | ((with_reducible refine CallK_id ?_); refine zcF ?_; refine ⟨_, by first | exact order_ok b.kids.length (inner b.links) (fun q0 q1 => acyclic q0 q1) | fail, fun _ => rfl, fun _ => rfl, rfl, ?_⟩; try refine zS ?_)
  | ((with_reducible refine awp_ret ?_); refine q_step (by assumption) ?_)
  | with_reducible refine fin_r ?_
  | ((with_reducible refine q_step (by assumption) ?_); try refine zS ?_)
  all_goals first
    | (rw [h0, g2, kids_bad (i := i) (by omega) (by rw [kidBad_iff]; omega), if_pos rfl]; done)
    | exact ⟨i + 1, ⟨by omega, by rw [g2, kids_ok (i := i) (by omega) (by rw [kidBad_iff]; omega)]⟩, by omega, zwc 4⟩
    | skip
  rw [h0, g2, List.drop_eq_nil_of_le (by omega), kidsBad, if_neg (by simp)]
end Go.Eng
open Go Go.Proofs
namespace Go.Eng
set_option linter.unusedSimpArgs false
set_option linter.unusedVariables false
set_option maxRecDepth 10000
set_option maxHeartbeats 8000000
structure Gr where
  ns : List Nd
  fs : List Fl
def Gr.a (n : Gr) : A := .agg [.d (.fz (n.ns.map Nd.row)), .d (.fz (n.fs.map Fl.row))]
def Gr.bs (n : Gr) : List C := [.d (.fz (n.ns.map Nd.row)), .d (.fz (n.fs.map Fl.row))]
attribute [go_sem] Gr.a Gr.bs
theorem ofN_ok (t : T) (k : Int) (hs : t.size < 4611686018427387904) : AFn env 92 [t.a, aI k] [] (aB (ofF t k)) [] := by
  refine afn_body Tryz.func92 rfl (by decide) ?_
  simp only [Tryz.ntmps92, Tryz.results92, List.length_cons, List.length_nil, List.cons_append, List.nil_append, Nat.reduceAdd, Nat.reduceSub, List.replicate]
  repeat' first
  | ((with_reducible refine awp_seqQ ?_); intro _ _)
  | ((with_reducible refine awp_region ?_); refine zS ?_)
  | ((with_reducible refine Gd_d ?_ ?_) <;> intro hb hb2 <;> first | contradiction | (exfalso; omega) | (refine zH hb2 ?_; try clear hb2))
  | ((with_reducible refine CallK_id ?_); refine zcF ?_; refine ⟨_, by first | exact checkT_ok t hs | fail, fun _ => rfl, fun _ => rfl, rfl, ?_⟩; try refine zS ?_)
  | ((with_reducible refine awp_ret ?_); refine q_step (by assumption) ?_)
  | with_reducible refine fin_r ?_
  | ((with_reducible refine q_step (by assumption) ?_); try refine zS ?_)
  all_goals simp [go_sem, ofF, *]
def noneF (t : T) : Bool := decide (t.op = 0) && decide (t.n = 0) && decide (t.kids.length = 0)
theorem noneN_ok (t : T) : AFn env 93 [t.a] [] (aB (noneF t)) [] := by
  refine afn_body Tryz.func93 rfl (by decide) ?_
  simp only [Tryz.ntmps93, Tryz.results93, List.length_cons, List.length_nil, List.cons_append, List.nil_append, Nat.reduceAdd, Nat.reduceSub, List.replicate]
  repeat' first
  | ((with_reducible refine awp_seqQ ?_); intro _ _)
  | ((with_reducible refine awp_region ?_); refine zS ?_)
  | ((with_reducible refine Gd_d ?_ ?_) <;> intro hb hb2 <;> first | contradiction | (exfalso; omega) | (refine zH hb2 ?_; try clear hb2))
  | ((with_reducible refine awp_ret ?_); refine q_step (by assumption) ?_)
  | with_reducible refine fin_r ?_
  | ((with_reducible refine q_step (by assumption) ?_); try refine zS ?_)
  all_goals simp [go_sem, noneF, *]
  all_goals omega
theorem start1_ok (d : Nd) : AFn env 99 [d.a] [] (aB (decide (d.kind = 1))) [] := by
  refine afn_body Tryz.func99 rfl (by decide) ?_
  simp only [Tryz.ntmps99, Tryz.results99, List.length_cons, List.length_nil, List.cons_append, List.nil_append, Nat.reduceAdd, Nat.reduceSub, List.replicate]
  repeat' first
  | ((with_reducible refine awp_seqQ ?_); intro _ _)
  | ((with_reducible refine awp_region ?_); refine zS ?_)
  | ((with_reducible refine awp_ret ?_); refine q_step (by assumption) ?_)
  | with_reducible refine fin_r ?_
  | ((with_reducible refine q_step (by assumption) ?_); try refine zS ?_)
  all_goals rfl
theorem end1_ok (d : Nd) : AFn env 100 [d.a] [] (aB (decide (d.kind = 2))) [] := by
  refine afn_body Tryz.func100 rfl (by decide) ?_
  simp only [Tryz.ntmps100, Tryz.results100, List.length_cons, List.length_nil, List.cons_append, List.nil_append, Nat.reduceAdd, Nat.reduceSub, List.replicate]
  repeat' first
  | ((with_reducible refine awp_seqQ ?_); intro _ _)
  | ((with_reducible refine awp_region ?_); refine zS ?_)
  | ((with_reducible refine awp_ret ?_); refine q_step (by assumption) ?_)
  | with_reducible refine fin_r ?_
  | ((with_reducible refine q_step (by assumption) ?_); try refine zS ?_)
  all_goals rfl
theorem idxN_ok (F : FuncId) (p : Nd → Bool) (l : List Nd) (hl : l.length < 4611686018427387904) (h : ∀ i, i < l.length → AFn env F [(gt l i).a] [] (aB (p (gt l i))) []) :
    AFn env 98 [aF (l.map Nd.row), .c (.clo (.func F) [])] [] (aI (idxF p l 0)) [] := by
  refine afn_body Tryz.func98 rfl (by decide) ?_
  simp only [Tryz.ntmps98, Tryz.results98, List.length_cons, List.length_nil, List.cons_append, List.nil_append, Nat.reduceAdd, Nat.reduceSub, List.replicate]
  repeat' first
  | ((with_reducible refine awp_seqQ ?_); intro _ _)
  | ((with_reducible refine awp_region ?_); refine zS ?_)
  | with_reducible refine awp_block ?_
  refine awp_loopT (fun i : Nat => i ≤ l.length ∧ idxF p l 0 = idxF p (l.drop i) i) (fun i => l.length - i) (fun i => [(8, aI i)]) (fun _ => []) 0 ⟨by omega, rfl⟩ zwl ?_
  rintro i ⟨h1, h2⟩
  refine zT ?_
  repeat' first
  | ((with_reducible refine awp_seqQ ?_); intro _ _)
  | ((with_reducible refine awp_region ?_); refine zS ?_)
  | ((with_reducible refine AWP_c ?_); refine zcdD ?_ ?_ <;> intro hb hb2 <;> first | contradiction | (exfalso; omega) | ((try refine zH hb2 ?_); try clear hb2))
  | ((with_reducible refine AWP_c ?_); refine zcdB ?_ ?_ <;> intro hb <;> first | contradiction | (try refine zH hb ?_))
  | ((with_reducible refine awp_skip ?_); try refine zS ?_)
  | with_reducible refine awp_block ?_
  | ((with_reducible refine awp_exit ?_); try refine zS ?_)
  | ((with_reducible refine CallK_id ?_); refine zcF ?_; refine ⟨_, by first | exact h i (by omega) | fail, fun _ => rfl, fun _ => rfl, rfl, ?_⟩; try refine zS ?_)
  | ((with_reducible refine awp_ret ?_); refine q_step (by assumption) ?_)
  | with_reducible refine fin_r ?_
  | ((with_reducible refine q_step (by assumption) ?_); try refine zS ?_)
  · rw [h2, drop_gt (by omega), idxF, if_pos ‹_›]
  · exact ⟨i + 1, ⟨by omega, by rw [h2, drop_gt (by omega), idxF, if_neg (by simp [*])]⟩, by omega, wk_le (by simp only [go_sem, Bool.not_not, List.mem_singleton, forall_eq, ↓reduceIte, if_pos, rowsAt_map, wrap64, wrapu8, List.getElem?_cons_zero, List.getElem?_cons_succ, Int.reduceToNat, Nat.reduceAdd, Nat.reduceBEq, Bool.or_false, Bool.false_or, Bool.true_or, Nat.reduceSub, Nat.reduceMul, Int.reduceAdd, Int.reduceEq, Int.reduceLT, Int.reduceLE, Int.reduceNeg, Nat.reduceLT, Nat.reduceLeDiff, Nat.reduceEqDiff]; simp) (by simp only [go_sem, Bool.not_not, List.mem_singleton, forall_eq, ↓reduceIte, if_pos, rowsAt_map, wrap64, wrapu8, List.getElem?_cons_zero, List.getElem?_cons_succ, Int.reduceToNat, Nat.reduceAdd, Nat.reduceBEq, Bool.or_false, Bool.false_or, Bool.true_or, Nat.reduceSub, Nat.reduceMul, Int.reduceAdd, Int.reduceEq, Int.reduceLT, Int.reduceLE, Int.reduceNeg, Nat.reduceLT, Nat.reduceLeDiff, Nat.reduceEqDiff])⟩
  · rw [h2, List.drop_eq_nil_of_le (by omega), idxF]
def startF (n : Gr) : Int := idxF (fun d : Nd => decide (d.kind = 1)) n.ns 0
def endF (n : Gr) : Int := idxF (fun d : Nd => decide (d.kind = 2)) n.ns 0
theorem start_ok (n : Gr) (hl : n.ns.length < 4611686018427387904) : AFn env 73 [n.a] [] (aI (startF n)) [] := by
  refine afn_body Tryz.func73 rfl (by decide) ?_
  simp only [Tryz.ntmps73, Tryz.results73, List.length_cons, List.length_nil, List.cons_append, List.nil_append, Nat.reduceAdd, Nat.reduceSub, List.replicate]
  repeat' first
  | ((with_reducible refine awp_seqQ ?_); intro _ _)
  | ((with_reducible refine awp_region ?_); refine zS ?_)
  | ((with_reducible refine CallK_id ?_); refine zcF ?_; refine ⟨_, by first | exact idxN_ok 99 (fun d => decide (d.kind = 1)) n.ns hl (fun i _ => start1_ok (gt n.ns i)) | fail, fun _ => rfl, fun _ => rfl, rfl, ?_⟩; try refine zS ?_)
  | ((with_reducible refine awp_ret ?_); refine q_step (by assumption) ?_)
  | with_reducible refine fin_r ?_
  | ((with_reducible refine q_step (by assumption) ?_); try refine zS ?_)
  all_goals rfl
theorem end_ok (n : Gr) (hl : n.ns.length < 4611686018427387904) : AFn env 74 [n.a] [] (aI (endF n)) [] := by
  refine afn_body Tryz.func74 rfl (by decide) ?_
  simp only [Tryz.ntmps74, Tryz.results74, List.length_cons, List.length_nil, List.cons_append, List.nil_append, Nat.reduceAdd, Nat.reduceSub, List.replicate]
  repeat' first
  | ((with_reducible refine awp_seqQ ?_); intro _ _)
  | ((with_reducible refine awp_region ?_); refine zS ?_)
  | ((with_reducible refine CallK_id ?_); refine zcF ?_; refine ⟨_, by first | exact idxN_ok 100 (fun d => decide (d.kind = 2)) n.ns hl (fun i _ => end1_ok (gt n.ns i)) | fail, fun _ => rfl, fun _ => rfl, rfl, ?_⟩; try refine zS ?_)
  | ((with_reducible refine awp_ret ?_); refine q_step (by assumption) ?_)
  | with_reducible refine fin_r ?_
  | ((with_reducible refine q_step (by assumption) ?_); try refine zS ?_)
  all_goals rfl
def mostF (k : Int) : Int := if k = 3 ∨ k = 4 then 3 else if k = 8 then 4 else 0
def rightN (d : Nd) : Bool := (decide (d.kind ≠ 4) || ofF d.t 1) && decide (1 ≤ d.kind ∧ d.kind ≤ 8) && decide (0 ≤ d.x ∧ d.x ≤ mostF d.kind) && (decide (d.kind = 4) || noneF d.t)
theorem right_okN (d : Nd) (hs : d.t.size < 4611686018427387904) : AFn env 68 [d.a] [] (aB (rightN d)) [] := by
  refine afn_body Tryz.func68 rfl (by decide) ?_
  simp only [Tryz.ntmps68, Tryz.results68, List.length_cons, List.length_nil, List.cons_append, List.nil_append, Nat.reduceAdd, Nat.reduceSub, List.replicate]
  repeat' first
  | ((with_reducible refine awp_seqQ ?_); intro _ _)
  | ((with_reducible refine awp_region ?_); refine zS ?_)
  | ((with_reducible refine Gd_d ?_ ?_) <;> intro hb hb2 <;> first | contradiction | (exfalso; omega) | (refine zH hb2 ?_; try clear hb2))
  | ((with_reducible refine AWP_c ?_); refine zcdD ?_ ?_ <;> intro hb hb2 <;> first | contradiction | (exfalso; omega) | ((try refine zH hb2 ?_); try clear hb2))
  | ((with_reducible refine AWP_c ?_); refine zcdM ?_ ?_ <;> intro hb <;> first | contradiction | (try refine zH hb ?_))
  | ((with_reducible refine awp_skip ?_); try refine zS ?_)
  | with_reducible refine awp_block ?_
  | ((with_reducible refine awp_exit ?_); try refine zS ?_)
  | ((with_reducible refine CallK_id ?_); refine zcF ?_; refine ⟨_, by first | exact ofN_ok d.t 1 hs | exact noneN_ok d.t | exact noneN_ok t0 | fail, fun _ => rfl, fun _ => rfl, rfl, ?_⟩; try refine zS ?_)
  | ((with_reducible refine awp_ret ?_); refine q_step (by assumption) ?_)
  | with_reducible refine fin_r ?_
  | ((with_reducible refine q_step (by assumption) ?_); try refine zS ?_)
  all_goals first | (rw [rightN]; simp [go_sem, mostF, noneF, t0, T.op, T.n, T.kids, *]; done) | (rw [rightN]; simp [go_sem, mostF, noneF, t0, T.op, T.n, T.kids, *]; omega) | trace_state
end Go.Eng
open Go Go.Proofs
namespace Go.Eng
set_option linter.unusedSimpArgs false
set_option linter.unusedVariables false
set_option maxRecDepth 10000
set_option maxHeartbeats 8000000
def idxs (p : Fl → Bool) : List Fl → Nat → List Int
  | [], _ => []
  | f :: l, i => if p f = true then (i : Int) :: idxs p l (i + 1) else idxs p l (i + 1)
theorem idxs_len (p : Fl → Bool) : ∀ (l : List Fl) (i : Nat), (idxs p l i).length ≤ l.length
  | [], _ => by simp [idxs]
  | f :: l, i => by have := idxs_len p l (i + 1); rw [idxs]; split <;> simp <;> omega
theorem idxs_mem {p : Fl → Bool} {k : Int} : ∀ {l : List Fl} {i : Nat}, k ∈ idxs p l i → (i : Int) ≤ k ∧ k < i + l.length
  | [], i, h => by simp [idxs] at h
  | f :: l, i, h => by
    rw [idxs] at h
    split at h
    · rcases List.mem_cons.1 h with rfl | h
      · simp only [List.length_cons]; omega
      · have := idxs_mem h; simp only [List.length_cons]; omega
    · have := idxs_mem h; simp only [List.length_cons]; omega
theorem outs1_ok (f : Fl) (i : Int) : AFn env 108 [f.a, P0] [Rm i] (aB (decide (f.src = i))) [Rm i] := by
  refine afn_body Tryz.func108 rfl (by decide) ?_
  simp only [Tryz.ntmps108, Tryz.results108, List.length_cons, List.length_nil, List.cons_append, List.nil_append, Nat.reduceAdd, Nat.reduceSub, List.replicate]
  repeat' first
  | ((with_reducible refine awp_seqQ ?_); intro _ _)
  | ((with_reducible refine awp_region ?_); refine zS ?_)
  | ((with_reducible refine awp_ret ?_); refine q_step (by assumption) ?_)
  | with_reducible refine fin_r ?_
  | ((with_reducible refine q_step (by assumption) ?_); try refine zS ?_)
  all_goals rfl
theorem ins1_ok (f : Fl) (i : Int) : AFn env 111 [f.a, P0] [Rm i] (aB (decide (f.dst = i))) [Rm i] := by
  refine afn_body Tryz.func111 rfl (by decide) ?_
  simp only [Tryz.ntmps111, Tryz.results111, List.length_cons, List.length_nil, List.cons_append, List.nil_append, Nat.reduceAdd, Nat.reduceSub, List.replicate]
  repeat' first
  | ((with_reducible refine awp_seqQ ?_); intro _ _)
  | ((with_reducible refine awp_region ?_); refine zS ?_)
  | ((with_reducible refine awp_ret ?_); refine q_step (by assumption) ?_)
  | with_reducible refine fin_r ?_
  | ((with_reducible refine q_step (by assumption) ?_); try refine zS ?_)
  all_goals rfl
theorem flows_ok (F : FuncId) (p : Fl → Bool) (n : Gr) (i : Int) (hl : n.fs.length < 1000000000000) (h : ∀ f : Fl, AFn env F [f.a, P0] [Rm i] (aB (p f)) [Rm i]) :
    AFn env 107 [n.a, .c (.clo (.func F) [.ptr 0 0 0 0])] [Rm i] (aF ((idxs p n.fs 0).map iRow)) [Rm i] := by
  refine afn_body Tryz.func107 rfl (by decide) ?_
  simp only [Tryz.ntmps107, Tryz.results107, List.length_cons, List.length_nil, List.cons_append, List.nil_append, Nat.reduceAdd, Nat.reduceSub, List.replicate]
  iterate 2 (refine awp_seq ?_; refine awp_region ?_; refine zS ?_)
  refine awp_wk (wk_virt none (i := 5) (s := 1) (by decide) rfl) ?_
  refine zT ?_
  repeat' first
  | ((with_reducible refine awp_seqQ ?_); intro _ _)
  | ((with_reducible refine awp_region ?_); refine zS ?_)
  | with_reducible refine awp_block ?_
  refine awp_loopT (fun z : Nat × List Int => z.1 ≤ n.fs.length ∧ z.2 ++ idxs p (n.fs.drop z.1) z.1 = idxs p n.fs 0 ∧ z.2.length ≤ z.1) (fun z => n.fs.length - z.1) (fun z => [(5, OwnK 2 z.2.length), (11, aI z.1)]) (fun z => [Rm i, some (.box n.bs), RwG z.2]) (0, []) ⟨by simp, by simp, by simp⟩ zwl ?_
  rintro ⟨j, o⟩ ⟨h1, h2, h3⟩
  simp only at h1 h2 h3
  refine zT ?_
  repeat' first
  | ((with_reducible refine awp_seqQ ?_); intro _ _)
  | ((with_reducible refine awp_region ?_); refine zS ?_)
  | ((with_reducible refine AWP_c ?_); refine zcdD ?_ ?_ <;> intro hb hb2 <;> first | contradiction | (exfalso; omega) | ((try refine zH hb2 ?_); try clear hb2))
  | ((with_reducible refine AWP_c ?_); refine zcdB ?_ ?_ <;> intro hb <;> first | contradiction | (try refine zH hb ?_))
  | ((with_reducible refine awp_skip ?_); try refine zS ?_)
  | with_reducible refine awp_block ?_
  | ((with_reducible refine awp_exit ?_); try refine zS ?_)
  | ((with_reducible refine CallK_id ?_); refine zcT [0] ?_; refine ⟨_, _, by first | exact h _ | fail, ?_⟩; try refine zS ?_)
  | ((with_reducible refine awp_ret ?_); refine q_step (by assumption) ?_)
  | ((with_reducible refine q_step (by assumption) ?_); try refine zS ?_)
  · exact ⟨(j + 1, o ++ [(j : Int)]), ⟨by simp only; omega, by rw [← h2, drop_gt (l := n.fs) (i := j) (by omega), idxs, if_pos ‹_›]; simp, by simp; omega⟩, by simp only; omega, wk_cl 3 (by decide) (by simp) (by simp only [go_sem, Bool.not_not, List.mem_singleton, forall_eq, ↓reduceIte, if_pos, rowsAt_map, wrap64, wrapu8, List.getElem?_cons_zero, List.getElem?_cons_succ, Int.reduceToNat, Nat.reduceAdd, Nat.reduceBEq, Bool.or_false, Bool.false_or, Bool.true_or, Nat.reduceSub, Nat.reduceMul, Int.reduceAdd, Int.reduceEq, Int.reduceLT, Int.reduceLE, Int.reduceNeg, Nat.reduceLT, Nat.reduceLeDiff, Nat.reduceEqDiff]; try simp) (by simp only [go_sem, Bool.not_not, List.mem_singleton, forall_eq, ↓reduceIte, if_pos, rowsAt_map, wrap64, wrapu8, List.getElem?_cons_zero, List.getElem?_cons_succ, Int.reduceToNat, Nat.reduceAdd, Nat.reduceBEq, Bool.or_false, Bool.false_or, Bool.true_or, Nat.reduceSub, Nat.reduceMul, Int.reduceAdd, Int.reduceEq, Int.reduceLT, Int.reduceLE, Int.reduceNeg, Nat.reduceLT, Nat.reduceLeDiff, Nat.reduceEqDiff, List.map_append]; try simp [go_sem])⟩
  · exact ⟨(j + 1, o), ⟨by simp only; omega, by rw [← h2, drop_gt (l := n.fs) (i := j) (by omega), idxs, if_neg (by simp [*])], by simp only; omega⟩, by simp only; omega, zwc 3⟩
  refine fin_r ?_
  rw [List.drop_eq_nil_of_le (by omega), idxs, List.append_nil] at h2
  rw [h2]
def outsF (n : Gr) (i : Int) : List Int := idxs (fun f => decide (f.src = i)) n.fs 0
def insF (n : Gr) (i : Int) : List Int := idxs (fun f => decide (f.dst = i)) n.fs 0
theorem outs_ok (n : Gr) (i : Int) (hl : n.fs.length < 1000000000000) : AFn env 95 [n.a, aI i] [] (aF ((outsF n i).map iRow)) [] := by
  refine afn_body Tryz.func95 rfl (by decide) ?_
  simp only [Tryz.ntmps95, Tryz.results95, List.length_cons, List.length_nil, List.cons_append, List.nil_append, Nat.reduceAdd, Nat.reduceSub, List.replicate]
  repeat' first
  | ((with_reducible refine awp_seqQ ?_); intro _ _)
  | ((with_reducible refine awp_region ?_); refine zS ?_)
  | ((with_reducible refine CallK_id ?_); refine zcT [1] ?_; refine ⟨_, _, by first | exact flows_ok 108 (fun f => decide (f.src = i)) n i hl (fun f => outs1_ok f i) | fail, ?_⟩; try refine zS ?_)
  | ((with_reducible refine awp_ret ?_); refine q_step (by assumption) ?_)
  | with_reducible refine fin_r ?_
  | ((with_reducible refine q_step (by assumption) ?_); try refine zS ?_)
  all_goals rfl
theorem ins_ok (n : Gr) (i : Int) (hl : n.fs.length < 1000000000000) : AFn env 109 [n.a, aI i] [] (aF ((insF n i).map iRow)) [] := by
  refine afn_body Tryz.func109 rfl (by decide) ?_
  simp only [Tryz.ntmps109, Tryz.results109, List.length_cons, List.length_nil, List.cons_append, List.nil_append, Nat.reduceAdd, Nat.reduceSub, List.replicate]
  repeat' first
  | ((with_reducible refine awp_seqQ ?_); intro _ _)
  | ((with_reducible refine awp_region ?_); refine zS ?_)
  | ((with_reducible refine CallK_id ?_); refine zcT [1] ?_; refine ⟨_, _, by first | exact flows_ok 111 (fun f => decide (f.dst = i)) n i hl (fun f => ins1_ok f i) | fail, ?_⟩; try refine zS ?_)
  | ((with_reducible refine awp_ret ?_); refine q_step (by assumption) ?_)
  | with_reducible refine fin_r ?_
  | ((with_reducible refine q_step (by assumption) ?_); try refine zS ?_)
  all_goals rfl
def elsF (n : Gr) : List Int → Int
  | [] => 0
  | o :: l => (if (gt n.fs o.toNat).els = true then 1 else 0) + elsF n l
theorem elsF_le (n : Gr) : ∀ l : List Int, 0 ≤ elsF n l ∧ elsF n l ≤ l.length
  | [] => by simp [elsF]
  | o :: l => by have := elsF_le n l; rw [elsF]; simp only [List.length_cons]; split <;> omega
def timF (n : Gr) (l : List Int) : Bool := l.all fun o => decide ((gt n.ns (gt n.fs o.toNat).dst.toNat).kind = 8)
def fitsF (n : Gr) (i : Int) : Bool :=
  let k := (gt n.ns i.toNat).kind
  let o : Int := (outsF n i).length
  let m : Int := (insF n i).length
  if k = 1 then decide (m = 0) && decide (o = 1) else if k = 2 then decide (m = 1) && decide (o = 0) else if k = 7 then decide (m = 1) && decide (o > 1) && timF n (outsF n i)
  else if k = 5 ∨ k = 6 then (decide (m = 1 ∧ o > 1) && decide (k = 6 ∨ elsF n (outsF n i) = 1)) || decide (m > 1 ∧ o = 1) else decide (m = 1) && decide (o = 1)
theorem els_drop {n : Gr} {os : List Int} {j : Nat} (h : j < os.length) : elsF n (os.drop j) = (if (gt n.fs (gt os j).toNat).els = true then 1 else 0) + elsF n (os.drop (j + 1)) := by
  rw [drop_gt h, elsF]
theorem tim_drop {n : Gr} {os : List Int} {j : Nat} (h : j < os.length) : timF n (os.drop j) = (decide ((gt n.ns (gt n.fs (gt os j).toNat).dst.toNat).kind = 8) && timF n (os.drop (j + 1))) := by
  rw [drop_gt h, timF, List.all_cons]; rfl
theorem fits_ok (n : Gr) (i : Int) (hl : n.fs.length < 1000000000000) (hi0 : 0 ≤ i) (hi1 : i < n.ns.length) (hd : ∀ f ∈ n.fs, 0 ≤ f.dst ∧ f.dst < n.ns.length) : AFn env 97 [n.a, aI i] [] (aB (fitsF n i)) [] := by
  have hol : (outsF n i).length ≤ n.fs.length := idxs_len (fun f => decide (f.src = i)) n.fs 0
  have hil : (insF n i).length ≤ n.fs.length := idxs_len (fun f => decide (f.dst = i)) n.fs 0
  have hom : ∀ k ∈ outsF n i, 0 ≤ k ∧ k < n.fs.length := fun k hk => by have := idxs_mem hk; omega
  refine afn_body Tryz.func97 rfl (by decide) ?_
  simp only [Tryz.ntmps97, Tryz.results97, List.length_cons, List.length_nil, List.cons_append, List.nil_append, Nat.reduceAdd, Nat.reduceSub, List.replicate]
  repeat' first
  | ((with_reducible refine awp_seqQ ?_); intro _ _)
  | ((with_reducible refine awp_region ?_); refine zS ?_)
  | ((with_reducible refine awp_drawnA ?_ ?_); rfl; refine zS ?_)
  | ((with_reducible refine DStep_id ?_); refine zdP ?_; refine ⟨_, by first | exact outs_ok n i (by omega) | exact ins_ok n i (by omega) | fail, fun _ => rfl, fun _ => rfl, rfl, (fun h => by first | cases h | fail), ?_⟩; try refine zS ?_)
  | with_reducible refine awp_block ?_
  | ((with_reducible refine CallK_id ?_); refine zcF ?_; refine ⟨_, by first | exact outs_ok n i (by omega) | exact ins_ok n i (by omega) | fail, fun _ => rfl, fun _ => rfl, rfl, ?_⟩; try refine zS ?_)
  refine awp_loopT (fun z : Nat × Int × Bool => z.1 ≤ (outsF n i).length ∧ z.2.1 + elsF n ((outsF n i).drop z.1) = elsF n (outsF n i) ∧ (z.2.2 && timF n ((outsF n i).drop z.1)) = timF n (outsF n i) ∧ 0 ≤ z.2.1 ∧ z.2.1 ≤ z.1) (fun z => (outsF n i).length - z.1) (fun z => [(8, aI z.2.1), (9, aB z.2.2), (28, aI z.1)]) (fun z => [some (.box n.bs)]) (0, 0, true) ⟨by simp, by simp, by simp, by simp, by simp⟩ zwl ?_
  rintro ⟨j, c, t⟩ ⟨h1, h2, h3, h4, h5⟩
  simp only at h1 h2 h3 h4 h5
  have hR : j < (outsF n i).length → 0 ≤ gt (outsF n i) j ∧ gt (outsF n i) j < n.fs.length := fun h => hom _ (gt_mem h)
  have hD : j < (outsF n i).length → 0 ≤ (gt n.fs (gt (outsF n i) j).toNat).dst ∧ (gt n.fs (gt (outsF n i) j).toNat).dst < n.ns.length := fun h => hd _ (gt_mem (by have := hR h; omega))
  have hE := elsF_le n (outsF n i)
  refine zT ?_
  repeat' first
  | ((with_reducible refine awp_seqQ ?_); intro _ _)
  | ((with_reducible refine awp_region ?_); refine zS ?_)
  | ((with_reducible refine Gd_nd ?_ ?_) <;> intro hb hb2 <;> first | contradiction | (exfalso; omega) | (refine zH hb2 ?_; try clear hb2))
  | ((with_reducible refine Gd_d ?_ ?_) <;> intro hb hb2 <;> first | contradiction | (exfalso; omega) | (refine zH hb2 ?_; try clear hb2))
  | ((with_reducible refine awp_drawnC ?_ ?_); rfl; refine zS ?_)
  | ((with_reducible refine CGd_b ?_ ?_) <;> intro hb <;> first | contradiction | refine zH hb ?_)
  | ((with_reducible refine AWP_c ?_); refine zcdT ?_)
  | ((with_reducible refine AWP_c ?_); refine zcdD ?_ ?_ <;> intro hb hb2 <;> first | contradiction | (exfalso; omega) | ((try refine zH hb2 ?_); try clear hb2))
  | ((with_reducible refine AWP_c ?_); refine zcdB ?_ ?_ <;> intro hb <;> first | contradiction | (try refine zH hb ?_))
  | ((with_reducible refine awp_skip ?_); try refine zS ?_)
  | with_reducible refine awp_block ?_
  | ((with_reducible refine awp_exit ?_); try refine zS ?_)
  | ((with_reducible refine awp_ret ?_); refine q_step (by assumption) ?_)
  | with_reducible refine fin_r ?_
  | ((with_reducible refine q_step (by assumption) ?_); try refine zS ?_)
  all_goals try (
    have hT1 := tim_drop (n := n) (os := outsF n i) (j := j) (by omega)
    have hE1 := els_drop (n := n) (os := outsF n i) (j := j) (by omega)
    simp only [*, ↓reduceIte, Bool.false_eq_true] at hE1
    first
    | (rename t = true => q1; rename (gt n.fs (gt (outsF n i) j).toNat).els = true => q2; exact ⟨(j + 1, c + 1, decide ((gt n.ns (gt n.fs (gt (outsF n i) j).toNat).dst.toNat).kind = 8)), ⟨by simp only; omega, by simp only; omega, by rw [← h3, hT1]; simp only [*, Bool.true_and, Bool.false_and], by simp only; omega, by simp only; omega⟩, by simp only; omega, zwc 1⟩)
    | (rename t = false => q1; rename (gt n.fs (gt (outsF n i) j).toNat).els = true => q2; exact ⟨(j + 1, c + 1, false), ⟨by simp only; omega, by simp only; omega, by rw [← h3, hT1]; simp only [*, Bool.true_and, Bool.false_and], by simp only; omega, by simp only; omega⟩, by simp only; omega, zwc 1⟩)
    | (rename t = true => q1; rename (gt n.fs (gt (outsF n i) j).toNat).els = false => q2; exact ⟨(j + 1, c, decide ((gt n.ns (gt n.fs (gt (outsF n i) j).toNat).dst.toNat).kind = 8)), ⟨by simp only; omega, by simp only; omega, by rw [← h3, hT1]; simp only [*, Bool.true_and, Bool.false_and], by simp only; omega, by simp only; omega⟩, by simp only; omega, zwc 1⟩)
    | (rename t = false => q1; rename (gt n.fs (gt (outsF n i) j).toNat).els = false => q2; exact ⟨(j + 1, c, false), ⟨by simp only; omega, by simp only; omega, by rw [← h3, hT1]; simp only [*, Bool.true_and, Bool.false_and], by simp only; omega, by simp only; omega⟩, by simp only; omega, zwc 1⟩)
    | skip)
  all_goals
    have hj : j = (outsF n i).length := by omega
    rw [List.drop_eq_nil_of_le (by omega), elsF] at h2
    rw [List.drop_eq_nil_of_le (by omega), timF, List.all_nil, Bool.and_true] at h3
    have h2 : c = elsF n (outsF n i) := by omega
    subst h2
    subst h3
    clear hE hR hD hom hd hol hil h1 h4 h5 hi0 hi1 hl h2
    unfold fitsF
    simp only
    generalize ((insF n i).length : Int) = m at *
    generalize ((outsF n i).length : Int) = o at *
    generalize (gt n.ns i.toNat).kind = k at *
    generalize timF n (outsF n i) = t at *
    generalize elsF n (outsF n i) = e at *
  all_goals first
    | (simp [*]; done)
    | (simp [*]; omega)
    | trace_state
end Go.Eng
open Go Go.Proofs
namespace Go.Eng
set_option linter.unusedSimpArgs false
set_option linter.unusedVariables false
set_option maxRecDepth 10000
set_option maxHeartbeats 8000000
theorem in1_ok (n : Gr) (i : Int) (hl : n.ns.length < 1000000000000) : AFn env 94 [aI i, P0] [some (.box n.bs)] (aB (inR n.ns.length i)) [some (.box n.bs)] := by
  refine afn_body Tryz.func94 rfl (by decide) ?_
  simp only [Tryz.ntmps94, Tryz.results94, List.length_cons, List.length_nil, List.cons_append, List.nil_append, Nat.reduceAdd, Nat.reduceSub, List.replicate]
  repeat' first
  | ((with_reducible refine awp_seqQ ?_); intro _ _)
  | ((with_reducible refine awp_region ?_); refine zS ?_)
  | ((with_reducible refine Gd_d ?_ ?_) <;> intro hb hb2 <;> first | contradiction | (exfalso; omega) | (refine zH hb2 ?_; try clear hb2))
  | ((with_reducible refine awp_ret ?_); refine q_step (by assumption) ?_)
  | with_reducible refine fin_r ?_
  | ((with_reducible refine q_step (by assumption) ?_); try refine zS ?_)
  all_goals first | (simp [go_sem, inR, *]; done) | (simp [go_sem, inR, *]; omega)
def leadsF (n : Gr) (f : Fl) : Bool := (inR n.ns.length f.src && (inR n.ns.length f.dst && decide (f.src ≠ f.dst))) &&
  (if (gt n.ns f.src.toNat).kind ≠ 5 ∨ (outsF n f.src).length < 2 then !f.els && noneF f.t else if f.els = true then noneF f.t else ofF f.t 2)
theorem leads_ok (n : Gr) (f : Fl) (hs : f.t.size < 4611686018427387904) (hn : n.ns.length < 1000000000000) (hf : n.fs.length < 1000000000000) : AFn env 70 [n.a, f.a] [] (aB (leadsF n f)) [] := by
  have hol : (outsF n f.src).length ≤ n.fs.length := idxs_len _ n.fs 0
  have hin : inR n.ns.length f.src = true → 0 ≤ f.src ∧ f.src < n.ns.length := fun h => by simpa [inR] using h
  refine afn_body Tryz.func70 rfl (by decide) ?_
  simp only [Tryz.ntmps70, Tryz.results70, List.length_cons, List.length_nil, List.cons_append, List.nil_append, Nat.reduceAdd, Nat.reduceSub, List.replicate]
  repeat' first
  | ((with_reducible refine awp_seqQ ?_); intro _ _)
  | ((with_reducible refine awp_region ?_); refine zS ?_)
  | ((with_reducible refine Gd_b ?_ ?_) <;> intro hb <;> first | contradiction | refine zH hb ?_)
  | ((with_reducible refine AWP_c ?_); refine zcdT ?_)
  | ((with_reducible refine AWP_c ?_); refine zcdD ?_ ?_ <;> intro hb hb2 <;> first | contradiction | (exfalso; omega) | ((try refine zH hb2 ?_); try clear hb2))
  | with_reducible refine awp_block ?_
  | ((with_reducible refine CallK_id ?_); refine zcT [0] ?_; refine ⟨_, _, by first | exact in1_ok n _ (by omega) | fail, ?_⟩; try refine zS ?_)
  | ((with_reducible refine awp_ret ?_); refine q_step (by assumption) ?_)
  | with_reducible refine fin_r ?_
  | ((with_reducible refine q_step (by assumption) ?_); try refine zS ?_)
  all_goals try (simp [go_sem, leadsF, *]; done)
  have hin := hin ‹_›
  refine zS ?_
  repeat' first
  | ((with_reducible refine awp_seqQ ?_); intro _ _)
  | ((with_reducible refine awp_region ?_); refine zS ?_)
  | ((with_reducible refine Gd_nb ?_ ?_) <;> intro hb <;> first | contradiction | refine zH hb ?_)
  | ((with_reducible refine Gd_d ?_ ?_) <;> intro hb hb2 <;> first | contradiction | (exfalso; omega) | (refine zH hb2 ?_; try clear hb2))
  | ((with_reducible refine AWP_c ?_); refine zcdT ?_)
  | ((with_reducible refine AWP_c ?_); refine zcdD ?_ ?_ <;> intro hb hb2 <;> first | contradiction | (exfalso; omega) | ((try refine zH hb2 ?_); try clear hb2))
  | ((with_reducible refine AWP_c ?_); refine zcdB ?_ ?_ <;> intro hb <;> first | contradiction | (try refine zH hb ?_))
  | ((with_reducible refine awp_skip ?_); try refine zS ?_)
  | ((with_reducible refine CallK_id ?_); refine zcF ?_; refine ⟨_, by first | exact noneN_ok _ | exact ofN_ok _ 2 hs | exact outs_ok n f.src (by omega) | fail, fun _ => rfl, fun _ => rfl, rfl, ?_⟩; try refine zS ?_)
  | ((with_reducible refine awp_ret ?_); refine q_step (by assumption) ?_)
  | with_reducible refine fin_r ?_
  | ((with_reducible refine q_step (by assumption) ?_); try refine zS ?_)
  all_goals (clear hin hol hs hn hf; simp [go_sem, leadsF, *]; try omega)
def plc (r : Int) (p : Nat → Bool) (l : List Nat) : List Lk := (l.filter p).map fun (i : Nat) => (⟨r, i⟩ : Lk)
theorem plc_len (r : Int) (p : Nat → Bool) (l : List Nat) : (plc r p l).length ≤ l.length := by rw [plc, List.length_map]; exact List.length_filter_le _ _
theorem plc_t {r : Int} {p : Nat → Bool} {n j : Nat} (h : j < n) (hp : p j = true) : plc r p (List.range' j (n - j)) = ⟨r, j⟩ :: plc r p (List.range' (j + 1) (n - (j + 1))) := by
  rw [show n - j = (n - (j + 1)) + 1 by omega, List.range'_succ, plc, List.filter_cons, if_pos hp]; rfl
theorem plc_f {r : Int} {p : Nat → Bool} {n j : Nat} (h : j < n) (hp : p j = false) : plc r p (List.range' j (n - j)) = plc r p (List.range' (j + 1) (n - (j + 1))) := by
  rw [show n - j = (n - (j + 1)) + 1 by omega, List.range'_succ, plc, List.filter_cons, if_neg (by simp [hp])]; rfl
def plF (r : Int) (n : Nat) (p : Nat → Bool) : List Lk := plc r p (List.range' 0 n)
theorem places1_ok (n : Gr) (r : Int) (m : Nat) (F : FuncId) (p : Nat → Bool) (hm : m < 1000000000000) (h : ∀ j : Nat, j < m → AFn env F ([aI j] ++ [.ptr 0 0 0 0].map .c) [some (.box n.bs)] (aB (p j)) [some (.box n.bs)]) :
    AFn env 66 [aI r, aI m, .c (.clo (.func F) [.ptr 0 0 0 0])] [some (.box n.bs)] (OwnK 1 (plF r m p).length) [some (.box n.bs), RwK (plF r m p)] := by
  refine afn_body Tryz.func66 rfl (by decide) ?_
  simp only [Tryz.ntmps66, Tryz.results66, List.length_cons, List.length_nil, List.cons_append, List.nil_append, Nat.reduceAdd, Nat.reduceSub, List.replicate]
  iterate 2 (refine awp_seq ?_; refine awp_region ?_; refine zS ?_)
  refine awp_wk (wk_virt none (i := 7) (s := 2) (by decide) rfl) ?_
  refine zT ?_
  repeat' first
  | ((with_reducible refine awp_seqQ ?_); intro _ _)
  | ((with_reducible refine awp_region ?_); refine zS ?_)
  | with_reducible refine awp_block ?_
  refine awp_loopT (fun z : Nat × List Lk => z.1 ≤ m ∧ z.2 ++ plc r p (List.range' z.1 (m - z.1)) = plF r m p ∧ z.2.length ≤ z.1) (fun z => m - z.1) (fun z => [(7, OwnK 1 z.2.length), (10, aI z.1)]) (fun z => [some (.box n.bs), RwK z.2]) (0, []) ⟨by simp, by simp [plF], by simp⟩ zwl ?_
  rintro ⟨j, o⟩ ⟨h1, h2, h3⟩
  simp only at h1 h2 h3
  simp only [List.map, List.cons_append, List.nil_append] at h
  refine zT ?_
  repeat' first
  | ((with_reducible refine awp_seqQ ?_); intro _ _)
  | ((with_reducible refine awp_region ?_); refine zS ?_)
  | ((with_reducible refine AWP_c ?_); refine zcdD ?_ ?_ <;> intro hb hb2 <;> first | contradiction | (exfalso; omega) | ((try refine zH hb2 ?_); try clear hb2))
  | ((with_reducible refine AWP_c ?_); refine zcdB ?_ ?_ <;> intro hb <;> first | contradiction | (try refine zH hb ?_))
  | ((with_reducible refine awp_skip ?_); try refine zS ?_)
  | with_reducible refine awp_block ?_
  | ((with_reducible refine awp_exit ?_); try refine zS ?_)
  | ((with_reducible refine CallK_id ?_); refine zcT [0] ?_; refine ⟨_, _, by first | exact h j (by omega) | fail, ?_⟩; try refine zS ?_)
  | ((with_reducible refine awp_ret ?_); refine q_step (by assumption) ?_)
  | ((with_reducible refine q_step (by assumption) ?_); try refine zS ?_)
  · exact ⟨(j + 1, o ++ [⟨r, (j : Int)⟩]), ⟨by simp only; omega, by rw [← h2, plc_t (j := j) (by omega) ‹_›]; simp, by simp; omega⟩, by simp only; omega, wk_cl 2 (by decide) (by simp) (by simp only [go_sem, Bool.not_not, List.mem_singleton, forall_eq, ↓reduceIte, if_pos, rowsAt_map, wrap64, wrapu8, List.getElem?_cons_zero, List.getElem?_cons_succ, Int.reduceToNat, Nat.reduceAdd, Nat.reduceBEq, Bool.or_false, Bool.false_or, Bool.true_or, Nat.reduceSub, Nat.reduceMul, Int.reduceAdd, Int.reduceEq, Int.reduceLT, Int.reduceLE, Int.reduceNeg, Nat.reduceLT, Nat.reduceLeDiff, Nat.reduceEqDiff]; try simp) (by simp only [go_sem, Bool.not_not, List.mem_singleton, forall_eq, ↓reduceIte, if_pos, rowsAt_map, wrap64, wrapu8, List.getElem?_cons_zero, List.getElem?_cons_succ, Int.reduceToNat, Nat.reduceAdd, Nat.reduceBEq, Bool.or_false, Bool.false_or, Bool.true_or, Nat.reduceSub, Nat.reduceMul, Int.reduceAdd, Int.reduceEq, Int.reduceLT, Int.reduceLE, Int.reduceNeg, Nat.reduceLT, Nat.reduceLeDiff, Nat.reduceEqDiff, List.map_append]; try simp [go_sem])⟩
  · exact ⟨(j + 1, o), ⟨by simp only; omega, by rw [← h2, plc_f (j := j) (by omega) ‹_›], by simp only; omega⟩, by simp only; omega, zwc 2⟩
  rw [show m - j = 0 by omega, List.range'_zero, plc] at h2
  simp only [List.filter_nil, List.map_nil, List.append_nil] at h2
  subst h2
  exact fin_own rfl rfl
def Rd (d : D) : Option Blk := some (.rows 1 [[d]])
attribute [go_sem] Rd
theorem places2_ok (d e : D) (r : Int) (m : Nat) (F : FuncId) (p : Nat → Bool) (hm : m < 1000000000000) (h : ∀ j : Nat, j < m → AFn env F ([aI j] ++ [.ptr 0 0 0 1, .ptr 1 0 0 1].map .c) [Rd d, Rd e] (aB (p j)) [Rd d, Rd e]) :
    AFn env 66 [aI r, aI m, .c (.clo (.func F) [.ptr 0 0 0 1, .ptr 1 0 0 1])] [Rd d, Rd e] (OwnK 2 (plF r m p).length) [Rd d, Rd e, RwK (plF r m p)] := by
  refine afn_body Tryz.func66 rfl (by decide) ?_
  simp only [Tryz.ntmps66, Tryz.results66, List.length_cons, List.length_nil, List.cons_append, List.nil_append, Nat.reduceAdd, Nat.reduceSub, List.replicate]
  iterate 2 (refine awp_seq ?_; refine awp_region ?_; refine zS ?_)
  refine awp_wk (wk_virt none (i := 7) (s := 2) (by decide) rfl) ?_
  refine zT ?_
  repeat' first
  | ((with_reducible refine awp_seqQ ?_); intro _ _)
  | ((with_reducible refine awp_region ?_); refine zS ?_)
  | with_reducible refine awp_block ?_
  refine awp_loopT (fun z : Nat × List Lk => z.1 ≤ m ∧ z.2 ++ plc r p (List.range' z.1 (m - z.1)) = plF r m p ∧ z.2.length ≤ z.1) (fun z => m - z.1) (fun z => [(7, OwnK 2 z.2.length), (10, aI z.1)]) (fun z => [Rd d, Rd e, RwK z.2]) (0, []) ⟨by simp, by simp [plF], by simp⟩ zwl ?_
  rintro ⟨j, o⟩ ⟨h1, h2, h3⟩
  simp only at h1 h2 h3
  simp only [List.map, List.cons_append, List.nil_append] at h
  refine zT ?_
  repeat' first
  | ((with_reducible refine awp_seqQ ?_); intro _ _)
  | ((with_reducible refine awp_region ?_); refine zS ?_)
  | ((with_reducible refine AWP_c ?_); refine zcdD ?_ ?_ <;> intro hb hb2 <;> first | contradiction | (exfalso; omega) | ((try refine zH hb2 ?_); try clear hb2))
  | ((with_reducible refine AWP_c ?_); refine zcdB ?_ ?_ <;> intro hb <;> first | contradiction | (try refine zH hb ?_))
  | ((with_reducible refine awp_skip ?_); try refine zS ?_)
  | with_reducible refine awp_block ?_
  | ((with_reducible refine awp_exit ?_); try refine zS ?_)
  | ((with_reducible refine CallK_id ?_); refine zcT [0, 1] ?_; refine ⟨_, _, by first | exact h j (by omega) | fail, ?_⟩; try refine zS ?_)
  | ((with_reducible refine awp_ret ?_); refine q_step (by assumption) ?_)
  | ((with_reducible refine q_step (by assumption) ?_); try refine zS ?_)
  · exact ⟨(j + 1, o ++ [⟨r, (j : Int)⟩]), ⟨by simp only; omega, by rw [← h2, plc_t (j := j) (by omega) ‹_›]; simp, by simp; omega⟩, by simp only; omega, wk_cl 3 (by decide) (by simp) (by simp only [go_sem, Bool.not_not, List.mem_singleton, forall_eq, ↓reduceIte, if_pos, rowsAt_map, wrap64, wrapu8, List.getElem?_cons_zero, List.getElem?_cons_succ, Int.reduceToNat, Nat.reduceAdd, Nat.reduceBEq, Bool.or_false, Bool.false_or, Bool.true_or, Nat.reduceSub, Nat.reduceMul, Int.reduceAdd, Int.reduceEq, Int.reduceLT, Int.reduceLE, Int.reduceNeg, Nat.reduceLT, Nat.reduceLeDiff, Nat.reduceEqDiff]; try simp) (by simp only [go_sem, Bool.not_not, List.mem_singleton, forall_eq, ↓reduceIte, if_pos, rowsAt_map, wrap64, wrapu8, List.getElem?_cons_zero, List.getElem?_cons_succ, Int.reduceToNat, Nat.reduceAdd, Nat.reduceBEq, Bool.or_false, Bool.false_or, Bool.true_or, Nat.reduceSub, Nat.reduceMul, Int.reduceAdd, Int.reduceEq, Int.reduceLT, Int.reduceLE, Int.reduceNeg, Nat.reduceLT, Nat.reduceLeDiff, Nat.reduceEqDiff, List.map_append]; try simp [go_sem])⟩
  · exact ⟨(j + 1, o), ⟨by simp only; omega, by rw [← h2, plc_f (j := j) (by omega) ‹_›], by simp only; omega⟩, by simp only; omega, zwc 3⟩
  rw [show m - j = 0 by omega, List.range'_zero, plc] at h2
  simp only [List.filter_nil, List.map_nil, List.append_nil] at h2
  subst h2
  exact fin_own rfl rfl
theorem places3_ok (n : Gr) (d e : D) (r : Int) (m : Nat) (F : FuncId) (p : Nat → Bool) (hm : m < 1000000000000) (h : ∀ j : Nat, j < m → AFn env F ([aI j] ++ [.ptr 0 0 0 0, .ptr 1 0 0 1, .ptr 2 0 0 1].map .c) [some (.box n.bs), Rd d, Rd e] (aB (p j)) [some (.box n.bs), Rd d, Rd e]) :
    AFn env 66 [aI r, aI m, .c (.clo (.func F) [.ptr 0 0 0 0, .ptr 1 0 0 1, .ptr 2 0 0 1])] [some (.box n.bs), Rd d, Rd e] (OwnK 3 (plF r m p).length) [some (.box n.bs), Rd d, Rd e, RwK (plF r m p)] := by
  refine afn_body Tryz.func66 rfl (by decide) ?_
  simp only [Tryz.ntmps66, Tryz.results66, List.length_cons, List.length_nil, List.cons_append, List.nil_append, Nat.reduceAdd, Nat.reduceSub, List.replicate]
  iterate 2 (refine awp_seq ?_; refine awp_region ?_; refine zS ?_)
  refine awp_wk (wk_virt none (i := 7) (s := 2) (by decide) rfl) ?_
  refine zT ?_
  repeat' first
  | ((with_reducible refine awp_seqQ ?_); intro _ _)
  | ((with_reducible refine awp_region ?_); refine zS ?_)
  | with_reducible refine awp_block ?_
  refine awp_loopT (fun z : Nat × List Lk => z.1 ≤ m ∧ z.2 ++ plc r p (List.range' z.1 (m - z.1)) = plF r m p ∧ z.2.length ≤ z.1) (fun z => m - z.1) (fun z => [(7, OwnK 3 z.2.length), (10, aI z.1)]) (fun z => [some (.box n.bs), Rd d, Rd e, RwK z.2]) (0, []) ⟨by simp, by simp [plF], by simp⟩ zwl ?_
  rintro ⟨j, o⟩ ⟨h1, h2, h3⟩
  simp only at h1 h2 h3
  simp only [List.map, List.cons_append, List.nil_append] at h
  refine zT ?_
  repeat' first
  | ((with_reducible refine awp_seqQ ?_); intro _ _)
  | ((with_reducible refine awp_region ?_); refine zS ?_)
  | ((with_reducible refine AWP_c ?_); refine zcdD ?_ ?_ <;> intro hb hb2 <;> first | contradiction | (exfalso; omega) | ((try refine zH hb2 ?_); try clear hb2))
  | ((with_reducible refine AWP_c ?_); refine zcdB ?_ ?_ <;> intro hb <;> first | contradiction | (try refine zH hb ?_))
  | ((with_reducible refine awp_skip ?_); try refine zS ?_)
  | with_reducible refine awp_block ?_
  | ((with_reducible refine awp_exit ?_); try refine zS ?_)
  | ((with_reducible refine CallK_id ?_); refine zcT [0, 1, 2] ?_; refine ⟨_, _, by first | exact h j (by omega) | fail, ?_⟩; try refine zS ?_)
  | ((with_reducible refine awp_ret ?_); refine q_step (by assumption) ?_)
  | ((with_reducible refine q_step (by assumption) ?_); try refine zS ?_)
  · exact ⟨(j + 1, o ++ [⟨r, (j : Int)⟩]), ⟨by simp only; omega, by rw [← h2, plc_t (j := j) (by omega) ‹_›]; simp, by simp; omega⟩, by simp only; omega, wk_cl 4 (by decide) (by simp) (by simp only [go_sem, Bool.not_not, List.mem_singleton, forall_eq, ↓reduceIte, if_pos, rowsAt_map, wrap64, wrapu8, List.getElem?_cons_zero, List.getElem?_cons_succ, Int.reduceToNat, Nat.reduceAdd, Nat.reduceBEq, Bool.or_false, Bool.false_or, Bool.true_or, Nat.reduceSub, Nat.reduceMul, Int.reduceAdd, Int.reduceEq, Int.reduceLT, Int.reduceLE, Int.reduceNeg, Nat.reduceLT, Nat.reduceLeDiff, Nat.reduceEqDiff]; try simp) (by simp only [go_sem, Bool.not_not, List.mem_singleton, forall_eq, ↓reduceIte, if_pos, rowsAt_map, wrap64, wrapu8, List.getElem?_cons_zero, List.getElem?_cons_succ, Int.reduceToNat, Nat.reduceAdd, Nat.reduceBEq, Bool.or_false, Bool.false_or, Bool.true_or, Nat.reduceSub, Nat.reduceMul, Int.reduceAdd, Int.reduceEq, Int.reduceLT, Int.reduceLE, Int.reduceNeg, Nat.reduceLT, Nat.reduceLeDiff, Nat.reduceEqDiff, List.map_append]; try simp [go_sem])⟩
  · exact ⟨(j + 1, o), ⟨by simp only; omega, by rw [← h2, plc_f (j := j) (by omega) ‹_›], by simp only; omega⟩, by simp only; omega, zwc 4⟩
  rw [show m - j = 0 by omega, List.range'_zero, plc] at h2
  simp only [List.filter_nil, List.map_nil, List.append_nil] at h2
  subst h2
  exact fin_own rfl rfl
end Go.Eng
open Go Go.Proofs
namespace Go.Eng
set_option linter.unusedSimpArgs false
set_option linter.unusedVariables false
set_option maxRecDepth 10000
set_option maxHeartbeats 8000000
theorem rowsAt1 (r : List D) : rowsAt [r] 0 = r := rfl
theorem mapCd1 (d : D) : List.map C.d [d] = [C.d d] := rfl
attribute [go_sem] rowsAt1 mapCd1 List.getElem?_nil
theorem plF_len (r : Int) (m : Nat) (p : Nat → Bool) : (plF r m p).length ≤ m := by have := plc_len r p (List.range' 0 m); simpa [plF] using this
structure GrOk (n : Gr) : Prop where
  hn : n.ns.length ≤ 1000000
  hf : n.fs.length ≤ 1000000
  ns : ∀ d ∈ n.ns, d.t.size < 4611686018427387904
  fs : ∀ f ∈ n.fs, f.t.size < 4611686018427387904
theorem all1_ok (n : Gr) (hg : GrOk n) (j : Nat) (hj : j < n.ns.length) : AFn env 67 [aI j, P0] [some (.box n.bs)] (aB (!rightN (gt n.ns j))) [some (.box n.bs)] := by
  refine afn_body Tryz.func67 rfl (by decide) ?_
  simp only [Tryz.ntmps67, Tryz.results67, List.length_cons, List.length_nil, List.cons_append, List.nil_append, Nat.reduceAdd, Nat.reduceSub, List.replicate]
  repeat' first
  | ((with_reducible refine awp_seqQ ?_); intro _ _)
  | ((with_reducible refine awp_region ?_); refine zS ?_)
  | ((with_reducible refine CallK_id ?_); refine zcF ?_; refine ⟨_, by first | exact right_okN (gt n.ns j) (hg.ns _ (gt_mem hj)) | fail, fun _ => rfl, fun _ => rfl, rfl, ?_⟩; try refine zS ?_)
  | ((with_reducible refine awp_ret ?_); refine q_step (by assumption) ?_)
  | with_reducible refine fin_r ?_
  | ((with_reducible refine q_step (by assumption) ?_); try refine zS ?_)
  all_goals rfl
theorem all2_ok (n : Gr) (hg : GrOk n) (j : Nat) (hj : j < n.fs.length) : AFn env 69 [aI j, P0] [some (.box n.bs)] (aB (!leadsF n (gt n.fs j))) [some (.box n.bs)] := by
  refine afn_body Tryz.func69 rfl (by decide) ?_
  simp only [Tryz.ntmps69, Tryz.results69, List.length_cons, List.length_nil, List.cons_append, List.nil_append, Nat.reduceAdd, Nat.reduceSub, List.replicate]
  repeat' first
  | ((with_reducible refine awp_seqQ ?_); intro _ _)
  | ((with_reducible refine awp_region ?_); refine zS ?_)
  | ((with_reducible refine awp_drawnC ?_ ?_); rfl; refine zS ?_)
  | ((with_reducible refine DStep_id ?_); refine zdW ?_; refine ⟨_, by first | exact leads_ok n (gt n.fs j) (hg.fs _ (gt_mem hj)) (by have := hg.hn; omega) (by have := hg.hf; omega) | fail, fun _ => rfl, fun _ => rfl, rfl, ?_⟩; try refine zS ?_)
  | ((with_reducible refine awp_ret ?_); refine q_step (by assumption) ?_)
  | with_reducible refine fin_r ?_
  | ((with_reducible refine q_step (by assumption) ?_); try refine zS ?_)
  all_goals rfl
def PR (i : Nat) : A := .c (.ptr i 0 0 1)
attribute [go_sem] PR
def inG (n : Gr) : Prop := ∀ f ∈ n.fs, 0 ≤ f.src ∧ f.src < n.ns.length ∧ 0 ≤ f.dst ∧ f.dst < n.ns.length
def third1F (n : Gr) (s e : Int) (j : Nat) : Bool := (!fitsF n j || (decide ((gt n.ns j).kind = 1) && decide ((j : Int) ≠ s))) || (decide ((gt n.ns j).kind = 2) && decide ((j : Int) ≠ e))
theorem third1_ok (n : Gr) (hg : GrOk n) (hi : inG n) (s e : Int) (j : Nat) (hj : j < n.ns.length) : AFn env 96 [aI j, P0, PR 1, PR 2] [some (.box n.bs), Rd (dI s), Rd (dI e)] (aB (third1F n s e j)) [some (.box n.bs), Rd (dI s), Rd (dI e)] := by
  refine afn_body Tryz.func96 rfl (by decide) ?_
  simp only [Tryz.ntmps96, Tryz.results96, List.length_cons, List.length_nil, List.cons_append, List.nil_append, Nat.reduceAdd, Nat.reduceSub, List.replicate]
  repeat' first
  | ((with_reducible refine awp_seqQ ?_); intro _ _)
  | ((with_reducible refine awp_region ?_); refine zS ?_)
  | ((with_reducible refine Gd_d ?_ ?_) <;> intro hb hb2 <;> first | contradiction | (exfalso; omega) | (refine zH hb2 ?_; try clear hb2))
  | ((with_reducible refine Gd_b ?_ ?_) <;> intro hb <;> first | contradiction | refine zH hb ?_)
  | ((with_reducible refine CallK_id ?_); refine zcF ?_; refine ⟨_, by first | exact fits_ok n j (by have := hg.hf; omega) (by omega) (by omega) (fun f hf => (hi f hf).2.2) | fail, fun _ => rfl, fun _ => rfl, rfl, ?_⟩; try refine zS ?_)
  | ((with_reducible refine awp_ret ?_); refine q_step (by assumption) ?_)
  | with_reducible refine fin_r ?_
  | ((with_reducible refine q_step (by assumption) ?_); try refine zS ?_)
  all_goals first | (simp [go_sem, third1F, *]; done) | (simp only [third1F, ‹fitsF n _ = _›]; simp [go_sem]; omega) | trace_state
def thirdF (n : Gr) : List Lk := plF 3 n.ns.length (third1F n (startF n) (endF n)) ++ (if startF n < 0 ∨ endF n < 0 then [⟨3, n.ns.length⟩] else [])
theorem third_ok (n : Gr) (hg : GrOk n) (hi : inG n) : AFn env 71 [n.a] [] (aF ((thirdF n).map Lk.row)) [] := by
  have hn := hg.hn
  have hpl := plF_len 3 n.ns.length (third1F n (startF n) (endF n))
  refine afn_body Tryz.func71 rfl (by decide) ?_
  simp only [Tryz.ntmps71, Tryz.results71, List.length_cons, List.length_nil, List.cons_append, List.nil_append, Nat.reduceAdd, Nat.reduceSub, List.replicate]
  refine awp_seq ?_
  refine awp_region ?_
  refine zS ?_
  refine awp_wk (wk_vnew (s := 1) none (by decide)) ?_
  refine awp_wk (wk_vnew (s := 1) none (by decide)) ?_
  refine zT ?_
  refine awp_seq ?_
  refine awp_drawV ⟨4, 5, 6, 7, 1, 1, 2, 1⟩ (by decide) (by decide) rfl rfl (by decide) (by decide) (by decide) ?_
  simp only [List.set_cons_succ, List.set_cons_zero]
  refine go_p (by simp only [go_sem, Bool.not_not, List.mem_singleton, forall_eq, ↓reduceIte, if_pos, rowsAt_map, wrap64, wrapu8, List.getElem?_cons_zero, List.getElem?_cons_succ, Int.reduceToNat, Nat.reduceAdd, Nat.reduceBEq, Bool.or_false, Bool.false_or, Bool.true_or, Nat.reduceSub, Nat.reduceMul, Int.reduceAdd, Int.reduceEq, Int.reduceLT, Int.reduceLE, Int.reduceNeg, Nat.reduceLT, Nat.reduceLeDiff, Nat.reduceEqDiff]; rfl) rfl (by decide) rfl rfl ?_
  refine zT ?_
  refine go_c ⟨_, rfl⟩ rfl (by simp only [go_sem, Bool.not_not, List.mem_singleton, forall_eq, ↓reduceIte, if_pos, rowsAt_map, wrap64, wrapu8, List.getElem?_cons_zero, List.getElem?_cons_succ, Int.reduceToNat, Nat.reduceAdd, Nat.reduceBEq, Bool.or_false, Bool.false_or, Bool.true_or, Nat.reduceSub, Nat.reduceMul, Int.reduceAdd, Int.reduceEq, Int.reduceLT, Int.reduceLE, Int.reduceNeg, Nat.reduceLT, Nat.reduceLeDiff, Nat.reduceEqDiff]) rfl (by decide) (start_ok n (by omega)) (fun _ => rfl) (fun _ => rfl) rfl ?_
  refine zT ?_
  refine go_p (by simp only [go_sem, Bool.not_not, List.mem_singleton, forall_eq, ↓reduceIte, if_pos, rowsAt_map, wrap64, wrapu8, List.getElem?_cons_zero, List.getElem?_cons_succ, Int.reduceToNat, Nat.reduceAdd, Nat.reduceBEq, Bool.or_false, Bool.false_or, Bool.true_or, Nat.reduceSub, Nat.reduceMul, Int.reduceAdd, Int.reduceEq, Int.reduceLT, Int.reduceLE, Int.reduceNeg, Nat.reduceLT, Nat.reduceLeDiff, Nat.reduceEqDiff]; rfl) rfl (by decide) rfl rfl ?_
  refine zT ?_
  refine go_c ⟨_, rfl⟩ rfl (by simp only [go_sem, Bool.not_not, List.mem_singleton, forall_eq, ↓reduceIte, if_pos, rowsAt_map, wrap64, wrapu8, List.getElem?_cons_zero, List.getElem?_cons_succ, Int.reduceToNat, Nat.reduceAdd, Nat.reduceBEq, Bool.or_false, Bool.false_or, Bool.true_or, Nat.reduceSub, Nat.reduceMul, Int.reduceAdd, Int.reduceEq, Int.reduceLT, Int.reduceLE, Int.reduceNeg, Nat.reduceLT, Nat.reduceLeDiff, Nat.reduceEqDiff]) rfl (by decide) (end_ok n (by omega)) (fun _ => rfl) (fun _ => rfl) rfl ?_
  refine zT ?_
  refine go_1 rfl rfl (by simp only [go_sem, Bool.not_not, List.mem_singleton, forall_eq, ↓reduceIte, if_pos, rowsAt_map, wrap64, wrapu8, List.getElem?_cons_zero, List.getElem?_cons_succ, Int.reduceToNat, Nat.reduceAdd, Nat.reduceBEq, Bool.or_false, Bool.false_or, Bool.true_or, Nat.reduceSub, Nat.reduceMul, Int.reduceAdd, Int.reduceEq, Int.reduceLT, Int.reduceLE, Int.reduceNeg, Nat.reduceLT, Nat.reduceLeDiff, Nat.reduceEqDiff]; rfl) rfl ?_
  refine zT ?_
  refine go_2 rfl rfl (by simp only [go_sem, Bool.not_not, List.mem_singleton, forall_eq, ↓reduceIte, if_pos, rowsAt_map, wrap64, wrapu8, List.getElem?_cons_zero, List.getElem?_cons_succ, Int.reduceToNat, Nat.reduceAdd, Nat.reduceBEq, Bool.or_false, Bool.false_or, Bool.true_or, Nat.reduceSub, Nat.reduceMul, Int.reduceAdd, Int.reduceEq, Int.reduceLT, Int.reduceLE, Int.reduceNeg, Nat.reduceLT, Nat.reduceLeDiff, Nat.reduceEqDiff]; rfl) rfl ?_
  refine zT ?_
  refine go_s1 rfl rfl (by decide) rfl rfl rfl rfl ?_
  refine zT ?_
  refine go_s2 rfl rfl (by decide) rfl rfl rfl rfl ?_
  refine zT ?_
  refine go_e ?_
  repeat' first
  | ((with_reducible refine awp_seqQ ?_); intro _ _)
  | ((with_reducible refine awp_region ?_); refine zS ?_)
  | ((with_reducible refine Gd_nd ?_ ?_) <;> intro hb hb2 <;> first | contradiction | (exfalso; omega) | (refine zH hb2 ?_; try clear hb2))
  | ((with_reducible refine AWP_c ?_); refine zcdT ?_)
  | ((with_reducible refine AWP_c ?_); refine zcdD ?_ ?_ <;> intro hb hb2 <;> first | contradiction | (exfalso; omega) | ((try refine zH hb2 ?_); try clear hb2))
  | ((with_reducible refine awp_skip ?_); try refine zS ?_)
  | ((with_reducible refine CallK_id ?_); refine zcT [0, 1, 2] ?_; refine ⟨_, _, by first | exact places3_ok n (dI (startF n)) (dI (endF n)) 3 n.ns.length 96 (third1F n (startF n) (endF n)) (by have := hg.hn; omega) (fun j hj => third1_ok n hg hi _ _ j hj) | fail, ?_⟩; try refine zS ?_)
  | ((with_reducible refine awp_ret ?_); refine q_step (by assumption) ?_)
  | ((with_reducible refine q_step (by assumption) ?_); try refine zS ?_)
  all_goals first
    | (refine fin_r ?_; rw [thirdF, if_neg (by omega)]; simp [go_sem]; done)
    | (refine fin_r (r0 := aF ((plF 3 n.ns.length (third1F n (startF n) (endF n))).map Lk.row ++ [[dI 3, dI n.ns.length]])) (H1 := [_, _, _, none, _]) ?_ (h2 := by simp [go_sem, frA, subR, List.take_of_length_le]; exact ⟨rfl, rfl, rfl, rfl⟩); rw [thirdF, if_pos (by omega)]; simp [go_sem]; done)
    | trace_state
end Go.Eng
open Go Go.Proofs
namespace Go.Eng
set_option linter.unusedSimpArgs false
set_option linter.unusedVariables false
set_option maxRecDepth 10000
set_option maxHeartbeats 8000000
def nextF (i : Int) (back : Bool) (f : Fl) : Option Int := if back = true then (if f.dst = i then some f.src else none) else if f.src = i then some f.dst else none
def nexts (n : Gr) (i : Int) (back : Bool) : List Int := n.fs.filterMap (nextF i back)
def metN (n : Gr) (back : Bool) : Nat → List Bool → List Int → List Bool
  | 0, s, _ => s
  | _ + 1, s, [] => s
  | k + 1, s, i :: t => if s.length ≤ i.toNat ∨ gb s i = true then metN n back k s t else metN n back k (s.set i.toNat true) (t ++ nexts n i back)
def meas (n : Gr) (s : List Bool) (t : List Int) : Nat := cf s * (n.fs.length + 1) + t.length
def metF (n : Gr) (from_ : Int) (back : Bool) : List Bool := metN n back (n.ns.length * (n.fs.length + 1) + 1) (List.replicate n.ns.length false) [from_]
theorem nexts_len (n : Gr) (i : Int) (back : Bool) : (nexts n i back).length ≤ n.fs.length := List.length_filterMap_le _ _
theorem metN_nil (n : Gr) (back : Bool) (k : Nat) (s : List Bool) : metN n back k s [] = s := by cases k <;> rfl
theorem meas_step {n : Gr} {s : List Bool} {i : Int} {t : List Int} {back : Bool} (h : ¬ (s.length ≤ i.toNat ∨ gb s i = true)) : meas n (s.set i.toNat true) (t ++ nexts n i back) ≤ cf s * (n.fs.length + 1) + t.length := by
  have hc := cf_set (s := s) (j := i.toNat) (by omega) (by have : ¬ gb s i = true := fun h' => h (.inr h'); simpa [gb] using this)
  have := nexts_len n i back
  unfold meas
  rw [← hc, Nat.add_mul, Nat.one_mul, List.length_append]
  omega
theorem metN_ge (n : Gr) (back : Bool) : ∀ (k : Nat) (s : List Bool) (t : List Int), meas n s t ≤ k → metN n back k s t = metN n back (meas n s t) s t := by
  intro k
  induction k using Nat.strongRecOn with
  | _ k ih =>
    intro s t h
    cases t with
    | nil => rw [metN_nil, metN_nil]
    | cons i t =>
      have hm : meas n s (i :: t) = (cf s * (n.fs.length + 1) + t.length) + 1 := by simp [meas]; omega
      rw [hm] at h ⊢
      obtain ⟨k, rfl⟩ : ∃ j, k = j + 1 := ⟨k - 1, by omega⟩
      rw [metN, metN]
      split
      · exact ih k (by omega) s t (by simp only [meas]; omega)
      · rename_i hc
        have h2 := meas_step (n := n) (t := t) (back := back) hc
        rw [ih k (by omega) _ _ (by omega), ih (cf s * (n.fs.length + 1) + t.length) (by omega) _ _ h2]
theorem metN_go {n : Gr} {back : Bool} {s : List Bool} {i : Int} {t : List Int} (h : ¬ (s.length ≤ i.toNat ∨ gb s i = true)) : metN n back (meas n s (i :: t)) s (i :: t) = metN n back (meas n (s.set i.toNat true) (t ++ nexts n i back)) (s.set i.toNat true) (t ++ nexts n i back) := by
  rw [show meas n s (i :: t) = (cf s * (n.fs.length + 1) + t.length) + 1 by simp [meas]; omega, metN, if_neg h, metN_ge _ _ _ _ _ (meas_step h)]
theorem metN_no {n : Gr} {back : Bool} {s : List Bool} {i : Int} {t : List Int} (h : gb s i = true) : metN n back (meas n s (i :: t)) s (i :: t) = metN n back (meas n s t) s t := by
  rw [show meas n s (i :: t) = meas n s t + 1 by simp [meas]; omega, metN, if_pos (.inr h)]
theorem metN_len (n : Gr) (back : Bool) : ∀ (k : Nat) (s : List Bool) (t : List Int), (metN n back k s t).length = s.length
  | 0, s, _ => rfl
  | _ + 1, s, [] => rfl
  | k + 1, s, i :: t => by
    rw [metN]
    split
    · exact metN_len n back k s t
    · rw [metN_len n back k]; simp
def RwO1 (s : List Bool) : Option Blk := some (.rows 1 (s.map bRow))
def OwnT (off len n : Nat) : A := .c (.own 2 off len n)
attribute [go_sem] OwnT
structure MetI (n : Gr) (from_ : Int) (back : Bool) (s : List Bool) (off len : Nat) (rs : List Int) : Prop where
  sl : s.length = n.ns.length
  ol : off + len = rs.length
  bd : rs.length + cf s * n.fs.length ≤ 1 + n.ns.length * n.fs.length
  rg : ∀ i ∈ rs, 0 ≤ i ∧ i < n.ns.length
  eq : metN n back (meas n s (rs.drop off)) s (rs.drop off) = metF n from_ back
theorem met_ok (n : Gr) (from_ : Int) (back : Bool) (hg : GrOk n) (hi : inG n) (h0 : 0 ≤ from_ ∧ from_ < n.ns.length) : AFn env 72 [n.a, aI from_, aB back] [] (aF ((metF n from_ back).map bRow)) [] := by
  have hn := hg.hn
  have hf := hg.hf
  have hb : n.ns.length * n.fs.length ≤ 1000000 * 1000000 := Nat.mul_le_mul hn hf
  refine afn_body Tryz.func72 rfl (by decide) ?_
  simp only [Tryz.ntmps72, Tryz.results72, List.length_cons, List.length_nil, List.cons_append, List.nil_append, Nat.reduceAdd, Nat.reduceSub, List.replicate]
  repeat' first
  | ((with_reducible refine awp_seqQ ?_); intro _ _)
  | ((with_reducible refine awp_region ?_); refine zS ?_)
  | with_reducible refine awp_block ?_
  refine awp_loopT (fun z : List Bool × Nat × Nat × List Int => MetI n from_ back z.1 z.2.1 z.2.2.1 z.2.2.2) (fun z => cf z.1 * (n.fs.length + 1) + z.2.2.1) (fun z => [(8, OwnT z.2.1 z.2.2.1 z.2.2.2.length)]) (fun z => [some (.box n.bs), RwO z.1, RwG z.2.2.2]) (List.replicate n.ns.length false, 0, 1, [from_]) ⟨by simp, by simp, by simp [cf_rep], by simpa using h0, by simp [metF, meas, cf_rep]⟩ zwl ?_
  rintro ⟨s, off, len, rs⟩ ⟨h1, h2, h3, h4, h5⟩
  simp only at h1 h2 h3 h4 h5
  have hR : off < rs.length → 0 ≤ gt rs off ∧ gt rs off < n.ns.length := fun h => h4 _ (gt_mem h)
  refine zT ?_
  repeat' first
  | ((with_reducible refine awp_seqQ ?_); intro _ _)
  | ((with_reducible refine awp_region ?_); refine zS ?_)
  | ((with_reducible refine AWP_c ?_); refine zcdD ?_ ?_ <;> intro hb hb2 <;> first | contradiction | (exfalso; omega) | ((try refine zH hb2 ?_); try clear hb2))
  | ((with_reducible refine AWP_c ?_); refine zcdB ?_ ?_ <;> intro hb <;> first | contradiction | (try refine zH hb ?_))
  | ((with_reducible refine awp_skip ?_); try refine zS ?_)
  | with_reducible refine awp_block ?_
  | ((with_reducible refine awp_exit ?_); try refine zS ?_)
  | ((with_reducible refine awp_ret ?_); refine q_step (by assumption) ?_)
  | ((with_reducible refine q_step (by assumption) ?_); try refine zS ?_)
  rotate_right
  · have hl0 : len = 0 := by omega
    rw [List.drop_eq_nil_of_le (by omega), metN_nil] at h5
    simp only [← h1]
    refine fin_r ?_
    rw [h5]
  · have hd : rs.drop off = gt rs off :: rs.drop (off + 1) := drop_gt (by omega)
    exact ⟨(s, off + 1, len - 1, rs), ⟨h1, by simp only; omega, h3, h4, by rw [← h5, hd, metN_no (by simpa [gb] using ‹gt s _ = true›)]⟩, by simp only; omega, zwc 3⟩
  have hd : rs.drop off = gt rs off :: rs.drop (off + 1) := drop_gt (by omega)
  have hR := hR (by omega)
  have hgs : ¬ (s.length ≤ (gt rs off).toNat ∨ gb s (gt rs off) = true) := by
    rintro (h | h)
    · omega
    · rw [gb, ‹gt s _ = false›] at h; cases h
  have hcf := cf_set (s := s) (j := (gt rs off).toNat) (by omega) ‹_›
  have hmu : cf s * n.fs.length = cf (s.set (gt rs off).toNat true) * n.fs.length + n.fs.length := by rw [← hcf, Nat.add_mul, Nat.one_mul]
  have hmu2 : cf s * (n.fs.length + 1) = cf (s.set (gt rs off).toNat true) * (n.fs.length + 1) + (n.fs.length + 1) := by rw [← hcf, Nat.add_mul, Nat.one_mul]
  rw [hd, metN_go hgs] at h5
  generalize hi0 : gt rs off = i0 at *
  refine awp_loopT (fun z : Nat × Nat × List Int => z.1 ≤ n.fs.length ∧ z.2.2 ++ (n.fs.drop z.1).filterMap (nextF i0 back) = rs ++ nexts n i0 back ∧ off + 1 + z.2.1 = z.2.2.length ∧ z.2.2.length ≤ rs.length + z.1) (fun z => n.fs.length - z.1) (fun z => [(8, OwnT (off + 1) z.2.1 z.2.2.length), (36, aI z.1)]) (fun z => [some (.box n.bs), RwO (s.set i0.toNat true), RwG z.2.2]) (0, len - 1, rs) ⟨by simp, by simp [nexts], by simp only; omega, by simp⟩ zwl ?_
  rintro ⟨j, len2, rs2⟩ ⟨g1, g2, g3, g4⟩
  simp only at g1 g2 g3 g4
  refine zT ?_
  repeat' first
  | ((with_reducible refine awp_seqQ ?_); intro _ _)
  | ((with_reducible refine awp_region ?_); refine zS ?_)
  | ((with_reducible refine Gd_b ?_ ?_) <;> intro hb <;> first | contradiction | refine zH hb ?_)
  | ((with_reducible refine AWP_c ?_); refine zcdF ?_)
  | ((with_reducible refine AWP_c ?_); refine zcdD ?_ ?_ <;> intro hb hb2 <;> first | contradiction | (exfalso; omega) | ((try refine zH hb2 ?_); try clear hb2))
  | ((with_reducible refine awp_skip ?_); try refine zS ?_)
  | with_reducible refine awp_block ?_
  | ((with_reducible refine awp_exit ?_); try refine zS ?_)
  | ((with_reducible refine q_step (by assumption) ?_); try refine zS ?_)
  all_goals try (
    have hj : j < n.fs.length := by omega
    rw [drop_gt hj, List.filterMap_cons] at g2
    first
    | (rename back = true => q1; rename (gt n.fs j).dst = i0 => q2; have e : nextF i0 back (gt n.fs j) = some (gt n.fs j).src := (by simp [nextF, q1, q2]); simp only [e] at g2; exact ⟨(j + 1, len2 + 1, rs2 ++ [(gt n.fs j).src]), ⟨by simp only; omega, by simp only [List.append_assoc, List.singleton_append]; exact g2, by simp only [List.length_append, List.length_singleton]; omega, by simp only [List.length_append, List.length_singleton]; omega⟩, by simp only; omega, wk_cl 3 (by decide) (by simp) (by simp only [go_sem, Bool.not_not, List.mem_singleton, forall_eq, ↓reduceIte, if_pos, rowsAt_map, wrap64, wrapu8, List.getElem?_cons_zero, List.getElem?_cons_succ, Int.reduceToNat, Nat.reduceAdd, Nat.reduceBEq, Bool.or_false, Bool.false_or, Bool.true_or, Nat.reduceSub, Nat.reduceMul, Int.reduceAdd, Int.reduceEq, Int.reduceLT, Int.reduceLE, Int.reduceNeg, Nat.reduceLT, Nat.reduceLeDiff, Nat.reduceEqDiff]; (try simp); (try exact q1)) (by simp only [go_sem, Bool.not_not, List.mem_singleton, forall_eq, ↓reduceIte, if_pos, rowsAt_map, wrap64, wrapu8, List.getElem?_cons_zero, List.getElem?_cons_succ, Int.reduceToNat, Nat.reduceAdd, Nat.reduceBEq, Bool.or_false, Bool.false_or, Bool.true_or, Nat.reduceSub, Nat.reduceMul, Int.reduceAdd, Int.reduceEq, Int.reduceLT, Int.reduceLE, Int.reduceNeg, Nat.reduceLT, Nat.reduceLeDiff, Nat.reduceEqDiff, List.map_append]; try simp [go_sem])⟩)
    | (rename back = true => q1; rename ¬ (gt n.fs j).dst = i0 => q2; have e : nextF i0 back (gt n.fs j) = none := (by simp [nextF, q1, q2]); simp only [e] at g2; exact ⟨(j + 1, len2, rs2), ⟨by simp only; omega, g2, by simp only; omega, by simp only; omega⟩, by simp only; omega, wk_cl 3 (by decide) (by simp) (by simp only [go_sem, Bool.not_not, List.mem_singleton, forall_eq, ↓reduceIte, if_pos, rowsAt_map, wrap64, wrapu8, List.getElem?_cons_zero, List.getElem?_cons_succ, Int.reduceToNat, Nat.reduceAdd, Nat.reduceBEq, Bool.or_false, Bool.false_or, Bool.true_or, Nat.reduceSub, Nat.reduceMul, Int.reduceAdd, Int.reduceEq, Int.reduceLT, Int.reduceLE, Int.reduceNeg, Nat.reduceLT, Nat.reduceLeDiff, Nat.reduceEqDiff]; (try simp); (try exact q1)) (by simp only [go_sem, Bool.not_not, List.mem_singleton, forall_eq, ↓reduceIte, if_pos, rowsAt_map, wrap64, wrapu8, List.getElem?_cons_zero, List.getElem?_cons_succ, Int.reduceToNat, Nat.reduceAdd, Nat.reduceBEq, Bool.or_false, Bool.false_or, Bool.true_or, Nat.reduceSub, Nat.reduceMul, Int.reduceAdd, Int.reduceEq, Int.reduceLT, Int.reduceLE, Int.reduceNeg, Nat.reduceLT, Nat.reduceLeDiff, Nat.reduceEqDiff])⟩)
    | (rename back = false => q1; rename (gt n.fs j).src = i0 => q2; have e : nextF i0 back (gt n.fs j) = some (gt n.fs j).dst := (by simp [nextF, q1, q2]); simp only [e] at g2; exact ⟨(j + 1, len2 + 1, rs2 ++ [(gt n.fs j).dst]), ⟨by simp only; omega, by simp only [List.append_assoc, List.singleton_append]; exact g2, by simp only [List.length_append, List.length_singleton]; omega, by simp only [List.length_append, List.length_singleton]; omega⟩, by simp only; omega, wk_cl 3 (by decide) (by simp) (by simp only [go_sem, Bool.not_not, List.mem_singleton, forall_eq, ↓reduceIte, if_pos, rowsAt_map, wrap64, wrapu8, List.getElem?_cons_zero, List.getElem?_cons_succ, Int.reduceToNat, Nat.reduceAdd, Nat.reduceBEq, Bool.or_false, Bool.false_or, Bool.true_or, Nat.reduceSub, Nat.reduceMul, Int.reduceAdd, Int.reduceEq, Int.reduceLT, Int.reduceLE, Int.reduceNeg, Nat.reduceLT, Nat.reduceLeDiff, Nat.reduceEqDiff]; (try simp); (try exact q1)) (by simp only [go_sem, Bool.not_not, List.mem_singleton, forall_eq, ↓reduceIte, if_pos, rowsAt_map, wrap64, wrapu8, List.getElem?_cons_zero, List.getElem?_cons_succ, Int.reduceToNat, Nat.reduceAdd, Nat.reduceBEq, Bool.or_false, Bool.false_or, Bool.true_or, Nat.reduceSub, Nat.reduceMul, Int.reduceAdd, Int.reduceEq, Int.reduceLT, Int.reduceLE, Int.reduceNeg, Nat.reduceLT, Nat.reduceLeDiff, Nat.reduceEqDiff, List.map_append]; try simp [go_sem])⟩)
    | (rename back = false => q1; rename ¬ (gt n.fs j).src = i0 => q2; have e : nextF i0 back (gt n.fs j) = none := (by simp [nextF, q1, q2]); simp only [e] at g2; exact ⟨(j + 1, len2, rs2), ⟨by simp only; omega, g2, by simp only; omega, by simp only; omega⟩, by simp only; omega, wk_cl 3 (by decide) (by simp) (by simp only [go_sem, Bool.not_not, List.mem_singleton, forall_eq, ↓reduceIte, if_pos, rowsAt_map, wrap64, wrapu8, List.getElem?_cons_zero, List.getElem?_cons_succ, Int.reduceToNat, Nat.reduceAdd, Nat.reduceBEq, Bool.or_false, Bool.false_or, Bool.true_or, Nat.reduceSub, Nat.reduceMul, Int.reduceAdd, Int.reduceEq, Int.reduceLT, Int.reduceLE, Int.reduceNeg, Nat.reduceLT, Nat.reduceLeDiff, Nat.reduceEqDiff]; (try simp); (try exact q1)) (by simp only [go_sem, Bool.not_not, List.mem_singleton, forall_eq, ↓reduceIte, if_pos, rowsAt_map, wrap64, wrapu8, List.getElem?_cons_zero, List.getElem?_cons_succ, Int.reduceToNat, Nat.reduceAdd, Nat.reduceBEq, Bool.or_false, Bool.false_or, Bool.true_or, Nat.reduceSub, Nat.reduceMul, Int.reduceAdd, Int.reduceEq, Int.reduceLT, Int.reduceLE, Int.reduceNeg, Nat.reduceLT, Nat.reduceLeDiff, Nat.reduceEqDiff])⟩)
    | skip)
  have hj : j = n.fs.length := by omega
  subst hj
  rw [List.drop_length, List.filterMap_nil, List.append_nil] at g2
  subst g2
  refine ⟨(s.set i0.toNat true, off + 1, len2, rs ++ nexts n i0 back), ⟨by simpa using h1, g3, by simp only; omega, fun k hk => ?_, ?_⟩, by simp only; simp only [List.length_append] at g3 g4; omega, zwc 3⟩
  · rcases List.mem_append.1 hk with hk | hk
    · exact h4 k hk
    · obtain ⟨f, hf1, hf2⟩ := List.mem_filterMap.1 hk
      have := hi f hf1
      unfold nextF at hf2
      split at hf2 <;> split at hf2 <;> cases hf2 <;> omega
  · simp only
    rw [List.drop_append_of_le_length (by omega)]
    exact h5
end Go.Eng
open Go Go.Proofs
namespace Go.Eng
set_option linter.unusedSimpArgs false
set_option linter.unusedVariables false
set_option maxRecDepth 10000
set_option maxHeartbeats 8000000
def FB (l : List Bool) : D := .fz (l.map bRow)
attribute [go_sem] FB
theorem idxF_lt {α : Type} (p : α → Bool) : ∀ (l : List α) (i : Nat), idxF p l i < (i : Int) + l.length
  | [], i => by simp [idxF]; omega
  | x :: l, i => by
    have := idxF_lt p l (i + 1)
    rw [idxF]
    simp only [List.length_cons]
    split <;> omega
theorem plF_nil {r : Int} {m : Nat} {p : Nat → Bool} (h : (plF r m p).length = 0) : ∀ j, j < m → p j = false := fun j hj => by
  rw [plF, plc, List.length_map, List.length_eq_zero_iff, List.filter_eq_nil_iff] at h
  have := h j (List.mem_range'.2 ⟨j, hj, by omega⟩)
  simpa using this
def unmetF (n : Gr) (j : Nat) : Bool := !gt (metF n (startF n) false) j || !gt (metF n (endF n) true) j
def allF (n : Gr) : List Lk := if n.ns.length > 24 ∨ n.fs.length > 40 then [⟨1, 0⟩] else if (plF 1 n.ns.length fun j => !rightN (gt n.ns j)).length > 0 then plF 1 n.ns.length fun j => !rightN (gt n.ns j)
  else if (plF 2 n.fs.length fun j => !leadsF n (gt n.fs j)).length > 0 then plF 2 n.fs.length fun j => !leadsF n (gt n.fs j) else if (thirdF n).length > 0 then thirdF n else plF 4 n.ns.length (unmetF n)
def checkN (n : Gr) : Int × Int := match allF n with | [] => (0, 0) | e :: _ => (e.src, e.dst)
theorem metF_len (n : Gr) (i : Int) (b : Bool) : (metF n i b).length = n.ns.length := by rw [metF, metN_len]; simp
structure Gr0 (n : Gr) : Prop where
  hn : n.ns.length < 1000000000000
  hf : n.fs.length < 1000000000000
  ns : ∀ d ∈ n.ns, d.t.size < 4611686018427387904
  fs : ∀ f ∈ n.fs, f.t.size < 4611686018427387904
theorem all3_ok (a b : List Bool) (j : Nat) (h1 : j < a.length) (h2 : j < b.length) : AFn env 75 [aI j, PR 0, PR 1] [Rd (FB a), Rd (FB b)] (aB (!gt a j || !gt b j)) [Rd (FB a), Rd (FB b)] := by
  refine afn_body Tryz.func75 rfl (by decide) ?_
  simp only [Tryz.ntmps75, Tryz.results75, List.length_cons, List.length_nil, List.cons_append, List.nil_append, Nat.reduceAdd, Nat.reduceSub, List.replicate]
  repeat' first
  | ((with_reducible refine awp_seqQ ?_); intro _ _)
  | ((with_reducible refine awp_region ?_); refine zS ?_)
  | ((with_reducible refine Gd_b ?_ ?_) <;> intro hb <;> first | contradiction | refine zH hb ?_)
  | ((with_reducible refine awp_ret ?_); refine q_step (by assumption) ?_)
  | with_reducible refine fin_r ?_
  | ((with_reducible refine q_step (by assumption) ?_); try refine zS ?_)
  all_goals simp [go_sem, *]
theorem all_ok (n : Gr) (hg : Gr0 n) : AFn env 51 [n.a] [] (aF ((allF n).map Lk.row)) [] := by
  have hn := hg.hn
  have hf := hg.hf
  have hG : n.ns.length ≤ 24 → n.fs.length ≤ 40 → GrOk n := fun h1 h2 => ⟨by omega, by omega, hg.ns, hg.fs⟩
  have hI : (plF 2 n.fs.length fun j => !leadsF n (gt n.fs j)).length = 0 → inG n := fun h f hf => by
    obtain ⟨k, hk, rfl⟩ := List.getElem_of_mem hf
    have := plF_nil h k hk
    rw [show gt n.fs k = n.fs[k] by simp [gt, List.getD, hk]] at this
    simp only [Bool.not_eq_false', leadsF, Bool.and_eq_true, inR, decide_eq_true_eq] at this
    omega
  refine afn_body Tryz.func51 rfl (by decide) ?_
  simp only [Tryz.ntmps51, Tryz.results51, List.length_cons, List.length_nil, List.cons_append, List.nil_append, Nat.reduceAdd, Nat.reduceSub, List.replicate]
  repeat' first
  | ((with_reducible refine awp_seqQ ?_); intro _ _)
  | ((with_reducible refine awp_region ?_); refine zS ?_)
  | ((with_reducible refine Gd_nd ?_ ?_) <;> intro hb hb2 <;> first | contradiction | (exfalso; omega) | (refine zH hb2 ?_; try clear hb2))
  | ((with_reducible refine AWP_c ?_); refine zcdT ?_)
  | ((with_reducible refine AWP_c ?_); refine zcdD ?_ ?_ <;> intro hb hb2 <;> first | contradiction | (exfalso; omega) | ((try refine zH hb2 ?_); try clear hb2))
  | ((with_reducible refine awp_skip ?_); try refine zS ?_)
  | ((with_reducible refine CallK_id ?_); refine zcF ?_; refine ⟨_, by first | exact third_ok n (hG (by omega) (by omega)) (hI (by omega)) | fail, fun _ => rfl, fun _ => rfl, rfl, ?_⟩; try refine zS ?_)
  | ((with_reducible refine CallK_id ?_); refine zcT [0] ?_; refine ⟨_, _, by first | exact places1_ok n 1 n.ns.length 67 (fun j => !rightN (gt n.ns j)) (by omega) (fun j hj => all1_ok n (hG (by omega) (by omega)) j hj) | exact places1_ok n 2 n.fs.length 69 (fun j => !leadsF n (gt n.fs j)) (by omega) (fun j hj => all2_ok n (hG (by omega) (by omega)) j hj) | fail, ?_⟩; try refine zS ?_)
  | ((with_reducible refine awp_ret ?_); refine q_step (by assumption) ?_)
  | with_reducible refine fin_r ?_
  | ((with_reducible refine q_step (by assumption) ?_); try refine zS ?_)
  all_goals try (refine fin_r ?_)
  · rw [allF, if_pos (by omega)]; rfl
  · rw [allF, if_neg (by omega), if_pos (by omega)]
  · rw [allF, if_neg (by omega), if_neg (by omega), if_pos (by omega)]
  · rw [allF, if_neg (by omega), if_neg (by omega), if_neg (by omega), if_pos (by omega)]
  rotate_left
  · rw [allF, if_pos (by omega)]; rfl
  have hg2 := hG (by omega) (by omega)
  have hi := hI (by omega)
  have hpl := hg2.hn
  have h0 : ¬ (startF n < 0 ∨ endF n < 0) := fun h => by
    have : (thirdF n).length = 0 := by omega
    rw [thirdF, if_pos h, List.length_append, List.length_singleton] at this
    omega
  have hs1 := idxF_lt (fun d : Nd => decide (d.kind = 1)) n.ns 0
  have he1 := idxF_lt (fun d : Nd => decide (d.kind = 2)) n.ns 0
  have hs : 0 ≤ startF n ∧ startF n < n.ns.length := ⟨by omega, by unfold startF; omega⟩
  have he : 0 ≤ endF n ∧ endF n < n.ns.length := ⟨by omega, by unfold endF; omega⟩
  have hla := metF_len n (startF n) false
  have hlb := metF_len n (endF n) true
  have hfin : allF n = plF 4 n.ns.length (unmetF n) := by rw [allF, if_neg (by omega), if_neg (by omega), if_neg (by omega), if_neg (by omega)]
  refine awp_wk (wk_vnew (s := 1) none (by decide)) ?_
  refine awp_wk (wk_vnew (s := 1) none (by decide)) ?_
  refine zT ?_
  refine awp_drawV ⟨8, 9, 10, 11, 3, 1, 4, 1⟩ (by decide) (by decide) rfl rfl (by decide) (by decide) (by decide) ?_
  simp only [List.set_cons_succ, List.set_cons_zero]
  refine go_p (by simp only [go_sem, Bool.not_not, List.mem_singleton, forall_eq, ↓reduceIte, if_pos, rowsAt_map, wrap64, wrapu8, List.getElem?_cons_zero, List.getElem?_cons_succ, Int.reduceToNat, Nat.reduceAdd, Nat.reduceBEq, Bool.or_false, Bool.false_or, Bool.true_or, Nat.reduceSub, Nat.reduceMul, Int.reduceAdd, Int.reduceEq, Int.reduceLT, Int.reduceLE, Int.reduceNeg, Nat.reduceLT, Nat.reduceLeDiff, Nat.reduceEqDiff]; rfl) rfl (by decide) rfl rfl ?_
  refine zT ?_
  refine go_p (by simp only [go_sem, Bool.not_not, List.mem_singleton, forall_eq, ↓reduceIte, if_pos, rowsAt_map, wrap64, wrapu8, List.getElem?_cons_zero, List.getElem?_cons_succ, Int.reduceToNat, Nat.reduceAdd, Nat.reduceBEq, Bool.or_false, Bool.false_or, Bool.true_or, Nat.reduceSub, Nat.reduceMul, Int.reduceAdd, Int.reduceEq, Int.reduceLT, Int.reduceLE, Int.reduceNeg, Nat.reduceLT, Nat.reduceLeDiff, Nat.reduceEqDiff]; rfl) rfl (by decide) rfl rfl ?_
  refine zT ?_
  refine go_c ⟨_, rfl⟩ rfl (by simp only [go_sem, Bool.not_not, List.mem_singleton, forall_eq, ↓reduceIte, if_pos, rowsAt_map, wrap64, wrapu8, List.getElem?_cons_zero, List.getElem?_cons_succ, Int.reduceToNat, Nat.reduceAdd, Nat.reduceBEq, Bool.or_false, Bool.false_or, Bool.true_or, Nat.reduceSub, Nat.reduceMul, Int.reduceAdd, Int.reduceEq, Int.reduceLT, Int.reduceLE, Int.reduceNeg, Nat.reduceLT, Nat.reduceLeDiff, Nat.reduceEqDiff]) rfl (by decide) (start_ok n (by omega)) (fun _ => rfl) (fun _ => rfl) rfl ?_
  refine zT ?_
  refine go_c ⟨_, rfl⟩ rfl (by simp only [go_sem, Bool.not_not, List.mem_singleton, forall_eq, ↓reduceIte, if_pos, rowsAt_map, wrap64, wrapu8, List.getElem?_cons_zero, List.getElem?_cons_succ, Int.reduceToNat, Nat.reduceAdd, Nat.reduceBEq, Bool.or_false, Bool.false_or, Bool.true_or, Nat.reduceSub, Nat.reduceMul, Int.reduceAdd, Int.reduceEq, Int.reduceLT, Int.reduceLE, Int.reduceNeg, Nat.reduceLT, Nat.reduceLeDiff, Nat.reduceEqDiff]) rfl (by decide) (met_ok n (startF n) false hg2 hi hs) (fun _ => rfl) (fun _ => rfl) rfl ?_
  refine zT ?_
  refine go_p (by simp only [go_sem, Bool.not_not, List.mem_singleton, forall_eq, ↓reduceIte, if_pos, rowsAt_map, wrap64, wrapu8, List.getElem?_cons_zero, List.getElem?_cons_succ, Int.reduceToNat, Nat.reduceAdd, Nat.reduceBEq, Bool.or_false, Bool.false_or, Bool.true_or, Nat.reduceSub, Nat.reduceMul, Int.reduceAdd, Int.reduceEq, Int.reduceLT, Int.reduceLE, Int.reduceNeg, Nat.reduceLT, Nat.reduceLeDiff, Nat.reduceEqDiff]; rfl) rfl (by decide) rfl rfl ?_
  refine zT ?_
  refine go_p (by simp only [go_sem, Bool.not_not, List.mem_singleton, forall_eq, ↓reduceIte, if_pos, rowsAt_map, wrap64, wrapu8, List.getElem?_cons_zero, List.getElem?_cons_succ, Int.reduceToNat, Nat.reduceAdd, Nat.reduceBEq, Bool.or_false, Bool.false_or, Bool.true_or, Nat.reduceSub, Nat.reduceMul, Int.reduceAdd, Int.reduceEq, Int.reduceLT, Int.reduceLE, Int.reduceNeg, Nat.reduceLT, Nat.reduceLeDiff, Nat.reduceEqDiff]; rfl) rfl (by decide) rfl rfl ?_
  refine zT ?_
  refine go_c ⟨_, rfl⟩ rfl (by simp only [go_sem, Bool.not_not, List.mem_singleton, forall_eq, ↓reduceIte, if_pos, rowsAt_map, wrap64, wrapu8, List.getElem?_cons_zero, List.getElem?_cons_succ, Int.reduceToNat, Nat.reduceAdd, Nat.reduceBEq, Bool.or_false, Bool.false_or, Bool.true_or, Nat.reduceSub, Nat.reduceMul, Int.reduceAdd, Int.reduceEq, Int.reduceLT, Int.reduceLE, Int.reduceNeg, Nat.reduceLT, Nat.reduceLeDiff, Nat.reduceEqDiff]) rfl (by decide) (end_ok n (by omega)) (fun _ => rfl) (fun _ => rfl) rfl ?_
  refine zT ?_
  refine go_c ⟨_, rfl⟩ rfl (by simp only [go_sem, Bool.not_not, List.mem_singleton, forall_eq, ↓reduceIte, if_pos, rowsAt_map, wrap64, wrapu8, List.getElem?_cons_zero, List.getElem?_cons_succ, Int.reduceToNat, Nat.reduceAdd, Nat.reduceBEq, Bool.or_false, Bool.false_or, Bool.true_or, Nat.reduceSub, Nat.reduceMul, Int.reduceAdd, Int.reduceEq, Int.reduceLT, Int.reduceLE, Int.reduceNeg, Nat.reduceLT, Nat.reduceLeDiff, Nat.reduceEqDiff]) rfl (by decide) (met_ok n (endF n) true hg2 hi he) (fun _ => rfl) (fun _ => rfl) rfl ?_
  refine zT ?_
  refine go_1 rfl rfl (by simp only [go_sem, Bool.not_not, List.mem_singleton, forall_eq, ↓reduceIte, if_pos, rowsAt_map, wrap64, wrapu8, List.getElem?_cons_zero, List.getElem?_cons_succ, Int.reduceToNat, Nat.reduceAdd, Nat.reduceBEq, Bool.or_false, Bool.false_or, Bool.true_or, Nat.reduceSub, Nat.reduceMul, Int.reduceAdd, Int.reduceEq, Int.reduceLT, Int.reduceLE, Int.reduceNeg, Nat.reduceLT, Nat.reduceLeDiff, Nat.reduceEqDiff]; rfl) rfl ?_
  refine zT ?_
  refine go_2 rfl rfl (by simp only [go_sem, Bool.not_not, List.mem_singleton, forall_eq, ↓reduceIte, if_pos, rowsAt_map, wrap64, wrapu8, List.getElem?_cons_zero, List.getElem?_cons_succ, Int.reduceToNat, Nat.reduceAdd, Nat.reduceBEq, Bool.or_false, Bool.false_or, Bool.true_or, Nat.reduceSub, Nat.reduceMul, Int.reduceAdd, Int.reduceEq, Int.reduceLT, Int.reduceLE, Int.reduceNeg, Nat.reduceLT, Nat.reduceLeDiff, Nat.reduceEqDiff]; rfl) rfl ?_
  refine zT ?_
  refine go_s1 rfl rfl (by decide) rfl rfl rfl rfl ?_
  refine zT ?_
  refine go_s2 rfl rfl (by decide) rfl rfl rfl rfl ?_
  refine zT ?_
  refine go_e ?_
  repeat' first
  | ((with_reducible refine awp_seqQ ?_); intro _ _)
  | ((with_reducible refine awp_region ?_); refine zS ?_)
  | ((with_reducible refine CallK_id ?_); refine zcT [3, 4] ?_; refine ⟨_, _, by first | exact places2_ok (FB (metF n (startF n) false)) (FB (metF n (endF n) true)) 4 n.ns.length 75 (unmetF n) (by omega) (fun j hj => all3_ok _ _ j (by omega) (by omega)) | fail, ?_⟩; try refine zS ?_)
  | ((with_reducible refine awp_ret ?_); refine q_step (by assumption) ?_)
  | ((with_reducible refine q_step (by assumption) ?_); try refine zS ?_)
  refine fin_r ?_
  rw [hfin]
theorem checkN_ok (n : Gr) (hg : Gr0 n) : AFn env 41 [n.a] [] (.tup [aI (checkN n).1, aI (checkN n).2]) [] := by
  refine afn_body Tryz.func41 rfl (by decide) ?_
  simp only [Tryz.ntmps41, Tryz.results41, List.length_cons, List.length_nil, List.cons_append, List.nil_append, Nat.reduceAdd, Nat.reduceSub, List.replicate]
  repeat' first
  | ((with_reducible refine awp_seqQ ?_); intro _ _)
  | ((with_reducible refine awp_region ?_); refine zS ?_)
  | ((with_reducible refine awp_drawnC ?_ ?_); rfl; refine zS ?_)
  | ((with_reducible refine AWP_c ?_); refine zcdD ?_ ?_ <;> intro hb hb2 <;> first | contradiction | (exfalso; omega) | ((try refine zH hb2 ?_); try clear hb2))
  | ((with_reducible refine awp_skip ?_); try refine zS ?_)
  | ((with_reducible refine CallK_id ?_); refine zcF ?_; refine ⟨_, by first | exact all_ok n hg | fail, fun _ => rfl, fun _ => rfl, rfl, ?_⟩; try refine zS ?_)
  | ((with_reducible refine awp_ret ?_); refine q_step (by assumption) ?_)
  | with_reducible refine fin_r ?_
  | ((with_reducible refine q_step (by assumption) ?_); try refine zS ?_)
  all_goals (unfold checkN; cases h : allF n with | nil => (first | rfl | (rename ((allF n).length : Int) > 0 => hb; rw [h] at hb; simp at hb; done)) | cons => (first | (simp [go_sem, gt]; done) | (rename ¬ ((allF n).length : Int) > 0 => hb; rw [h] at hb; simp at hb)))
end Go.Eng
open Go Go.Proofs
namespace Go.Eng
set_option linter.unusedSimpArgs false
set_option linter.unusedVariables false
set_option maxRecDepth 10000
set_option maxHeartbeats 40000000
theorem bareK_ok (k : Int) (n x y : Int) (t : T) (c : List T) (ks : List B) (l : List Lk) (ns : List Nd) (fs : List Fl) (hk : k = 1 ∨ k = 2 ∨ k = 3 ∨ k = 4 ∨ k = 5 ∨ k = 6 ∨ k = 7 ∨ k = 8 ∨ k = 9 ∨ k = 10 ∨ k = 11 ∨ k = 12 ∨ k = 13 ∨ k = 14) : AFn env 26 [(B.mk k n x y t c ks l ns fs).a] [] (bareF (B.mk k n x y t c ks l ns fs)).a [] := by
  refine afn_body Tryz.func26 rfl (by decide) ?_
  simp only [Tryz.ntmps26, Tryz.results26, List.length_cons, List.length_nil, List.cons_append, List.nil_append, Nat.reduceAdd, Nat.reduceSub, List.replicate]
  rcases hk with rfl | rfl | rfl | rfl | rfl | rfl | rfl | rfl | rfl | rfl | rfl | rfl | rfl | rfl
  all_goals repeat' first
            | ((with_reducible refine awp_seqQ ?_); intro _ _)
            | ((with_reducible refine awp_region ?_); refine zS ?_)
            | ((with_reducible refine AWP_c ?_); refine zcdT ?_)
            | ((with_reducible refine AWP_c ?_); refine zcdF ?_)
            | ((with_reducible refine AWP_c ?_); refine zcdD ?_ ?_ <;> intro hb hb2 <;> first | contradiction | (exfalso; omega) | ((try refine zH hb2 ?_); try clear hb2))
            | ((with_reducible refine awp_skip ?_); try refine zS ?_)
            | with_reducible refine awp_block ?_
            | ((with_reducible refine awp_exit ?_); try refine zS ?_)
            | ((with_reducible refine awp_ret ?_); refine q_step (by assumption) ?_)
            | with_reducible refine fin_r ?_
            | ((with_reducible refine q_step (by assumption) ?_); try refine zS ?_)
  all_goals first | (simp [go_sem, bareF, *]; done) | (simp [go_sem, bareF, *]; exact ⟨rfl, rfl, rfl⟩)
theorem bare0_ok (k : Int) (n x y : Int) (t : T) (c : List T) (ks : List B) (l : List Lk) (ns : List Nd) (fs : List Fl) (hk : k < 1 ∨ 14 < k) : AFn env 26 [(B.mk k n x y t c ks l ns fs).a] [] (bareF (B.mk k n x y t c ks l ns fs)).a [] := by
  have e1 : ¬ k = 1 := by omega
  have e2 : ¬ k = 2 := by omega
  have e3 : ¬ k = 3 := by omega
  have e4 : ¬ k = 4 := by omega
  have e5 : ¬ k = 5 := by omega
  have e6 : ¬ k = 6 := by omega
  have e7 : ¬ k = 7 := by omega
  have e8 : ¬ k = 8 := by omega
  have e9 : ¬ k = 9 := by omega
  have e10 : ¬ k = 10 := by omega
  have e11 : ¬ k = 11 := by omega
  have e12 : ¬ k = 12 := by omega
  have e13 : ¬ k = 13 := by omega
  have e14 : ¬ k = 14 := by omega
  refine afn_body Tryz.func26 rfl (by decide) ?_
  simp only [Tryz.ntmps26, Tryz.results26, List.length_cons, List.length_nil, List.cons_append, List.nil_append, Nat.reduceAdd, Nat.reduceSub, List.replicate]
  repeat' first
  | ((with_reducible refine awp_seqQ ?_); intro _ _)
  | ((with_reducible refine awp_region ?_); refine zS ?_)
  | ((with_reducible refine AWP_c ?_); refine zcdD ?_ ?_ <;> intro hb hb2 <;> first | contradiction | (exfalso; omega) | ((try refine zH hb2 ?_); try clear hb2))
  | ((with_reducible refine awp_skip ?_); try refine zS ?_)
  | with_reducible refine awp_block ?_
  | ((with_reducible refine awp_exit ?_); try refine zS ?_)
  | ((with_reducible refine awp_ret ?_); refine q_step (by assumption) ?_)
  | with_reducible refine fin_r ?_
  | ((with_reducible refine q_step (by assumption) ?_); try refine zS ?_)
  all_goals simp [go_sem, bareF, e1, e2, e3, e4, e5, e6, e7, e8, e9, e10, e11, e12, e13, e14]
theorem bare_ok (b : B) : AFn env 26 [b.a] [] (bareF b).a [] := by
  cases b with | mk k n x y t c ks l ns fs =>
  by_cases h : k < 1 ∨ 14 < k
  · exact bare0_ok k n x y t c ks l ns fs h
  · exact bareK_ok k n x y t c ks l ns fs (by omega)
end Go.Eng
open Go Go.Proofs
namespace Go.Eng
set_option linter.unusedSimpArgs false
set_option linter.unusedVariables false
set_option maxRecDepth 10000
set_option maxHeartbeats 40000000
def grB (b : B) : Gr := ⟨b.nodes, b.flows⟩
def numF (b : B) : Bool :=
  let v := decide (0 ≤ b.x) && decide (b.x < 4)
  let k : Int := b.kids.length
  if b.kind = 1 ∨ b.kind = 5 then true else if b.kind = 2 ∨ b.kind = 4 then v else if b.kind = 3 then v && ofF b.t 1 else if b.kind = 6 ∨ b.kind = 7 ∨ b.kind = 9 then decide (k > 1)
  else if b.kind = 8 then decide (k > 1) && decide ((b.conds.length : Int) = k) && condsF b.conds b.x else if b.kind = 10 then decide (k = 1) && decide (b.x ≥ 0) && decide (b.x ≤ 4)
  else if b.kind = 11 then decide (k = 2) && decide ((b.conds.length : Int) = 2) && condsF b.conds b.x && decide (b.y ≥ 0) && decide (b.y < 2)
  else if b.kind = 12 then (decide (b.x = 3) && decide ((b.conds.length : Int) > 1) && condsF b.conds b.y) || decide (b.x = 1) || decide (b.x = 2) || decide (b.x = 4)
  else if b.kind = 13 then decide (k > 0) && linkedF b else if b.kind = 14 then decide ((checkN (grB b)).1 = 0) else false
theorem gr0_ok (b : B) (hs : b.size < 1000000000000) : Gr0 (grB b) := by
  have hz := B.size_eq b
  have h1 := Nd.len_le b.nodes
  have h2 := Fl.len_le b.flows
  exact ⟨by simp only [grB]; omega, by simp only [grB]; omega, fun d hd => by have := Nd.size_kid (l := b.nodes) hd; omega, fun d hd => by have := Fl.size_kid (l := b.flows) hd; omega⟩
attribute [go_sem] grB
theorem numK_ok (k : Int) (n x y : Int) (t : T) (c : List T) (ks : List B) (l : List Lk) (ns : List Nd) (fs : List Fl) (hs : (B.mk k n x y t c ks l ns fs).size < 1000000000000) (hk : k = 1 ∨ k = 2 ∨ k = 3 ∨ k = 4 ∨ k = 5 ∨ k = 6 ∨ k = 7 ∨ k = 8 ∨ k = 9 ∨ k = 10 ∨ k = 11 ∨ k = 12 ∨ k = 13 ∨ k = 14) : AFn env 27 [(B.mk k n x y t c ks l ns fs).a] [] (aB (numF (B.mk k n x y t c ks l ns fs))) [] := by
  have hz := B.size_eq (B.mk k n x y t c ks l ns fs)
  have l2 := B.len_le ks
  have l3 := T.len_le c
  simp only [mk_kids, mk_t, mk_conds] at hz
  refine afn_body Tryz.func27 rfl (by decide) ?_
  simp only [Tryz.ntmps27, Tryz.results27, List.length_cons, List.length_nil, List.cons_append, List.nil_append, Nat.reduceAdd, Nat.reduceSub, List.replicate]
  rcases hk with rfl | rfl | rfl | rfl | rfl | rfl | rfl | rfl | rfl | rfl | rfl | rfl | rfl | rfl
  all_goals repeat' first
            | ((with_reducible refine awp_seqQ ?_); intro _ _)
            | ((with_reducible refine awp_region ?_); refine zS ?_)
            | ((with_reducible refine Gd_nd ?_ ?_) <;> intro hb hb2 <;> first | contradiction | (exfalso; omega) | (refine zH hb2 ?_; try clear hb2))
            | ((with_reducible refine Gd_nb ?_ ?_) <;> intro hb <;> first | contradiction | refine zH hb ?_)
            | ((with_reducible refine Gd_d ?_ ?_) <;> intro hb hb2 <;> first | contradiction | (exfalso; omega) | (refine zH hb2 ?_; try clear hb2))
            | ((with_reducible refine Gd_b ?_ ?_) <;> intro hb <;> first | contradiction | refine zH hb ?_)
            | ((with_reducible refine AWP_c ?_); refine zcdT ?_)
            | ((with_reducible refine AWP_c ?_); refine zcdF ?_)
            | ((with_reducible refine awp_skip ?_); try refine zS ?_)
            | with_reducible refine awp_block ?_
            | ((with_reducible refine CallK_id ?_); refine zcF ?_; refine ⟨_, by first | exact of_ok t 1 (by omega) | exact conds_ok c x (by omega) | exact conds_ok c y (by omega) | exact linked_ok _ hs | exact checkN_ok _ (gr0_ok (B.mk 14 n x y t c ks l ns fs) hs) | fail, fun _ => rfl, fun _ => rfl, rfl, ?_⟩; try refine zS ?_)
            | ((with_reducible refine awp_ret ?_); refine q_step (by assumption) ?_)
            | with_reducible refine fin_r ?_
            | ((with_reducible refine q_step (by assumption) ?_); try refine zS ?_)
  all_goals (clear hs hz l2 l3; first | (simp [go_sem, numF, *]; done) | (simp [go_sem, numF, *]; omega) | (simp [go_sem, numF]; omega) | (simp [go_sem, numF, *]; first | rfl | exact decide_eq_decide.2 Iff.rfl))
theorem numk0_ok (k : Int) (n x y : Int) (t : T) (c : List T) (ks : List B) (l : List Lk) (ns : List Nd) (fs : List Fl) (hs : (B.mk k n x y t c ks l ns fs).size < 1000000000000) (hk : k < 1 ∨ 14 < k) : AFn env 27 [(B.mk k n x y t c ks l ns fs).a] [] (aB (numF (B.mk k n x y t c ks l ns fs))) [] := by
  have e1 : ¬ k = 1 := by omega
  have e2 : ¬ k = 2 := by omega
  have e3 : ¬ k = 3 := by omega
  have e4 : ¬ k = 4 := by omega
  have e5 : ¬ k = 5 := by omega
  have e6 : ¬ k = 6 := by omega
  have e7 : ¬ k = 7 := by omega
  have e8 : ¬ k = 8 := by omega
  have e9 : ¬ k = 9 := by omega
  have e10 : ¬ k = 10 := by omega
  have e11 : ¬ k = 11 := by omega
  have e12 : ¬ k = 12 := by omega
  have e13 : ¬ k = 13 := by omega
  have e14 : ¬ k = 14 := by omega
  have hz := B.size_eq (B.mk k n x y t c ks l ns fs)
  have l2 := B.len_le ks
  simp only [mk_kids, mk_t, mk_conds] at hz
  refine afn_body Tryz.func27 rfl (by decide) ?_
  simp only [Tryz.ntmps27, Tryz.results27, List.length_cons, List.length_nil, List.cons_append, List.nil_append, Nat.reduceAdd, Nat.reduceSub, List.replicate]
  repeat' first
  | ((with_reducible refine awp_seqQ ?_); intro _ _)
  | ((with_reducible refine awp_region ?_); refine zS ?_)
  | ((with_reducible refine Gd_d ?_ ?_) <;> intro hb hb2 <;> first | contradiction | (exfalso; omega) | (refine zH hb2 ?_; try clear hb2))
  | ((with_reducible refine AWP_c ?_); refine zcdD ?_ ?_ <;> intro hb hb2 <;> first | contradiction | (exfalso; omega) | ((try refine zH hb2 ?_); try clear hb2))
  | ((with_reducible refine awp_skip ?_); try refine zS ?_)
  | with_reducible refine awp_block ?_
  | ((with_reducible refine awp_ret ?_); refine q_step (by assumption) ?_)
  | with_reducible refine fin_r ?_
  | ((with_reducible refine q_step (by assumption) ?_); try refine zS ?_)
  all_goals simp [go_sem, numF, e1, e2, e3, e4, e5, e6, e7, e8, e9, e10, e11, e12, e13, e14]
theorem num_ok (b : B) (hs : b.size < 1000000000000) : AFn env 27 [b.a] [] (aB (numF b)) [] := by
  cases b with | mk k n x y t c ks l ns fs =>
  by_cases h : k < 1 ∨ 14 < k
  · exact numk0_ok k n x y t c ks l ns fs hs h
  · exact numK_ok k n x y t c ks l ns fs hs (by omega)
end Go.Eng
open Go Go.Proofs
namespace Go.Eng
set_option linter.unusedSimpArgs false
set_option linter.unusedVariables false
set_option maxRecDepth 10000
set_option maxHeartbeats 4000000
mutual
def pL : B → List B
  | .mk k n x y t c ks l ns fs => .mk k n x y t c ks l ns fs :: pLs ks
def pLs : List B → List B
  | [] => []
  | b :: l => pL b ++ pLs l
end
theorem pL_eq (b : B) : pL b = b :: pLs b.kids := by cases b; rw [pL]; rfl
mutual
theorem items_pL : ∀ (b : B) (p q : Int) (off : Nat), (itemsF b p q off).map It.b = pL b
  | .mk k n x y t c ks l ns fs, p, q, off => by rw [itemsF, pL, List.map_cons, itemsK_pL ks]
theorem itemsK_pL : ∀ (l : List B) (own off i : Nat), (itemsK l own off i).map It.b = pLs l
  | [], _, _, _ => by rw [itemsK, pLs]; rfl
  | b :: l, own, off, i => by rw [itemsK, pLs, List.map_append, items_pL b, itemsK_pL l]
end
mutual
theorem pL_sub : ∀ (b x : B), x ∈ pL b → (pL x).Sublist (pL b)
  | .mk k n x y t c ks l ns fs, z, h => by
    rw [pL] at h ⊢
    rcases List.mem_cons.1 h with rfl | h
    · rw [pL]; exact List.Sublist.refl _
    · exact (pLs_sub ks z h).cons _
theorem pLs_sub : ∀ (l : List B) (x : B), x ∈ pLs l → (pL x).Sublist (pLs l)
  | [], x, h => by simp [pLs] at h
  | b :: l, x, h => by
    rw [pLs] at h ⊢
    rcases List.mem_append.1 h with h | h
    · exact (pL_sub b x h).trans (List.sublist_append_left _ _)
    · exact (pLs_sub l x h).trans (List.sublist_append_right _ _)
end
mutual
theorem pL_deep : ∀ (b x : B), x ∈ pL b → deepF x ≤ deepF b
  | .mk k n x y t c ks l ns fs, z, h => by
    rw [pL] at h
    rcases List.mem_cons.1 h with rfl | h
    · exact Nat.le_refl _
    · have := pLs_deep ks z h
      rw [deepF_eq (.mk k n x y t c ks l ns fs)]; simp only [B.kids]; omega
theorem pLs_deep : ∀ (l : List B) (x : B), x ∈ pLs l → deepF x ≤ deeps l
  | [], x, h => by simp [pLs] at h
  | b :: l, x, h => by
    rw [pLs] at h
    rw [deeps]
    rcases List.mem_append.1 h with h | h
    · have := pL_deep b x h; omega
    · have := pLs_deep l x h; omega
end
mutual
theorem pL_right (N : B → Bool) : ∀ (b x : B), x ∈ pL b → rightF N b = true → rightF N x = true
  | .mk k n x y t c ks l ns fs, z, h, hr => by
    rw [pL] at h
    rcases List.mem_cons.1 h with rfl | h
    · exact hr
    · rw [rightF_eq] at hr
      simp only [Bool.and_eq_true, Bool.not_eq_true', B.kids] at hr
      exact pLs_right N k ks z h hr.2
theorem pLs_right (N : B → Bool) (k : Int) : ∀ (l : List B) (x : B), x ∈ pLs l → l.any (wrong1 N k) = false → rightF N x = true
  | [], x, h, _ => by simp [pLs] at h
  | b :: l, x, h, hr => by
    rw [pLs] at h
    rw [List.any_cons, Bool.or_eq_false_iff] at hr
    rcases List.mem_append.1 h with h | h
    · refine pL_right N b x h ?_
      have := hr.1
      simp only [wrong1, Bool.or_eq_false_iff, Bool.not_eq_false'] at this
      exact this.2
    · exact pLs_right N k l x h hr.2
end
def nodesL (l : List B) : List Int := l.filterMap fun b => if skips b.kind then none else some b.node
theorem nodesL_sub {l l' : List B} (h : l.Sublist l') : (nodesL l).Sublist (nodesL l') := h.filterMap _
theorem dupF_ok : ∀ (L : List It) (s : List Int), dupF L s = false ↔ (nodesL (L.map It.b)).Nodup ∧ ∀ n ∈ nodesL (L.map It.b), n ∉ s
  | [], s => by simp [dupF, nodesL]
  | x :: l, s => by
    rw [dupF]
    by_cases hk : skips x.b.kind
    · rw [if_pos hk, dupF_ok l s]
      simp [nodesL, hk]
    · have hn : nodesL ((x :: l).map It.b) = x.b.node :: nodesL (l.map It.b) := by simp [nodesL, hk]
      rw [if_neg hk, hn]
      by_cases hm : x.b.node ∈ s
      · rw [if_pos hm]
        constructor
        · intro h; cases h
        · rintro ⟨_, h⟩; exact absurd hm (h _ (by simp))
      · rw [if_neg hm, dupF_ok l]
        simp only [List.nodup_cons, List.mem_cons, ins, if_neg hm, List.mem_append, List.mem_singleton, not_or]
        constructor
        · rintro ⟨h1, h2⟩
          refine ⟨⟨fun h => ?_, h1⟩, ?_⟩
          · exact (h2 _ h).2.1 rfl
          · rintro n (rfl | h)
            · exact hm
            · exact (h2 n h).1
        · rintro ⟨⟨h1, h2⟩, h3⟩
          refine ⟨h2, fun n hn => ⟨h3 n (.inr hn), fun h => ?_, by simp⟩⟩
          subst h; exact h1 hn
theorem check_part {N : B → Bool} {b x : B} (h : checkF N b = 0) (hx : x ∈ pL b) (h1 : x.kind ≠ 12) (h2 : x.kind ≠ 10) : checkF N x = 0 := by
  unfold checkF at h ⊢
  split at h
  · cases h
  · split at h
    · cases h
    · split at h
      · cases h
      · rename_i q1 q2 q3
        have hs := pL_sub b x hx
        have hc : x.count ≤ b.count := by
          have := hs.length_le
          rwa [← items_pL b (-1) 0 0, ← items_pL x (-1) 0 0, List.length_map, List.length_map, itemsF_len, itemsF_len] at this
        have hd := pL_deep b x hx
        have hr : rightF N b = true := by
          cases hh : rightF N b with
          | true => rfl
          | false => exact absurd (.inr (.inr hh)) q2
        have hr2 := pL_right N b x hx hr
        have q3 : dupF (itemsF b (-1) 0 0) [] = false := by simpa using q3
        rw [dupF_ok, items_pL] at q3
        have q4 : dupF (itemsF x (-1) 0 0) [] = false := by
          rw [dupF_ok, items_pL]
          exact ⟨q3.1.sublist (nodesL_sub hs), fun n hn => by simp⟩
        rw [if_neg (by omega), if_neg (by rw [hr2]; simp; exact ⟨h2, h1⟩), if_neg (by rw [q4]; simp)]
theorem right_okA (b : B) (hs : b.size ≤ 100000) : AFn env 17 [b.a] [] (aB (rightF numF b)) [] :=
  right_ok numF (fun b => decide (b.size ≤ 100000)) (fun b h k hk => by have := B.size_lt hk; simp only [decide_eq_true_eq] at *; omega) (fun b _ => bare_ok b) (fun b h => num_ok b (by simp only [decide_eq_true_eq] at h; omega)) b (by simpa using hs) hs
theorem check_okA (b : B) (hs : b.size ≤ 100000) : AFn env 7 [b.a] [] (aI (checkF numF b)) [] := check_ok numF b hs (right_okA b hs)
end Go.Eng
open Go Go.Proofs
namespace Go.Eng
set_option linter.unusedSimpArgs false
set_option linter.unusedVariables false
set_option maxRecDepth 10000
set_option maxHeartbeats 8000000
def T.bs (t : T) : List C := [.d (dI t.op), .d (dI t.n), .d (.fz (t.kids.map T.row))]
attribute [go_sem] T.bs
mutual
def dT : T → Nat
  | .mk _ _ k => dTs k + 1
def dTs : List T → Nat
  | [] => 0
  | t :: l => max (dT t) (dTs l)
end
theorem dT_eq (t : T) : dT t = dTs t.kids + 1 := by cases t; rw [dT]; rfl
mutual
theorem dT_le : ∀ t : T, dT t ≤ t.size
  | .mk _ _ k => by have := dTs_le k; simp only [dT, T.size]; omega
theorem dTs_le : ∀ l : List T, dTs l ≤ T.sizes l
  | [] => by simp [dTs]
  | t :: l => by have := dT_le t; have := dTs_le l; simp only [dTs, T.sizes]; omega
end
theorem rDepT_ok (t : T) (hs : t.size < 4611686018427387904) : AFn env 101 [t.a] [] (aI (dT t)) [] := by
  generalize hn : t.size = n
  induction n using Nat.strongRecOn generalizing t with
  | _ n ih0 =>
    have ih : ∀ k : T, k.size < t.size → AFn env 101 [k.a] [] (aI (dT k)) [] := fun k h => ih0 k.size (by omega) k (by omega) rfl
    have l2 := t.kids_len
    have hd := dT_le t
    refine afn_body Tryz.func101 rfl (by decide) ?_
    simp only [Tryz.ntmps101, Tryz.results101, List.length_cons, List.length_nil, List.cons_append, List.nil_append, Nat.reduceAdd, Nat.reduceSub, List.replicate]
    repeat' first
    | ((with_reducible refine awp_seqQ ?_); intro _ _)
    | ((with_reducible refine awp_region ?_); refine zS ?_)
    | with_reducible refine awp_block ?_
    refine awp_loopT (fun s : Nat × Nat => s.1 ≤ t.kids.length ∧ max s.2 (dTs (t.kids.drop s.1)) + 1 = dT t) (fun s => t.kids.length - s.1) (fun s => [(3, aI s.2), (10, aI s.1)]) (fun s => [some (.box t.bs)]) (0, 0) ⟨by simp, by rw [dT_eq]; simp⟩ zwl ?_
    rintro ⟨i, m⟩ ⟨h1, h2⟩
    simp only at h1 h2
    refine zT ?_
    repeat' first
    | ((with_reducible refine awp_seqQ ?_); intro _ _)
    | ((with_reducible refine awp_region ?_); refine zS ?_)
    | ((with_reducible refine AWP_c ?_); refine zcdD ?_ ?_ <;> intro hb hb2 <;> first | contradiction | (exfalso; omega) | ((try refine zH hb2 ?_); try clear hb2))
    | ((with_reducible refine awp_skip ?_); try refine zS ?_)
    | with_reducible refine awp_block ?_
    | ((with_reducible refine awp_exit ?_); try refine zS ?_)
    | ((with_reducible refine CallK_id ?_); refine zcF ?_; refine ⟨_, by first | exact ih (gt t.kids i) (T.size_lt (gt_mem (by omega))) | fail, fun _ => rfl, fun _ => rfl, rfl, ?_⟩; try refine zS ?_)
    | ((with_reducible refine awp_ret ?_); refine q_step (by assumption) ?_)
    | with_reducible refine fin_r ?_
    | ((with_reducible refine q_step (by assumption) ?_); try refine zS ?_)
    · have hi : i < t.kids.length := by omega
      rw [drop_gt hi, dTs] at h2
      exact ⟨(i + 1, dT (gt t.kids i)), ⟨by simp only; omega, by simp only; omega⟩, by simp only; omega, zwc 1⟩
    · have hi : i < t.kids.length := by omega
      rw [drop_gt hi, dTs] at h2
      exact ⟨(i + 1, m), ⟨by simp only; omega, by simp only; omega⟩, by simp only; omega, zwc 1⟩
    have hi : i = t.kids.length := by omega
    subst hi
    rw [List.drop_length, dTs] at h2
    rw [show ((m : Int) + 1) = ((dT t : Nat) : Int) by omega]
def rKids (o : Int) : Int := if o < 3 then 0 else if o < 5 then 1 else 2
theorem rKids_ok (o : Int) : AFn env 110 [aI o] [] (aI (rKids o)) [] := by
  refine afn_body Tryz.func110 rfl (by decide) ?_
  simp only [Tryz.ntmps110, Tryz.results110, List.length_cons, List.length_nil, List.cons_append, List.nil_append, Nat.reduceAdd, Nat.reduceSub, List.replicate]
  repeat' first
  | ((with_reducible refine awp_seqQ ?_); intro _ _)
  | ((with_reducible refine awp_region ?_); refine zS ?_)
  | ((with_reducible refine AWP_c ?_); refine zcdD ?_ ?_ <;> intro hb hb2 <;> first | contradiction | (exfalso; omega) | ((try refine zH hb2 ?_); try clear hb2))
  | ((with_reducible refine awp_skip ?_); try refine zS ?_)
  | ((with_reducible refine awp_ret ?_); refine q_step (by assumption) ?_)
  | with_reducible refine fin_r ?_
  | ((with_reducible refine q_step (by assumption) ?_); try refine zS ?_)
  all_goals simp [rKids, *]
def truthF (o : Int) : Bool := decide (o = 4) || decide (o ≥ 10)
theorem truth_ok (o : Int) : AFn env 78 [aI o] [] (aB (truthF o)) [] := by
  refine afn_body Tryz.func78 rfl (by decide) ?_
  simp only [Tryz.ntmps78, Tryz.results78, List.length_cons, List.length_nil, List.cons_append, List.nil_append, Nat.reduceAdd, Nat.reduceSub, List.replicate]
  repeat' first
  | ((with_reducible refine awp_seqQ ?_); intro _ _)
  | ((with_reducible refine awp_region ?_); refine zS ?_)
  | ((with_reducible refine Gd_nd ?_ ?_) <;> intro hb hb2 <;> first | contradiction | (exfalso; omega) | (refine zH hb2 ?_; try clear hb2))
  | ((with_reducible refine awp_ret ?_); refine q_step (by assumption) ?_)
  | with_reducible refine fin_r ?_
  | ((with_reducible refine q_step (by assumption) ?_); try refine zS ?_)
  all_goals simp [go_sem, truthF, *]
mutual
def formT : T → Bool
  | .mk o n k => !(decide (o < 1) || decide (o > 14) || decide ((k.length : Int) ≠ rKids o) || decide (n < 0)) && !((decide (o = 1) && decide (n > 1099511627776)) || (decide (o = 2) && decide (n > 3)) || (decide (o > 2) && decide (n ≠ 0))) && formTs k
def formTs : List T → Bool
  | [] => true
  | t :: l => formT t && formTs l
end
theorem formT_eq (t : T) : formT t = (!(decide (t.op < 1) || decide (t.op > 14) || decide ((t.kids.length : Int) ≠ rKids t.op) || decide (t.n < 0)) && !((decide (t.op = 1) && decide (t.n > 1099511627776)) || (decide (t.op = 2) && decide (t.n > 3)) || (decide (t.op > 2) && decide (t.n ≠ 0))) && formTs t.kids) := by
  cases t; rw [formT]; rfl
theorem formT_ok (t : T) (hs : t.size < 4611686018427387904) : AFn env 102 [t.a] [] (aB (formT t)) [] := by
  generalize hn : t.size = n
  induction n using Nat.strongRecOn generalizing t with
  | _ n ih0 =>
    have ih : ∀ k : T, k.size < t.size → AFn env 102 [k.a] [] (aB (formT k)) [] := fun k h => ih0 k.size (by omega) k (by omega) rfl
    have l2 := t.kids_len
    have hf := formT_eq t
    refine afn_body Tryz.func102 rfl (by decide) ?_
    simp only [Tryz.ntmps102, Tryz.results102, List.length_cons, List.length_nil, List.cons_append, List.nil_append, Nat.reduceAdd, Nat.reduceSub, List.replicate]
    refine awp_seq ?_
    refine awp_region ?_
    refine zT ?_
    refine awp_cut (fun _ : Unit => (decide (t.op < 1) || decide (t.op > 14) || decide ((t.kids.length : Int) ≠ rKids t.op) || decide (t.n < 0)) = false) (fun _ => []) (fun _ => [some (.box t.bs)]) ?_ ?_
    · repeat' first
      | ((with_reducible refine awp_seqQ ?_); intro _ _)
      | ((with_reducible refine awp_region ?_); refine zS ?_)
      | ((with_reducible refine awp_drawnA ?_ ?_); rfl; refine zS ?_)
      | ((with_reducible refine CGd_nd ?_ ?_) <;> intro hb hb2 <;> first | contradiction | (exfalso; omega) | (refine zH hb2 ?_; try clear hb2))
      | ((with_reducible refine CGd_d ?_ ?_) <;> intro hb hb2 <;> first | contradiction | (exfalso; omega) | (refine zH hb2 ?_; try clear hb2))
      | ((with_reducible refine DStep_id ?_); refine zdP ?_; refine ⟨_, by first | exact rKids_ok t.op | fail, fun _ => rfl, fun _ => rfl, rfl, (fun h => by first | cases h | fail), ?_⟩; try refine zS ?_)
      | ((with_reducible refine AWP_c ?_); refine zcdT ?_)
      | ((with_reducible refine AWP_c ?_); refine zcdD ?_ ?_ <;> intro hb hb2 <;> first | contradiction | (exfalso; omega) | ((try refine zH hb2 ?_); try clear hb2))
      | ((with_reducible refine awp_skip ?_); try refine zS ?_)
      | ((with_reducible refine awp_ret ?_); refine q_step (by assumption) ?_)
      | with_reducible refine fin_r ?_
      | ((with_reducible refine q_step (by assumption) ?_); try refine zS ?_)
      all_goals first
        | exact ⟨(), by simp; omega, zwc 1⟩
        | (rw [hf]; simp [go_sem, *]; done)
        | (rw [hf]; simp [go_sem]; omega)
        | trace_state
    rintro _ h0
    refine zT ?_
    refine awp_cut (fun _ : Unit => ((decide (t.op = 1) && decide (t.n > 1099511627776)) || (decide (t.op = 2) && decide (t.n > 3)) || (decide (t.op > 2) && decide (t.n ≠ 0))) = false) (fun _ => []) (fun _ => [some (.box t.bs)]) ?_ ?_
    · repeat' first
      | ((with_reducible refine awp_seqQ ?_); intro _ _)
      | ((with_reducible refine awp_region ?_); refine zS ?_)
      | ((with_reducible refine Gd_nd ?_ ?_) <;> intro hb hb2 <;> first | contradiction | (exfalso; omega) | (refine zH hb2 ?_; try clear hb2))
      | ((with_reducible refine Gd_d ?_ ?_) <;> intro hb hb2 <;> first | contradiction | (exfalso; omega) | (refine zH hb2 ?_; try clear hb2))
      | ((with_reducible refine AWP_c ?_); refine zcdT ?_)
      | ((with_reducible refine AWP_c ?_); refine zcdF ?_)
      | ((with_reducible refine AWP_c ?_); refine zcdN ?_ ?_ <;> intro hb hb2 <;> first | contradiction | (exfalso; omega) | ((try refine zH hb2 ?_); try clear hb2))
      | ((with_reducible refine awp_skip ?_); try refine zS ?_)
      | ((with_reducible refine awp_ret ?_); refine q_step (by assumption) ?_)
      | with_reducible refine fin_r ?_
      | ((with_reducible refine q_step (by assumption) ?_); try refine zS ?_)
      all_goals first
        | exact ⟨(), by simp; omega, zwc 1⟩
        | (rw [hf]; simp [go_sem, *]; done)
        | (rw [hf]; simp [go_sem]; omega)
        | trace_state
    rintro _ h1
    rw [h0, h1] at hf
    refine zT ?_
    repeat' first
    | ((with_reducible refine awp_seqQ ?_); intro _ _)
    | ((with_reducible refine awp_region ?_); refine zS ?_)
    | with_reducible refine awp_block ?_
    refine awp_loopT (fun i : Nat => i ≤ t.kids.length ∧ formT t = formTs (t.kids.drop i)) (fun i => t.kids.length - i) (fun i => [(58, aI i)]) (fun _ => [some (.box t.bs)]) 0 ⟨by omega, by rw [hf]; rfl⟩ zwl ?_
    rintro i ⟨g1, g2⟩
    refine zT ?_
    repeat' first
    | ((with_reducible refine awp_seqQ ?_); intro _ _)
    | ((with_reducible refine awp_region ?_); refine zS ?_)
    | ((with_reducible refine AWP_c ?_); refine zcdD ?_ ?_ <;> intro hb hb2 <;> first | contradiction | (exfalso; omega) | ((try refine zH hb2 ?_); try clear hb2))
    | ((with_reducible refine AWP_c ?_); refine zcdM ?_ ?_ <;> intro hb <;> first | contradiction | (try refine zH hb ?_))
    | ((with_reducible refine awp_skip ?_); try refine zS ?_)
    | with_reducible refine awp_block ?_
    | ((with_reducible refine awp_exit ?_); try refine zS ?_)
    | ((with_reducible refine CallK_id ?_); refine zcF ?_; refine ⟨_, by first | exact ih (gt t.kids i) (T.size_lt (gt_mem (by omega))) | fail, fun _ => rfl, fun _ => rfl, rfl, ?_⟩; try refine zS ?_)
    | ((with_reducible refine awp_ret ?_); refine q_step (by assumption) ?_)
    | with_reducible refine fin_r ?_
    | ((with_reducible refine q_step (by assumption) ?_); try refine zS ?_)
    · rw [g2, drop_gt (by omega), formTs, ‹formT (gt t.kids i) = false›]; rfl
    · exact ⟨i + 1, ⟨by omega, by rw [g2, drop_gt (by omega), formTs, ‹formT (gt t.kids i) = true›]; rfl⟩, by omega, zwc 1⟩
    · rw [g2, List.drop_eq_nil_of_le (by omega), formTs]
mutual
def tyT : T → Bool
  | .mk o _ k => tyTs (decide (o = 4) || decide (o ≥ 13)) k
def tyTs (a : Bool) : List T → Bool
  | [] => true
  | t :: l => truthF t.op == a && tyT t && tyTs a l
end
theorem tyT_eq (t : T) : tyT t = tyTs (decide (t.op = 4) || decide (t.op ≥ 13)) t.kids := by cases t; rw [tyT]; rfl
theorem tyT_ok (t : T) (hs : t.size < 4611686018427387904) : AFn env 77 [t.a] [] (aB (tyT t)) [] := by
  generalize hn : t.size = n
  induction n using Nat.strongRecOn generalizing t with
  | _ n ih0 =>
    have ih : ∀ k : T, k.size < t.size → AFn env 77 [k.a] [] (aB (tyT k)) [] := fun k h => ih0 k.size (by omega) k (by omega) rfl
    have l2 := t.kids_len
    have hf := tyT_eq t
    generalize ha : (decide (t.op = 4) || decide (t.op ≥ 13)) = a at hf
    refine afn_body Tryz.func77 rfl (by decide) ?_
    simp only [Tryz.ntmps77, Tryz.results77, List.length_cons, List.length_nil, List.cons_append, List.nil_append, Nat.reduceAdd, Nat.reduceSub, List.replicate]
    refine awp_seq ?_
    refine awp_region ?_
    refine zT ?_
    refine awp_cut (fun _ : Unit => True) (fun _ => [(3, aB a)]) (fun _ => [some (.box t.bs)]) ?_ ?_
    · repeat' first
      | ((with_reducible refine awp_region ?_); refine zS ?_)
      | ((with_reducible refine Gd_nd ?_ ?_) <;> intro hb hb2 <;> first | contradiction | (exfalso; omega) | (refine zH hb2 ?_; try clear hb2))
      all_goals exact ⟨(), wk_cl 1 (by decide) (by simp) (by simp only [go_sem, Bool.not_not, List.mem_singleton, forall_eq, ↓reduceIte, if_pos, rowsAt_map, wrap64, wrapu8, List.getElem?_cons_zero, List.getElem?_cons_succ, Int.reduceToNat, Nat.reduceAdd, Nat.reduceBEq, Bool.or_false, Bool.false_or, Bool.true_or, Nat.reduceSub, Nat.reduceMul, Int.reduceAdd, Int.reduceEq, Int.reduceLT, Int.reduceLE, Int.reduceNeg, Nat.reduceLT, Nat.reduceLeDiff, Nat.reduceEqDiff]; subst ha; try simp [*]) (by simp only [go_sem, Bool.not_not, List.mem_singleton, forall_eq, ↓reduceIte, if_pos, rowsAt_map, wrap64, wrapu8, List.getElem?_cons_zero, List.getElem?_cons_succ, Int.reduceToNat, Nat.reduceAdd, Nat.reduceBEq, Bool.or_false, Bool.false_or, Bool.true_or, Nat.reduceSub, Nat.reduceMul, Int.reduceAdd, Int.reduceEq, Int.reduceLT, Int.reduceLE, Int.reduceNeg, Nat.reduceLT, Nat.reduceLeDiff, Nat.reduceEqDiff])⟩
    rintro _ _
    refine zT ?_
    repeat' first
    | ((with_reducible refine awp_seqQ ?_); intro _ _)
    | ((with_reducible refine awp_region ?_); refine zS ?_)
    | with_reducible refine awp_block ?_
    refine awp_loopT (fun i : Nat => i ≤ t.kids.length ∧ tyT t = tyTs a (t.kids.drop i)) (fun i => t.kids.length - i) (fun i => [(17, aI i)]) (fun _ => [some (.box t.bs)]) 0 ⟨by omega, hf⟩ zwl ?_
    rintro i ⟨g1, g2⟩
    refine zT ?_
    repeat' first
    | ((with_reducible refine awp_seqQ ?_); intro _ _)
    | ((with_reducible refine awp_region ?_); refine zS ?_)
    | ((with_reducible refine Gd_b ?_ ?_) <;> intro hb <;> first | contradiction | refine zH hb ?_)
    | ((with_reducible refine AWP_c ?_); refine zcdT ?_)
    | ((with_reducible refine AWP_c ?_); refine zcdD ?_ ?_ <;> intro hb hb2 <;> first | contradiction | (exfalso; omega) | ((try refine zH hb2 ?_); try clear hb2))
    | ((with_reducible refine AWP_c ?_); refine zcdM ?_ ?_ <;> intro hb <;> first | contradiction | (try refine zH hb ?_))
    | ((with_reducible refine awp_skip ?_); try refine zS ?_)
    | with_reducible refine awp_block ?_
    | ((with_reducible refine awp_exit ?_); try refine zS ?_)
    | ((with_reducible refine CallK_id ?_); refine zcF ?_; refine ⟨_, by first | exact truth_ok _ | exact ih (gt t.kids i) (T.size_lt (gt_mem (by omega))) | fail, fun _ => rfl, fun _ => rfl, rfl, ?_⟩; try refine zS ?_)
    | ((with_reducible refine awp_ret ?_); refine q_step (by assumption) ?_)
    | with_reducible refine fin_r ?_
    | ((with_reducible refine q_step (by assumption) ?_); try refine zS ?_)
    all_goals first
      | (rw [g2, drop_gt (by omega), tyTs]; simp [go_sem, *]; done)
      | exact ⟨i + 1, ⟨by omega, by rw [g2, drop_gt (by omega), tyTs]; simp [*]⟩, by omega, zwc 1⟩
      | (rw [g2, List.drop_eq_nil_of_le (by omega), tyTs]; done)
      | trace_state
def rWrongF (t : T) : Int := if dT t > 24 then 2 else if formT t = true then 0 else 4
theorem rWrong_ok (t : T) (hs : t.size < 4611686018427387904) : AFn env 76 [t.a] [] (aI (rWrongF t)) [] := by
  refine afn_body Tryz.func76 rfl (by decide) ?_
  simp only [Tryz.ntmps76, Tryz.results76, List.length_cons, List.length_nil, List.cons_append, List.nil_append, Nat.reduceAdd, Nat.reduceSub, List.replicate]
  repeat' first
  | ((with_reducible refine awp_seqQ ?_); intro _ _)
  | ((with_reducible refine awp_region ?_); refine zS ?_)
  | ((with_reducible refine AWP_c ?_); refine zcdD ?_ ?_ <;> intro hb hb2 <;> first | contradiction | (exfalso; omega) | ((try refine zH hb2 ?_); try clear hb2))
  | ((with_reducible refine AWP_c ?_); refine zcdM ?_ ?_ <;> intro hb <;> first | contradiction | (try refine zH hb ?_))
  | ((with_reducible refine awp_skip ?_); try refine zS ?_)
  | ((with_reducible refine CallK_id ?_); refine zcF ?_; refine ⟨_, by first | exact rDepT_ok t hs | exact formT_ok t hs | fail, fun _ => rfl, fun _ => rfl, rfl, ?_⟩; try refine zS ?_)
  | ((with_reducible refine awp_ret ?_); refine q_step (by assumption) ?_)
  | with_reducible refine fin_r ?_
  | ((with_reducible refine q_step (by assumption) ?_); try refine zS ?_)
  all_goals first | (simp [go_sem, rWrongF, *]; done) | (rw [rWrongF, if_pos (by omega)]; done) | (rw [rWrongF, if_neg (by omega)]; simp [*]; done) | trace_state
def rCheckF (t : T) : Int × Int := if rWrongF t ≠ 0 then (0, rWrongF t) else if tyT t = true then (if truthF t.op = true then (2, 0) else (1, 0)) else (0, 30)
theorem rCheckF_ok (t : T) (hs : t.size < 4611686018427387904) : AFn env 53 [t.a] [] (.tup [aI (rCheckF t).1, aI (rCheckF t).2]) [] := by
  refine afn_body Tryz.func53 rfl (by decide) ?_
  simp only [Tryz.ntmps53, Tryz.results53, List.length_cons, List.length_nil, List.cons_append, List.nil_append, Nat.reduceAdd, Nat.reduceSub, List.replicate]
  repeat' first
  | ((with_reducible refine awp_seqQ ?_); intro _ _)
  | ((with_reducible refine awp_region ?_); refine zS ?_)
  | ((with_reducible refine AWP_c ?_); refine zcdN ?_ ?_ <;> intro hb hb2 <;> first | contradiction | (exfalso; omega) | ((try refine zH hb2 ?_); try clear hb2))
  | ((with_reducible refine AWP_c ?_); refine zcdM ?_ ?_ <;> intro hb <;> first | contradiction | (try refine zH hb ?_))
  | ((with_reducible refine AWP_c ?_); refine zcdB ?_ ?_ <;> intro hb <;> first | contradiction | (try refine zH hb ?_))
  | ((with_reducible refine awp_skip ?_); try refine zS ?_)
  | ((with_reducible refine CallK_id ?_); refine zcF ?_; refine ⟨_, by first | exact rWrong_ok t hs | exact tyT_ok t hs | exact truth_ok _ | fail, fun _ => rfl, fun _ => rfl, rfl, ?_⟩; try refine zS ?_)
  | ((with_reducible refine awp_ret ?_); refine q_step (by assumption) ?_)
  | with_reducible refine fin_r ?_
  | ((with_reducible refine q_step (by assumption) ?_); try refine zS ?_)
  all_goals first | (simp [go_sem, rCheckF, *]; done) | trace_state
end Go.Eng
open Go Go.Proofs
namespace Go.Eng
set_option linter.unusedSimpArgs false
set_option linter.unusedVariables false
mutual
theorem deepT_d : ∀ (t : T) (d : Int), 1 ≤ d → deepTF t d = decide (d - 1 + (dT t : Int) > 24)
  | .mk o n k, d, h => by
    rw [deepTF, dT, deepTs_d k (d + 1) (by omega), Bool.eq_iff_iff]
    simp only [Bool.or_eq_true, decide_eq_true_eq]
    omega
theorem deepTs_d : ∀ (l : List T) (d : Int), 1 ≤ d → deepTs l d = decide (0 < dTs l ∧ d - 1 + (dTs l : Int) > 24)
  | [], d, h => by simp [deepTs, dTs]
  | t :: l, d, h => by
    have h0 := dT_eq t
    rw [deepTs, dTs, deepT_d t d h, deepTs_d l d h, Bool.eq_iff_iff]
    simp only [Bool.or_eq_true, decide_eq_true_eq]
    omega
end
theorem wd_kids {o : Int} (h1 : 3 ≤ o) (h2 : o ≤ 14) : (gt words o.toNat).kids = rKids o := by
  have : o = 3 ∨ o = 4 ∨ o = 5 ∨ o = 6 ∨ o = 7 ∨ o = 8 ∨ o = 9 ∨ o = 10 ∨ o = 11 ∨ o = 12 ∨ o = 13 ∨ o = 14 := by omega
  rcases this with rfl | rfl | rfl | rfl | rfl | rfl | rfl | rfl | rfl | rfl | rfl | rfl <;> rfl
theorem wd_of {o : Int} (h1 : 3 ≤ o) (h2 : o ≤ 14) : (gt words o.toNat).of = if o = 4 ∨ o ≥ 13 then 2 else 1 := by
  have : o = 3 ∨ o = 4 ∨ o = 5 ∨ o = 6 ∨ o = 7 ∨ o = 8 ∨ o = 9 ∨ o = 10 ∨ o = 11 ∨ o = 12 ∨ o = 13 ∨ o = 14 := by omega
  rcases this with rfl | rfl | rfl | rfl | rfl | rfl | rfl | rfl | rfl | rfl | rfl | rfl <;> rfl
theorem wd_out {o : Int} (h1 : 3 ≤ o) (h2 : o ≤ 14) : (gt words o.toNat).out = if truthF o = true then 2 else 1 := by
  have : o = 3 ∨ o = 4 ∨ o = 5 ∨ o = 6 ∨ o = 7 ∨ o = 8 ∨ o = 9 ∨ o = 10 ∨ o = 11 ∨ o = 12 ∨ o = 13 ∨ o = 14 := by omega
  rcases this with rfl | rfl | rfl | rfl | rfl | rfl | rfl | rfl | rfl | rfl | rfl | rfl <;> rfl
mutual
theorem form_shaped : ∀ t : T, formT t = shapedF t
  | .mk o n k => by
    have hk := forms_shaped k
    rw [formT, shapedF]
    by_cases h1 : o = 1
    · subst h1
      rw [if_pos rfl, hk]
      cases k with
      | nil => rw [shapedFs, Bool.eq_iff_iff]; simp [rKids]
      | cons a l => simp [rKids]; intros; omega
    rw [if_neg h1]
    by_cases h2 : o = 2
    · subst h2
      rw [if_pos rfl, hk]
      cases k with
      | nil => rw [shapedFs, Bool.eq_iff_iff]; simp [rKids]; omega
      | cons a l => simp [rKids]; intros; omega
    rw [if_neg h2]
    by_cases h3 : o < 3 ∨ o > 14
    · rw [if_pos (by omega)]
      simp only [Bool.and_eq_false_iff, Bool.not_eq_false', Bool.or_eq_true, decide_eq_true_eq]
      exact .inl (.inl (by omega))
    rw [wd_kids (by omega) (by omega)]
    by_cases h4 : n ≠ 0 ∨ (k.length : Int) ≠ rKids o
    · rw [if_pos (by omega)]
      simp only [Bool.and_eq_false_iff, Bool.not_eq_false', Bool.or_eq_true, Bool.and_eq_true, decide_eq_true_eq]
      omega
    · rw [if_neg (by omega), hk, Bool.eq_iff_iff]
      simp only [Bool.and_eq_true, Bool.not_eq_true', Bool.or_eq_false_iff, Bool.and_eq_false_iff, decide_eq_false_iff_not]
      constructor
      · exact fun h => h.2
      · exact fun h => ⟨⟨by omega, by omega⟩, h⟩
theorem forms_shaped : ∀ l : List T, formTs l = shapedFs l
  | [] => by rw [formTs, shapedFs]
  | t :: l => by rw [formTs, shapedFs, form_shaped t, forms_shaped l]
end
mutual
theorem typed_ty : ∀ t : T, shapedF t = true → typedF t = if tyT t = true then (if truthF t.op = true then 2 else 1) else 0
  | .mk o n k, h => by
    rw [shapedF] at h
    rw [typedF, tyT]
    by_cases h1 : o = 1
    · subst h1
      rw [if_pos rfl] at h
      have : k = [] := by simp at h; exact h.1.1
      subst this
      rw [tyTs]; rfl
    by_cases h2 : o = 2
    · subst h2
      rw [if_neg (by decide), if_pos rfl] at h
      have : k = [] := by simp at h; exact h.1.1
      subst this
      rw [tyTs]; rfl
    rw [if_neg h1, if_neg h2] at h
    rw [if_neg (by omega)]
    split at h
    · cases h
    rename_i h3
    rw [wd_of (by omega) (by omega), wd_out (by omega) (by omega), off_ty (decide (o = 4) || decide (o ≥ 13)) k h]
    · simp only [T.op]
      cases tyTs (decide (o = 4) || decide (o ≥ 13)) k <;> simp <;> rfl
    · simp
theorem off_ty (a : Bool) : ∀ l : List T, shapedFs l = true → ∀ {w : Int}, w = (if a = true then 2 else 1) → anyOff w l = !tyTs a l
  | [], _, w, _ => by rw [anyOff, tyTs]; rfl
  | t :: l, h, w, hw => by
    rw [shapedFs, Bool.and_eq_true] at h
    rw [anyOff, tyTs, typed_ty t h.1, off_ty a l h.2 hw]
    subst hw
    cases a <;> cases tyT t <;> cases truthF t.op <;> cases tyTs _ l <;> simp
end
theorem rCheck_eq (t : T) : rCheckF t = checkTF t := by
  have hw : rWrongF t = wrongTF t := by
    rw [rWrongF, wrongTF, deepT_d t 1 (by omega), form_shaped]
    by_cases h : dT t > 24
    · rw [if_pos h, decide_eq_true (p := (1 : Int) - 1 + (dT t : Int) > 24) (by omega), if_pos rfl]
    · rw [if_neg h, decide_eq_false (p := (1 : Int) - 1 + (dT t : Int) > 24) (by omega)]
      simp
  rw [rCheckF, checkTF, hw]
  split
  · rfl
  · rename_i h
    have hs := wrong_shaped (by simpa using h)
    rw [typed_ty t hs]
    cases tyT t <;> cases truthF t.op <;> simp
theorem rCheckT_ok (t : T) (hs : t.size < 4611686018427387904) : AFn env 53 [t.a] [] (.tup [aI (checkTF t).1, aI (checkTF t).2]) [] := by
  rw [← rCheck_eq]; exact rCheckF_ok t hs
end Go.Eng
open Go Go.Proofs
namespace Go.Eng
set_option linter.unusedSimpArgs false
set_option linter.unusedVariables false
set_option maxRecDepth 10000
set_option maxHeartbeats 8000000
def stepL : List Lk → List Bool → List Bool
  | [], s => s
  | e :: l, s => stepL l (if gb s e.src = true then s.set e.dst.toNat true else s)
def iterL (l : List Lk) : Nat → List Bool → List Bool
  | 0, s => s
  | k + 1, s => iterL l k (stepL l s)
theorem stepL_len : ∀ (l : List Lk) (s : List Bool), (stepL l s).length = s.length
  | [], s => rfl
  | e :: l, s => by rw [stepL, stepL_len l]; split <;> simp
theorem iterL_len (l : List Lk) : ∀ (k : Nat) (s : List Bool), (iterL l k s).length = s.length
  | 0, s => rfl
  | k + 1, s => by rw [iterL, iterL_len l k, stepL_len]
def leadsR (n : Nat) (l : List Lk) (a b : Int) : Bool := gb (iterL l n (first1 a l (List.replicate n false))) b
theorem stepL_t {l : List Lk} {j : Nat} {s : List Bool} (h : j < l.length) (he : gt s (gt l j).src.toNat = true) : stepL (l.drop j) s = stepL (l.drop (j + 1)) (s.set (gt l j).dst.toNat true) := by rw [drop_gt (l := l) h, stepL, if_pos (by simpa [gb] using he)]
theorem stepL_f {l : List Lk} {j : Nat} {s : List Bool} (h : j < l.length) (he : gt s (gt l j).src.toNat = false) : stepL (l.drop j) s = stepL (l.drop (j + 1)) s := by rw [drop_gt (l := l) h, stepL, if_neg (by simp [gb, he])]
theorem rRk_ok (n : Nat) (l : List Lk) (hl : l.length < 4611686018427387904) (hn : n < 4611686018427387904) : AFn env 79 [aI n, aF (l.map Lk.row)] [] (aI (rkC n l)) [] := by
  refine afn_body Tryz.func79 rfl (by decide) ?_
  simp only [Tryz.ntmps79, Tryz.results79, List.length_cons, List.length_nil, List.cons_append, List.nil_append, Nat.reduceAdd, Nat.reduceSub, List.replicate]
  repeat' first
  | ((with_reducible refine awp_seqQ ?_); intro _ _)
  | ((with_reducible refine awp_region ?_); refine zS ?_)
  | ((with_reducible refine Gd_nd ?_ ?_) <;> intro hb hb2 <;> first | contradiction | (exfalso; omega) | (refine zH hb2 ?_; try clear hb2))
  | ((with_reducible refine AWP_c ?_); refine zcdD ?_ ?_ <;> intro hb hb2 <;> first | contradiction | (exfalso; omega) | ((try refine zH hb2 ?_); try clear hb2))
  | ((with_reducible refine awp_skip ?_); try refine zS ?_)
  | with_reducible refine awp_block ?_
  | ((with_reducible refine awp_ret ?_); refine q_step (by assumption) ?_)
  | with_reducible refine fin_r ?_
  | ((with_reducible refine q_step (by assumption) ?_); try refine zS ?_)
  all_goals first
    | (rw [rkC, if_pos (by omega)]; done)
    | (rw [rkC, if_neg (by omega), if_pos (by omega)]; done)
    | skip
  have h0 : rkC n l = if (l.all fun e => inR n e.src && inR n e.dst) = true then 0 else 4 := by rw [rkC, if_neg (by omega), if_neg (by omega)]
  refine awp_loopT (fun i : Nat => i ≤ l.length ∧ (l.all fun e => inR n e.src && inR n e.dst) = ((l.drop i).all fun e => inR n e.src && inR n e.dst)) (fun i => l.length - i) (fun i => [(18, aI i)]) (fun _ => []) 0 ⟨by omega, rfl⟩ zwl ?_
  rintro i ⟨h1, h2⟩
  refine zT ?_
  repeat' first
  | ((with_reducible refine awp_seqQ ?_); intro _ _)
  | ((with_reducible refine awp_region ?_); refine zS ?_)
  | ((with_reducible refine Gd_nd ?_ ?_) <;> intro hb hb2 <;> first | contradiction | (exfalso; omega) | (refine zH hb2 ?_; try clear hb2))
  | ((with_reducible refine AWP_c ?_); refine zcdT ?_)
  | ((with_reducible refine AWP_c ?_); refine zcdD ?_ ?_ <;> intro hb hb2 <;> first | contradiction | (exfalso; omega) | ((try refine zH hb2 ?_); try clear hb2))
  | ((with_reducible refine awp_skip ?_); try refine zS ?_)
  | with_reducible refine awp_block ?_
  | ((with_reducible refine awp_exit ?_); try refine zS ?_)
  | ((with_reducible refine awp_ret ?_); refine q_step (by assumption) ?_)
  | with_reducible refine fin_r ?_
  | ((with_reducible refine q_step (by assumption) ?_); try refine zS ?_)
  all_goals first
    | (rw [h0, h2, drop_gt (by omega), List.all_cons, show (inR n (gt l i).src && inR n (gt l i).dst) = false by simp [inR]; omega]; simp; done)
    | exact ⟨i + 1, ⟨by omega, by rw [h2, drop_gt (by omega), List.all_cons, show (inR n (gt l i).src && inR n (gt l i).dst) = true by simp [inR]; omega]; rfl⟩, by omega, zwc 0⟩
    | (rw [h0, h2, List.drop_eq_nil_of_le (by omega)]; rfl)
    | trace_state
theorem rLeads_ok (n : Nat) (l : List Lk) (a b : Int) (hn : n ≤ 64) (hl : l.length ≤ 256) (hin : inL n l) (hb : 0 ≤ b ∧ b < n) : AFn env 80 [aI n, aF (l.map Lk.row), aI a, aI b] [] (aB (leadsR n l a b)) [] := by
  refine afn_body Tryz.func80 rfl (by decide) ?_
  simp only [Tryz.ntmps80, Tryz.results80, List.length_cons, List.length_nil, List.cons_append, List.nil_append, Nat.reduceAdd, Nat.reduceSub, List.replicate]
  repeat' first
  | ((with_reducible refine awp_seqQ ?_); intro _ _)
  | ((with_reducible refine awp_region ?_); refine zS ?_)
  | with_reducible refine awp_block ?_
  refine awp_loopT (fun z : Nat × List Bool => z.1 ≤ l.length ∧ z.2.length = n ∧ first1 a l (List.replicate n false) = first1 a (l.drop z.1) z.2) (fun z => l.length - z.1) (fun z => [(19, aI z.1)]) (fun z => [RwO z.2]) (0, List.replicate n false) ⟨by simp, by simp, rfl⟩ zwl ?_
  rintro ⟨j, s⟩ ⟨g1, g2, g3⟩
  simp only at g1 g2 g3
  have hR : j < l.length → 0 ≤ (gt l j).src ∧ (gt l j).src < n ∧ 0 ≤ (gt l j).dst ∧ (gt l j).dst < n := fun h => hin _ (gt_mem h)
  refine zT ?_
  repeat' first
  | ((with_reducible refine awp_seqQ ?_); intro _ _)
  | ((with_reducible refine awp_region ?_); refine zS ?_)
  | ((with_reducible refine AWP_c ?_); refine zcdD ?_ ?_ <;> intro hb hb2 <;> first | contradiction | (exfalso; omega) | ((try refine zH hb2 ?_); try clear hb2))
  | ((with_reducible refine awp_skip ?_); try refine zS ?_)
  | with_reducible refine awp_block ?_
  | ((with_reducible refine awp_exit ?_); try refine zS ?_)
  | ((with_reducible refine q_step (by assumption) ?_); try refine zS ?_)
  · exact ⟨(j + 1, s.set (gt l j).dst.toNat true), ⟨by simp only; omega, by simpa using g2, by rw [g3, first1_t (by omega) ‹_›]⟩, by simp only; omega, zwc 1⟩
  · exact ⟨(j + 1, s), ⟨by simp only; omega, g2, by rw [g3, first1_f (by omega) ‹_›]⟩, by simp only; omega, zwc 1⟩
  have hs : first1 a l (List.replicate n false) = s := by rw [g3, List.drop_eq_nil_of_le (by omega), first1_nil]
  have hr : leadsR n l a b = gb (iterL l n s) b := by rw [leadsR, hs]
  refine awp_loopT (fun z : Nat × List Bool => z.1 ≤ n ∧ z.2.length = n ∧ iterL l n s = iterL l (n - z.1) z.2) (fun z => n - z.1) (fun z => [(12, aI z.1)]) (fun z => [RwO z.2]) (0, s) ⟨by simp, g2, rfl⟩ zwl ?_
  rintro ⟨k, s1⟩ ⟨h1, h2, h3⟩
  simp only at h1 h2 h3
  refine zT ?_
  repeat' first
  | ((with_reducible refine awp_seqQ ?_); intro _ _)
  | ((with_reducible refine awp_region ?_); refine zS ?_)
  | ((with_reducible refine AWP_c ?_); refine zcdD ?_ ?_ <;> intro hb hb2 <;> first | contradiction | (exfalso; omega) | ((try refine zH hb2 ?_); try clear hb2))
  | ((with_reducible refine awp_skip ?_); try refine zS ?_)
  | with_reducible refine awp_block ?_
  | ((with_reducible refine awp_exit ?_); try refine zS ?_)
  | ((with_reducible refine awp_ret ?_); refine q_step (by assumption) ?_)
  | with_reducible refine fin_r ?_
  | ((with_reducible refine q_step (by assumption) ?_); try refine zS ?_)
  rotate_left
  · rw [hr, h3, show n - k = 0 by omega, iterL]; simp [go_sem, gb]
  refine awp_loopT (fun z : Nat × List Bool => z.1 ≤ l.length ∧ z.2.length = n ∧ stepL l s1 = stepL (l.drop z.1) z.2) (fun z => l.length - z.1) (fun z => [(39, aI z.1)]) (fun z => [RwO z.2]) (0, s1) ⟨by simp, h2, rfl⟩ zwl ?_
  rintro ⟨i, s2⟩ ⟨q1, q2, q3⟩
  simp only at q1 q2 q3
  have hR : i < l.length → 0 ≤ (gt l i).src ∧ (gt l i).src < n ∧ 0 ≤ (gt l i).dst ∧ (gt l i).dst < n := fun h => hin _ (gt_mem h)
  refine zT ?_
  repeat' first
  | ((with_reducible refine awp_seqQ ?_); intro _ _)
  | ((with_reducible refine awp_region ?_); refine zS ?_)
  | ((with_reducible refine AWP_c ?_); refine zcdD ?_ ?_ <;> intro hb hb2 <;> first | contradiction | (exfalso; omega) | ((try refine zH hb2 ?_); try clear hb2))
  | ((with_reducible refine AWP_c ?_); refine zcdB ?_ ?_ <;> intro hb <;> first | contradiction | (try refine zH hb ?_))
  | ((with_reducible refine awp_skip ?_); try refine zS ?_)
  | with_reducible refine awp_block ?_
  | ((with_reducible refine awp_exit ?_); try refine zS ?_)
  | ((with_reducible refine q_step (by assumption) ?_); try refine zS ?_)
  · exact ⟨(i + 1, s2.set (gt l i).dst.toNat true), ⟨by simp only; omega, by simpa using q2, by rw [q3, stepL_t (by omega) ‹_›]⟩, by simp only; omega, zwc 1⟩
  · exact ⟨(i + 1, s2), ⟨by simp only; omega, q2, by rw [q3, stepL_f (by omega) ‹_›]⟩, by simp only; omega, zwc 1⟩
  have hs2 : stepL l s1 = s2 := by rw [q3, List.drop_eq_nil_of_le (by omega), stepL]
  exact ⟨(k + 1, s2), ⟨by simp only; omega, q2, by rw [h3, show n - k = (n - (k + 1)) + 1 by omega, iterL, hs2]⟩, by simp only; omega, zwc 1⟩
def rndL (n : Nat) (l : List Lk) : List Nat → List Int
  | [] => []
  | i :: r => if leadsR n l i i = true then (i : Int) :: rndL n l r else rndL n l r
theorem rndL_len (n : Nat) (l : List Lk) : ∀ r : List Nat, (rndL n l r).length ≤ r.length
  | [] => by simp [rndL]
  | i :: r => by have := rndL_len n l r; rw [rndL]; split <;> simp <;> omega
def rRoundF (n : Nat) (l : List Lk) : List Int × Int := if rkC n l ≠ 0 then ([], rkC n l) else (rndL n l (List.range' 0 n), 0)
theorem rRound_ok (n : Nat) (l : List Lk) (hl : l.length < 4611686018427387904) (hn : n < 4611686018427387904) : AFn env 57 [aI n, aF (l.map Lk.row)] [] (.tup [aF ((rRoundF n l).1.map iRow), aI (rRoundF n l).2]) [] := by
  have hf : rkC n l = 0 → n ≤ 64 ∧ l.length ≤ 256 := fun h => by have := rkC_in h; omega
  have hin : rkC n l = 0 → inL n l := fun h => by have := (rkC_in h).2; rwa [Int.toNat_natCast] at this
  refine afn_body Tryz.func57 rfl (by decide) ?_
  simp only [Tryz.ntmps57, Tryz.results57, List.length_cons, List.length_nil, List.cons_append, List.nil_append, Nat.reduceAdd, Nat.reduceSub, List.replicate]
  repeat' first
  | ((with_reducible refine awp_seqQ ?_); intro _ _)
  | ((with_reducible refine awp_region ?_); refine zS ?_)
  | ((with_reducible refine AWP_c ?_); refine zcdN ?_ ?_ <;> intro hb hb2 <;> first | contradiction | (exfalso; omega) | ((try refine zH hb2 ?_); try clear hb2))
  | ((with_reducible refine awp_skip ?_); try refine zS ?_)
  | with_reducible refine awp_block ?_
  | ((with_reducible refine CallK_id ?_); refine zcF ?_; refine ⟨_, by first | exact rRk_ok n l hl hn | fail, fun _ => rfl, fun _ => rfl, rfl, ?_⟩; try refine zS ?_)
  | ((with_reducible refine awp_ret ?_); refine q_step (by assumption) ?_)
  | with_reducible refine fin_r ?_
  | ((with_reducible refine q_step (by assumption) ?_); try refine zS ?_)
  · rw [rRoundF, if_pos ‹_›]; rfl
  have hr0 : rkC n l = 0 := ‹_›
  have hnl := hf hr0
  have hr : rRoundF n l = (rndL n l (List.range' 0 n), 0) := by rw [rRoundF, if_neg (by simp [hr0])]
  refine awp_wk (wk_virt none (i := 7) (s := 1) (by decide) rfl) ?_
  refine zT ?_
  refine awp_loopT (fun z : Nat × List Int => z.1 ≤ n ∧ z.2 ++ rndL n l (List.range' z.1 (n - z.1)) = rndL n l (List.range' 0 n) ∧ z.2.length ≤ z.1) (fun z => n - z.1) (fun z => [(7, OwnK 0 z.2.length), (8, aI z.1)]) (fun z => [RwG z.2]) (0, []) ⟨by simp, by simp, by simp⟩ zwl ?_
  rintro ⟨i, o⟩ ⟨h1, h2, h3⟩
  simp only at h1 h2 h3
  refine zT ?_
  repeat' first
  | ((with_reducible refine awp_seqQ ?_); intro _ _)
  | ((with_reducible refine awp_region ?_); refine zS ?_)
  | ((with_reducible refine AWP_c ?_); refine zcdD ?_ ?_ <;> intro hb hb2 <;> first | contradiction | (exfalso; omega) | ((try refine zH hb2 ?_); try clear hb2))
  | ((with_reducible refine AWP_c ?_); refine zcdB ?_ ?_ <;> intro hb <;> first | contradiction | (try refine zH hb ?_))
  | ((with_reducible refine awp_skip ?_); try refine zS ?_)
  | with_reducible refine awp_block ?_
  | ((with_reducible refine awp_exit ?_); try refine zS ?_)
  | ((with_reducible refine CallK_id ?_); refine zcF ?_; refine ⟨_, by first | exact rLeads_ok n l i i (by omega) (by omega) (hin ‹_›) (by omega) | fail, fun _ => rfl, fun _ => rfl, rfl, ?_⟩; try refine zS ?_)
  | ((with_reducible refine awp_ret ?_); refine q_step (by assumption) ?_)
  | ((with_reducible refine q_step (by assumption) ?_); try refine zS ?_)
  · exact ⟨(i + 1, o ++ [(i : Int)]), ⟨by simp only; omega, by rw [← h2, show n - i = (n - (i + 1)) + 1 by omega, List.range'_succ, rndL, if_pos ‹_›]; simp, by simp; omega⟩, by simp only; omega, wk_cl 1 (by decide) (by simp) (by simp only [go_sem, Bool.not_not, List.mem_singleton, forall_eq, ↓reduceIte, if_pos, rowsAt_map, wrap64, wrapu8, List.getElem?_cons_zero, List.getElem?_cons_succ, Int.reduceToNat, Nat.reduceAdd, Nat.reduceBEq, Bool.or_false, Bool.false_or, Bool.true_or, Nat.reduceSub, Nat.reduceMul, Int.reduceAdd, Int.reduceEq, Int.reduceLT, Int.reduceLE, Int.reduceNeg, Nat.reduceLT, Nat.reduceLeDiff, Nat.reduceEqDiff]; try simp) (by simp only [go_sem, Bool.not_not, List.mem_singleton, forall_eq, ↓reduceIte, if_pos, rowsAt_map, wrap64, wrapu8, List.getElem?_cons_zero, List.getElem?_cons_succ, Int.reduceToNat, Nat.reduceAdd, Nat.reduceBEq, Bool.or_false, Bool.false_or, Bool.true_or, Nat.reduceSub, Nat.reduceMul, Int.reduceAdd, Int.reduceEq, Int.reduceLT, Int.reduceLE, Int.reduceNeg, Nat.reduceLT, Nat.reduceLeDiff, Nat.reduceEqDiff, List.map_append]; try simp [go_sem])⟩
  · exact ⟨(i + 1, o), ⟨by simp only; omega, by rw [← h2, show n - i = (n - (i + 1)) + 1 by omega, List.range'_succ, rndL, if_neg (by simp [*])], by simp only; omega⟩, by simp only; omega, zwc 1⟩
  rw [show n - i = 0 by omega, List.range'_zero, rndL, List.append_nil] at h2
  refine fin_r (r0 := .tup [aF (o.map iRow), aI 0]) (H1 := [none]) ?_ (h2 := by simp only [go_sem, Bool.not_not, List.mem_singleton, forall_eq, ↓reduceIte, if_pos, rowsAt_map, wrap64, wrapu8, List.getElem?_cons_zero, List.getElem?_cons_succ, Int.reduceToNat, Nat.reduceAdd, Nat.reduceBEq, Bool.or_false, Bool.false_or, Bool.true_or, Nat.reduceSub, Nat.reduceMul, Int.reduceAdd, Int.reduceEq, Int.reduceLT, Int.reduceLE, Int.reduceNeg, Nat.reduceLT, Nat.reduceLeDiff, Nat.reduceEqDiff, frA, frAs, subR, Nat.le_refl, and_self]; try rfl)
  rw [hr, h2]; rfl
end Go.Eng
open Go Go.Proofs
namespace Go.Eng
set_option linter.unusedSimpArgs false
set_option linter.unusedVariables false
def Sub (s : List Bool) (u : Int → Prop) : Prop := ∀ j : Nat, gt s j = true → u j
theorem sub_rep (n : Nat) (u : Int → Prop) : Sub (List.replicate n false) u := fun j h => by
  exfalso
  have hl := gt_lt h
  rw [show gt (List.replicate n false) j = false by unfold gt; rw [List.getD_eq_getElem?_getD, List.getElem?_replicate]; split <;> rfl] at h; cases h
theorem sub_set {s : List Bool} {u : Int → Prop} (h : Sub s u) {i : Nat} (hu : u i) : Sub (s.set i true) u := fun j hj => by
  by_cases hi : i < s.length
  · rw [gt_set _ _ _ _ hi] at hj
    split at hj
    · rename_i e; subst e; exact hu
    · exact h j hj
  · rw [List.set_eq_of_length_le (by omega)] at hj; exact h j hj
theorem stepL_sub {u : Int → Prop} {n : Nat} : ∀ (l : List Lk) (s : List Bool), inL n l → s.length = n → (∀ e ∈ l, u e.src → u e.dst) → Sub s u → Sub (stepL l s) u
  | [], s, _, _, _, h => h
  | e :: l, s, hl, hs, hu, h => by
    have hb := hl e (by simp)
    rw [stepL]
    refine stepL_sub l _ (fun x hx => hl x (by simp [hx])) (by split <;> simpa using hs) (fun x hx => hu x (by simp [hx])) ?_
    split
    · rename_i hg
      refine sub_set h ?_
      have := hu e (by simp) (by have := h e.src.toNat hg; rwa [Int.toNat_of_nonneg hb.1] at this)
      rwa [Int.toNat_of_nonneg hb.2.2.1]
    · exact h
theorem iterL_sub {u : Int → Prop} {n : Nat} {l : List Lk} (hl : inL n l) (hu : ∀ e ∈ l, u e.src → u e.dst) : ∀ (k : Nat) (s : List Bool), s.length = n → Sub s u → Sub (iterL l k s) u
  | 0, s, _, h => h
  | k + 1, s, hs, h => iterL_sub hl hu k _ (by rw [stepL_len]; exact hs) (stepL_sub l s hl hs hu h)
theorem first1_sub {u : Int → Prop} {n : Nat} (i : Int) : ∀ (l : List Lk) (s : List Bool), inL n l → s.length = n → (∀ e ∈ l, e.src = i → u e.dst) → Sub s u → Sub (first1 i l s) u
  | [], s, _, _, _, h => h
  | e :: l, s, hl, hs, hu, h => by
    have hb := hl e (by simp)
    rw [first1]
    refine first1_sub i l _ (fun x hx => hl x (by simp [hx])) (by split <;> simpa using hs) (fun x hx => hu x (by simp [hx])) ?_
    split
    · rename_i hg
      refine sub_set h ?_
      have := hu e (by simp) hg
      rwa [Int.toNat_of_nonneg hb.2.2.1]
    · exact h
theorem stepL_mono : ∀ (l : List Lk) (s : List Bool) (k : Nat), gt s k = true → gt (stepL l s) k = true
  | [], s, k, h => h
  | e :: l, s, k, h => by
    rw [stepL]
    refine stepL_mono l _ k ?_
    split
    · exact gt_mono _ _ _ h
    · exact h
theorem iterL_mono (l : List Lk) : ∀ (n : Nat) (s : List Bool) (k : Nat), gt s k = true → gt (iterL l n s) k = true
  | 0, s, k, h => h
  | n + 1, s, k, h => iterL_mono l n _ k (stepL_mono l s k h)
theorem gt_ext : ∀ {s t : List Bool}, s.length = t.length → (∀ k, gt s k = true → gt t k = true) → (∀ k, gt t k = true → gt s k = true) → t = s
  | s, t, h, h1, h2 => ext_gt h.symm (fun j hj => by
      cases ht : gt t j with
      | true => exact (h2 j ht).symm
      | false =>
        cases hs : gt s j with
        | true => rw [h1 j hs] at ht; cases ht
        | false => rfl)
theorem cf_mono : ∀ {s t : List Bool}, s.length = t.length → (∀ k, gt s k = true → gt t k = true) → cf t ≤ cf s ∧ (cf t = cf s → t = s)
  | [], [], _, _ => ⟨by simp [cf], fun _ => rfl⟩
  | [], _ :: _, h, _ => by simp at h
  | _ :: _, [], h, _ => by simp at h
  | a :: s, b :: t, h, hm => by
    obtain ⟨h1, h2⟩ := cf_mono (s := s) (t := t) (by simpa using h) (fun k hk => by simpa [gt] using hm (k + 1) (by simpa [gt] using hk))
    have h0 : a = true → b = true := fun ha => by simpa [gt] using hm 0 (by simpa [gt] using ha)
    cases a <;> cases b <;> simp only [cf] at * <;> simp at * <;> first | omega | exact ⟨by omega, fun e => h2 (by omega)⟩ | exact ⟨h1, h2⟩ | skip
theorem fixed_closed {n : Nat} : ∀ {l : List Lk} {s : List Bool}, inL n l → s.length = n → stepL l s = s → ∀ e ∈ l, gb s e.src = true → gb s e.dst = true
  | [], s, _, _, _, e, h, _ => by simp at h
  | x :: l, s, hl, hs, hf, e, he, hg => by
    have hx := hl x (by simp)
    rw [stepL] at hf
    have h1 : (if gb s x.src = true then s.set x.dst.toNat true else s) = s := by
      refine gt_ext (by split <;> simp) (fun k hk => ?_) (fun k hk => ?_)
      · split
        · exact gt_mono _ _ _ hk
        · exact hk
      · rw [← hf]; exact stepL_mono l _ k hk
    rw [h1] at hf
    rcases List.mem_cons.1 he with rfl | he
    · rw [if_pos hg] at h1
      rw [← h1, gb, gt_set _ _ _ _ (by omega), if_pos rfl]
    · exact fixed_closed (fun y hy => hl y (by simp [hy])) hs hf e he hg
theorem stepL_fix (l : List Lk) {s : List Bool} (h : stepL l s = s) : ∀ k, iterL l k s = s
  | 0 => rfl
  | k + 1 => by rw [iterL, h, stepL_fix l h k]
theorem iterL_closed {n : Nat} {l : List Lk} (hl : inL n l) : ∀ (k : Nat) (s : List Bool), s.length = n → cf s ≤ k → ∀ e ∈ l, gb (iterL l k s) e.src = true → gb (iterL l k s) e.dst = true
  | 0, s, hs, hc, e, he, _ => by
    have hb := hl e he
    rw [iterL, gb]
    cases h : gt s e.dst.toNat with
    | true => rfl
    | false =>
      have := cf_set (s := s) (j := e.dst.toNat) (by omega) h
      omega
  | k + 1, s, hs, hc, e, he, hg => by
    by_cases hf : stepL l s = s
    · rw [stepL_fix l hf] at hg ⊢
      exact fixed_closed hl hs hf e he hg
    · rw [iterL] at hg ⊢
      have hm := cf_mono (s := s) (t := stepL l s) (by rw [stepL_len]) (stepL_mono l s)
      have : cf (stepL l s) ≠ cf s := fun h => hf (hm.2 h)
      exact iterL_closed hl k _ (by rw [stepL_len]; exact hs) (by omega) e he hg
theorem cf_len : ∀ s : List Bool, cf s ≤ s.length := cf_le
theorem leadsR_run {n : Nat} {l : List Lk} (hl : inL n l) {a : Int} {b : Nat} (hb : b < n) : leadsR n l a b = true ↔ run l a b := by
  have hlen : (first1 a l (List.replicate n false)).length = n := by rw [first1_len]; simp
  constructor
  · intro h u hu hs
    exact iterL_sub (u := u) hl hu n _ hlen (first1_sub a l _ hl (by simp) (fun e he hsrc => hs e he hsrc) (sub_rep n u)) b (by simpa [leadsR, gb] using h)
  · intro h
    unfold leadsR
    refine h (fun k => gb (iterL l n (first1 a l (List.replicate n false))) k = true) (fun e he hg => iterL_closed hl n _ hlen (by have := cf_le (first1 a l (List.replicate n false)); omega) e he hg) (fun e he hsrc => ?_)
    rw [gb]
    exact iterL_mono l n _ _ (first1_seed a l _ (by simpa using hl) e he hsrc)
theorem spreadN_sub {u : Int → Prop} {l : List Lk} : ∀ (k : Nat) (s : List Bool), inL s.length l → (∀ e ∈ l, u e.src → u e.dst) → Sub s u → Sub (spreadN k s l) u
  | 0, s, _, _, h => h
  | k + 1, s, hl, hu, h => by
    rw [spreadN]
    split
    · exact h
    · rename_i e hf
      have he := List.mem_of_find?_eq_some hf
      have hh := List.find?_some hf
      have hb := hl e he
      refine spreadN_sub k _ (by simpa using hl) hu (sub_set h ?_)
      have hg : gt s e.src.toNat = true := by
        unfold hot at hh
        simp only [Bool.and_eq_true] at hh
        exact hh.1
      have := hu e he (by have := h e.src.toNat hg; rwa [Int.toNat_of_nonneg hb.1] at this)
      rwa [Int.toNat_of_nonneg hb.2.2.1]
theorem ahead_run {n : Nat} {l : List Lk} (hl : inL n l) {i b : Nat} : gt (aheadF n l i) b = true ↔ run l i b := by
  have hlen : (first1 i l (List.replicate n false)).length = n := by rw [first1_len]; simp
  constructor
  · intro h u hu hs
    exact spreadN_sub (u := u) _ _ (by rw [hlen]; exact hl) hu (first1_sub i l _ hl (by simp) (fun e he hsrc => hs e he hsrc) (sub_rep n u)) b h
  · intro h
    simpa [gb] using run_ahead hl h
theorem markL_none : ∀ (s : List Bool) (i : Nat), (∀ k, gt s k = false) → markL s i = []
  | [], i, _ => rfl
  | b :: l, i, h => by
    have hb : b = false := by simpa [gt] using h 0
    rw [markL, if_neg (by simp [hb]), markL_none l (i + 1) (fun k => by simpa [gt] using h (k + 1))]
theorem rndL_none {n : Nat} {l : List Lk} : ∀ {r : List Nat}, (rndL n l r).length = 0 ↔ ∀ i ∈ r, leadsR n l i i = false
  | [] => by simp [rndL]
  | i :: r => by
    rw [rndL]
    by_cases h : leadsR n l i i = true
    · rw [if_pos h]; simp [h]
    · rw [if_neg h, rndL_none (r := r)]
      simp [Bool.eq_false_iff.2 h]
theorem round_eq {n : Nat} {l : List Lk} : ((rRoundF n l).1.length = 0 ↔ (roundF n l).1.length = 0) ∧ (rRoundF n l).2 = (roundF n l).2 := by
  unfold rRoundF roundF
  by_cases h : rkC n l = 0
  · have hl := (rkC_in h).2
    rw [Int.toNat_natCast] at hl
    rw [if_neg (by simp [h]), if_pos h, Int.toNat_natCast]
    refine ⟨?_, rfl⟩
    show (rndL n l (List.range' 0 n)).length = 0 ↔ (markL (seenF n l) 0).length = 0
    have hsl : (seenF n l).length = n := by simp [seenF]
    have hgs : ∀ i, i < n → gt (seenF n l) i = gt (aheadF n l i) i := fun i hi => by simp [seenF, gt, List.getD, hi]
    rw [rndL_none]
    constructor
    · intro h1
      rw [markL_none _ _ (fun k => ?_)]; rfl
      cases hk : gt (seenF n l) k with
      | false => rfl
      | true =>
        have hkn : k < n := by have := gt_lt hk; omega
        rw [hgs k hkn, ahead_run hl] at hk
        have := h1 k (List.mem_range'.2 ⟨k, hkn, by omega⟩)
        rw [(leadsR_run hl hkn).2 hk] at this; cases this
    · intro h1 i hi
      obtain ⟨j, hj, rfl⟩ := List.mem_range'.1 hi
      have hjn : 0 + 1 * j < n := by omega
      cases hk : leadsR n l ((0 + 1 * j : Nat) : Int) ((0 + 1 * j : Nat) : Int) with
      | false => rfl
      | true =>
        have := markL_nil _ _ h1 (0 + 1 * j)
        rw [hgs _ hjn, (ahead_run hl).2 ((leadsR_run hl hjn).1 hk)] at this; cases this
  · rw [if_pos (by simpa using h), if_neg h]
    exact ⟨Iff.rfl, rfl⟩
end Go.Eng
open Go Go.Proofs
namespace Go.Eng
set_option linter.unusedSimpArgs false
set_option linter.unusedVariables false
def toLk (f : Fl) : Lk := ⟨f.src, f.dst⟩
def bkLk (f : Fl) : Lk := ⟨f.dst, f.src⟩
def dirL (n : Gr) (back : Bool) : List Lk := if back = true then n.fs.map bkLk else n.fs.map toLk
def runR (l : List Lk) (y x : Int) : Prop := ∀ u : Int → Prop, (∀ e ∈ l, u e.src → u e.dst) → u y → u x
def reachF (n : Gr) (i : Int) : List Bool := iterL (n.fs.map toLk) n.ns.length ((List.replicate n.ns.length false).set i.toNat true)
theorem reachF_len (n : Gr) (i : Int) : (reachF n i).length = n.ns.length := by rw [reachF, iterL_len]; simp
theorem dir_in {n : Gr} (h : inG n) (back : Bool) : inL n.ns.length (dirL n back) := fun e he => by
  unfold dirL at he
  split at he <;> obtain ⟨f, hf, rfl⟩ := List.mem_map.1 he <;> have := h f hf <;> simp only [toLk, bkLk] <;> omega
theorem reach_run {n : Gr} (h : inG n) {i : Int} (h0 : 0 ≤ i ∧ i < n.ns.length) {b : Nat} : gt (reachF n i) b = true ↔ runR (dirL n false) i b := by
  have hl := dir_in h false
  have he : dirL n false = n.fs.map toLk := by simp [dirL]
  rw [he] at hl ⊢
  constructor
  · intro hg u hu hi
    exact iterL_sub (u := u) hl hu n.ns.length _ (by simp) (sub_set (sub_rep _ u) (by rwa [Int.toNat_of_nonneg h0.1])) b hg
  · intro hr
    have := hr (fun k => gb (reachF n i) k = true) (fun e he hg => iterL_closed hl n.ns.length _ (by simp) (by refine Nat.le_trans (cf_le _) ?_; simp) e he hg) (by
      rw [gb, reachF]
      exact iterL_mono _ _ _ _ (by rw [gt_set _ _ _ _ (by simp; omega), if_pos rfl]))
    simpa [gb] using this
theorem nexts_mem {n : Gr} {i x : Int} {back : Bool} : x ∈ nexts n i back ↔ ∃ e ∈ dirL n back, e.src = i ∧ e.dst = x := by
  unfold nexts dirL
  rw [List.mem_filterMap]
  constructor
  · rintro ⟨f, hf, hx⟩
    unfold nextF at hx
    split at hx <;> split at hx <;> cases hx
    · rename_i hb _; exact ⟨bkLk f, by rw [if_pos hb]; exact List.mem_map.2 ⟨f, hf, rfl⟩, ‹_›, rfl⟩
    · rename_i hb _; exact ⟨toLk f, by rw [if_neg hb]; exact List.mem_map.2 ⟨f, hf, rfl⟩, ‹_›, rfl⟩
  · rintro ⟨e, he, h1, h2⟩
    split at he <;> obtain ⟨f, hf, rfl⟩ := List.mem_map.1 he
    · rename_i hb; exact ⟨f, hf, by simp only [bkLk] at h1 h2; rw [nextF, if_pos hb, if_pos h1, h2]⟩
    · rename_i hb; exact ⟨f, hf, by simp only [toLk] at h1 h2; rw [nextF, if_neg hb, if_pos h1, h2]⟩
theorem met_sub {n : Gr} {back : Bool} {u : Int → Prop} (hi : inG n) (hu : ∀ e ∈ dirL n back, u e.src → u e.dst) : ∀ (k : Nat) (s : List Bool) (t : List Int), (∀ i ∈ t, 0 ≤ i ∧ u i) → Sub s u → Sub (metN n back k s t) u
  | 0, s, _, _, h => h
  | _ + 1, s, [], _, h => h
  | k + 1, s, i :: t, ht, h => by
    rw [metN]
    have h0 := ht i (by simp)
    split
    · exact met_sub hi hu k s t (fun j hj => ht j (by simp [hj])) h
    · refine met_sub hi hu k _ _ (fun j hj => ?_) (sub_set h (by rw [Int.toNat_of_nonneg h0.1]; exact h0.2))
      rcases List.mem_append.1 hj with hj | hj
      · exact ht j (by simp [hj])
      · obtain ⟨e, he, h1, h2⟩ := nexts_mem.1 hj
        have hb := dir_in hi back e he
        subst h2
        exact ⟨hb.2.2.1, hu e he (by rw [h1]; exact h0.2)⟩
theorem met_cl {n : Gr} {back : Bool} (hi : inG n) : ∀ (k : Nat) (s : List Bool) (t : List Int), s.length = n.ns.length → (∀ i ∈ t, 0 ≤ i ∧ i < n.ns.length) → meas n s t ≤ k → (∀ e ∈ dirL n back, gb s e.src = true → gb s e.dst = true ∨ e.dst ∈ t) →
    (∀ j, gt s j = true → gt (metN n back k s t) j = true) ∧ (∀ i ∈ t, gb (metN n back k s t) i = true) ∧ ∀ e ∈ dirL n back, gb (metN n back k s t) e.src = true → gb (metN n back k s t) e.dst = true
  | 0, s, t, hs, ht, hm, hc => by
    have : t = [] := by cases t with | nil => rfl | cons => simp [meas] at hm
    subst this
    exact ⟨fun j h => h, by simp, fun e he hg => by have := hc e he (by simpa [metN] using hg); simpa [metN] using this⟩
  | _ + 1, s, [], hs, ht, hm, hc => ⟨fun j h => h, by simp, fun e he hg => by have := hc e he (by simpa [metN] using hg); simpa [metN] using this⟩
  | k + 1, s, i :: t, hs, ht, hm, hc => by
    have h0 := ht i (by simp)
    rw [metN]
    split
    · rename_i hh
      have hg : gb s i = true := by rcases hh with hh | hh; exfalso; omega; exact hh
      have := met_cl hi k s t hs (fun j hj => ht j (by simp [hj])) (by simp only [meas, List.length_cons] at hm ⊢; omega) (fun e he hq => by
        rcases hc e he hq with h | h
        · exact .inl h
        · rcases List.mem_cons.1 h with h | h
          · exact .inl (by rw [h]; exact hg)
          · exact .inr h)
      exact ⟨this.1, fun j hj => by
        rcases List.mem_cons.1 hj with rfl | hj
        · exact this.1 _ hg
        · exact this.2.1 j hj, this.2.2⟩
    · rename_i hh
      have hst : ∀ j, gt (s.set i.toNat true) j = if i.toNat = j then true else gt s j := fun j => gt_set _ _ _ _ (by omega)
      have := met_cl hi k (s.set i.toNat true) (t ++ nexts n i back) (by simpa using hs) (fun j hj => by
        rcases List.mem_append.1 hj with hj | hj
        · exact ht j (by simp [hj])
        · obtain ⟨e, he, h1, h2⟩ := nexts_mem.1 hj
          have hb := dir_in hi back e he
          omega) (by have := meas_step (n := n) (back := back) (t := t) hh; simp only [meas, List.length_cons] at hm this ⊢; omega) (fun e he hq => by
        have hb := dir_in hi back e he
        rw [gb, hst] at hq
        by_cases hei : e.src = i
        · exact .inr (List.mem_append.2 (.inr (nexts_mem.2 ⟨e, he, hei, rfl⟩)))
        · rw [if_neg (by omega)] at hq
          rcases hc e he hq with h | h
          · exact .inl (by rw [gb, hst]; split; rfl; exact h)
          · rcases List.mem_cons.1 h with h | h
            · exact .inl (by rw [gb, hst, if_pos (by omega)])
            · exact .inr (List.mem_append.2 (.inl h)))
      have hj0 : gt (s.set i.toNat true) i.toNat = true := by rw [hst, if_pos rfl]
      exact ⟨fun j hj => this.1 j (gt_mono _ _ _ hj), fun j hj => by
        rcases List.mem_cons.1 hj with rfl | hj
        · exact this.1 _ hj0
        · exact this.2.1 j (List.mem_append.2 (.inl hj)), this.2.2⟩
theorem met_run {n : Gr} (h : inG n) {i : Int} (h0 : 0 ≤ i ∧ i < n.ns.length) {back : Bool} {b : Nat} : gt (metF n i back) b = true ↔ runR (dirL n back) i b := by
  constructor
  · intro hg u hu hi
    exact met_sub h hu _ _ _ (fun j hj => by rw [List.mem_singleton] at hj; subst hj; exact ⟨h0.1, hi⟩) (sub_rep _ u) b hg
  · intro hr
    have := met_cl (back := back) h (n.ns.length * (n.fs.length + 1) + 1) (List.replicate n.ns.length false) [i] (by simp) (by simpa using h0) (by simp [meas, cf_rep]) (fun e he hg => by
      exfalso
      have hl := gt_lt hg
      rw [gb, show gt (List.replicate n.ns.length false) e.src.toNat = false by unfold gt; rw [List.getD_eq_getElem?_getD, List.getElem?_replicate]; split <;> rfl] at hg; cases hg)
    have := hr (fun k => gb (metF n i back) k = true) this.2.2 (this.2.1 i (by simp))
    simpa [gb] using this
theorem run_back {n : Gr} {a b : Int} : runR (dirL n true) a b ↔ runR (dirL n false) b a := by
  constructor
  · intro h u hu hb
    refine Classical.byContradiction fun hn => ?_
    refine h (fun k => ¬ u k) (fun e he hs hd => ?_) hn hb
    simp only [dirL, ↓reduceIte] at he
    obtain ⟨f, hf, rfl⟩ := List.mem_map.1 he
    exact hs (hu (toLk f) (by simp only [dirL, Bool.false_eq_true, ↓reduceIte]; exact List.mem_map.2 ⟨f, hf, rfl⟩) hd)
  · intro h u hu hb
    refine Classical.byContradiction fun hn => ?_
    refine h (fun k => ¬ u k) (fun e he hs hd => ?_) hn hb
    simp only [dirL, Bool.false_eq_true, ↓reduceIte] at he
    obtain ⟨f, hf, rfl⟩ := List.mem_map.1 he
    exact hs (hu (bkLk f) (by simp only [dirL, ↓reduceIte]; exact List.mem_map.2 ⟨f, hf, rfl⟩) hd)
def firstR (r : Int) (p : Nat → Bool) (k : Int × Int) : List Nat → Int × Int
  | [] => k
  | i :: l => if p i = true then (r, i) else firstR r p k l
theorem firstR_0 {r : Int} (hr : r ≠ 0) (p : Nat → Bool) (k : Int × Int) : ∀ l : List Nat, (firstR r p k l).1 = 0 ↔ (∀ i ∈ l, p i = false) ∧ k.1 = 0
  | [] => by simp [firstR]
  | i :: l => by
    rw [firstR]
    split
    · rename_i h; constructor
      · intro h1; exact absurd h1 hr
      · rintro ⟨h1, _⟩; rw [h1 i (by simp)] at h; cases h
    · rename_i h
      rw [firstR_0 hr p k l]
      simp [h]
theorem firstR_t {r : Int} {p : Nat → Bool} {k : Int × Int} {n j : Nat} (h : j < n) (hp : p j = true) : firstR r p k (List.range' j (n - j)) = (r, (j : Int)) := by
  rw [show n - j = (n - (j + 1)) + 1 by omega, List.range'_succ, firstR, if_pos hp]
theorem firstR_f {r : Int} {p : Nat → Bool} {k : Int × Int} {n j : Nat} (h : j < n) (hp : p j = false) : firstR r p k (List.range' j (n - j)) = firstR r p k (List.range' (j + 1) (n - (j + 1))) := by
  rw [show n - j = (n - (j + 1)) + 1 by omega, List.range'_succ, firstR, if_neg (by simp [hp])]
def bad3 (n : Gr) (j : Nat) : Bool := !fitsF n j || (decide ((gt n.ns j).kind = 1) && decide ((j : Int) > startF n)) || (decide ((gt n.ns j).kind = 2) && decide ((j : Int) > endF n))
def bad4 (n : Gr) (j : Nat) : Bool := !gt (reachF n (startF n)) j || !gb (reachF n j) (endF n)
def rChk5 (n : Gr) : Int × Int := if n.ns.length > 24 ∨ n.fs.length > 40 then (1, 0) else
  firstR 1 (fun j => !rightN (gt n.ns j)) (firstR 2 (fun j => !leadsF n (gt n.fs j)) (firstR 3 (bad3 n) (if startF n < 0 ∨ endF n < 0 then (3, n.ns.length) else firstR 4 (bad4 n) (0, 0) (List.range' 0 n.ns.length)) (List.range' 0 n.ns.length)) (List.range' 0 n.fs.length)) (List.range' 0 n.ns.length)
theorem all_range {n : Nat} {p : Nat → Bool} : (∀ i ∈ List.range' 0 n, p i = false) ↔ ∀ i, i < n → p i = false := by
  constructor
  · intro h i hi; exact h i (List.mem_range'.2 ⟨i, hi, by omega⟩)
  · intro h i hi; obtain ⟨j, hj, rfl⟩ := List.mem_range'.1 hi; exact h _ (by omega)
theorem plF_0 {r : Int} {m : Nat} {p : Nat → Bool} : (plF r m p).length = 0 ↔ ∀ j, j < m → p j = false := ⟨plF_nil, fun h => by
  rw [plF, plc, List.length_map, List.length_eq_zero_iff, List.filter_eq_nil_iff]
  intro a ha
  have := all_range.2 h a ha
  simp [this]⟩
def headC (l : List Lk) : Int := match l with | [] => 0 | e :: _ => e.src
theorem headC_0 {l : List Lk} (h : ∀ e ∈ l, e.src ≠ 0) : headC l = 0 ↔ l.length = 0 := by
  cases l with
  | nil => simp [headC]
  | cons e l => simp only [headC, List.length_cons]; exact ⟨fun h1 => absurd h1 (h e (by simp)), fun h1 => by omega⟩
theorem plF_src {r : Int} {m : Nat} {p : Nat → Bool} (hr : r ≠ 0) : ∀ e ∈ plF r m p, e.src ≠ 0 := fun e he => by
  unfold plF plc at he
  obtain ⟨i, _, rfl⟩ := List.mem_map.1 he
  exact hr
theorem checkN_head (n : Gr) : (checkN n).1 = headC (allF n) := by unfold checkN headC; cases allF n <;> rfl
theorem idxF_spec {α : Type} [Inhabited α] (p : α → Bool) : ∀ (l : List α) (i : Nat), idxF p l i = -1 ∧ (∀ j, j < l.length → p (gt l j) = false) ∨ ∃ j, idxF p l i = (i + j : Nat) ∧ j < l.length ∧ p (gt l j) = true ∧ ∀ k, k < j → p (gt l k) = false
  | [], i => .inl ⟨rfl, by simp⟩
  | x :: l, i => by
    rw [idxF]
    by_cases h : p x = true
    · rw [if_pos h]; exact .inr ⟨0, rfl, by simp, by simpa [gt] using h, by simp⟩
    · rw [if_neg h]
      rcases idxF_spec p l (i + 1) with ⟨h1, h2⟩ | ⟨j, h1, h2, h3, h4⟩
      · refine .inl ⟨h1, fun j hj => ?_⟩
        cases j with
        | zero => simpa [gt] using h
        | succ j => have := h2 j (by simpa using hj); simpa [gt] using this
      · refine .inr ⟨j + 1, by rw [h1]; omega, by simpa using h2, by simpa [gt] using h3, fun k hk => ?_⟩
        cases k with
        | zero => simpa [gt] using h
        | succ k => have := h4 k (by omega); simpa [gt] using this
theorem idx_ne {n : Gr} {k : Int} {j : Nat} (hj : j < n.ns.length) (hk : (gt n.ns j).kind = k) : (j : Int) > idxF (fun d : Nd => decide (d.kind = k)) n.ns 0 ↔ (j : Int) ≠ idxF (fun d : Nd => decide (d.kind = k)) n.ns 0 := by
  rcases idxF_spec (fun d : Nd => decide (d.kind = k)) n.ns 0 with ⟨h1, h2⟩ | ⟨i, h1, h2, h3, h4⟩
  · have := h2 j hj; simp [hk] at this
  · rw [h1]
    have : i ≤ j := by
      refine Classical.byContradiction fun hn => ?_
      have := h4 j (by omega); simp [hk] at this
    omega
theorem bad3_eq (n : Gr) {j : Nat} (hj : j < n.ns.length) : bad3 n j = third1F n (startF n) (endF n) j := by
  unfold bad3 third1F startF endF
  congr 1
  · congr 1
    by_cases h : (gt n.ns j).kind = 1
    · rw [decide_eq_decide.2 (idx_ne hj h)]
    · simp [h]
  · by_cases h : (gt n.ns j).kind = 2
    · rw [decide_eq_decide.2 (idx_ne hj h)]
    · simp [h]
theorem bad4_eq {n : Gr} (h : inG n) (hs : 0 ≤ startF n ∧ startF n < n.ns.length) (he : 0 ≤ endF n ∧ endF n < n.ns.length) {j : Nat} (hj : j < n.ns.length) : bad4 n j = unmetF n j := by
  have e1 : gt (reachF n (startF n)) j = gt (metF n (startF n) false) j := by
    rw [Bool.eq_iff_iff, reach_run h hs, met_run h hs]
  have e2 : gb (reachF n j) (endF n) = gt (metF n (endF n) true) j := by
    rw [Bool.eq_iff_iff, gb, reach_run h (by omega), met_run h he, run_back, Int.toNat_of_nonneg he.1]
  rw [bad4, unmetF, e1, e2]
theorem chk5_eq (n : Gr) : (rChk5 n).1 = 0 ↔ (checkN n).1 = 0 := by
  rw [checkN_head, rChk5, allF]
  by_cases h0 : n.ns.length > 24 ∨ n.fs.length > 40
  · rw [if_pos h0, if_pos h0]; simp [headC]
  rw [if_neg h0, if_neg h0, firstR_0 (by decide), firstR_0 (by decide), firstR_0 (by decide), all_range, all_range, all_range]
  by_cases h1 : (plF 1 n.ns.length fun j => !rightN (gt n.ns j)).length > 0
  · rw [if_pos h1, headC_0 (plF_src (by decide))]
    rw [← plF_0 (r := 1)]
    constructor
    · rintro ⟨h, _⟩; omega
    · intro h; omega
  rw [if_neg h1]
  by_cases h2 : (plF 2 n.fs.length fun j => !leadsF n (gt n.fs j)).length > 0
  · rw [if_pos h2, headC_0 (plF_src (by decide))]
    rw [← plF_0 (r := 2) (m := n.fs.length)]
    constructor
    · rintro ⟨_, h, _⟩; omega
    · intro h; omega
  rw [if_neg h2]
  have hI : inG n := fun f hf => by
    obtain ⟨k, hk, rfl⟩ := List.getElem_of_mem hf
    have := plF_nil (show (plF 2 n.fs.length fun j => !leadsF n (gt n.fs j)).length = 0 by omega) k hk
    rw [show gt n.fs k = n.fs[k] by simp [gt, List.getD, hk]] at this
    simp only [Bool.not_eq_false', leadsF, Bool.and_eq_true, inR, decide_eq_true_eq] at this
    omega
  have e3 : (∀ i, i < n.ns.length → bad3 n i = false) ↔ ∀ i, i < n.ns.length → third1F n (startF n) (endF n) i = false := ⟨fun h i hi => by rw [← bad3_eq n hi]; exact h i hi, fun h i hi => by rw [bad3_eq n hi]; exact h i hi⟩
  have g1 := plF_nil (show (plF 1 n.ns.length fun j => !rightN (gt n.ns j)).length = 0 by omega)
  have g2 := plF_nil (show (plF 2 n.fs.length fun j => !leadsF n (gt n.fs j)).length = 0 by omega)
  have ht : (thirdF n).length = 0 ↔ (∀ i, i < n.ns.length → third1F n (startF n) (endF n) i = false) ∧ ¬ (startF n < 0 ∨ endF n < 0) := by
    rw [thirdF, List.length_append, ← plF_0 (r := 3)]
    split <;> simp_all
  have hts : ∀ e ∈ thirdF n, e.src ≠ 0 := fun e he => by
    rw [thirdF] at he
    rcases List.mem_append.1 he with he | he
    · exact plF_src (by decide) e he
    · split at he
      · rw [List.mem_singleton] at he; subst he; simp
      · simp at he
  by_cases h3 : (thirdF n).length > 0
  · rw [if_pos h3, headC_0 hts]
    constructor
    · rintro ⟨_, _, h, hk⟩
      by_cases hse : startF n < 0 ∨ endF n < 0
      · rw [if_pos hse] at hk; cases hk
      · exact ht.2 ⟨e3.1 h, hse⟩
    · intro h; omega
  rw [if_neg h3, headC_0 (plF_src (by decide)), plF_0]
  obtain ⟨h4, h5⟩ := ht.1 (by omega)
  rw [if_neg h5, firstR_0 (by decide), all_range]
  have hs1 := idxF_lt (fun d : Nd => decide (d.kind = 1)) n.ns 0
  have he1 := idxF_lt (fun d : Nd => decide (d.kind = 2)) n.ns 0
  have hs : 0 ≤ startF n ∧ startF n < n.ns.length := ⟨by omega, by unfold startF; omega⟩
  have he : 0 ≤ endF n ∧ endF n < n.ns.length := ⟨by omega, by unfold endF; omega⟩
  constructor
  · rintro ⟨_, _, _, h, _⟩ j hj
    rw [← bad4_eq hI hs he hj]; exact h j hj
  · intro h
    exact ⟨g1, g2, e3.2 h4, fun j hj => by rw [bad4_eq hI hs he hj]; exact h j hj, rfl⟩
end Go.Eng
open Go Go.Proofs
namespace Go.Eng
set_option linter.unusedSimpArgs false
set_option linter.unusedVariables false
set_option maxRecDepth 10000
set_option maxHeartbeats 8000000
theorem rOf5_ok (t : T) (k : Int) (hs : t.size < 4611686018427387904) : AFn env 81 [t.a, aI k] [] (aB (ofF t k)) [] := by
  refine afn_body Tryz.func81 rfl (by decide) ?_
  simp only [Tryz.ntmps81, Tryz.results81, List.length_cons, List.length_nil, List.cons_append, List.nil_append, Nat.reduceAdd, Nat.reduceSub, List.replicate]
  repeat' first
  | ((with_reducible refine awp_seqQ ?_); intro _ _)
  | ((with_reducible refine awp_region ?_); refine zS ?_)
  | ((with_reducible refine Gd_d ?_ ?_) <;> intro hb hb2 <;> first | contradiction | (exfalso; omega) | (refine zH hb2 ?_; try clear hb2))
  | ((with_reducible refine CallK_id ?_); refine zcF ?_; refine ⟨_, by first | exact rCheckT_ok t hs | fail, fun _ => rfl, fun _ => rfl, rfl, ?_⟩; try refine zS ?_)
  | ((with_reducible refine awp_ret ?_); refine q_step (by assumption) ?_)
  | with_reducible refine fin_r ?_
  | ((with_reducible refine q_step (by assumption) ?_); try refine zS ?_)
  all_goals simp [go_sem, ofF, *]
theorem rNone5_ok (t : T) : AFn env 82 [t.a] [] (aB (noneF t)) [] := by
  refine afn_body Tryz.func82 rfl (by decide) ?_
  simp only [Tryz.ntmps82, Tryz.results82, List.length_cons, List.length_nil, List.cons_append, List.nil_append, Nat.reduceAdd, Nat.reduceSub, List.replicate]
  repeat' first
  | ((with_reducible refine awp_seqQ ?_); intro _ _)
  | ((with_reducible refine awp_region ?_); refine zS ?_)
  | ((with_reducible refine Gd_d ?_ ?_) <;> intro hb hb2 <;> first | contradiction | (exfalso; omega) | (refine zH hb2 ?_; try clear hb2))
  | ((with_reducible refine awp_ret ?_); refine q_step (by assumption) ?_)
  | with_reducible refine fin_r ?_
  | ((with_reducible refine q_step (by assumption) ?_); try refine zS ?_)
  all_goals simp [go_sem, noneF, *]
  all_goals omega
theorem rOne_ok (d : Nd) (hs : d.t.size < 4611686018427387904) : AFn env 58 [d.a] [] (aB (rightN d)) [] := by
  refine afn_body Tryz.func58 rfl (by decide) ?_
  simp only [Tryz.ntmps58, Tryz.results58, List.length_cons, List.length_nil, List.cons_append, List.nil_append, Nat.reduceAdd, Nat.reduceSub, List.replicate]
  repeat' first
  | ((with_reducible refine awp_seqQ ?_); intro _ _)
  | ((with_reducible refine awp_region ?_); refine zS ?_)
  | ((with_reducible refine Gd_nd ?_ ?_) <;> intro hb hb2 <;> first | contradiction | (exfalso; omega) | (refine zH hb2 ?_; try clear hb2))
  | ((with_reducible refine Gd_d ?_ ?_) <;> intro hb hb2 <;> first | contradiction | (exfalso; omega) | (refine zH hb2 ?_; try clear hb2))
  | ((with_reducible refine AWP_c ?_); refine zcdT ?_)
  | ((with_reducible refine AWP_c ?_); refine zcdD ?_ ?_ <;> intro hb hb2 <;> first | contradiction | (exfalso; omega) | ((try refine zH hb2 ?_); try clear hb2))
  | ((with_reducible refine awp_skip ?_); try refine zS ?_)
  | ((with_reducible refine CallK_id ?_); refine zcF ?_; refine ⟨_, by first | exact rOf5_ok d.t 1 hs | exact rNone5_ok d.t | fail, fun _ => rfl, fun _ => rfl, rfl, ?_⟩; try refine zS ?_)
  | ((with_reducible refine awp_ret ?_); refine q_step (by assumption) ?_)
  | with_reducible refine fin_r ?_
  | ((with_reducible refine q_step (by assumption) ?_); try refine zS ?_)
  all_goals first | (rw [rightN]; simp [go_sem, mostF, noneF, *]; done) | (rw [rightN]; simp [go_sem, mostF, noneF, *]; omega) | (rw [show rightN d = false by (rw [rightN]; simp only [Bool.and_eq_false_iff, Bool.or_eq_false_iff, decide_eq_false_iff_not]; omega)]) | (rw [rightN]; simp [go_sem, mostF, noneF]; omega) | trace_state
theorem rFirst_ok (n : Gr) (k : Int) (hl : n.ns.length < 4611686018427387904) : AFn env 60 [n.a, aI k] [] (aI (idxF (fun d : Nd => decide (d.kind = k)) n.ns 0)) [] := by
  refine afn_body Tryz.func60 rfl (by decide) ?_
  simp only [Tryz.ntmps60, Tryz.results60, List.length_cons, List.length_nil, List.cons_append, List.nil_append, Nat.reduceAdd, Nat.reduceSub, List.replicate]
  repeat' first
  | ((with_reducible refine awp_seqQ ?_); intro _ _)
  | ((with_reducible refine awp_region ?_); refine zS ?_)
  | with_reducible refine awp_block ?_
  refine awp_loopT (fun i : Nat => i ≤ n.ns.length ∧ idxF (fun d : Nd => decide (d.kind = k)) n.ns 0 = idxF (fun d : Nd => decide (d.kind = k)) (n.ns.drop i) i) (fun i => n.ns.length - i) (fun i => [(10, aI i)]) (fun _ => [some (.box n.bs)]) 0 ⟨by omega, rfl⟩ zwl ?_
  rintro i ⟨h1, h2⟩
  refine zT ?_
  repeat' first
  | ((with_reducible refine awp_seqQ ?_); intro _ _)
  | ((with_reducible refine awp_region ?_); refine zS ?_)
  | ((with_reducible refine AWP_c ?_); refine zcdD ?_ ?_ <;> intro hb hb2 <;> first | contradiction | (exfalso; omega) | ((try refine zH hb2 ?_); try clear hb2))
  | ((with_reducible refine awp_skip ?_); try refine zS ?_)
  | with_reducible refine awp_block ?_
  | ((with_reducible refine awp_exit ?_); try refine zS ?_)
  | ((with_reducible refine awp_ret ?_); refine q_step (by assumption) ?_)
  | with_reducible refine fin_r ?_
  | ((with_reducible refine q_step (by assumption) ?_); try refine zS ?_)
  · rw [h2, drop_gt (by omega), idxF, if_pos (by simp [*])]
  · exact ⟨i + 1, ⟨by omega, by rw [h2, drop_gt (by omega), idxF, if_neg (by simp [*])]⟩, by omega, zwc 1⟩
  · rw [h2, List.drop_eq_nil_of_le (by omega), idxF]
theorem rOuts_ok (n : Gr) (i : Int) (hl : n.fs.length < 1000000000000) : AFn env 83 [n.a, aI i] [] (aF ((outsF n i).map iRow)) [] := by
  refine afn_body Tryz.func83 rfl (by decide) ?_
  simp only [Tryz.ntmps83, Tryz.results83, List.length_cons, List.length_nil, List.cons_append, List.nil_append, Nat.reduceAdd, Nat.reduceSub, List.replicate]
  iterate 2 (refine awp_seq ?_; refine awp_region ?_; refine zS ?_)
  refine awp_wk (wk_virt none (i := 5) (s := 1) (by decide) rfl) ?_
  refine zT ?_
  repeat' first
  | ((with_reducible refine awp_seqQ ?_); intro _ _)
  | ((with_reducible refine awp_region ?_); refine zS ?_)
  | with_reducible refine awp_block ?_
  refine awp_loopT (fun z : Nat × List Int => z.1 ≤ n.fs.length ∧ z.2 ++ idxs (fun f => decide (f.src = i)) (n.fs.drop z.1) z.1 = outsF n i ∧ z.2.length ≤ z.1) (fun z => n.fs.length - z.1) (fun z => [(5, OwnK 1 z.2.length), (11, aI z.1)]) (fun z => [some (.box n.bs), RwG z.2]) (0, []) ⟨by simp, by simp [outsF], by simp⟩ zwl ?_
  rintro ⟨j, o⟩ ⟨h1, h2, h3⟩
  simp only at h1 h2 h3
  refine zT ?_
  repeat' first
  | ((with_reducible refine awp_seqQ ?_); intro _ _)
  | ((with_reducible refine awp_region ?_); refine zS ?_)
  | ((with_reducible refine AWP_c ?_); refine zcdD ?_ ?_ <;> intro hb hb2 <;> first | contradiction | (exfalso; omega) | ((try refine zH hb2 ?_); try clear hb2))
  | ((with_reducible refine awp_skip ?_); try refine zS ?_)
  | with_reducible refine awp_block ?_
  | ((with_reducible refine awp_exit ?_); try refine zS ?_)
  | ((with_reducible refine awp_ret ?_); refine q_step (by assumption) ?_)
  | ((with_reducible refine q_step (by assumption) ?_); try refine zS ?_)
  · exact ⟨(j + 1, o ++ [(j : Int)]), ⟨by simp only; omega, by rw [← h2, drop_gt (l := n.fs) (i := j) (by omega), idxs, if_pos (by simp [*])]; simp, by simp; omega⟩, by simp only; omega, wk_cl 2 (by decide) (by simp) (by simp only [go_sem, Bool.not_not, List.mem_singleton, forall_eq, ↓reduceIte, if_pos, rowsAt_map, wrap64, wrapu8, List.getElem?_cons_zero, List.getElem?_cons_succ, Int.reduceToNat, Nat.reduceAdd, Nat.reduceBEq, Bool.or_false, Bool.false_or, Bool.true_or, Nat.reduceSub, Nat.reduceMul, Int.reduceAdd, Int.reduceEq, Int.reduceLT, Int.reduceLE, Int.reduceNeg, Nat.reduceLT, Nat.reduceLeDiff, Nat.reduceEqDiff]; try simp) (by simp only [go_sem, Bool.not_not, List.mem_singleton, forall_eq, ↓reduceIte, if_pos, rowsAt_map, wrap64, wrapu8, List.getElem?_cons_zero, List.getElem?_cons_succ, Int.reduceToNat, Nat.reduceAdd, Nat.reduceBEq, Bool.or_false, Bool.false_or, Bool.true_or, Nat.reduceSub, Nat.reduceMul, Int.reduceAdd, Int.reduceEq, Int.reduceLT, Int.reduceLE, Int.reduceNeg, Nat.reduceLT, Nat.reduceLeDiff, Nat.reduceEqDiff, List.map_append]; try simp [go_sem])⟩
  · exact ⟨(j + 1, o), ⟨by simp only; omega, by rw [← h2, drop_gt (l := n.fs) (i := j) (by omega), idxs, if_neg (by simp [*])], by simp only; omega⟩, by simp only; omega, zwc 2⟩
  refine fin_r ?_
  rw [List.drop_eq_nil_of_le (by omega), idxs, List.append_nil] at h2
  rw [h2]
theorem rIns_ok (n : Gr) (i : Int) (hl : n.fs.length < 1000000000000) : AFn env 84 [n.a, aI i] [] (aF ((insF n i).map iRow)) [] := by
  refine afn_body Tryz.func84 rfl (by decide) ?_
  simp only [Tryz.ntmps84, Tryz.results84, List.length_cons, List.length_nil, List.cons_append, List.nil_append, Nat.reduceAdd, Nat.reduceSub, List.replicate]
  iterate 2 (refine awp_seq ?_; refine awp_region ?_; refine zS ?_)
  refine awp_wk (wk_virt none (i := 5) (s := 1) (by decide) rfl) ?_
  refine zT ?_
  repeat' first
  | ((with_reducible refine awp_seqQ ?_); intro _ _)
  | ((with_reducible refine awp_region ?_); refine zS ?_)
  | with_reducible refine awp_block ?_
  refine awp_loopT (fun z : Nat × List Int => z.1 ≤ n.fs.length ∧ z.2 ++ idxs (fun f => decide (f.dst = i)) (n.fs.drop z.1) z.1 = insF n i ∧ z.2.length ≤ z.1) (fun z => n.fs.length - z.1) (fun z => [(5, OwnK 1 z.2.length), (11, aI z.1)]) (fun z => [some (.box n.bs), RwG z.2]) (0, []) ⟨by simp, by simp [insF], by simp⟩ zwl ?_
  rintro ⟨j, o⟩ ⟨h1, h2, h3⟩
  simp only at h1 h2 h3
  refine zT ?_
  repeat' first
  | ((with_reducible refine awp_seqQ ?_); intro _ _)
  | ((with_reducible refine awp_region ?_); refine zS ?_)
  | ((with_reducible refine AWP_c ?_); refine zcdD ?_ ?_ <;> intro hb hb2 <;> first | contradiction | (exfalso; omega) | ((try refine zH hb2 ?_); try clear hb2))
  | ((with_reducible refine awp_skip ?_); try refine zS ?_)
  | with_reducible refine awp_block ?_
  | ((with_reducible refine awp_exit ?_); try refine zS ?_)
  | ((with_reducible refine awp_ret ?_); refine q_step (by assumption) ?_)
  | ((with_reducible refine q_step (by assumption) ?_); try refine zS ?_)
  · exact ⟨(j + 1, o ++ [(j : Int)]), ⟨by simp only; omega, by rw [← h2, drop_gt (l := n.fs) (i := j) (by omega), idxs, if_pos (by simp [*])]; simp, by simp; omega⟩, by simp only; omega, wk_cl 2 (by decide) (by simp) (by simp only [go_sem, Bool.not_not, List.mem_singleton, forall_eq, ↓reduceIte, if_pos, rowsAt_map, wrap64, wrapu8, List.getElem?_cons_zero, List.getElem?_cons_succ, Int.reduceToNat, Nat.reduceAdd, Nat.reduceBEq, Bool.or_false, Bool.false_or, Bool.true_or, Nat.reduceSub, Nat.reduceMul, Int.reduceAdd, Int.reduceEq, Int.reduceLT, Int.reduceLE, Int.reduceNeg, Nat.reduceLT, Nat.reduceLeDiff, Nat.reduceEqDiff]; try simp) (by simp only [go_sem, Bool.not_not, List.mem_singleton, forall_eq, ↓reduceIte, if_pos, rowsAt_map, wrap64, wrapu8, List.getElem?_cons_zero, List.getElem?_cons_succ, Int.reduceToNat, Nat.reduceAdd, Nat.reduceBEq, Bool.or_false, Bool.false_or, Bool.true_or, Nat.reduceSub, Nat.reduceMul, Int.reduceAdd, Int.reduceEq, Int.reduceLT, Int.reduceLE, Int.reduceNeg, Nat.reduceLT, Nat.reduceLeDiff, Nat.reduceEqDiff, List.map_append]; try simp [go_sem])⟩
  · exact ⟨(j + 1, o), ⟨by simp only; omega, by rw [← h2, drop_gt (l := n.fs) (i := j) (by omega), idxs, if_neg (by simp [*])], by simp only; omega⟩, by simp only; omega, zwc 2⟩
  refine fin_r ?_
  rw [List.drop_eq_nil_of_le (by omega), idxs, List.append_nil] at h2
  rw [h2]
theorem rTwo_ok (n : Gr) (f : Fl) (hs : f.t.size < 4611686018427387904) (hn : n.ns.length < 1000000000000) (hf : n.fs.length < 1000000000000) : AFn env 59 [n.a, f.a] [] (aB (leadsF n f)) [] := by
  have hol : (outsF n f.src).length ≤ n.fs.length := idxs_len _ n.fs 0
  refine afn_body Tryz.func59 rfl (by decide) ?_
  simp only [Tryz.ntmps59, Tryz.results59, List.length_cons, List.length_nil, List.cons_append, List.nil_append, Nat.reduceAdd, Nat.reduceSub, List.replicate]
  repeat' first
  | ((with_reducible refine awp_seqQ ?_); intro _ _)
  | ((with_reducible refine awp_region ?_); refine zS ?_)
  | ((with_reducible refine Gd_nd ?_ ?_) <;> intro hb hb2 <;> first | contradiction | (exfalso; omega) | (refine zH hb2 ?_; try clear hb2))
  | ((with_reducible refine Gd_d ?_ ?_) <;> intro hb hb2 <;> first | contradiction | (exfalso; omega) | (refine zH hb2 ?_; try clear hb2))
  | ((with_reducible refine Gd_b ?_ ?_) <;> intro hb <;> first | contradiction | refine zH hb ?_)
  | ((with_reducible refine AWP_c ?_); refine zcdT ?_)
  | ((with_reducible refine AWP_c ?_); refine zcdF ?_)
  | ((with_reducible refine AWP_c ?_); refine zcdD ?_ ?_ <;> intro hb hb2 <;> first | contradiction | (exfalso; omega) | ((try refine zH hb2 ?_); try clear hb2))
  | ((with_reducible refine AWP_c ?_); refine zcdM ?_ ?_ <;> intro hb <;> first | contradiction | (try refine zH hb ?_))
  | ((with_reducible refine awp_skip ?_); try refine zS ?_)
  | ((with_reducible refine CallK_id ?_); refine zcF ?_; refine ⟨_, by first | exact rOf5_ok f.t 2 hs | exact rNone5_ok f.t | exact rOuts_ok n f.src hf | fail, fun _ => rfl, fun _ => rfl, rfl, ?_⟩; try refine zS ?_)
  | ((with_reducible refine awp_ret ?_); refine q_step (by assumption) ?_)
  | with_reducible refine fin_r ?_
  | ((with_reducible refine q_step (by assumption) ?_); try refine zS ?_)
  all_goals first | (simp [go_sem, leadsF, inR, *]; done) | (simp [go_sem, leadsF, inR, *]; omega) | (rw [leadsF, show inR n.ns.length f.src = true by (simp [inR]; omega), show inR n.ns.length f.dst = true by (simp [inR]; omega), decide_eq_true (p := f.src ≠ f.dst) (by omega), if_neg (by omega)]; simp [go_sem, *]; done) | (rw [leadsF, show inR n.ns.length f.src = true by (simp [inR]; omega), show inR n.ns.length f.dst = true by (simp [inR]; omega), decide_eq_true (p := f.src ≠ f.dst) (by omega), if_pos (by omega)]; simp [go_sem, *]; done) | trace_state
end Go.Eng
open Go Go.Proofs
namespace Go.Eng
set_option linter.unusedSimpArgs false
set_option linter.unusedVariables false
set_option maxRecDepth 10000
set_option maxHeartbeats 8000000
def othF (n : Gr) : List Int → Int
  | [] => 0
  | o :: l => (if (gt n.ns (gt n.fs o.toNat).dst.toNat).kind ≠ 8 then 1 else 0) + othF n l
theorem othF_le (n : Gr) : ∀ l : List Int, 0 ≤ othF n l ∧ othF n l ≤ l.length
  | [] => by simp [othF]
  | o :: l => by have := othF_le n l; rw [othF]; simp only [List.length_cons]; split <;> omega
theorem oth_tim (n : Gr) : ∀ l : List Int, timF n l = decide (othF n l = 0)
  | [] => rfl
  | o :: l => by
    have h0 := othF_le n l
    rw [othF, show timF n (o :: l) = (decide ((gt n.ns (gt n.fs o.toNat).dst.toNat).kind = 8) && timF n l) from rfl, oth_tim n l]
    by_cases h : (gt n.ns (gt n.fs o.toNat).dst.toNat).kind = 8
    · simp [h]
    · simp [h]; omega
theorem oth_drop {n : Gr} {os : List Int} {j : Nat} (h : j < os.length) : othF n (os.drop j) = (if (gt n.ns (gt n.fs (gt os j).toNat).dst.toNat).kind ≠ 8 then 1 else 0) + othF n (os.drop (j + 1)) := by
  rw [drop_gt h, othF]
theorem rThree_ok (n : Gr) (i : Int) (hl : n.fs.length < 1000000000000) (hi0 : 0 ≤ i) (hi1 : i < n.ns.length) (hd : ∀ f ∈ n.fs, 0 ≤ f.dst ∧ f.dst < n.ns.length) : AFn env 61 [n.a, aI i] [] (aB (fitsF n i)) [] := by
  have hol : (outsF n i).length ≤ n.fs.length := idxs_len (fun f => decide (f.src = i)) n.fs 0
  have hil : (insF n i).length ≤ n.fs.length := idxs_len (fun f => decide (f.dst = i)) n.fs 0
  have hom : ∀ k ∈ outsF n i, 0 ≤ k ∧ k < n.fs.length := fun k hk => by have := idxs_mem hk; omega
  refine afn_body Tryz.func61 rfl (by decide) ?_
  simp only [Tryz.ntmps61, Tryz.results61, List.length_cons, List.length_nil, List.cons_append, List.nil_append, Nat.reduceAdd, Nat.reduceSub, List.replicate]
  repeat' first
  | ((with_reducible refine awp_seqQ ?_); intro _ _)
  | ((with_reducible refine awp_region ?_); refine zS ?_)
  | with_reducible refine awp_block ?_
  | ((with_reducible refine CallK_id ?_); refine zcF ?_; refine ⟨_, by first | exact rOuts_ok n i (by omega) | exact rIns_ok n i (by omega) | fail, fun _ => rfl, fun _ => rfl, rfl, ?_⟩; try refine zS ?_)
  refine awp_loopT (fun z : Nat × Int × Int => z.1 ≤ (outsF n i).length ∧ z.2.1 + elsF n ((outsF n i).drop z.1) = elsF n (outsF n i) ∧ z.2.2 + othF n ((outsF n i).drop z.1) = othF n (outsF n i) ∧ (0 ≤ z.2.1 ∧ z.2.1 ≤ z.1) ∧ 0 ≤ z.2.2 ∧ z.2.2 ≤ z.1) (fun z => (outsF n i).length - z.1) (fun z => [(8, aI z.2.1), (9, aI z.2.2), (23, aI z.1)]) (fun z => [some (.box n.bs)]) (0, 0, 0) ⟨by simp, by simp, by simp, by simp, by simp⟩ zwl ?_
  rintro ⟨j, c, t⟩ ⟨h1, h2, h3, h4, h5⟩
  simp only at h1 h2 h3 h4 h5
  have hR : j < (outsF n i).length → 0 ≤ gt (outsF n i) j ∧ gt (outsF n i) j < n.fs.length := fun h => hom _ (gt_mem h)
  have hD : j < (outsF n i).length → 0 ≤ (gt n.fs (gt (outsF n i) j).toNat).dst ∧ (gt n.fs (gt (outsF n i) j).toNat).dst < n.ns.length := fun h => hd _ (gt_mem (by have := hR h; omega))
  have hE := elsF_le n (outsF n i)
  have hT0 := othF_le n (outsF n i)
  refine zT ?_
  repeat' first
  | ((with_reducible refine awp_seqQ ?_); intro _ _)
  | ((with_reducible refine awp_region ?_); refine zS ?_)
  | ((with_reducible refine Gd_nd ?_ ?_) <;> intro hb hb2 <;> first | contradiction | (exfalso; omega) | (refine zH hb2 ?_; try clear hb2))
  | ((with_reducible refine Gd_d ?_ ?_) <;> intro hb hb2 <;> first | contradiction | (exfalso; omega) | (refine zH hb2 ?_; try clear hb2))
  | ((with_reducible refine awp_drawnC ?_ ?_); rfl; refine zS ?_)
  | ((with_reducible refine AWP_c ?_); refine zcdN ?_ ?_ <;> intro hb hb2 <;> first | contradiction | (exfalso; omega) | ((try refine zH hb2 ?_); try clear hb2))
  | ((with_reducible refine AWP_c ?_); refine zcdD ?_ ?_ <;> intro hb hb2 <;> first | contradiction | (exfalso; omega) | ((try refine zH hb2 ?_); try clear hb2))
  | ((with_reducible refine AWP_c ?_); refine zcdB ?_ ?_ <;> intro hb <;> first | contradiction | (try refine zH hb ?_))
  | ((with_reducible refine awp_skip ?_); try refine zS ?_)
  | with_reducible refine awp_block ?_
  | ((with_reducible refine awp_exit ?_); try refine zS ?_)
  | ((with_reducible refine awp_ret ?_); refine q_step (by assumption) ?_)
  | with_reducible refine fin_r ?_
  | ((with_reducible refine q_step (by assumption) ?_); try refine zS ?_)
  all_goals try (
    have hT1 := oth_drop (n := n) (os := outsF n i) (j := j) (by omega)
    have hE1 := els_drop (n := n) (os := outsF n i) (j := j) (by omega)
    simp only [*, ↓reduceIte, Bool.false_eq_true, ne_eq, not_true_eq_false, not_false_eq_true] at hE1 hT1
    first
    | (rename (gt n.fs (gt (outsF n i) j).toNat).els = true => q2; rename ¬ (gt n.ns (gt n.fs (gt (outsF n i) j).toNat).dst.toNat).kind = 8 => q1; exact ⟨(j + 1, c + 1, t + 1), ⟨by simp only; omega, by simp only; omega, by simp only; omega, by simp only; omega, by simp only; omega⟩, by simp only; omega, zwc 1⟩)
    | (rename (gt n.fs (gt (outsF n i) j).toNat).els = true => q2; exact ⟨(j + 1, c + 1, t), ⟨by simp only; omega, by simp only; omega, by simp only; omega, by simp only; omega, by simp only; omega⟩, by simp only; omega, zwc 1⟩)
    | (rename (gt n.fs (gt (outsF n i) j).toNat).els = false => q2; rename ¬ (gt n.ns (gt n.fs (gt (outsF n i) j).toNat).dst.toNat).kind = 8 => q1; exact ⟨(j + 1, c, t + 1), ⟨by simp only; omega, by simp only; omega, by simp only; omega, by simp only; omega, by simp only; omega⟩, by simp only; omega, zwc 1⟩)
    | (rename (gt n.fs (gt (outsF n i) j).toNat).els = false => q2; exact ⟨(j + 1, c, t), ⟨by simp only; omega, by simp only; omega, by simp only; omega, by simp only; omega, by simp only; omega⟩, by simp only; omega, zwc 1⟩)
    | skip)
  all_goals
    have hj : j = (outsF n i).length := by omega
    rw [List.drop_eq_nil_of_le (by omega), elsF] at h2
    rw [List.drop_eq_nil_of_le (by omega), othF] at h3
    have h2 : c = elsF n (outsF n i) := by omega
    have h3 : t = othF n (outsF n i) := by omega
    have hot := oth_tim n (outsF n i)
    rw [← h3] at hot
    subst h2
    clear hE hR hD hom hd h1 h4 h5 hi0 hi1 hT0 h3
    unfold fitsF
    rw [hot]
    simp only
    clear hot
    generalize (insF n i).length = m at *
    generalize (outsF n i).length = o at *
    generalize (gt n.ns i.toNat).kind = k at *
    generalize elsF n (outsF n i) = e at *
  all_goals first
    | (simp [go_sem, *]; done)
    | (simp [go_sem, *]; omega)
    | trace_state
theorem stepM_t {l : List Fl} {j : Nat} {s : List Bool} (h : j < l.length) (he : gt s (gt l j).src.toNat = true) : stepL ((l.drop j).map toLk) s = stepL ((l.drop (j + 1)).map toLk) (s.set (gt l j).dst.toNat true) := by rw [drop_gt (l := l) h, List.map_cons, stepL, if_pos (by simpa [gb, toLk] using he)]; rfl
theorem stepM_f {l : List Fl} {j : Nat} {s : List Bool} (h : j < l.length) (he : gt s (gt l j).src.toNat = false) : stepL ((l.drop j).map toLk) s = stepL ((l.drop (j + 1)).map toLk) s := by rw [drop_gt (l := l) h, List.map_cons, stepL, if_neg (by simp [gb, he, toLk])]
theorem rReach_ok (n : Gr) (i : Int) (hn : n.ns.length < 1000000000000) (hf : n.fs.length < 1000000000000) (hi : inG n) (h0 : 0 ≤ i ∧ i < n.ns.length) : AFn env 62 [n.a, aI i] [] (aF ((reachF n i).map bRow)) [] := by
  have hlr : (List.replicate n.ns.length false).length = n.ns.length := by simp
  refine afn_body Tryz.func62 rfl (by decide) ?_
  simp only [Tryz.ntmps62, Tryz.results62, List.length_cons, List.length_nil, List.cons_append, List.nil_append, Nat.reduceAdd, Nat.reduceSub, List.replicate]
  repeat' first
  | ((with_reducible refine awp_seqQ ?_); intro _ _)
  | ((with_reducible refine awp_region ?_); refine zS ?_)
  | with_reducible refine awp_block ?_
  let s0 : List Bool := (List.replicate n.ns.length false).set i.toNat true
  let L : List Lk := n.fs.map toLk
  have hs0 : s0.length = n.ns.length := by simp [s0]
  refine awp_loopT (fun z : Nat × List Bool => z.1 ≤ n.ns.length ∧ z.2.length = n.ns.length ∧ iterL (n.fs.map toLk) n.ns.length s0 = iterL (n.fs.map toLk) (n.ns.length - z.1) z.2) (fun z => n.ns.length - z.1) (fun z => [(18, aI z.1)]) (fun z => [some (.box n.bs), RwO z.2]) (0, s0) ⟨by simp, hs0, rfl⟩ (wk_le (by simp only [go_sem, Bool.not_not, List.mem_singleton, forall_eq, ↓reduceIte, if_pos, rowsAt_map, wrap64, wrapu8, List.getElem?_cons_zero, List.getElem?_cons_succ, Int.reduceToNat, Nat.reduceAdd, Nat.reduceBEq, Bool.or_false, Bool.false_or, Bool.true_or, Nat.reduceSub, Nat.reduceMul, Int.reduceAdd, Int.reduceEq, Int.reduceLT, Int.reduceLE, Int.reduceNeg, Nat.reduceLT, Nat.reduceLeDiff, Nat.reduceEqDiff]; try simp) (by simp only [go_sem, Bool.not_not, List.mem_singleton, forall_eq, ↓reduceIte, if_pos, rowsAt_map, wrap64, wrapu8, List.getElem?_cons_zero, List.getElem?_cons_succ, Int.reduceToNat, Nat.reduceAdd, Nat.reduceBEq, Bool.or_false, Bool.false_or, Bool.true_or, Nat.reduceSub, Nat.reduceMul, Int.reduceAdd, Int.reduceEq, Int.reduceLT, Int.reduceLE, Int.reduceNeg, Nat.reduceLT, Nat.reduceLeDiff, Nat.reduceEqDiff]; try (simp [s0, List.map_set]))) ?_
  rintro ⟨k, s⟩ ⟨h1, h2, h3⟩
  simp only at h1 h2 h3
  refine zT ?_
  repeat' first
  | ((with_reducible refine awp_seqQ ?_); intro _ _)
  | ((with_reducible refine awp_region ?_); refine zS ?_)
  | ((with_reducible refine AWP_c ?_); refine zcdD ?_ ?_ <;> intro hb hb2 <;> first | contradiction | (exfalso; omega) | ((try refine zH hb2 ?_); try clear hb2))
  | ((with_reducible refine awp_skip ?_); try refine zS ?_)
  | with_reducible refine awp_block ?_
  | ((with_reducible refine awp_exit ?_); try refine zS ?_)
  | ((with_reducible refine awp_ret ?_); refine q_step (by assumption) ?_)
  | ((with_reducible refine q_step (by assumption) ?_); try refine zS ?_)
  rotate_left
  · simp only [← h2]
    refine fin_r ?_
    rw [reachF, show iterL (n.fs.map toLk) n.ns.length ((List.replicate n.ns.length false).set i.toNat true) = s by rw [show (List.replicate n.ns.length false).set i.toNat true = s0 from rfl, h3, show n.ns.length - k = 0 by omega, iterL]]
  refine awp_loopT (fun z : Nat × List Bool => z.1 ≤ n.fs.length ∧ z.2.length = n.ns.length ∧ stepL (n.fs.map toLk) s = stepL ((n.fs.drop z.1).map toLk) z.2) (fun z => n.fs.length - z.1) (fun z => [(23, aI z.1)]) (fun z => [some (.box n.bs), RwO z.2]) (0, s) ⟨by simp, h2, rfl⟩ zwl ?_
  rintro ⟨j, t⟩ ⟨g1, g2, g3⟩
  simp only at g1 g2 g3
  have hR : j < n.fs.length → 0 ≤ (gt n.fs j).src ∧ (gt n.fs j).src < n.ns.length ∧ 0 ≤ (gt n.fs j).dst ∧ (gt n.fs j).dst < n.ns.length := fun h => hi _ (gt_mem h)
  have hgL : j < n.fs.length → gt (n.fs.map toLk) j = toLk (gt n.fs j) := fun h => by simp [gt, List.getD, h]
  refine zT ?_
  repeat' first
  | ((with_reducible refine awp_seqQ ?_); intro _ _)
  | ((with_reducible refine awp_region ?_); refine zS ?_)
  | ((with_reducible refine AWP_c ?_); refine zcdD ?_ ?_ <;> intro hb hb2 <;> first | contradiction | (exfalso; omega) | ((try refine zH hb2 ?_); try clear hb2))
  | ((with_reducible refine AWP_c ?_); refine zcdB ?_ ?_ <;> intro hb <;> first | contradiction | (try refine zH hb ?_))
  | ((with_reducible refine awp_skip ?_); try refine zS ?_)
  | with_reducible refine awp_block ?_
  | ((with_reducible refine awp_exit ?_); try refine zS ?_)
  | ((with_reducible refine q_step (by assumption) ?_); try refine zS ?_)
  · exact ⟨(j + 1, t.set (gt n.fs j).dst.toNat true), ⟨by simp only; omega, by simpa using g2, by rw [g3, stepM_t (by omega) ‹_›]⟩, by simp only; omega, zwc 2⟩
  · exact ⟨(j + 1, t), ⟨by simp only; omega, g2, by rw [g3, stepM_f (by omega) ‹_›]⟩, by simp only; omega, zwc 2⟩
  have hs2 : stepL (n.fs.map toLk) s = t := by rw [g3, List.drop_eq_nil_of_le (by omega), List.map_nil, stepL]
  exact ⟨(k + 1, t), ⟨by simp only; omega, g2, by rw [h3, show n.ns.length - k = (n.ns.length - (k + 1)) + 1 by omega, iterL, hs2]⟩, by simp only; omega, zwc 2⟩
end Go.Eng
open Go Go.Proofs
namespace Go.Eng
set_option linter.unusedSimpArgs false
set_option linter.unusedVariables false
set_option maxRecDepth 10000
set_option maxHeartbeats 8000000
def brA (p : Int × Int) : A := .agg [.d (dI p.1), .d (dI p.2)]
attribute [go_sem] brA
def zBr : Option Blk := some (.box [.d (dI 0), .d (dI 0)])
attribute [go_sem] zBr
theorem rCheck5_ok (n : Gr) (hg : Gr0 n) : AFn env 47 [n.a] [] (brA (rChk5 n)) [] := by
  have hn := hg.hn
  have hf := hg.hf
  have hns : ∀ j, j < n.ns.length → (gt n.ns j).t.size < 4611686018427387904 := fun j h => hg.ns _ (gt_mem h)
  have hfs : ∀ j, j < n.fs.length → (gt n.fs j).t.size < 4611686018427387904 := fun j h => hg.fs _ (gt_mem h)
  have hs1 := idxF_lt (fun d : Nd => decide (d.kind = 1)) n.ns 0
  have he1 := idxF_lt (fun d : Nd => decide (d.kind = 2)) n.ns 0
  have hs2 := idxF_spec (fun d : Nd => decide (d.kind = 1)) n.ns 0
  have he2 := idxF_spec (fun d : Nd => decide (d.kind = 2)) n.ns 0
  have hsr : -1 ≤ startF n ∧ startF n < n.ns.length := by unfold startF; rcases hs2 with h | ⟨j, h, _⟩ <;> omega
  have her : -1 ≤ endF n ∧ endF n < n.ns.length := by unfold endF; rcases he2 with h | ⟨j, h, _⟩ <;> omega
  have es : idxF (fun d : Nd => decide (d.kind = 1)) n.ns 0 = startF n := rfl
  have ee : idxF (fun d : Nd => decide (d.kind = 2)) n.ns 0 = endF n := rfl
  clear hs1 he1 hs2 he2
  refine afn_body Tryz.func47 rfl (by decide) ?_
  simp only [Tryz.ntmps47, Tryz.results47, List.length_cons, List.length_nil, List.cons_append, List.nil_append, Nat.reduceAdd, Nat.reduceSub, List.replicate]
  repeat' first
  | ((with_reducible refine awp_seqQ ?_); intro _ _)
  | ((with_reducible refine awp_region ?_); refine zS ?_)
  | ((with_reducible refine Gd_nd ?_ ?_) <;> intro hb hb2 <;> first | contradiction | (exfalso; omega) | (refine zH hb2 ?_; try clear hb2))
  | ((with_reducible refine AWP_c ?_); refine zcdT ?_)
  | ((with_reducible refine AWP_c ?_); refine zcdD ?_ ?_ <;> intro hb hb2 <;> first | contradiction | (exfalso; omega) | ((try refine zH hb2 ?_); try clear hb2))
  | ((with_reducible refine awp_skip ?_); try refine zS ?_)
  | with_reducible refine awp_block ?_
  | ((with_reducible refine awp_ret ?_); refine q_step (by assumption) ?_)
  | with_reducible refine fin_r ?_
  | ((with_reducible refine q_step (by assumption) ?_); try refine zS ?_)
  all_goals try (rw [rChk5, if_pos (by omega)]; done)
  have e0 : rChk5 n = firstR 1 (fun j => !rightN (gt n.ns j)) (firstR 2 (fun j => !leadsF n (gt n.fs j)) (firstR 3 (bad3 n) (if startF n < 0 ∨ endF n < 0 then (3, n.ns.length) else firstR 4 (bad4 n) (0, 0) (List.range' 0 n.ns.length)) (List.range' 0 n.ns.length)) (List.range' 0 n.fs.length)) (List.range' 0 n.ns.length) := by rw [rChk5, if_neg (by omega)]
  generalize hk1 : firstR 2 (fun j => !leadsF n (gt n.fs j)) (firstR 3 (bad3 n) (if startF n < 0 ∨ endF n < 0 then (3, n.ns.length) else firstR 4 (bad4 n) (0, 0) (List.range' 0 n.ns.length)) (List.range' 0 n.ns.length)) (List.range' 0 n.fs.length) = k1 at e0
  generalize hk2 : firstR 3 (bad3 n) (if startF n < 0 ∨ endF n < 0 then (3, n.ns.length) else firstR 4 (bad4 n) (0, 0) (List.range' 0 n.ns.length)) (List.range' 0 n.ns.length) = k2 at hk1
  refine awp_loopT (fun i : Nat => i ≤ n.ns.length ∧ rChk5 n = firstR 1 (fun j => !rightN (gt n.ns j)) k1 (List.range' i (n.ns.length - i))) (fun i => n.ns.length - i) (fun i => [(28, aI i)]) (fun _ => [some (.box n.bs), zBr]) 0 ⟨by omega, e0⟩ zwl ?_
  rintro i ⟨h1, h2⟩
  refine zT ?_
  repeat' first
  | ((with_reducible refine awp_seqQ ?_); intro _ _)
  | ((with_reducible refine awp_region ?_); refine zS ?_)
  | ((with_reducible refine AWP_c ?_); refine zcdD ?_ ?_ <;> intro hb hb2 <;> first | contradiction | (exfalso; omega) | ((try refine zH hb2 ?_); try clear hb2))
  | ((with_reducible refine AWP_c ?_); refine zcdM ?_ ?_ <;> intro hb <;> first | contradiction | (try refine zH hb ?_))
  | ((with_reducible refine awp_skip ?_); try refine zS ?_)
  | with_reducible refine awp_block ?_
  | ((with_reducible refine awp_exit ?_); try refine zS ?_)
  | ((with_reducible refine CallK_id ?_); refine zcF ?_; refine ⟨_, by first | exact rOne_ok _ (hns _ (by omega)) | fail, fun _ => rfl, fun _ => rfl, rfl, ?_⟩; try refine zS ?_)
  | ((with_reducible refine awp_ret ?_); refine q_step (by assumption) ?_)
  | with_reducible refine fin_r ?_
  | ((with_reducible refine q_step (by assumption) ?_); try refine zS ?_)
  · rw [h2, firstR_t (by omega) (by simp [*])]
  · exact ⟨i + 1, ⟨by omega, by rw [h2, firstR_f (by omega) (by simp [*])]⟩, by omega, zwc 2⟩
  rw [show n.ns.length - i = 0 by omega, List.range'_zero, firstR] at h2
  clear e0
  refine awp_loopT (fun i : Nat => i ≤ n.fs.length ∧ (∀ j, j < i → leadsF n (gt n.fs j) = true) ∧ rChk5 n = firstR 2 (fun j => !leadsF n (gt n.fs j)) k2 (List.range' i (n.fs.length - i))) (fun i => n.fs.length - i) (fun i => [(42, aI i)]) (fun _ => [some (.box n.bs), zBr]) 0 ⟨by omega, by simp, by rw [h2, ← hk1]; rfl⟩ zwl ?_
  rintro i2 ⟨h3, h4, h5⟩
  refine zT ?_
  repeat' first
  | ((with_reducible refine awp_seqQ ?_); intro _ _)
  | ((with_reducible refine awp_region ?_); refine zS ?_)
  | ((with_reducible refine AWP_c ?_); refine zcdD ?_ ?_ <;> intro hb hb2 <;> first | contradiction | (exfalso; omega) | ((try refine zH hb2 ?_); try clear hb2))
  | ((with_reducible refine AWP_c ?_); refine zcdM ?_ ?_ <;> intro hb <;> first | contradiction | (try refine zH hb ?_))
  | ((with_reducible refine awp_skip ?_); try refine zS ?_)
  | with_reducible refine awp_block ?_
  | ((with_reducible refine awp_exit ?_); try refine zS ?_)
  | ((with_reducible refine CallK_id ?_); refine zcF ?_; refine ⟨_, by first | exact rTwo_ok n _ (hfs _ (by omega)) hn hf | exact rFirst_ok n 1 (by omega) | exact rFirst_ok n 2 (by omega) | fail, fun _ => rfl, fun _ => rfl, rfl, ?_⟩; try refine zS ?_)
  | ((with_reducible refine awp_ret ?_); refine q_step (by assumption) ?_)
  | with_reducible refine fin_r ?_
  | ((with_reducible refine q_step (by assumption) ?_); try refine zS ?_)
  · rw [h5, firstR_t (by omega) (by simp [*])]
  · exact ⟨i2 + 1, ⟨by omega, fun j hj => by
      by_cases e : j = i2
      · subst e; assumption
      · exact h4 j (by omega), by rw [h5, firstR_f (by omega) (by simp [*])]⟩, by omega, zwc 2⟩
  rw [show n.fs.length - i2 = 0 by omega, List.range'_zero, firstR] at h5
  have hI : inG n := fun f hf => by
    obtain ⟨k, hk, rfl⟩ := List.getElem_of_mem hf
    have := h4 k (by omega)
    rw [show gt n.fs k = n.fs[k] by simp [gt, List.getD, hk]] at this
    simp only [leadsF, Bool.and_eq_true, inR, decide_eq_true_eq] at this
    omega
  clear h4 h2 hk1
  have hId : ∀ f ∈ n.fs, 0 ≤ f.dst ∧ f.dst < n.ns.length := fun f hf => (hI f hf).2.2
  simp only [es, ee]
  generalize hk3 : (if startF n < 0 ∨ endF n < 0 then ((3 : Int), (n.ns.length : Int)) else firstR 4 (bad4 n) (0, 0) (List.range' 0 n.ns.length)) = k3 at hk2
  refine awp_loopT (fun i : Nat => i ≤ n.ns.length ∧ rChk5 n = firstR 3 (bad3 n) k3 (List.range' i (n.ns.length - i))) (fun i => n.ns.length - i) (fun i => [(61, aI i)]) (fun _ => [some (.box n.bs), zBr]) 0 ⟨by omega, by rw [h5, ← hk2]; rfl⟩ zwl ?_
  rintro i3 ⟨h6, h7⟩
  refine zT ?_
  repeat' first
  | ((with_reducible refine awp_seqQ ?_); intro _ _)
  | ((with_reducible refine awp_region ?_); refine zS ?_)
  | ((with_reducible refine Gd_nd ?_ ?_) <;> intro hb hb2 <;> first | contradiction | (exfalso; omega) | (refine zH hb2 ?_; try clear hb2))
  | ((with_reducible refine Gd_d ?_ ?_) <;> intro hb hb2 <;> first | contradiction | (exfalso; omega) | (refine zH hb2 ?_; try clear hb2))
  | ((with_reducible refine Gd_b ?_ ?_) <;> intro hb <;> first | contradiction | refine zH hb ?_)
  | ((with_reducible refine AWP_c ?_); refine zcdT ?_)
  | ((with_reducible refine AWP_c ?_); refine zcdF ?_)
  | ((with_reducible refine AWP_c ?_); refine zcdD ?_ ?_ <;> intro hb hb2 <;> first | contradiction | (exfalso; omega) | ((try refine zH hb2 ?_); try clear hb2))
  | ((with_reducible refine awp_skip ?_); try refine zS ?_)
  | with_reducible refine awp_block ?_
  | ((with_reducible refine awp_exit ?_); try refine zS ?_)
  | ((with_reducible refine CallK_id ?_); refine zcF ?_; refine ⟨_, by first | exact rThree_ok n i3 (by omega) (by omega) (by omega) hId | fail, fun _ => rfl, fun _ => rfl, rfl, ?_⟩; try refine zS ?_)
  | ((with_reducible refine awp_ret ?_); refine q_step (by assumption) ?_)
  | with_reducible refine fin_r ?_
  | ((with_reducible refine q_step (by assumption) ?_); try refine zS ?_)
  all_goals first
    | (rw [h7, firstR_t (by omega) (by simp [bad3, *]; done)]; done)
    | (rw [h7, firstR_t (by omega) (by simp [bad3, *]; omega)]; done)
    | (rename fitsF n _ = true => hft; exact ⟨i3 + 1, ⟨by omega, by rw [h7, firstR_f (by omega) (by (simp only [bad3, hft, Bool.or_eq_false_iff, Bool.and_eq_false_iff, decide_eq_false_iff_not, Bool.not_true, true_and]); omega)]⟩, by omega, zwc 2⟩)
    | skip
  · rw [show n.ns.length - i3 = 0 by omega, List.range'_zero, firstR] at h7
    rw [h7, ← hk3, if_pos (by omega)]
  rotate_left
  · rw [show n.ns.length - i3 = 0 by omega, List.range'_zero, firstR] at h7
    rw [h7, ← hk3, if_pos (by omega)]
  rw [show n.ns.length - i3 = 0 by omega, List.range'_zero, firstR, ← hk3, if_neg (by omega)] at h7
  have hls := reachF_len n (startF n)
  repeat' first
  | ((with_reducible refine awp_seqQ ?_); intro _ _)
  | ((with_reducible refine awp_region ?_); refine zS ?_)
  | with_reducible refine awp_block ?_
  | ((with_reducible refine CallK_id ?_); refine zcF ?_; refine ⟨_, by first | exact rReach_ok n (startF n) (by omega) (by omega) hI (by omega) | fail, fun _ => rfl, fun _ => rfl, rfl, ?_⟩; try refine zS ?_)
  refine awp_loopT (fun i : Nat => i ≤ n.ns.length ∧ rChk5 n = firstR 4 (bad4 n) (0, 0) (List.range' i (n.ns.length - i))) (fun i => n.ns.length - i) (fun i => [(109, aI i)]) (fun _ => [some (.box n.bs), zBr]) 0 ⟨by omega, h7⟩ zwl ?_
  rintro i4 ⟨h8, h9⟩
  have hlr := reachF_len n i4
  refine zT ?_
  repeat' first
  | ((with_reducible refine awp_seqQ ?_); intro _ _)
  | ((with_reducible refine awp_region ?_); refine zS ?_)
  | ((with_reducible refine Gd_b ?_ ?_) <;> intro hb <;> first | contradiction | refine zH hb ?_)
  | ((with_reducible refine AWP_c ?_); refine zcdT ?_)
  | ((with_reducible refine AWP_c ?_); refine zcdD ?_ ?_ <;> intro hb hb2 <;> first | contradiction | (exfalso; omega) | ((try refine zH hb2 ?_); try clear hb2))
  | ((with_reducible refine AWP_c ?_); refine zcdM ?_ ?_ <;> intro hb <;> first | contradiction | (try refine zH hb ?_))
  | ((with_reducible refine awp_skip ?_); try refine zS ?_)
  | with_reducible refine awp_block ?_
  | ((with_reducible refine awp_exit ?_); try refine zS ?_)
  | ((with_reducible refine CallK_id ?_); refine zcF ?_; refine ⟨_, by first | exact rReach_ok n i4 (by omega) (by omega) hI (by omega) | fail, fun _ => rfl, fun _ => rfl, rfl, ?_⟩; try refine zS ?_)
  | ((with_reducible refine awp_ret ?_); refine q_step (by assumption) ?_)
  | with_reducible refine fin_r ?_
  | ((with_reducible refine q_step (by assumption) ?_); try refine zS ?_)
  all_goals first
    | (rw [h9, firstR_t (by omega) (by simp [bad4, gb, *]; done)]; done)
    | exact ⟨i4 + 1, ⟨by omega, by rw [h9, firstR_f (by omega) (by simp [bad4, gb, *])]⟩, by omega, zwc 2⟩
    | (rw [h9, show n.ns.length - i4 = 0 by omega, List.range'_zero, firstR]; done)
    | trace_state
end Go.Eng
open Go Go.Proofs
namespace Go.Eng
set_option linter.unusedSimpArgs false
set_option linter.unusedVariables false
def inF (s : List UInt8) (c : Int) : Bool := s.any fun x => decide ((x.toNat : Int) = c)
def hasK (k x : Int) : List UInt8 := if k = 2 ∨ k = 4 then [110, 97] else if k = 3 then [110, 97, 116] else if k = 5 then [110] else if k = 6 ∨ k = 7 then [107] else if k = 8 then [110, 97, 107, 99]
  else if k = 9 then [110, 107] else if k = 10 then [110, 97, 107] else if k = 11 then [110, 97, 98, 107, 99] else if k = 12 then (if x = 3 then [110, 97, 98, 99] else [110, 97]) else if k = 13 then [107, 108] else if k = 14 then [112] else []
def hasF (b : B) : List UInt8 := hasK b.kind b.x
def bareR (s : List UInt8) (b : B) : Bool := (inF s 110 || decide (b.node = 0)) && (inF s 97 || decide (b.x = 0)) && (inF s 98 || decide (b.y = 0)) && (inF s 116 || noneF b.t) && (inF s 99 || decide ((b.conds.length : Int) = 0)) && (inF s 107 || decide ((b.kids.length : Int) = 0)) &&
  (inF s 108 || decide ((b.links.length : Int) = 0)) && (inF s 112 || decide ((b.nodes.length : Int) = 0) && decide ((b.flows.length : Int) = 0))
theorem eqL_r0 {α : Type} (p : α → α → Bool) (l : List α) : eqL p l [] = decide (l.length = 0) := by cases l <;> simp [eqL]
theorem eqT_t0 (t : T) : eqT t t0 = noneF t := by rw [eqT_eq, noneF]; simp only [t0, T.op, T.n, T.kids, eqL_r0]; rfl
theorem eqB_0 (b : B) : eqB b b0 = (decide (b.kind = 0) && decide (b.node = 0) && decide (b.x = 0) && decide (b.y = 0) && noneF b.t && decide (b.conds.length = 0) && decide (b.links.length = 0) && (decide (b.nodes.length = 0) && decide (b.flows.length = 0)) && decide (b.kids.length = 0)) := by
  rw [eqB_eq]; simp only [b0, mk_kind, mk_node, mk_x, mk_y, mk_t, mk_conds, mk_links, mk_nodes, mk_flows, mk_kids, eqT_t0, eqL_r0, eqNt]; rfl
theorem noneF_t0 : noneF t0 = true := rfl
theorem rBare_eq (b : B) : bareR (hasF b) b = eqB (bareF b) b0 := by
  cases b with | mk k n x y t c ks l ns fs =>
  rw [eqB_0]
  simp only [bareF, hasF, bareR, mk_kind, mk_node, mk_x, mk_y, mk_t, mk_conds, mk_links, mk_nodes, mk_flows, mk_kids]
  by_cases h : k < 1 ∨ 14 < k
  · have e1 : ¬ k = 1 := by omega
    have e2 : ¬ k = 2 := by omega
    have e3 : ¬ k = 3 := by omega
    have e4 : ¬ k = 4 := by omega
    have e5 : ¬ k = 5 := by omega
    have e6 : ¬ k = 6 := by omega
    have e7 : ¬ k = 7 := by omega
    have e8 : ¬ k = 8 := by omega
    have e9 : ¬ k = 9 := by omega
    have e10 : ¬ k = 10 := by omega
    have e11 : ¬ k = 11 := by omega
    have e12 : ¬ k = 12 := by omega
    have e13 : ¬ k = 13 := by omega
    have e14 : ¬ k = 14 := by omega
    simp only [hasK, inF, e1, e2, e3, e4, e5, e6, e7, e8, e9, e10, e11, e12, e13, e14]
    rw [Bool.eq_iff_iff]; simp; try grind
  have hk : k = 1 ∨ k = 2 ∨ k = 3 ∨ k = 4 ∨ k = 5 ∨ k = 6 ∨ k = 7 ∨ k = 8 ∨ k = 9 ∨ k = 10 ∨ k = 11 ∨ k = 12 ∨ k = 13 ∨ k = 14 := by omega
  rcases hk with rfl | rfl | rfl | rfl | rfl | rfl | rfl | rfl | rfl | rfl | rfl | rfl | rfl | rfl
  all_goals try (rw [Bool.eq_iff_iff]; simp [hasK, inF, noneF_t0]; done)
  all_goals try (rw [Bool.eq_iff_iff]; simp [hasK, inF, noneF_t0]; try grind)
  all_goals (by_cases hx : x = 3 <;> rw [Bool.eq_iff_iff] <;> simp [hasK, inF, noneF_t0, hx] <;> try grind)
def rKidF (b : B) (i : Nat) : Bool :=
  let p : Int := cI b.links i
  let q : Int := cO b.links i
  let k := gt b.kids i
  if k.kind ≠ 12 then decide (p = 1) && decide (q = 1) else if k.x = 1 then decide (p = 1) && decide (q ≥ 2) else if k.x = 3 then decide (p = 1) && decide (q = k.conds.length) else if k.x = 2 ∨ k.x = 4 then decide (p ≥ 2) && decide (q = 1) else true
def rLinkedF (b : B) : Bool := if b.links.any (lkBad b.kids.length) = true then false else if (cI b.links (-1) : Int) ≠ 1 ∨ (cO b.links (-1) : Int) ≠ 1 ∨ b.links.length > 40 ∨ b.kids.length > 64 then false
  else if ((List.range' 0 b.kids.length).any fun i => !rKidF b i) = true then false else decide ((rRoundF b.kids.length (inner b.links)).1.length = 0)
theorem kidsBad_any (ls : List Lk) : ∀ (l : List B) (i : Nat), kidsBad ls l i = (List.range' i l.length).any fun j => kidBad ls (gt l (j - i)) j
  | [], i => rfl
  | k :: l, i => by
    rw [kidsBad, List.length_cons, List.range'_succ, List.any_cons, kidsBad_any ls l (i + 1), Nat.sub_self]
    congr 1
    rw [Bool.eq_iff_iff, List.any_eq_true, List.any_eq_true]
    have e : ∀ j, i + 1 ≤ j → gt (k :: l) (j - i) = gt l (j - (i + 1)) := fun j h => by rw [show j - i = (j - (i + 1)) + 1 by omega]; simp [gt]
    constructor
    · rintro ⟨j, h1, h2⟩
      exact ⟨j, h1, by rw [e j (by obtain ⟨_, _, rfl⟩ := List.mem_range'.1 h1; omega)]; exact h2⟩
    · rintro ⟨j, h1, h2⟩
      exact ⟨j, h1, by rw [e j (by obtain ⟨_, _, rfl⟩ := List.mem_range'.1 h1; omega)] at h2; exact h2⟩
theorem any_congr' {l : List Nat} {p q : Nat → Bool} (h : ∀ i ∈ l, p i = q i) : l.any p = l.any q := by
  rw [Bool.eq_iff_iff, List.any_eq_true, List.any_eq_true]
  exact ⟨fun ⟨i, h1, h2⟩ => ⟨i, h1, by rw [← h i h1]; exact h2⟩, fun ⟨i, h1, h2⟩ => ⟨i, h1, by rw [h i h1]; exact h2⟩⟩
theorem rKid_eq {b : B} {i : Nat} (h : (gt b.kids i).kind = 12 → (gt b.kids i).x = 1 ∨ (gt b.kids i).x = 2 ∨ (gt b.kids i).x = 3 ∨ (gt b.kids i).x = 4) : (!rKidF b i) = kidBad b.links (gt b.kids i) i := by
  unfold rKidF
  rw [Bool.eq_iff_iff, kidBad_iff]
  simp only
  by_cases hk : (gt b.kids i).kind = 12
  · rw [if_neg (by omega)]
    rcases h hk with e | e | e | e <;> rw [e] <;> simp [hk] <;> omega
  · rw [if_pos hk]
    simp [hk]
theorem rkC_inner {b : B} (h1 : b.links.any (lkBad b.kids.length) = false) (h2 : b.links.length ≤ 40) (h3 : b.kids.length ≤ 64) : rkC b.kids.length (inner b.links) = 0 := by
  have hl : (inner b.links).length ≤ b.links.length := List.length_filter_le _ _
  rw [rkC, if_neg (by omega), if_neg (by omega), if_pos]
  rw [List.all_eq_true]
  intro e he
  unfold inner at he
  obtain ⟨h4, h5⟩ := List.mem_filter.1 he
  rw [List.any_eq_false] at h1
  have := h1 e h4
  simp only [Bool.and_eq_true, decide_eq_true_eq] at h5
  simp only [lkBad, Bool.or_eq_true, decide_eq_true_eq] at this
  simp [inR]; omega
theorem ord_round {n : Nat} {l : List Lk} (h : rkC n l = 0) : decide ((rRoundF n l).1.length = 0) = decide ((ordF n l).2 = 0) := by
  have e := (round_eq (n := n) (l := l)).1
  have h2 : (roundF n l).2 = 0 := by unfold roundF; rw [if_pos h]
  rw [ordF, if_neg (by omega)]
  by_cases hr : (roundF n l).1.length = 0
  · rw [if_neg (by omega)]; simp [e.2 hr]
  · rw [if_pos (by omega)]
    have : ¬ (rRoundF n l).1.length = 0 := fun hh => hr (e.1 hh)
    simp [this]
theorem rLinked_eq {b : B} (h : ∀ k ∈ b.kids, k.kind = 12 → k.x = 1 ∨ k.x = 2 ∨ k.x = 3 ∨ k.x = 4) : rLinkedF b = linkedF b := by
  unfold rLinkedF linkedF
  by_cases h1 : b.links.any (lkBad b.kids.length) = true
  · rw [if_pos h1, if_pos h1]
  rw [if_neg h1, if_neg h1]
  by_cases h2 : (cI b.links (-1) : Int) ≠ 1 ∨ (cO b.links (-1) : Int) ≠ 1 ∨ b.links.length > 40 ∨ b.kids.length > 64
  · rw [if_pos h2, if_pos h2]
  rw [if_neg h2, if_neg h2]
  have e : ((List.range' 0 b.kids.length).any fun i => !rKidF b i) = kidsBad b.links b.kids 0 := by
    rw [kidsBad_any]
    refine any_congr' fun i hi => ?_
    obtain ⟨j, hj, rfl⟩ := List.mem_range'.1 hi
    exact rKid_eq (h _ (gt_mem (by omega)))
  rw [e]
  by_cases h3 : kidsBad b.links b.kids 0 = true
  · rw [if_pos h3, if_pos h3]
  rw [if_neg h3, if_neg h3]
  exact ord_round (rkC_inner (by simpa using h1) (by omega) (by omega))
def rNumF (b : B) : Bool := if b.kind = 13 then decide ((b.kids.length : Int) ≥ 1) && rLinkedF b else numF b
theorem num13 {b : B} (h : b.kind = 13) : numF b = (decide ((b.kids.length : Int) > 0) && linkedF b) := by
  unfold numF; simp [h]
theorem num12 {b : B} (h : b.kind = 12) (hn : numF b = true) : b.x = 1 ∨ b.x = 2 ∨ b.x = 3 ∨ b.x = 4 := by
  unfold numF at hn
  simp [h] at hn
  omega
theorem right_num {N : B → Bool} {b : B} (h : rightF N b = true) : N b = true := by
  rw [rightF_eq] at h
  simp only [Bool.and_eq_true] at h
  exact h.1.2
theorem rNum12 {b : B} (h : b.kind = 12) (hn : rNumF b = true) : b.x = 1 ∨ b.x = 2 ∨ b.x = 3 ∨ b.x = 4 := by
  unfold rNumF at hn
  rw [if_neg (by omega)] at hn
  exact num12 h hn
mutual
theorem form_eq : ∀ b : B, rightF rNumF b = rightF numF b
  | .mk k n x y t c ks l ns fs => by
    rw [rightF, rightF, forms_eq k ks]
    cases hw : wrongs numF k ks with
    | true => simp
    | false =>
      have : rNumF (.mk k n x y t c ks l ns fs) = numF (.mk k n x y t c ks l ns fs) := by
        by_cases hk : k = 13
        · subst hk
          rw [num13 rfl, rNumF, mk_kind, if_pos rfl, rLinked_eq (fun q hq h12 => num12 h12 (right_num (b := q) ?_))]
          · rfl
          · rw [wrongs_eq, List.any_eq_false] at hw
            have := hw q hq
            simp only [wrong1, Bool.not_eq_true, Bool.or_eq_false_iff, Bool.not_eq_false'] at this
            exact this.2
        · rw [rNumF, mk_kind, if_neg hk]
      rw [this]
theorem forms_eq (k : Int) : ∀ l : List B, wrongs rNumF k l = wrongs numF k l
  | [] => by rw [wrongs, wrongs]
  | b :: l => by rw [wrongs, wrongs, form_eq b, forms_eq k l]
end
def nmd (b : B) (i : Int) : Nat := if inF (hasF b) 110 = true ∧ b.node = i then 1 else 0
mutual
def timesF (i : Int) : B → Nat
  | .mk k n x y t c ks l ns fs => nmd (.mk k n x y t c ks l ns fs) i + timess i ks
def timess (i : Int) : List B → Nat
  | [] => 0
  | b :: l => timesF i b + timess i l
end
theorem timesF_eq (i : Int) (b : B) : timesF i b = nmd b i + timess i b.kids := by cases b; rw [timesF]; rfl
def rChkF (b : B) : Int := if b.count > 96 ∨ deepF b > 24 then 2 else if b.kind = 10 ∨ b.kind = 12 ∨ rightF rNumF b = false then 4 else if ((List.range' 0 24).any fun i : Nat => decide (timesF i b > 1)) = true then 8 else 0
theorem num_kind {b : B} (h : numF b = true) : 1 ≤ b.kind ∧ b.kind ≤ 14 := by
  refine Classical.byContradiction fun hn => ?_
  have e1 : ¬ b.kind = 1 := by omega
  have e2 : ¬ b.kind = 2 := by omega
  have e3 : ¬ b.kind = 3 := by omega
  have e4 : ¬ b.kind = 4 := by omega
  have e5 : ¬ b.kind = 5 := by omega
  have e6 : ¬ b.kind = 6 := by omega
  have e7 : ¬ b.kind = 7 := by omega
  have e8 : ¬ b.kind = 8 := by omega
  have e9 : ¬ b.kind = 9 := by omega
  have e10 : ¬ b.kind = 10 := by omega
  have e11 : ¬ b.kind = 11 := by omega
  have e12 : ¬ b.kind = 12 := by omega
  have e13 : ¬ b.kind = 13 := by omega
  have e14 : ¬ b.kind = 14 := by omega
  unfold numF at h
  simp [e1, e2, e3, e4, e5, e6, e7, e8, e9, e10, e11, e12, e13, e14] at h
theorem has_n {b : B} (h : 1 ≤ b.kind ∧ b.kind ≤ 14) : inF (hasF b) 110 = true ↔ ¬ skips b.kind := by
  have hk : b.kind = 1 ∨ b.kind = 2 ∨ b.kind = 3 ∨ b.kind = 4 ∨ b.kind = 5 ∨ b.kind = 6 ∨ b.kind = 7 ∨ b.kind = 8 ∨ b.kind = 9 ∨ b.kind = 10 ∨ b.kind = 11 ∨ b.kind = 12 ∨ b.kind = 13 ∨ b.kind = 14 := by omega
  unfold hasF
  rcases hk with e | e | e | e | e | e | e | e | e | e | e | e | e | e <;> rw [e] <;> (try (by_cases hx : b.x = 3)) <;> simp_all [hasK, inF, skips]
theorem count_append (i : Int) (a b : List B) : (nodesL (a ++ b)).count i = (nodesL a).count i + (nodesL b).count i := by
  unfold nodesL; rw [List.filterMap_append, List.count_append]
mutual
theorem times_count (i : Int) : ∀ b : B, (∀ x ∈ pL b, 1 ≤ x.kind ∧ x.kind ≤ 14) → timesF i b = (nodesL (pL b)).count i
  | .mk k n x y t c ks l ns fs, h => by
    have h1 := h (.mk k n x y t c ks l ns fs) (by rw [pL]; simp)
    have hn := has_n h1
    rw [timesF, pL, timess_count i ks (fun z hz => h z (by rw [pL]; simp [hz])), show ∀ (a : B) (r : List B), a :: r = [a] ++ r from fun _ _ => rfl, count_append]
    congr 1
    unfold nmd nodesL
    simp only [List.filterMap_cons, List.filterMap_nil]
    by_cases hs : skips (B.mk k n x y t c ks l ns fs).kind
    · rw [if_pos hs, if_neg (fun hh => (hn.1 hh.1) hs)]; rfl
    · rw [if_neg hs]
      simp only [List.count_cons, List.count_nil]
      by_cases hi : (B.mk k n x y t c ks l ns fs).node = i
      · rw [if_pos ⟨hn.2 hs, hi⟩]; simp [hi]
      · rw [if_neg (fun hh => hi hh.2)]; simp [hi]
theorem timess_count (i : Int) : ∀ l : List B, (∀ x ∈ pLs l, 1 ≤ x.kind ∧ x.kind ≤ 14) → timess i l = (nodesL (pLs l)).count i
  | [], _ => by rw [timess, pLs]; rfl
  | b :: l, h => by rw [timess, pLs, count_append, times_count i b (fun x hx => h x (by rw [pLs]; simp [hx])), timess_count i l (fun x hx => h x (by rw [pLs]; simp [hx]))]
end
theorem nodup_count {l : List Int} : l.Nodup ↔ ∀ i, l.count i ≤ 1 := List.nodup_iff_count
theorem rChk_eq (b : B) : rChkF b = checkF numF b := by
  unfold rChkF checkF
  rw [form_eq]
  by_cases h1 : b.count > 96 ∨ deepF b > 24
  · rw [if_pos h1, if_pos h1]
  rw [if_neg h1, if_neg h1]
  by_cases h2 : b.kind = 10 ∨ b.kind = 12 ∨ rightF numF b = false
  · rw [if_pos h2, if_pos h2]
  rw [if_neg h2, if_neg h2]
  have hr : rightF numF b = true := by
    cases hh : rightF numF b with
    | true => rfl
    | false => exact absurd (.inr (.inr hh)) h2
  have hp : ∀ x ∈ pL b, rightF numF x = true := fun x hx => pL_right numF b x hx hr
  have hk : ∀ x ∈ pL b, 1 ≤ x.kind ∧ x.kind ≤ 14 := fun x hx => num_kind (right_num (hp x hx))
  have hn : ∀ x ∈ pL b, 0 ≤ x.node ∧ x.node < 24 := fun x hx => by
    have := hp x hx
    rw [rightF_eq] at this
    simp only [Bool.and_eq_true, decide_eq_true_eq] at this
    exact ⟨this.1.1.1.2, this.1.1.2⟩
  have hmem : ∀ i ∈ nodesL (pL b), 0 ≤ i ∧ i < 24 := fun i hi => by
    unfold nodesL at hi
    obtain ⟨x, hx, he⟩ := List.mem_filterMap.1 hi
    split at he
    · cases he
    · cases he; exact hn x hx
  have hd : dupF (itemsF b (-1) 0 0) [] = false ↔ ((List.range' 0 24).any fun i : Nat => decide (timesF i b > 1)) = false := by
    rw [dupF_ok, items_pL, List.any_eq_false]
    constructor
    · rintro ⟨h, _⟩ i _
      have := nodup_count.1 h i
      rw [times_count _ b hk]
      simp; omega
    · intro h
      refine ⟨nodup_count.2 fun i => ?_, fun n _ => by simp⟩
      by_cases hi : i ∈ nodesL (pL b)
      · have hb := hmem i hi
        have := h i.toNat (List.mem_range'.2 ⟨i.toNat, by omega, by omega⟩)
        rw [times_count _ b hk, Int.toNat_of_nonneg hb.1] at this
        simp at this; omega
      · rw [List.count_eq_zero_of_not_mem hi]; omega
  cases h3 : dupF (itemsF b (-1) 0 0) [] with
  | false => rw [hd.1 h3]
  | true =>
    cases h4 : (List.range' 0 24).any fun i : Nat => decide (timesF i b > 1) with
    | true => rfl
    | false => rw [hd.2 h4] at h3; cases h3
end Go.Eng
