/- Each function of the program, walked over plain data: what it comes to, at all arguments. -/
import Derived.Test.YthodghlpcklaeaaDoorMb
import Derived.Test.YthodghlpcklaeaaDoorEf
open Go Go.Proofs
namespace Go.Eng
set_option linter.unusedSimpArgs false
set_option linter.unusedVariables false
set_option maxRecDepth 10000
set_option maxHeartbeats 8000000
attribute [go_sem] aMakeV
def lkBad (n : Int) (e : Lk) : Bool := decide (e.src < -1) || decide (e.src ≥ n) || decide (e.dst < -1) || decide (e.dst ≥ n)
def cI (l : List Lk) (i : Int) : Nat := l.countP fun e => decide (e.dst = i)
def cO (l : List Lk) (i : Int) : Nat := l.countP fun e => decide (e.src = i)
def inner (l : List Lk) : List Lk := l.filter fun e => decide (e.src ≥ 0) && decide (e.dst ≥ 0)
def kidBad (ls : List Lk) (k : B) (i : Int) : Bool := if k.kind ≠ 12 then decide ((cI ls i : Int) ≠ 1 ∨ (cO ls i : Int) ≠ 1)
  else decide (k.x = 1 ∧ ((cI ls i : Int) ≠ 1 ∨ (cO ls i : Int) < 2)) || (decide (k.x = 3 ∧ ((cI ls i : Int) ≠ 1 ∨ (cO ls i : Int) ≠ k.conds.length)) || decide (k.x.tmod 2 = 0 ∧ ¬ ((cI ls i : Int) > 1 ∧ (cO ls i : Int) = 1)))
def kidsBad (ls : List Lk) : List B → Nat → Bool
  | [], _ => false
  | k :: l, i => kidBad ls k i || kidsBad ls l (i + 1)
def linkedF (b : B) : Bool := if b.links.any (lkBad b.kids.length) = true then false else if (cI b.links (-1) : Int) ≠ 1 ∨ (cO b.links (-1) : Int) ≠ 1 ∨ b.links.length > 40 ∨ b.kids.length > 64 then false
  else if kidsBad b.links b.kids 0 = true then false else decide ((ordF b.kids.length (inner b.links)).2 = 0)
def RwK (l : List Lk) : Option Blk := some (.rows 2 (l.map Lk.row))
attribute [go_sem] RwK
theorem rep_iRow (n : Nat) (b : Int) : List.replicate n [D.sc (.int .i64 b)] = (List.replicate n b).map iRow := by rw [List.map_replicate]; rfl
attribute [go_sem] rep_iRow
def cnts (b : B) (j : Nat) (ins outs : List Int) : Prop := ins.length = b.kids.length + 1 ∧ outs.length = b.kids.length + 1 ∧ (∀ k, k ≤ b.kids.length → 0 ≤ gt ins k ∧ gt ins k + cI (b.links.drop j) (k - 1) = cI b.links (k - 1)) ∧
  (∀ k, k ≤ b.kids.length → 0 ≤ gt outs k ∧ gt outs k + cO (b.links.drop j) (k - 1) = cO b.links (k - 1))
theorem cI_le (l : List Lk) (i : Int) : cI l i ≤ l.length := List.countP_le_length
theorem cO_le (l : List Lk) (i : Int) : cO l i ≤ l.length := List.countP_le_length
theorem cnts_I {b : B} {j : Nat} {ins outs : List Int} {d : Int} (h : cnts b j ins outs) (hs : b.links.length ≤ 1000000000000) (h1 : -1 ≤ d) (h2 : d < b.kids.length) : 0 ≤ gt ins (d + 1).toNat ∧ gt ins (d + 1).toNat ≤ 1000000000000 := by
  have := h.2.2.1 (d + 1).toNat (by omega)
  have := cI_le b.links ((d + 1).toNat - 1)
  omega
theorem cnts_O {b : B} {j : Nat} {ins outs : List Int} {d : Int} (h : cnts b j ins outs) (hs : b.links.length ≤ 1000000000000) (h1 : -1 ≤ d) (h2 : d < b.kids.length) : 0 ≤ gt outs (d + 1).toNat ∧ gt outs (d + 1).toNat ≤ 1000000000000 := by
  have := h.2.2.2 (d + 1).toNat (by omega)
  have := cO_le b.links ((d + 1).toNat - 1)
  omega
theorem gt_rep (n k : Nat) (x : Int) (h : k < n) : gt (List.replicate n x) k = x := by simp [gt, List.getD, h]
theorem cnts_0 (b : B) : cnts b 0 (List.replicate (b.kids.length + 1) 0) (List.replicate (b.kids.length + 1) 0) := by
  refine ⟨by simp, by simp, fun k hk => ?_, fun k hk => ?_⟩
  · rw [gt_rep _ _ _ (by omega)]; simp
  · rw [gt_rep _ _ _ (by omega)]; simp
theorem gtI_set (s : List Int) (i j : Nat) (b : Int) (h : i < s.length) : gt (s.set i b) j = if i = j then b else gt s j := by
  unfold gt
  rw [List.getD_eq_getElem?_getD, List.getElem?_set, List.getD_eq_getElem?_getD]
  split
  · rename_i e; subst e; simp [h]
  · rfl
theorem cI_cons (e : Lk) (l : List Lk) (i : Int) : cI (e :: l) i = cI l i + (if e.dst = i then 1 else 0) := by simp [cI, List.countP_cons]
theorem cO_cons (e : Lk) (l : List Lk) (i : Int) : cO (e :: l) i = cO l i + (if e.src = i then 1 else 0) := by simp [cO, List.countP_cons]
theorem cnts_s {b : B} {j : Nat} {ins outs : List Int} (h : cnts b j ins outs) (hj : j < b.links.length) (h1 : -1 ≤ (gt b.links j).src) (h2 : -1 ≤ (gt b.links j).dst) (h3 : (gt b.links j).src < b.kids.length) (h4 : (gt b.links j).dst < b.kids.length) :
    cnts b (j + 1) (ins.set ((gt b.links j).dst + 1).toNat (gt ins ((gt b.links j).dst + 1).toNat + 1)) (outs.set ((gt b.links j).src + 1).toNat (gt outs ((gt b.links j).src + 1).toNat + 1)) := by
  obtain ⟨a1, a2, a3, a4⟩ := h
  refine ⟨by simpa using a1, by simpa using a2, fun k hk => ?_, fun k hk => ?_⟩
  · have := a3 k hk
    rw [drop_gt hj, cI_cons] at this
    rw [gtI_set _ _ _ _ (by omega)]
    split
    · rename_i e; subst e
      rw [if_pos (by omega)] at this; omega
    · rw [if_neg (by omega)] at this; omega
  · have := a4 k hk
    rw [drop_gt hj, cO_cons] at this
    rw [gtI_set _ _ _ _ (by omega)]
    split
    · rename_i e; subst e
      rw [if_pos (by omega)] at this; omega
    · rw [if_neg (by omega)] at this; omega
theorem lk_bad {b : B} {j : Nat} (hj : j < b.links.length) (h : lkBad b.kids.length (gt b.links j) = true) : linkedF b = false := by
  rw [linkedF, if_pos (List.any_eq_true.2 ⟨_, gt_mem hj, h⟩)]
theorem bad_drop {n : Int} {l : List Lk} {j : Nat} (hj : j < l.length) (h : lkBad n (gt l j) = false) : (l.drop j).any (lkBad n) = (l.drop (j + 1)).any (lkBad n) := by
  rw [drop_gt hj, List.any_cons, h, Bool.false_or]
theorem inner_t {l : List Lk} {j : Nat} (hj : j < l.length) (h1 : (gt l j).src ≥ 0) (h2 : (gt l j).dst ≥ 0) : inner (l.drop j) = gt l j :: inner (l.drop (j + 1)) := by
  rw [drop_gt hj, inner, List.filter_cons, if_pos (by simp [h1, h2])]; rfl
theorem inner_f {l : List Lk} {j : Nat} (hj : j < l.length) (h : ¬ ((gt l j).src ≥ 0 ∧ (gt l j).dst ≥ 0)) : inner (l.drop j) = inner (l.drop (j + 1)) := by
  rw [drop_gt hj, inner, List.filter_cons, if_neg (by simpa using h)]; rfl
theorem kidBad_iff (ls : List Lk) (k : B) (i : Int) : kidBad ls k i = true ↔ (k.kind ≠ 12 ∧ ((cI ls i : Int) ≠ 1 ∨ (cO ls i : Int) ≠ 1)) ∨ (k.kind = 12 ∧ ((k.x = 1 ∧ ((cI ls i : Int) ≠ 1 ∨ (cO ls i : Int) < 2)) ∨ (k.x = 3 ∧ ((cI ls i : Int) ≠ 1 ∨ (cO ls i : Int) ≠ k.conds.length)) ∨ (k.x.tmod 2 = 0 ∧ ¬ ((cI ls i : Int) > 1 ∧ (cO ls i : Int) = 1)))) := by
  unfold kidBad
  by_cases h : k.kind = 12
  · rw [if_neg (by omega)]
    simp only [Bool.or_eq_true, decide_eq_true_eq, h, true_and, not_true, ne_eq, false_and, false_or]
  · rw [if_pos h]
    simp only [decide_eq_true_eq, h, false_and, or_false, ne_eq, not_false_eq_true, true_and]
theorem kids_bad {ls : List Lk} {ks : List B} {i : Nat} (hi : i < ks.length) (h : kidBad ls (gt ks i) i = true) : kidsBad ls (ks.drop i) i = true := by
  rw [drop_gt hi, kidsBad, h, Bool.true_or]
theorem kids_ok {ls : List Lk} {ks : List B} {i : Nat} (hi : i < ks.length) (h : ¬ kidBad ls (gt ks i) i = true) : kidsBad ls (ks.drop i) i = kidsBad ls (ks.drop (i + 1)) (i + 1) := by
  rw [drop_gt hi, kidsBad, Bool.eq_false_iff.2 h, Bool.false_or]
theorem linked_ok (b : B) (hs : b.size < 1000000000000) : AFn env 39 [b.a] [] (aB (linkedF b)) [] := by
  have hz := B.size_eq b
  have hk := B.len_le b.kids
  refine afn_body Tryd.func39 rfl (by decide) ?_
  simp only [Tryd.ntmps39, Tryd.results39, List.length_cons, List.length_nil, List.cons_append, List.nil_append, Nat.reduceAdd, Nat.reduceSub, List.replicate]
  refine awp_seq ?_
  refine awp_region ?_
  refine zS ?_
  refine awp_wk (wk_vnew (s := 1) none (by decide)) ?_
  refine awp_wk (wk_vnew (s := 1) none (by decide)) ?_
  refine zT ?_
  refine awp_seq ?_
  refine awp_draw2 4 9 1 1 2 1 (by decide) (by decide) rfl rfl (by decide) (by decide) (by decide) ?_
  simp only [List.set_cons_succ, List.set_cons_zero]
  iterate 4 (refine fo_p (by simp (disch := omega) only [go_sem, Bool.not_not, List.mem_singleton, forall_eq, ↓reduceIte, if_pos, rowsAt_map, wrap64, wrapu8, List.getElem?_cons_zero, List.getElem?_cons_succ, Int.reduceToNat, Nat.reduceAdd, Nat.reduceBEq, Bool.or_false, Bool.false_or, Bool.true_or, Nat.reduceSub, Nat.reduceMul, Int.reduceAdd, Int.reduceEq, Int.reduceLT, Int.reduceLE, Int.reduceNeg, Nat.reduceLT, Nat.reduceLeDiff, Nat.reduceEqDiff]; rfl) rfl (by decide) (by decide) rfl rfl ?_; simp only [go_sem, Bool.not_not, List.mem_singleton, forall_eq, ↓reduceIte, if_pos, rowsAt_map, wrap64, wrapu8, List.getElem?_cons_zero, List.getElem?_cons_succ, Int.reduceToNat, Nat.reduceAdd, Nat.reduceBEq, Bool.or_false, Bool.false_or, Bool.true_or, Nat.reduceSub, Nat.reduceMul, Int.reduceAdd, Int.reduceEq, Int.reduceLT, Int.reduceLE, Int.reduceNeg, Nat.reduceLT, Nat.reduceLeDiff, Nat.reduceEqDiff])
  refine fo_1 rfl (by simp (disch := omega) only [go_sem, Bool.not_not, List.mem_singleton, forall_eq, ↓reduceIte, if_pos, rowsAt_map, wrap64, wrapu8, List.getElem?_cons_zero, List.getElem?_cons_succ, Int.reduceToNat, Nat.reduceAdd, Nat.reduceBEq, Bool.or_false, Bool.false_or, Bool.true_or, Nat.reduceSub, Nat.reduceMul, Int.reduceAdd, Int.reduceEq, Int.reduceLT, Int.reduceLE, Int.reduceNeg, Nat.reduceLT, Nat.reduceLeDiff, Nat.reduceEqDiff]; rfl) rfl ?_
  refine zT ?_
  iterate 4 (refine fo_p (by simp (disch := omega) only [go_sem, Bool.not_not, List.mem_singleton, forall_eq, ↓reduceIte, if_pos, rowsAt_map, wrap64, wrapu8, List.getElem?_cons_zero, List.getElem?_cons_succ, Int.reduceToNat, Nat.reduceAdd, Nat.reduceBEq, Bool.or_false, Bool.false_or, Bool.true_or, Nat.reduceSub, Nat.reduceMul, Int.reduceAdd, Int.reduceEq, Int.reduceLT, Int.reduceLE, Int.reduceNeg, Nat.reduceLT, Nat.reduceLeDiff, Nat.reduceEqDiff]; rfl) rfl (by decide) (by decide) rfl rfl ?_; simp only [go_sem, Bool.not_not, List.mem_singleton, forall_eq, ↓reduceIte, if_pos, rowsAt_map, wrap64, wrapu8, List.getElem?_cons_zero, List.getElem?_cons_succ, Int.reduceToNat, Nat.reduceAdd, Nat.reduceBEq, Bool.or_false, Bool.false_or, Bool.true_or, Nat.reduceSub, Nat.reduceMul, Int.reduceAdd, Int.reduceEq, Int.reduceLT, Int.reduceLE, Int.reduceNeg, Nat.reduceLT, Nat.reduceLeDiff, Nat.reduceEqDiff])
  refine fo_2 rfl (by simp (disch := omega) only [go_sem, Bool.not_not, List.mem_singleton, forall_eq, ↓reduceIte, if_pos, rowsAt_map, wrap64, wrapu8, List.getElem?_cons_zero, List.getElem?_cons_succ, Int.reduceToNat, Nat.reduceAdd, Nat.reduceBEq, Bool.or_false, Bool.false_or, Bool.true_or, Nat.reduceSub, Nat.reduceMul, Int.reduceAdd, Int.reduceEq, Int.reduceLT, Int.reduceLE, Int.reduceNeg, Nat.reduceLT, Nat.reduceLeDiff, Nat.reduceEqDiff]; rfl) rfl (by decide) ?_
  refine zT ?_
  iterate 2 (refine fo_q (fun H2 => by simp only [go_sem, Bool.not_not, List.mem_singleton, forall_eq, ↓reduceIte, if_pos, rowsAt_map, wrap64, wrapu8, List.getElem?_cons_zero, List.getElem?_cons_succ, Int.reduceToNat, Nat.reduceAdd, Nat.reduceBEq, Bool.or_false, Bool.false_or, Bool.true_or, Nat.reduceSub, Nat.reduceMul, Int.reduceAdd, Int.reduceEq, Int.reduceLT, Int.reduceLE, Int.reduceNeg, Nat.reduceLT, Nat.reduceLeDiff, Nat.reduceEqDiff]; rfl) rfl (by decide) (by decide) ?_; simp only [go_sem, Bool.not_not, List.mem_singleton, forall_eq, ↓reduceIte, if_pos, rowsAt_map, wrap64, wrapu8, List.getElem?_cons_zero, List.getElem?_cons_succ, Int.reduceToNat, Nat.reduceAdd, Nat.reduceBEq, Bool.or_false, Bool.false_or, Bool.true_or, Nat.reduceSub, Nat.reduceMul, Int.reduceAdd, Int.reduceEq, Int.reduceLT, Int.reduceLE, Int.reduceNeg, Nat.reduceLT, Nat.reduceLeDiff, Nat.reduceEqDiff])
  refine fo_e ?_
  rw [show ((b.kids.length : Int) + 1).toNat = b.kids.length + 1 by omega]
  refine awp_seq ?_
  refine awp_region ?_
  refine zT ?_
  refine awp_wk (wk_virt none (i := 5) (s := 2) (by decide) rfl) ?_
  refine zT ?_
  repeat' first
  | ((with_reducible refine awp_seqQ ?_); intro _ _)
  | ((with_reducible refine awp_region ?_); refine zS ?_)
  | with_reducible refine awp_block ?_
  refine awp_loopT (fun z : Nat × List Int × List Int × List Lk => z.1 ≤ b.links.length ∧ cnts b z.1 z.2.1 z.2.2.1 ∧ z.2.2.2 ++ inner (b.links.drop z.1) = inner b.links ∧ b.links.any (lkBad b.kids.length) = (b.links.drop z.1).any (lkBad b.kids.length)) (fun z => b.links.length - z.1) (fun z => [(28, aI z.1), (5, OwnK 3 z.2.2.2.length)]) (fun z => [some (.box b.bs), RwG z.2.1, RwG z.2.2.1, RwK z.2.2.2]) (0, List.replicate (b.kids.length + 1) 0, List.replicate (b.kids.length + 1) 0, []) ⟨by simp, cnts_0 b, by simp, by simp⟩ (by exact zwl) ?_
  rintro ⟨j, ins, outs, es⟩ ⟨h1, h2, h3, h4⟩
  simp only at h1 h2 h3 h4
  have hil := h2.1
  have hol := h2.2.1
  have hI : -1 ≤ (gt b.links j).dst → (gt b.links j).dst < b.kids.length → 0 ≤ gt ins ((gt b.links j).dst + 1).toNat ∧ gt ins ((gt b.links j).dst + 1).toNat ≤ 1000000000000 := fun q1 q2 => cnts_I h2 (by omega) q1 q2
  have hO : -1 ≤ (gt b.links j).src → (gt b.links j).src < b.kids.length → 0 ≤ gt outs ((gt b.links j).src + 1).toNat ∧ gt outs ((gt b.links j).src + 1).toNat ≤ 1000000000000 := fun q1 q2 => cnts_O h2 (by omega) q1 q2
  have hel : es.length ≤ 1000000000000 := by
    have := congrArg List.length h3
    have := List.length_filter_le (fun e : Lk => decide (e.src ≥ 0) && decide (e.dst ≥ 0)) b.links
    simp only [List.length_append, inner] at *; omega
  refine zT ?_
  repeat' first
  | ((with_reducible refine awp_seqQ ?_); intro _ _)
  | ((with_reducible refine awp_region ?_); refine zS ?_)
  | ((with_reducible refine Gd_nd ?_ ?_) <;> intro hb hb2 <;> first | contradiction | (exfalso; omega) | (refine zH hb2 ?_; try clear hb2))
  | ((with_reducible refine Gd_d ?_ ?_) <;> intro hb hb2 <;> first | contradiction | (exfalso; omega) | (refine zH hb2 ?_; try clear hb2))
  | ((with_reducible refine AWP_c ?_); refine zcdT ?_)
  | ((with_reducible refine AWP_c ?_); refine zcdF ?_)
  | ((with_reducible refine AWP_c ?_); refine zcdD ?_ ?_ <;> intro hb hb2 <;> first | contradiction | (exfalso; omega) | ((try refine zH hb2 ?_); try clear hb2))
  | ((with_reducible refine awp_skip ?_); try refine zS ?_)
  | with_reducible refine awp_block ?_
  | ((with_reducible refine awp_exit ?_); try refine zS ?_)
  | ((with_reducible refine awp_ret ?_); refine q_step (by assumption) ?_)
  | with_reducible refine fin_r ?_
  | ((with_reducible refine q_step (by assumption) ?_); try refine zS ?_)
  all_goals first
    | (rw [lk_bad (j := j) (by omega) (by simp [lkBad, *]; done)]; done)
    | exact ⟨(j + 1, ins.set ((gt b.links j).dst + 1).toNat (gt ins ((gt b.links j).dst + 1).toNat + 1), outs.set ((gt b.links j).src + 1).toNat (gt outs ((gt b.links j).src + 1).toNat + 1), es ++ [gt b.links j]), ⟨by simp only; omega, cnts_s h2 (by omega) (by omega) (by omega) (by omega) (by omega), by rw [← h3, inner_t (j := j) (by omega) (by omega) (by omega)]; simp, by rw [h4, bad_drop (j := j) (by omega) (by simp [lkBad]; omega)]⟩, by simp only; omega, wk_cl 4 (by decide) (by simp) (by simp only [go_sem, Bool.not_not, List.mem_singleton, forall_eq, ↓reduceIte, if_pos, rowsAt_map, wrap64, wrapu8, List.getElem?_cons_zero, List.getElem?_cons_succ, Int.reduceToNat, Nat.reduceAdd, Nat.reduceBEq, Bool.or_false, Bool.false_or, Bool.true_or, Nat.reduceSub, Nat.reduceMul, Int.reduceAdd, Int.reduceEq, Int.reduceLT, Int.reduceLE, Int.reduceNeg, Nat.reduceLT, Nat.reduceLeDiff, Nat.reduceEqDiff]; try simp) (by simp only [go_sem, Bool.not_not, List.mem_singleton, forall_eq, ↓reduceIte, if_pos, rowsAt_map, wrap64, wrapu8, List.getElem?_cons_zero, List.getElem?_cons_succ, Int.reduceToNat, Nat.reduceAdd, Nat.reduceBEq, Bool.or_false, Bool.false_or, Bool.true_or, Nat.reduceSub, Nat.reduceMul, Int.reduceAdd, Int.reduceEq, Int.reduceLT, Int.reduceLE, Int.reduceNeg, Nat.reduceLT, Nat.reduceLeDiff, Nat.reduceEqDiff, List.map_append]; try simp [go_sem])⟩
    | exact ⟨(j + 1, ins.set ((gt b.links j).dst + 1).toNat (gt ins ((gt b.links j).dst + 1).toNat + 1), outs.set ((gt b.links j).src + 1).toNat (gt outs ((gt b.links j).src + 1).toNat + 1), es), ⟨by simp only; omega, cnts_s h2 (by omega) (by omega) (by omega) (by omega) (by omega), by rw [← h3, inner_f (j := j) (by omega) (by omega)], by rw [h4, bad_drop (j := j) (by omega) (by simp [lkBad]; omega)]⟩, by simp only; omega, wk_cl 4 (by decide) (by simp) (by simp only [go_sem, Bool.not_not, List.mem_singleton, forall_eq, ↓reduceIte, if_pos, rowsAt_map, wrap64, wrapu8, List.getElem?_cons_zero, List.getElem?_cons_succ, Int.reduceToNat, Nat.reduceAdd, Nat.reduceBEq, Bool.or_false, Bool.false_or, Bool.true_or, Nat.reduceSub, Nat.reduceMul, Int.reduceAdd, Int.reduceEq, Int.reduceLT, Int.reduceLE, Int.reduceNeg, Nat.reduceLT, Nat.reduceLeDiff, Nat.reduceEqDiff]; try simp) (by simp only [go_sem, Bool.not_not, List.mem_singleton, forall_eq, ↓reduceIte, if_pos, rowsAt_map, wrap64, wrapu8, List.getElem?_cons_zero, List.getElem?_cons_succ, Int.reduceToNat, Nat.reduceAdd, Nat.reduceBEq, Bool.or_false, Bool.false_or, Bool.true_or, Nat.reduceSub, Nat.reduceMul, Int.reduceAdd, Int.reduceEq, Int.reduceLT, Int.reduceLE, Int.reduceNeg, Nat.reduceLT, Nat.reduceLeDiff, Nat.reduceEqDiff]; try simp [go_sem])⟩
    | skip
  all_goals
    have hj : j = b.links.length := by omega
    subst hj
    rw [List.drop_length] at h3 h4
    have h4 : b.links.any (lkBad b.kids.length) = false := h4
    have he : es = inner b.links := by rw [← h3]; simp [inner]
    subst he
    have hI2 : ∀ k, k ≤ b.kids.length → gt ins k = cI b.links (k - 1) := fun k hk => by have := (h2.2.2.1 k hk).2; rw [List.drop_length] at this; simpa [cI] using this
    have hO2 : ∀ k, k ≤ b.kids.length → gt outs k = cO b.links (k - 1) := fun k hk => by have := (h2.2.2.2 k hk).2; rw [List.drop_length] at this; simpa [cO] using this
    have hI0 : gt ins 0 = cI b.links (-1) := hI2 0 (by omega)
    have hO0 : gt outs 0 = cO b.links (-1) := hO2 0 (by omega)
  all_goals try (rw [linkedF, if_neg (by simp [h4]), if_pos (by omega)]; done)
  have h0 : linkedF b = if kidsBad b.links b.kids 0 = true then false else decide ((ordF b.kids.length (inner b.links)).2 = 0) := by
    rw [linkedF, if_neg (by simp [h4]), if_neg (by omega)]
  refine awp_loopT (fun i : Nat => i ≤ b.kids.length ∧ kidsBad b.links b.kids 0 = kidsBad b.links (b.kids.drop i) i) (fun i => b.kids.length - i) (fun i => [(114, aI i)]) (fun _ => [some (.box b.bs), RwG ins, RwG outs, RwK (inner b.links)]) 0 ⟨by omega, rfl⟩ (by exact zwl) ?_
  rintro i ⟨g1, g2⟩
  have hI3 : i < b.kids.length → (cI b.links i : Int) = gt ins ((i : Int) + 1).toNat := fun h => by rw [show ((i : Int) + 1).toNat = i + 1 by omega, hI2 (i + 1) (by omega)]; congr 2; omega
  have hO3 : i < b.kids.length → (cO b.links i : Int) = gt outs ((i : Int) + 1).toNat := fun h => by rw [show ((i : Int) + 1).toNat = i + 1 by omega, hO2 (i + 1) (by omega)]; congr 2; omega
  refine zT ?_
  repeat' first
  | ((with_reducible refine awp_seqQ ?_); intro _ _)
  | ((with_reducible refine awp_region ?_); refine zS ?_)
  | ((with_reducible refine Gd_d ?_ ?_) <;> intro hb hb2 <;> first | contradiction | (exfalso; omega) | (refine zH hb2 ?_; try clear hb2))
  | ((with_reducible refine awp_drawnC ?_ ?_); rfl; refine zS ?_)
  | ((with_reducible refine AWP_c ?_); refine zcdT ?_)
  | ((with_reducible refine AWP_c ?_); refine zcdF ?_)
  | ((with_reducible refine AWP_c ?_); refine zcdN ?_ ?_ <;> intro hb hb2 <;> first | contradiction | (exfalso; omega) | ((try refine zH hb2 ?_); try clear hb2))
  | ((with_reducible refine AWP_c ?_); refine zcdD ?_ ?_ <;> intro hb hb2 <;> first | contradiction | (exfalso; omega) | ((try refine zH hb2 ?_); try clear hb2))
  | ((with_reducible refine awp_skip ?_); try refine zS ?_)
  | with_reducible refine awp_block ?_
  | ((with_reducible refine awp_exit ?_); try refine zS ?_)
  | ((with_reducible refine CallK_id ?_); refine zcF ?_; refine ⟨_, by first | exact order_ok b.kids.length (inner b.links) (fun q0 q1 => acyclic q0 q1) | fail, fun _ => rfl, fun _ => rfl, rfl, ?_⟩; try refine zS ?_)
  | ((with_reducible refine awp_ret ?_); refine q_step (by assumption) ?_)
  | with_reducible refine fin_r ?_
  | ((with_reducible refine q_step (by assumption) ?_); try refine zS ?_)
  all_goals first
    | (rw [h0, g2, kids_bad (i := i) (by omega) (by rw [kidBad_iff]; omega), if_pos rfl]; done)
    | exact ⟨i + 1, ⟨by omega, by rw [g2, kids_ok (i := i) (by omega) (by rw [kidBad_iff]; omega)]⟩, by omega, (by exact zwc 4)⟩
    | skip
  rw [h0, g2, List.drop_eq_nil_of_le (by omega), kidsBad, if_neg (by simp)]
end Go.Eng
open Go Go.Proofs
namespace Go.Eng
set_option linter.unusedSimpArgs false
set_option linter.unusedVariables false
set_option maxRecDepth 10000
set_option maxHeartbeats 8000000
structure Gr where
  ns : List Nd
  fs : List Fl
def Gr.a (n : Gr) : A := .agg [.d (.fz (n.ns.map Nd.row)), .d (.fz (n.fs.map Fl.row))]
def Gr.bs (n : Gr) : List C := [.d (.fz (n.ns.map Nd.row)), .d (.fz (n.fs.map Fl.row))]
attribute [go_sem] Gr.a Gr.bs
theorem ofN_ok (t : T) (k : Int) (hs : t.size < 4611686018427387904) : AFn env 70 [t.a, aI k] [] (aB (ofF t k)) [] := by
  refine afn_body Tryd.func70 rfl (by decide) ?_
  simp only [Tryd.ntmps70, Tryd.results70, List.length_cons, List.length_nil, List.cons_append, List.nil_append, Nat.reduceAdd, Nat.reduceSub, List.replicate]
  repeat' first
  | ((with_reducible refine awp_seqQ ?_); intro _ _)
  | ((with_reducible refine awp_region ?_); refine zS ?_)
  | ((with_reducible refine Gd_d ?_ ?_) <;> intro hb hb2 <;> first | contradiction | (exfalso; omega) | (refine zH hb2 ?_; try clear hb2))
  | ((with_reducible refine CallK_id ?_); refine zcF ?_; refine ⟨_, by first | exact checkT_ok t hs | fail, fun _ => rfl, fun _ => rfl, rfl, ?_⟩; try refine zS ?_)
  | ((with_reducible refine awp_ret ?_); refine q_step (by assumption) ?_)
  | with_reducible refine fin_r ?_
  | ((with_reducible refine q_step (by assumption) ?_); try refine zS ?_)
  all_goals simp [go_sem, ofF, *]
def noneF (t : T) : Bool := decide (t.op = 0) && decide (t.n = 0) && decide (t.kids.length = 0)
theorem noneN_ok (t : T) : AFn env 71 [t.a] [] (aB (noneF t)) [] := by
  refine afn_body Tryd.func71 rfl (by decide) ?_
  simp only [Tryd.ntmps71, Tryd.results71, List.length_cons, List.length_nil, List.cons_append, List.nil_append, Nat.reduceAdd, Nat.reduceSub, List.replicate]
  repeat' first
  | ((with_reducible refine awp_seqQ ?_); intro _ _)
  | ((with_reducible refine awp_region ?_); refine zS ?_)
  | ((with_reducible refine Gd_d ?_ ?_) <;> intro hb hb2 <;> first | contradiction | (exfalso; omega) | (refine zH hb2 ?_; try clear hb2))
  | ((with_reducible refine awp_ret ?_); refine q_step (by assumption) ?_)
  | with_reducible refine fin_r ?_
  | ((with_reducible refine q_step (by assumption) ?_); try refine zS ?_)
  all_goals simp [go_sem, noneF, *]
  all_goals omega
theorem start1_ok (d : Nd) : AFn env 77 [d.a] [] (aB (decide (d.kind = 1))) [] := by
  refine afn_body Tryd.func77 rfl (by decide) ?_
  simp only [Tryd.ntmps77, Tryd.results77, List.length_cons, List.length_nil, List.cons_append, List.nil_append, Nat.reduceAdd, Nat.reduceSub, List.replicate]
  repeat' first
  | ((with_reducible refine awp_seqQ ?_); intro _ _)
  | ((with_reducible refine awp_region ?_); refine zS ?_)
  | ((with_reducible refine awp_ret ?_); refine q_step (by assumption) ?_)
  | with_reducible refine fin_r ?_
  | ((with_reducible refine q_step (by assumption) ?_); try refine zS ?_)
  all_goals rfl
theorem end1_ok (d : Nd) : AFn env 78 [d.a] [] (aB (decide (d.kind = 2))) [] := by
  refine afn_body Tryd.func78 rfl (by decide) ?_
  simp only [Tryd.ntmps78, Tryd.results78, List.length_cons, List.length_nil, List.cons_append, List.nil_append, Nat.reduceAdd, Nat.reduceSub, List.replicate]
  repeat' first
  | ((with_reducible refine awp_seqQ ?_); intro _ _)
  | ((with_reducible refine awp_region ?_); refine zS ?_)
  | ((with_reducible refine awp_ret ?_); refine q_step (by assumption) ?_)
  | with_reducible refine fin_r ?_
  | ((with_reducible refine q_step (by assumption) ?_); try refine zS ?_)
  all_goals rfl
theorem idxN_ok (F : FuncId) (p : Nd → Bool) (l : List Nd) (hl : l.length < 4611686018427387904) (h : ∀ i, i < l.length → AFn env F [(gt l i).a] [] (aB (p (gt l i))) []) :
    AFn env 76 [aF (l.map Nd.row), .c (.clo (.func F) [])] [] (aI (idxF p l 0)) [] := by
  refine afn_body Tryd.func76 rfl (by decide) ?_
  simp only [Tryd.ntmps76, Tryd.results76, List.length_cons, List.length_nil, List.cons_append, List.nil_append, Nat.reduceAdd, Nat.reduceSub, List.replicate]
  repeat' first
  | ((with_reducible refine awp_seqQ ?_); intro _ _)
  | ((with_reducible refine awp_region ?_); refine zS ?_)
  | with_reducible refine awp_block ?_
  refine awp_loopT (fun i : Nat => i ≤ l.length ∧ idxF p l 0 = idxF p (l.drop i) i) (fun i => l.length - i) (fun i => [(8, aI i)]) (fun _ => []) 0 ⟨by omega, rfl⟩ (by exact zwl) ?_
  rintro i ⟨h1, h2⟩
  refine zT ?_
  repeat' first
  | ((with_reducible refine awp_seqQ ?_); intro _ _)
  | ((with_reducible refine awp_region ?_); refine zS ?_)
  | ((with_reducible refine AWP_c ?_); refine zcdD ?_ ?_ <;> intro hb hb2 <;> first | contradiction | (exfalso; omega) | ((try refine zH hb2 ?_); try clear hb2))
  | ((with_reducible refine AWP_c ?_); refine zcdB ?_ ?_ <;> intro hb <;> first | contradiction | (try refine zH hb ?_))
  | ((with_reducible refine awp_skip ?_); try refine zS ?_)
  | with_reducible refine awp_block ?_
  | ((with_reducible refine awp_exit ?_); try refine zS ?_)
  | ((with_reducible refine CallK_id ?_); refine zcF ?_; refine ⟨_, by first | exact h i (by omega) | fail, fun _ => rfl, fun _ => rfl, rfl, ?_⟩; try refine zS ?_)
  | ((with_reducible refine awp_ret ?_); refine q_step (by assumption) ?_)
  | with_reducible refine fin_r ?_
  | ((with_reducible refine q_step (by assumption) ?_); try refine zS ?_)
  · rw [h2, drop_gt (by omega), idxF, if_pos ‹_›]
  · exact ⟨i + 1, ⟨by omega, by rw [h2, drop_gt (by omega), idxF, if_neg (by simp [*])]⟩, by omega, wk_le (by simp only [go_sem, Bool.not_not, List.mem_singleton, forall_eq, ↓reduceIte, if_pos, rowsAt_map, wrap64, wrapu8, List.getElem?_cons_zero, List.getElem?_cons_succ, Int.reduceToNat, Nat.reduceAdd, Nat.reduceBEq, Bool.or_false, Bool.false_or, Bool.true_or, Nat.reduceSub, Nat.reduceMul, Int.reduceAdd, Int.reduceEq, Int.reduceLT, Int.reduceLE, Int.reduceNeg, Nat.reduceLT, Nat.reduceLeDiff, Nat.reduceEqDiff]; simp) (by simp only [go_sem, Bool.not_not, List.mem_singleton, forall_eq, ↓reduceIte, if_pos, rowsAt_map, wrap64, wrapu8, List.getElem?_cons_zero, List.getElem?_cons_succ, Int.reduceToNat, Nat.reduceAdd, Nat.reduceBEq, Bool.or_false, Bool.false_or, Bool.true_or, Nat.reduceSub, Nat.reduceMul, Int.reduceAdd, Int.reduceEq, Int.reduceLT, Int.reduceLE, Int.reduceNeg, Nat.reduceLT, Nat.reduceLeDiff, Nat.reduceEqDiff])⟩
  · rw [h2, List.drop_eq_nil_of_le (by omega), idxF]
def startF (n : Gr) : Int := idxF (fun d : Nd => decide (d.kind = 1)) n.ns 0
def endF (n : Gr) : Int := idxF (fun d : Nd => decide (d.kind = 2)) n.ns 0
theorem start_ok (n : Gr) (hl : n.ns.length < 4611686018427387904) : AFn env 60 [n.a] [] (aI (startF n)) [] := by
  refine afn_body Tryd.func60 rfl (by decide) ?_
  simp only [Tryd.ntmps60, Tryd.results60, List.length_cons, List.length_nil, List.cons_append, List.nil_append, Nat.reduceAdd, Nat.reduceSub, List.replicate]
  repeat' first
  | ((with_reducible refine awp_seqQ ?_); intro _ _)
  | ((with_reducible refine awp_region ?_); refine zS ?_)
  | ((with_reducible refine CallK_id ?_); refine zcF ?_; refine ⟨_, by first | exact idxN_ok 77 (fun d => decide (d.kind = 1)) n.ns hl (fun i _ => start1_ok (gt n.ns i)) | fail, fun _ => rfl, fun _ => rfl, rfl, ?_⟩; try refine zS ?_)
  | ((with_reducible refine awp_ret ?_); refine q_step (by assumption) ?_)
  | with_reducible refine fin_r ?_
  | ((with_reducible refine q_step (by assumption) ?_); try refine zS ?_)
  all_goals rfl
theorem end_ok (n : Gr) (hl : n.ns.length < 4611686018427387904) : AFn env 61 [n.a] [] (aI (endF n)) [] := by
  refine afn_body Tryd.func61 rfl (by decide) ?_
  simp only [Tryd.ntmps61, Tryd.results61, List.length_cons, List.length_nil, List.cons_append, List.nil_append, Nat.reduceAdd, Nat.reduceSub, List.replicate]
  repeat' first
  | ((with_reducible refine awp_seqQ ?_); intro _ _)
  | ((with_reducible refine awp_region ?_); refine zS ?_)
  | ((with_reducible refine CallK_id ?_); refine zcF ?_; refine ⟨_, by first | exact idxN_ok 78 (fun d => decide (d.kind = 2)) n.ns hl (fun i _ => end1_ok (gt n.ns i)) | fail, fun _ => rfl, fun _ => rfl, rfl, ?_⟩; try refine zS ?_)
  | ((with_reducible refine awp_ret ?_); refine q_step (by assumption) ?_)
  | with_reducible refine fin_r ?_
  | ((with_reducible refine q_step (by assumption) ?_); try refine zS ?_)
  all_goals rfl
def mostF (k : Int) : Int := if k = 3 ∨ k = 4 then 3 else if k = 8 then 4 else 0
def rightN (d : Nd) : Bool := (decide (d.kind ≠ 4) || ofF d.t 1) && decide (1 ≤ d.kind ∧ d.kind ≤ 8) && decide (0 ≤ d.x ∧ d.x ≤ mostF d.kind) && (decide (d.kind = 4) || noneF d.t)
theorem right_okN (d : Nd) (hs : d.t.size < 4611686018427387904) : AFn env 55 [d.a] [] (aB (rightN d)) [] := by
  refine afn_body Tryd.func55 rfl (by decide) ?_
  simp only [Tryd.ntmps55, Tryd.results55, List.length_cons, List.length_nil, List.cons_append, List.nil_append, Nat.reduceAdd, Nat.reduceSub, List.replicate]
  repeat' first
  | ((with_reducible refine awp_seqQ ?_); intro _ _)
  | ((with_reducible refine awp_region ?_); refine zS ?_)
  | ((with_reducible refine Gd_d ?_ ?_) <;> intro hb hb2 <;> first | contradiction | (exfalso; omega) | (refine zH hb2 ?_; try clear hb2))
  | ((with_reducible refine AWP_c ?_); refine zcdD ?_ ?_ <;> intro hb hb2 <;> first | contradiction | (exfalso; omega) | ((try refine zH hb2 ?_); try clear hb2))
  | ((with_reducible refine AWP_c ?_); refine zcdM ?_ ?_ <;> intro hb <;> first | contradiction | (try refine zH hb ?_))
  | ((with_reducible refine awp_skip ?_); try refine zS ?_)
  | with_reducible refine awp_block ?_
  | ((with_reducible refine awp_exit ?_); try refine zS ?_)
  | ((with_reducible refine CallK_id ?_); refine zcF ?_; refine ⟨_, by first | exact ofN_ok d.t 1 hs | exact noneN_ok d.t | exact noneN_ok t0 | fail, fun _ => rfl, fun _ => rfl, rfl, ?_⟩; try refine zS ?_)
  | ((with_reducible refine awp_ret ?_); refine q_step (by assumption) ?_)
  | with_reducible refine fin_r ?_
  | ((with_reducible refine q_step (by assumption) ?_); try refine zS ?_)
  all_goals first | (rw [rightN]; simp [go_sem, mostF, noneF, t0, T.op, T.n, T.kids, *]; done) | (rw [rightN]; simp [go_sem, mostF, noneF, t0, T.op, T.n, T.kids, *]; omega) | trace_state
end Go.Eng
open Go Go.Proofs
namespace Go.Eng
set_option linter.unusedSimpArgs false
set_option linter.unusedVariables false
set_option maxRecDepth 10000
set_option maxHeartbeats 8000000
def idxs (p : Fl → Bool) : List Fl → Nat → List Int
  | [], _ => []
  | f :: l, i => if p f = true then (i : Int) :: idxs p l (i + 1) else idxs p l (i + 1)
theorem idxs_len (p : Fl → Bool) : ∀ (l : List Fl) (i : Nat), (idxs p l i).length ≤ l.length
  | [], _ => by simp [idxs]
  | f :: l, i => by have := idxs_len p l (i + 1); rw [idxs]; split <;> simp <;> omega
theorem idxs_mem {p : Fl → Bool} {k : Int} : ∀ {l : List Fl} {i : Nat}, k ∈ idxs p l i → (i : Int) ≤ k ∧ k < i + l.length
  | [], i, h => by simp [idxs] at h
  | f :: l, i, h => by
    rw [idxs] at h
    split at h
    · rcases List.mem_cons.1 h with rfl | h
      · simp only [List.length_cons]; omega
      · have := idxs_mem h; simp only [List.length_cons]; omega
    · have := idxs_mem h; simp only [List.length_cons]; omega
theorem outs1_ok (f : Fl) (i : Int) : AFn env 84 [f.a, P0] [Rm i] (aB (decide (f.src = i))) [Rm i] := by
  refine afn_body Tryd.func84 rfl (by decide) ?_
  simp only [Tryd.ntmps84, Tryd.results84, List.length_cons, List.length_nil, List.cons_append, List.nil_append, Nat.reduceAdd, Nat.reduceSub, List.replicate]
  repeat' first
  | ((with_reducible refine awp_seqQ ?_); intro _ _)
  | ((with_reducible refine awp_region ?_); refine zS ?_)
  | ((with_reducible refine awp_ret ?_); refine q_step (by assumption) ?_)
  | with_reducible refine fin_r ?_
  | ((with_reducible refine q_step (by assumption) ?_); try refine zS ?_)
  all_goals rfl
theorem ins1_ok (f : Fl) (i : Int) : AFn env 86 [f.a, P0] [Rm i] (aB (decide (f.dst = i))) [Rm i] := by
  refine afn_body Tryd.func86 rfl (by decide) ?_
  simp only [Tryd.ntmps86, Tryd.results86, List.length_cons, List.length_nil, List.cons_append, List.nil_append, Nat.reduceAdd, Nat.reduceSub, List.replicate]
  repeat' first
  | ((with_reducible refine awp_seqQ ?_); intro _ _)
  | ((with_reducible refine awp_region ?_); refine zS ?_)
  | ((with_reducible refine awp_ret ?_); refine q_step (by assumption) ?_)
  | with_reducible refine fin_r ?_
  | ((with_reducible refine q_step (by assumption) ?_); try refine zS ?_)
  all_goals rfl
theorem flows_ok (F : FuncId) (p : Fl → Bool) (n : Gr) (i : Int) (hl : n.fs.length < 1000000000000) (h : ∀ f : Fl, AFn env F [f.a, P0] [Rm i] (aB (p f)) [Rm i]) :
    AFn env 83 [n.a, .c (.clo (.func F) [.ptr 0 0 0 0])] [Rm i] (aF ((idxs p n.fs 0).map iRow)) [Rm i] := by
  refine afn_body Tryd.func83 rfl (by decide) ?_
  simp only [Tryd.ntmps83, Tryd.results83, List.length_cons, List.length_nil, List.cons_append, List.nil_append, Nat.reduceAdd, Nat.reduceSub, List.replicate]
  iterate 2 (refine awp_seq ?_; refine awp_region ?_; refine zS ?_)
  refine awp_wk (wk_virt none (i := 5) (s := 1) (by decide) rfl) ?_
  refine zT ?_
  repeat' first
  | ((with_reducible refine awp_seqQ ?_); intro _ _)
  | ((with_reducible refine awp_region ?_); refine zS ?_)
  | with_reducible refine awp_block ?_
  refine awp_loopT (fun z : Nat × List Int => z.1 ≤ n.fs.length ∧ z.2 ++ idxs p (n.fs.drop z.1) z.1 = idxs p n.fs 0 ∧ z.2.length ≤ z.1) (fun z => n.fs.length - z.1) (fun z => [(5, OwnK 2 z.2.length), (11, aI z.1)]) (fun z => [Rm i, some (.box n.bs), RwG z.2]) (0, []) ⟨by simp, by simp, by simp⟩ (by exact zwl) ?_
  rintro ⟨j, o⟩ ⟨h1, h2, h3⟩
  simp only at h1 h2 h3
  refine zT ?_
  repeat' first
  | ((with_reducible refine awp_seqQ ?_); intro _ _)
  | ((with_reducible refine awp_region ?_); refine zS ?_)
  | ((with_reducible refine AWP_c ?_); refine zcdD ?_ ?_ <;> intro hb hb2 <;> first | contradiction | (exfalso; omega) | ((try refine zH hb2 ?_); try clear hb2))
  | ((with_reducible refine AWP_c ?_); refine zcdB ?_ ?_ <;> intro hb <;> first | contradiction | (try refine zH hb ?_))
  | ((with_reducible refine awp_skip ?_); try refine zS ?_)
  | with_reducible refine awp_block ?_
  | ((with_reducible refine awp_exit ?_); try refine zS ?_)
  | ((with_reducible refine CallK_id ?_); refine zcT [0] ?_; refine ⟨_, _, by first | exact h _ | fail, ?_⟩; try refine zS ?_)
  | ((with_reducible refine awp_ret ?_); refine q_step (by assumption) ?_)
  | ((with_reducible refine q_step (by assumption) ?_); try refine zS ?_)
  · exact ⟨(j + 1, o ++ [(j : Int)]), ⟨by simp only; omega, by rw [← h2, drop_gt (l := n.fs) (i := j) (by omega), idxs, if_pos ‹_›]; simp, by simp; omega⟩, by simp only; omega, wk_cl 3 (by decide) (by simp) (by simp only [go_sem, Bool.not_not, List.mem_singleton, forall_eq, ↓reduceIte, if_pos, rowsAt_map, wrap64, wrapu8, List.getElem?_cons_zero, List.getElem?_cons_succ, Int.reduceToNat, Nat.reduceAdd, Nat.reduceBEq, Bool.or_false, Bool.false_or, Bool.true_or, Nat.reduceSub, Nat.reduceMul, Int.reduceAdd, Int.reduceEq, Int.reduceLT, Int.reduceLE, Int.reduceNeg, Nat.reduceLT, Nat.reduceLeDiff, Nat.reduceEqDiff]; try simp) (by simp only [go_sem, Bool.not_not, List.mem_singleton, forall_eq, ↓reduceIte, if_pos, rowsAt_map, wrap64, wrapu8, List.getElem?_cons_zero, List.getElem?_cons_succ, Int.reduceToNat, Nat.reduceAdd, Nat.reduceBEq, Bool.or_false, Bool.false_or, Bool.true_or, Nat.reduceSub, Nat.reduceMul, Int.reduceAdd, Int.reduceEq, Int.reduceLT, Int.reduceLE, Int.reduceNeg, Nat.reduceLT, Nat.reduceLeDiff, Nat.reduceEqDiff, List.map_append]; try simp [go_sem])⟩
  · exact ⟨(j + 1, o), ⟨by simp only; omega, by rw [← h2, drop_gt (l := n.fs) (i := j) (by omega), idxs, if_neg (by simp [*])], by simp only; omega⟩, by simp only; omega, (by exact zwc 3)⟩
  refine fin_r ?_
  rw [List.drop_eq_nil_of_le (by omega), idxs, List.append_nil] at h2
  rw [h2]
def outsF (n : Gr) (i : Int) : List Int := idxs (fun f => decide (f.src = i)) n.fs 0
def insF (n : Gr) (i : Int) : List Int := idxs (fun f => decide (f.dst = i)) n.fs 0
theorem outs_ok (n : Gr) (i : Int) (hl : n.fs.length < 1000000000000) : AFn env 73 [n.a, aI i] [] (aF ((outsF n i).map iRow)) [] := by
  refine afn_body Tryd.func73 rfl (by decide) ?_
  simp only [Tryd.ntmps73, Tryd.results73, List.length_cons, List.length_nil, List.cons_append, List.nil_append, Nat.reduceAdd, Nat.reduceSub, List.replicate]
  repeat' first
  | ((with_reducible refine awp_seqQ ?_); intro _ _)
  | ((with_reducible refine awp_region ?_); refine zS ?_)
  | ((with_reducible refine CallK_id ?_); refine zcT [1] ?_; refine ⟨_, _, by first | exact flows_ok 84 (fun f => decide (f.src = i)) n i hl (fun f => outs1_ok f i) | fail, ?_⟩; try refine zS ?_)
  | ((with_reducible refine awp_ret ?_); refine q_step (by assumption) ?_)
  | with_reducible refine fin_r ?_
  | ((with_reducible refine q_step (by assumption) ?_); try refine zS ?_)
  all_goals rfl
theorem ins_ok (n : Gr) (i : Int) (hl : n.fs.length < 1000000000000) : AFn env 85 [n.a, aI i] [] (aF ((insF n i).map iRow)) [] := by
  refine afn_body Tryd.func85 rfl (by decide) ?_
  simp only [Tryd.ntmps85, Tryd.results85, List.length_cons, List.length_nil, List.cons_append, List.nil_append, Nat.reduceAdd, Nat.reduceSub, List.replicate]
  repeat' first
  | ((with_reducible refine awp_seqQ ?_); intro _ _)
  | ((with_reducible refine awp_region ?_); refine zS ?_)
  | ((with_reducible refine CallK_id ?_); refine zcT [1] ?_; refine ⟨_, _, by first | exact flows_ok 86 (fun f => decide (f.dst = i)) n i hl (fun f => ins1_ok f i) | fail, ?_⟩; try refine zS ?_)
  | ((with_reducible refine awp_ret ?_); refine q_step (by assumption) ?_)
  | with_reducible refine fin_r ?_
  | ((with_reducible refine q_step (by assumption) ?_); try refine zS ?_)
  all_goals rfl
def elsF (n : Gr) : List Int → Int
  | [] => 0
  | o :: l => (if (gt n.fs o.toNat).els = true then 1 else 0) + elsF n l
theorem elsF_le (n : Gr) : ∀ l : List Int, 0 ≤ elsF n l ∧ elsF n l ≤ l.length
  | [] => by simp [elsF]
  | o :: l => by have := elsF_le n l; rw [elsF]; simp only [List.length_cons]; split <;> omega
def timF (n : Gr) (l : List Int) : Bool := l.all fun o => decide ((gt n.ns (gt n.fs o.toNat).dst.toNat).kind = 8)
def fitsF (n : Gr) (i : Int) : Bool :=
  let k := (gt n.ns i.toNat).kind
  let o : Int := (outsF n i).length
  let m : Int := (insF n i).length
  if k = 1 then decide (m = 0) && decide (o = 1) else if k = 2 then decide (m = 1) && decide (o = 0) else if k = 7 then decide (m = 1) && decide (o > 1) && timF n (outsF n i)
  else if k = 5 ∨ k = 6 then (decide (m = 1 ∧ o > 1) && decide (k = 6 ∨ elsF n (outsF n i) = 1)) || decide (m > 1 ∧ o = 1) else decide (m = 1) && decide (o = 1)
theorem els_drop {n : Gr} {os : List Int} {j : Nat} (h : j < os.length) : elsF n (os.drop j) = (if (gt n.fs (gt os j).toNat).els = true then 1 else 0) + elsF n (os.drop (j + 1)) := by
  rw [drop_gt h, elsF]
theorem tim_drop {n : Gr} {os : List Int} {j : Nat} (h : j < os.length) : timF n (os.drop j) = (decide ((gt n.ns (gt n.fs (gt os j).toNat).dst.toNat).kind = 8) && timF n (os.drop (j + 1))) := by
  rw [drop_gt h, timF, List.all_cons]; rfl
theorem fits_ok (n : Gr) (i : Int) (hl : n.fs.length < 1000000000000) (hi0 : 0 ≤ i) (hi1 : i < n.ns.length) (hd : ∀ f ∈ n.fs, 0 ≤ f.dst ∧ f.dst < n.ns.length) : AFn env 75 [n.a, aI i] [] (aB (fitsF n i)) [] := by
  have hol : (outsF n i).length ≤ n.fs.length := idxs_len (fun f => decide (f.src = i)) n.fs 0
  have hil : (insF n i).length ≤ n.fs.length := idxs_len (fun f => decide (f.dst = i)) n.fs 0
  have hom : ∀ k ∈ outsF n i, 0 ≤ k ∧ k < n.fs.length := fun k hk => by have := idxs_mem hk; omega
  refine afn_body Tryd.func75 rfl (by decide) ?_
  simp only [Tryd.ntmps75, Tryd.results75, List.length_cons, List.length_nil, List.cons_append, List.nil_append, Nat.reduceAdd, Nat.reduceSub, List.replicate]
  repeat' first
  | ((with_reducible refine awp_seqQ ?_); intro _ _)
  | ((with_reducible refine awp_region ?_); refine zS ?_)
  | ((with_reducible refine awp_drawnA ?_ ?_); rfl; refine zS ?_)
  | ((with_reducible refine DStep_id ?_); refine zdP ?_; refine ⟨_, by first | exact outs_ok n i (by omega) | exact ins_ok n i (by omega) | fail, fun _ => rfl, fun _ => rfl, rfl, (fun h => by first | cases h | fail), ?_⟩; try refine zS ?_)
  | with_reducible refine awp_block ?_
  | ((with_reducible refine CallK_id ?_); refine zcF ?_; refine ⟨_, by first | exact outs_ok n i (by omega) | exact ins_ok n i (by omega) | fail, fun _ => rfl, fun _ => rfl, rfl, ?_⟩; try refine zS ?_)
  refine awp_loopT (fun z : Nat × Int × Bool => z.1 ≤ (outsF n i).length ∧ z.2.1 + elsF n ((outsF n i).drop z.1) = elsF n (outsF n i) ∧ (z.2.2 && timF n ((outsF n i).drop z.1)) = timF n (outsF n i) ∧ 0 ≤ z.2.1 ∧ z.2.1 ≤ z.1) (fun z => (outsF n i).length - z.1) (fun z => [(8, aI z.2.1), (9, aB z.2.2), (28, aI z.1)]) (fun z => [some (.box n.bs)]) (0, 0, true) ⟨by simp, by simp, by simp, by simp, by simp⟩ (by exact zwl) ?_
  rintro ⟨j, c, t⟩ ⟨h1, h2, h3, h4, h5⟩
  simp only at h1 h2 h3 h4 h5
  have hR : j < (outsF n i).length → 0 ≤ gt (outsF n i) j ∧ gt (outsF n i) j < n.fs.length := fun h => hom _ (gt_mem h)
  have hD : j < (outsF n i).length → 0 ≤ (gt n.fs (gt (outsF n i) j).toNat).dst ∧ (gt n.fs (gt (outsF n i) j).toNat).dst < n.ns.length := fun h => hd _ (gt_mem (by have := hR h; omega))
  have hE := elsF_le n (outsF n i)
  refine zT ?_
  repeat' first
  | ((with_reducible refine awp_seqQ ?_); intro _ _)
  | ((with_reducible refine awp_region ?_); refine zS ?_)
  | ((with_reducible refine Gd_nd ?_ ?_) <;> intro hb hb2 <;> first | contradiction | (exfalso; omega) | (refine zH hb2 ?_; try clear hb2))
  | ((with_reducible refine Gd_d ?_ ?_) <;> intro hb hb2 <;> first | contradiction | (exfalso; omega) | (refine zH hb2 ?_; try clear hb2))
  | ((with_reducible refine awp_drawnC ?_ ?_); rfl; refine zS ?_)
  | ((with_reducible refine CGd_b ?_ ?_) <;> intro hb <;> first | contradiction | refine zH hb ?_)
  | ((with_reducible refine AWP_c ?_); refine zcdT ?_)
  | ((with_reducible refine AWP_c ?_); refine zcdD ?_ ?_ <;> intro hb hb2 <;> first | contradiction | (exfalso; omega) | ((try refine zH hb2 ?_); try clear hb2))
  | ((with_reducible refine AWP_c ?_); refine zcdB ?_ ?_ <;> intro hb <;> first | contradiction | (try refine zH hb ?_))
  | ((with_reducible refine awp_skip ?_); try refine zS ?_)
  | with_reducible refine awp_block ?_
  | ((with_reducible refine awp_exit ?_); try refine zS ?_)
  | ((with_reducible refine awp_ret ?_); refine q_step (by assumption) ?_)
  | with_reducible refine fin_r ?_
  | ((with_reducible refine q_step (by assumption) ?_); try refine zS ?_)
  all_goals try (
    have hT1 := tim_drop (n := n) (os := outsF n i) (j := j) (by omega)
    have hE1 := els_drop (n := n) (os := outsF n i) (j := j) (by omega)
    simp only [*, ↓reduceIte, Bool.false_eq_true] at hE1
    first
    | (rename t = true => q1; rename (gt n.fs (gt (outsF n i) j).toNat).els = true => q2; exact ⟨(j + 1, c + 1, decide ((gt n.ns (gt n.fs (gt (outsF n i) j).toNat).dst.toNat).kind = 8)), ⟨by simp only; omega, by simp only; omega, by rw [← h3, hT1]; simp only [*, Bool.true_and, Bool.false_and], by simp only; omega, by simp only; omega⟩, by simp only; omega, (by exact zwc 1)⟩)
    | (rename t = false => q1; rename (gt n.fs (gt (outsF n i) j).toNat).els = true => q2; exact ⟨(j + 1, c + 1, false), ⟨by simp only; omega, by simp only; omega, by rw [← h3, hT1]; simp only [*, Bool.true_and, Bool.false_and], by simp only; omega, by simp only; omega⟩, by simp only; omega, (by exact zwc 1)⟩)
    | (rename t = true => q1; rename (gt n.fs (gt (outsF n i) j).toNat).els = false => q2; exact ⟨(j + 1, c, decide ((gt n.ns (gt n.fs (gt (outsF n i) j).toNat).dst.toNat).kind = 8)), ⟨by simp only; omega, by simp only; omega, by rw [← h3, hT1]; simp only [*, Bool.true_and, Bool.false_and], by simp only; omega, by simp only; omega⟩, by simp only; omega, (by exact zwc 1)⟩)
    | (rename t = false => q1; rename (gt n.fs (gt (outsF n i) j).toNat).els = false => q2; exact ⟨(j + 1, c, false), ⟨by simp only; omega, by simp only; omega, by rw [← h3, hT1]; simp only [*, Bool.true_and, Bool.false_and], by simp only; omega, by simp only; omega⟩, by simp only; omega, (by exact zwc 1)⟩)
    | skip)
  all_goals
    have hj : j = (outsF n i).length := by omega
    rw [List.drop_eq_nil_of_le (by omega), elsF] at h2
    rw [List.drop_eq_nil_of_le (by omega), timF, List.all_nil, Bool.and_true] at h3
    have h2 : c = elsF n (outsF n i) := by omega
    subst h2
    subst h3
    clear hE hR hD hom hd hol hil h1 h4 h5 hi0 hi1 hl h2
    unfold fitsF
    simp only
    generalize ((insF n i).length : Int) = m at *
    generalize ((outsF n i).length : Int) = o at *
    generalize (gt n.ns i.toNat).kind = k at *
    generalize timF n (outsF n i) = t at *
    generalize elsF n (outsF n i) = e at *
  all_goals first
    | (simp [*]; done)
    | (simp [*]; omega)
    | trace_state
end Go.Eng
open Go Go.Proofs
namespace Go.Eng
set_option linter.unusedSimpArgs false
set_option linter.unusedVariables false
set_option maxRecDepth 10000
set_option maxHeartbeats 8000000
theorem in1_ok (n : Gr) (i : Int) (hl : n.ns.length < 1000000000000) : AFn env 72 [aI i, P0] [some (.box n.bs)] (aB (inR n.ns.length i)) [some (.box n.bs)] := by
  refine afn_body Tryd.func72 rfl (by decide) ?_
  simp only [Tryd.ntmps72, Tryd.results72, List.length_cons, List.length_nil, List.cons_append, List.nil_append, Nat.reduceAdd, Nat.reduceSub, List.replicate]
  repeat' first
  | ((with_reducible refine awp_seqQ ?_); intro _ _)
  | ((with_reducible refine awp_region ?_); refine zS ?_)
  | ((with_reducible refine Gd_d ?_ ?_) <;> intro hb hb2 <;> first | contradiction | (exfalso; omega) | (refine zH hb2 ?_; try clear hb2))
  | ((with_reducible refine awp_ret ?_); refine q_step (by assumption) ?_)
  | with_reducible refine fin_r ?_
  | ((with_reducible refine q_step (by assumption) ?_); try refine zS ?_)
  all_goals first | (simp [go_sem, inR, *]; done) | (simp [go_sem, inR, *]; omega)
def leadsF (n : Gr) (f : Fl) : Bool := (inR n.ns.length f.src && (inR n.ns.length f.dst && decide (f.src ≠ f.dst))) &&
  (if (gt n.ns f.src.toNat).kind ≠ 5 ∨ (outsF n f.src).length < 2 then !f.els && noneF f.t else if f.els = true then noneF f.t else ofF f.t 2)
theorem leads_ok (n : Gr) (f : Fl) (hs : f.t.size < 4611686018427387904) (hn : n.ns.length < 1000000000000) (hf : n.fs.length < 1000000000000) : AFn env 57 [n.a, f.a] [] (aB (leadsF n f)) [] := by
  have hol : (outsF n f.src).length ≤ n.fs.length := idxs_len _ n.fs 0
  have hin : inR n.ns.length f.src = true → 0 ≤ f.src ∧ f.src < n.ns.length := fun h => by simpa [inR] using h
  refine afn_body Tryd.func57 rfl (by decide) ?_
  simp only [Tryd.ntmps57, Tryd.results57, List.length_cons, List.length_nil, List.cons_append, List.nil_append, Nat.reduceAdd, Nat.reduceSub, List.replicate]
  repeat' first
  | ((with_reducible refine awp_seqQ ?_); intro _ _)
  | ((with_reducible refine awp_region ?_); refine zS ?_)
  | ((with_reducible refine Gd_b ?_ ?_) <;> intro hb <;> first | contradiction | refine zH hb ?_)
  | ((with_reducible refine AWP_c ?_); refine zcdT ?_)
  | ((with_reducible refine AWP_c ?_); refine zcdD ?_ ?_ <;> intro hb hb2 <;> first | contradiction | (exfalso; omega) | ((try refine zH hb2 ?_); try clear hb2))
  | with_reducible refine awp_block ?_
  | ((with_reducible refine CallK_id ?_); refine zcT [0] ?_; refine ⟨_, _, by first | exact in1_ok n _ (by omega) | fail, ?_⟩; try refine zS ?_)
  | ((with_reducible refine awp_ret ?_); refine q_step (by assumption) ?_)
  | with_reducible refine fin_r ?_
  | ((with_reducible refine q_step (by assumption) ?_); try refine zS ?_)
  all_goals try (simp [go_sem, leadsF, *]; done)
  have hin := hin ‹_›
  refine zS ?_
  repeat' first
  | ((with_reducible refine awp_seqQ ?_); intro _ _)
  | ((with_reducible refine awp_region ?_); refine zS ?_)
  | ((with_reducible refine Gd_nb ?_ ?_) <;> intro hb <;> first | contradiction | refine zH hb ?_)
  | ((with_reducible refine Gd_d ?_ ?_) <;> intro hb hb2 <;> first | contradiction | (exfalso; omega) | (refine zH hb2 ?_; try clear hb2))
  | ((with_reducible refine AWP_c ?_); refine zcdT ?_)
  | ((with_reducible refine AWP_c ?_); refine zcdD ?_ ?_ <;> intro hb hb2 <;> first | contradiction | (exfalso; omega) | ((try refine zH hb2 ?_); try clear hb2))
  | ((with_reducible refine AWP_c ?_); refine zcdB ?_ ?_ <;> intro hb <;> first | contradiction | (try refine zH hb ?_))
  | ((with_reducible refine awp_skip ?_); try refine zS ?_)
  | ((with_reducible refine CallK_id ?_); refine zcF ?_; refine ⟨_, by first | exact noneN_ok _ | exact ofN_ok _ 2 hs | exact outs_ok n f.src (by omega) | fail, fun _ => rfl, fun _ => rfl, rfl, ?_⟩; try refine zS ?_)
  | ((with_reducible refine awp_ret ?_); refine q_step (by assumption) ?_)
  | with_reducible refine fin_r ?_
  | ((with_reducible refine q_step (by assumption) ?_); try refine zS ?_)
  all_goals (clear hin hol hs hn hf; simp [go_sem, leadsF, *]; try omega)
def plc (r : Int) (p : Nat → Bool) (l : List Nat) : List Lk := (l.filter p).map fun (i : Nat) => (⟨r, i⟩ : Lk)
theorem plc_len (r : Int) (p : Nat → Bool) (l : List Nat) : (plc r p l).length ≤ l.length := by rw [plc, List.length_map]; exact List.length_filter_le _ _
theorem plc_t {r : Int} {p : Nat → Bool} {n j : Nat} (h : j < n) (hp : p j = true) : plc r p (List.range' j (n - j)) = ⟨r, j⟩ :: plc r p (List.range' (j + 1) (n - (j + 1))) := by
  rw [show n - j = (n - (j + 1)) + 1 by omega, List.range'_succ, plc, List.filter_cons, if_pos hp]; rfl
theorem plc_f {r : Int} {p : Nat → Bool} {n j : Nat} (h : j < n) (hp : p j = false) : plc r p (List.range' j (n - j)) = plc r p (List.range' (j + 1) (n - (j + 1))) := by
  rw [show n - j = (n - (j + 1)) + 1 by omega, List.range'_succ, plc, List.filter_cons, if_neg (by simp [hp])]; rfl
def plF (r : Int) (n : Nat) (p : Nat → Bool) : List Lk := plc r p (List.range' 0 n)
theorem places1_ok (n : Gr) (r : Int) (m : Nat) (F : FuncId) (p : Nat → Bool) (hm : m < 1000000000000) (h : ∀ j : Nat, j < m → AFn env F ([aI j] ++ [.ptr 0 0 0 0].map .c) [some (.box n.bs)] (aB (p j)) [some (.box n.bs)]) :
    AFn env 53 [aI r, aI m, .c (.clo (.func F) [.ptr 0 0 0 0])] [some (.box n.bs)] (OwnK 1 (plF r m p).length) [some (.box n.bs), RwK (plF r m p)] := by
  refine afn_body Tryd.func53 rfl (by decide) ?_
  simp only [Tryd.ntmps53, Tryd.results53, List.length_cons, List.length_nil, List.cons_append, List.nil_append, Nat.reduceAdd, Nat.reduceSub, List.replicate]
  iterate 2 (refine awp_seq ?_; refine awp_region ?_; refine zS ?_)
  refine awp_wk (wk_virt none (i := 7) (s := 2) (by decide) rfl) ?_
  refine zT ?_
  repeat' first
  | ((with_reducible refine awp_seqQ ?_); intro _ _)
  | ((with_reducible refine awp_region ?_); refine zS ?_)
  | with_reducible refine awp_block ?_
  refine awp_loopT (fun z : Nat × List Lk => z.1 ≤ m ∧ z.2 ++ plc r p (List.range' z.1 (m - z.1)) = plF r m p ∧ z.2.length ≤ z.1) (fun z => m - z.1) (fun z => [(7, OwnK 1 z.2.length), (10, aI z.1)]) (fun z => [some (.box n.bs), RwK z.2]) (0, []) ⟨by simp, by simp [plF], by simp⟩ (by exact zwl) ?_
  rintro ⟨j, o⟩ ⟨h1, h2, h3⟩
  simp only at h1 h2 h3
  simp only [List.map, List.cons_append, List.nil_append] at h
  refine zT ?_
  repeat' first
  | ((with_reducible refine awp_seqQ ?_); intro _ _)
  | ((with_reducible refine awp_region ?_); refine zS ?_)
  | ((with_reducible refine AWP_c ?_); refine zcdD ?_ ?_ <;> intro hb hb2 <;> first | contradiction | (exfalso; omega) | ((try refine zH hb2 ?_); try clear hb2))
  | ((with_reducible refine AWP_c ?_); refine zcdB ?_ ?_ <;> intro hb <;> first | contradiction | (try refine zH hb ?_))
  | ((with_reducible refine awp_skip ?_); try refine zS ?_)
  | with_reducible refine awp_block ?_
  | ((with_reducible refine awp_exit ?_); try refine zS ?_)
  | ((with_reducible refine CallK_id ?_); refine zcT [0] ?_; refine ⟨_, _, by first | exact h j (by omega) | fail, ?_⟩; try refine zS ?_)
  | ((with_reducible refine awp_ret ?_); refine q_step (by assumption) ?_)
  | ((with_reducible refine q_step (by assumption) ?_); try refine zS ?_)
  · exact ⟨(j + 1, o ++ [⟨r, (j : Int)⟩]), ⟨by simp only; omega, by rw [← h2, plc_t (j := j) (by omega) ‹_›]; simp, by simp; omega⟩, by simp only; omega, wk_cl 2 (by decide) (by simp) (by simp only [go_sem, Bool.not_not, List.mem_singleton, forall_eq, ↓reduceIte, if_pos, rowsAt_map, wrap64, wrapu8, List.getElem?_cons_zero, List.getElem?_cons_succ, Int.reduceToNat, Nat.reduceAdd, Nat.reduceBEq, Bool.or_false, Bool.false_or, Bool.true_or, Nat.reduceSub, Nat.reduceMul, Int.reduceAdd, Int.reduceEq, Int.reduceLT, Int.reduceLE, Int.reduceNeg, Nat.reduceLT, Nat.reduceLeDiff, Nat.reduceEqDiff]; try simp) (by simp only [go_sem, Bool.not_not, List.mem_singleton, forall_eq, ↓reduceIte, if_pos, rowsAt_map, wrap64, wrapu8, List.getElem?_cons_zero, List.getElem?_cons_succ, Int.reduceToNat, Nat.reduceAdd, Nat.reduceBEq, Bool.or_false, Bool.false_or, Bool.true_or, Nat.reduceSub, Nat.reduceMul, Int.reduceAdd, Int.reduceEq, Int.reduceLT, Int.reduceLE, Int.reduceNeg, Nat.reduceLT, Nat.reduceLeDiff, Nat.reduceEqDiff, List.map_append]; try simp [go_sem])⟩
  · exact ⟨(j + 1, o), ⟨by simp only; omega, by rw [← h2, plc_f (j := j) (by omega) ‹_›], by simp only; omega⟩, by simp only; omega, (by exact zwc 2)⟩
  rw [show m - j = 0 by omega, List.range'_zero, plc] at h2
  simp only [List.filter_nil, List.map_nil, List.append_nil] at h2
  subst h2
  exact fin_own rfl rfl
def Rd (d : D) : Option Blk := some (.rows 1 [[d]])
attribute [go_sem] Rd
theorem places2_ok (d e : D) (r : Int) (m : Nat) (F : FuncId) (p : Nat → Bool) (hm : m < 1000000000000) (h : ∀ j : Nat, j < m → AFn env F ([aI j] ++ [.ptr 0 0 0 1, .ptr 1 0 0 1].map .c) [Rd d, Rd e] (aB (p j)) [Rd d, Rd e]) :
    AFn env 53 [aI r, aI m, .c (.clo (.func F) [.ptr 0 0 0 1, .ptr 1 0 0 1])] [Rd d, Rd e] (OwnK 2 (plF r m p).length) [Rd d, Rd e, RwK (plF r m p)] := by
  refine afn_body Tryd.func53 rfl (by decide) ?_
  simp only [Tryd.ntmps53, Tryd.results53, List.length_cons, List.length_nil, List.cons_append, List.nil_append, Nat.reduceAdd, Nat.reduceSub, List.replicate]
  iterate 2 (refine awp_seq ?_; refine awp_region ?_; refine zS ?_)
  refine awp_wk (wk_virt none (i := 7) (s := 2) (by decide) rfl) ?_
  refine zT ?_
  repeat' first
  | ((with_reducible refine awp_seqQ ?_); intro _ _)
  | ((with_reducible refine awp_region ?_); refine zS ?_)
  | with_reducible refine awp_block ?_
  refine awp_loopT (fun z : Nat × List Lk => z.1 ≤ m ∧ z.2 ++ plc r p (List.range' z.1 (m - z.1)) = plF r m p ∧ z.2.length ≤ z.1) (fun z => m - z.1) (fun z => [(7, OwnK 2 z.2.length), (10, aI z.1)]) (fun z => [Rd d, Rd e, RwK z.2]) (0, []) ⟨by simp, by simp [plF], by simp⟩ (by exact zwl) ?_
  rintro ⟨j, o⟩ ⟨h1, h2, h3⟩
  simp only at h1 h2 h3
  simp only [List.map, List.cons_append, List.nil_append] at h
  refine zT ?_
  repeat' first
  | ((with_reducible refine awp_seqQ ?_); intro _ _)
  | ((with_reducible refine awp_region ?_); refine zS ?_)
  | ((with_reducible refine AWP_c ?_); refine zcdD ?_ ?_ <;> intro hb hb2 <;> first | contradiction | (exfalso; omega) | ((try refine zH hb2 ?_); try clear hb2))
  | ((with_reducible refine AWP_c ?_); refine zcdB ?_ ?_ <;> intro hb <;> first | contradiction | (try refine zH hb ?_))
  | ((with_reducible refine awp_skip ?_); try refine zS ?_)
  | with_reducible refine awp_block ?_
  | ((with_reducible refine awp_exit ?_); try refine zS ?_)
  | ((with_reducible refine CallK_id ?_); refine zcT [0, 1] ?_; refine ⟨_, _, by first | exact h j (by omega) | fail, ?_⟩; try refine zS ?_)
  | ((with_reducible refine awp_ret ?_); refine q_step (by assumption) ?_)
  | ((with_reducible refine q_step (by assumption) ?_); try refine zS ?_)
  · exact ⟨(j + 1, o ++ [⟨r, (j : Int)⟩]), ⟨by simp only; omega, by rw [← h2, plc_t (j := j) (by omega) ‹_›]; simp, by simp; omega⟩, by simp only; omega, wk_cl 3 (by decide) (by simp) (by simp only [go_sem, Bool.not_not, List.mem_singleton, forall_eq, ↓reduceIte, if_pos, rowsAt_map, wrap64, wrapu8, List.getElem?_cons_zero, List.getElem?_cons_succ, Int.reduceToNat, Nat.reduceAdd, Nat.reduceBEq, Bool.or_false, Bool.false_or, Bool.true_or, Nat.reduceSub, Nat.reduceMul, Int.reduceAdd, Int.reduceEq, Int.reduceLT, Int.reduceLE, Int.reduceNeg, Nat.reduceLT, Nat.reduceLeDiff, Nat.reduceEqDiff]; try simp) (by simp only [go_sem, Bool.not_not, List.mem_singleton, forall_eq, ↓reduceIte, if_pos, rowsAt_map, wrap64, wrapu8, List.getElem?_cons_zero, List.getElem?_cons_succ, Int.reduceToNat, Nat.reduceAdd, Nat.reduceBEq, Bool.or_false, Bool.false_or, Bool.true_or, Nat.reduceSub, Nat.reduceMul, Int.reduceAdd, Int.reduceEq, Int.reduceLT, Int.reduceLE, Int.reduceNeg, Nat.reduceLT, Nat.reduceLeDiff, Nat.reduceEqDiff, List.map_append]; try simp [go_sem])⟩
  · exact ⟨(j + 1, o), ⟨by simp only; omega, by rw [← h2, plc_f (j := j) (by omega) ‹_›], by simp only; omega⟩, by simp only; omega, (by exact zwc 3)⟩
  rw [show m - j = 0 by omega, List.range'_zero, plc] at h2
  simp only [List.filter_nil, List.map_nil, List.append_nil] at h2
  subst h2
  exact fin_own rfl rfl
theorem places3_ok (n : Gr) (d e : D) (r : Int) (m : Nat) (F : FuncId) (p : Nat → Bool) (hm : m < 1000000000000) (h : ∀ j : Nat, j < m → AFn env F ([aI j] ++ [.ptr 0 0 0 0, .ptr 1 0 0 1, .ptr 2 0 0 1].map .c) [some (.box n.bs), Rd d, Rd e] (aB (p j)) [some (.box n.bs), Rd d, Rd e]) :
    AFn env 53 [aI r, aI m, .c (.clo (.func F) [.ptr 0 0 0 0, .ptr 1 0 0 1, .ptr 2 0 0 1])] [some (.box n.bs), Rd d, Rd e] (OwnK 3 (plF r m p).length) [some (.box n.bs), Rd d, Rd e, RwK (plF r m p)] := by
  refine afn_body Tryd.func53 rfl (by decide) ?_
  simp only [Tryd.ntmps53, Tryd.results53, List.length_cons, List.length_nil, List.cons_append, List.nil_append, Nat.reduceAdd, Nat.reduceSub, List.replicate]
  iterate 2 (refine awp_seq ?_; refine awp_region ?_; refine zS ?_)
  refine awp_wk (wk_virt none (i := 7) (s := 2) (by decide) rfl) ?_
  refine zT ?_
  repeat' first
  | ((with_reducible refine awp_seqQ ?_); intro _ _)
  | ((with_reducible refine awp_region ?_); refine zS ?_)
  | with_reducible refine awp_block ?_
  refine awp_loopT (fun z : Nat × List Lk => z.1 ≤ m ∧ z.2 ++ plc r p (List.range' z.1 (m - z.1)) = plF r m p ∧ z.2.length ≤ z.1) (fun z => m - z.1) (fun z => [(7, OwnK 3 z.2.length), (10, aI z.1)]) (fun z => [some (.box n.bs), Rd d, Rd e, RwK z.2]) (0, []) ⟨by simp, by simp [plF], by simp⟩ (by exact zwl) ?_
  rintro ⟨j, o⟩ ⟨h1, h2, h3⟩
  simp only at h1 h2 h3
  simp only [List.map, List.cons_append, List.nil_append] at h
  refine zT ?_
  repeat' first
  | ((with_reducible refine awp_seqQ ?_); intro _ _)
  | ((with_reducible refine awp_region ?_); refine zS ?_)
  | ((with_reducible refine AWP_c ?_); refine zcdD ?_ ?_ <;> intro hb hb2 <;> first | contradiction | (exfalso; omega) | ((try refine zH hb2 ?_); try clear hb2))
  | ((with_reducible refine AWP_c ?_); refine zcdB ?_ ?_ <;> intro hb <;> first | contradiction | (try refine zH hb ?_))
  | ((with_reducible refine awp_skip ?_); try refine zS ?_)
  | with_reducible refine awp_block ?_
  | ((with_reducible refine awp_exit ?_); try refine zS ?_)
  | ((with_reducible refine CallK_id ?_); refine zcT [0, 1, 2] ?_; refine ⟨_, _, by first | exact h j (by omega) | fail, ?_⟩; try refine zS ?_)
  | ((with_reducible refine awp_ret ?_); refine q_step (by assumption) ?_)
  | ((with_reducible refine q_step (by assumption) ?_); try refine zS ?_)
  · exact ⟨(j + 1, o ++ [⟨r, (j : Int)⟩]), ⟨by simp only; omega, by rw [← h2, plc_t (j := j) (by omega) ‹_›]; simp, by simp; omega⟩, by simp only; omega, wk_cl 4 (by decide) (by simp) (by simp only [go_sem, Bool.not_not, List.mem_singleton, forall_eq, ↓reduceIte, if_pos, rowsAt_map, wrap64, wrapu8, List.getElem?_cons_zero, List.getElem?_cons_succ, Int.reduceToNat, Nat.reduceAdd, Nat.reduceBEq, Bool.or_false, Bool.false_or, Bool.true_or, Nat.reduceSub, Nat.reduceMul, Int.reduceAdd, Int.reduceEq, Int.reduceLT, Int.reduceLE, Int.reduceNeg, Nat.reduceLT, Nat.reduceLeDiff, Nat.reduceEqDiff]; try simp) (by simp only [go_sem, Bool.not_not, List.mem_singleton, forall_eq, ↓reduceIte, if_pos, rowsAt_map, wrap64, wrapu8, List.getElem?_cons_zero, List.getElem?_cons_succ, Int.reduceToNat, Nat.reduceAdd, Nat.reduceBEq, Bool.or_false, Bool.false_or, Bool.true_or, Nat.reduceSub, Nat.reduceMul, Int.reduceAdd, Int.reduceEq, Int.reduceLT, Int.reduceLE, Int.reduceNeg, Nat.reduceLT, Nat.reduceLeDiff, Nat.reduceEqDiff, List.map_append]; try simp [go_sem])⟩
  · exact ⟨(j + 1, o), ⟨by simp only; omega, by rw [← h2, plc_f (j := j) (by omega) ‹_›], by simp only; omega⟩, by simp only; omega, (by exact zwc 4)⟩
  rw [show m - j = 0 by omega, List.range'_zero, plc] at h2
  simp only [List.filter_nil, List.map_nil, List.append_nil] at h2
  subst h2
  exact fin_own rfl rfl
end Go.Eng
open Go Go.Proofs
namespace Go.Eng
set_option linter.unusedSimpArgs false
set_option linter.unusedVariables false
set_option maxRecDepth 10000
set_option maxHeartbeats 8000000
theorem rowsAt1 (r : List D) : rowsAt [r] 0 = r := rfl
theorem mapCd1 (d : D) : List.map C.d [d] = [C.d d] := rfl
attribute [go_sem] rowsAt1 mapCd1 List.getElem?_nil
theorem plF_len (r : Int) (m : Nat) (p : Nat → Bool) : (plF r m p).length ≤ m := by have := plc_len r p (List.range' 0 m); simpa [plF] using this
structure GrOk (n : Gr) : Prop where
  hn : n.ns.length ≤ 1000000
  hf : n.fs.length ≤ 1000000
  ns : ∀ d ∈ n.ns, d.t.size < 4611686018427387904
  fs : ∀ f ∈ n.fs, f.t.size < 4611686018427387904
theorem all1_ok (n : Gr) (hg : GrOk n) (j : Nat) (hj : j < n.ns.length) : AFn env 54 [aI j, P0] [some (.box n.bs)] (aB (!rightN (gt n.ns j))) [some (.box n.bs)] := by
  refine afn_body Tryd.func54 rfl (by decide) ?_
  simp only [Tryd.ntmps54, Tryd.results54, List.length_cons, List.length_nil, List.cons_append, List.nil_append, Nat.reduceAdd, Nat.reduceSub, List.replicate]
  repeat' first
  | ((with_reducible refine awp_seqQ ?_); intro _ _)
  | ((with_reducible refine awp_region ?_); refine zS ?_)
  | ((with_reducible refine CallK_id ?_); refine zcF ?_; refine ⟨_, by first | exact right_okN (gt n.ns j) (hg.ns _ (gt_mem hj)) | fail, fun _ => rfl, fun _ => rfl, rfl, ?_⟩; try refine zS ?_)
  | ((with_reducible refine awp_ret ?_); refine q_step (by assumption) ?_)
  | with_reducible refine fin_r ?_
  | ((with_reducible refine q_step (by assumption) ?_); try refine zS ?_)
  all_goals rfl
theorem all2_ok (n : Gr) (hg : GrOk n) (j : Nat) (hj : j < n.fs.length) : AFn env 56 [aI j, P0] [some (.box n.bs)] (aB (!leadsF n (gt n.fs j))) [some (.box n.bs)] := by
  refine afn_body Tryd.func56 rfl (by decide) ?_
  simp only [Tryd.ntmps56, Tryd.results56, List.length_cons, List.length_nil, List.cons_append, List.nil_append, Nat.reduceAdd, Nat.reduceSub, List.replicate]
  repeat' first
  | ((with_reducible refine awp_seqQ ?_); intro _ _)
  | ((with_reducible refine awp_region ?_); refine zS ?_)
  | ((with_reducible refine awp_drawnC ?_ ?_); rfl; refine zS ?_)
  | ((with_reducible refine DStep_id ?_); refine zdW ?_; refine ⟨_, by first | exact leads_ok n (gt n.fs j) (hg.fs _ (gt_mem hj)) (by have := hg.hn; omega) (by have := hg.hf; omega) | fail, fun _ => rfl, fun _ => rfl, rfl, ?_⟩; try refine zS ?_)
  | ((with_reducible refine awp_ret ?_); refine q_step (by assumption) ?_)
  | with_reducible refine fin_r ?_
  | ((with_reducible refine q_step (by assumption) ?_); try refine zS ?_)
  all_goals rfl
def PR (i : Nat) : A := .c (.ptr i 0 0 1)
attribute [go_sem] PR
def inG (n : Gr) : Prop := ∀ f ∈ n.fs, 0 ≤ f.src ∧ f.src < n.ns.length ∧ 0 ≤ f.dst ∧ f.dst < n.ns.length
def third1F (n : Gr) (s e : Int) (j : Nat) : Bool := (!fitsF n j || (decide ((gt n.ns j).kind = 1) && decide ((j : Int) ≠ s))) || (decide ((gt n.ns j).kind = 2) && decide ((j : Int) ≠ e))
theorem third1_ok (n : Gr) (hg : GrOk n) (hi : inG n) (s e : Int) (j : Nat) (hj : j < n.ns.length) : AFn env 74 [aI j, P0, PR 1, PR 2] [some (.box n.bs), Rd (dI s), Rd (dI e)] (aB (third1F n s e j)) [some (.box n.bs), Rd (dI s), Rd (dI e)] := by
  refine afn_body Tryd.func74 rfl (by decide) ?_
  simp only [Tryd.ntmps74, Tryd.results74, List.length_cons, List.length_nil, List.cons_append, List.nil_append, Nat.reduceAdd, Nat.reduceSub, List.replicate]
  repeat' first
  | ((with_reducible refine awp_seqQ ?_); intro _ _)
  | ((with_reducible refine awp_region ?_); refine zS ?_)
  | ((with_reducible refine Gd_d ?_ ?_) <;> intro hb hb2 <;> first | contradiction | (exfalso; omega) | (refine zH hb2 ?_; try clear hb2))
  | ((with_reducible refine Gd_b ?_ ?_) <;> intro hb <;> first | contradiction | refine zH hb ?_)
  | ((with_reducible refine CallK_id ?_); refine zcF ?_; refine ⟨_, by first | exact fits_ok n j (by have := hg.hf; omega) (by omega) (by omega) (fun f hf => (hi f hf).2.2) | fail, fun _ => rfl, fun _ => rfl, rfl, ?_⟩; try refine zS ?_)
  | ((with_reducible refine awp_ret ?_); refine q_step (by assumption) ?_)
  | with_reducible refine fin_r ?_
  | ((with_reducible refine q_step (by assumption) ?_); try refine zS ?_)
  all_goals first | (simp [go_sem, third1F, *]; done) | (simp only [third1F, ‹fitsF n _ = _›]; simp [go_sem]; omega) | trace_state
def thirdF (n : Gr) : List Lk := plF 3 n.ns.length (third1F n (startF n) (endF n)) ++ (if startF n < 0 ∨ endF n < 0 then [⟨3, n.ns.length⟩] else [])
theorem third_ok (n : Gr) (hg : GrOk n) (hi : inG n) : AFn env 58 [n.a] [] (aF ((thirdF n).map Lk.row)) [] := by
  have hn := hg.hn
  have hpl := plF_len 3 n.ns.length (third1F n (startF n) (endF n))
  refine afn_body Tryd.func58 rfl (by decide) ?_
  simp only [Tryd.ntmps58, Tryd.results58, List.length_cons, List.length_nil, List.cons_append, List.nil_append, Nat.reduceAdd, Nat.reduceSub, List.replicate]
  refine awp_seq ?_
  refine awp_region ?_
  refine zS ?_
  refine awp_wk (wk_vnew (s := 1) none (by decide)) ?_
  refine awp_wk (wk_vnew (s := 1) none (by decide)) ?_
  refine zT ?_
  refine awp_seq ?_
  refine awp_drawV ⟨4, 5, 6, 7, 1, 1, 2, 1⟩ (by decide) (by decide) rfl rfl (by decide) (by decide) (by decide) ?_
  simp only [List.set_cons_succ, List.set_cons_zero]
  refine go_p (by simp only [go_sem, Bool.not_not, List.mem_singleton, forall_eq, ↓reduceIte, if_pos, rowsAt_map, wrap64, wrapu8, List.getElem?_cons_zero, List.getElem?_cons_succ, Int.reduceToNat, Nat.reduceAdd, Nat.reduceBEq, Bool.or_false, Bool.false_or, Bool.true_or, Nat.reduceSub, Nat.reduceMul, Int.reduceAdd, Int.reduceEq, Int.reduceLT, Int.reduceLE, Int.reduceNeg, Nat.reduceLT, Nat.reduceLeDiff, Nat.reduceEqDiff]; rfl) rfl (by decide) rfl rfl ?_
  refine zT ?_
  refine go_c ⟨_, rfl⟩ rfl (by simp only [go_sem, Bool.not_not, List.mem_singleton, forall_eq, ↓reduceIte, if_pos, rowsAt_map, wrap64, wrapu8, List.getElem?_cons_zero, List.getElem?_cons_succ, Int.reduceToNat, Nat.reduceAdd, Nat.reduceBEq, Bool.or_false, Bool.false_or, Bool.true_or, Nat.reduceSub, Nat.reduceMul, Int.reduceAdd, Int.reduceEq, Int.reduceLT, Int.reduceLE, Int.reduceNeg, Nat.reduceLT, Nat.reduceLeDiff, Nat.reduceEqDiff]) rfl (by decide) (start_ok n (by omega)) (fun _ => rfl) (fun _ => rfl) rfl ?_
  refine zT ?_
  refine go_p (by simp only [go_sem, Bool.not_not, List.mem_singleton, forall_eq, ↓reduceIte, if_pos, rowsAt_map, wrap64, wrapu8, List.getElem?_cons_zero, List.getElem?_cons_succ, Int.reduceToNat, Nat.reduceAdd, Nat.reduceBEq, Bool.or_false, Bool.false_or, Bool.true_or, Nat.reduceSub, Nat.reduceMul, Int.reduceAdd, Int.reduceEq, Int.reduceLT, Int.reduceLE, Int.reduceNeg, Nat.reduceLT, Nat.reduceLeDiff, Nat.reduceEqDiff]; rfl) rfl (by decide) rfl rfl ?_
  refine zT ?_
  refine go_c ⟨_, rfl⟩ rfl (by simp only [go_sem, Bool.not_not, List.mem_singleton, forall_eq, ↓reduceIte, if_pos, rowsAt_map, wrap64, wrapu8, List.getElem?_cons_zero, List.getElem?_cons_succ, Int.reduceToNat, Nat.reduceAdd, Nat.reduceBEq, Bool.or_false, Bool.false_or, Bool.true_or, Nat.reduceSub, Nat.reduceMul, Int.reduceAdd, Int.reduceEq, Int.reduceLT, Int.reduceLE, Int.reduceNeg, Nat.reduceLT, Nat.reduceLeDiff, Nat.reduceEqDiff]) rfl (by decide) (end_ok n (by omega)) (fun _ => rfl) (fun _ => rfl) rfl ?_
  refine zT ?_
  refine go_1 rfl rfl (by simp only [go_sem, Bool.not_not, List.mem_singleton, forall_eq, ↓reduceIte, if_pos, rowsAt_map, wrap64, wrapu8, List.getElem?_cons_zero, List.getElem?_cons_succ, Int.reduceToNat, Nat.reduceAdd, Nat.reduceBEq, Bool.or_false, Bool.false_or, Bool.true_or, Nat.reduceSub, Nat.reduceMul, Int.reduceAdd, Int.reduceEq, Int.reduceLT, Int.reduceLE, Int.reduceNeg, Nat.reduceLT, Nat.reduceLeDiff, Nat.reduceEqDiff]; rfl) rfl ?_
  refine zT ?_
  refine go_2 rfl rfl (by simp only [go_sem, Bool.not_not, List.mem_singleton, forall_eq, ↓reduceIte, if_pos, rowsAt_map, wrap64, wrapu8, List.getElem?_cons_zero, List.getElem?_cons_succ, Int.reduceToNat, Nat.reduceAdd, Nat.reduceBEq, Bool.or_false, Bool.false_or, Bool.true_or, Nat.reduceSub, Nat.reduceMul, Int.reduceAdd, Int.reduceEq, Int.reduceLT, Int.reduceLE, Int.reduceNeg, Nat.reduceLT, Nat.reduceLeDiff, Nat.reduceEqDiff]; rfl) rfl ?_
  refine zT ?_
  refine go_s1 rfl rfl (by decide) rfl rfl rfl rfl ?_
  refine zT ?_
  refine go_s2 rfl rfl (by decide) rfl rfl rfl rfl ?_
  refine zT ?_
  refine go_e ?_
  repeat' first
  | ((with_reducible refine awp_seqQ ?_); intro _ _)
  | ((with_reducible refine awp_region ?_); refine zS ?_)
  | ((with_reducible refine Gd_nd ?_ ?_) <;> intro hb hb2 <;> first | contradiction | (exfalso; omega) | (refine zH hb2 ?_; try clear hb2))
  | ((with_reducible refine AWP_c ?_); refine zcdT ?_)
  | ((with_reducible refine AWP_c ?_); refine zcdD ?_ ?_ <;> intro hb hb2 <;> first | contradiction | (exfalso; omega) | ((try refine zH hb2 ?_); try clear hb2))
  | ((with_reducible refine awp_skip ?_); try refine zS ?_)
  | ((with_reducible refine CallK_id ?_); refine zcT [0, 1, 2] ?_; refine ⟨_, _, by first | exact places3_ok n (dI (startF n)) (dI (endF n)) 3 n.ns.length 74 (third1F n (startF n) (endF n)) (by have := hg.hn; omega) (fun j hj => third1_ok n hg hi _ _ j hj) | fail, ?_⟩; try refine zS ?_)
  | ((with_reducible refine awp_ret ?_); refine q_step (by assumption) ?_)
  | ((with_reducible refine q_step (by assumption) ?_); try refine zS ?_)
  all_goals first
    | (refine fin_r ?_; rw [thirdF, if_neg (by omega)]; simp [go_sem]; done)
    | (refine fin_r (r0 := aF ((plF 3 n.ns.length (third1F n (startF n) (endF n))).map Lk.row ++ [[dI 3, dI n.ns.length]])) (H1 := [_, _, _, none, _]) ?_ (h2 := by simp [go_sem, frA, subR, List.take_of_length_le]; exact ⟨rfl, rfl, rfl, rfl⟩); rw [thirdF, if_pos (by omega)]; simp [go_sem]; done)
    | trace_state
end Go.Eng
open Go Go.Proofs
namespace Go.Eng
set_option linter.unusedSimpArgs false
set_option linter.unusedVariables false
set_option maxRecDepth 10000
set_option maxHeartbeats 8000000
def nextF (i : Int) (back : Bool) (f : Fl) : Option Int := if back = true then (if f.dst = i then some f.src else none) else if f.src = i then some f.dst else none
def nexts (n : Gr) (i : Int) (back : Bool) : List Int := n.fs.filterMap (nextF i back)
def metN (n : Gr) (back : Bool) : Nat → List Bool → List Int → List Bool
  | 0, s, _ => s
  | _ + 1, s, [] => s
  | k + 1, s, i :: t => if s.length ≤ i.toNat ∨ gb s i = true then metN n back k s t else metN n back k (s.set i.toNat true) (t ++ nexts n i back)
def meas (n : Gr) (s : List Bool) (t : List Int) : Nat := cf s * (n.fs.length + 1) + t.length
def metF (n : Gr) (from_ : Int) (back : Bool) : List Bool := metN n back (n.ns.length * (n.fs.length + 1) + 1) (List.replicate n.ns.length false) [from_]
theorem nexts_len (n : Gr) (i : Int) (back : Bool) : (nexts n i back).length ≤ n.fs.length := List.length_filterMap_le _ _
theorem metN_nil (n : Gr) (back : Bool) (k : Nat) (s : List Bool) : metN n back k s [] = s := by cases k <;> rfl
theorem meas_step {n : Gr} {s : List Bool} {i : Int} {t : List Int} {back : Bool} (h : ¬ (s.length ≤ i.toNat ∨ gb s i = true)) : meas n (s.set i.toNat true) (t ++ nexts n i back) ≤ cf s * (n.fs.length + 1) + t.length := by
  have hc := cf_set (s := s) (j := i.toNat) (by omega) (by have : ¬ gb s i = true := fun h' => h (.inr h'); simpa [gb] using this)
  have := nexts_len n i back
  unfold meas
  rw [← hc, Nat.add_mul, Nat.one_mul, List.length_append]
  omega
theorem metN_ge (n : Gr) (back : Bool) : ∀ (k : Nat) (s : List Bool) (t : List Int), meas n s t ≤ k → metN n back k s t = metN n back (meas n s t) s t := by
  intro k
  induction k using Nat.strongRecOn with
  | _ k ih =>
    intro s t h
    cases t with
    | nil => rw [metN_nil, metN_nil]
    | cons i t =>
      have hm : meas n s (i :: t) = (cf s * (n.fs.length + 1) + t.length) + 1 := by simp [meas]; omega
      rw [hm] at h ⊢
      obtain ⟨k, rfl⟩ : ∃ j, k = j + 1 := ⟨k - 1, by omega⟩
      rw [metN, metN]
      split
      · exact ih k (by omega) s t (by simp only [meas]; omega)
      · rename_i hc
        have h2 := meas_step (n := n) (t := t) (back := back) hc
        rw [ih k (by omega) _ _ (by omega), ih (cf s * (n.fs.length + 1) + t.length) (by omega) _ _ h2]
theorem metN_go {n : Gr} {back : Bool} {s : List Bool} {i : Int} {t : List Int} (h : ¬ (s.length ≤ i.toNat ∨ gb s i = true)) : metN n back (meas n s (i :: t)) s (i :: t) = metN n back (meas n (s.set i.toNat true) (t ++ nexts n i back)) (s.set i.toNat true) (t ++ nexts n i back) := by
  rw [show meas n s (i :: t) = (cf s * (n.fs.length + 1) + t.length) + 1 by simp [meas]; omega, metN, if_neg h, metN_ge _ _ _ _ _ (meas_step h)]
theorem metN_no {n : Gr} {back : Bool} {s : List Bool} {i : Int} {t : List Int} (h : gb s i = true) : metN n back (meas n s (i :: t)) s (i :: t) = metN n back (meas n s t) s t := by
  rw [show meas n s (i :: t) = meas n s t + 1 by simp [meas]; omega, metN, if_pos (.inr h)]
theorem metN_len (n : Gr) (back : Bool) : ∀ (k : Nat) (s : List Bool) (t : List Int), (metN n back k s t).length = s.length
  | 0, s, _ => rfl
  | _ + 1, s, [] => rfl
  | k + 1, s, i :: t => by
    rw [metN]
    split
    · exact metN_len n back k s t
    · rw [metN_len n back k]; simp
def RwO1 (s : List Bool) : Option Blk := some (.rows 1 (s.map bRow))
def OwnT (off len n : Nat) : A := .c (.own 2 off len n)
attribute [go_sem] OwnT
structure MetI (n : Gr) (from_ : Int) (back : Bool) (s : List Bool) (off len : Nat) (rs : List Int) : Prop where
  sl : s.length = n.ns.length
  ol : off + len = rs.length
  bd : rs.length + cf s * n.fs.length ≤ 1 + n.ns.length * n.fs.length
  rg : ∀ i ∈ rs, 0 ≤ i ∧ i < n.ns.length
  eq : metN n back (meas n s (rs.drop off)) s (rs.drop off) = metF n from_ back
theorem met_ok (n : Gr) (from_ : Int) (back : Bool) (hg : GrOk n) (hi : inG n) (h0 : 0 ≤ from_ ∧ from_ < n.ns.length) : AFn env 59 [n.a, aI from_, aB back] [] (aF ((metF n from_ back).map bRow)) [] := by
  have hn := hg.hn
  have hf := hg.hf
  have hb : n.ns.length * n.fs.length ≤ 1000000 * 1000000 := Nat.mul_le_mul hn hf
  refine afn_body Tryd.func59 rfl (by decide) ?_
  simp only [Tryd.ntmps59, Tryd.results59, List.length_cons, List.length_nil, List.cons_append, List.nil_append, Nat.reduceAdd, Nat.reduceSub, List.replicate]
  repeat' first
  | ((with_reducible refine awp_seqQ ?_); intro _ _)
  | ((with_reducible refine awp_region ?_); refine zS ?_)
  | with_reducible refine awp_block ?_
  refine awp_loopT (fun z : List Bool × Nat × Nat × List Int => MetI n from_ back z.1 z.2.1 z.2.2.1 z.2.2.2) (fun z => cf z.1 * (n.fs.length + 1) + z.2.2.1) (fun z => [(8, OwnT z.2.1 z.2.2.1 z.2.2.2.length)]) (fun z => [some (.box n.bs), RwO z.1, RwG z.2.2.2]) (List.replicate n.ns.length false, 0, 1, [from_]) ⟨by simp, by simp, by simp [cf_rep], by simpa using h0, by simp [metF, meas, cf_rep]⟩ (by exact zwl) ?_
  rintro ⟨s, off, len, rs⟩ ⟨h1, h2, h3, h4, h5⟩
  simp only at h1 h2 h3 h4 h5
  have hR : off < rs.length → 0 ≤ gt rs off ∧ gt rs off < n.ns.length := fun h => h4 _ (gt_mem h)
  refine zT ?_
  repeat' first
  | ((with_reducible refine awp_seqQ ?_); intro _ _)
  | ((with_reducible refine awp_region ?_); refine zS ?_)
  | ((with_reducible refine AWP_c ?_); refine zcdD ?_ ?_ <;> intro hb hb2 <;> first | contradiction | (exfalso; omega) | ((try refine zH hb2 ?_); try clear hb2))
  | ((with_reducible refine AWP_c ?_); refine zcdB ?_ ?_ <;> intro hb <;> first | contradiction | (try refine zH hb ?_))
  | ((with_reducible refine awp_skip ?_); try refine zS ?_)
  | with_reducible refine awp_block ?_
  | ((with_reducible refine awp_exit ?_); try refine zS ?_)
  | ((with_reducible refine awp_ret ?_); refine q_step (by assumption) ?_)
  | ((with_reducible refine q_step (by assumption) ?_); try refine zS ?_)
  rotate_right
  · have hl0 : len = 0 := by omega
    rw [List.drop_eq_nil_of_le (by omega), metN_nil] at h5
    simp only [← h1]
    refine fin_r ?_
    rw [h5]
  · have hd : rs.drop off = gt rs off :: rs.drop (off + 1) := drop_gt (by omega)
    exact ⟨(s, off + 1, len - 1, rs), ⟨h1, by simp only; omega, h3, h4, by rw [← h5, hd, metN_no (by simpa [gb] using ‹gt s _ = true›)]⟩, by simp only; omega, (by exact zwc 3)⟩
  have hd : rs.drop off = gt rs off :: rs.drop (off + 1) := drop_gt (by omega)
  have hR := hR (by omega)
  have hgs : ¬ (s.length ≤ (gt rs off).toNat ∨ gb s (gt rs off) = true) := by
    rintro (h | h)
    · omega
    · rw [gb, ‹gt s _ = false›] at h; cases h
  have hcf := cf_set (s := s) (j := (gt rs off).toNat) (by omega) ‹_›
  have hmu : cf s * n.fs.length = cf (s.set (gt rs off).toNat true) * n.fs.length + n.fs.length := by rw [← hcf, Nat.add_mul, Nat.one_mul]
  have hmu2 : cf s * (n.fs.length + 1) = cf (s.set (gt rs off).toNat true) * (n.fs.length + 1) + (n.fs.length + 1) := by rw [← hcf, Nat.add_mul, Nat.one_mul]
  rw [hd, metN_go hgs] at h5
  generalize hi0 : gt rs off = i0 at *
  refine awp_loopT (fun z : Nat × Nat × List Int => z.1 ≤ n.fs.length ∧ z.2.2 ++ (n.fs.drop z.1).filterMap (nextF i0 back) = rs ++ nexts n i0 back ∧ off + 1 + z.2.1 = z.2.2.length ∧ z.2.2.length ≤ rs.length + z.1) (fun z => n.fs.length - z.1) (fun z => [(8, OwnT (off + 1) z.2.1 z.2.2.length), (36, aI z.1)]) (fun z => [some (.box n.bs), RwO (s.set i0.toNat true), RwG z.2.2]) (0, len - 1, rs) ⟨by simp, by simp [nexts], by simp only; omega, by simp⟩ (by exact zwl) ?_
  rintro ⟨j, len2, rs2⟩ ⟨g1, g2, g3, g4⟩
  simp only at g1 g2 g3 g4
  refine zT ?_
  repeat' first
  | ((with_reducible refine awp_seqQ ?_); intro _ _)
  | ((with_reducible refine awp_region ?_); refine zS ?_)
  | ((with_reducible refine Gd_b ?_ ?_) <;> intro hb <;> first | contradiction | refine zH hb ?_)
  | ((with_reducible refine AWP_c ?_); refine zcdF ?_)
  | ((with_reducible refine AWP_c ?_); refine zcdD ?_ ?_ <;> intro hb hb2 <;> first | contradiction | (exfalso; omega) | ((try refine zH hb2 ?_); try clear hb2))
  | ((with_reducible refine awp_skip ?_); try refine zS ?_)
  | with_reducible refine awp_block ?_
  | ((with_reducible refine awp_exit ?_); try refine zS ?_)
  | ((with_reducible refine q_step (by assumption) ?_); try refine zS ?_)
  all_goals try (
    have hj : j < n.fs.length := by omega
    rw [drop_gt hj, List.filterMap_cons] at g2
    first
    | (rename back = true => q1; rename (gt n.fs j).dst = i0 => q2; have e : nextF i0 back (gt n.fs j) = some (gt n.fs j).src := (by simp [nextF, q1, q2]); simp only [e] at g2; exact ⟨(j + 1, len2 + 1, rs2 ++ [(gt n.fs j).src]), ⟨by simp only; omega, by simp only [List.append_assoc, List.singleton_append]; exact g2, by simp only [List.length_append, List.length_singleton]; omega, by simp only [List.length_append, List.length_singleton]; omega⟩, by simp only; omega, wk_cl 3 (by decide) (by simp) (by simp only [go_sem, Bool.not_not, List.mem_singleton, forall_eq, ↓reduceIte, if_pos, rowsAt_map, wrap64, wrapu8, List.getElem?_cons_zero, List.getElem?_cons_succ, Int.reduceToNat, Nat.reduceAdd, Nat.reduceBEq, Bool.or_false, Bool.false_or, Bool.true_or, Nat.reduceSub, Nat.reduceMul, Int.reduceAdd, Int.reduceEq, Int.reduceLT, Int.reduceLE, Int.reduceNeg, Nat.reduceLT, Nat.reduceLeDiff, Nat.reduceEqDiff]; (try simp); (try exact q1)) (by simp only [go_sem, Bool.not_not, List.mem_singleton, forall_eq, ↓reduceIte, if_pos, rowsAt_map, wrap64, wrapu8, List.getElem?_cons_zero, List.getElem?_cons_succ, Int.reduceToNat, Nat.reduceAdd, Nat.reduceBEq, Bool.or_false, Bool.false_or, Bool.true_or, Nat.reduceSub, Nat.reduceMul, Int.reduceAdd, Int.reduceEq, Int.reduceLT, Int.reduceLE, Int.reduceNeg, Nat.reduceLT, Nat.reduceLeDiff, Nat.reduceEqDiff, List.map_append]; try simp [go_sem])⟩)
    | (rename back = true => q1; rename ¬ (gt n.fs j).dst = i0 => q2; have e : nextF i0 back (gt n.fs j) = none := (by simp [nextF, q1, q2]); simp only [e] at g2; exact ⟨(j + 1, len2, rs2), ⟨by simp only; omega, g2, by simp only; omega, by simp only; omega⟩, by simp only; omega, wk_cl 3 (by decide) (by simp) (by simp only [go_sem, Bool.not_not, List.mem_singleton, forall_eq, ↓reduceIte, if_pos, rowsAt_map, wrap64, wrapu8, List.getElem?_cons_zero, List.getElem?_cons_succ, Int.reduceToNat, Nat.reduceAdd, Nat.reduceBEq, Bool.or_false, Bool.false_or, Bool.true_or, Nat.reduceSub, Nat.reduceMul, Int.reduceAdd, Int.reduceEq, Int.reduceLT, Int.reduceLE, Int.reduceNeg, Nat.reduceLT, Nat.reduceLeDiff, Nat.reduceEqDiff]; (try simp); (try exact q1)) (by simp only [go_sem, Bool.not_not, List.mem_singleton, forall_eq, ↓reduceIte, if_pos, rowsAt_map, wrap64, wrapu8, List.getElem?_cons_zero, List.getElem?_cons_succ, Int.reduceToNat, Nat.reduceAdd, Nat.reduceBEq, Bool.or_false, Bool.false_or, Bool.true_or, Nat.reduceSub, Nat.reduceMul, Int.reduceAdd, Int.reduceEq, Int.reduceLT, Int.reduceLE, Int.reduceNeg, Nat.reduceLT, Nat.reduceLeDiff, Nat.reduceEqDiff])⟩)
    | (rename back = false => q1; rename (gt n.fs j).src = i0 => q2; have e : nextF i0 back (gt n.fs j) = some (gt n.fs j).dst := (by simp [nextF, q1, q2]); simp only [e] at g2; exact ⟨(j + 1, len2 + 1, rs2 ++ [(gt n.fs j).dst]), ⟨by simp only; omega, by simp only [List.append_assoc, List.singleton_append]; exact g2, by simp only [List.length_append, List.length_singleton]; omega, by simp only [List.length_append, List.length_singleton]; omega⟩, by simp only; omega, wk_cl 3 (by decide) (by simp) (by simp only [go_sem, Bool.not_not, List.mem_singleton, forall_eq, ↓reduceIte, if_pos, rowsAt_map, wrap64, wrapu8, List.getElem?_cons_zero, List.getElem?_cons_succ, Int.reduceToNat, Nat.reduceAdd, Nat.reduceBEq, Bool.or_false, Bool.false_or, Bool.true_or, Nat.reduceSub, Nat.reduceMul, Int.reduceAdd, Int.reduceEq, Int.reduceLT, Int.reduceLE, Int.reduceNeg, Nat.reduceLT, Nat.reduceLeDiff, Nat.reduceEqDiff]; (try simp); (try exact q1)) (by simp only [go_sem, Bool.not_not, List.mem_singleton, forall_eq, ↓reduceIte, if_pos, rowsAt_map, wrap64, wrapu8, List.getElem?_cons_zero, List.getElem?_cons_succ, Int.reduceToNat, Nat.reduceAdd, Nat.reduceBEq, Bool.or_false, Bool.false_or, Bool.true_or, Nat.reduceSub, Nat.reduceMul, Int.reduceAdd, Int.reduceEq, Int.reduceLT, Int.reduceLE, Int.reduceNeg, Nat.reduceLT, Nat.reduceLeDiff, Nat.reduceEqDiff, List.map_append]; try simp [go_sem])⟩)
    | (rename back = false => q1; rename ¬ (gt n.fs j).src = i0 => q2; have e : nextF i0 back (gt n.fs j) = none := (by simp [nextF, q1, q2]); simp only [e] at g2; exact ⟨(j + 1, len2, rs2), ⟨by simp only; omega, g2, by simp only; omega, by simp only; omega⟩, by simp only; omega, wk_cl 3 (by decide) (by simp) (by simp only [go_sem, Bool.not_not, List.mem_singleton, forall_eq, ↓reduceIte, if_pos, rowsAt_map, wrap64, wrapu8, List.getElem?_cons_zero, List.getElem?_cons_succ, Int.reduceToNat, Nat.reduceAdd, Nat.reduceBEq, Bool.or_false, Bool.false_or, Bool.true_or, Nat.reduceSub, Nat.reduceMul, Int.reduceAdd, Int.reduceEq, Int.reduceLT, Int.reduceLE, Int.reduceNeg, Nat.reduceLT, Nat.reduceLeDiff, Nat.reduceEqDiff]; (try simp); (try exact q1)) (by simp only [go_sem, Bool.not_not, List.mem_singleton, forall_eq, ↓reduceIte, if_pos, rowsAt_map, wrap64, wrapu8, List.getElem?_cons_zero, List.getElem?_cons_succ, Int.reduceToNat, Nat.reduceAdd, Nat.reduceBEq, Bool.or_false, Bool.false_or, Bool.true_or, Nat.reduceSub, Nat.reduceMul, Int.reduceAdd, Int.reduceEq, Int.reduceLT, Int.reduceLE, Int.reduceNeg, Nat.reduceLT, Nat.reduceLeDiff, Nat.reduceEqDiff])⟩)
    | skip)
  have hj : j = n.fs.length := by omega
  subst hj
  rw [List.drop_length, List.filterMap_nil, List.append_nil] at g2
  subst g2
  refine ⟨(s.set i0.toNat true, off + 1, len2, rs ++ nexts n i0 back), ⟨by simpa using h1, g3, by simp only; omega, fun k hk => ?_, ?_⟩, by simp only; simp only [List.length_append] at g3 g4; omega, (by exact zwc 3)⟩
  · rcases List.mem_append.1 hk with hk | hk
    · exact h4 k hk
    · obtain ⟨f, hf1, hf2⟩ := List.mem_filterMap.1 hk
      have := hi f hf1
      unfold nextF at hf2
      split at hf2 <;> split at hf2 <;> cases hf2 <;> omega
  · simp only
    rw [List.drop_append_of_le_length (by omega)]
    exact h5
end Go.Eng
open Go Go.Proofs
namespace Go.Eng
set_option linter.unusedSimpArgs false
set_option linter.unusedVariables false
set_option maxRecDepth 10000
set_option maxHeartbeats 8000000
def FB (l : List Bool) : D := .fz (l.map bRow)
attribute [go_sem] FB
theorem idxF_lt {α : Type} (p : α → Bool) : ∀ (l : List α) (i : Nat), idxF p l i < (i : Int) + l.length
  | [], i => by simp [idxF]; omega
  | x :: l, i => by
    have := idxF_lt p l (i + 1)
    rw [idxF]
    simp only [List.length_cons]
    split <;> omega
theorem plF_nil {r : Int} {m : Nat} {p : Nat → Bool} (h : (plF r m p).length = 0) : ∀ j, j < m → p j = false := fun j hj => by
  rw [plF, plc, List.length_map, List.length_eq_zero_iff, List.filter_eq_nil_iff] at h
  have := h j (List.mem_range'.2 ⟨j, hj, by omega⟩)
  simpa using this
def unmetF (n : Gr) (j : Nat) : Bool := !gt (metF n (startF n) false) j || !gt (metF n (endF n) true) j
def allF (n : Gr) : List Lk := if n.ns.length > 24 ∨ n.fs.length > 40 then [⟨1, 0⟩] else if (plF 1 n.ns.length fun j => !rightN (gt n.ns j)).length > 0 then plF 1 n.ns.length fun j => !rightN (gt n.ns j)
  else if (plF 2 n.fs.length fun j => !leadsF n (gt n.fs j)).length > 0 then plF 2 n.fs.length fun j => !leadsF n (gt n.fs j) else if (thirdF n).length > 0 then thirdF n else plF 4 n.ns.length (unmetF n)
def checkN (n : Gr) : Int × Int := match allF n with | [] => (0, 0) | e :: _ => (e.src, e.dst)
theorem metF_len (n : Gr) (i : Int) (b : Bool) : (metF n i b).length = n.ns.length := by rw [metF, metN_len]; simp
structure Gr0 (n : Gr) : Prop where
  hn : n.ns.length < 1000000000000
  hf : n.fs.length < 1000000000000
  ns : ∀ d ∈ n.ns, d.t.size < 4611686018427387904
  fs : ∀ f ∈ n.fs, f.t.size < 4611686018427387904
theorem all3_ok (a b : List Bool) (j : Nat) (h1 : j < a.length) (h2 : j < b.length) : AFn env 62 [aI j, PR 0, PR 1] [Rd (FB a), Rd (FB b)] (aB (!gt a j || !gt b j)) [Rd (FB a), Rd (FB b)] := by
  refine afn_body Tryd.func62 rfl (by decide) ?_
  simp only [Tryd.ntmps62, Tryd.results62, List.length_cons, List.length_nil, List.cons_append, List.nil_append, Nat.reduceAdd, Nat.reduceSub, List.replicate]
  repeat' first
  | ((with_reducible refine awp_seqQ ?_); intro _ _)
  | ((with_reducible refine awp_region ?_); refine zS ?_)
  | ((with_reducible refine Gd_b ?_ ?_) <;> intro hb <;> first | contradiction | refine zH hb ?_)
  | ((with_reducible refine awp_ret ?_); refine q_step (by assumption) ?_)
  | with_reducible refine fin_r ?_
  | ((with_reducible refine q_step (by assumption) ?_); try refine zS ?_)
  all_goals simp [go_sem, *]
theorem all_ok (n : Gr) (hg : Gr0 n) : AFn env 49 [n.a] [] (aF ((allF n).map Lk.row)) [] := by
  have hn := hg.hn
  have hf := hg.hf
  have hG : n.ns.length ≤ 24 → n.fs.length ≤ 40 → GrOk n := fun h1 h2 => ⟨by omega, by omega, hg.ns, hg.fs⟩
  have hI : (plF 2 n.fs.length fun j => !leadsF n (gt n.fs j)).length = 0 → inG n := fun h f hf => by
    obtain ⟨k, hk, rfl⟩ := List.getElem_of_mem hf
    have := plF_nil h k hk
    rw [show gt n.fs k = n.fs[k] by simp [gt, List.getD, hk]] at this
    simp only [Bool.not_eq_false', leadsF, Bool.and_eq_true, inR, decide_eq_true_eq] at this
    omega
  refine afn_body Tryd.func49 rfl (by decide) ?_
  simp only [Tryd.ntmps49, Tryd.results49, List.length_cons, List.length_nil, List.cons_append, List.nil_append, Nat.reduceAdd, Nat.reduceSub, List.replicate]
  repeat' first
  | ((with_reducible refine awp_seqQ ?_); intro _ _)
  | ((with_reducible refine awp_region ?_); refine zS ?_)
  | ((with_reducible refine Gd_nd ?_ ?_) <;> intro hb hb2 <;> first | contradiction | (exfalso; omega) | (refine zH hb2 ?_; try clear hb2))
  | ((with_reducible refine AWP_c ?_); refine zcdT ?_)
  | ((with_reducible refine AWP_c ?_); refine zcdD ?_ ?_ <;> intro hb hb2 <;> first | contradiction | (exfalso; omega) | ((try refine zH hb2 ?_); try clear hb2))
  | ((with_reducible refine awp_skip ?_); try refine zS ?_)
  | ((with_reducible refine CallK_id ?_); refine zcF ?_; refine ⟨_, by first | exact third_ok n (hG (by omega) (by omega)) (hI (by omega)) | fail, fun _ => rfl, fun _ => rfl, rfl, ?_⟩; try refine zS ?_)
  | ((with_reducible refine CallK_id ?_); refine zcT [0] ?_; refine ⟨_, _, by first | exact places1_ok n 1 n.ns.length 54 (fun j => !rightN (gt n.ns j)) (by omega) (fun j hj => all1_ok n (hG (by omega) (by omega)) j hj) | exact places1_ok n 2 n.fs.length 56 (fun j => !leadsF n (gt n.fs j)) (by omega) (fun j hj => all2_ok n (hG (by omega) (by omega)) j hj) | fail, ?_⟩; try refine zS ?_)
  | ((with_reducible refine awp_ret ?_); refine q_step (by assumption) ?_)
  | with_reducible refine fin_r ?_
  | ((with_reducible refine q_step (by assumption) ?_); try refine zS ?_)
  all_goals try (refine fin_r ?_)
  · rw [allF, if_pos (by omega)]; rfl
  · rw [allF, if_neg (by omega), if_pos (by omega)]
  · rw [allF, if_neg (by omega), if_neg (by omega), if_pos (by omega)]
  · rw [allF, if_neg (by omega), if_neg (by omega), if_neg (by omega), if_pos (by omega)]
  rotate_left
  · rw [allF, if_pos (by omega)]; rfl
  have hg2 := hG (by omega) (by omega)
  have hi := hI (by omega)
  have hpl := hg2.hn
  have h0 : ¬ (startF n < 0 ∨ endF n < 0) := fun h => by
    have : (thirdF n).length = 0 := by omega
    rw [thirdF, if_pos h, List.length_append, List.length_singleton] at this
    omega
  have hs1 := idxF_lt (fun d : Nd => decide (d.kind = 1)) n.ns 0
  have he1 := idxF_lt (fun d : Nd => decide (d.kind = 2)) n.ns 0
  have hs : 0 ≤ startF n ∧ startF n < n.ns.length := ⟨by omega, by unfold startF; omega⟩
  have he : 0 ≤ endF n ∧ endF n < n.ns.length := ⟨by omega, by unfold endF; omega⟩
  have hla := metF_len n (startF n) false
  have hlb := metF_len n (endF n) true
  have hfin : allF n = plF 4 n.ns.length (unmetF n) := by rw [allF, if_neg (by omega), if_neg (by omega), if_neg (by omega), if_neg (by omega)]
  refine awp_wk (wk_vnew (s := 1) none (by decide)) ?_
  refine awp_wk (wk_vnew (s := 1) none (by decide)) ?_
  refine zT ?_
  refine awp_drawV ⟨8, 9, 10, 11, 3, 1, 4, 1⟩ (by decide) (by decide) rfl rfl (by decide) (by decide) (by decide) ?_
  simp only [List.set_cons_succ, List.set_cons_zero]
  refine go_p (by simp only [go_sem, Bool.not_not, List.mem_singleton, forall_eq, ↓reduceIte, if_pos, rowsAt_map, wrap64, wrapu8, List.getElem?_cons_zero, List.getElem?_cons_succ, Int.reduceToNat, Nat.reduceAdd, Nat.reduceBEq, Bool.or_false, Bool.false_or, Bool.true_or, Nat.reduceSub, Nat.reduceMul, Int.reduceAdd, Int.reduceEq, Int.reduceLT, Int.reduceLE, Int.reduceNeg, Nat.reduceLT, Nat.reduceLeDiff, Nat.reduceEqDiff]; rfl) rfl (by decide) rfl rfl ?_
  refine zT ?_
  refine go_p (by simp only [go_sem, Bool.not_not, List.mem_singleton, forall_eq, ↓reduceIte, if_pos, rowsAt_map, wrap64, wrapu8, List.getElem?_cons_zero, List.getElem?_cons_succ, Int.reduceToNat, Nat.reduceAdd, Nat.reduceBEq, Bool.or_false, Bool.false_or, Bool.true_or, Nat.reduceSub, Nat.reduceMul, Int.reduceAdd, Int.reduceEq, Int.reduceLT, Int.reduceLE, Int.reduceNeg, Nat.reduceLT, Nat.reduceLeDiff, Nat.reduceEqDiff]; rfl) rfl (by decide) rfl rfl ?_
  refine zT ?_
  refine go_c ⟨_, rfl⟩ rfl (by simp only [go_sem, Bool.not_not, List.mem_singleton, forall_eq, ↓reduceIte, if_pos, rowsAt_map, wrap64, wrapu8, List.getElem?_cons_zero, List.getElem?_cons_succ, Int.reduceToNat, Nat.reduceAdd, Nat.reduceBEq, Bool.or_false, Bool.false_or, Bool.true_or, Nat.reduceSub, Nat.reduceMul, Int.reduceAdd, Int.reduceEq, Int.reduceLT, Int.reduceLE, Int.reduceNeg, Nat.reduceLT, Nat.reduceLeDiff, Nat.reduceEqDiff]) rfl (by decide) (start_ok n (by omega)) (fun _ => rfl) (fun _ => rfl) rfl ?_
  refine zT ?_
  refine go_c ⟨_, rfl⟩ rfl (by simp only [go_sem, Bool.not_not, List.mem_singleton, forall_eq, ↓reduceIte, if_pos, rowsAt_map, wrap64, wrapu8, List.getElem?_cons_zero, List.getElem?_cons_succ, Int.reduceToNat, Nat.reduceAdd, Nat.reduceBEq, Bool.or_false, Bool.false_or, Bool.true_or, Nat.reduceSub, Nat.reduceMul, Int.reduceAdd, Int.reduceEq, Int.reduceLT, Int.reduceLE, Int.reduceNeg, Nat.reduceLT, Nat.reduceLeDiff, Nat.reduceEqDiff]) rfl (by decide) (met_ok n (startF n) false hg2 hi hs) (fun _ => rfl) (fun _ => rfl) rfl ?_
  refine zT ?_
  refine go_p (by simp only [go_sem, Bool.not_not, List.mem_singleton, forall_eq, ↓reduceIte, if_pos, rowsAt_map, wrap64, wrapu8, List.getElem?_cons_zero, List.getElem?_cons_succ, Int.reduceToNat, Nat.reduceAdd, Nat.reduceBEq, Bool.or_false, Bool.false_or, Bool.true_or, Nat.reduceSub, Nat.reduceMul, Int.reduceAdd, Int.reduceEq, Int.reduceLT, Int.reduceLE, Int.reduceNeg, Nat.reduceLT, Nat.reduceLeDiff, Nat.reduceEqDiff]; rfl) rfl (by decide) rfl rfl ?_
  refine zT ?_
  refine go_p (by simp only [go_sem, Bool.not_not, List.mem_singleton, forall_eq, ↓reduceIte, if_pos, rowsAt_map, wrap64, wrapu8, List.getElem?_cons_zero, List.getElem?_cons_succ, Int.reduceToNat, Nat.reduceAdd, Nat.reduceBEq, Bool.or_false, Bool.false_or, Bool.true_or, Nat.reduceSub, Nat.reduceMul, Int.reduceAdd, Int.reduceEq, Int.reduceLT, Int.reduceLE, Int.reduceNeg, Nat.reduceLT, Nat.reduceLeDiff, Nat.reduceEqDiff]; rfl) rfl (by decide) rfl rfl ?_
  refine zT ?_
  refine go_c ⟨_, rfl⟩ rfl (by simp only [go_sem, Bool.not_not, List.mem_singleton, forall_eq, ↓reduceIte, if_pos, rowsAt_map, wrap64, wrapu8, List.getElem?_cons_zero, List.getElem?_cons_succ, Int.reduceToNat, Nat.reduceAdd, Nat.reduceBEq, Bool.or_false, Bool.false_or, Bool.true_or, Nat.reduceSub, Nat.reduceMul, Int.reduceAdd, Int.reduceEq, Int.reduceLT, Int.reduceLE, Int.reduceNeg, Nat.reduceLT, Nat.reduceLeDiff, Nat.reduceEqDiff]) rfl (by decide) (end_ok n (by omega)) (fun _ => rfl) (fun _ => rfl) rfl ?_
  refine zT ?_
  refine go_c ⟨_, rfl⟩ rfl (by simp only [go_sem, Bool.not_not, List.mem_singleton, forall_eq, ↓reduceIte, if_pos, rowsAt_map, wrap64, wrapu8, List.getElem?_cons_zero, List.getElem?_cons_succ, Int.reduceToNat, Nat.reduceAdd, Nat.reduceBEq, Bool.or_false, Bool.false_or, Bool.true_or, Nat.reduceSub, Nat.reduceMul, Int.reduceAdd, Int.reduceEq, Int.reduceLT, Int.reduceLE, Int.reduceNeg, Nat.reduceLT, Nat.reduceLeDiff, Nat.reduceEqDiff]) rfl (by decide) (met_ok n (endF n) true hg2 hi he) (fun _ => rfl) (fun _ => rfl) rfl ?_
  refine zT ?_
  refine go_1 rfl rfl (by simp only [go_sem, Bool.not_not, List.mem_singleton, forall_eq, ↓reduceIte, if_pos, rowsAt_map, wrap64, wrapu8, List.getElem?_cons_zero, List.getElem?_cons_succ, Int.reduceToNat, Nat.reduceAdd, Nat.reduceBEq, Bool.or_false, Bool.false_or, Bool.true_or, Nat.reduceSub, Nat.reduceMul, Int.reduceAdd, Int.reduceEq, Int.reduceLT, Int.reduceLE, Int.reduceNeg, Nat.reduceLT, Nat.reduceLeDiff, Nat.reduceEqDiff]; rfl) rfl ?_
  refine zT ?_
  refine go_2 rfl rfl (by simp only [go_sem, Bool.not_not, List.mem_singleton, forall_eq, ↓reduceIte, if_pos, rowsAt_map, wrap64, wrapu8, List.getElem?_cons_zero, List.getElem?_cons_succ, Int.reduceToNat, Nat.reduceAdd, Nat.reduceBEq, Bool.or_false, Bool.false_or, Bool.true_or, Nat.reduceSub, Nat.reduceMul, Int.reduceAdd, Int.reduceEq, Int.reduceLT, Int.reduceLE, Int.reduceNeg, Nat.reduceLT, Nat.reduceLeDiff, Nat.reduceEqDiff]; rfl) rfl ?_
  refine zT ?_
  refine go_s1 rfl rfl (by decide) rfl rfl rfl rfl ?_
  refine zT ?_
  refine go_s2 rfl rfl (by decide) rfl rfl rfl rfl ?_
  refine zT ?_
  refine go_e ?_
  repeat' first
  | ((with_reducible refine awp_seqQ ?_); intro _ _)
  | ((with_reducible refine awp_region ?_); refine zS ?_)
  | ((with_reducible refine CallK_id ?_); refine zcT [3, 4] ?_; refine ⟨_, _, by first | exact places2_ok (FB (metF n (startF n) false)) (FB (metF n (endF n) true)) 4 n.ns.length 62 (unmetF n) (by omega) (fun j hj => all3_ok _ _ j (by omega) (by omega)) | fail, ?_⟩; try refine zS ?_)
  | ((with_reducible refine awp_ret ?_); refine q_step (by assumption) ?_)
  | ((with_reducible refine q_step (by assumption) ?_); try refine zS ?_)
  refine fin_r ?_
  rw [hfin]
theorem checkN_ok (n : Gr) (hg : Gr0 n) : AFn env 40 [n.a] [] (.tup [aI (checkN n).1, aI (checkN n).2]) [] := by
  refine afn_body Tryd.func40 rfl (by decide) ?_
  simp only [Tryd.ntmps40, Tryd.results40, List.length_cons, List.length_nil, List.cons_append, List.nil_append, Nat.reduceAdd, Nat.reduceSub, List.replicate]
  repeat' first
  | ((with_reducible refine awp_seqQ ?_); intro _ _)
  | ((with_reducible refine awp_region ?_); refine zS ?_)
  | ((with_reducible refine awp_drawnC ?_ ?_); rfl; refine zS ?_)
  | ((with_reducible refine AWP_c ?_); refine zcdD ?_ ?_ <;> intro hb hb2 <;> first | contradiction | (exfalso; omega) | ((try refine zH hb2 ?_); try clear hb2))
  | ((with_reducible refine awp_skip ?_); try refine zS ?_)
  | ((with_reducible refine CallK_id ?_); refine zcF ?_; refine ⟨_, by first | exact all_ok n hg | fail, fun _ => rfl, fun _ => rfl, rfl, ?_⟩; try refine zS ?_)
  | ((with_reducible refine awp_ret ?_); refine q_step (by assumption) ?_)
  | with_reducible refine fin_r ?_
  | ((with_reducible refine q_step (by assumption) ?_); try refine zS ?_)
  all_goals (unfold checkN; cases h : allF n with | nil => (first | rfl | (rename ((allF n).length : Int) > 0 => hb; rw [h] at hb; simp at hb; done)) | cons => (first | (simp [go_sem, gt]; done) | (rename ¬ ((allF n).length : Int) > 0 => hb; rw [h] at hb; simp at hb)))
end Go.Eng
open Go Go.Proofs
namespace Go.Eng
set_option linter.unusedSimpArgs false
set_option linter.unusedVariables false
set_option maxRecDepth 10000
set_option maxHeartbeats 40000000
theorem bareK_ok (k : Int) (n x y : Int) (t : T) (c : List T) (ks : List B) (l : List Lk) (ns : List Nd) (fs : List Fl) (hk : k = 1 ∨ k = 2 ∨ k = 3 ∨ k = 4 ∨ k = 5 ∨ k = 6 ∨ k = 7 ∨ k = 8 ∨ k = 9 ∨ k = 10 ∨ k = 11 ∨ k = 12 ∨ k = 13 ∨ k = 14) : AFn env 28 [(B.mk k n x y t c ks l ns fs).a] [] (bareF (B.mk k n x y t c ks l ns fs)).a [] := by
  refine afn_body Tryd.func28 rfl (by decide) ?_
  simp only [Tryd.ntmps28, Tryd.results28, List.length_cons, List.length_nil, List.cons_append, List.nil_append, Nat.reduceAdd, Nat.reduceSub, List.replicate]
  rcases hk with rfl | rfl | rfl | rfl | rfl | rfl | rfl | rfl | rfl | rfl | rfl | rfl | rfl | rfl
  all_goals repeat' first
            | ((with_reducible refine awp_seqQ ?_); intro _ _)
            | ((with_reducible refine awp_region ?_); refine zS ?_)
            | ((with_reducible refine AWP_c ?_); refine zcdT ?_)
            | ((with_reducible refine AWP_c ?_); refine zcdF ?_)
            | ((with_reducible refine AWP_c ?_); refine zcdD ?_ ?_ <;> intro hb hb2 <;> first | contradiction | (exfalso; omega) | ((try refine zH hb2 ?_); try clear hb2))
            | ((with_reducible refine awp_skip ?_); try refine zS ?_)
            | with_reducible refine awp_block ?_
            | ((with_reducible refine awp_exit ?_); try refine zS ?_)
            | ((with_reducible refine awp_ret ?_); refine q_step (by assumption) ?_)
            | with_reducible refine fin_r ?_
            | ((with_reducible refine q_step (by assumption) ?_); try refine zS ?_)
  all_goals first | (simp [go_sem, bareF, *]; done) | (simp [go_sem, bareF, *]; exact ⟨rfl, rfl, rfl⟩)
theorem bare0_ok (k : Int) (n x y : Int) (t : T) (c : List T) (ks : List B) (l : List Lk) (ns : List Nd) (fs : List Fl) (hk : k < 1 ∨ 14 < k) : AFn env 28 [(B.mk k n x y t c ks l ns fs).a] [] (bareF (B.mk k n x y t c ks l ns fs)).a [] := by
  have e1 : ¬ k = 1 := by omega
  have e2 : ¬ k = 2 := by omega
  have e3 : ¬ k = 3 := by omega
  have e4 : ¬ k = 4 := by omega
  have e5 : ¬ k = 5 := by omega
  have e6 : ¬ k = 6 := by omega
  have e7 : ¬ k = 7 := by omega
  have e8 : ¬ k = 8 := by omega
  have e9 : ¬ k = 9 := by omega
  have e10 : ¬ k = 10 := by omega
  have e11 : ¬ k = 11 := by omega
  have e12 : ¬ k = 12 := by omega
  have e13 : ¬ k = 13 := by omega
  have e14 : ¬ k = 14 := by omega
  refine afn_body Tryd.func28 rfl (by decide) ?_
  simp only [Tryd.ntmps28, Tryd.results28, List.length_cons, List.length_nil, List.cons_append, List.nil_append, Nat.reduceAdd, Nat.reduceSub, List.replicate]
  repeat' first
  | ((with_reducible refine awp_seqQ ?_); intro _ _)
  | ((with_reducible refine awp_region ?_); refine zS ?_)
  | ((with_reducible refine AWP_c ?_); refine zcdD ?_ ?_ <;> intro hb hb2 <;> first | contradiction | (exfalso; omega) | ((try refine zH hb2 ?_); try clear hb2))
  | ((with_reducible refine awp_skip ?_); try refine zS ?_)
  | with_reducible refine awp_block ?_
  | ((with_reducible refine awp_exit ?_); try refine zS ?_)
  | ((with_reducible refine awp_ret ?_); refine q_step (by assumption) ?_)
  | with_reducible refine fin_r ?_
  | ((with_reducible refine q_step (by assumption) ?_); try refine zS ?_)
  all_goals simp [go_sem, bareF, e1, e2, e3, e4, e5, e6, e7, e8, e9, e10, e11, e12, e13, e14]
theorem bare_ok (b : B) : AFn env 28 [b.a] [] (bareF b).a [] := by
  cases b with | mk k n x y t c ks l ns fs =>
  by_cases h : k < 1 ∨ 14 < k
  · exact bare0_ok k n x y t c ks l ns fs h
  · exact bareK_ok k n x y t c ks l ns fs (by omega)
end Go.Eng
open Go Go.Proofs
namespace Go.Eng
set_option linter.unusedSimpArgs false
set_option linter.unusedVariables false
set_option maxRecDepth 10000
set_option maxHeartbeats 40000000
def grB (b : B) : Gr := ⟨b.nodes, b.flows⟩
def numF (b : B) : Bool :=
  let v := decide (0 ≤ b.x) && decide (b.x < 4)
  let k : Int := b.kids.length
  if b.kind = 1 ∨ b.kind = 5 then true else if b.kind = 2 ∨ b.kind = 4 then v else if b.kind = 3 then v && ofF b.t 1 else if b.kind = 6 ∨ b.kind = 7 ∨ b.kind = 9 then decide (k > 1)
  else if b.kind = 8 then decide (k > 1) && decide ((b.conds.length : Int) = k) && condsF b.conds b.x else if b.kind = 10 then decide (k = 1) && decide (b.x ≥ 0) && decide (b.x ≤ 4)
  else if b.kind = 11 then decide (k = 2) && decide ((b.conds.length : Int) = 2) && condsF b.conds b.x && decide (b.y ≥ 0) && decide (b.y < 2)
  else if b.kind = 12 then (decide (b.x = 3) && decide ((b.conds.length : Int) > 1) && condsF b.conds b.y) || decide (b.x = 1) || decide (b.x = 2) || decide (b.x = 4)
  else if b.kind = 13 then decide (k > 0) && linkedF b else if b.kind = 14 then decide ((checkN (grB b)).1 = 0) else false
theorem gr0_ok (b : B) (hs : b.size < 1000000000000) : Gr0 (grB b) := by
  have hz := B.size_eq b
  have h1 := Nd.len_le b.nodes
  have h2 := Fl.len_le b.flows
  exact ⟨by simp only [grB]; omega, by simp only [grB]; omega, fun d hd => by have := Nd.size_kid (l := b.nodes) hd; omega, fun d hd => by have := Fl.size_kid (l := b.flows) hd; omega⟩
attribute [go_sem] grB
theorem numK_ok (k : Int) (n x y : Int) (t : T) (c : List T) (ks : List B) (l : List Lk) (ns : List Nd) (fs : List Fl) (hs : (B.mk k n x y t c ks l ns fs).size < 1000000000000) (hk : k = 1 ∨ k = 2 ∨ k = 3 ∨ k = 4 ∨ k = 5 ∨ k = 6 ∨ k = 7 ∨ k = 8 ∨ k = 9 ∨ k = 10 ∨ k = 11 ∨ k = 12 ∨ k = 13 ∨ k = 14) : AFn env 29 [(B.mk k n x y t c ks l ns fs).a] [] (aB (numF (B.mk k n x y t c ks l ns fs))) [] := by
  have hz := B.size_eq (B.mk k n x y t c ks l ns fs)
  have l2 := B.len_le ks
  have l3 := T.len_le c
  simp only [mk_kids, mk_t, mk_conds] at hz
  refine afn_body Tryd.func29 rfl (by decide) ?_
  simp only [Tryd.ntmps29, Tryd.results29, List.length_cons, List.length_nil, List.cons_append, List.nil_append, Nat.reduceAdd, Nat.reduceSub, List.replicate]
  rcases hk with rfl | rfl | rfl | rfl | rfl | rfl | rfl | rfl | rfl | rfl | rfl | rfl | rfl | rfl
  all_goals repeat' first
            | ((with_reducible refine awp_seqQ ?_); intro _ _)
            | ((with_reducible refine awp_region ?_); refine zS ?_)
            | ((with_reducible refine Gd_nd ?_ ?_) <;> intro hb hb2 <;> first | contradiction | (exfalso; omega) | (refine zH hb2 ?_; try clear hb2))
            | ((with_reducible refine Gd_nb ?_ ?_) <;> intro hb <;> first | contradiction | refine zH hb ?_)
            | ((with_reducible refine Gd_d ?_ ?_) <;> intro hb hb2 <;> first | contradiction | (exfalso; omega) | (refine zH hb2 ?_; try clear hb2))
            | ((with_reducible refine Gd_b ?_ ?_) <;> intro hb <;> first | contradiction | refine zH hb ?_)
            | ((with_reducible refine AWP_c ?_); refine zcdT ?_)
            | ((with_reducible refine AWP_c ?_); refine zcdF ?_)
            | ((with_reducible refine awp_skip ?_); try refine zS ?_)
            | with_reducible refine awp_block ?_
            | ((with_reducible refine CallK_id ?_); refine zcF ?_; refine ⟨_, by first | exact of_ok t 1 (by omega) | exact conds_ok c x (by omega) | exact conds_ok c y (by omega) | exact linked_ok _ hs | exact checkN_ok _ (gr0_ok (B.mk 14 n x y t c ks l ns fs) hs) | fail, fun _ => rfl, fun _ => rfl, rfl, ?_⟩; try refine zS ?_)
            | ((with_reducible refine awp_ret ?_); refine q_step (by assumption) ?_)
            | with_reducible refine fin_r ?_
            | ((with_reducible refine q_step (by assumption) ?_); try refine zS ?_)
  all_goals (clear hs hz l2 l3; first | (simp [go_sem, numF, *]; done) | (simp [go_sem, numF, *]; omega) | (simp [go_sem, numF]; omega) | (simp [go_sem, numF, *]; first | rfl | exact decide_eq_decide.2 Iff.rfl))
theorem numk0_ok (k : Int) (n x y : Int) (t : T) (c : List T) (ks : List B) (l : List Lk) (ns : List Nd) (fs : List Fl) (hs : (B.mk k n x y t c ks l ns fs).size < 1000000000000) (hk : k < 1 ∨ 14 < k) : AFn env 29 [(B.mk k n x y t c ks l ns fs).a] [] (aB (numF (B.mk k n x y t c ks l ns fs))) [] := by
  have e1 : ¬ k = 1 := by omega
  have e2 : ¬ k = 2 := by omega
  have e3 : ¬ k = 3 := by omega
  have e4 : ¬ k = 4 := by omega
  have e5 : ¬ k = 5 := by omega
  have e6 : ¬ k = 6 := by omega
  have e7 : ¬ k = 7 := by omega
  have e8 : ¬ k = 8 := by omega
  have e9 : ¬ k = 9 := by omega
  have e10 : ¬ k = 10 := by omega
  have e11 : ¬ k = 11 := by omega
  have e12 : ¬ k = 12 := by omega
  have e13 : ¬ k = 13 := by omega
  have e14 : ¬ k = 14 := by omega
  have hz := B.size_eq (B.mk k n x y t c ks l ns fs)
  have l2 := B.len_le ks
  simp only [mk_kids, mk_t, mk_conds] at hz
  refine afn_body Tryd.func29 rfl (by decide) ?_
  simp only [Tryd.ntmps29, Tryd.results29, List.length_cons, List.length_nil, List.cons_append, List.nil_append, Nat.reduceAdd, Nat.reduceSub, List.replicate]
  repeat' first
  | ((with_reducible refine awp_seqQ ?_); intro _ _)
  | ((with_reducible refine awp_region ?_); refine zS ?_)
  | ((with_reducible refine Gd_d ?_ ?_) <;> intro hb hb2 <;> first | contradiction | (exfalso; omega) | (refine zH hb2 ?_; try clear hb2))
  | ((with_reducible refine AWP_c ?_); refine zcdD ?_ ?_ <;> intro hb hb2 <;> first | contradiction | (exfalso; omega) | ((try refine zH hb2 ?_); try clear hb2))
  | ((with_reducible refine awp_skip ?_); try refine zS ?_)
  | with_reducible refine awp_block ?_
  | ((with_reducible refine awp_ret ?_); refine q_step (by assumption) ?_)
  | with_reducible refine fin_r ?_
  | ((with_reducible refine q_step (by assumption) ?_); try refine zS ?_)
  all_goals simp [go_sem, numF, e1, e2, e3, e4, e5, e6, e7, e8, e9, e10, e11, e12, e13, e14]
theorem num_ok (b : B) (hs : b.size < 1000000000000) : AFn env 29 [b.a] [] (aB (numF b)) [] := by
  cases b with | mk k n x y t c ks l ns fs =>
  by_cases h : k < 1 ∨ 14 < k
  · exact numk0_ok k n x y t c ks l ns fs hs h
  · exact numK_ok k n x y t c ks l ns fs hs (by omega)
end Go.Eng
