/- Each function of the program, walked over plain data: what it comes to, at all arguments. -/
import Derived.Test.YthodghlpcklaeaaGreatDoorMe
import Derived.Test.YthodghlpcklaeaaGreatDoorMf
import Derived.Test.YthodghlpcklaeaaGreatDoorMa
import Derived.Test.YthodghlpcklaeaaGreatDoorEf
import Derived.Test.YthodghlpcklaeaaGreatDoorRows
open Go Go.Proofs
namespace Go.Eng
set_option linter.unusedSimpArgs false
set_option linter.unusedVariables false
set_option maxRecDepth 10000
set_option maxHeartbeats 16000000
def rSet (w : B) : Nat → List Int → List Int
  | 0, s => s
  | k + 1, s => rSet w k (oneF w s)
theorem rSet_none {w : B} {s : List Int} (h : pickF s w = none) : ∀ k, rSet w k s = s
  | 0 => rfl
  | k + 1 => by rw [rSet, show oneF w s = s by unfold oneF; rw [h], rSet_none h k]
theorem rSet_eq (w : B) : ∀ (k : Nat) (s : List Int), rSet w k s = settleN w k s
  | 0, s => rfl
  | k + 1, s => by
    rw [settleN]
    cases h : pickF s w with
    | none => simp only; exact rSet_none h (k + 1)
    | some i => simp only; rw [rSet, show oneF w s = fateF s w i by unfold oneF; rw [h], rSet_eq w k]
theorem rSettle {w : B} {s : List Int} (hw : Wb w) (hs : s.length = 104) : rSet w w.kids.length s = settleF s w := by
  rw [rSet_eq, settleN_more hw _ _ hs (waits_le _ _)]; rfl
theorem oneF_len (w : B) (s : List Int) : (oneF w s).length = s.length := by unfold oneF; split; rw [fateF_len]; rfl
theorem one_ok3 {w : B} {s : List Int} (h : okS s) : okS (oneF w s) := by unfold oneF; split; exact fate_ok3 h; exact h
theorem one_no {w : B} {s : List Int} (h : (pickF s w).isSome = false) : oneF w s = s := by
  unfold oneF
  cases hp : pickF s w with
  | none => rfl
  | some i => rw [hp] at h; cases h
theorem rSettled_ok (w : B) (s : List Int) (hw : Wb w) (hl : s.length = 104) (ho : okS s) : AFn env 29 [w.a, sA s] [] (sA (settleF s w)) [] := by
  have hwk := hw.hk
  rw [← rSettle hw hl]
  have h00 := s00_len
  refine afn_body Tryz.func29 rfl (by decide) ?_
  simp only [Tryz.ntmps29, Tryz.results29, List.length_cons, List.length_nil, List.cons_append, List.nil_append, Nat.reduceAdd, Nat.reduceSub, List.replicate]
  repeat' first
  | ((with_reducible refine awp_seqQ ?_); intro _ _)
  | ((with_reducible refine awp_region ?_); refine zS ?_)
  | with_reducible refine awp_block ?_
  refine awp_loopT (fun z : Nat × List Int => z.1 ≤ w.kids.length ∧ z.2.length = 104 ∧ okS z.2 ∧ rSet w w.kids.length s = rSet w (w.kids.length - z.1) z.2) (fun z => w.kids.length - z.1) (fun z => [(12, aI z.1)]) (fun z => [some (.box w.bs), Sb s, Sb s00, Sb z.2]) (0, s) ⟨by simp, hl, ho, rfl⟩ (by exact zwl) ?_
  rintro ⟨i, t⟩ ⟨h1, h2, h3, h4⟩
  simp only at h1 h2 h3 h4
  have hlo : (oneF w t).length = 104 := by rw [oneF_len]; exact h2
  refine zT ?_
  repeat' first
  | ((with_reducible refine awp_seqQ ?_); intro _ _)
  | ((with_reducible refine awp_region ?_); refine zS ?_)
  | ((with_reducible refine AWP_c ?_); refine zcdD ?_ ?_ <;> intro hb hb2 <;> first | contradiction | (exfalso; omega) | ((try refine zH hb2 ?_); try clear hb2))
  | ((with_reducible refine AWP_c ?_); refine zcdB ?_ ?_ <;> intro hb <;> first | contradiction | (try refine zH hb ?_))
  | ((with_reducible refine awp_skip ?_); try refine zS ?_)
  | with_reducible refine awp_block ?_
  | ((with_reducible refine awp_exit ?_); try refine zS ?_)
  | ((with_reducible refine CallK_id ?_); refine zcF ?_; refine ⟨_, by first | exact rOne19_ok w t hw h2 h3 | fail, ?_⟩; refine ⟨fun _ => by (first | rfl | simp only [go_sem]; done), fun _ => by (first | rfl | simp only [go_sem]; done), by (first | rfl | (simp [okAs, okA, okCs, okC, okC_st, go_sem]; done)), ?_⟩; try refine zS ?_)
  | ((with_reducible refine awp_ret ?_); refine q_step (by assumption) ?_)
  | with_reducible refine fin_r ?_
  | ((with_reducible refine q_step (by assumption) ?_); try refine zS ?_)
  all_goals first
    | (have h5 : rSet w w.kids.length s = rSet w (w.kids.length - (i + 1)) (oneF w t) := (by rw [h4, show w.kids.length - i = (w.kids.length - (i + 1)) + 1 by omega, rSet])
       first
       | (rename (pickF t w).isSome = true => hb; exact ⟨(i + 1, oneF w t), ⟨by simp only; omega, hlo, one_ok3 h3, h5⟩, by simp only; omega, (by exact zwc 4)⟩)
       | (rename (pickF t w).isSome = false => hb; rw [one_no hb] at h5; exact ⟨(i + 1, t), ⟨by simp only; omega, h2, h3, h5⟩, by simp only; omega, (by exact zwc 4)⟩))
    | (rw [h4, show w.kids.length - i = 0 by omega]; rfl)
    | trace_state
theorem rRight19_ok (w : B) (hs : w.size ≤ 100000) : AFn env 11 [w.a] [] (aB (rgtW w)) [] := by
  refine afn_body Tryz.func11 rfl (by decide) ?_
  simp only [Tryz.ntmps11, Tryz.results11, List.length_cons, List.length_nil, List.cons_append, List.nil_append, Nat.reduceAdd, Nat.reduceSub, List.replicate]
  repeat' first
  | ((with_reducible refine awp_seqQ ?_); intro _ _)
  | ((with_reducible refine awp_region ?_); refine zS ?_)
  | ((with_reducible refine Gd_d ?_ ?_) <;> intro hb hb2 <;> first | contradiction | (exfalso; omega) | (refine zH hb2 ?_; try clear hb2))
  | ((with_reducible refine CallK_id ?_); refine zcF ?_; refine ⟨_, by first | exact rCheck16_ok w hs | fail, ?_⟩; refine ⟨fun _ => by (first | rfl | simp only [go_sem]; done), fun _ => by (first | rfl | simp only [go_sem]; done), by (first | rfl | (simp [okAs, okA, okCs, okC, okC_st, go_sem]; done)), ?_⟩; try refine zS ?_)
  | ((with_reducible refine awp_ret ?_); refine q_step (by assumption) ?_)
  | with_reducible refine fin_r ?_
  | ((with_reducible refine q_step (by assumption) ?_); try refine zS ?_)
  all_goals (simp [go_sem, rgtW, *])
theorem s00_get (k : Nat) : gt s00 k = 0 := by
  unfold gt s00
  rw [List.getD_eq_getElem?_getD, List.getElem?_replicate]
  split <;> rfl
theorem s00_ok3 : okS s00 := ⟨s00_len, fun k hk => by rw [s00_get]; decide⟩
theorem rStart_ok (w : B) (hw : Wb w) : AFn env 14 [w.a] [] (sA (startS w)) [] := by
  have h00 := s00_len
  have hwl := hw.hl
  have hol : (outsK w (-1)).length ≤ w.links.length := idx2_len _ w.links 0
  have hom := outs_40 hw (-1)
  refine afn_body Tryz.func14 rfl (by decide) ?_
  simp only [Tryz.ntmps14, Tryz.results14, List.length_cons, List.length_nil, List.cons_append, List.nil_append, Nat.reduceAdd, Nat.reduceSub, List.replicate]
  repeat' first
  | ((with_reducible refine awp_seqQ ?_); intro _ _)
  | ((with_reducible refine awp_region ?_); refine zS ?_)
  | with_reducible refine awp_block ?_
  | ((with_reducible refine CallK_id ?_); refine zcF ?_; refine ⟨_, by first | exact rOuts19_ok w (-1) hw.hs | fail, ?_⟩; refine ⟨fun _ => by (first | rfl | simp only [go_sem]; done), fun _ => by (first | rfl | simp only [go_sem]; done), by (first | rfl | (simp [okAs, okA, okCs, okC, okC_st, go_sem]; done)), ?_⟩; try refine zS ?_)
  refine awp_loopT (fun z : Nat × List Int => z.1 ≤ (outsK w (-1)).length ∧ z.2.length = 104 ∧ giveF (outsK w (-1)) 1 s00 = giveF ((outsK w (-1)).drop z.1) 1 z.2) (fun z => (outsK w (-1)).length - z.1) (fun z => [(10, aI z.1)]) (fun z => [some (.box w.bs), Sb s00, Sb z.2]) (0, s00) ⟨by simp, h00, rfl⟩ (by exact zwl) ?_
  rintro ⟨j, t⟩ ⟨h5, h6, h7⟩
  simp only at h5 h6 h7
  have hR : j < (outsK w (-1)).length → 0 ≤ gt (outsK w (-1)) j ∧ gt (outsK w (-1)) j < 40 := fun h => hom _ (gt_mem h)
  have hsl : (settleF t w).length = 104 := by rw [settleF_len]; exact h6
  refine zT ?_
  repeat' first
  | ((with_reducible refine awp_seqQ ?_); intro _ _)
  | ((with_reducible refine awp_region ?_); refine zS ?_)
  | ((with_reducible refine AWP_c ?_); refine zcdD ?_ ?_ <;> intro hb hb2 <;> first | contradiction | (exfalso; omega) | ((try refine zH hb2 ?_); try clear hb2))
  | ((with_reducible refine awp_skip ?_); try refine zS ?_)
  | with_reducible refine awp_block ?_
  | ((with_reducible refine awp_exit ?_); try refine zS ?_)
  | ((with_reducible refine q_step (by assumption) ?_); try refine zS ?_)
  · have h8 := h7
    rw [give_drop (by omega)] at h8
    exact ⟨(j + 1, t.set (gt (outsK w (-1)) j).toNat 1), ⟨by simp only; omega, by simpa using h6, h8⟩, by simp only; omega, (by exact zwc 3)⟩
  have ht : giveF (outsK w (-1)) 1 s00 = t := by rw [h7, List.drop_eq_nil_of_le (by omega)]; rfl
  have h8 : okS t := by rw [← ht]; exact give_ok3 (by decide) s00_ok3
  repeat' first
  | ((with_reducible refine CallK_id ?_); refine zcF ?_; refine ⟨_, by first | exact rSettled_ok w t hw h6 h8 | fail, ?_⟩; refine ⟨fun _ => by (first | rfl | simp only [go_sem]; done), fun _ => by (first | rfl | simp only [go_sem]; done), by (first | rfl | (simp [okAs, okA, okCs, okC, okC_st, go_sem]; done)), ?_⟩; try refine zS ?_)
  | ((with_reducible refine awp_ret ?_); refine q_step (by assumption) ?_)
  | with_reducible refine fin_r ?_
  | ((with_reducible refine q_step (by assumption) ?_); try refine zS ?_)
  all_goals first | (simp [go_sem, startS, ht]; done) | trace_state
theorem rCheck19_ok (w : B) (s : List Int) (hs : w.size ≤ 100000) (hl : s.length = 104) : AFn env 20 [w.a, sA s] [] (aI (chkS w s)) [] := by
  have hW := wb_of hs
  refine afn_body Tryz.func20 rfl (by decide) ?_
  simp only [Tryz.ntmps20, Tryz.results20, List.length_cons, List.length_nil, List.cons_append, List.nil_append, Nat.reduceAdd, Nat.reduceSub, List.replicate]
  repeat' first
  | ((with_reducible refine awp_seqQ ?_); intro _ _)
  | ((with_reducible refine awp_region ?_); refine zS ?_)
  | ((with_reducible refine AWP_c ?_); refine zcdM ?_ ?_ <;> intro hb <;> first | contradiction | (try refine zH hb ?_))
  | ((with_reducible refine awp_skip ?_); try refine zS ?_)
  | with_reducible refine awp_block ?_
  | ((with_reducible refine CallK_id ?_); refine zcF ?_; refine ⟨_, by first | exact rRight19_ok w hs | fail, ?_⟩; refine ⟨fun _ => by (first | rfl | simp only [go_sem]; done), fun _ => by (first | rfl | simp only [go_sem]; done), by (first | rfl | (simp [okAs, okA, okCs, okC, okC_st, go_sem]; done)), ?_⟩; try refine zS ?_)
  | ((with_reducible refine awp_ret ?_); refine q_step (by assumption) ?_)
  | with_reducible refine fin_r ?_
  | ((with_reducible refine q_step (by assumption) ?_); try refine zS ?_)
  all_goals try (rw [chk_4 (by assumption)]; done)
  have h0 := chk_eq (s := s) ‹rgtW w = true›
  have hw := hW ‹_›
  have hwl := hw.hl
  have hwk := hw.hk
  refine awp_loopT (fun i : Nat => i ≤ 40 ∧ (List.range' 0 40).any (badL w s) = (List.range' i (40 - i)).any (badL w s)) (fun i => 40 - i) (fun i => [(5, aI i)]) (fun _ => [some (.box w.bs), Sb s]) 0 ⟨by omega, rfl⟩ (by exact zwl) ?_
  rintro k ⟨h1, h2⟩
  refine zT ?_
  repeat' first
  | ((with_reducible refine awp_seqQ ?_); intro _ _)
  | ((with_reducible refine awp_region ?_); refine zS ?_)
  | ((with_reducible refine Gd_nd ?_ ?_) <;> intro hb hb2 <;> first | contradiction | (exfalso; omega) | (refine zH hb2 ?_; try clear hb2))
  | ((with_reducible refine Gd_d ?_ ?_) <;> intro hb hb2 <;> first | contradiction | (exfalso; omega) | (refine zH hb2 ?_; try clear hb2))
  | ((with_reducible refine AWP_c ?_); refine zcdT ?_)
  | ((with_reducible refine AWP_c ?_); refine zcdF ?_)
  | ((with_reducible refine AWP_c ?_); refine zcdN ?_ ?_ <;> intro hb hb2 <;> first | contradiction | (exfalso; omega) | ((try refine zH hb2 ?_); try clear hb2))
  | ((with_reducible refine AWP_c ?_); refine zcdD ?_ ?_ <;> intro hb hb2 <;> first | contradiction | (exfalso; omega) | ((try refine zH hb2 ?_); try clear hb2))
  | ((with_reducible refine awp_skip ?_); try refine zS ?_)
  | with_reducible refine awp_block ?_
  | ((with_reducible refine awp_exit ?_); try refine zS ?_)
  | ((with_reducible refine awp_ret ?_); refine q_step (by assumption) ?_)
  | with_reducible refine fin_r ?_
  | ((with_reducible refine q_step (by assumption) ?_); try refine zS ?_)
  all_goals first
    | (rw [h0, h2, anyR_t (by omega) (badL_iff.2 (by omega)), if_pos rfl]; done)
    | exact ⟨k + 1, ⟨by omega, by rw [h2, anyR_f (by omega) (Bool.eq_false_iff.2 (fun h => by have := badL_iff.1 h; omega))]⟩, by omega, (by exact zwc 2)⟩
    | skip
  rw [show 40 - k = 0 by omega, List.range'_zero, List.any_nil] at h2
  rw [h2, if_neg (by simp)] at h0
  refine awp_loopT (fun i : Nat => i ≤ 64 ∧ (List.range' 0 64).any (badK2 w s) = (List.range' i (64 - i)).any (badK2 w s)) (fun i => 64 - i) (fun i => [(6, aI i)]) (fun _ => [some (.box w.bs), Sb s]) 0 ⟨by omega, rfl⟩ (by exact zwl) ?_
  rintro i ⟨h3, h4⟩
  refine zT ?_
  repeat' first
  | ((with_reducible refine awp_seqQ ?_); intro _ _)
  | ((with_reducible refine awp_region ?_); refine zS ?_)
  | ((with_reducible refine Gd_nd ?_ ?_) <;> intro hb hb2 <;> first | contradiction | (exfalso; omega) | (refine zH hb2 ?_; try clear hb2))
  | ((with_reducible refine Gd_d ?_ ?_) <;> intro hb hb2 <;> first | contradiction | (exfalso; omega) | (refine zH hb2 ?_; try clear hb2))
  | ((with_reducible refine AWP_c ?_); refine zcdT ?_)
  | ((with_reducible refine AWP_c ?_); refine zcdF ?_)
  | ((with_reducible refine AWP_c ?_); refine zcdN ?_ ?_ <;> intro hb hb2 <;> first | contradiction | (exfalso; omega) | ((try refine zH hb2 ?_); try clear hb2))
  | ((with_reducible refine AWP_c ?_); refine zcdD ?_ ?_ <;> intro hb hb2 <;> first | contradiction | (exfalso; omega) | ((try refine zH hb2 ?_); try clear hb2))
  | ((with_reducible refine awp_skip ?_); try refine zS ?_)
  | with_reducible refine awp_block ?_
  | ((with_reducible refine awp_exit ?_); try refine zS ?_)
  | ((with_reducible refine awp_ret ?_); refine q_step (by assumption) ?_)
  | with_reducible refine fin_r ?_
  | ((with_reducible refine q_step (by assumption) ?_); try refine zS ?_)
  all_goals first
    | (rw [h0, h4, anyR_t (by omega) (badK2_iff.2 (by omega)), if_pos rfl]; done)
    | exact ⟨i + 1, ⟨by omega, by rw [h4, anyR_f (by omega) (Bool.eq_false_iff.2 (fun h => by have := badK2_iff.1 h; omega))]⟩, by omega, (by exact zwc 2)⟩
    | (rw [h0, h4, show 64 - i = 0 by omega]; rfl)
    | trace_state
theorem spl_a {a : List Int} (h : a.length = 40) : splC 0 (stC a) (stC s00) = some (stC (a ++ List.replicate 64 0)) := by
  rw [spl_part (by rw [s00_len]; omega), List.take_zero, List.nil_append, s00, List.drop_replicate, h]
theorem spl_b {a b : List Int} (ha : a.length = 40) (hb : b.length = 64) : splC 40 (stC b) (stC (a ++ List.replicate 64 0)) = some (stC (a ++ b)) := by
  rw [spl_part (by rw [List.length_append, List.length_replicate]; omega), List.take_append_of_le_length (by omega), List.take_of_length_le (by omega), List.drop_eq_nil_of_le (by rw [List.length_append, List.length_replicate]; omega), List.append_nil]
attribute [go_sem 1500] spl_a spl_b
theorem state_ok (s : List Int) (hl : s.length = 104) : AFn env 13 [sA s] [] (sA s) [] := by
  have h00 := s00_len
  have ha : ((s.drop 0).take 40).length = 40 := by simp; omega
  have hb : ((s.drop 40).take 64).length = 64 := by simp; omega
  have hab : ((s.drop 0).take 40 ++ (s.drop 40).take 64).length = 104 := by rw [List.length_append]; omega
  have he : (s.drop 0).take 40 ++ (s.drop 40).take 64 = s := by rw [List.drop_zero, List.take_of_length_le (l := s.drop 40) (by simp; omega), List.take_append_drop]
  refine afn_body Tryz.func13 rfl (by decide) ?_
  simp only [Tryz.ntmps13, Tryz.results13, List.length_cons, List.length_nil, List.cons_append, List.nil_append, Nat.reduceAdd, Nat.reduceSub, List.replicate]
  repeat' first
  | ((with_reducible refine awp_seqQ ?_); intro _ _)
  | ((with_reducible refine awp_region ?_); refine zS ?_)
  | ((with_reducible refine awp_ret ?_); refine q_step (by assumption) ?_)
  | with_reducible refine fin_r ?_
  | ((with_reducible refine q_step (by assumption) ?_); try refine zS ?_)
  all_goals first | (rw [he]; done) | trace_state
end Go.Eng
open Go Go.Proofs
namespace Go.Eng
set_option linter.unusedSimpArgs false
set_option linter.unusedVariables false
set_option maxRecDepth 10000
set_option maxHeartbeats 16000000
def g00 : List Int := List.replicate 105 0
theorem g00_len : g00.length = 105 := by rw [g00, List.length_replicate]
theorem g00_eq : List.replicate 105 0 = g00 := rfl
theorem g00_app : g00 = s00 ++ [0] := by rw [g00, s00, show (105 : Nat) = 104 + 1 from rfl, List.replicate_succ']
theorem spl_ge {e : Int} : splC 104 [.d (.sc (.int .i64 e))] (stC g00) = some (stC (s00 ++ [e])) := by
  rw [spl_at (by rw [g00_len]; decide), g00_app, List.set_append_right _ _ (by rw [s00_len]; decide), s00_len]; rfl
theorem spl_gs {t : List Int} (h : t.length = 104) : splC 0 (stC t) (stC g00) = some (stC (t ++ [0])) := by
  rw [spl_part (by rw [g00_len]; omega), List.take_zero, List.nil_append, g00_app, List.drop_append_of_le_length (by rw [s00_len]; omega), List.drop_eq_nil_of_le (by rw [s00_len]; omega)]; rfl
theorem spl_gg {t : List Int} {e : Int} (h : t.length = 104) : splC 0 (stC (t ++ [e])) (stC g00) = some (stC (t ++ [e])) := spl_all (by rw [g00_len, List.length_append, h]; rfl)
theorem cut_g {t : List Int} {e : Int} (h : t.length = 104) : cutC 0 104 (stC (t ++ [e])) = some (stC t) := by
  rw [cut_arr (by rw [List.length_append]; omega), List.drop_zero, List.take_append_of_le_length (by omega), List.take_of_length_le (by omega)]
theorem cut_e {t : List Int} {e : Int} (h : t.length = 104) : cutC 104 1 (stC (t ++ [e])) = some [.d (.sc (.int .i64 e))] := by
  rw [cut_at (by rw [List.length_append, h]; simp)]
  simp [gt, List.getD, h]
theorem cut_gg {t : List Int} {e : Int} (h : t.length = 104) : cutC 0 105 (stC (t ++ [e])) = some (stC (t ++ [e])) := cut_all (by rw [List.length_append, h]; rfl)
theorem len_g (t : List Int) (e : Int) : (t ++ [e]).length = t.length + 1 := by simp
attribute [go_sem] g00_eq g00_len s00_len len_g
attribute [go_sem 1500] spl_ge spl_gs spl_gg cut_g cut_e cut_gg
def gA (p : List Int × Int) : A := .agg (stC (p.1 ++ [p.2]))
theorem chk_ok3 {w : B} {s : List Int} (h : chkS w s = 0) (hl : s.length = 104) : okS s := by
  refine ⟨hl, fun k hk => ?_⟩
  rw [chk_eq (chk_rgt h)] at h
  split at h
  · cases h
  · rename_i h2
    have : badL w s k = false := by
      cases hb : badL w s k with
      | false => rfl
      | true => exact absurd (List.any_eq_true.2 ⟨k, List.mem_range'.2 ⟨k, hk, by omega⟩, hb⟩) h2
    have h3 : ¬ (gt s k < 0 ∨ gt s k > 2 ∨ ((k : Int) ≥ w.links.length ∧ gt s k ≠ 0)) := fun h => by rw [badL_iff.2 h] at this; cases this
    omega
theorem runs_iff {w : B} {s : List Int} {kid : Int} : runsF w s kid = true ↔ 0 ≤ kid ∧ kid < w.kids.length ∧ gt s (40 + kid.toNat) = 1 := by
  unfold runsF
  simp [and_assoc]
theorem give_comm {k : Int} {v u : Int} : ∀ {os : List Int} {s : List Int}, (∀ q ∈ os, k.toNat ≠ q.toNat) → giveF os v (s.set k.toNat u) = (giveF os v s).set k.toNat u
  | [], s, _ => rfl
  | q :: os, s, h => by
    show giveF os v ((s.set k.toNat u).set q.toNat v) = (giveF os v (s.set q.toNat v)).set k.toNat u
    rw [List.set_comm _ _ (h q (by simp)), give_comm (fun x hx => h x (by simp [hx]))]
def choL (out : Int) : List Int → Nat → List Int → List Int
  | [], _, s => s
  | k :: r, i, s => choL out r (i + 1) (if (i : Int) = out then (s.set k.toNat 2).set k.toNat 1 else s.set k.toNat 2)
theorem cho_drop {out : Int} {os : List Int} {j : Nat} {s : List Int} (h : j < os.length) : choL out (os.drop j) j s = choL out (os.drop (j + 1)) (j + 1) (if (j : Int) = out then (s.set (gt os j).toNat 2).set (gt os j).toNat 1 else s.set (gt os j).toNat 2) := by rw [drop_gt h, choL]
theorem choL_lt {out : Int} : ∀ {os : List Int} {i : Nat} {s : List Int}, out < i → choL out os i s = giveF os 2 s
  | [], _, _, _ => rfl
  | k :: r, i, s, h => by
    rw [choL, if_neg (by omega), choL_lt (by omega)]; rfl
theorem choL_eq {out : Int} : ∀ {os : List Int} {i : Nat} {s : List Int}, os.Pairwise (fun a b => a < b) → (∀ q ∈ os, 0 ≤ q) → (i : Int) ≤ out → out < i + os.length → choL out os i s = (giveF os 2 s).set (gt os (out.toNat - i)).toNat 1
  | [], i, s, _, _, h1, h2 => by simp at h2; omega
  | k :: r, i, s, hp, h0, h1, h2 => by
    rw [List.pairwise_cons] at hp
    have hk := h0 k (by simp)
    by_cases h : (i : Int) = out
    · rw [choL, if_pos h, choL_lt (by omega), show out.toNat - i = 0 by omega, show gt (k :: r) 0 = k by simp [gt], give_comm (fun q hq => by have := hp.1 q hq; have := h0 q (by simp [hq]); omega)]
      rfl
    · rw [choL, if_neg h, choL_eq hp.2 (fun q hq => h0 q (by simp [hq])) (by omega) (by simp only [List.length_cons] at h2; omega), show out.toNat - i = (out.toNat - (i + 1)) + 1 by omega, show gt (k :: r) (out.toNat - (i + 1) + 1) = gt r (out.toNat - (i + 1)) by simp [gt]]
      rfl
theorem idx2_pw (p : Lk → Bool) : ∀ (l : List Lk) (i : Nat), (idx2 p l i).Pairwise (fun a b => a < b)
  | [], _ => List.Pairwise.nil
  | f :: l, i => by
    rw [idx2]
    split
    · refine List.pairwise_cons.2 ⟨fun q hq => ?_, idx2_pw p l (i + 1)⟩
      have := idx2_mem hq; omega
    · exact idx2_pw p l (i + 1)
theorem rFinish_ok (w : B) (s : List Int) (kid : Int) (hs : w.size ≤ 100000) (hl : s.length = 104) : AFn env 18 [w.a, sA s, aI kid] [] (gA (finS w s kid)) [] := by
  have hW : chkS w s = 0 → Wb w := fun h => wb_of hs (chk_rgt h)
  have h00 := s00_len
  have hg0 := g00_len
  have hk64 : chkS w s = 0 → w.kids.length ≤ 64 := fun h => (hW h).hk
  have hz := B.size_eq w
  refine afn_body Tryz.func18 rfl (by decide) ?_
  simp only [Tryz.ntmps18, Tryz.results18, List.length_cons, List.length_nil, List.cons_append, List.nil_append, Nat.reduceAdd, Nat.reduceSub, List.replicate]
  repeat' first
  | ((with_reducible refine awp_seqQ ?_); intro _ _)
  | ((with_reducible refine awp_region ?_); refine zS ?_)
  | ((with_reducible refine Gd_nd ?_ ?_) <;> intro hb hb2 <;> first | contradiction | (exfalso; omega) | (refine zH hb2 ?_; try clear hb2))
  | ((with_reducible refine Gd_d ?_ ?_) <;> intro hb hb2 <;> first | contradiction | (exfalso; omega) | (refine zH hb2 ?_; try clear hb2))
  | ((with_reducible refine AWP_c ?_); refine zcdT ?_)
  | ((with_reducible refine AWP_c ?_); refine zcdN ?_ ?_ <;> intro hb hb2 <;> first | contradiction | (exfalso; omega) | ((try refine zH hb2 ?_); try clear hb2))
  | ((with_reducible refine AWP_c ?_); refine zcdD ?_ ?_ <;> intro hb hb2 <;> first | contradiction | (exfalso; omega) | ((try refine zH hb2 ?_); try clear hb2))
  | ((with_reducible refine awp_skip ?_); try refine zS ?_)
  | with_reducible refine awp_block ?_
  | ((with_reducible refine CallK_id ?_); refine zcF ?_; refine ⟨_, by first | exact rCheck19_ok w s hs hl | exact rOuts19_ok w kid (by omega) | fail, ?_⟩; refine ⟨fun _ => by (first | rfl | simp only [go_sem]; done), fun _ => by (first | rfl | simp only [go_sem]; done), by (first | rfl | (simp [okAs, okA, okCs, okC, okC_st, go_sem]; done)), ?_⟩; try refine zS ?_)
  | ((with_reducible refine awp_ret ?_); refine q_step (by assumption) ?_)
  | with_reducible refine fin_r ?_
  | ((with_reducible refine q_step (by assumption) ?_); try refine zS ?_)
  all_goals try (rw [finS, if_pos (by assumption)]; rfl)
  all_goals try (rw [finS, if_neg (by omega), if_pos (by first | exact .inr (by assumption) | exact .inl (Bool.eq_false_iff.2 (fun h => by have := runs_iff.1 h; omega)))]; rfl)
  have hck : chkS w s = 0 := ‹_›
  have hw := hW hck
  have hk6 := hk64 hck
  have hf : finS w s kid = (settleF (giveF (outsK w kid) 1 (s.set (40 + kid.toNat) 2)) w, 0) := by
    rw [finS, if_neg (by omega), if_neg (by rw [runs_iff.2 ⟨by omega, by omega, by assumption⟩]; simp [*])]
  have ho3 : okS (giveF (outsK w kid) 1 (s.set (40 + kid.toNat) 2)) := give_ok3 (by decide) (set_ok3 (chk_ok3 hck hl) (by omega))
  have hol : (outsK w kid).length ≤ w.links.length := idx2_len _ w.links 0
  have hom := outs_40 hw kid
  have hwl := hw.hl
  refine awp_loopT (fun z : Nat × List Int => z.1 ≤ (outsK w kid).length ∧ z.2.length = 104 ∧ giveF (outsK w kid) 1 (s.set (40 + kid.toNat) 2) = giveF ((outsK w kid).drop z.1) 1 z.2) (fun z => (outsK w kid).length - z.1) (fun z => [(52, aI z.1)]) (fun z => [some (.box w.bs), Sb s, Sb g00, Sb z.2]) (0, s.set (40 + kid.toNat) 2) ⟨by simp, by simpa using hl, rfl⟩ (by exact zwl) ?_
  rintro ⟨j, t⟩ ⟨h5, h6, h7⟩
  simp only at h5 h6 h7
  have hR : j < (outsK w kid).length → 0 ≤ gt (outsK w kid) j ∧ gt (outsK w kid) j < 40 := fun h => hom _ (gt_mem h)
  have hsl : (settleF t w).length = 104 := by rw [settleF_len]; exact h6
  refine zT ?_
  repeat' first
  | ((with_reducible refine awp_seqQ ?_); intro _ _)
  | ((with_reducible refine awp_region ?_); refine zS ?_)
  | ((with_reducible refine AWP_c ?_); refine zcdD ?_ ?_ <;> intro hb hb2 <;> first | contradiction | (exfalso; omega) | ((try refine zH hb2 ?_); try clear hb2))
  | ((with_reducible refine awp_skip ?_); try refine zS ?_)
  | with_reducible refine awp_block ?_
  | ((with_reducible refine awp_exit ?_); try refine zS ?_)
  | ((with_reducible refine q_step (by assumption) ?_); try refine zS ?_)
  · have h8 := h7
    rw [give_drop (by omega)] at h8
    exact ⟨(j + 1, t.set (gt (outsK w kid) j).toNat 1), ⟨by simp only; omega, by simpa using h6, h8⟩, by simp only; omega, (by exact zwc 4)⟩
  have ht : giveF (outsK w kid) 1 (s.set (40 + kid.toNat) 2) = t := by rw [h7, List.drop_eq_nil_of_le (by omega)]; rfl
  rw [ht] at hf ho3
  repeat' first
  | ((with_reducible refine CallK_id ?_); refine zcF ?_; refine ⟨_, by first | exact rSettled_ok w t hw h6 ho3 | fail, ?_⟩; refine ⟨fun _ => by (first | rfl | simp only [go_sem]; done), fun _ => by (first | rfl | simp only [go_sem]; done), by (first | rfl | (simp [okAs, okA, okCs, okC, okC_st, go_sem]; done)), ?_⟩; try refine zS ?_)
  | ((with_reducible refine awp_ret ?_); refine q_step (by assumption) ?_)
  | with_reducible refine fin_r ?_
  | ((with_reducible refine q_step (by assumption) ?_); try refine zS ?_)
  rw [hf]; rfl
theorem choL_len (out : Int) : ∀ (os : List Int) (i : Nat) (s : List Int), (choL out os i s).length = s.length
  | [], _, _ => rfl
  | k :: r, i, s => by rw [choL, choL_len out r]; split <;> simp
def atA (kid out : Int) : A := .agg [.d (dI kid), .d (dI out)]
def atB (kid out : Int) : Option Blk := some (.box [.d (dI kid), .d (dI out)])
attribute [go_sem] atA atB
theorem rChoose_ok (w : B) (s : List Int) (kid out : Int) (hs : w.size ≤ 100000) (hl : s.length = 104) : AFn env 16 [w.a, sA s, atA kid out] [] (gA (choS w s kid out)) [] := by
  have hW : chkS w s = 0 → Wb w := fun h => wb_of hs (chk_rgt h)
  have h00 := s00_len
  have hg0 := g00_len
  have hk64 : chkS w s = 0 → w.kids.length ≤ 64 := fun h => (hW h).hk
  have hz := B.size_eq w
  have hol : (outsK w kid).length ≤ w.links.length := idx2_len _ w.links 0
  refine afn_body Tryz.func16 rfl (by decide) ?_
  simp only [Tryz.ntmps16, Tryz.results16, List.length_cons, List.length_nil, List.cons_append, List.nil_append, Nat.reduceAdd, Nat.reduceSub, List.replicate]
  repeat' first
  | ((with_reducible refine awp_seqQ ?_); intro _ _)
  | ((with_reducible refine awp_region ?_); refine zS ?_)
  | ((with_reducible refine Gd_nd ?_ ?_) <;> intro hb hb2 <;> first | contradiction | (exfalso; omega) | (refine zH hb2 ?_; try clear hb2))
  | ((with_reducible refine Gd_d ?_ ?_) <;> intro hb hb2 <;> first | contradiction | (exfalso; omega) | (refine zH hb2 ?_; try clear hb2))
  | ((with_reducible refine AWP_c ?_); refine zcdT ?_)
  | ((with_reducible refine AWP_c ?_); refine zcdN ?_ ?_ <;> intro hb hb2 <;> first | contradiction | (exfalso; omega) | ((try refine zH hb2 ?_); try clear hb2))
  | ((with_reducible refine AWP_c ?_); refine zcdD ?_ ?_ <;> intro hb hb2 <;> first | contradiction | (exfalso; omega) | ((try refine zH hb2 ?_); try clear hb2))
  | ((with_reducible refine awp_skip ?_); try refine zS ?_)
  | with_reducible refine awp_block ?_
  | ((with_reducible refine CallK_id ?_); refine zcF ?_; refine ⟨_, by first | exact rCheck19_ok w s hs hl | exact rOuts19_ok w kid (by omega) | fail, ?_⟩; refine ⟨fun _ => by (first | rfl | simp only [go_sem]; done), fun _ => by (first | rfl | simp only [go_sem]; done), by (first | rfl | (simp [okAs, okA, okCs, okC, okC_st, go_sem]; done)), ?_⟩; try refine zS ?_)
  | ((with_reducible refine awp_ret ?_); refine q_step (by assumption) ?_)
  | with_reducible refine fin_r ?_
  | ((with_reducible refine q_step (by assumption) ?_); try refine zS ?_)
  all_goals try (rw [choS, if_pos (by assumption)]; rfl)
  all_goals try (rw [choS, if_neg (by omega), if_pos (by first | exact .inr (by assumption) | exact .inl (Bool.eq_false_iff.2 (fun h => by have := runs_iff.1 h; omega)))]; rfl)
  all_goals try (rw [choS, if_neg (by omega), if_neg (by rw [runs_iff.2 ⟨by omega, by omega, by assumption⟩]; simp [*]), if_pos (by omega)]; rfl)
  have hck : chkS w s = 0 := ‹_›
  have hw := hW hck
  have hk6 := hk64 hck
  have hf : choS w s kid out = (settleF ((giveF (outsK w kid) 2 (s.set (40 + kid.toNat) 2)).set (gt (outsK w kid) out.toNat).toNat 1) w, 0) := by
    rw [choS, if_neg (by omega), if_neg (by rw [runs_iff.2 ⟨by omega, by omega, by assumption⟩]; simp [*]), if_neg (by omega)]
  have hom := outs_40 hw kid
  have he : choL out (outsK w kid) 0 (s.set (40 + kid.toNat) 2) = (giveF (outsK w kid) 2 (s.set (40 + kid.toNat) 2)).set (gt (outsK w kid) out.toNat).toNat 1 := choL_eq (idx2_pw _ _ _) (fun q hq => (hom q hq).1) (by omega) (by omega)
  have ho2 : okS (giveF (outsK w kid) 2 (s.set (40 + kid.toNat) 2)) := give_ok3 (by decide) (set_ok3 (chk_ok3 hck hl) (by omega))
  have ho3 : okS ((giveF (outsK w kid) 2 (s.set (40 + kid.toNat) 2)).set (gt (outsK w kid) out.toNat).toNat 1) := by
    have hq := hom _ (gt_mem (l := outsK w kid) (i := out.toNat) (by omega))
    refine ⟨by simpa using ho2.1, fun k hk => ?_⟩
    rw [gtI_set2 _ _ _ _ (by rw [ho2.1]; omega)]
    split
    · decide
    · exact ho2.2 k hk
  rw [← he] at hf ho3
  have hwl := hw.hl
  refine awp_loopT (fun z : Nat × List Int => z.1 ≤ (outsK w kid).length ∧ z.2.length = 104 ∧ choL out (outsK w kid) 0 (s.set (40 + kid.toNat) 2) = choL out ((outsK w kid).drop z.1) z.1 z.2) (fun z => (outsK w kid).length - z.1) (fun z => [(71, aI z.1)]) (fun z => [some (.box w.bs), Sb s, atB kid out, Sb g00, Sb z.2]) (0, s.set (40 + kid.toNat) 2) ⟨by simp, by simpa using hl, rfl⟩ (by exact zwl) ?_
  rintro ⟨j, t⟩ ⟨h5, h6, h7⟩
  simp only at h5 h6 h7
  have hR : j < (outsK w kid).length → 0 ≤ gt (outsK w kid) j ∧ gt (outsK w kid) j < 40 := fun h => hom _ (gt_mem h)
  have hsl : (settleF t w).length = 104 := by rw [settleF_len]; exact h6
  have ht2 : (t.set (gt (outsK w kid) j).toNat 2).length = 104 := by simpa using h6
  refine zT ?_
  repeat' first
  | ((with_reducible refine awp_seqQ ?_); intro _ _)
  | ((with_reducible refine awp_region ?_); refine zS ?_)
  | ((with_reducible refine AWP_c ?_); refine zcdD ?_ ?_ <;> intro hb hb2 <;> first | contradiction | (exfalso; omega) | ((try refine zH hb2 ?_); try clear hb2))
  | ((with_reducible refine awp_skip ?_); try refine zS ?_)
  | with_reducible refine awp_block ?_
  | ((with_reducible refine awp_exit ?_); try refine zS ?_)
  | ((with_reducible refine q_step (by assumption) ?_); try refine zS ?_)
  all_goals try (
    have h8 := h7
    rw [cho_drop (by omega)] at h8
    first
    | (rw [if_pos (by assumption)] at h8; exact ⟨(j + 1, (t.set (gt (outsK w kid) j).toNat 2).set (gt (outsK w kid) j).toNat 1), ⟨by simp only; omega, by simpa using h6, h8⟩, by simp only; omega, (by exact zwc 5)⟩)
    | (rw [if_neg (by assumption)] at h8; exact ⟨(j + 1, t.set (gt (outsK w kid) j).toNat 2), ⟨by simp only; omega, by simpa using h6, h8⟩, by simp only; omega, (by exact zwc 5)⟩))
  have ht : choL out (outsK w kid) 0 (s.set (40 + kid.toNat) 2) = t := by rw [h7, List.drop_eq_nil_of_le (by omega)]; rfl
  rw [ht] at hf ho3
  repeat' first
  | ((with_reducible refine CallK_id ?_); refine zcF ?_; refine ⟨_, by first | exact rSettled_ok w t hw h6 ho3 | fail, ?_⟩; refine ⟨fun _ => by (first | rfl | simp only [go_sem]; done), fun _ => by (first | rfl | simp only [go_sem]; done), by (first | rfl | (simp [okAs, okA, okCs, okC, okC_st, go_sem]; done)), ?_⟩; try refine zS ?_)
  | ((with_reducible refine awp_ret ?_); refine q_step (by assumption) ?_)
  | with_reducible refine fin_r ?_
  | ((with_reducible refine q_step (by assumption) ?_); try refine zS ?_)
  rw [hf]; rfl
theorem over_links {s : List Int} : ∀ (l : List Lk) (k : Nat), (idx2 (fun f => decide (f.dst = -1)) l k).any (fun q => decide (gt s q.toNat = 1)) = (List.range' k l.length).any (fun j => decide ((gt l (j - k)).dst = -1) && decide (gt s j = 1))
  | [], _ => rfl
  | f :: l, k => by
    have ih := over_links (s := s) l (k + 1)
    rw [List.length_cons, List.range'_succ, List.any_cons, Nat.sub_self, show gt (f :: l) 0 = f by simp [gt], idx2]
    have e : (List.range' (k + 1) l.length).any (fun j => decide ((gt (f :: l) (j - k)).dst = -1) && decide (gt s j = 1)) = (List.range' (k + 1) l.length).any (fun j => decide ((gt l (j - (k + 1))).dst = -1) && decide (gt s j = 1)) := by
      refine any_congr' fun j hj => ?_
      obtain ⟨m, _, rfl⟩ := List.mem_range'.1 hj
      rw [show k + 1 + 1 * m - k = (k + 1 + 1 * m - (k + 1)) + 1 by omega, show gt (f :: l) (k + 1 + 1 * m - (k + 1) + 1) = gt l (k + 1 + 1 * m - (k + 1)) by simp [gt]]
    rw [e, ← ih]
    by_cases h : f.dst = -1
    · rw [if_pos (by simp [h]), List.any_cons, Int.toNat_natCast, decide_eq_true h, Bool.true_and]
    · rw [if_neg (by simp [h]), decide_eq_false h, Bool.false_and, Bool.false_or]
def ovB (w : B) (s : List Int) (j : Nat) : Bool := decide ((gt w.links j).dst = -1) && decide (gt s j = 1)
theorem ovr_eq {w : B} {s : List Int} (h : chkS w s = 0) : ovrS w s = (List.range' 0 w.links.length).any (ovB w s) := by
  rw [ovrS, if_neg (by omega)]
  unfold insK
  rw [over_links]; rfl
theorem rOver_ok (w : B) (s : List Int) (hs : w.size ≤ 100000) (hl : s.length = 104) : AFn env 22 [w.a, sA s] [] (aB (ovrS w s)) [] := by
  have hW : chkS w s = 0 → Wb w := fun h => wb_of hs (chk_rgt h)
  have hl40 : chkS w s = 0 → w.links.length ≤ 40 := fun h => (hW h).hl
  refine afn_body Tryz.func22 rfl (by decide) ?_
  simp only [Tryz.ntmps22, Tryz.results22, List.length_cons, List.length_nil, List.cons_append, List.nil_append, Nat.reduceAdd, Nat.reduceSub, List.replicate]
  repeat' first
  | ((with_reducible refine awp_seqQ ?_); intro _ _)
  | ((with_reducible refine awp_region ?_); refine zS ?_)
  | ((with_reducible refine AWP_c ?_); refine zcdN ?_ ?_ <;> intro hb hb2 <;> first | contradiction | (exfalso; omega) | ((try refine zH hb2 ?_); try clear hb2))
  | ((with_reducible refine awp_skip ?_); try refine zS ?_)
  | with_reducible refine awp_block ?_
  | ((with_reducible refine CallK_id ?_); refine zcF ?_; refine ⟨_, by first | exact rCheck19_ok w s hs hl | fail, ?_⟩; refine ⟨fun _ => by (first | rfl | simp only [go_sem]; done), fun _ => by (first | rfl | simp only [go_sem]; done), by (first | rfl | (simp [okAs, okA, okCs, okC, okC_st, go_sem]; done)), ?_⟩; try refine zS ?_)
  | ((with_reducible refine awp_ret ?_); refine q_step (by assumption) ?_)
  | with_reducible refine fin_r ?_
  | ((with_reducible refine q_step (by assumption) ?_); try refine zS ?_)
  · rw [ovrS, if_pos (by assumption)]
  have hl40 := hl40 ‹_›
  have hr := ovr_eq (s := s) ‹chkS w s = 0›
  refine awp_loopT (fun j : Nat => j ≤ w.links.length ∧ ovrS w s = (List.range' j (w.links.length - j)).any (ovB w s)) (fun j => w.links.length - j) (fun j => [(14, aI j)]) (fun _ => [some (.box w.bs), Sb s]) 0 ⟨by omega, hr⟩ (by exact zwl) ?_
  rintro j ⟨h1, h2⟩
  refine zT ?_
  repeat' first
  | ((with_reducible refine awp_seqQ ?_); intro _ _)
  | ((with_reducible refine awp_region ?_); refine zS ?_)
  | ((with_reducible refine Gd_d ?_ ?_) <;> intro hb hb2 <;> first | contradiction | (exfalso; omega) | (refine zH hb2 ?_; try clear hb2))
  | ((with_reducible refine AWP_c ?_); refine zcdF ?_)
  | ((with_reducible refine AWP_c ?_); refine zcdD ?_ ?_ <;> intro hb hb2 <;> first | contradiction | (exfalso; omega) | ((try refine zH hb2 ?_); try clear hb2))
  | ((with_reducible refine awp_skip ?_); try refine zS ?_)
  | with_reducible refine awp_block ?_
  | ((with_reducible refine awp_exit ?_); try refine zS ?_)
  | ((with_reducible refine awp_ret ?_); refine q_step (by assumption) ?_)
  | with_reducible refine fin_r ?_
  | ((with_reducible refine q_step (by assumption) ?_); try refine zS ?_)
  all_goals first
    | (rw [h2, anyR_t (by omega) (by simp [ovB, *]; done)]; done)
    | exact ⟨j + 1, ⟨by omega, by rw [h2, anyR_f (by omega) (by simp [ovB, *])]⟩, by omega, (by exact zwc 2)⟩
    | (rw [h2, show w.links.length - j = 0 by omega]; rfl)
    | trace_state
end Go.Eng
open Go Go.Proofs
namespace Go.Eng
set_option linter.unusedSimpArgs false
set_option linter.unusedVariables false
set_option maxRecDepth 100000
set_option maxHeartbeats 16000000
def tYes : T := .mk 10 0 [.mk 2 0 [], .mk 2 0 []]
def bW : B := .mk 13 0 0 0 t0 [] [.mk 12 0 3 1 t0 [tYes, t0] [] [] [] [], .mk 5 1 0 0 t0 [] [] [] [] [], .mk 12 2 4 0 t0 [] [] [] [] []] [⟨-1, 0⟩, ⟨0, 1⟩, ⟨0, 2⟩, ⟨1, 2⟩, ⟨2, -1⟩] [] []
theorem bW_r : rgtW bW = true := by decide +kernel
theorem bW_s : bW.size ≤ 100000 := by decide +kernel
def sW : List Int := startS bW
def tW : List Int := (choS bW sW 0 1).1
theorem sW_len : sW.length = 104 := by decide +kernel
theorem tW_len : tW.length = 104 := by decide +kernel
theorem bW_c : (choS bW sW 0 1).2 = 0 := by decide +kernel
theorem bW_n : (runS bW sW).length = 1 := by decide +kernel
theorem bW_k : gt tW 41 = 3 := by decide +kernel
theorem bW_o : ovrS bW tW = true := by decide +kernel
theorem bW_p : ovrS bW sW = false := by decide +kernel
theorem cW1 : AFn env 9 [bW.a] [] (.tup [sA sW, aI 0]) [] := by
  have := start19_ok bW bW_s
  rwa [if_pos bW_r, if_pos bW_r] at this
theorem cW2 : AFn env 15 [bW.a, sA sW, aI 0, aI 1] [] (.tup [sA tW, aI 0]) [] := by
  have := choose_ok bW sW 0 1 bW_s sW_len
  rwa [bW_c] at this
theorem cW3 : AFn env 12 [bW.a, sA sW] [] (aF ((runS bW sW).map iRow)) [] := running_ok bW sW bW_s sW_len
theorem cW4 : AFn env 21 [bW.a, sA tW] [] (aB true) [] := by
  have := over_ok bW tW bW_s tW_len
  rwa [bW_o] at this
theorem cW5 : AFn env 21 [bW.a, sA sW] [] (aB false) [] := by
  have := over_ok bW sW bW_s sW_len
  rwa [bW_p] at this
attribute [go_sem] bW_n bW_k
theorem skips_ok : AFn env 8 [] [] (aB true) [] := by
  have h1 := sW_len
  have h2 := tW_len
  have h0 := s00_len
  refine afn_body Tryz.func8 rfl (by decide) ?_
  simp only [Tryz.ntmps8, Tryz.results8, List.length_cons, List.length_nil, List.cons_append, List.nil_append, Nat.reduceAdd, Nat.reduceSub, List.replicate]
  iterate 2 (refine awp_seq ?_; refine awp_region ?_; refine zS ?_)
  refine awp_wk (wk_fzB (i := 1) (j := 2) rfl) ?_
  refine zT ?_
  refine awp_seq ?_
  refine awp_region ?_
  refine zS ?_
  refine awp_wk (wk_fzB (i := 5) (j := 8) rfl) ?_
  refine awp_wk (wk_fzB (i := 5) (j := 9) rfl) ?_
  refine zT ?_
  repeat' first
  | ((with_reducible refine awp_seqQ ?_); intro _ _)
  | ((with_reducible refine awp_region ?_); refine zS ?_)
  | ((with_reducible refine Gd_d ?_ ?_) <;> intro hb hb2 <;> first | contradiction | (exfalso; omega) | (refine zH hb2 ?_; try clear hb2))
  | ((with_reducible refine CallK_id ?_); refine zcF ?_; refine ⟨_, by first | exact cW1 | exact cW2 | exact cW3 | exact cW4 | exact cW5 | fail, ?_⟩; refine ⟨fun _ => by (first | rfl | simp only [go_sem]; done), fun _ => by (first | rfl | simp only [go_sem]; done), by (first | rfl | (simp [okAs, okA, okCs, okC, okC_st, go_sem]; done)), ?_⟩; try refine zS ?_)
  | ((with_reducible refine awp_ret ?_); refine q_step (by assumption) ?_)
  | with_reducible refine fin_r ?_
  | ((with_reducible refine q_step (by assumption) ?_); try refine zS ?_)
  all_goals first | rfl | (exfalso; simp_all; done) | trace_state
end Go.Eng
open Go Go.Proofs
namespace Go.Eng
set_option linter.unusedSimpArgs false
set_option linter.unusedVariables false
set_option maxRecDepth 10000
set_option maxHeartbeats 16000000
theorem startS_len (w : B) : (startS w).length = 104 := by rw [startS, settleF_len, giveF_len]; exact s00_len
theorem chk_no {w : B} {s : List Int} (h : rgtW w = false) : runS w s = [] := by rw [runS, if_pos (by rw [chk_4 h]; decide)]
theorem nl6 {w : B} (h : (largeB w 600 1).1 = false) : w.size ≤ 100000 := not_large h (by decide) (by decide)
theorem lawS0_ok (w : B) (hr : rgtW w = false) : AFn env 3 [w.a] [] (aB true) [] := by
  have h00 := s00_len
  have cA : w.size ≤ 100000 → AFn env 9 [w.a] [] (.tup [sA s00, aI 4]) [] := fun h => by have := start19_ok w h; rwa [if_neg (by simp [hr]), if_neg (by simp [hr])] at this
  have cB : w.size ≤ 100000 → AFn env 11 [w.a] [] (aB false) [] := fun h => by have := rRight19_ok w h; rwa [hr] at this
  have cC : w.size ≤ 100000 → AFn env 12 [w.a, sA s00] [] (aF []) [] := fun h => by have := running_ok w s00 h s00_len; rwa [chk_no hr] at this
  refine afn_body Tryz.func3 rfl (by decide) ?_
  simp only [Tryz.ntmps3, Tryz.results3, List.length_cons, List.length_nil, List.cons_append, List.nil_append, Nat.reduceAdd, Nat.reduceSub, List.replicate]
  repeat' first
  | ((with_reducible refine awp_seqQ ?_); intro _ _)
  | ((with_reducible refine awp_region ?_); refine zS ?_)
  | ((with_reducible refine Gd_d ?_ ?_) <;> intro hb hb2 <;> first | contradiction | (exfalso; omega) | (refine zH hb2 ?_; try clear hb2))
  | ((with_reducible refine AWP_c ?_); refine zcdT ?_)
  | ((with_reducible refine AWP_c ?_); refine zcdB ?_ ?_ <;> intro hb <;> first | contradiction | (try refine zH hb ?_))
  | ((with_reducible refine awp_skip ?_); try refine zS ?_)
  | ((with_reducible refine CallK_id ?_); refine zcF ?_; refine ⟨_, by first | exact skips_ok | exact cA (nl6 ‹_›) | exact cB (nl6 ‹_›) | exact cC (nl6 ‹_›) | exact ref_ok w (by have := nl6 ‹(largeB w 600 1).1 = false›; omega) | fail, ?_⟩; refine ⟨fun _ => by (first | rfl | simp only [go_sem]; done), fun _ => by (first | rfl | simp only [go_sem]; done), by (first | rfl | (simp [okAs, okA, okCs, okC, okC_st, go_sem]; done)), ?_⟩; try refine zS ?_)
  | ((with_reducible refine CallK_id ?_); refine zcT [1] ?_; refine ⟨_, _, by first | exact large_ok w 600 1 (by decide) (by decide) (by decide) (by decide) | fail, ?_⟩; try refine zS ?_)
  | ((with_reducible refine awp_ret ?_); refine q_step (by assumption) ?_)
  | with_reducible refine fin_r ?_
  | ((with_reducible refine q_step (by assumption) ?_); try refine zS ?_)
  all_goals first | rfl | (exfalso; simp_all; done) | trace_state
theorem lawS1_ok (w : B) (hr : rgtW w = true) : AFn env 3 [w.a] [] (aB true) [] := by
  have h00 := s00_len
  have h1 := startS_len w
  have cA : w.size ≤ 100000 → AFn env 9 [w.a] [] (.tup [sA (startS w), aI 0]) [] := fun h => by have := start19_ok w h; rwa [if_pos hr, if_pos hr] at this
  have cB : w.size ≤ 100000 → AFn env 11 [w.a] [] (aB true) [] := fun h => by have := rRight19_ok w h; rwa [hr] at this
  refine afn_body Tryz.func3 rfl (by decide) ?_
  simp only [Tryz.ntmps3, Tryz.results3, List.length_cons, List.length_nil, List.cons_append, List.nil_append, Nat.reduceAdd, Nat.reduceSub, List.replicate]
  repeat' first
  | ((with_reducible refine awp_seqQ ?_); intro _ _)
  | ((with_reducible refine awp_region ?_); refine zS ?_)
  | ((with_reducible refine awp_drawnA ?_ ?_); rfl; refine zS ?_)
  | ((with_reducible refine DStep_id ?_); refine zdP ?_; refine ⟨_, by first | exact skips_ok | exact cA (nl6 ‹_›) | exact cB (nl6 ‹_›) | exact ref_ok w (by have := nl6 ‹(largeB w 600 1).1 = false›; omega) | exact state_ok _ (startS_len w) | exact rStart_ok w (wb_of (nl6 ‹_›) hr) | fail, ?_⟩; refine ⟨fun _ => by (first | rfl | simp only [go_sem]; done), fun _ => by (first | rfl | simp only [go_sem]; done), by (first | rfl | (simp [okAs, okA, okCs, okC, okC_st, go_sem]; done)), (fun h => by first | (cases h; done) | (cases h; simp [go_sem, visA, visCs, visC]; done)), ?_⟩; try refine zS ?_)
  | ((with_reducible refine AWP_c ?_); refine zcdF ?_)
  | ((with_reducible refine AWP_c ?_); refine zcdB ?_ ?_ <;> intro hb <;> first | contradiction | (try refine zH hb ?_))
  | ((with_reducible refine awp_skip ?_); try refine zS ?_)
  | ((with_reducible refine CallK_id ?_); refine zcF ?_; refine ⟨_, by first | exact skips_ok | exact cA (nl6 ‹_›) | exact cB (nl6 ‹_›) | exact ref_ok w (by have := nl6 ‹(largeB w 600 1).1 = false›; omega) | exact state_ok _ (startS_len w) | exact rStart_ok w (wb_of (nl6 ‹_›) hr) | fail, ?_⟩; refine ⟨fun _ => by (first | rfl | simp only [go_sem]; done), fun _ => by (first | rfl | simp only [go_sem]; done), by (first | rfl | (simp [okAs, okA, okCs, okC, okC_st, go_sem]; done)), ?_⟩; try refine zS ?_)
  | ((with_reducible refine CallK_id ?_); refine zcT [1] ?_; refine ⟨_, _, by first | exact large_ok w 600 1 (by decide) (by decide) (by decide) (by decide) | fail, ?_⟩; try refine zS ?_)
  | ((with_reducible refine awp_ret ?_); refine q_step (by assumption) ?_)
  | with_reducible refine fin_r ?_
  | ((with_reducible refine q_step (by assumption) ?_); try refine zS ?_)
  all_goals first | rfl | (exfalso; simp_all; done) | trace_state
theorem lawS_ok (w : B) : AFn env 3 [w.a] [] (aB true) [] := by
  cases hr : rgtW w with
  | false => exact lawS0_ok w hr
  | true => exact lawS1_ok w hr
end Go.Eng
open Go Go.Proofs
namespace Go.Eng
set_option linter.unusedSimpArgs false
set_option linter.unusedVariables false
set_option maxRecDepth 10000
set_option maxHeartbeats 16000000
theorem cho_len (w : B) (s : List Int) (k o : Int) (hl : s.length = 104) : (choS w s k o).1.length = 104 := by
  unfold choS
  repeat' split
  all_goals first
    | exact s00_len
    | (simp only; rw [settleF_len, List.length_set, giveF_len, List.length_set]; exact hl)
theorem fin_len (w : B) (s : List Int) (k : Int) (hl : s.length = 104) : (finS w s k).1.length = 104 := by
  unfold finS
  repeat' split
  all_goals first
    | exact s00_len
    | (simp only; rw [settleF_len, giveF_len, List.length_set]; exact hl)
attribute [go_sem] gA
theorem vis_st (H : Heap) : ∀ s : List Int, visCs H (stC s) = true
  | [] => rfl
  | a :: s => by
    have := vis_st H s
    show visCs H (cI1 a :: stC s) = true
    rw [visCs, this]; rfl
attribute [go_sem] vis_st
end Go.Eng
open Go Go.Proofs
namespace Go.Eng
set_option linter.unusedSimpArgs false
set_option linter.unusedVariables false
set_option maxRecDepth 10000
set_option maxHeartbeats 40000000
structure Good (w : B) (s : List Int) : Prop where
  len : s.length = 104
  lk : ∀ k, k < 40 → 0 ≤ gt s k ∧ gt s k ≤ 2 ∧ (w.links.length ≤ k → gt s k = 0)
  kd : ∀ i, i < 64 → 0 ≤ gt s (40 + i) ∧ gt s (40 + i) ≤ 3 ∧ (w.kids.length ≤ i → gt s (40 + i) = 0)
  gk : ∀ i, i < w.kids.length → (gt w.kids i).kind = 12 → gt s (40 + i) = 1 → (gt w.kids i).x = 3
theorem good_chk {w : B} {s : List Int} (hr : rgtW w = true) (h : Good w s) : chkS w s = 0 := by
  rw [chk_eq hr, if_neg, if_neg]
  · rw [Bool.not_eq_true, List.any_eq_false]
    intro i hi
    obtain ⟨j, hj, rfl⟩ := List.mem_range'.1 hi
    have := h.kd (0 + 1 * j) (by omega)
    intro hb
    have := badK2_iff.1 hb
    omega
  · rw [Bool.not_eq_true, List.any_eq_false]
    intro i hi
    obtain ⟨j, hj, rfl⟩ := List.mem_range'.1 hi
    have := h.lk (0 + 1 * j) (by omega)
    intro hb
    have := badL_iff.1 hb
    omega
theorem good_lk {w : B} {s : List Int} {k : Nat} {v : Int} (hw : Wb w) (h : Good w s) (hk : k < w.links.length) (hv : 0 ≤ v ∧ v ≤ 2) : Good w (s.set k v) := by
  have hl := hw.hl
  have hlen := h.len
  have hg : ∀ j, gt (s.set k v) j = if k = j then v else gt s j := fun j => gtI_set2 _ _ _ _ (by omega)
  refine ⟨by simpa using hlen, fun j hj => ?_, fun i hi => ?_, fun i hi hk2 h1 => ?_⟩
  · rw [hg]; split
    · exact ⟨hv.1, hv.2, fun h => by omega⟩
    · exact h.lk j hj
  · rw [hg, if_neg (by omega)]; exact h.kd i hi
  · rw [hg, if_neg (by omega)] at h1; exact h.gk i hi hk2 h1
theorem good_kd {w : B} {s : List Int} {i : Nat} {v : Int} (hw : Wb w) (h : Good w s) (hi : i < w.kids.length) (hv : 0 ≤ v ∧ v ≤ 3) (hx : v = 1 → (gt w.kids i).kind = 12 → (gt w.kids i).x = 3) : Good w (s.set (40 + i) v) := by
  have hl := hw.hk
  have hlen := h.len
  have hg : ∀ j, gt (s.set (40 + i) v) j = if 40 + i = j then v else gt s j := fun j => gtI_set2 _ _ _ _ (by omega)
  refine ⟨by simpa using hlen, fun j hj => ?_, fun j hj => ?_, fun j hj hk2 h1 => ?_⟩
  · rw [hg, if_neg (by omega)]; exact h.lk j hj
  · rw [hg]; split
    · exact ⟨hv.1, hv.2, fun h => by omega⟩
    · exact h.kd j hj
  · rw [hg] at h1
    split at h1
    · have : j = i := by omega
      subst this
      exact hx h1 hk2
    · exact h.gk j hj hk2 h1
theorem good_give {w : B} {v : Int} (hw : Wb w) (hv : 0 ≤ v ∧ v ≤ 2) : ∀ {os : List Int} {s : List Int}, (∀ q ∈ os, 0 ≤ q ∧ q < w.links.length) → Good w s → Good w (giveF os v s)
  | [], s, _, h => h
  | k :: os, s, ho, h => by
    have hk := ho k (by simp)
    show Good w (giveF os v (s.set k.toNat v))
    exact good_give hw hv (fun q hq => ho q (by simp [hq])) (good_lk hw h (by omega) hv)
theorem outs_in {w : B} (i : Int) : ∀ q ∈ outsK w i, 0 ≤ q ∧ q < w.links.length := fun q hq => by have := idx2_mem hq; omega
theorem good_fate {w : B} {s : List Int} {i : Nat} (hw : Wb w) (hi : i < w.kids.length) (h : Good w s) : Good w (fateF s w i) := by
  unfold fateF
  split
  · exact good_give hw (by decide) (outs_in i) (good_kd hw h hi (by decide) (fun h => by omega))
  · split
    · exact good_give hw (by decide) (outs_in i) (good_kd hw h hi (by decide) (fun h => by omega))
    · rename_i hn
      exact good_kd hw h hi (by decide) (fun _ hk => by
        refine Classical.byContradiction fun hx => hn ⟨hk, hx⟩)
theorem good_settleN {w : B} (hw : Wb w) : ∀ (k : Nat) {s : List Int}, Good w s → Good w (settleN w k s)
  | 0, s, h => h
  | k + 1, s, h => by
    rw [settleN]
    cases hp : pickF s w with
    | none => exact h
    | some i => exact good_settleN hw k (good_fate hw (pick_spec hp).1 h)
theorem good_settle {w : B} {s : List Int} (hw : Wb w) (h : Good w s) : Good w (settleF s w) := good_settleN hw _ h
theorem good_0 (w : B) : Good w s00 := ⟨s00_len, fun k _ => by rw [s00_get]; simp, fun k _ => by rw [s00_get]; simp, fun i _ _ h => by rw [s00_get] at h; cases h⟩
theorem good_start {w : B} (hw : Wb w) : Good w (startS w) := good_settle hw (good_give hw (by decide) (outs_in _) (good_0 w))
theorem idx2_count (p : Lk → Bool) : ∀ (l : List Lk) (i : Nat), (idx2 p l i).length = l.countP p
  | [], _ => rfl
  | f :: l, i => by
    rw [idx2, List.countP_cons, ← idx2_count p l (i + 1)]
    split <;> simp
theorem kidsBad_f {ls : List Lk} : ∀ {l : List B} {i : Nat}, kidsBad ls l i = false → ∀ j, j < l.length → kidBad ls (gt l j) (i + j : Nat) = false
  | [], _, _, j, h => by simp at h
  | k :: l, i, hb, j, h => by
    rw [kidsBad, Bool.or_eq_false_iff] at hb
    cases j with
    | zero => simpa [gt] using hb.1
    | succ j =>
      have := kidsBad_f hb.2 j (by simpa using h)
      rw [show i + 1 + j = i + (j + 1) by omega] at this
      simpa [gt] using this
theorem gate_outs {w : B} (hr : rgtW w = true) {i : Nat} (hi : i < w.kids.length) (hk : (gt w.kids i).kind = 12) (hx : (gt w.kids i).x = 3) : (outsK w i).length = (gt w.kids i).conds.length ∧ 0 < (gt w.kids i).conds.length := by
  unfold rgtW at hr
  simp only [Bool.and_eq_true, decide_eq_true_eq] at hr
  obtain ⟨h13, hc⟩ := hr
  have hrt : rightF numF w = true := by
    unfold checkF at hc
    split at hc
    · cases hc
    · split at hc
      · cases hc
      · rename_i q
        cases hh : rightF numF w with
        | true => rfl
        | false => exact absurd (.inr (.inr hh)) q
  have hn := right_num hrt
  rw [num13 h13, Bool.and_eq_true] at hn
  have hl := hn.2
  unfold linkedF at hl
  split at hl
  · cases hl
  split at hl
  · cases hl
  split at hl
  · cases hl
  rename_i hkb
  have hkb2 := kidsBad_f (by simpa using hkb) i hi
  rw [Nat.zero_add] at hkb2
  have hb3 : ¬ kidBad w.links (gt w.kids i) i = true := by rw [hkb2]; decide
  rw [kidBad_iff] at hb3
  rw [rightF_eq] at hrt
  simp only [Bool.and_eq_true, Bool.not_eq_true', List.any_eq_false] at hrt
  have hw1 := hrt.2 _ (gt_mem hi)
  simp only [wrong1, Bool.not_eq_true, Bool.or_eq_false_iff, Bool.not_eq_false'] at hw1
  have hn2 := right_num hw1.2
  have hc2 : 1 < (gt w.kids i).conds.length := by
    unfold numF at hn2
    simp [hk, hx] at hn2
    omega
  refine ⟨?_, by omega⟩
  have : (cO w.links i : Int) = (gt w.kids i).conds.length := by
    refine Classical.byContradiction fun hne => hb3 (.inr ⟨hk, .inr (.inl ⟨hx, .inr hne⟩)⟩)
  have e : (outsK w i).length = cO w.links i := idx2_count _ w.links 0
  omega
theorem fin_good {w : B} {s : List Int} {i : Nat} (hr : rgtW w = true) (hw : Wb w) (h : Good w s) (hi : i < w.kids.length) (h1 : gt s (40 + i) = 1) (hk : (gt w.kids i).kind ≠ 12) : (finS w s i).2 = 0 ∧ Good w (finS w s i).1 := by
  have hc := good_chk hr h
  have hrun : runsF w s i = true := runs_iff.2 ⟨by omega, by omega, by simpa using h1⟩
  rw [finS, if_neg (by omega), if_neg (by rw [hrun]; simpa using hk)]
  exact ⟨rfl, good_settle hw (good_give hw (by decide) (outs_in i) (by simpa using good_kd hw h hi (v := 2) (by decide) (fun h => by omega)))⟩
theorem cho_good {w : B} {s : List Int} {i : Nat} {o : Int} (hr : rgtW w = true) (hw : Wb w) (h : Good w s) (hi : i < w.kids.length) (h1 : gt s (40 + i) = 1) (hk : (gt w.kids i).kind = 12) (ho : 0 ≤ o ∧ o < (gt w.kids i).conds.length) : (choS w s i o).2 = 0 ∧ Good w (choS w s i o).1 := by
  have hc := good_chk hr h
  have hrun : runsF w s i = true := runs_iff.2 ⟨by omega, by omega, by simpa using h1⟩
  have hg := gate_outs hr hi hk (h.gk i hi hk h1)
  have hq := outs_in (w := w) i _ (gt_mem (l := outsK w i) (i := o.toNat) (by omega))
  rw [choS, if_neg (by omega), if_neg (by rw [hrun]; simpa using hk), if_neg (by omega)]
  exact ⟨rfl, good_settle hw (good_lk hw (good_give hw (by decide) (outs_in i) (by simpa using good_kd hw h hi (v := 2) (by decide) (fun h => by omega))) (by omega) (by decide))⟩
theorem runL_mem {s : List Int} : ∀ {r : List Nat} {q : Int}, q ∈ runL s r → ∃ i ∈ r, q = (i : Int) ∧ gt s (40 + i) = 1
  | [], q, h => by simp [runL] at h
  | i :: r, q, h => by
    rw [runL] at h
    split at h
    · rcases List.mem_cons.1 h with rfl | h
      · exact ⟨i, by simp, rfl, by assumption⟩
      · obtain ⟨j, h1, h2⟩ := runL_mem h; exact ⟨j, by simp [h1], h2⟩
    · obtain ⟨j, h1, h2⟩ := runL_mem h; exact ⟨j, by simp [h1], h2⟩
theorem runL_len (s : List Int) : ∀ r : List Nat, (runL s r).length ≤ r.length
  | [] => by simp [runL]
  | i :: r => by have := runL_len s r; rw [runL]; split <;> simp <;> omega
theorem run_in {w : B} {s : List Int} (hc : chkS w s = 0) {j : Nat} (hj : j < (runS w s).length) : 0 ≤ gt (runS w s) j ∧ gt (runS w s) j < w.kids.length ∧ gt s (40 + (gt (runS w s) j).toNat) = 1 := by
  have hm := gt_mem hj
  have e : runS w s = runL s (List.range' 0 w.kids.length) := by rw [runS, if_neg (by omega)]
  rw [e] at hm
  obtain ⟨i, h1, h2, h3⟩ := runL_mem hm
  rw [← e] at h2
  obtain ⟨m, hm2, rfl⟩ := List.mem_range'.1 h1
  rw [h2]
  exact ⟨by omega, by omega, by rw [Int.toNat_natCast]; exact h3⟩
theorem tmod_in {p : Int} {n : Nat} (h : 0 ≤ p) (hn : 0 < n) : 0 ≤ p.tmod n ∧ p.tmod n < n := ⟨Int.tmod_nonneg _ h, Int.tmod_lt_of_pos _ (by omega)⟩
theorem gt_app {a b : List Int} {x : Int} : gt (a ++ x :: b) a.length = x := by simp [gt, List.getD]
end Go.Eng
open Go Go.Proofs
namespace Go.Eng
set_option linter.unusedSimpArgs false
set_option linter.unusedVariables false
set_option maxRecDepth 10000
set_option maxHeartbeats 40000000
theorem lawR0_ok (w : B) (ps : List Int) (hp : ps.length < 4611686018427387904) (hr : rgtW w = false) : AFn env 6 [w.a, aF (ps.map iRow)] [] (aB true) [] := by
  have h00 := s00_len
  have cA : w.size ≤ 100000 → AFn env 9 [w.a] [] (.tup [sA s00, aI 4]) [] := fun h => by have := start19_ok w h; rwa [if_neg (by simp [hr]), if_neg (by simp [hr])] at this
  have cB : w.size ≤ 100000 → AFn env 11 [w.a] [] (aB false) [] := fun h => by have := rRight19_ok w h; rwa [hr] at this
  refine afn_body Tryz.func6 rfl (by decide) ?_
  simp only [Tryz.ntmps6, Tryz.results6, List.length_cons, List.length_nil, List.cons_append, List.nil_append, Nat.reduceAdd, Nat.reduceSub, List.replicate]
  repeat' first
  | ((with_reducible refine awp_seqQ ?_); intro _ _)
  | ((with_reducible refine awp_region ?_); refine zS ?_)
  | ((with_reducible refine Gd_nb ?_ ?_) <;> intro hb <;> first | contradiction | refine zH hb ?_)
  | ((with_reducible refine AWP_c ?_); refine zcdT ?_)
  | ((with_reducible refine AWP_c ?_); refine zcdD ?_ ?_ <;> intro hb hb2 <;> first | contradiction | (exfalso; omega) | ((try refine zH hb2 ?_); try clear hb2))
  | ((with_reducible refine awp_skip ?_); try refine zS ?_)
  | ((with_reducible refine CallK_id ?_); refine zcF ?_; refine ⟨_, by first | exact skips_ok | exact cA (nl6 ‹_›) | exact ref_ok w (by have := nl6 ‹(largeB w 600 1).1 = false›; omega) | fail, ?_⟩; refine ⟨fun _ => by (first | rfl | simp only [go_sem]; done), fun _ => by (first | rfl | simp only [go_sem]; done), by (first | rfl | (simp [okAs, okA, okCs, okC, okC_st, go_sem]; done)), ?_⟩; try refine zS ?_)
  | ((with_reducible refine CallK_id ?_); refine zcT [1] ?_; refine ⟨_, _, by first | exact large_ok w 600 1 (by decide) (by decide) (by decide) (by decide) | fail, ?_⟩; try refine zS ?_)
  | ((with_reducible refine awp_ret ?_); refine q_step (by assumption) ?_)
  | with_reducible refine fin_r ?_
  | ((with_reducible refine q_step (by assumption) ?_); try refine zS ?_)
  all_goals first | rfl | (exfalso; simp_all; done) | trace_state
theorem lawR1_ok (w : B) (ps : List Int) (hp : ps.length < 4611686018427387904) (hr : rgtW w = true) : AFn env 6 [w.a, aF (ps.map iRow)] [] (aB true) [] := by
  have h00 := s00_len
  have h1 := startS_len w
  have cA : w.size ≤ 100000 → AFn env 9 [w.a] [] (.tup [sA (startS w), aI 0]) [] := fun h => by have := start19_ok w h; rwa [if_pos hr, if_pos hr] at this
  have cB : w.size ≤ 100000 → AFn env 11 [w.a] [] (aB true) [] := fun h => by have := rRight19_ok w h; rwa [hr] at this
  refine afn_body Tryz.func6 rfl (by decide) ?_
  simp only [Tryz.ntmps6, Tryz.results6, List.length_cons, List.length_nil, List.cons_append, List.nil_append, Nat.reduceAdd, Nat.reduceSub, List.replicate]
  repeat' first
  | ((with_reducible refine awp_seqQ ?_); intro _ _)
  | ((with_reducible refine awp_region ?_); refine zS ?_)
  | ((with_reducible refine Gd_nb ?_ ?_) <;> intro hb <;> first | contradiction | refine zH hb ?_)
  | ((with_reducible refine AWP_c ?_); refine zcdT ?_)
  | ((with_reducible refine AWP_c ?_); refine zcdF ?_)
  | ((with_reducible refine AWP_c ?_); refine zcdD ?_ ?_ <;> intro hb hb2 <;> first | contradiction | (exfalso; omega) | ((try refine zH hb2 ?_); try clear hb2))
  | ((with_reducible refine awp_skip ?_); try refine zS ?_)
  | with_reducible refine awp_block ?_
  | ((with_reducible refine CallK_id ?_); refine zcF ?_; refine ⟨_, by first | exact skips_ok | exact cA (nl6 ‹_›) | exact cB (nl6 ‹_›) | exact ref_ok w (by have := nl6 ‹(largeB w 600 1).1 = false›; omega) | exact rStart_ok w (wb_of (nl6 ‹_›) hr) | fail, ?_⟩; refine ⟨fun _ => by (first | rfl | simp only [go_sem]; done), fun _ => by (first | rfl | simp only [go_sem]; done), by (first | rfl | (simp [okAs, okA, okCs, okC, okC_st, go_sem]; done)), ?_⟩; try refine zS ?_)
  | ((with_reducible refine CallK_id ?_); refine zcT [1] ?_; refine ⟨_, _, by first | exact large_ok w 600 1 (by decide) (by decide) (by decide) (by decide) | fail, ?_⟩; try refine zS ?_)
  | ((with_reducible refine awp_ret ?_); refine q_step (by assumption) ?_)
  | with_reducible refine fin_r ?_
  | ((with_reducible refine q_step (by assumption) ?_); try refine zS ?_)
  all_goals try rfl
  have hz := nl6 ‹(largeB w 600 1).1 = false›
  have hw := wb_of hz hr
  have hwk := hw.hk
  have hwl := hw.hl
  clear cA cB
  refine awp_loopT (fun z : Nat × List Int => z.1 ≤ ps.length ∧ Good w z.2) (fun z => ps.length - z.1) (fun z => [(26, .any), (28, .any), (45, aI z.1)]) (fun z => [some (.box w.bs), some (.box [.d (dI (largeB w 600 1).2)]), Sb z.2, some (.box w.bs), Sb z.2]) (0, startS w) ⟨by simp, good_start hw⟩ (by exact zwl) ?_
  rintro ⟨j, s⟩ ⟨g1, g2⟩
  simp only at g1 g2
  have hl := g2.len
  have hc := good_chk hr g2
  have hrl := runL_len s (List.range' 0 w.kids.length)
  have hre : runS w s = runL s (List.range' 0 w.kids.length) := by rw [runS, if_neg (by omega)]
  have hrl : (runS w s).length ≤ w.kids.length := by rw [hre]; simpa using hrl
  refine zT ?_
  repeat' first
  | ((with_reducible refine awp_seqQ ?_); intro _ _)
  | ((with_reducible refine awp_region ?_); refine zS ?_)
  | ((with_reducible refine AWP_c ?_); refine zcdD ?_ ?_ <;> intro hb hb2 <;> first | contradiction | (exfalso; omega) | ((try refine zH hb2 ?_); try clear hb2))
  | ((with_reducible refine awp_skip ?_); try refine zS ?_)
  | with_reducible refine awp_block ?_
  | ((with_reducible refine awp_exit ?_); try refine zS ?_)
  | ((with_reducible refine CallK_id ?_); refine zcF ?_; refine ⟨_, by first | exact skips_ok | exact running_ok w s hz hl | fail, ?_⟩; refine ⟨fun _ => by (first | rfl | simp only [go_sem]; done), fun _ => by (first | rfl | simp only [go_sem]; done), by (first | rfl | (simp [okAs, okA, okCs, okC, okC_st, go_sem]; done)), ?_⟩; try refine zS ?_)
  | ((with_reducible refine awp_ret ?_); refine q_step (by assumption) ?_)
  | with_reducible refine fin_r ?_
  | ((with_reducible refine q_step (by assumption) ?_); try refine zS ?_)
  rotate_left
  · rfl
  generalize hL : runS w s = L at *
  refine awp_loopT (fun z : Nat × List Int => z.1 ≤ w.kids.length ∧ z.2 ++ runL s (List.range' z.1 (w.kids.length - z.1)) = L) (fun z => w.kids.length - z.1) (fun z => [(26, .any), (28, .any), (12, aI z.2.length), (55, aI z.1)]) (fun z => [some (.box w.bs), some (.box [.d (dI (largeB w 600 1).2)]), Sb s, some (.box w.bs), Sb s]) (0, []) ⟨by simp, by simp [hre]⟩ (by exact zwl) ?_
  rintro ⟨i, pre⟩ ⟨g3, g4⟩
  simp only at g3 g4
  have hpl : pre.length ≤ L.length := by rw [← g4, List.length_append]; omega
  have hgo : (i < w.kids.length ∧ gt s (40 + i) = 1) → pre.length < L.length ∧ gt L pre.length = i ∧ (pre ++ [(i : Int)]) ++ runL s (List.range' (i + 1) (w.kids.length - (i + 1))) = L := fun h => by
    rw [runL_t h.1 h.2] at g4
    refine ⟨by rw [← g4]; simp, by rw [← g4]; exact gt_app, by rw [← g4]; simp⟩
  have hpj : j < ps.length → L.length ≠ 0 → 0 ≤ gt ps j → 0 ≤ (gt ps j).tmod L.length ∧ (gt ps j).tmod L.length < L.length := fun _ h1 h2 => tmod_in h2 (by omega)
  refine zT ?_
  repeat' first
  | ((with_reducible refine awp_seqQ ?_); intro _ _)
  | ((with_reducible refine awp_region ?_); refine zS ?_)
  | ((with_reducible refine Gd_nd ?_ ?_) <;> intro hb hb2 <;> first | contradiction | (exfalso; omega) | (refine zH hb2 ?_; try clear hb2))
  | ((with_reducible refine awp_drawnA ?_ ?_); rfl; refine zS ?_)
  | ((with_reducible refine CGd_d ?_ ?_) <;> intro hb hb2 <;> first | contradiction | (exfalso; omega) | (refine zH hb2 ?_; try clear hb2))
  | ((with_reducible refine DStep_id ?_); refine zdP ?_; refine ⟨_, by first | exact state_ok s hl | exact over_ok w s hz hl | exact rOver_ok w s hz hl | fail, ?_⟩; refine ⟨fun _ => by (first | rfl | simp only [go_sem]; done), fun _ => by (first | rfl | simp only [go_sem]; done), by (first | rfl | (simp [okAs, okA, okCs, okC, okC_st, go_sem]; done)), (fun h => by first | (cases h; done) | (cases h; simp [go_sem, visA, visCs, visC]; done)), ?_⟩; try refine zS ?_)
  | ((with_reducible refine AWP_c ?_); refine zcdT ?_)
  | ((with_reducible refine AWP_c ?_); refine zcdF ?_)
  | ((with_reducible refine AWP_c ?_); refine zcdN ?_ ?_ <;> intro hb hb2 <;> first | contradiction | (exfalso; omega) | ((try refine zH hb2 ?_); try clear hb2))
  | ((with_reducible refine AWP_c ?_); refine zcdD ?_ ?_ <;> intro hb hb2 <;> first | contradiction | (exfalso; omega) | ((try refine zH hb2 ?_); try clear hb2))
  | ((with_reducible refine awp_skip ?_); try refine zS ?_)
  | with_reducible refine awp_block ?_
  | ((with_reducible refine awp_exit ?_); try refine zS ?_)
  | ((with_reducible refine awp_ret ?_); refine q_step (by assumption) ?_)
  | with_reducible refine fin_r ?_
  | ((with_reducible refine q_step (by assumption) ?_); try refine zS ?_)
  all_goals first
    | exact ⟨(i + 1, pre ++ [(i : Int)]), ⟨by simp only; omega, (hgo ⟨by omega, by assumption⟩).2.2⟩, by simp only; omega, (by exact zwc 5)⟩
    | exact ⟨(i + 1, pre), ⟨by simp only; omega, by rw [← g4, runL_f (j := i) (by omega) (by assumption)]⟩, by simp only; omega, (by exact zwc 5)⟩
    | (exfalso; rw [show w.kids.length - i = 0 by omega, List.range'_zero, runL, List.append_nil] at g4; rw [g4] at *; omega)
    | exact ⟨(j + 1, s), ⟨by simp only; omega, g2⟩, by simp only; omega, (by exact zwc 5)⟩
    | skip
  have hi : i = w.kids.length := by omega
  have hpj := hpj (by omega) (by omega) (by omega)
  have hin := run_in hc (j := ((gt ps j).tmod L.length).toNat) (by rw [hL]; omega)
  rw [hL] at hin
  have hne : ¬ (L.length : Int) = 0 := by omega
  simp only [if_neg hne]
  refine zS ?_
  generalize hq : gt L ((gt ps j).tmod L.length).toNat = q at *
  obtain ⟨m, rfl⟩ : ∃ m : Nat, q = m := ⟨q.toNat, by omega⟩
  rw [Int.toNat_natCast] at hin
  repeat' first
  | ((with_reducible refine awp_seqQ ?_); intro _ _)
  | ((with_reducible refine awp_region ?_); refine zS ?_)
  | ((with_reducible refine AWP_c ?_); refine zcdD ?_ ?_ <;> intro hb hb2 <;> first | contradiction | (exfalso; omega) | ((try refine zH hb2 ?_); try clear hb2))
  · have hk : (gt w.kids m).kind = 12 := ‹_›
    have hgo2 := gate_outs hr (by omega) hk (g2.gk m (by omega) hk hin.2.2)
    have ho := tmod_in (p := gt ps j) (n := (gt w.kids m).conds.length) (by omega) hgo2.2
    have hne2 : ¬ ((gt w.kids m).conds.length : Int) = 0 := by omega
    have hcg := cho_good (o := (gt ps j).tmod (gt w.kids m).conds.length) hr hw g2 (by omega) hin.2.2 hk ho
    have hcl := cho_len w s m ((gt ps j).tmod (gt w.kids m).conds.length) hl
    simp only [if_neg hne2]
    refine zS ?_
    repeat' first
    | ((with_reducible refine awp_seqQ ?_); intro _ _)
    | ((with_reducible refine awp_region ?_); refine zS ?_)
    | ((with_reducible refine AWP_c ?_); refine zcdN ?_ ?_ <;> intro hb hb2 <;> first | contradiction | (exfalso; omega) | ((try refine zH hb2 ?_); try clear hb2))
    | ((with_reducible refine awp_skip ?_); try refine zS ?_)
    | ((with_reducible refine CallK_id ?_); refine zcF ?_; refine ⟨_, by first | exact choose_ok w s m ((gt ps j).tmod (gt w.kids m).conds.length) hz hl | exact rChoose_ok w s m ((gt ps j).tmod (gt w.kids m).conds.length) hz hl | fail, ?_⟩; refine ⟨fun _ => by (first | rfl | simp only [go_sem]; done), fun _ => by (first | rfl | simp only [go_sem]; done), by (first | rfl | (simp [okAs, okA, okCs, okC, okC_st, go_sem]; done)), ?_⟩; try refine zS ?_)
    | ((with_reducible refine q_step (by assumption) ?_); try refine zS ?_)
    all_goals first
      | exact absurd hcg.1 ‹_›
      | exact ⟨(j + 1, (choS w s m ((gt ps j).tmod (gt w.kids m).conds.length)).1), ⟨by simp only; omega, hcg.2⟩, by simp only; omega, (by exact zwc 5)⟩
      | trace_state
  · have hk : ¬ (gt w.kids m).kind = 12 := ‹_›
    have hcg := fin_good hr hw g2 (by omega) hin.2.2 hk
    have hcl := fin_len w s m hl
    repeat' first
    | ((with_reducible refine awp_seqQ ?_); intro _ _)
    | ((with_reducible refine awp_region ?_); refine zS ?_)
    | ((with_reducible refine AWP_c ?_); refine zcdN ?_ ?_ <;> intro hb hb2 <;> first | contradiction | (exfalso; omega) | ((try refine zH hb2 ?_); try clear hb2))
    | ((with_reducible refine awp_skip ?_); try refine zS ?_)
    | ((with_reducible refine CallK_id ?_); refine zcF ?_; refine ⟨_, by first | exact finish_ok w s m hz hl | exact rFinish_ok w s m hz hl | fail, ?_⟩; refine ⟨fun _ => by (first | rfl | simp only [go_sem]; done), fun _ => by (first | rfl | simp only [go_sem]; done), by (first | rfl | (simp [okAs, okA, okCs, okC, okC_st, go_sem]; done)), ?_⟩; try refine zS ?_)
    | ((with_reducible refine q_step (by assumption) ?_); try refine zS ?_)
    all_goals first
      | exact absurd hcg.1 ‹_›
      | exact ⟨(j + 1, (finS w s m).1), ⟨by simp only; omega, hcg.2⟩, by simp only; omega, (by exact zwc 5)⟩
      | trace_state
theorem lawR_ok (w : B) (ps : List Int) (hp : ps.length < 4611686018427387904) : AFn env 6 [w.a, aF (ps.map iRow)] [] (aB true) [] := by
  cases hr : rgtW w with
  | false => exact lawR0_ok w ps hp hr
  | true => exact lawR1_ok w ps hp hr
end Go.Eng
open Go Go.Proofs Go.RowKit
namespace Go.Eng
set_option linter.unusedSimpArgs false
set_option linter.unusedVariables false
set_option maxRecDepth 100000

section
variable {H : Type} {enc : TypeId × Value → H} {W : World} {F : Nat → Prop} {base : Nat} {spare : Nat → Bool} {held : Bool}
theorem opD_T (hF : ∀ a u, W.cell? a = some u → F a.block) : ∀ n, OpD enc Tryz.prog W F base spare held 24 T.row (fun _ => True) n := by
  refine opD_fix (fun n ih => ?_)
  have hk : ∀ m, m < n → OpD enc Tryz.prog W F base spare held 22 (fun xs : List T => [.fz (xs.map T.row)]) _ m := fun m hm => opD_slice (s := 3) (B := 40) hF Tryz.underlying22 (by kernel_rfl) (by kernel_rfl) (by decide) (fun a => by cases a; rfl) (fun m' hm' => ih m' (by omega))
  refine opD_imp (opD_struct (β := T) (g := fun x : Int × Int × List T × Unit => .mk x.1 x.2.1 x.2.2.1) (f := fun t => (t.op, t.n, t.kids, ())) Tryz.underlying24 (by kernel_rfl) (fun a => rfl) (fun m hm => opDF_cons (s := 1) rfl (by kernel_rfl) (opD_int Tryz.underlying3) (opDF_cons (s := 1) rfl (by kernel_rfl) (opD_int Tryz.underlying3) (opDF_cons (s := 1) rfl (by kernel_rfl) (hk m hm) opDF_nil)))) (fun t => ?_) (fun _ _ => trivial)
  rw [T.row_eq]; rfl
theorem opD_Ts (hF : ∀ a u, W.cell? a = some u → F a.block) (n : Nat) : OpD enc Tryz.prog W F base spare held 22 (fun xs : List T => [.fz (xs.map T.row)]) (fun _ => True) n :=
  opD_imp (opD_slice (s := 3) (B := 40) hF Tryz.underlying22 (by kernel_rfl) (by kernel_rfl) (by decide) (fun a => by cases a; rfl) (fun m' _ => opD_T hF m')) (fun _ => rfl) (fun _ _ => trivial)
theorem opD_Nd (hF : ∀ a u, W.cell? a = some u → F a.block) (n : Nat) : OpD enc Tryz.prog W F base spare held 74 Nd.row (fun _ => True) n := by
  refine opD_imp (opD_struct (β := Nd) (g := fun x : Int × Int × T × Unit => ⟨x.1, x.2.1, x.2.2.1⟩) (f := fun d => (d.kind, d.x, d.t, ())) Tryz.underlying74 (by kernel_rfl) (fun a => rfl) (fun m hm => opDF_cons (s := 1) rfl (by kernel_rfl) (opD_int Tryz.underlying3) (opDF_cons (s := 1) rfl (by kernel_rfl) (opD_int Tryz.underlying3) (opDF_cons (s := 3) rfl (by kernel_rfl) (opD_T hF m) opDF_nil)))) (fun t => ?_) (fun _ _ => trivial)
  simp only [T.row_eq]; rfl
theorem opD_Fl (hF : ∀ a u, W.cell? a = some u → F a.block) (n : Nat) : OpD enc Tryz.prog W F base spare held 76 Fl.row (fun _ => True) n := by
  refine opD_imp (opD_struct (β := Fl) (g := fun x : Int × Int × Bool × T × Unit => ⟨x.1, x.2.1, x.2.2.1, x.2.2.2.1⟩) (f := fun d => (d.src, d.dst, d.els, d.t, ())) Tryz.underlying76 (by kernel_rfl) (fun a => rfl) (fun m hm => opDF_cons (s := 1) rfl (by kernel_rfl) (opD_int Tryz.underlying3) (opDF_cons (s := 1) rfl (by kernel_rfl) (opD_int Tryz.underlying3) (opDF_cons (s := 1) rfl (by kernel_rfl) (opD_bool Tryz.underlying4) (opDF_cons (s := 3) rfl (by kernel_rfl) (opD_T hF m) opDF_nil))))) (fun t => ?_) (fun _ _ => trivial)
  simp only [T.row_eq]; rfl
theorem opD_Lk (n : Nat) : OpD enc Tryz.prog W F base spare held 78 Lk.row (fun _ => True) n := by
  refine opD_imp (opD_struct (β := Lk) (g := fun x : Int × Int × Unit => ⟨x.1, x.2.1⟩) (f := fun d => (d.src, d.dst, ())) Tryz.underlying78 (by kernel_rfl) (fun a => rfl) (fun m hm => opDF_cons (s := 1) rfl (by kernel_rfl) (opD_int Tryz.underlying3) (opDF_cons (s := 1) rfl (by kernel_rfl) (opD_int Tryz.underlying3) opDF_nil))) (fun t => rfl) (fun _ _ => trivial)
theorem opD_Nt (hF : ∀ a u, W.cell? a = some u → F a.block) (n : Nat) : OpD enc Tryz.prog W F base spare held 30 (fun x : List Nd × List Fl => [.fz (x.1.map Nd.row), .fz (x.2.map Fl.row)]) (fun _ => True) n := by
  have h1 : ∀ m, OpD enc Tryz.prog W F base spare held 27 (fun xs : List Nd => [.fz (xs.map Nd.row)]) _ m := fun m => opD_slice (s := 5) (B := 56) hF Tryz.underlying27 (by kernel_rfl) (by kernel_rfl) (by decide) (fun a => rfl) (fun m' _ => opD_Nd hF m')
  have h2 : ∀ m, OpD enc Tryz.prog W F base spare held 28 (fun xs : List Fl => [.fz (xs.map Fl.row)]) _ m := fun m => opD_slice (s := 6) (B := 64) hF Tryz.underlying28 (by kernel_rfl) (by kernel_rfl) (by decide) (fun a => rfl) (fun m' _ => opD_Fl hF m')
  exact opD_imp (opD_struct (β := List Nd × List Fl) (g := fun x : List Nd × List Fl × Unit => (x.1, x.2.1)) (f := fun d => (d.1, d.2, ())) Tryz.underlying30 (by kernel_rfl) (fun a => rfl) (fun m hm => opDF_cons (s := 1) rfl (by kernel_rfl) (h1 m) (opDF_cons (s := 1) rfl (by kernel_rfl) (h2 m) opDF_nil))) (fun t => rfl) (fun _ _ => trivial)
theorem opD_B (hF : ∀ a u, W.cell? a = some u → F a.block) : ∀ n, OpD enc Tryz.prog W F base spare held 32 B.row (fun _ => True) n := by
  refine opD_fix (fun n ih => ?_)
  have hk : ∀ m, m < n → OpD enc Tryz.prog W F base spare held 25 (fun xs : List B => [.fz (xs.map B.row)]) _ m := fun m hm => opD_slice (s := 12) (B := 192) hF Tryz.underlying25 (by kernel_rfl) (by kernel_rfl) (by decide) (fun a => by cases a; rfl) (fun m' hm' => ih m' (by omega))
  have hl : ∀ m, OpD enc Tryz.prog W F base spare held 26 (fun xs : List Lk => [.fz (xs.map Lk.row)]) _ m := fun m => opD_slice (s := 2) (B := 16) hF Tryz.underlying26 (by kernel_rfl) (by kernel_rfl) (by decide) (fun a => rfl) (fun m' _ => opD_Lk m')
  refine opD_imp (opD_struct (β := B) (g := fun x : Int × Int × Int × Int × T × List T × List B × List Lk × (List Nd × List Fl) × Unit => .mk x.1 x.2.1 x.2.2.1 x.2.2.2.1 x.2.2.2.2.1 x.2.2.2.2.2.1 x.2.2.2.2.2.2.1 x.2.2.2.2.2.2.2.1 x.2.2.2.2.2.2.2.2.1.1 x.2.2.2.2.2.2.2.2.1.2) (f := fun b => (b.kind, b.node, b.x, b.y, b.t, b.conds, b.kids, b.links, (b.nodes, b.flows), ())) Tryz.underlying32 (by kernel_rfl) (fun a => rfl)
    (fun m hm => opDF_cons (s := 1) rfl (by kernel_rfl) (opD_int Tryz.underlying3) (opDF_cons (s := 1) rfl (by kernel_rfl) (opD_int Tryz.underlying3) (opDF_cons (s := 1) rfl (by kernel_rfl) (opD_int Tryz.underlying3) (opDF_cons (s := 1) rfl (by kernel_rfl) (opD_int Tryz.underlying3)
      (opDF_cons (s := 3) rfl (by kernel_rfl) (opD_T hF m) (opDF_cons (s := 1) rfl (by kernel_rfl) (opD_Ts hF m) (opDF_cons (s := 1) rfl (by kernel_rfl) (hk m hm) (opDF_cons (s := 1) rfl (by kernel_rfl) (hl m) (opDF_cons (s := 2) rfl (by kernel_rfl) (opD_Nt hF m) opDF_nil)))))))))) (fun t => ?_) (fun _ _ => trivial)
  rw [B.row_eq]; simp only [T.row_eq]; rfl
end
def laid1 : List (String × DataW Unit) := [("treenail/term.words", Go.Proofs.YthodghlpcklaeaaGreatDoor.Rows.laid_treenail_term_words)]
def wordVals : List Value := words.flatMap fun b => [.string (st b.text), .int .i64 b.kids, .int .i64 b.of, .int .i64 b.out]
theorem base_ok {W : World} (h : laidMetH Tryz.prog laid1 W) : (B0 W).ok env := by
  intro g
  match g with
  | 0 =>
    have hc := cells_of_laid rfl h (.head _) (g := 0) (by kernel_rfl) (t := 158) (by kernel_rfl) 8 wordVals (by kernel_rfl)
    exact vr_pa (s := 4) (by decide) (by kernel_rfl) (by kernel_rfl) (by decide) hc
  | g + 1 => exact .any _ rfl
end Go.Eng
