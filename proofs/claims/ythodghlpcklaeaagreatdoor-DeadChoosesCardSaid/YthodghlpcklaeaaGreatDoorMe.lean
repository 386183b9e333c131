/- Each function of the program, walked over plain data: what it comes to, at all arguments. -/
import Derived.Test.YthodghlpcklaeaaGreatDoorMd
import Derived.Test.YthodghlpcklaeaaGreatDoorMb
import Derived.Test.YthodghlpcklaeaaGreatDoorMc
open Go Go.Proofs
namespace Go.Eng
set_option linter.unusedSimpArgs false
set_option linter.unusedVariables false
set_option maxRecDepth 10000
set_option maxHeartbeats 16000000
theorem rOuts19_ok (w : B) (i : Int) (hs : w.size < 1000000000000) : AFn env 28 [w.a, aI i] [] (aF ((outsK w i).map iRow)) [] := by
  have hz := B.size_eq w
  refine afn_body Tryz.func28 rfl (by decide) ?_
  simp only [Tryz.ntmps28, Tryz.results28, List.length_cons, List.length_nil, List.cons_append, List.nil_append, Nat.reduceAdd, Nat.reduceSub, List.replicate]
  iterate 2 (refine awp_seq ?_; refine awp_region ?_; refine zS ?_)
  refine awp_wk (wk_virt none (i := 5) (s := 1) (by decide) rfl) ?_
  refine zT ?_
  repeat' first
  | ((with_reducible refine awp_seqQ ?_); intro _ _)
  | ((with_reducible refine awp_region ?_); refine zS ?_)
  | with_reducible refine awp_block ?_
  refine awp_loopT (fun z : Nat × List Int => z.1 ≤ w.links.length ∧ z.2 ++ idx2 (fun f => decide (f.src = i)) (w.links.drop z.1) z.1 = outsK w i ∧ z.2.length ≤ z.1) (fun z => w.links.length - z.1) (fun z => [(5, OwnK 1 z.2.length), (11, aI z.1)]) (fun z => [some (.box w.bs), RwG z.2]) (0, []) ⟨by simp, by simp [outsK], by simp⟩ (by exact zwl) ?_
  rintro ⟨j, o⟩ ⟨h1, h2, h3⟩
  simp only at h1 h2 h3
  refine zT ?_
  repeat' first
  | ((with_reducible refine awp_seqQ ?_); intro _ _)
  | ((with_reducible refine awp_region ?_); refine zS ?_)
  | ((with_reducible refine AWP_c ?_); refine zcdD ?_ ?_ <;> intro hb hb2 <;> first | contradiction | (exfalso; omega) | ((try refine zH hb2 ?_); try clear hb2))
  | ((with_reducible refine awp_skip ?_); try refine zS ?_)
  | with_reducible refine awp_block ?_
  | ((with_reducible refine awp_exit ?_); try refine zS ?_)
  | ((with_reducible refine awp_ret ?_); refine q_step (by assumption) ?_)
  | ((with_reducible refine q_step (by assumption) ?_); try refine zS ?_)
  · exact ⟨(j + 1, o ++ [(j : Int)]), ⟨by simp only; omega, by rw [← h2, drop_gt (l := w.links) (i := j) (by omega), idx2, if_pos (by simp [*])]; simp, by simp; omega⟩, by simp only; omega, wk_cl 2 (by decide) (by simp) (by simp only [go_sem, Bool.not_not, List.mem_singleton, forall_eq, ↓reduceIte, if_pos, rowsAt_map, wrap64, wrapu8, List.getElem?_cons_zero, List.getElem?_cons_succ, Int.reduceToNat, Nat.reduceAdd, Nat.reduceBEq, Bool.or_false, Bool.false_or, Bool.true_or, Nat.reduceSub, Nat.reduceMul, Int.reduceAdd, Int.reduceEq, Int.reduceLT, Int.reduceLE, Int.reduceNeg, Nat.reduceLT, Nat.reduceLeDiff, Nat.reduceEqDiff]; try simp) (by simp only [go_sem, Bool.not_not, List.mem_singleton, forall_eq, ↓reduceIte, if_pos, rowsAt_map, wrap64, wrapu8, List.getElem?_cons_zero, List.getElem?_cons_succ, Int.reduceToNat, Nat.reduceAdd, Nat.reduceBEq, Bool.or_false, Bool.false_or, Bool.true_or, Nat.reduceSub, Nat.reduceMul, Int.reduceAdd, Int.reduceEq, Int.reduceLT, Int.reduceLE, Int.reduceNeg, Nat.reduceLT, Nat.reduceLeDiff, Nat.reduceEqDiff, List.map_append]; try simp [go_sem])⟩
  · exact ⟨(j + 1, o), ⟨by simp only; omega, by rw [← h2, drop_gt (l := w.links) (i := j) (by omega), idx2, if_neg (by simp [*])], by simp only; omega⟩, by simp only; omega, (by exact zwc 2)⟩
  refine fin_r ?_
  rw [List.drop_eq_nil_of_le (by omega), idx2, List.append_nil] at h2
  rw [h2]
def cnt3 (s : List Int) (i : Int) : List Lk → Nat → Int × Int × Int
  | [], _ => (0, 0, 0)
  | l :: r, k => if l.dst = i then ((cnt3 s i r (k + 1)).1 + (if gt s k = 1 then 1 else 0), (cnt3 s i r (k + 1)).2.1 + (if gt s k = 2 then 1 else 0), (cnt3 s i r (k + 1)).2.2 + 1) else cnt3 s i r (k + 1)
theorem cnt3_le (s : List Int) (i : Int) : ∀ (l : List Lk) (k : Nat), (0 ≤ (cnt3 s i l k).1 ∧ (cnt3 s i l k).1 ≤ l.length) ∧ (0 ≤ (cnt3 s i l k).2.1 ∧ (cnt3 s i l k).2.1 ≤ l.length) ∧ 0 ≤ (cnt3 s i l k).2.2 ∧ (cnt3 s i l k).2.2 ≤ l.length
  | [], _ => by simp [cnt3]
  | l :: r, k => by
    have := cnt3_le s i r (k + 1)
    rw [cnt3]
    simp only [List.length_cons]
    split
    · simp only
      refine ⟨⟨?_, ?_⟩, ⟨?_, ?_⟩, ?_, ?_⟩ <;> (try split) <;> omega
    · omega
theorem cnt_drop {s : List Int} {i : Int} {l : List Lk} {j : Nat} (h : j < l.length) : cnt3 s i (l.drop j) j = if (gt l j).dst = i then ((cnt3 s i (l.drop (j + 1)) (j + 1)).1 + (if gt s j = 1 then 1 else 0), (cnt3 s i (l.drop (j + 1)) (j + 1)).2.1 + (if gt s j = 2 then 1 else 0), (cnt3 s i (l.drop (j + 1)) (j + 1)).2.2 + 1) else cnt3 s i (l.drop (j + 1)) (j + 1) := by
  rw [drop_gt h, cnt3]
def cntF (w : B) (s : List Int) (i : Int) : Int × Int × Int := cnt3 s i w.links 0
def cA3 (p : Int × Int × Int) : A := .agg [.d (dI p.1), .d (dI p.2.1), .d (dI p.2.2)]
def cB3 (a b c : Int) : Option Blk := some (.box [.d (dI a), .d (dI b), .d (dI c)])
attribute [go_sem] cA3 cB3
theorem rCount_ok (w : B) (s : List Int) (i : Int) (hw : Wb w) (hl : s.length = 104) : AFn env 48 [w.a, sA s, aI i] [] (cA3 (cntF w s i)) [] := by
  have hwl := hw.hl
  have hcl := cnt3_le s i w.links 0
  refine afn_body Tryz.func48 rfl (by decide) ?_
  simp only [Tryz.ntmps48, Tryz.results48, List.length_cons, List.length_nil, List.cons_append, List.nil_append, Nat.reduceAdd, Nat.reduceSub, List.replicate]
  repeat' first
  | ((with_reducible refine awp_seqQ ?_); intro _ _)
  | ((with_reducible refine awp_region ?_); refine zS ?_)
  | with_reducible refine awp_block ?_
  refine awp_loopT (fun z : Nat × Int × Int × Int => z.1 ≤ w.links.length ∧ z.2.1 + (cnt3 s i (w.links.drop z.1) z.1).1 = (cntF w s i).1 ∧ z.2.2.1 + (cnt3 s i (w.links.drop z.1) z.1).2.1 = (cntF w s i).2.1 ∧ z.2.2.2 + (cnt3 s i (w.links.drop z.1) z.1).2.2 = (cntF w s i).2.2 ∧ (0 ≤ z.2.1 ∧ z.2.1 ≤ z.1) ∧ (0 ≤ z.2.2.1 ∧ z.2.2.1 ≤ z.1) ∧ 0 ≤ z.2.2.2 ∧ z.2.2.2 ≤ z.1) (fun z => w.links.length - z.1) (fun z => [(14, aI z.1)]) (fun z => [some (.box w.bs), Sb s, cB3 0 0 0, cB3 z.2.1 z.2.2.1 z.2.2.2]) (0, 0, 0, 0) ⟨by simp, by simp [cntF], by simp [cntF], by simp [cntF], by simp, by simp, by simp⟩ (by exact zwl) ?_
  rintro ⟨j, a, b, c⟩ ⟨h1, h2, h3, h4, h5, h6, h7⟩
  simp only at h1 h2 h3 h4 h5 h6 h7
  refine zT ?_
  repeat' first
  | ((with_reducible refine awp_seqQ ?_); intro _ _)
  | ((with_reducible refine awp_region ?_); refine zS ?_)
  | ((with_reducible refine AWP_c ?_); refine zcdN ?_ ?_ <;> intro hb hb2 <;> first | contradiction | (exfalso; omega) | ((try refine zH hb2 ?_); try clear hb2))
  | ((with_reducible refine AWP_c ?_); refine zcdD ?_ ?_ <;> intro hb hb2 <;> first | contradiction | (exfalso; omega) | ((try refine zH hb2 ?_); try clear hb2))
  | ((with_reducible refine awp_skip ?_); try refine zS ?_)
  | with_reducible refine awp_block ?_
  | ((with_reducible refine awp_exit ?_); try refine zS ?_)
  | ((with_reducible refine awp_ret ?_); refine q_step (by assumption) ?_)
  | with_reducible refine fin_r ?_
  | ((with_reducible refine q_step (by assumption) ?_); try refine zS ?_)
  all_goals try (
    have hC := cnt_drop (s := s) (i := i) (l := w.links) (j := j) (by omega)
    first
    | (rw [if_neg (by assumption)] at hC
       rw [hC] at h2 h3 h4
       exact ⟨(j + 1, a, b, c), ⟨by simp only; omega, by simp only; omega, by simp only; omega, by simp only; omega, by simp only; omega, by simp only; omega, by simp only; omega⟩, by simp only; omega, (by exact zwc 4)⟩)
    | (rw [if_pos (by assumption)] at hC
       rw [hC] at h2 h3 h4
       simp only [*, if_true, if_false, ↓reduceIte] at h2 h3 h4
       first
       | exact ⟨(j + 1, a + 1, b, c + 1), ⟨by simp only; omega, by simp only; omega, by simp only; omega, by simp only; omega, by simp only; omega, by simp only; omega, by simp only; omega⟩, by simp only; omega, (by exact zwc 4)⟩
       | exact ⟨(j + 1, a, b + 1, c + 1), ⟨by simp only; omega, by simp only; omega, by simp only; omega, by simp only; omega, by simp only; omega, by simp only; omega, by simp only; omega⟩, by simp only; omega, (by exact zwc 4)⟩
       | exact ⟨(j + 1, a, b, c + 1), ⟨by simp only; omega, by simp only; omega, by simp only; omega, by simp only; omega, by simp only; omega, by simp only; omega, by simp only; omega⟩, by simp only; omega, (by exact zwc 4)⟩))
  rw [List.drop_eq_nil_of_le (by omega), cnt3] at h2 h3 h4
  simp only at h2 h3 h4
  rw [show (cntF w s i).1 = a by omega, show (cntF w s i).2.1 = b by omega, show (cntF w s i).2.2 = c by omega]
theorem cnt_ins {w : B} {s : List Int} {i : Int} : ∀ (l : List Lk) (k : Nat), takenF s (idx2 (fun f => decide (f.dst = i)) l k) = (cnt3 s i l k).1 ∧ ((idx2 (fun f => decide (f.dst = i)) l k).length : Int) = (cnt3 s i l k).2.2
  | [], _ => ⟨rfl, rfl⟩
  | f :: l, k => by
    have := cnt_ins (w := w) (s := s) (i := i) l (k + 1)
    rw [idx2, cnt3]
    by_cases h : f.dst = i
    · rw [if_pos (by simp [h]), if_pos h, takenF, this.1, List.length_cons]
      have h2 := this.2
      rw [Int.toNat_natCast]
      exact ⟨by simp only; omega, by simp only; omega⟩
    · rw [if_neg (by simp [h]), if_neg h]; exact this
theorem cnt_open {s : List Int} {i : Int} : ∀ (l : List Lk) (k : Nat), (∀ j, k ≤ j → j < k + l.length → 0 ≤ gt s j ∧ gt s j ≤ 2) → ((cnt3 s i l k).1 + (cnt3 s i l k).2.1 ≤ (cnt3 s i l k).2.2 ∧ ((cnt3 s i l k).1 + (cnt3 s i l k).2.1 < (cnt3 s i l k).2.2 ↔ (idx2 (fun f => decide (f.dst = i)) l k).all (fun q => decide (gt s q.toNat ≠ 0)) = false))
  | [], _, _ => by simp [cnt3, idx2]
  | f :: l, k, h => by
    have ih := cnt_open (s := s) (i := i) l (k + 1) (fun j h1 h2 => h j (by omega) (by simp only [List.length_cons]; omega))
    have hk := h k (Nat.le_refl _) (by simp only [List.length_cons]; omega)
    by_cases hd : f.dst = i
    · have e1 : idx2 (fun f => decide (f.dst = i)) (f :: l) k = (k : Int) :: idx2 (fun f => decide (f.dst = i)) l (k + 1) := by rw [idx2, if_pos (by simp [hd])]
      have e2 : cnt3 s i (f :: l) k = ((cnt3 s i l (k + 1)).1 + (if gt s k = 1 then 1 else 0), (cnt3 s i l (k + 1)).2.1 + (if gt s k = 2 then 1 else 0), (cnt3 s i l (k + 1)).2.2 + 1) := by rw [cnt3, if_pos hd]
      rw [e1, e2, List.all_cons, Int.toNat_natCast]
      by_cases h0 : gt s k = 0
      · rw [decide_eq_false (by simp [h0]), Bool.false_and]
        simp only [h0]
        refine ⟨by simp; omega, by simp; omega⟩
      · rw [decide_eq_true h0, Bool.true_and, ← ih.2]
        have : gt s k = 1 ∨ gt s k = 2 := by omega
        rcases this with e | e <;> simp only [e] <;> simp <;> omega
    · rw [show idx2 (fun f => decide (f.dst = i)) (f :: l) k = idx2 (fun f => decide (f.dst = i)) l (k + 1) by rw [idx2, if_neg (by simp [hd])], show cnt3 s i (f :: l) k = cnt3 s i l (k + 1) by rw [cnt3, if_neg hd]]; exact ih
def okS (s : List Int) : Prop := s.length = 104 ∧ ∀ k, k < 40 → 0 ≤ gt s k ∧ gt s k ≤ 2
theorem give_ok3 {v : Int} (hv : 0 ≤ v ∧ v ≤ 2) : ∀ {os : List Int} {s : List Int}, okS s → okS (giveF os v s)
  | [], s, h => h
  | k :: os, s, h => by
    show okS (giveF os v (s.set k.toNat v))
    refine give_ok3 hv ⟨by simpa using h.1, fun j hj => ?_⟩
    by_cases hk : k.toNat < s.length
    · rw [gtI_set2 _ _ _ _ hk]; split
      · exact hv
      · exact h.2 j hj
    · rw [List.set_eq_of_length_le (by omega)]; exact h.2 j hj
theorem set_ok3 {s : List Int} {i : Nat} {v : Int} (h : okS s) (hi : 40 ≤ i) : okS (s.set i v) := by
  refine ⟨by simpa using h.1, fun j hj => ?_⟩
  by_cases hk : i < s.length
  · rw [gtI_set2 _ _ _ _ hk, if_neg (by omega)]; exact h.2 j hj
  · rw [List.set_eq_of_length_le (by omega)]; exact h.2 j hj
theorem fate_ok3 {s : List Int} {w : B} {i : Nat} (h : okS s) : okS (fateF s w i) := by
  unfold fateF
  split
  · exact give_ok3 (by decide) (set_ok3 h (by omega))
  · split
    · exact give_ok3 (by decide) (set_ok3 h (by omega))
    · exact set_ok3 h (by omega)
theorem ready_cnt {s : List Int} {w : B} {i : Nat} (h : okS s) (hw : Wb w) : ready s w i = true ↔ gt s (40 + i) = 0 ∧ ¬ (cntF w s i).1 + (cntF w s i).2.1 < (cntF w s i).2.2 := by
  have h1 := cnt_open (s := s) (i := i) w.links 0 (fun j _ hj => h.2 j (by have := hw.hl; omega))
  unfold ready cntF
  rw [h1.2]
  unfold insK
  simp
theorem lives_cnt {s : List Int} {w : B} {i : Nat} : livesF s w i = if (gt w.kids i).kind = 12 ∧ (gt w.kids i).x = 2 then decide ((cntF w s i).1 = (cntF w s i).2.2) else decide ((cntF w s i).1 > 0) := by
  have := cnt_ins (w := w) (s := s) (i := i) w.links 0
  unfold livesF cntF insK
  rw [this.1, this.2]
def oneF (w : B) (s : List Int) : List Int := match pickF s w with | some i => fateF s w i | none => s
theorem rOne19_ok (w : B) (s : List Int) (hw : Wb w) (hl : s.length = 104) (ho : okS s) : AFn env 39 [w.a, sA s] [] (.tup [sA (oneF w s), aB (pickF s w).isSome]) [] := by
  have hwl := hw.hl
  have hwk := hw.hk
  have hz := B.size_eq w
  refine afn_body Tryz.func39 rfl (by decide) ?_
  simp only [Tryz.ntmps39, Tryz.results39, List.length_cons, List.length_nil, List.cons_append, List.nil_append, Nat.reduceAdd, Nat.reduceSub, List.replicate]
  repeat' first
  | ((with_reducible refine awp_seqQ ?_); intro _ _)
  | ((with_reducible refine awp_region ?_); refine zS ?_)
  | with_reducible refine awp_block ?_
  refine awp_loopT (fun i : Nat => i ≤ w.kids.length ∧ pickF s w = (List.range' i (w.kids.length - i)).find? (ready s w)) (fun i => w.kids.length - i) (fun i => [(17, aI i)]) (fun _ => [some (.box w.bs), Sb s, Sb s00]) 0 ⟨by omega, rfl⟩ (by exact zwl) ?_
  rintro i ⟨h1, h2⟩
  have hc := cnt3_le s i w.links 0
  have hc : (0 ≤ (cntF w s i).1 ∧ (cntF w s i).1 ≤ w.links.length) ∧ (0 ≤ (cntF w s i).2.1 ∧ (cntF w s i).2.1 ≤ w.links.length) ∧ 0 ≤ (cntF w s i).2.2 ∧ (cntF w s i).2.2 ≤ w.links.length := hc
  have hol : (outsK w i).length ≤ w.links.length := idx2_len _ w.links 0
  have hom := outs_40 hw i
  have hss : ∀ v, (s.set (40 + i) v).length = 104 := fun v => by simpa using hl
  have hs1 := hss 1
  have hs2 := hss 2
  have hs3 := hss 3
  refine zT ?_
  repeat' first
  | ((with_reducible refine awp_seqQ ?_); intro _ _)
  | ((with_reducible refine awp_region ?_); refine zS ?_)
  | ((with_reducible refine Gd_d ?_ ?_) <;> intro hb hb2 <;> first | contradiction | (exfalso; omega) | (refine zH hb2 ?_; try clear hb2))
  | ((with_reducible refine AWP_c ?_); refine zcdT ?_)
  | ((with_reducible refine AWP_c ?_); refine zcdF ?_)
  | ((with_reducible refine AWP_c ?_); refine zcdN ?_ ?_ <;> intro hb hb2 <;> first | contradiction | (exfalso; omega) | ((try refine zH hb2 ?_); try clear hb2))
  | ((with_reducible refine AWP_c ?_); refine zcdD ?_ ?_ <;> intro hb hb2 <;> first | contradiction | (exfalso; omega) | ((try refine zH hb2 ?_); try clear hb2))
  | ((with_reducible refine awp_skip ?_); try refine zS ?_)
  | with_reducible refine awp_block ?_
  | ((with_reducible refine awp_exit ?_); try refine zS ?_)
  | ((with_reducible refine CallK_id ?_); refine zcF ?_; refine ⟨_, by first | exact rCount_ok w s i hw hl | exact rOuts19_ok w i hw.hs | fail, ?_⟩; refine ⟨fun _ => by (first | rfl | simp only [go_sem]; done), fun _ => by (first | rfl | simp only [go_sem]; done), by (first | rfl | (simp [okAs, okA, okCs, okC, okC_st, go_sem]; done)), ?_⟩; try refine zS ?_)
  | ((with_reducible refine awp_ret ?_); refine q_step (by assumption) ?_)
  | with_reducible refine fin_r ?_
  | ((with_reducible refine q_step (by assumption) ?_); try refine zS ?_)
  all_goals first
    | exact ⟨i + 1, ⟨by omega, by rw [h2, pick_f (by omega) (ready_k ‹_›)]⟩, by omega, (by exact zwc 3)⟩
    | exact ⟨i + 1, ⟨by omega, by rw [h2, pick_f (by omega) (Bool.eq_false_iff.2 (fun h => by have := (ready_cnt ho hw).1 h; omega))]⟩, by omega, (by exact zwc 3)⟩
    | (have hp : pickF s w = none := (by rw [h2, show w.kids.length - i = 0 by omega]; rfl)
       simp [go_sem, oneF, hp]; done)
    | have hp : pickF s w = some i := (by rw [h2, pick_t (by omega) ((ready_cnt ho hw).2 ⟨by assumption, by omega⟩)])
  all_goals first
    | (simp [go_sem, oneF, hp, fateF, lives_cnt, *]; done)
    | (refine awp_loopT (fun z : Nat × List Int => z.1 ≤ (outsK w i).length ∧ z.2.length = 104 ∧ fateF s w i = giveF ((outsK w i).drop z.1) 2 z.2) (fun z => (outsK w i).length - z.1) (fun z => [(83, aI z.1)]) (fun z => [some (.box w.bs), Sb s, Sb s00, some (.box (gt w.kids i).bs), cB3 (cntF w s i).1 (cntF w s i).2.1 (cntF w s i).2.2, Sb z.2]) (0, s.set (40 + i) 3) ⟨by simp, hss 3, ?_⟩ ?_ ?_; rw [fateF, lives_cnt]; simp [*]; exact (by exact zwl))
    | (refine awp_loopT (fun z : Nat × List Int => z.1 ≤ (outsK w i).length ∧ z.2.length = 104 ∧ fateF s w i = giveF ((outsK w i).drop z.1) 1 z.2) (fun z => (outsK w i).length - z.1) (fun z => [(83, aI z.1)]) (fun z => [some (.box w.bs), Sb s, Sb s00, some (.box (gt w.kids i).bs), cB3 (cntF w s i).1 (cntF w s i).2.1 (cntF w s i).2.2, Sb z.2]) (0, s.set (40 + i) 2) ⟨by simp, hss 2, ?_⟩ ?_ ?_; rw [fateF, lives_cnt]; simp [*]; exact (by exact zwl))
    | trace_state
  all_goals (
    rintro ⟨j, t⟩ ⟨h5, h6, h7⟩
    simp only at h5 h6 h7
    have hR : j < (outsK w i).length → 0 ≤ gt (outsK w i) j ∧ gt (outsK w i) j < 40 := fun h => hom _ (gt_mem h)
    simp only [go_sem, Bool.not_not, List.mem_singleton, forall_eq, ↓reduceIte, if_pos, rowsAt_map, wrap64, wrapu8, List.getElem?_cons_zero, List.getElem?_cons_succ, Int.reduceToNat, Nat.reduceAdd, Nat.reduceBEq, Bool.or_false, Bool.false_or, Bool.true_or, Nat.reduceSub, Nat.reduceMul, Int.reduceAdd, Int.reduceEq, Int.reduceLT, Int.reduceLE, Int.reduceNeg, Nat.reduceLT, Nat.reduceLeDiff, Nat.reduceEqDiff])
  all_goals repeat' first
            | ((with_reducible refine awp_seqQ ?_); intro _ _)
            | ((with_reducible refine awp_region ?_); refine zS ?_)
            | ((with_reducible refine AWP_c ?_); refine zcdD ?_ ?_ <;> intro hb hb2 <;> first | contradiction | (exfalso; omega) | ((try refine zH hb2 ?_); try clear hb2))
            | ((with_reducible refine awp_skip ?_); try refine zS ?_)
            | with_reducible refine awp_block ?_
            | ((with_reducible refine awp_exit ?_); try refine zS ?_)
            | ((with_reducible refine awp_ret ?_); refine q_step (by assumption) ?_)
            | with_reducible refine fin_r ?_
            | ((with_reducible refine q_step (by assumption) ?_); try refine zS ?_)
  all_goals first
    | (have h8 := h7; rw [give_drop (by omega)] at h8; exact ⟨(j + 1, t.set (gt (outsK w i) j).toNat 2), ⟨by simp only; omega, by simpa using h6, h8⟩, by simp only; omega, (by exact zwc 6)⟩)
    | (have h8 := h7; rw [give_drop (by omega)] at h8; exact ⟨(j + 1, t.set (gt (outsK w i) j).toNat 1), ⟨by simp only; omega, by simpa using h6, h8⟩, by simp only; omega, (by exact zwc 6)⟩)
    | (rw [List.drop_eq_nil_of_le (by omega)] at h7
       simp [go_sem, oneF, hp, h7, giveF]; done)
    | trace_state
end Go.Eng
open Go Go.Proofs
namespace Go.Eng
set_option linter.unusedSimpArgs false
set_option linter.unusedVariables false
set_option maxRecDepth 10000
set_option maxHeartbeats 8000000
def T.bs (t : T) : List C := [.d (dI t.op), .d (dI t.n), .d (.fz (t.kids.map T.row))]
attribute [go_sem] T.bs
mutual
def dT : T → Nat
  | .mk _ _ k => dTs k + 1
def dTs : List T → Nat
  | [] => 0
  | t :: l => max (dT t) (dTs l)
end
theorem dT_eq (t : T) : dT t = dTs t.kids + 1 := by cases t; rw [dT]; rfl
mutual
theorem dT_le : ∀ t : T, dT t ≤ t.size
  | .mk _ _ k => by have := dTs_le k; simp only [dT, T.size]; omega
theorem dTs_le : ∀ l : List T, dTs l ≤ T.sizes l
  | [] => by simp [dTs]
  | t :: l => by have := dT_le t; have := dTs_le l; simp only [dTs, T.sizes]; omega
end
theorem rDepT_ok (t : T) (hs : t.size < 4611686018427387904) : AFn env 111 [t.a] [] (aI (dT t)) [] := by
  generalize hn : t.size = n
  induction n using Nat.strongRecOn generalizing t with
  | _ n ih0 =>
    have ih : ∀ k : T, k.size < t.size → AFn env 111 [k.a] [] (aI (dT k)) [] := fun k h => ih0 k.size (by omega) k (by omega) rfl
    have l2 := t.kids_len
    have hd := dT_le t
    refine afn_body Tryz.func111 rfl (by decide) ?_
    simp only [Tryz.ntmps111, Tryz.results111, List.length_cons, List.length_nil, List.cons_append, List.nil_append, Nat.reduceAdd, Nat.reduceSub, List.replicate]
    repeat' first
    | ((with_reducible refine awp_seqQ ?_); intro _ _)
    | ((with_reducible refine awp_region ?_); refine zS ?_)
    | with_reducible refine awp_block ?_
    refine awp_loopT (fun s : Nat × Nat => s.1 ≤ t.kids.length ∧ max s.2 (dTs (t.kids.drop s.1)) + 1 = dT t) (fun s => t.kids.length - s.1) (fun s => [(3, aI s.2), (10, aI s.1)]) (fun s => [some (.box t.bs)]) (0, 0) ⟨by simp, by rw [dT_eq]; simp⟩ (by exact zwl) ?_
    rintro ⟨i, m⟩ ⟨h1, h2⟩
    simp only at h1 h2
    refine zT ?_
    repeat' first
    | ((with_reducible refine awp_seqQ ?_); intro _ _)
    | ((with_reducible refine awp_region ?_); refine zS ?_)
    | ((with_reducible refine AWP_c ?_); refine zcdD ?_ ?_ <;> intro hb hb2 <;> first | contradiction | (exfalso; omega) | ((try refine zH hb2 ?_); try clear hb2))
    | ((with_reducible refine awp_skip ?_); try refine zS ?_)
    | with_reducible refine awp_block ?_
    | ((with_reducible refine awp_exit ?_); try refine zS ?_)
    | ((with_reducible refine CallK_id ?_); refine zcF ?_; refine ⟨_, by first | exact ih (gt t.kids i) (T.size_lt (gt_mem (by omega))) | fail, fun _ => rfl, fun _ => rfl, rfl, ?_⟩; try refine zS ?_)
    | ((with_reducible refine awp_ret ?_); refine q_step (by assumption) ?_)
    | with_reducible refine fin_r ?_
    | ((with_reducible refine q_step (by assumption) ?_); try refine zS ?_)
    · have hi : i < t.kids.length := by omega
      rw [drop_gt hi, dTs] at h2
      exact ⟨(i + 1, dT (gt t.kids i)), ⟨by simp only; omega, by simp only; omega⟩, by simp only; omega, (by exact zwc 1)⟩
    · have hi : i < t.kids.length := by omega
      rw [drop_gt hi, dTs] at h2
      exact ⟨(i + 1, m), ⟨by simp only; omega, by simp only; omega⟩, by simp only; omega, (by exact zwc 1)⟩
    have hi : i = t.kids.length := by omega
    subst hi
    rw [List.drop_length, dTs] at h2
    rw [show ((m : Int) + 1) = ((dT t : Nat) : Int) by omega]
def rKids (o : Int) : Int := if o < 3 then 0 else if o < 5 then 1 else 2
theorem rKids_ok (o : Int) : AFn env 129 [aI o] [] (aI (rKids o)) [] := by
  refine afn_body Tryz.func129 rfl (by decide) ?_
  simp only [Tryz.ntmps129, Tryz.results129, List.length_cons, List.length_nil, List.cons_append, List.nil_append, Nat.reduceAdd, Nat.reduceSub, List.replicate]
  repeat' first
  | ((with_reducible refine awp_seqQ ?_); intro _ _)
  | ((with_reducible refine awp_region ?_); refine zS ?_)
  | ((with_reducible refine AWP_c ?_); refine zcdD ?_ ?_ <;> intro hb hb2 <;> first | contradiction | (exfalso; omega) | ((try refine zH hb2 ?_); try clear hb2))
  | ((with_reducible refine awp_skip ?_); try refine zS ?_)
  | ((with_reducible refine awp_ret ?_); refine q_step (by assumption) ?_)
  | with_reducible refine fin_r ?_
  | ((with_reducible refine q_step (by assumption) ?_); try refine zS ?_)
  all_goals simp [rKids, *]
def truthF (o : Int) : Bool := decide (o = 4) || decide (o ≥ 10)
theorem truth_ok (o : Int) : AFn env 91 [aI o] [] (aB (truthF o)) [] := by
  refine afn_body Tryz.func91 rfl (by decide) ?_
  simp only [Tryz.ntmps91, Tryz.results91, List.length_cons, List.length_nil, List.cons_append, List.nil_append, Nat.reduceAdd, Nat.reduceSub, List.replicate]
  repeat' first
  | ((with_reducible refine awp_seqQ ?_); intro _ _)
  | ((with_reducible refine awp_region ?_); refine zS ?_)
  | ((with_reducible refine Gd_nd ?_ ?_) <;> intro hb hb2 <;> first | contradiction | (exfalso; omega) | (refine zH hb2 ?_; try clear hb2))
  | ((with_reducible refine awp_ret ?_); refine q_step (by assumption) ?_)
  | with_reducible refine fin_r ?_
  | ((with_reducible refine q_step (by assumption) ?_); try refine zS ?_)
  all_goals simp [go_sem, truthF, *]
mutual
def formT : T → Bool
  | .mk o n k => !(decide (o < 1) || decide (o > 14) || decide ((k.length : Int) ≠ rKids o) || decide (n < 0)) && !((decide (o = 1) && decide (n > 1099511627776)) || (decide (o = 2) && decide (n > 3)) || (decide (o > 2) && decide (n ≠ 0))) && formTs k
def formTs : List T → Bool
  | [] => true
  | t :: l => formT t && formTs l
end
theorem formT_eq (t : T) : formT t = (!(decide (t.op < 1) || decide (t.op > 14) || decide ((t.kids.length : Int) ≠ rKids t.op) || decide (t.n < 0)) && !((decide (t.op = 1) && decide (t.n > 1099511627776)) || (decide (t.op = 2) && decide (t.n > 3)) || (decide (t.op > 2) && decide (t.n ≠ 0))) && formTs t.kids) := by
  cases t; rw [formT]; rfl
theorem formT_ok (t : T) (hs : t.size < 4611686018427387904) : AFn env 112 [t.a] [] (aB (formT t)) [] := by
  generalize hn : t.size = n
  induction n using Nat.strongRecOn generalizing t with
  | _ n ih0 =>
    have ih : ∀ k : T, k.size < t.size → AFn env 112 [k.a] [] (aB (formT k)) [] := fun k h => ih0 k.size (by omega) k (by omega) rfl
    have l2 := t.kids_len
    have hf := formT_eq t
    refine afn_body Tryz.func112 rfl (by decide) ?_
    simp only [Tryz.ntmps112, Tryz.results112, List.length_cons, List.length_nil, List.cons_append, List.nil_append, Nat.reduceAdd, Nat.reduceSub, List.replicate]
    refine awp_seq ?_
    refine awp_region ?_
    refine zT ?_
    refine awp_cut (fun _ : Unit => (decide (t.op < 1) || decide (t.op > 14) || decide ((t.kids.length : Int) ≠ rKids t.op) || decide (t.n < 0)) = false) (fun _ => []) (fun _ => [some (.box t.bs)]) ?_ ?_
    · repeat' first
      | ((with_reducible refine awp_seqQ ?_); intro _ _)
      | ((with_reducible refine awp_region ?_); refine zS ?_)
      | ((with_reducible refine awp_drawnA ?_ ?_); rfl; refine zS ?_)
      | ((with_reducible refine CGd_nd ?_ ?_) <;> intro hb hb2 <;> first | contradiction | (exfalso; omega) | (refine zH hb2 ?_; try clear hb2))
      | ((with_reducible refine CGd_d ?_ ?_) <;> intro hb hb2 <;> first | contradiction | (exfalso; omega) | (refine zH hb2 ?_; try clear hb2))
      | ((with_reducible refine DStep_id ?_); refine zdP ?_; refine ⟨_, by first | exact rKids_ok t.op | fail, fun _ => rfl, fun _ => rfl, rfl, (fun h => by first | cases h | fail), ?_⟩; try refine zS ?_)
      | ((with_reducible refine AWP_c ?_); refine zcdT ?_)
      | ((with_reducible refine AWP_c ?_); refine zcdD ?_ ?_ <;> intro hb hb2 <;> first | contradiction | (exfalso; omega) | ((try refine zH hb2 ?_); try clear hb2))
      | ((with_reducible refine awp_skip ?_); try refine zS ?_)
      | ((with_reducible refine awp_ret ?_); refine q_step (by assumption) ?_)
      | with_reducible refine fin_r ?_
      | ((with_reducible refine q_step (by assumption) ?_); try refine zS ?_)
      all_goals first
        | exact ⟨(), by simp; omega, (by exact zwc 1)⟩
        | (rw [hf]; simp [go_sem, *]; done)
        | (rw [hf]; simp [go_sem]; omega)
        | trace_state
    rintro _ h0
    refine zT ?_
    refine awp_cut (fun _ : Unit => ((decide (t.op = 1) && decide (t.n > 1099511627776)) || (decide (t.op = 2) && decide (t.n > 3)) || (decide (t.op > 2) && decide (t.n ≠ 0))) = false) (fun _ => []) (fun _ => [some (.box t.bs)]) ?_ ?_
    · repeat' first
      | ((with_reducible refine awp_seqQ ?_); intro _ _)
      | ((with_reducible refine awp_region ?_); refine zS ?_)
      | ((with_reducible refine Gd_nd ?_ ?_) <;> intro hb hb2 <;> first | contradiction | (exfalso; omega) | (refine zH hb2 ?_; try clear hb2))
      | ((with_reducible refine Gd_d ?_ ?_) <;> intro hb hb2 <;> first | contradiction | (exfalso; omega) | (refine zH hb2 ?_; try clear hb2))
      | ((with_reducible refine AWP_c ?_); refine zcdT ?_)
      | ((with_reducible refine AWP_c ?_); refine zcdF ?_)
      | ((with_reducible refine AWP_c ?_); refine zcdN ?_ ?_ <;> intro hb hb2 <;> first | contradiction | (exfalso; omega) | ((try refine zH hb2 ?_); try clear hb2))
      | ((with_reducible refine awp_skip ?_); try refine zS ?_)
      | ((with_reducible refine awp_ret ?_); refine q_step (by assumption) ?_)
      | with_reducible refine fin_r ?_
      | ((with_reducible refine q_step (by assumption) ?_); try refine zS ?_)
      all_goals first
        | exact ⟨(), by simp; omega, (by exact zwc 1)⟩
        | (rw [hf]; simp [go_sem, *]; done)
        | (rw [hf]; simp [go_sem]; omega)
        | trace_state
    rintro _ h1
    rw [h0, h1] at hf
    refine zT ?_
    repeat' first
    | ((with_reducible refine awp_seqQ ?_); intro _ _)
    | ((with_reducible refine awp_region ?_); refine zS ?_)
    | with_reducible refine awp_block ?_
    refine awp_loopT (fun i : Nat => i ≤ t.kids.length ∧ formT t = formTs (t.kids.drop i)) (fun i => t.kids.length - i) (fun i => [(58, aI i)]) (fun _ => [some (.box t.bs)]) 0 ⟨by omega, by rw [hf]; rfl⟩ (by exact zwl) ?_
    rintro i ⟨g1, g2⟩
    refine zT ?_
    repeat' first
    | ((with_reducible refine awp_seqQ ?_); intro _ _)
    | ((with_reducible refine awp_region ?_); refine zS ?_)
    | ((with_reducible refine AWP_c ?_); refine zcdD ?_ ?_ <;> intro hb hb2 <;> first | contradiction | (exfalso; omega) | ((try refine zH hb2 ?_); try clear hb2))
    | ((with_reducible refine AWP_c ?_); refine zcdM ?_ ?_ <;> intro hb <;> first | contradiction | (try refine zH hb ?_))
    | ((with_reducible refine awp_skip ?_); try refine zS ?_)
    | with_reducible refine awp_block ?_
    | ((with_reducible refine awp_exit ?_); try refine zS ?_)
    | ((with_reducible refine CallK_id ?_); refine zcF ?_; refine ⟨_, by first | exact ih (gt t.kids i) (T.size_lt (gt_mem (by omega))) | fail, fun _ => rfl, fun _ => rfl, rfl, ?_⟩; try refine zS ?_)
    | ((with_reducible refine awp_ret ?_); refine q_step (by assumption) ?_)
    | with_reducible refine fin_r ?_
    | ((with_reducible refine q_step (by assumption) ?_); try refine zS ?_)
    · rw [g2, drop_gt (by omega), formTs, ‹formT (gt t.kids i) = false›]; rfl
    · exact ⟨i + 1, ⟨by omega, by rw [g2, drop_gt (by omega), formTs, ‹formT (gt t.kids i) = true›]; rfl⟩, by omega, (by exact zwc 1)⟩
    · rw [g2, List.drop_eq_nil_of_le (by omega), formTs]
mutual
def tyT : T → Bool
  | .mk o _ k => tyTs (decide (o = 4) || decide (o ≥ 13)) k
def tyTs (a : Bool) : List T → Bool
  | [] => true
  | t :: l => truthF t.op == a && tyT t && tyTs a l
end
theorem tyT_eq (t : T) : tyT t = tyTs (decide (t.op = 4) || decide (t.op ≥ 13)) t.kids := by cases t; rw [tyT]; rfl
theorem tyT_ok (t : T) (hs : t.size < 4611686018427387904) : AFn env 90 [t.a] [] (aB (tyT t)) [] := by
  generalize hn : t.size = n
  induction n using Nat.strongRecOn generalizing t with
  | _ n ih0 =>
    have ih : ∀ k : T, k.size < t.size → AFn env 90 [k.a] [] (aB (tyT k)) [] := fun k h => ih0 k.size (by omega) k (by omega) rfl
    have l2 := t.kids_len
    have hf := tyT_eq t
    generalize ha : (decide (t.op = 4) || decide (t.op ≥ 13)) = a at hf
    refine afn_body Tryz.func90 rfl (by decide) ?_
    simp only [Tryz.ntmps90, Tryz.results90, List.length_cons, List.length_nil, List.cons_append, List.nil_append, Nat.reduceAdd, Nat.reduceSub, List.replicate]
    refine awp_seq ?_
    refine awp_region ?_
    refine zT ?_
    refine awp_cut (fun _ : Unit => True) (fun _ => [(3, aB a)]) (fun _ => [some (.box t.bs)]) ?_ ?_
    · repeat' first
      | ((with_reducible refine awp_region ?_); refine zS ?_)
      | ((with_reducible refine Gd_nd ?_ ?_) <;> intro hb hb2 <;> first | contradiction | (exfalso; omega) | (refine zH hb2 ?_; try clear hb2))
      all_goals exact ⟨(), wk_cl 1 (by decide) (by simp) (by simp only [go_sem, Bool.not_not, List.mem_singleton, forall_eq, ↓reduceIte, if_pos, rowsAt_map, wrap64, wrapu8, List.getElem?_cons_zero, List.getElem?_cons_succ, Int.reduceToNat, Nat.reduceAdd, Nat.reduceBEq, Bool.or_false, Bool.false_or, Bool.true_or, Nat.reduceSub, Nat.reduceMul, Int.reduceAdd, Int.reduceEq, Int.reduceLT, Int.reduceLE, Int.reduceNeg, Nat.reduceLT, Nat.reduceLeDiff, Nat.reduceEqDiff]; subst ha; try simp [*]) (by simp only [go_sem, Bool.not_not, List.mem_singleton, forall_eq, ↓reduceIte, if_pos, rowsAt_map, wrap64, wrapu8, List.getElem?_cons_zero, List.getElem?_cons_succ, Int.reduceToNat, Nat.reduceAdd, Nat.reduceBEq, Bool.or_false, Bool.false_or, Bool.true_or, Nat.reduceSub, Nat.reduceMul, Int.reduceAdd, Int.reduceEq, Int.reduceLT, Int.reduceLE, Int.reduceNeg, Nat.reduceLT, Nat.reduceLeDiff, Nat.reduceEqDiff])⟩
    rintro _ _
    refine zT ?_
    repeat' first
    | ((with_reducible refine awp_seqQ ?_); intro _ _)
    | ((with_reducible refine awp_region ?_); refine zS ?_)
    | with_reducible refine awp_block ?_
    refine awp_loopT (fun i : Nat => i ≤ t.kids.length ∧ tyT t = tyTs a (t.kids.drop i)) (fun i => t.kids.length - i) (fun i => [(17, aI i)]) (fun _ => [some (.box t.bs)]) 0 ⟨by omega, hf⟩ (by exact zwl) ?_
    rintro i ⟨g1, g2⟩
    refine zT ?_
    repeat' first
    | ((with_reducible refine awp_seqQ ?_); intro _ _)
    | ((with_reducible refine awp_region ?_); refine zS ?_)
    | ((with_reducible refine Gd_b ?_ ?_) <;> intro hb <;> first | contradiction | refine zH hb ?_)
    | ((with_reducible refine AWP_c ?_); refine zcdT ?_)
    | ((with_reducible refine AWP_c ?_); refine zcdD ?_ ?_ <;> intro hb hb2 <;> first | contradiction | (exfalso; omega) | ((try refine zH hb2 ?_); try clear hb2))
    | ((with_reducible refine AWP_c ?_); refine zcdM ?_ ?_ <;> intro hb <;> first | contradiction | (try refine zH hb ?_))
    | ((with_reducible refine awp_skip ?_); try refine zS ?_)
    | with_reducible refine awp_block ?_
    | ((with_reducible refine awp_exit ?_); try refine zS ?_)
    | ((with_reducible refine CallK_id ?_); refine zcF ?_; refine ⟨_, by first | exact truth_ok _ | exact ih (gt t.kids i) (T.size_lt (gt_mem (by omega))) | fail, fun _ => rfl, fun _ => rfl, rfl, ?_⟩; try refine zS ?_)
    | ((with_reducible refine awp_ret ?_); refine q_step (by assumption) ?_)
    | with_reducible refine fin_r ?_
    | ((with_reducible refine q_step (by assumption) ?_); try refine zS ?_)
    all_goals first
      | (rw [g2, drop_gt (by omega), tyTs]; simp [go_sem, *]; done)
      | exact ⟨i + 1, ⟨by omega, by rw [g2, drop_gt (by omega), tyTs]; simp [*]⟩, by omega, (by exact zwc 1)⟩
      | (rw [g2, List.drop_eq_nil_of_le (by omega), tyTs]; done)
      | trace_state
def rWrongF (t : T) : Int := if dT t > 24 then 2 else if formT t = true then 0 else 4
theorem rWrong_ok (t : T) (hs : t.size < 4611686018427387904) : AFn env 89 [t.a] [] (aI (rWrongF t)) [] := by
  refine afn_body Tryz.func89 rfl (by decide) ?_
  simp only [Tryz.ntmps89, Tryz.results89, List.length_cons, List.length_nil, List.cons_append, List.nil_append, Nat.reduceAdd, Nat.reduceSub, List.replicate]
  repeat' first
  | ((with_reducible refine awp_seqQ ?_); intro _ _)
  | ((with_reducible refine awp_region ?_); refine zS ?_)
  | ((with_reducible refine AWP_c ?_); refine zcdD ?_ ?_ <;> intro hb hb2 <;> first | contradiction | (exfalso; omega) | ((try refine zH hb2 ?_); try clear hb2))
  | ((with_reducible refine AWP_c ?_); refine zcdM ?_ ?_ <;> intro hb <;> first | contradiction | (try refine zH hb ?_))
  | ((with_reducible refine awp_skip ?_); try refine zS ?_)
  | ((with_reducible refine CallK_id ?_); refine zcF ?_; refine ⟨_, by first | exact rDepT_ok t hs | exact formT_ok t hs | fail, fun _ => rfl, fun _ => rfl, rfl, ?_⟩; try refine zS ?_)
  | ((with_reducible refine awp_ret ?_); refine q_step (by assumption) ?_)
  | with_reducible refine fin_r ?_
  | ((with_reducible refine q_step (by assumption) ?_); try refine zS ?_)
  all_goals first | (simp [go_sem, rWrongF, *]; done) | (rw [rWrongF, if_pos (by omega)]; done) | (rw [rWrongF, if_neg (by omega)]; simp [*]; done) | trace_state
def rCheckF (t : T) : Int × Int := if rWrongF t ≠ 0 then (0, rWrongF t) else if tyT t = true then (if truthF t.op = true then (2, 0) else (1, 0)) else (0, 30)
theorem rCheckF_ok (t : T) (hs : t.size < 4611686018427387904) : AFn env 71 [t.a] [] (.tup [aI (rCheckF t).1, aI (rCheckF t).2]) [] := by
  refine afn_body Tryz.func71 rfl (by decide) ?_
  simp only [Tryz.ntmps71, Tryz.results71, List.length_cons, List.length_nil, List.cons_append, List.nil_append, Nat.reduceAdd, Nat.reduceSub, List.replicate]
  repeat' first
  | ((with_reducible refine awp_seqQ ?_); intro _ _)
  | ((with_reducible refine awp_region ?_); refine zS ?_)
  | ((with_reducible refine AWP_c ?_); refine zcdN ?_ ?_ <;> intro hb hb2 <;> first | contradiction | (exfalso; omega) | ((try refine zH hb2 ?_); try clear hb2))
  | ((with_reducible refine AWP_c ?_); refine zcdM ?_ ?_ <;> intro hb <;> first | contradiction | (try refine zH hb ?_))
  | ((with_reducible refine AWP_c ?_); refine zcdB ?_ ?_ <;> intro hb <;> first | contradiction | (try refine zH hb ?_))
  | ((with_reducible refine awp_skip ?_); try refine zS ?_)
  | ((with_reducible refine CallK_id ?_); refine zcF ?_; refine ⟨_, by first | exact rWrong_ok t hs | exact tyT_ok t hs | exact truth_ok _ | fail, fun _ => rfl, fun _ => rfl, rfl, ?_⟩; try refine zS ?_)
  | ((with_reducible refine awp_ret ?_); refine q_step (by assumption) ?_)
  | with_reducible refine fin_r ?_
  | ((with_reducible refine q_step (by assumption) ?_); try refine zS ?_)
  all_goals first | (simp [go_sem, rCheckF, *]; done) | trace_state
end Go.Eng
open Go Go.Proofs
namespace Go.Eng
set_option linter.unusedSimpArgs false
set_option linter.unusedVariables false
mutual
theorem deepT_d : ∀ (t : T) (d : Int), 1 ≤ d → deepTF t d = decide (d - 1 + (dT t : Int) > 24)
  | .mk o n k, d, h => by
    rw [deepTF, dT, deepTs_d k (d + 1) (by omega), Bool.eq_iff_iff]
    simp only [Bool.or_eq_true, decide_eq_true_eq]
    omega
theorem deepTs_d : ∀ (l : List T) (d : Int), 1 ≤ d → deepTs l d = decide (0 < dTs l ∧ d - 1 + (dTs l : Int) > 24)
  | [], d, h => by simp [deepTs, dTs]
  | t :: l, d, h => by
    have h0 := dT_eq t
    rw [deepTs, dTs, deepT_d t d h, deepTs_d l d h, Bool.eq_iff_iff]
    simp only [Bool.or_eq_true, decide_eq_true_eq]
    omega
end
theorem wd_kids {o : Int} (h1 : 3 ≤ o) (h2 : o ≤ 14) : (gt words o.toNat).kids = rKids o := by
  have : o = 3 ∨ o = 4 ∨ o = 5 ∨ o = 6 ∨ o = 7 ∨ o = 8 ∨ o = 9 ∨ o = 10 ∨ o = 11 ∨ o = 12 ∨ o = 13 ∨ o = 14 := by omega
  rcases this with rfl | rfl | rfl | rfl | rfl | rfl | rfl | rfl | rfl | rfl | rfl | rfl <;> rfl
theorem wd_of {o : Int} (h1 : 3 ≤ o) (h2 : o ≤ 14) : (gt words o.toNat).of = if o = 4 ∨ o ≥ 13 then 2 else 1 := by
  have : o = 3 ∨ o = 4 ∨ o = 5 ∨ o = 6 ∨ o = 7 ∨ o = 8 ∨ o = 9 ∨ o = 10 ∨ o = 11 ∨ o = 12 ∨ o = 13 ∨ o = 14 := by omega
  rcases this with rfl | rfl | rfl | rfl | rfl | rfl | rfl | rfl | rfl | rfl | rfl | rfl <;> rfl
theorem wd_out {o : Int} (h1 : 3 ≤ o) (h2 : o ≤ 14) : (gt words o.toNat).out = if truthF o = true then 2 else 1 := by
  have : o = 3 ∨ o = 4 ∨ o = 5 ∨ o = 6 ∨ o = 7 ∨ o = 8 ∨ o = 9 ∨ o = 10 ∨ o = 11 ∨ o = 12 ∨ o = 13 ∨ o = 14 := by omega
  rcases this with rfl | rfl | rfl | rfl | rfl | rfl | rfl | rfl | rfl | rfl | rfl | rfl <;> rfl
mutual
theorem form_shaped : ∀ t : T, formT t = shapedF t
  | .mk o n k => by
    have hk := forms_shaped k
    rw [formT, shapedF]
    by_cases h1 : o = 1
    · subst h1
      rw [if_pos rfl, hk]
      cases k with
      | nil => rw [shapedFs, Bool.eq_iff_iff]; simp [rKids]
      | cons a l => simp [rKids]; intros; omega
    rw [if_neg h1]
    by_cases h2 : o = 2
    · subst h2
      rw [if_pos rfl, hk]
      cases k with
      | nil => rw [shapedFs, Bool.eq_iff_iff]; simp [rKids]; omega
      | cons a l => simp [rKids]; intros; omega
    rw [if_neg h2]
    by_cases h3 : o < 3 ∨ o > 14
    · rw [if_pos (by omega)]
      simp only [Bool.and_eq_false_iff, Bool.not_eq_false', Bool.or_eq_true, decide_eq_true_eq]
      exact .inl (.inl (by omega))
    rw [wd_kids (by omega) (by omega)]
    by_cases h4 : n ≠ 0 ∨ (k.length : Int) ≠ rKids o
    · rw [if_pos (by omega)]
      simp only [Bool.and_eq_false_iff, Bool.not_eq_false', Bool.or_eq_true, Bool.and_eq_true, decide_eq_true_eq]
      omega
    · rw [if_neg (by omega), hk, Bool.eq_iff_iff]
      simp only [Bool.and_eq_true, Bool.not_eq_true', Bool.or_eq_false_iff, Bool.and_eq_false_iff, decide_eq_false_iff_not]
      constructor
      · exact fun h => h.2
      · exact fun h => ⟨⟨by omega, by omega⟩, h⟩
theorem forms_shaped : ∀ l : List T, formTs l = shapedFs l
  | [] => by rw [formTs, shapedFs]
  | t :: l => by rw [formTs, shapedFs, form_shaped t, forms_shaped l]
end
mutual
theorem typed_ty : ∀ t : T, shapedF t = true → typedF t = if tyT t = true then (if truthF t.op = true then 2 else 1) else 0
  | .mk o n k, h => by
    rw [shapedF] at h
    rw [typedF, tyT]
    by_cases h1 : o = 1
    · subst h1
      rw [if_pos rfl] at h
      have : k = [] := by simp at h; exact h.1.1
      subst this
      rw [tyTs]; rfl
    by_cases h2 : o = 2
    · subst h2
      rw [if_neg (by decide), if_pos rfl] at h
      have : k = [] := by simp at h; exact h.1.1
      subst this
      rw [tyTs]; rfl
    rw [if_neg h1, if_neg h2] at h
    rw [if_neg (by omega)]
    split at h
    · cases h
    rename_i h3
    rw [wd_of (by omega) (by omega), wd_out (by omega) (by omega), off_ty (decide (o = 4) || decide (o ≥ 13)) k h]
    · simp only [T.op]
      cases tyTs (decide (o = 4) || decide (o ≥ 13)) k <;> simp <;> rfl
    · simp
theorem off_ty (a : Bool) : ∀ l : List T, shapedFs l = true → ∀ {w : Int}, w = (if a = true then 2 else 1) → anyOff w l = !tyTs a l
  | [], _, w, _ => by rw [anyOff, tyTs]; rfl
  | t :: l, h, w, hw => by
    rw [shapedFs, Bool.and_eq_true] at h
    rw [anyOff, tyTs, typed_ty t h.1, off_ty a l h.2 hw]
    subst hw
    cases a <;> cases tyT t <;> cases truthF t.op <;> cases tyTs _ l <;> simp
end
theorem rCheck_eq (t : T) : rCheckF t = checkTF t := by
  have hw : rWrongF t = wrongTF t := by
    rw [rWrongF, wrongTF, deepT_d t 1 (by omega), form_shaped]
    by_cases h : dT t > 24
    · rw [if_pos h, decide_eq_true (p := (1 : Int) - 1 + (dT t : Int) > 24) (by omega), if_pos rfl]
    · rw [if_neg h, decide_eq_false (p := (1 : Int) - 1 + (dT t : Int) > 24) (by omega)]
      simp
  rw [rCheckF, checkTF, hw]
  split
  · rfl
  · rename_i h
    have hs := wrong_shaped (by simpa using h)
    rw [typed_ty t hs]
    cases tyT t <;> cases truthF t.op <;> simp
theorem rCheckT_ok (t : T) (hs : t.size < 4611686018427387904) : AFn env 71 [t.a] [] (.tup [aI (checkTF t).1, aI (checkTF t).2]) [] := by
  rw [← rCheck_eq]; exact rCheckF_ok t hs
end Go.Eng
open Go Go.Proofs
namespace Go.Eng
set_option linter.unusedSimpArgs false
set_option linter.unusedVariables false
set_option maxRecDepth 10000
set_option maxHeartbeats 8000000
def stepL : List Lk → List Bool → List Bool
  | [], s => s
  | e :: l, s => stepL l (if gb s e.src = true then s.set e.dst.toNat true else s)
def iterL (l : List Lk) : Nat → List Bool → List Bool
  | 0, s => s
  | k + 1, s => iterL l k (stepL l s)
theorem stepL_len : ∀ (l : List Lk) (s : List Bool), (stepL l s).length = s.length
  | [], s => rfl
  | e :: l, s => by rw [stepL, stepL_len l]; split <;> simp
theorem iterL_len (l : List Lk) : ∀ (k : Nat) (s : List Bool), (iterL l k s).length = s.length
  | 0, s => rfl
  | k + 1, s => by rw [iterL, iterL_len l k, stepL_len]
def leadsR (n : Nat) (l : List Lk) (a b : Int) : Bool := gb (iterL l n (first1 a l (List.replicate n false))) b
theorem stepL_t {l : List Lk} {j : Nat} {s : List Bool} (h : j < l.length) (he : gt s (gt l j).src.toNat = true) : stepL (l.drop j) s = stepL (l.drop (j + 1)) (s.set (gt l j).dst.toNat true) := by rw [drop_gt (l := l) h, stepL, if_pos (by simpa [gb] using he)]
theorem stepL_f {l : List Lk} {j : Nat} {s : List Bool} (h : j < l.length) (he : gt s (gt l j).src.toNat = false) : stepL (l.drop j) s = stepL (l.drop (j + 1)) s := by rw [drop_gt (l := l) h, stepL, if_neg (by simp [gb, he])]
theorem rRk_ok (n : Nat) (l : List Lk) (hl : l.length < 4611686018427387904) (hn : n < 4611686018427387904) : AFn env 92 [aI n, aF (l.map Lk.row)] [] (aI (rkC n l)) [] := by
  refine afn_body Tryz.func92 rfl (by decide) ?_
  simp only [Tryz.ntmps92, Tryz.results92, List.length_cons, List.length_nil, List.cons_append, List.nil_append, Nat.reduceAdd, Nat.reduceSub, List.replicate]
  repeat' first
  | ((with_reducible refine awp_seqQ ?_); intro _ _)
  | ((with_reducible refine awp_region ?_); refine zS ?_)
  | ((with_reducible refine Gd_nd ?_ ?_) <;> intro hb hb2 <;> first | contradiction | (exfalso; omega) | (refine zH hb2 ?_; try clear hb2))
  | ((with_reducible refine AWP_c ?_); refine zcdD ?_ ?_ <;> intro hb hb2 <;> first | contradiction | (exfalso; omega) | ((try refine zH hb2 ?_); try clear hb2))
  | ((with_reducible refine awp_skip ?_); try refine zS ?_)
  | with_reducible refine awp_block ?_
  | ((with_reducible refine awp_ret ?_); refine q_step (by assumption) ?_)
  | with_reducible refine fin_r ?_
  | ((with_reducible refine q_step (by assumption) ?_); try refine zS ?_)
  all_goals first
    | (rw [rkC, if_pos (by omega)]; done)
    | (rw [rkC, if_neg (by omega), if_pos (by omega)]; done)
    | skip
  have h0 : rkC n l = if (l.all fun e => inR n e.src && inR n e.dst) = true then 0 else 4 := by rw [rkC, if_neg (by omega), if_neg (by omega)]
  refine awp_loopT (fun i : Nat => i ≤ l.length ∧ (l.all fun e => inR n e.src && inR n e.dst) = ((l.drop i).all fun e => inR n e.src && inR n e.dst)) (fun i => l.length - i) (fun i => [(18, aI i)]) (fun _ => []) 0 ⟨by omega, rfl⟩ (by exact zwl) ?_
  rintro i ⟨h1, h2⟩
  refine zT ?_
  repeat' first
  | ((with_reducible refine awp_seqQ ?_); intro _ _)
  | ((with_reducible refine awp_region ?_); refine zS ?_)
  | ((with_reducible refine Gd_nd ?_ ?_) <;> intro hb hb2 <;> first | contradiction | (exfalso; omega) | (refine zH hb2 ?_; try clear hb2))
  | ((with_reducible refine AWP_c ?_); refine zcdT ?_)
  | ((with_reducible refine AWP_c ?_); refine zcdD ?_ ?_ <;> intro hb hb2 <;> first | contradiction | (exfalso; omega) | ((try refine zH hb2 ?_); try clear hb2))
  | ((with_reducible refine awp_skip ?_); try refine zS ?_)
  | with_reducible refine awp_block ?_
  | ((with_reducible refine awp_exit ?_); try refine zS ?_)
  | ((with_reducible refine awp_ret ?_); refine q_step (by assumption) ?_)
  | with_reducible refine fin_r ?_
  | ((with_reducible refine q_step (by assumption) ?_); try refine zS ?_)
  all_goals first
    | (rw [h0, h2, drop_gt (by omega), List.all_cons, show (inR n (gt l i).src && inR n (gt l i).dst) = false by simp [inR]; omega]; simp; done)
    | exact ⟨i + 1, ⟨by omega, by rw [h2, drop_gt (by omega), List.all_cons, show (inR n (gt l i).src && inR n (gt l i).dst) = true by simp [inR]; omega]; rfl⟩, by omega, (by exact zwc 0)⟩
    | (rw [h0, h2, List.drop_eq_nil_of_le (by omega)]; rfl)
    | trace_state
theorem rLeads_ok (n : Nat) (l : List Lk) (a b : Int) (hn : n ≤ 64) (hl : l.length ≤ 256) (hin : inL n l) (hb : 0 ≤ b ∧ b < n) : AFn env 93 [aI n, aF (l.map Lk.row), aI a, aI b] [] (aB (leadsR n l a b)) [] := by
  refine afn_body Tryz.func93 rfl (by decide) ?_
  simp only [Tryz.ntmps93, Tryz.results93, List.length_cons, List.length_nil, List.cons_append, List.nil_append, Nat.reduceAdd, Nat.reduceSub, List.replicate]
  repeat' first
  | ((with_reducible refine awp_seqQ ?_); intro _ _)
  | ((with_reducible refine awp_region ?_); refine zS ?_)
  | with_reducible refine awp_block ?_
  refine awp_loopT (fun z : Nat × List Bool => z.1 ≤ l.length ∧ z.2.length = n ∧ first1 a l (List.replicate n false) = first1 a (l.drop z.1) z.2) (fun z => l.length - z.1) (fun z => [(19, aI z.1)]) (fun z => [RwO z.2]) (0, List.replicate n false) ⟨by simp, by simp, rfl⟩ (by exact zwl) ?_
  rintro ⟨j, s⟩ ⟨g1, g2, g3⟩
  simp only at g1 g2 g3
  have hR : j < l.length → 0 ≤ (gt l j).src ∧ (gt l j).src < n ∧ 0 ≤ (gt l j).dst ∧ (gt l j).dst < n := fun h => hin _ (gt_mem h)
  refine zT ?_
  repeat' first
  | ((with_reducible refine awp_seqQ ?_); intro _ _)
  | ((with_reducible refine awp_region ?_); refine zS ?_)
  | ((with_reducible refine AWP_c ?_); refine zcdD ?_ ?_ <;> intro hb hb2 <;> first | contradiction | (exfalso; omega) | ((try refine zH hb2 ?_); try clear hb2))
  | ((with_reducible refine awp_skip ?_); try refine zS ?_)
  | with_reducible refine awp_block ?_
  | ((with_reducible refine awp_exit ?_); try refine zS ?_)
  | ((with_reducible refine q_step (by assumption) ?_); try refine zS ?_)
  · exact ⟨(j + 1, s.set (gt l j).dst.toNat true), ⟨by simp only; omega, by simpa using g2, by rw [g3, first1_t (by omega) ‹_›]⟩, by simp only; omega, (by exact zwc 1)⟩
  · exact ⟨(j + 1, s), ⟨by simp only; omega, g2, by rw [g3, first1_f (by omega) ‹_›]⟩, by simp only; omega, (by exact zwc 1)⟩
  have hs : first1 a l (List.replicate n false) = s := by rw [g3, List.drop_eq_nil_of_le (by omega), first1_nil]
  have hr : leadsR n l a b = gb (iterL l n s) b := by rw [leadsR, hs]
  refine awp_loopT (fun z : Nat × List Bool => z.1 ≤ n ∧ z.2.length = n ∧ iterL l n s = iterL l (n - z.1) z.2) (fun z => n - z.1) (fun z => [(12, aI z.1)]) (fun z => [RwO z.2]) (0, s) ⟨by simp, g2, rfl⟩ (by exact zwl) ?_
  rintro ⟨k, s1⟩ ⟨h1, h2, h3⟩
  simp only at h1 h2 h3
  refine zT ?_
  repeat' first
  | ((with_reducible refine awp_seqQ ?_); intro _ _)
  | ((with_reducible refine awp_region ?_); refine zS ?_)
  | ((with_reducible refine AWP_c ?_); refine zcdD ?_ ?_ <;> intro hb hb2 <;> first | contradiction | (exfalso; omega) | ((try refine zH hb2 ?_); try clear hb2))
  | ((with_reducible refine awp_skip ?_); try refine zS ?_)
  | with_reducible refine awp_block ?_
  | ((with_reducible refine awp_exit ?_); try refine zS ?_)
  | ((with_reducible refine awp_ret ?_); refine q_step (by assumption) ?_)
  | with_reducible refine fin_r ?_
  | ((with_reducible refine q_step (by assumption) ?_); try refine zS ?_)
  rotate_left
  · rw [hr, h3, show n - k = 0 by omega, iterL]; simp [go_sem, gb]
  refine awp_loopT (fun z : Nat × List Bool => z.1 ≤ l.length ∧ z.2.length = n ∧ stepL l s1 = stepL (l.drop z.1) z.2) (fun z => l.length - z.1) (fun z => [(39, aI z.1)]) (fun z => [RwO z.2]) (0, s1) ⟨by simp, h2, rfl⟩ (by exact zwl) ?_
  rintro ⟨i, s2⟩ ⟨q1, q2, q3⟩
  simp only at q1 q2 q3
  have hR : i < l.length → 0 ≤ (gt l i).src ∧ (gt l i).src < n ∧ 0 ≤ (gt l i).dst ∧ (gt l i).dst < n := fun h => hin _ (gt_mem h)
  refine zT ?_
  repeat' first
  | ((with_reducible refine awp_seqQ ?_); intro _ _)
  | ((with_reducible refine awp_region ?_); refine zS ?_)
  | ((with_reducible refine AWP_c ?_); refine zcdD ?_ ?_ <;> intro hb hb2 <;> first | contradiction | (exfalso; omega) | ((try refine zH hb2 ?_); try clear hb2))
  | ((with_reducible refine AWP_c ?_); refine zcdB ?_ ?_ <;> intro hb <;> first | contradiction | (try refine zH hb ?_))
  | ((with_reducible refine awp_skip ?_); try refine zS ?_)
  | with_reducible refine awp_block ?_
  | ((with_reducible refine awp_exit ?_); try refine zS ?_)
  | ((with_reducible refine q_step (by assumption) ?_); try refine zS ?_)
  · exact ⟨(i + 1, s2.set (gt l i).dst.toNat true), ⟨by simp only; omega, by simpa using q2, by rw [q3, stepL_t (by omega) ‹_›]⟩, by simp only; omega, (by exact zwc 1)⟩
  · exact ⟨(i + 1, s2), ⟨by simp only; omega, q2, by rw [q3, stepL_f (by omega) ‹_›]⟩, by simp only; omega, (by exact zwc 1)⟩
  have hs2 : stepL l s1 = s2 := by rw [q3, List.drop_eq_nil_of_le (by omega), stepL]
  exact ⟨(k + 1, s2), ⟨by simp only; omega, q2, by rw [h3, show n - k = (n - (k + 1)) + 1 by omega, iterL, hs2]⟩, by simp only; omega, (by exact zwc 1)⟩
def rndL (n : Nat) (l : List Lk) : List Nat → List Int
  | [] => []
  | i :: r => if leadsR n l i i = true then (i : Int) :: rndL n l r else rndL n l r
theorem rndL_len (n : Nat) (l : List Lk) : ∀ r : List Nat, (rndL n l r).length ≤ r.length
  | [] => by simp [rndL]
  | i :: r => by have := rndL_len n l r; rw [rndL]; split <;> simp <;> omega
def rRoundF (n : Nat) (l : List Lk) : List Int × Int := if rkC n l ≠ 0 then ([], rkC n l) else (rndL n l (List.range' 0 n), 0)
theorem rRound_ok (n : Nat) (l : List Lk) (hl : l.length < 4611686018427387904) (hn : n < 4611686018427387904) : AFn env 75 [aI n, aF (l.map Lk.row)] [] (.tup [aF ((rRoundF n l).1.map iRow), aI (rRoundF n l).2]) [] := by
  have hf : rkC n l = 0 → n ≤ 64 ∧ l.length ≤ 256 := fun h => by have := rkC_in h; omega
  have hin : rkC n l = 0 → inL n l := fun h => by have := (rkC_in h).2; rwa [Int.toNat_natCast] at this
  refine afn_body Tryz.func75 rfl (by decide) ?_
  simp only [Tryz.ntmps75, Tryz.results75, List.length_cons, List.length_nil, List.cons_append, List.nil_append, Nat.reduceAdd, Nat.reduceSub, List.replicate]
  repeat' first
  | ((with_reducible refine awp_seqQ ?_); intro _ _)
  | ((with_reducible refine awp_region ?_); refine zS ?_)
  | ((with_reducible refine AWP_c ?_); refine zcdN ?_ ?_ <;> intro hb hb2 <;> first | contradiction | (exfalso; omega) | ((try refine zH hb2 ?_); try clear hb2))
  | ((with_reducible refine awp_skip ?_); try refine zS ?_)
  | with_reducible refine awp_block ?_
  | ((with_reducible refine CallK_id ?_); refine zcF ?_; refine ⟨_, by first | exact rRk_ok n l hl hn | fail, fun _ => rfl, fun _ => rfl, rfl, ?_⟩; try refine zS ?_)
  | ((with_reducible refine awp_ret ?_); refine q_step (by assumption) ?_)
  | with_reducible refine fin_r ?_
  | ((with_reducible refine q_step (by assumption) ?_); try refine zS ?_)
  · rw [rRoundF, if_pos ‹_›]; rfl
  have hr0 : rkC n l = 0 := ‹_›
  have hnl := hf hr0
  have hr : rRoundF n l = (rndL n l (List.range' 0 n), 0) := by rw [rRoundF, if_neg (by simp [hr0])]
  refine awp_wk (wk_virt none (i := 7) (s := 1) (by decide) rfl) ?_
  refine zT ?_
  refine awp_loopT (fun z : Nat × List Int => z.1 ≤ n ∧ z.2 ++ rndL n l (List.range' z.1 (n - z.1)) = rndL n l (List.range' 0 n) ∧ z.2.length ≤ z.1) (fun z => n - z.1) (fun z => [(7, OwnK 0 z.2.length), (8, aI z.1)]) (fun z => [RwG z.2]) (0, []) ⟨by simp, by simp, by simp⟩ (by exact zwl) ?_
  rintro ⟨i, o⟩ ⟨h1, h2, h3⟩
  simp only at h1 h2 h3
  refine zT ?_
  repeat' first
  | ((with_reducible refine awp_seqQ ?_); intro _ _)
  | ((with_reducible refine awp_region ?_); refine zS ?_)
  | ((with_reducible refine AWP_c ?_); refine zcdD ?_ ?_ <;> intro hb hb2 <;> first | contradiction | (exfalso; omega) | ((try refine zH hb2 ?_); try clear hb2))
  | ((with_reducible refine AWP_c ?_); refine zcdB ?_ ?_ <;> intro hb <;> first | contradiction | (try refine zH hb ?_))
  | ((with_reducible refine awp_skip ?_); try refine zS ?_)
  | with_reducible refine awp_block ?_
  | ((with_reducible refine awp_exit ?_); try refine zS ?_)
  | ((with_reducible refine CallK_id ?_); refine zcF ?_; refine ⟨_, by first | exact rLeads_ok n l i i (by omega) (by omega) (hin ‹_›) (by omega) | fail, fun _ => rfl, fun _ => rfl, rfl, ?_⟩; try refine zS ?_)
  | ((with_reducible refine awp_ret ?_); refine q_step (by assumption) ?_)
  | ((with_reducible refine q_step (by assumption) ?_); try refine zS ?_)
  · exact ⟨(i + 1, o ++ [(i : Int)]), ⟨by simp only; omega, by rw [← h2, show n - i = (n - (i + 1)) + 1 by omega, List.range'_succ, rndL, if_pos ‹_›]; simp, by simp; omega⟩, by simp only; omega, wk_cl 1 (by decide) (by simp) (by simp only [go_sem, Bool.not_not, List.mem_singleton, forall_eq, ↓reduceIte, if_pos, rowsAt_map, wrap64, wrapu8, List.getElem?_cons_zero, List.getElem?_cons_succ, Int.reduceToNat, Nat.reduceAdd, Nat.reduceBEq, Bool.or_false, Bool.false_or, Bool.true_or, Nat.reduceSub, Nat.reduceMul, Int.reduceAdd, Int.reduceEq, Int.reduceLT, Int.reduceLE, Int.reduceNeg, Nat.reduceLT, Nat.reduceLeDiff, Nat.reduceEqDiff]; try simp) (by simp only [go_sem, Bool.not_not, List.mem_singleton, forall_eq, ↓reduceIte, if_pos, rowsAt_map, wrap64, wrapu8, List.getElem?_cons_zero, List.getElem?_cons_succ, Int.reduceToNat, Nat.reduceAdd, Nat.reduceBEq, Bool.or_false, Bool.false_or, Bool.true_or, Nat.reduceSub, Nat.reduceMul, Int.reduceAdd, Int.reduceEq, Int.reduceLT, Int.reduceLE, Int.reduceNeg, Nat.reduceLT, Nat.reduceLeDiff, Nat.reduceEqDiff, List.map_append]; try simp [go_sem])⟩
  · exact ⟨(i + 1, o), ⟨by simp only; omega, by rw [← h2, show n - i = (n - (i + 1)) + 1 by omega, List.range'_succ, rndL, if_neg (by simp [*])], by simp only; omega⟩, by simp only; omega, (by exact zwc 1)⟩
  rw [show n - i = 0 by omega, List.range'_zero, rndL, List.append_nil] at h2
  refine fin_r (r0 := .tup [aF (o.map iRow), aI 0]) (H1 := [none]) ?_ (h2 := by simp only [go_sem, Bool.not_not, List.mem_singleton, forall_eq, ↓reduceIte, if_pos, rowsAt_map, wrap64, wrapu8, List.getElem?_cons_zero, List.getElem?_cons_succ, Int.reduceToNat, Nat.reduceAdd, Nat.reduceBEq, Bool.or_false, Bool.false_or, Bool.true_or, Nat.reduceSub, Nat.reduceMul, Int.reduceAdd, Int.reduceEq, Int.reduceLT, Int.reduceLE, Int.reduceNeg, Nat.reduceLT, Nat.reduceLeDiff, Nat.reduceEqDiff, frA, frAs, subR, Nat.le_refl, and_self]; try rfl)
  rw [hr, h2]; rfl
end Go.Eng
open Go Go.Proofs
namespace Go.Eng
set_option linter.unusedSimpArgs false
set_option linter.unusedVariables false
def Sub (s : List Bool) (u : Int → Prop) : Prop := ∀ j : Nat, gt s j = true → u j
theorem sub_rep (n : Nat) (u : Int → Prop) : Sub (List.replicate n false) u := fun j h => by
  exfalso
  have hl := gt_lt h
  rw [show gt (List.replicate n false) j = false by unfold gt; rw [List.getD_eq_getElem?_getD, List.getElem?_replicate]; split <;> rfl] at h; cases h
theorem sub_set {s : List Bool} {u : Int → Prop} (h : Sub s u) {i : Nat} (hu : u i) : Sub (s.set i true) u := fun j hj => by
  by_cases hi : i < s.length
  · rw [gt_set _ _ _ _ hi] at hj
    split at hj
    · rename_i e; subst e; exact hu
    · exact h j hj
  · rw [List.set_eq_of_length_le (by omega)] at hj; exact h j hj
theorem stepL_sub {u : Int → Prop} {n : Nat} : ∀ (l : List Lk) (s : List Bool), inL n l → s.length = n → (∀ e ∈ l, u e.src → u e.dst) → Sub s u → Sub (stepL l s) u
  | [], s, _, _, _, h => h
  | e :: l, s, hl, hs, hu, h => by
    have hb := hl e (by simp)
    rw [stepL]
    refine stepL_sub l _ (fun x hx => hl x (by simp [hx])) (by split <;> simpa using hs) (fun x hx => hu x (by simp [hx])) ?_
    split
    · rename_i hg
      refine sub_set h ?_
      have := hu e (by simp) (by have := h e.src.toNat hg; rwa [Int.toNat_of_nonneg hb.1] at this)
      rwa [Int.toNat_of_nonneg hb.2.2.1]
    · exact h
theorem iterL_sub {u : Int → Prop} {n : Nat} {l : List Lk} (hl : inL n l) (hu : ∀ e ∈ l, u e.src → u e.dst) : ∀ (k : Nat) (s : List Bool), s.length = n → Sub s u → Sub (iterL l k s) u
  | 0, s, _, h => h
  | k + 1, s, hs, h => iterL_sub hl hu k _ (by rw [stepL_len]; exact hs) (stepL_sub l s hl hs hu h)
theorem first1_sub {u : Int → Prop} {n : Nat} (i : Int) : ∀ (l : List Lk) (s : List Bool), inL n l → s.length = n → (∀ e ∈ l, e.src = i → u e.dst) → Sub s u → Sub (first1 i l s) u
  | [], s, _, _, _, h => h
  | e :: l, s, hl, hs, hu, h => by
    have hb := hl e (by simp)
    rw [first1]
    refine first1_sub i l _ (fun x hx => hl x (by simp [hx])) (by split <;> simpa using hs) (fun x hx => hu x (by simp [hx])) ?_
    split
    · rename_i hg
      refine sub_set h ?_
      have := hu e (by simp) hg
      rwa [Int.toNat_of_nonneg hb.2.2.1]
    · exact h
theorem stepL_mono : ∀ (l : List Lk) (s : List Bool) (k : Nat), gt s k = true → gt (stepL l s) k = true
  | [], s, k, h => h
  | e :: l, s, k, h => by
    rw [stepL]
    refine stepL_mono l _ k ?_
    split
    · exact gt_mono _ _ _ h
    · exact h
theorem iterL_mono (l : List Lk) : ∀ (n : Nat) (s : List Bool) (k : Nat), gt s k = true → gt (iterL l n s) k = true
  | 0, s, k, h => h
  | n + 1, s, k, h => iterL_mono l n _ k (stepL_mono l s k h)
theorem gt_ext : ∀ {s t : List Bool}, s.length = t.length → (∀ k, gt s k = true → gt t k = true) → (∀ k, gt t k = true → gt s k = true) → t = s
  | s, t, h, h1, h2 => ext_gt h.symm (fun j hj => by
      cases ht : gt t j with
      | true => exact (h2 j ht).symm
      | false =>
        cases hs : gt s j with
        | true => rw [h1 j hs] at ht; cases ht
        | false => rfl)
theorem cf_mono : ∀ {s t : List Bool}, s.length = t.length → (∀ k, gt s k = true → gt t k = true) → cf t ≤ cf s ∧ (cf t = cf s → t = s)
  | [], [], _, _ => ⟨by simp [cf], fun _ => rfl⟩
  | [], _ :: _, h, _ => by simp at h
  | _ :: _, [], h, _ => by simp at h
  | a :: s, b :: t, h, hm => by
    obtain ⟨h1, h2⟩ := cf_mono (s := s) (t := t) (by simpa using h) (fun k hk => by simpa [gt] using hm (k + 1) (by simpa [gt] using hk))
    have h0 : a = true → b = true := fun ha => by simpa [gt] using hm 0 (by simpa [gt] using ha)
    cases a <;> cases b <;> simp only [cf] at * <;> simp at * <;> first | omega | exact ⟨by omega, fun e => h2 (by omega)⟩ | exact ⟨h1, h2⟩ | skip
theorem fixed_closed {n : Nat} : ∀ {l : List Lk} {s : List Bool}, inL n l → s.length = n → stepL l s = s → ∀ e ∈ l, gb s e.src = true → gb s e.dst = true
  | [], s, _, _, _, e, h, _ => by simp at h
  | x :: l, s, hl, hs, hf, e, he, hg => by
    have hx := hl x (by simp)
    rw [stepL] at hf
    have h1 : (if gb s x.src = true then s.set x.dst.toNat true else s) = s := by
      refine gt_ext (by split <;> simp) (fun k hk => ?_) (fun k hk => ?_)
      · split
        · exact gt_mono _ _ _ hk
        · exact hk
      · rw [← hf]; exact stepL_mono l _ k hk
    rw [h1] at hf
    rcases List.mem_cons.1 he with rfl | he
    · rw [if_pos hg] at h1
      rw [← h1, gb, gt_set _ _ _ _ (by omega), if_pos rfl]
    · exact fixed_closed (fun y hy => hl y (by simp [hy])) hs hf e he hg
theorem stepL_fix (l : List Lk) {s : List Bool} (h : stepL l s = s) : ∀ k, iterL l k s = s
  | 0 => rfl
  | k + 1 => by rw [iterL, h, stepL_fix l h k]
theorem iterL_closed {n : Nat} {l : List Lk} (hl : inL n l) : ∀ (k : Nat) (s : List Bool), s.length = n → cf s ≤ k → ∀ e ∈ l, gb (iterL l k s) e.src = true → gb (iterL l k s) e.dst = true
  | 0, s, hs, hc, e, he, _ => by
    have hb := hl e he
    rw [iterL, gb]
    cases h : gt s e.dst.toNat with
    | true => rfl
    | false =>
      have := cf_set (s := s) (j := e.dst.toNat) (by omega) h
      omega
  | k + 1, s, hs, hc, e, he, hg => by
    by_cases hf : stepL l s = s
    · rw [stepL_fix l hf] at hg ⊢
      exact fixed_closed hl hs hf e he hg
    · rw [iterL] at hg ⊢
      have hm := cf_mono (s := s) (t := stepL l s) (by rw [stepL_len]) (stepL_mono l s)
      have : cf (stepL l s) ≠ cf s := fun h => hf (hm.2 h)
      exact iterL_closed hl k _ (by rw [stepL_len]; exact hs) (by omega) e he hg
theorem cf_len : ∀ s : List Bool, cf s ≤ s.length := cf_le
theorem leadsR_run {n : Nat} {l : List Lk} (hl : inL n l) {a : Int} {b : Nat} (hb : b < n) : leadsR n l a b = true ↔ run l a b := by
  have hlen : (first1 a l (List.replicate n false)).length = n := by rw [first1_len]; simp
  constructor
  · intro h u hu hs
    exact iterL_sub (u := u) hl hu n _ hlen (first1_sub a l _ hl (by simp) (fun e he hsrc => hs e he hsrc) (sub_rep n u)) b (by simpa [leadsR, gb] using h)
  · intro h
    unfold leadsR
    refine h (fun k => gb (iterL l n (first1 a l (List.replicate n false))) k = true) (fun e he hg => iterL_closed hl n _ hlen (by have := cf_le (first1 a l (List.replicate n false)); omega) e he hg) (fun e he hsrc => ?_)
    rw [gb]
    exact iterL_mono l n _ _ (first1_seed a l _ (by simpa using hl) e he hsrc)
theorem spreadN_sub {u : Int → Prop} {l : List Lk} : ∀ (k : Nat) (s : List Bool), inL s.length l → (∀ e ∈ l, u e.src → u e.dst) → Sub s u → Sub (spreadN k s l) u
  | 0, s, _, _, h => h
  | k + 1, s, hl, hu, h => by
    rw [spreadN]
    split
    · exact h
    · rename_i e hf
      have he := List.mem_of_find?_eq_some hf
      have hh := List.find?_some hf
      have hb := hl e he
      refine spreadN_sub k _ (by simpa using hl) hu (sub_set h ?_)
      have hg : gt s e.src.toNat = true := by
        unfold hot at hh
        simp only [Bool.and_eq_true] at hh
        exact hh.1
      have := hu e he (by have := h e.src.toNat hg; rwa [Int.toNat_of_nonneg hb.1] at this)
      rwa [Int.toNat_of_nonneg hb.2.2.1]
theorem ahead_run {n : Nat} {l : List Lk} (hl : inL n l) {i b : Nat} : gt (aheadF n l i) b = true ↔ run l i b := by
  have hlen : (first1 i l (List.replicate n false)).length = n := by rw [first1_len]; simp
  constructor
  · intro h u hu hs
    exact spreadN_sub (u := u) _ _ (by rw [hlen]; exact hl) hu (first1_sub i l _ hl (by simp) (fun e he hsrc => hs e he hsrc) (sub_rep n u)) b h
  · intro h
    simpa [gb] using run_ahead hl h
theorem markL_none : ∀ (s : List Bool) (i : Nat), (∀ k, gt s k = false) → markL s i = []
  | [], i, _ => rfl
  | b :: l, i, h => by
    have hb : b = false := by simpa [gt] using h 0
    rw [markL, if_neg (by simp [hb]), markL_none l (i + 1) (fun k => by simpa [gt] using h (k + 1))]
theorem rndL_none {n : Nat} {l : List Lk} : ∀ {r : List Nat}, (rndL n l r).length = 0 ↔ ∀ i ∈ r, leadsR n l i i = false
  | [] => by simp [rndL]
  | i :: r => by
    rw [rndL]
    by_cases h : leadsR n l i i = true
    · rw [if_pos h]; simp [h]
    · rw [if_neg h, rndL_none (r := r)]
      simp [Bool.eq_false_iff.2 h]
theorem round_eq {n : Nat} {l : List Lk} : ((rRoundF n l).1.length = 0 ↔ (roundF n l).1.length = 0) ∧ (rRoundF n l).2 = (roundF n l).2 := by
  unfold rRoundF roundF
  by_cases h : rkC n l = 0
  · have hl := (rkC_in h).2
    rw [Int.toNat_natCast] at hl
    rw [if_neg (by simp [h]), if_pos h, Int.toNat_natCast]
    refine ⟨?_, rfl⟩
    show (rndL n l (List.range' 0 n)).length = 0 ↔ (markL (seenF n l) 0).length = 0
    have hsl : (seenF n l).length = n := by simp [seenF]
    have hgs : ∀ i, i < n → gt (seenF n l) i = gt (aheadF n l i) i := fun i hi => by simp [seenF, gt, List.getD, hi]
    rw [rndL_none]
    constructor
    · intro h1
      rw [markL_none _ _ (fun k => ?_)]; rfl
      cases hk : gt (seenF n l) k with
      | false => rfl
      | true =>
        have hkn : k < n := by have := gt_lt hk; omega
        rw [hgs k hkn, ahead_run hl] at hk
        have := h1 k (List.mem_range'.2 ⟨k, hkn, by omega⟩)
        rw [(leadsR_run hl hkn).2 hk] at this; cases this
    · intro h1 i hi
      obtain ⟨j, hj, rfl⟩ := List.mem_range'.1 hi
      have hjn : 0 + 1 * j < n := by omega
      cases hk : leadsR n l ((0 + 1 * j : Nat) : Int) ((0 + 1 * j : Nat) : Int) with
      | false => rfl
      | true =>
        have := markL_nil _ _ h1 (0 + 1 * j)
        rw [hgs _ hjn, (ahead_run hl).2 ((leadsR_run hl hjn).1 hk)] at this; cases this
  · rw [if_pos (by simpa using h), if_neg h]
    exact ⟨Iff.rfl, rfl⟩
end Go.Eng
open Go Go.Proofs
namespace Go.Eng
set_option linter.unusedSimpArgs false
set_option linter.unusedVariables false
def toLk (f : Fl) : Lk := ⟨f.src, f.dst⟩
def bkLk (f : Fl) : Lk := ⟨f.dst, f.src⟩
def dirL (n : Gr) (back : Bool) : List Lk := if back = true then n.fs.map bkLk else n.fs.map toLk
def runR (l : List Lk) (y x : Int) : Prop := ∀ u : Int → Prop, (∀ e ∈ l, u e.src → u e.dst) → u y → u x
def reachF (n : Gr) (i : Int) : List Bool := iterL (n.fs.map toLk) n.ns.length ((List.replicate n.ns.length false).set i.toNat true)
theorem reachF_len (n : Gr) (i : Int) : (reachF n i).length = n.ns.length := by rw [reachF, iterL_len]; simp
theorem dir_in {n : Gr} (h : inG n) (back : Bool) : inL n.ns.length (dirL n back) := fun e he => by
  unfold dirL at he
  split at he <;> obtain ⟨f, hf, rfl⟩ := List.mem_map.1 he <;> have := h f hf <;> simp only [toLk, bkLk] <;> omega
theorem reach_run {n : Gr} (h : inG n) {i : Int} (h0 : 0 ≤ i ∧ i < n.ns.length) {b : Nat} : gt (reachF n i) b = true ↔ runR (dirL n false) i b := by
  have hl := dir_in h false
  have he : dirL n false = n.fs.map toLk := by simp [dirL]
  rw [he] at hl ⊢
  constructor
  · intro hg u hu hi
    exact iterL_sub (u := u) hl hu n.ns.length _ (by simp) (sub_set (sub_rep _ u) (by rwa [Int.toNat_of_nonneg h0.1])) b hg
  · intro hr
    have := hr (fun k => gb (reachF n i) k = true) (fun e he hg => iterL_closed hl n.ns.length _ (by simp) (by refine Nat.le_trans (cf_le _) ?_; simp) e he hg) (by
      rw [gb, reachF]
      exact iterL_mono _ _ _ _ (by rw [gt_set _ _ _ _ (by simp; omega), if_pos rfl]))
    simpa [gb] using this
theorem nexts_mem {n : Gr} {i x : Int} {back : Bool} : x ∈ nexts n i back ↔ ∃ e ∈ dirL n back, e.src = i ∧ e.dst = x := by
  unfold nexts dirL
  rw [List.mem_filterMap]
  constructor
  · rintro ⟨f, hf, hx⟩
    unfold nextF at hx
    split at hx <;> split at hx <;> cases hx
    · rename_i hb _; exact ⟨bkLk f, by rw [if_pos hb]; exact List.mem_map.2 ⟨f, hf, rfl⟩, ‹_›, rfl⟩
    · rename_i hb _; exact ⟨toLk f, by rw [if_neg hb]; exact List.mem_map.2 ⟨f, hf, rfl⟩, ‹_›, rfl⟩
  · rintro ⟨e, he, h1, h2⟩
    split at he <;> obtain ⟨f, hf, rfl⟩ := List.mem_map.1 he
    · rename_i hb; exact ⟨f, hf, by simp only [bkLk] at h1 h2; rw [nextF, if_pos hb, if_pos h1, h2]⟩
    · rename_i hb; exact ⟨f, hf, by simp only [toLk] at h1 h2; rw [nextF, if_neg hb, if_pos h1, h2]⟩
theorem met_sub {n : Gr} {back : Bool} {u : Int → Prop} (hi : inG n) (hu : ∀ e ∈ dirL n back, u e.src → u e.dst) : ∀ (k : Nat) (s : List Bool) (t : List Int), (∀ i ∈ t, 0 ≤ i ∧ u i) → Sub s u → Sub (metN n back k s t) u
  | 0, s, _, _, h => h
  | _ + 1, s, [], _, h => h
  | k + 1, s, i :: t, ht, h => by
    rw [metN]
    have h0 := ht i (by simp)
    split
    · exact met_sub hi hu k s t (fun j hj => ht j (by simp [hj])) h
    · refine met_sub hi hu k _ _ (fun j hj => ?_) (sub_set h (by rw [Int.toNat_of_nonneg h0.1]; exact h0.2))
      rcases List.mem_append.1 hj with hj | hj
      · exact ht j (by simp [hj])
      · obtain ⟨e, he, h1, h2⟩ := nexts_mem.1 hj
        have hb := dir_in hi back e he
        subst h2
        exact ⟨hb.2.2.1, hu e he (by rw [h1]; exact h0.2)⟩
theorem met_cl {n : Gr} {back : Bool} (hi : inG n) : ∀ (k : Nat) (s : List Bool) (t : List Int), s.length = n.ns.length → (∀ i ∈ t, 0 ≤ i ∧ i < n.ns.length) → meas n s t ≤ k → (∀ e ∈ dirL n back, gb s e.src = true → gb s e.dst = true ∨ e.dst ∈ t) →
    (∀ j, gt s j = true → gt (metN n back k s t) j = true) ∧ (∀ i ∈ t, gb (metN n back k s t) i = true) ∧ ∀ e ∈ dirL n back, gb (metN n back k s t) e.src = true → gb (metN n back k s t) e.dst = true
  | 0, s, t, hs, ht, hm, hc => by
    have : t = [] := by cases t with | nil => rfl | cons => simp [meas] at hm
    subst this
    exact ⟨fun j h => h, by simp, fun e he hg => by have := hc e he (by simpa [metN] using hg); simpa [metN] using this⟩
  | _ + 1, s, [], hs, ht, hm, hc => ⟨fun j h => h, by simp, fun e he hg => by have := hc e he (by simpa [metN] using hg); simpa [metN] using this⟩
  | k + 1, s, i :: t, hs, ht, hm, hc => by
    have h0 := ht i (by simp)
    rw [metN]
    split
    · rename_i hh
      have hg : gb s i = true := by rcases hh with hh | hh; exfalso; omega; exact hh
      have := met_cl hi k s t hs (fun j hj => ht j (by simp [hj])) (by simp only [meas, List.length_cons] at hm ⊢; omega) (fun e he hq => by
        rcases hc e he hq with h | h
        · exact .inl h
        · rcases List.mem_cons.1 h with h | h
          · exact .inl (by rw [h]; exact hg)
          · exact .inr h)
      exact ⟨this.1, fun j hj => by
        rcases List.mem_cons.1 hj with rfl | hj
        · exact this.1 _ hg
        · exact this.2.1 j hj, this.2.2⟩
    · rename_i hh
      have hst : ∀ j, gt (s.set i.toNat true) j = if i.toNat = j then true else gt s j := fun j => gt_set _ _ _ _ (by omega)
      have := met_cl hi k (s.set i.toNat true) (t ++ nexts n i back) (by simpa using hs) (fun j hj => by
        rcases List.mem_append.1 hj with hj | hj
        · exact ht j (by simp [hj])
        · obtain ⟨e, he, h1, h2⟩ := nexts_mem.1 hj
          have hb := dir_in hi back e he
          omega) (by have := meas_step (n := n) (back := back) (t := t) hh; simp only [meas, List.length_cons] at hm this ⊢; omega) (fun e he hq => by
        have hb := dir_in hi back e he
        rw [gb, hst] at hq
        by_cases hei : e.src = i
        · exact .inr (List.mem_append.2 (.inr (nexts_mem.2 ⟨e, he, hei, rfl⟩)))
        · rw [if_neg (by omega)] at hq
          rcases hc e he hq with h | h
          · exact .inl (by rw [gb, hst]; split; rfl; exact h)
          · rcases List.mem_cons.1 h with h | h
            · exact .inl (by rw [gb, hst, if_pos (by omega)])
            · exact .inr (List.mem_append.2 (.inl h)))
      have hj0 : gt (s.set i.toNat true) i.toNat = true := by rw [hst, if_pos rfl]
      exact ⟨fun j hj => this.1 j (gt_mono _ _ _ hj), fun j hj => by
        rcases List.mem_cons.1 hj with rfl | hj
        · exact this.1 _ hj0
        · exact this.2.1 j (List.mem_append.2 (.inl hj)), this.2.2⟩
theorem met_run {n : Gr} (h : inG n) {i : Int} (h0 : 0 ≤ i ∧ i < n.ns.length) {back : Bool} {b : Nat} : gt (metF n i back) b = true ↔ runR (dirL n back) i b := by
  constructor
  · intro hg u hu hi
    exact met_sub h hu _ _ _ (fun j hj => by rw [List.mem_singleton] at hj; subst hj; exact ⟨h0.1, hi⟩) (sub_rep _ u) b hg
  · intro hr
    have := met_cl (back := back) h (n.ns.length * (n.fs.length + 1) + 1) (List.replicate n.ns.length false) [i] (by simp) (by simpa using h0) (by simp [meas, cf_rep]) (fun e he hg => by
      exfalso
      have hl := gt_lt hg
      rw [gb, show gt (List.replicate n.ns.length false) e.src.toNat = false by unfold gt; rw [List.getD_eq_getElem?_getD, List.getElem?_replicate]; split <;> rfl] at hg; cases hg)
    have := hr (fun k => gb (metF n i back) k = true) this.2.2 (this.2.1 i (by simp))
    simpa [gb] using this
theorem run_back {n : Gr} {a b : Int} : runR (dirL n true) a b ↔ runR (dirL n false) b a := by
  constructor
  · intro h u hu hb
    refine Classical.byContradiction fun hn => ?_
    refine h (fun k => ¬ u k) (fun e he hs hd => ?_) hn hb
    simp only [dirL, ↓reduceIte] at he
    obtain ⟨f, hf, rfl⟩ := List.mem_map.1 he
    exact hs (hu (toLk f) (by simp only [dirL, Bool.false_eq_true, ↓reduceIte]; exact List.mem_map.2 ⟨f, hf, rfl⟩) hd)
  · intro h u hu hb
    refine Classical.byContradiction fun hn => ?_
    refine h (fun k => ¬ u k) (fun e he hs hd => ?_) hn hb
    simp only [dirL, Bool.false_eq_true, ↓reduceIte] at he
    obtain ⟨f, hf, rfl⟩ := List.mem_map.1 he
    exact hs (hu (bkLk f) (by simp only [dirL, ↓reduceIte]; exact List.mem_map.2 ⟨f, hf, rfl⟩) hd)
def firstR (r : Int) (p : Nat → Bool) (k : Int × Int) : List Nat → Int × Int
  | [] => k
  | i :: l => if p i = true then (r, i) else firstR r p k l
theorem firstR_0 {r : Int} (hr : r ≠ 0) (p : Nat → Bool) (k : Int × Int) : ∀ l : List Nat, (firstR r p k l).1 = 0 ↔ (∀ i ∈ l, p i = false) ∧ k.1 = 0
  | [] => by simp [firstR]
  | i :: l => by
    rw [firstR]
    split
    · rename_i h; constructor
      · intro h1; exact absurd h1 hr
      · rintro ⟨h1, _⟩; rw [h1 i (by simp)] at h; cases h
    · rename_i h
      rw [firstR_0 hr p k l]
      simp [h]
theorem firstR_t {r : Int} {p : Nat → Bool} {k : Int × Int} {n j : Nat} (h : j < n) (hp : p j = true) : firstR r p k (List.range' j (n - j)) = (r, (j : Int)) := by
  rw [show n - j = (n - (j + 1)) + 1 by omega, List.range'_succ, firstR, if_pos hp]
theorem firstR_f {r : Int} {p : Nat → Bool} {k : Int × Int} {n j : Nat} (h : j < n) (hp : p j = false) : firstR r p k (List.range' j (n - j)) = firstR r p k (List.range' (j + 1) (n - (j + 1))) := by
  rw [show n - j = (n - (j + 1)) + 1 by omega, List.range'_succ, firstR, if_neg (by simp [hp])]
def bad3 (n : Gr) (j : Nat) : Bool := !fitsF n j || (decide ((gt n.ns j).kind = 1) && decide ((j : Int) > startF n)) || (decide ((gt n.ns j).kind = 2) && decide ((j : Int) > endF n))
def bad4 (n : Gr) (j : Nat) : Bool := !gt (reachF n (startF n)) j || !gb (reachF n j) (endF n)
def rChk5 (n : Gr) : Int × Int := if n.ns.length > 24 ∨ n.fs.length > 40 then (1, 0) else
  firstR 1 (fun j => !rightN (gt n.ns j)) (firstR 2 (fun j => !leadsF n (gt n.fs j)) (firstR 3 (bad3 n) (if startF n < 0 ∨ endF n < 0 then (3, n.ns.length) else firstR 4 (bad4 n) (0, 0) (List.range' 0 n.ns.length)) (List.range' 0 n.ns.length)) (List.range' 0 n.fs.length)) (List.range' 0 n.ns.length)
theorem all_range {n : Nat} {p : Nat → Bool} : (∀ i ∈ List.range' 0 n, p i = false) ↔ ∀ i, i < n → p i = false := by
  constructor
  · intro h i hi; exact h i (List.mem_range'.2 ⟨i, hi, by omega⟩)
  · intro h i hi; obtain ⟨j, hj, rfl⟩ := List.mem_range'.1 hi; exact h _ (by omega)
theorem plF_0 {r : Int} {m : Nat} {p : Nat → Bool} : (plF r m p).length = 0 ↔ ∀ j, j < m → p j = false := ⟨plF_nil, fun h => by
  rw [plF, plc, List.length_map, List.length_eq_zero_iff, List.filter_eq_nil_iff]
  intro a ha
  have := all_range.2 h a ha
  simp [this]⟩
def headC (l : List Lk) : Int := match l with | [] => 0 | e :: _ => e.src
theorem headC_0 {l : List Lk} (h : ∀ e ∈ l, e.src ≠ 0) : headC l = 0 ↔ l.length = 0 := by
  cases l with
  | nil => simp [headC]
  | cons e l => simp only [headC, List.length_cons]; exact ⟨fun h1 => absurd h1 (h e (by simp)), fun h1 => by omega⟩
theorem plF_src {r : Int} {m : Nat} {p : Nat → Bool} (hr : r ≠ 0) : ∀ e ∈ plF r m p, e.src ≠ 0 := fun e he => by
  unfold plF plc at he
  obtain ⟨i, _, rfl⟩ := List.mem_map.1 he
  exact hr
theorem checkN_head (n : Gr) : (checkN n).1 = headC (allF n) := by unfold checkN headC; cases allF n <;> rfl
theorem idxF_spec {α : Type} [Inhabited α] (p : α → Bool) : ∀ (l : List α) (i : Nat), idxF p l i = -1 ∧ (∀ j, j < l.length → p (gt l j) = false) ∨ ∃ j, idxF p l i = (i + j : Nat) ∧ j < l.length ∧ p (gt l j) = true ∧ ∀ k, k < j → p (gt l k) = false
  | [], i => .inl ⟨rfl, by simp⟩
  | x :: l, i => by
    rw [idxF]
    by_cases h : p x = true
    · rw [if_pos h]; exact .inr ⟨0, rfl, by simp, by simpa [gt] using h, by simp⟩
    · rw [if_neg h]
      rcases idxF_spec p l (i + 1) with ⟨h1, h2⟩ | ⟨j, h1, h2, h3, h4⟩
      · refine .inl ⟨h1, fun j hj => ?_⟩
        cases j with
        | zero => simpa [gt] using h
        | succ j => have := h2 j (by simpa using hj); simpa [gt] using this
      · refine .inr ⟨j + 1, by rw [h1]; omega, by simpa using h2, by simpa [gt] using h3, fun k hk => ?_⟩
        cases k with
        | zero => simpa [gt] using h
        | succ k => have := h4 k (by omega); simpa [gt] using this
theorem idx_ne {n : Gr} {k : Int} {j : Nat} (hj : j < n.ns.length) (hk : (gt n.ns j).kind = k) : (j : Int) > idxF (fun d : Nd => decide (d.kind = k)) n.ns 0 ↔ (j : Int) ≠ idxF (fun d : Nd => decide (d.kind = k)) n.ns 0 := by
  rcases idxF_spec (fun d : Nd => decide (d.kind = k)) n.ns 0 with ⟨h1, h2⟩ | ⟨i, h1, h2, h3, h4⟩
  · have := h2 j hj; simp [hk] at this
  · rw [h1]
    have : i ≤ j := by
      refine Classical.byContradiction fun hn => ?_
      have := h4 j (by omega); simp [hk] at this
    omega
theorem bad3_eq (n : Gr) {j : Nat} (hj : j < n.ns.length) : bad3 n j = third1F n (startF n) (endF n) j := by
  unfold bad3 third1F startF endF
  congr 1
  · congr 1
    by_cases h : (gt n.ns j).kind = 1
    · rw [decide_eq_decide.2 (idx_ne hj h)]
    · simp [h]
  · by_cases h : (gt n.ns j).kind = 2
    · rw [decide_eq_decide.2 (idx_ne hj h)]
    · simp [h]
theorem bad4_eq {n : Gr} (h : inG n) (hs : 0 ≤ startF n ∧ startF n < n.ns.length) (he : 0 ≤ endF n ∧ endF n < n.ns.length) {j : Nat} (hj : j < n.ns.length) : bad4 n j = unmetF n j := by
  have e1 : gt (reachF n (startF n)) j = gt (metF n (startF n) false) j := by
    rw [Bool.eq_iff_iff, reach_run h hs, met_run h hs]
  have e2 : gb (reachF n j) (endF n) = gt (metF n (endF n) true) j := by
    rw [Bool.eq_iff_iff, gb, reach_run h (by omega), met_run h he, run_back, Int.toNat_of_nonneg he.1]
  rw [bad4, unmetF, e1, e2]
theorem chk5_eq (n : Gr) : (rChk5 n).1 = 0 ↔ (checkN n).1 = 0 := by
  rw [checkN_head, rChk5, allF]
  by_cases h0 : n.ns.length > 24 ∨ n.fs.length > 40
  · rw [if_pos h0, if_pos h0]; simp [headC]
  rw [if_neg h0, if_neg h0, firstR_0 (by decide), firstR_0 (by decide), firstR_0 (by decide), all_range, all_range, all_range]
  by_cases h1 : (plF 1 n.ns.length fun j => !rightN (gt n.ns j)).length > 0
  · rw [if_pos h1, headC_0 (plF_src (by decide))]
    rw [← plF_0 (r := 1)]
    constructor
    · rintro ⟨h, _⟩; omega
    · intro h; omega
  rw [if_neg h1]
  by_cases h2 : (plF 2 n.fs.length fun j => !leadsF n (gt n.fs j)).length > 0
  · rw [if_pos h2, headC_0 (plF_src (by decide))]
    rw [← plF_0 (r := 2) (m := n.fs.length)]
    constructor
    · rintro ⟨_, h, _⟩; omega
    · intro h; omega
  rw [if_neg h2]
  have hI : inG n := fun f hf => by
    obtain ⟨k, hk, rfl⟩ := List.getElem_of_mem hf
    have := plF_nil (show (plF 2 n.fs.length fun j => !leadsF n (gt n.fs j)).length = 0 by omega) k hk
    rw [show gt n.fs k = n.fs[k] by simp [gt, List.getD, hk]] at this
    simp only [Bool.not_eq_false', leadsF, Bool.and_eq_true, inR, decide_eq_true_eq] at this
    omega
  have e3 : (∀ i, i < n.ns.length → bad3 n i = false) ↔ ∀ i, i < n.ns.length → third1F n (startF n) (endF n) i = false := ⟨fun h i hi => by rw [← bad3_eq n hi]; exact h i hi, fun h i hi => by rw [bad3_eq n hi]; exact h i hi⟩
  have g1 := plF_nil (show (plF 1 n.ns.length fun j => !rightN (gt n.ns j)).length = 0 by omega)
  have g2 := plF_nil (show (plF 2 n.fs.length fun j => !leadsF n (gt n.fs j)).length = 0 by omega)
  have ht : (thirdF n).length = 0 ↔ (∀ i, i < n.ns.length → third1F n (startF n) (endF n) i = false) ∧ ¬ (startF n < 0 ∨ endF n < 0) := by
    rw [thirdF, List.length_append, ← plF_0 (r := 3)]
    split <;> simp_all
  have hts : ∀ e ∈ thirdF n, e.src ≠ 0 := fun e he => by
    rw [thirdF] at he
    rcases List.mem_append.1 he with he | he
    · exact plF_src (by decide) e he
    · split at he
      · rw [List.mem_singleton] at he; subst he; simp
      · simp at he
  by_cases h3 : (thirdF n).length > 0
  · rw [if_pos h3, headC_0 hts]
    constructor
    · rintro ⟨_, _, h, hk⟩
      by_cases hse : startF n < 0 ∨ endF n < 0
      · rw [if_pos hse] at hk; cases hk
      · exact ht.2 ⟨e3.1 h, hse⟩
    · intro h; omega
  rw [if_neg h3, headC_0 (plF_src (by decide)), plF_0]
  obtain ⟨h4, h5⟩ := ht.1 (by omega)
  rw [if_neg h5, firstR_0 (by decide), all_range]
  have hs1 := idxF_lt (fun d : Nd => decide (d.kind = 1)) n.ns 0
  have he1 := idxF_lt (fun d : Nd => decide (d.kind = 2)) n.ns 0
  have hs : 0 ≤ startF n ∧ startF n < n.ns.length := ⟨by omega, by unfold startF; omega⟩
  have he : 0 ≤ endF n ∧ endF n < n.ns.length := ⟨by omega, by unfold endF; omega⟩
  constructor
  · rintro ⟨_, _, _, h, _⟩ j hj
    rw [← bad4_eq hI hs he hj]; exact h j hj
  · intro h
    exact ⟨g1, g2, e3.2 h4, fun j hj => by rw [bad4_eq hI hs he hj]; exact h j hj, rfl⟩
end Go.Eng
open Go Go.Proofs
namespace Go.Eng
set_option linter.unusedSimpArgs false
set_option linter.unusedVariables false
set_option maxRecDepth 10000
set_option maxHeartbeats 8000000
theorem rOf5_ok (t : T) (k : Int) (hs : t.size < 4611686018427387904) : AFn env 94 [t.a, aI k] [] (aB (ofF t k)) [] := by
  refine afn_body Tryz.func94 rfl (by decide) ?_
  simp only [Tryz.ntmps94, Tryz.results94, List.length_cons, List.length_nil, List.cons_append, List.nil_append, Nat.reduceAdd, Nat.reduceSub, List.replicate]
  repeat' first
  | ((with_reducible refine awp_seqQ ?_); intro _ _)
  | ((with_reducible refine awp_region ?_); refine zS ?_)
  | ((with_reducible refine Gd_d ?_ ?_) <;> intro hb hb2 <;> first | contradiction | (exfalso; omega) | (refine zH hb2 ?_; try clear hb2))
  | ((with_reducible refine CallK_id ?_); refine zcF ?_; refine ⟨_, by first | exact rCheckT_ok t hs | fail, fun _ => rfl, fun _ => rfl, rfl, ?_⟩; try refine zS ?_)
  | ((with_reducible refine awp_ret ?_); refine q_step (by assumption) ?_)
  | with_reducible refine fin_r ?_
  | ((with_reducible refine q_step (by assumption) ?_); try refine zS ?_)
  all_goals simp [go_sem, ofF, *]
theorem rNone5_ok (t : T) : AFn env 95 [t.a] [] (aB (noneF t)) [] := by
  refine afn_body Tryz.func95 rfl (by decide) ?_
  simp only [Tryz.ntmps95, Tryz.results95, List.length_cons, List.length_nil, List.cons_append, List.nil_append, Nat.reduceAdd, Nat.reduceSub, List.replicate]
  repeat' first
  | ((with_reducible refine awp_seqQ ?_); intro _ _)
  | ((with_reducible refine awp_region ?_); refine zS ?_)
  | ((with_reducible refine Gd_d ?_ ?_) <;> intro hb hb2 <;> first | contradiction | (exfalso; omega) | (refine zH hb2 ?_; try clear hb2))
  | ((with_reducible refine awp_ret ?_); refine q_step (by assumption) ?_)
  | with_reducible refine fin_r ?_
  | ((with_reducible refine q_step (by assumption) ?_); try refine zS ?_)
  all_goals simp [go_sem, noneF, *]
  all_goals omega
theorem rOne_ok (d : Nd) (hs : d.t.size < 4611686018427387904) : AFn env 76 [d.a] [] (aB (rightN d)) [] := by
  refine afn_body Tryz.func76 rfl (by decide) ?_
  simp only [Tryz.ntmps76, Tryz.results76, List.length_cons, List.length_nil, List.cons_append, List.nil_append, Nat.reduceAdd, Nat.reduceSub, List.replicate]
  repeat' first
  | ((with_reducible refine awp_seqQ ?_); intro _ _)
  | ((with_reducible refine awp_region ?_); refine zS ?_)
  | ((with_reducible refine Gd_nd ?_ ?_) <;> intro hb hb2 <;> first | contradiction | (exfalso; omega) | (refine zH hb2 ?_; try clear hb2))
  | ((with_reducible refine Gd_d ?_ ?_) <;> intro hb hb2 <;> first | contradiction | (exfalso; omega) | (refine zH hb2 ?_; try clear hb2))
  | ((with_reducible refine AWP_c ?_); refine zcdT ?_)
  | ((with_reducible refine AWP_c ?_); refine zcdD ?_ ?_ <;> intro hb hb2 <;> first | contradiction | (exfalso; omega) | ((try refine zH hb2 ?_); try clear hb2))
  | ((with_reducible refine awp_skip ?_); try refine zS ?_)
  | ((with_reducible refine CallK_id ?_); refine zcF ?_; refine ⟨_, by first | exact rOf5_ok d.t 1 hs | exact rNone5_ok d.t | fail, fun _ => rfl, fun _ => rfl, rfl, ?_⟩; try refine zS ?_)
  | ((with_reducible refine awp_ret ?_); refine q_step (by assumption) ?_)
  | with_reducible refine fin_r ?_
  | ((with_reducible refine q_step (by assumption) ?_); try refine zS ?_)
  all_goals first | (rw [rightN]; simp [go_sem, mostF, noneF, *]; done) | (rw [rightN]; simp [go_sem, mostF, noneF, *]; omega) | (rw [show rightN d = false by (rw [rightN]; simp only [Bool.and_eq_false_iff, Bool.or_eq_false_iff, decide_eq_false_iff_not]; omega)]) | (rw [rightN]; simp [go_sem, mostF, noneF]; omega) | trace_state
theorem rFirst_ok (n : Gr) (k : Int) (hl : n.ns.length < 4611686018427387904) : AFn env 78 [n.a, aI k] [] (aI (idxF (fun d : Nd => decide (d.kind = k)) n.ns 0)) [] := by
  refine afn_body Tryz.func78 rfl (by decide) ?_
  simp only [Tryz.ntmps78, Tryz.results78, List.length_cons, List.length_nil, List.cons_append, List.nil_append, Nat.reduceAdd, Nat.reduceSub, List.replicate]
  repeat' first
  | ((with_reducible refine awp_seqQ ?_); intro _ _)
  | ((with_reducible refine awp_region ?_); refine zS ?_)
  | with_reducible refine awp_block ?_
  refine awp_loopT (fun i : Nat => i ≤ n.ns.length ∧ idxF (fun d : Nd => decide (d.kind = k)) n.ns 0 = idxF (fun d : Nd => decide (d.kind = k)) (n.ns.drop i) i) (fun i => n.ns.length - i) (fun i => [(10, aI i)]) (fun _ => [some (.box n.bs)]) 0 ⟨by omega, rfl⟩ (by exact zwl) ?_
  rintro i ⟨h1, h2⟩
  refine zT ?_
  repeat' first
  | ((with_reducible refine awp_seqQ ?_); intro _ _)
  | ((with_reducible refine awp_region ?_); refine zS ?_)
  | ((with_reducible refine AWP_c ?_); refine zcdD ?_ ?_ <;> intro hb hb2 <;> first | contradiction | (exfalso; omega) | ((try refine zH hb2 ?_); try clear hb2))
  | ((with_reducible refine awp_skip ?_); try refine zS ?_)
  | with_reducible refine awp_block ?_
  | ((with_reducible refine awp_exit ?_); try refine zS ?_)
  | ((with_reducible refine awp_ret ?_); refine q_step (by assumption) ?_)
  | with_reducible refine fin_r ?_
  | ((with_reducible refine q_step (by assumption) ?_); try refine zS ?_)
  · rw [h2, drop_gt (by omega), idxF, if_pos (by simp [*])]
  · exact ⟨i + 1, ⟨by omega, by rw [h2, drop_gt (by omega), idxF, if_neg (by simp [*])]⟩, by omega, (by exact zwc 1)⟩
  · rw [h2, List.drop_eq_nil_of_le (by omega), idxF]
theorem rOuts_ok (n : Gr) (i : Int) (hl : n.fs.length < 1000000000000) : AFn env 96 [n.a, aI i] [] (aF ((outsF n i).map iRow)) [] := by
  refine afn_body Tryz.func96 rfl (by decide) ?_
  simp only [Tryz.ntmps96, Tryz.results96, List.length_cons, List.length_nil, List.cons_append, List.nil_append, Nat.reduceAdd, Nat.reduceSub, List.replicate]
  iterate 2 (refine awp_seq ?_; refine awp_region ?_; refine zS ?_)
  refine awp_wk (wk_virt none (i := 5) (s := 1) (by decide) rfl) ?_
  refine zT ?_
  repeat' first
  | ((with_reducible refine awp_seqQ ?_); intro _ _)
  | ((with_reducible refine awp_region ?_); refine zS ?_)
  | with_reducible refine awp_block ?_
  refine awp_loopT (fun z : Nat × List Int => z.1 ≤ n.fs.length ∧ z.2 ++ idxs (fun f => decide (f.src = i)) (n.fs.drop z.1) z.1 = outsF n i ∧ z.2.length ≤ z.1) (fun z => n.fs.length - z.1) (fun z => [(5, OwnK 1 z.2.length), (11, aI z.1)]) (fun z => [some (.box n.bs), RwG z.2]) (0, []) ⟨by simp, by simp [outsF], by simp⟩ (by exact zwl) ?_
  rintro ⟨j, o⟩ ⟨h1, h2, h3⟩
  simp only at h1 h2 h3
  refine zT ?_
  repeat' first
  | ((with_reducible refine awp_seqQ ?_); intro _ _)
  | ((with_reducible refine awp_region ?_); refine zS ?_)
  | ((with_reducible refine AWP_c ?_); refine zcdD ?_ ?_ <;> intro hb hb2 <;> first | contradiction | (exfalso; omega) | ((try refine zH hb2 ?_); try clear hb2))
  | ((with_reducible refine awp_skip ?_); try refine zS ?_)
  | with_reducible refine awp_block ?_
  | ((with_reducible refine awp_exit ?_); try refine zS ?_)
  | ((with_reducible refine awp_ret ?_); refine q_step (by assumption) ?_)
  | ((with_reducible refine q_step (by assumption) ?_); try refine zS ?_)
  · exact ⟨(j + 1, o ++ [(j : Int)]), ⟨by simp only; omega, by rw [← h2, drop_gt (l := n.fs) (i := j) (by omega), idxs, if_pos (by simp [*])]; simp, by simp; omega⟩, by simp only; omega, wk_cl 2 (by decide) (by simp) (by simp only [go_sem, Bool.not_not, List.mem_singleton, forall_eq, ↓reduceIte, if_pos, rowsAt_map, wrap64, wrapu8, List.getElem?_cons_zero, List.getElem?_cons_succ, Int.reduceToNat, Nat.reduceAdd, Nat.reduceBEq, Bool.or_false, Bool.false_or, Bool.true_or, Nat.reduceSub, Nat.reduceMul, Int.reduceAdd, Int.reduceEq, Int.reduceLT, Int.reduceLE, Int.reduceNeg, Nat.reduceLT, Nat.reduceLeDiff, Nat.reduceEqDiff]; try simp) (by simp only [go_sem, Bool.not_not, List.mem_singleton, forall_eq, ↓reduceIte, if_pos, rowsAt_map, wrap64, wrapu8, List.getElem?_cons_zero, List.getElem?_cons_succ, Int.reduceToNat, Nat.reduceAdd, Nat.reduceBEq, Bool.or_false, Bool.false_or, Bool.true_or, Nat.reduceSub, Nat.reduceMul, Int.reduceAdd, Int.reduceEq, Int.reduceLT, Int.reduceLE, Int.reduceNeg, Nat.reduceLT, Nat.reduceLeDiff, Nat.reduceEqDiff, List.map_append]; try simp [go_sem])⟩
  · exact ⟨(j + 1, o), ⟨by simp only; omega, by rw [← h2, drop_gt (l := n.fs) (i := j) (by omega), idxs, if_neg (by simp [*])], by simp only; omega⟩, by simp only; omega, (by exact zwc 2)⟩
  refine fin_r ?_
  rw [List.drop_eq_nil_of_le (by omega), idxs, List.append_nil] at h2
  rw [h2]
theorem rIns_ok (n : Gr) (i : Int) (hl : n.fs.length < 1000000000000) : AFn env 97 [n.a, aI i] [] (aF ((insF n i).map iRow)) [] := by
  refine afn_body Tryz.func97 rfl (by decide) ?_
  simp only [Tryz.ntmps97, Tryz.results97, List.length_cons, List.length_nil, List.cons_append, List.nil_append, Nat.reduceAdd, Nat.reduceSub, List.replicate]
  iterate 2 (refine awp_seq ?_; refine awp_region ?_; refine zS ?_)
  refine awp_wk (wk_virt none (i := 5) (s := 1) (by decide) rfl) ?_
  refine zT ?_
  repeat' first
  | ((with_reducible refine awp_seqQ ?_); intro _ _)
  | ((with_reducible refine awp_region ?_); refine zS ?_)
  | with_reducible refine awp_block ?_
  refine awp_loopT (fun z : Nat × List Int => z.1 ≤ n.fs.length ∧ z.2 ++ idxs (fun f => decide (f.dst = i)) (n.fs.drop z.1) z.1 = insF n i ∧ z.2.length ≤ z.1) (fun z => n.fs.length - z.1) (fun z => [(5, OwnK 1 z.2.length), (11, aI z.1)]) (fun z => [some (.box n.bs), RwG z.2]) (0, []) ⟨by simp, by simp [insF], by simp⟩ (by exact zwl) ?_
  rintro ⟨j, o⟩ ⟨h1, h2, h3⟩
  simp only at h1 h2 h3
  refine zT ?_
  repeat' first
  | ((with_reducible refine awp_seqQ ?_); intro _ _)
  | ((with_reducible refine awp_region ?_); refine zS ?_)
  | ((with_reducible refine AWP_c ?_); refine zcdD ?_ ?_ <;> intro hb hb2 <;> first | contradiction | (exfalso; omega) | ((try refine zH hb2 ?_); try clear hb2))
  | ((with_reducible refine awp_skip ?_); try refine zS ?_)
  | with_reducible refine awp_block ?_
  | ((with_reducible refine awp_exit ?_); try refine zS ?_)
  | ((with_reducible refine awp_ret ?_); refine q_step (by assumption) ?_)
  | ((with_reducible refine q_step (by assumption) ?_); try refine zS ?_)
  · exact ⟨(j + 1, o ++ [(j : Int)]), ⟨by simp only; omega, by rw [← h2, drop_gt (l := n.fs) (i := j) (by omega), idxs, if_pos (by simp [*])]; simp, by simp; omega⟩, by simp only; omega, wk_cl 2 (by decide) (by simp) (by simp only [go_sem, Bool.not_not, List.mem_singleton, forall_eq, ↓reduceIte, if_pos, rowsAt_map, wrap64, wrapu8, List.getElem?_cons_zero, List.getElem?_cons_succ, Int.reduceToNat, Nat.reduceAdd, Nat.reduceBEq, Bool.or_false, Bool.false_or, Bool.true_or, Nat.reduceSub, Nat.reduceMul, Int.reduceAdd, Int.reduceEq, Int.reduceLT, Int.reduceLE, Int.reduceNeg, Nat.reduceLT, Nat.reduceLeDiff, Nat.reduceEqDiff]; try simp) (by simp only [go_sem, Bool.not_not, List.mem_singleton, forall_eq, ↓reduceIte, if_pos, rowsAt_map, wrap64, wrapu8, List.getElem?_cons_zero, List.getElem?_cons_succ, Int.reduceToNat, Nat.reduceAdd, Nat.reduceBEq, Bool.or_false, Bool.false_or, Bool.true_or, Nat.reduceSub, Nat.reduceMul, Int.reduceAdd, Int.reduceEq, Int.reduceLT, Int.reduceLE, Int.reduceNeg, Nat.reduceLT, Nat.reduceLeDiff, Nat.reduceEqDiff, List.map_append]; try simp [go_sem])⟩
  · exact ⟨(j + 1, o), ⟨by simp only; omega, by rw [← h2, drop_gt (l := n.fs) (i := j) (by omega), idxs, if_neg (by simp [*])], by simp only; omega⟩, by simp only; omega, (by exact zwc 2)⟩
  refine fin_r ?_
  rw [List.drop_eq_nil_of_le (by omega), idxs, List.append_nil] at h2
  rw [h2]
theorem rTwo_ok (n : Gr) (f : Fl) (hs : f.t.size < 4611686018427387904) (hn : n.ns.length < 1000000000000) (hf : n.fs.length < 1000000000000) : AFn env 77 [n.a, f.a] [] (aB (leadsF n f)) [] := by
  have hol : (outsF n f.src).length ≤ n.fs.length := idxs_len _ n.fs 0
  refine afn_body Tryz.func77 rfl (by decide) ?_
  simp only [Tryz.ntmps77, Tryz.results77, List.length_cons, List.length_nil, List.cons_append, List.nil_append, Nat.reduceAdd, Nat.reduceSub, List.replicate]
  repeat' first
  | ((with_reducible refine awp_seqQ ?_); intro _ _)
  | ((with_reducible refine awp_region ?_); refine zS ?_)
  | ((with_reducible refine Gd_nd ?_ ?_) <;> intro hb hb2 <;> first | contradiction | (exfalso; omega) | (refine zH hb2 ?_; try clear hb2))
  | ((with_reducible refine Gd_d ?_ ?_) <;> intro hb hb2 <;> first | contradiction | (exfalso; omega) | (refine zH hb2 ?_; try clear hb2))
  | ((with_reducible refine Gd_b ?_ ?_) <;> intro hb <;> first | contradiction | refine zH hb ?_)
  | ((with_reducible refine AWP_c ?_); refine zcdT ?_)
  | ((with_reducible refine AWP_c ?_); refine zcdF ?_)
  | ((with_reducible refine AWP_c ?_); refine zcdD ?_ ?_ <;> intro hb hb2 <;> first | contradiction | (exfalso; omega) | ((try refine zH hb2 ?_); try clear hb2))
  | ((with_reducible refine AWP_c ?_); refine zcdM ?_ ?_ <;> intro hb <;> first | contradiction | (try refine zH hb ?_))
  | ((with_reducible refine awp_skip ?_); try refine zS ?_)
  | ((with_reducible refine CallK_id ?_); refine zcF ?_; refine ⟨_, by first | exact rOf5_ok f.t 2 hs | exact rNone5_ok f.t | exact rOuts_ok n f.src hf | fail, fun _ => rfl, fun _ => rfl, rfl, ?_⟩; try refine zS ?_)
  | ((with_reducible refine awp_ret ?_); refine q_step (by assumption) ?_)
  | with_reducible refine fin_r ?_
  | ((with_reducible refine q_step (by assumption) ?_); try refine zS ?_)
  all_goals first | (simp [go_sem, leadsF, inR, *]; done) | (simp [go_sem, leadsF, inR, *]; omega) | (rw [leadsF, show inR n.ns.length f.src = true by (simp [inR]; omega), show inR n.ns.length f.dst = true by (simp [inR]; omega), decide_eq_true (p := f.src ≠ f.dst) (by omega), if_neg (by omega)]; simp [go_sem, *]; done) | (rw [leadsF, show inR n.ns.length f.src = true by (simp [inR]; omega), show inR n.ns.length f.dst = true by (simp [inR]; omega), decide_eq_true (p := f.src ≠ f.dst) (by omega), if_pos (by omega)]; simp [go_sem, *]; done) | trace_state
end Go.Eng
