/- Each function of the program, walked over plain data: what it comes to, at all arguments. -/
import Derived.Test.YthodghlpcklaeaaGreatDoorMe
import Derived.Test.YthodghlpcklaeaaGreatDoorMd
import Derived.Test.YthodghlpcklaeaaGreatDoorMb
open Go Go.Proofs
namespace Go.Eng
set_option linter.unusedSimpArgs false
set_option linter.unusedVariables false
set_option maxRecDepth 10000
set_option maxHeartbeats 8000000
def othF (n : Gr) : List Int → Int
  | [] => 0
  | o :: l => (if (gt n.ns (gt n.fs o.toNat).dst.toNat).kind ≠ 8 then 1 else 0) + othF n l
theorem othF_le (n : Gr) : ∀ l : List Int, 0 ≤ othF n l ∧ othF n l ≤ l.length
  | [] => by simp [othF]
  | o :: l => by have := othF_le n l; rw [othF]; simp only [List.length_cons]; split <;> omega
theorem oth_tim (n : Gr) : ∀ l : List Int, timF n l = decide (othF n l = 0)
  | [] => rfl
  | o :: l => by
    have h0 := othF_le n l
    rw [othF, show timF n (o :: l) = (decide ((gt n.ns (gt n.fs o.toNat).dst.toNat).kind = 8) && timF n l) from rfl, oth_tim n l]
    by_cases h : (gt n.ns (gt n.fs o.toNat).dst.toNat).kind = 8
    · simp [h]
    · simp [h]; omega
theorem oth_drop {n : Gr} {os : List Int} {j : Nat} (h : j < os.length) : othF n (os.drop j) = (if (gt n.ns (gt n.fs (gt os j).toNat).dst.toNat).kind ≠ 8 then 1 else 0) + othF n (os.drop (j + 1)) := by
  rw [drop_gt h, othF]
theorem rThree_ok (n : Gr) (i : Int) (hl : n.fs.length < 1000000000000) (hi0 : 0 ≤ i) (hi1 : i < n.ns.length) (hd : ∀ f ∈ n.fs, 0 ≤ f.dst ∧ f.dst < n.ns.length) : AFn env 79 [n.a, aI i] [] (aB (fitsF n i)) [] := by
  have hol : (outsF n i).length ≤ n.fs.length := idxs_len (fun f => decide (f.src = i)) n.fs 0
  have hil : (insF n i).length ≤ n.fs.length := idxs_len (fun f => decide (f.dst = i)) n.fs 0
  have hom : ∀ k ∈ outsF n i, 0 ≤ k ∧ k < n.fs.length := fun k hk => by have := idxs_mem hk; omega
  refine afn_body Tryz.func79 rfl (by decide) ?_
  simp only [Tryz.ntmps79, Tryz.results79, List.length_cons, List.length_nil, List.cons_append, List.nil_append, Nat.reduceAdd, Nat.reduceSub, List.replicate]
  repeat' first
  | ((with_reducible refine awp_seqQ ?_); intro _ _)
  | ((with_reducible refine awp_region ?_); refine zS ?_)
  | with_reducible refine awp_block ?_
  | ((with_reducible refine CallK_id ?_); refine zcF ?_; refine ⟨_, by first | exact rOuts_ok n i (by omega) | exact rIns_ok n i (by omega) | fail, fun _ => rfl, fun _ => rfl, rfl, ?_⟩; try refine zS ?_)
  refine awp_loopT (fun z : Nat × Int × Int => z.1 ≤ (outsF n i).length ∧ z.2.1 + elsF n ((outsF n i).drop z.1) = elsF n (outsF n i) ∧ z.2.2 + othF n ((outsF n i).drop z.1) = othF n (outsF n i) ∧ (0 ≤ z.2.1 ∧ z.2.1 ≤ z.1) ∧ 0 ≤ z.2.2 ∧ z.2.2 ≤ z.1) (fun z => (outsF n i).length - z.1) (fun z => [(8, aI z.2.1), (9, aI z.2.2), (23, aI z.1)]) (fun z => [some (.box n.bs)]) (0, 0, 0) ⟨by simp, by simp, by simp, by simp, by simp⟩ (by exact zwl) ?_
  rintro ⟨j, c, t⟩ ⟨h1, h2, h3, h4, h5⟩
  simp only at h1 h2 h3 h4 h5
  have hR : j < (outsF n i).length → 0 ≤ gt (outsF n i) j ∧ gt (outsF n i) j < n.fs.length := fun h => hom _ (gt_mem h)
  have hD : j < (outsF n i).length → 0 ≤ (gt n.fs (gt (outsF n i) j).toNat).dst ∧ (gt n.fs (gt (outsF n i) j).toNat).dst < n.ns.length := fun h => hd _ (gt_mem (by have := hR h; omega))
  have hE := elsF_le n (outsF n i)
  have hT0 := othF_le n (outsF n i)
  refine zT ?_
  repeat' first
  | ((with_reducible refine awp_seqQ ?_); intro _ _)
  | ((with_reducible refine awp_region ?_); refine zS ?_)
  | ((with_reducible refine Gd_nd ?_ ?_) <;> intro hb hb2 <;> first | contradiction | (exfalso; omega) | (refine zH hb2 ?_; try clear hb2))
  | ((with_reducible refine Gd_d ?_ ?_) <;> intro hb hb2 <;> first | contradiction | (exfalso; omega) | (refine zH hb2 ?_; try clear hb2))
  | ((with_reducible refine awp_drawnC ?_ ?_); rfl; refine zS ?_)
  | ((with_reducible refine AWP_c ?_); refine zcdN ?_ ?_ <;> intro hb hb2 <;> first | contradiction | (exfalso; omega) | ((try refine zH hb2 ?_); try clear hb2))
  | ((with_reducible refine AWP_c ?_); refine zcdD ?_ ?_ <;> intro hb hb2 <;> first | contradiction | (exfalso; omega) | ((try refine zH hb2 ?_); try clear hb2))
  | ((with_reducible refine AWP_c ?_); refine zcdB ?_ ?_ <;> intro hb <;> first | contradiction | (try refine zH hb ?_))
  | ((with_reducible refine awp_skip ?_); try refine zS ?_)
  | with_reducible refine awp_block ?_
  | ((with_reducible refine awp_exit ?_); try refine zS ?_)
  | ((with_reducible refine awp_ret ?_); refine q_step (by assumption) ?_)
  | with_reducible refine fin_r ?_
  | ((with_reducible refine q_step (by assumption) ?_); try refine zS ?_)
  all_goals try (
    have hT1 := oth_drop (n := n) (os := outsF n i) (j := j) (by omega)
    have hE1 := els_drop (n := n) (os := outsF n i) (j := j) (by omega)
    simp only [*, ↓reduceIte, Bool.false_eq_true, ne_eq, not_true_eq_false, not_false_eq_true] at hE1 hT1
    first
    | (rename (gt n.fs (gt (outsF n i) j).toNat).els = true => q2; rename ¬ (gt n.ns (gt n.fs (gt (outsF n i) j).toNat).dst.toNat).kind = 8 => q1; exact ⟨(j + 1, c + 1, t + 1), ⟨by simp only; omega, by simp only; omega, by simp only; omega, by simp only; omega, by simp only; omega⟩, by simp only; omega, (by exact zwc 1)⟩)
    | (rename (gt n.fs (gt (outsF n i) j).toNat).els = true => q2; exact ⟨(j + 1, c + 1, t), ⟨by simp only; omega, by simp only; omega, by simp only; omega, by simp only; omega, by simp only; omega⟩, by simp only; omega, (by exact zwc 1)⟩)
    | (rename (gt n.fs (gt (outsF n i) j).toNat).els = false => q2; rename ¬ (gt n.ns (gt n.fs (gt (outsF n i) j).toNat).dst.toNat).kind = 8 => q1; exact ⟨(j + 1, c, t + 1), ⟨by simp only; omega, by simp only; omega, by simp only; omega, by simp only; omega, by simp only; omega⟩, by simp only; omega, (by exact zwc 1)⟩)
    | (rename (gt n.fs (gt (outsF n i) j).toNat).els = false => q2; exact ⟨(j + 1, c, t), ⟨by simp only; omega, by simp only; omega, by simp only; omega, by simp only; omega, by simp only; omega⟩, by simp only; omega, (by exact zwc 1)⟩)
    | skip)
  all_goals
    have hj : j = (outsF n i).length := by omega
    rw [List.drop_eq_nil_of_le (by omega), elsF] at h2
    rw [List.drop_eq_nil_of_le (by omega), othF] at h3
    have h2 : c = elsF n (outsF n i) := by omega
    have h3 : t = othF n (outsF n i) := by omega
    have hot := oth_tim n (outsF n i)
    rw [← h3] at hot
    subst h2
    clear hE hR hD hom hd h1 h4 h5 hi0 hi1 hT0 h3
    unfold fitsF
    rw [hot]
    simp only
    clear hot
    generalize (insF n i).length = m at *
    generalize (outsF n i).length = o at *
    generalize (gt n.ns i.toNat).kind = k at *
    generalize elsF n (outsF n i) = e at *
  all_goals first
    | (simp [go_sem, *]; done)
    | (simp [go_sem, *]; omega)
    | trace_state
theorem stepM_t {l : List Fl} {j : Nat} {s : List Bool} (h : j < l.length) (he : gt s (gt l j).src.toNat = true) : stepL ((l.drop j).map toLk) s = stepL ((l.drop (j + 1)).map toLk) (s.set (gt l j).dst.toNat true) := by rw [drop_gt (l := l) h, List.map_cons, stepL, if_pos (by simpa [gb, toLk] using he)]; rfl
theorem stepM_f {l : List Fl} {j : Nat} {s : List Bool} (h : j < l.length) (he : gt s (gt l j).src.toNat = false) : stepL ((l.drop j).map toLk) s = stepL ((l.drop (j + 1)).map toLk) s := by rw [drop_gt (l := l) h, List.map_cons, stepL, if_neg (by simp [gb, he, toLk])]
theorem rReach_ok (n : Gr) (i : Int) (hn : n.ns.length < 1000000000000) (hf : n.fs.length < 1000000000000) (hi : inG n) (h0 : 0 ≤ i ∧ i < n.ns.length) : AFn env 80 [n.a, aI i] [] (aF ((reachF n i).map bRow)) [] := by
  have hlr : (List.replicate n.ns.length false).length = n.ns.length := by simp
  refine afn_body Tryz.func80 rfl (by decide) ?_
  simp only [Tryz.ntmps80, Tryz.results80, List.length_cons, List.length_nil, List.cons_append, List.nil_append, Nat.reduceAdd, Nat.reduceSub, List.replicate]
  repeat' first
  | ((with_reducible refine awp_seqQ ?_); intro _ _)
  | ((with_reducible refine awp_region ?_); refine zS ?_)
  | with_reducible refine awp_block ?_
  let s0 : List Bool := (List.replicate n.ns.length false).set i.toNat true
  let L : List Lk := n.fs.map toLk
  have hs0 : s0.length = n.ns.length := by simp [s0]
  refine awp_loopT (fun z : Nat × List Bool => z.1 ≤ n.ns.length ∧ z.2.length = n.ns.length ∧ iterL (n.fs.map toLk) n.ns.length s0 = iterL (n.fs.map toLk) (n.ns.length - z.1) z.2) (fun z => n.ns.length - z.1) (fun z => [(18, aI z.1)]) (fun z => [some (.box n.bs), RwO z.2]) (0, s0) ⟨by simp, hs0, rfl⟩ (wk_le (by simp only [go_sem, Bool.not_not, List.mem_singleton, forall_eq, ↓reduceIte, if_pos, rowsAt_map, wrap64, wrapu8, List.getElem?_cons_zero, List.getElem?_cons_succ, Int.reduceToNat, Nat.reduceAdd, Nat.reduceBEq, Bool.or_false, Bool.false_or, Bool.true_or, Nat.reduceSub, Nat.reduceMul, Int.reduceAdd, Int.reduceEq, Int.reduceLT, Int.reduceLE, Int.reduceNeg, Nat.reduceLT, Nat.reduceLeDiff, Nat.reduceEqDiff]; try simp) (by simp only [go_sem, Bool.not_not, List.mem_singleton, forall_eq, ↓reduceIte, if_pos, rowsAt_map, wrap64, wrapu8, List.getElem?_cons_zero, List.getElem?_cons_succ, Int.reduceToNat, Nat.reduceAdd, Nat.reduceBEq, Bool.or_false, Bool.false_or, Bool.true_or, Nat.reduceSub, Nat.reduceMul, Int.reduceAdd, Int.reduceEq, Int.reduceLT, Int.reduceLE, Int.reduceNeg, Nat.reduceLT, Nat.reduceLeDiff, Nat.reduceEqDiff]; try (simp [s0, List.map_set]))) ?_
  rintro ⟨k, s⟩ ⟨h1, h2, h3⟩
  simp only at h1 h2 h3
  refine zT ?_
  repeat' first
  | ((with_reducible refine awp_seqQ ?_); intro _ _)
  | ((with_reducible refine awp_region ?_); refine zS ?_)
  | ((with_reducible refine AWP_c ?_); refine zcdD ?_ ?_ <;> intro hb hb2 <;> first | contradiction | (exfalso; omega) | ((try refine zH hb2 ?_); try clear hb2))
  | ((with_reducible refine awp_skip ?_); try refine zS ?_)
  | with_reducible refine awp_block ?_
  | ((with_reducible refine awp_exit ?_); try refine zS ?_)
  | ((with_reducible refine awp_ret ?_); refine q_step (by assumption) ?_)
  | ((with_reducible refine q_step (by assumption) ?_); try refine zS ?_)
  rotate_left
  · simp only [← h2]
    refine fin_r ?_
    rw [reachF, show iterL (n.fs.map toLk) n.ns.length ((List.replicate n.ns.length false).set i.toNat true) = s by rw [show (List.replicate n.ns.length false).set i.toNat true = s0 from rfl, h3, show n.ns.length - k = 0 by omega, iterL]]
  refine awp_loopT (fun z : Nat × List Bool => z.1 ≤ n.fs.length ∧ z.2.length = n.ns.length ∧ stepL (n.fs.map toLk) s = stepL ((n.fs.drop z.1).map toLk) z.2) (fun z => n.fs.length - z.1) (fun z => [(23, aI z.1)]) (fun z => [some (.box n.bs), RwO z.2]) (0, s) ⟨by simp, h2, rfl⟩ (by exact zwl) ?_
  rintro ⟨j, t⟩ ⟨g1, g2, g3⟩
  simp only at g1 g2 g3
  have hR : j < n.fs.length → 0 ≤ (gt n.fs j).src ∧ (gt n.fs j).src < n.ns.length ∧ 0 ≤ (gt n.fs j).dst ∧ (gt n.fs j).dst < n.ns.length := fun h => hi _ (gt_mem h)
  have hgL : j < n.fs.length → gt (n.fs.map toLk) j = toLk (gt n.fs j) := fun h => by simp [gt, List.getD, h]
  refine zT ?_
  repeat' first
  | ((with_reducible refine awp_seqQ ?_); intro _ _)
  | ((with_reducible refine awp_region ?_); refine zS ?_)
  | ((with_reducible refine AWP_c ?_); refine zcdD ?_ ?_ <;> intro hb hb2 <;> first | contradiction | (exfalso; omega) | ((try refine zH hb2 ?_); try clear hb2))
  | ((with_reducible refine AWP_c ?_); refine zcdB ?_ ?_ <;> intro hb <;> first | contradiction | (try refine zH hb ?_))
  | ((with_reducible refine awp_skip ?_); try refine zS ?_)
  | with_reducible refine awp_block ?_
  | ((with_reducible refine awp_exit ?_); try refine zS ?_)
  | ((with_reducible refine q_step (by assumption) ?_); try refine zS ?_)
  · exact ⟨(j + 1, t.set (gt n.fs j).dst.toNat true), ⟨by simp only; omega, by simpa using g2, by rw [g3, stepM_t (by omega) ‹_›]⟩, by simp only; omega, (by exact zwc 2)⟩
  · exact ⟨(j + 1, t), ⟨by simp only; omega, g2, by rw [g3, stepM_f (by omega) ‹_›]⟩, by simp only; omega, (by exact zwc 2)⟩
  have hs2 : stepL (n.fs.map toLk) s = t := by rw [g3, List.drop_eq_nil_of_le (by omega), List.map_nil, stepL]
  exact ⟨(k + 1, t), ⟨by simp only; omega, g2, by rw [h3, show n.ns.length - k = (n.ns.length - (k + 1)) + 1 by omega, iterL, hs2]⟩, by simp only; omega, (by exact zwc 2)⟩
end Go.Eng
open Go Go.Proofs
namespace Go.Eng
set_option linter.unusedSimpArgs false
set_option linter.unusedVariables false
set_option maxRecDepth 10000
set_option maxHeartbeats 8000000
def brA (p : Int × Int) : A := .agg [.d (dI p.1), .d (dI p.2)]
attribute [go_sem] brA
def zBr : Option Blk := some (.box [.d (dI 0), .d (dI 0)])
attribute [go_sem] zBr
theorem rCheck5_ok (n : Gr) (hg : Gr0 n) : AFn env 59 [n.a] [] (brA (rChk5 n)) [] := by
  have hn := hg.hn
  have hf := hg.hf
  have hns : ∀ j, j < n.ns.length → (gt n.ns j).t.size < 4611686018427387904 := fun j h => hg.ns _ (gt_mem h)
  have hfs : ∀ j, j < n.fs.length → (gt n.fs j).t.size < 4611686018427387904 := fun j h => hg.fs _ (gt_mem h)
  have hs1 := idxF_lt (fun d : Nd => decide (d.kind = 1)) n.ns 0
  have he1 := idxF_lt (fun d : Nd => decide (d.kind = 2)) n.ns 0
  have hs2 := idxF_spec (fun d : Nd => decide (d.kind = 1)) n.ns 0
  have he2 := idxF_spec (fun d : Nd => decide (d.kind = 2)) n.ns 0
  have hsr : -1 ≤ startF n ∧ startF n < n.ns.length := by unfold startF; rcases hs2 with h | ⟨j, h, _⟩ <;> omega
  have her : -1 ≤ endF n ∧ endF n < n.ns.length := by unfold endF; rcases he2 with h | ⟨j, h, _⟩ <;> omega
  have es : idxF (fun d : Nd => decide (d.kind = 1)) n.ns 0 = startF n := rfl
  have ee : idxF (fun d : Nd => decide (d.kind = 2)) n.ns 0 = endF n := rfl
  clear hs1 he1 hs2 he2
  refine afn_body Tryz.func59 rfl (by decide) ?_
  simp only [Tryz.ntmps59, Tryz.results59, List.length_cons, List.length_nil, List.cons_append, List.nil_append, Nat.reduceAdd, Nat.reduceSub, List.replicate]
  repeat' first
  | ((with_reducible refine awp_seqQ ?_); intro _ _)
  | ((with_reducible refine awp_region ?_); refine zS ?_)
  | ((with_reducible refine Gd_nd ?_ ?_) <;> intro hb hb2 <;> first | contradiction | (exfalso; omega) | (refine zH hb2 ?_; try clear hb2))
  | ((with_reducible refine AWP_c ?_); refine zcdT ?_)
  | ((with_reducible refine AWP_c ?_); refine zcdD ?_ ?_ <;> intro hb hb2 <;> first | contradiction | (exfalso; omega) | ((try refine zH hb2 ?_); try clear hb2))
  | ((with_reducible refine awp_skip ?_); try refine zS ?_)
  | with_reducible refine awp_block ?_
  | ((with_reducible refine awp_ret ?_); refine q_step (by assumption) ?_)
  | with_reducible refine fin_r ?_
  | ((with_reducible refine q_step (by assumption) ?_); try refine zS ?_)
  all_goals try (rw [rChk5, if_pos (by omega)]; done)
  have e0 : rChk5 n = firstR 1 (fun j => !rightN (gt n.ns j)) (firstR 2 (fun j => !leadsF n (gt n.fs j)) (firstR 3 (bad3 n) (if startF n < 0 ∨ endF n < 0 then (3, n.ns.length) else firstR 4 (bad4 n) (0, 0) (List.range' 0 n.ns.length)) (List.range' 0 n.ns.length)) (List.range' 0 n.fs.length)) (List.range' 0 n.ns.length) := by rw [rChk5, if_neg (by omega)]
  generalize hk1 : firstR 2 (fun j => !leadsF n (gt n.fs j)) (firstR 3 (bad3 n) (if startF n < 0 ∨ endF n < 0 then (3, n.ns.length) else firstR 4 (bad4 n) (0, 0) (List.range' 0 n.ns.length)) (List.range' 0 n.ns.length)) (List.range' 0 n.fs.length) = k1 at e0
  generalize hk2 : firstR 3 (bad3 n) (if startF n < 0 ∨ endF n < 0 then (3, n.ns.length) else firstR 4 (bad4 n) (0, 0) (List.range' 0 n.ns.length)) (List.range' 0 n.ns.length) = k2 at hk1
  refine awp_loopT (fun i : Nat => i ≤ n.ns.length ∧ rChk5 n = firstR 1 (fun j => !rightN (gt n.ns j)) k1 (List.range' i (n.ns.length - i))) (fun i => n.ns.length - i) (fun i => [(28, aI i)]) (fun _ => [some (.box n.bs), zBr]) 0 ⟨by omega, e0⟩ (by exact zwl) ?_
  rintro i ⟨h1, h2⟩
  refine zT ?_
  repeat' first
  | ((with_reducible refine awp_seqQ ?_); intro _ _)
  | ((with_reducible refine awp_region ?_); refine zS ?_)
  | ((with_reducible refine AWP_c ?_); refine zcdD ?_ ?_ <;> intro hb hb2 <;> first | contradiction | (exfalso; omega) | ((try refine zH hb2 ?_); try clear hb2))
  | ((with_reducible refine AWP_c ?_); refine zcdM ?_ ?_ <;> intro hb <;> first | contradiction | (try refine zH hb ?_))
  | ((with_reducible refine awp_skip ?_); try refine zS ?_)
  | with_reducible refine awp_block ?_
  | ((with_reducible refine awp_exit ?_); try refine zS ?_)
  | ((with_reducible refine CallK_id ?_); refine zcF ?_; refine ⟨_, by first | exact rOne_ok _ (hns _ (by omega)) | fail, fun _ => rfl, fun _ => rfl, rfl, ?_⟩; try refine zS ?_)
  | ((with_reducible refine awp_ret ?_); refine q_step (by assumption) ?_)
  | with_reducible refine fin_r ?_
  | ((with_reducible refine q_step (by assumption) ?_); try refine zS ?_)
  · rw [h2, firstR_t (by omega) (by simp [*])]
  · exact ⟨i + 1, ⟨by omega, by rw [h2, firstR_f (by omega) (by simp [*])]⟩, by omega, (by exact zwc 2)⟩
  rw [show n.ns.length - i = 0 by omega, List.range'_zero, firstR] at h2
  clear e0
  refine awp_loopT (fun i : Nat => i ≤ n.fs.length ∧ (∀ j, j < i → leadsF n (gt n.fs j) = true) ∧ rChk5 n = firstR 2 (fun j => !leadsF n (gt n.fs j)) k2 (List.range' i (n.fs.length - i))) (fun i => n.fs.length - i) (fun i => [(42, aI i)]) (fun _ => [some (.box n.bs), zBr]) 0 ⟨by omega, by simp, by rw [h2, ← hk1]; rfl⟩ (by exact zwl) ?_
  rintro i2 ⟨h3, h4, h5⟩
  refine zT ?_
  repeat' first
  | ((with_reducible refine awp_seqQ ?_); intro _ _)
  | ((with_reducible refine awp_region ?_); refine zS ?_)
  | ((with_reducible refine AWP_c ?_); refine zcdD ?_ ?_ <;> intro hb hb2 <;> first | contradiction | (exfalso; omega) | ((try refine zH hb2 ?_); try clear hb2))
  | ((with_reducible refine AWP_c ?_); refine zcdM ?_ ?_ <;> intro hb <;> first | contradiction | (try refine zH hb ?_))
  | ((with_reducible refine awp_skip ?_); try refine zS ?_)
  | with_reducible refine awp_block ?_
  | ((with_reducible refine awp_exit ?_); try refine zS ?_)
  | ((with_reducible refine CallK_id ?_); refine zcF ?_; refine ⟨_, by first | exact rTwo_ok n _ (hfs _ (by omega)) hn hf | exact rFirst_ok n 1 (by omega) | exact rFirst_ok n 2 (by omega) | fail, fun _ => rfl, fun _ => rfl, rfl, ?_⟩; try refine zS ?_)
  | ((with_reducible refine awp_ret ?_); refine q_step (by assumption) ?_)
  | with_reducible refine fin_r ?_
  | ((with_reducible refine q_step (by assumption) ?_); try refine zS ?_)
  · rw [h5, firstR_t (by omega) (by simp [*])]
  · exact ⟨i2 + 1, ⟨by omega, fun j hj => by
      by_cases e : j = i2
      · subst e; assumption
      · exact h4 j (by omega), by rw [h5, firstR_f (by omega) (by simp [*])]⟩, by omega, (by exact zwc 2)⟩
  rw [show n.fs.length - i2 = 0 by omega, List.range'_zero, firstR] at h5
  have hI : inG n := fun f hf => by
    obtain ⟨k, hk, rfl⟩ := List.getElem_of_mem hf
    have := h4 k (by omega)
    rw [show gt n.fs k = n.fs[k] by simp [gt, List.getD, hk]] at this
    simp only [leadsF, Bool.and_eq_true, inR, decide_eq_true_eq] at this
    omega
  clear h4 h2 hk1
  have hId : ∀ f ∈ n.fs, 0 ≤ f.dst ∧ f.dst < n.ns.length := fun f hf => (hI f hf).2.2
  simp only [es, ee]
  generalize hk3 : (if startF n < 0 ∨ endF n < 0 then ((3 : Int), (n.ns.length : Int)) else firstR 4 (bad4 n) (0, 0) (List.range' 0 n.ns.length)) = k3 at hk2
  refine awp_loopT (fun i : Nat => i ≤ n.ns.length ∧ rChk5 n = firstR 3 (bad3 n) k3 (List.range' i (n.ns.length - i))) (fun i => n.ns.length - i) (fun i => [(61, aI i)]) (fun _ => [some (.box n.bs), zBr]) 0 ⟨by omega, by rw [h5, ← hk2]; rfl⟩ (by exact zwl) ?_
  rintro i3 ⟨h6, h7⟩
  refine zT ?_
  repeat' first
  | ((with_reducible refine awp_seqQ ?_); intro _ _)
  | ((with_reducible refine awp_region ?_); refine zS ?_)
  | ((with_reducible refine Gd_nd ?_ ?_) <;> intro hb hb2 <;> first | contradiction | (exfalso; omega) | (refine zH hb2 ?_; try clear hb2))
  | ((with_reducible refine Gd_d ?_ ?_) <;> intro hb hb2 <;> first | contradiction | (exfalso; omega) | (refine zH hb2 ?_; try clear hb2))
  | ((with_reducible refine Gd_b ?_ ?_) <;> intro hb <;> first | contradiction | refine zH hb ?_)
  | ((with_reducible refine AWP_c ?_); refine zcdT ?_)
  | ((with_reducible refine AWP_c ?_); refine zcdF ?_)
  | ((with_reducible refine AWP_c ?_); refine zcdD ?_ ?_ <;> intro hb hb2 <;> first | contradiction | (exfalso; omega) | ((try refine zH hb2 ?_); try clear hb2))
  | ((with_reducible refine awp_skip ?_); try refine zS ?_)
  | with_reducible refine awp_block ?_
  | ((with_reducible refine awp_exit ?_); try refine zS ?_)
  | ((with_reducible refine CallK_id ?_); refine zcF ?_; refine ⟨_, by first | exact rThree_ok n i3 (by omega) (by omega) (by omega) hId | fail, fun _ => rfl, fun _ => rfl, rfl, ?_⟩; try refine zS ?_)
  | ((with_reducible refine awp_ret ?_); refine q_step (by assumption) ?_)
  | with_reducible refine fin_r ?_
  | ((with_reducible refine q_step (by assumption) ?_); try refine zS ?_)
  all_goals first
    | (rw [h7, firstR_t (by omega) (by simp [bad3, *]; done)]; done)
    | (rw [h7, firstR_t (by omega) (by simp [bad3, *]; omega)]; done)
    | (rename fitsF n _ = true => hft; exact ⟨i3 + 1, ⟨by omega, by rw [h7, firstR_f (by omega) (by (simp only [bad3, hft, Bool.or_eq_false_iff, Bool.and_eq_false_iff, decide_eq_false_iff_not, Bool.not_true, true_and]); omega)]⟩, by omega, (by exact zwc 2)⟩)
    | skip
  · rw [show n.ns.length - i3 = 0 by omega, List.range'_zero, firstR] at h7
    rw [h7, ← hk3, if_pos (by omega)]
  rotate_left
  · rw [show n.ns.length - i3 = 0 by omega, List.range'_zero, firstR] at h7
    rw [h7, ← hk3, if_pos (by omega)]
  rw [show n.ns.length - i3 = 0 by omega, List.range'_zero, firstR, ← hk3, if_neg (by omega)] at h7
  have hls := reachF_len n (startF n)
  repeat' first
  | ((with_reducible refine awp_seqQ ?_); intro _ _)
  | ((with_reducible refine awp_region ?_); refine zS ?_)
  | with_reducible refine awp_block ?_
  | ((with_reducible refine CallK_id ?_); refine zcF ?_; refine ⟨_, by first | exact rReach_ok n (startF n) (by omega) (by omega) hI (by omega) | fail, fun _ => rfl, fun _ => rfl, rfl, ?_⟩; try refine zS ?_)
  refine awp_loopT (fun i : Nat => i ≤ n.ns.length ∧ rChk5 n = firstR 4 (bad4 n) (0, 0) (List.range' i (n.ns.length - i))) (fun i => n.ns.length - i) (fun i => [(109, aI i)]) (fun _ => [some (.box n.bs), zBr]) 0 ⟨by omega, h7⟩ (by exact zwl) ?_
  rintro i4 ⟨h8, h9⟩
  have hlr := reachF_len n i4
  refine zT ?_
  repeat' first
  | ((with_reducible refine awp_seqQ ?_); intro _ _)
  | ((with_reducible refine awp_region ?_); refine zS ?_)
  | ((with_reducible refine Gd_b ?_ ?_) <;> intro hb <;> first | contradiction | refine zH hb ?_)
  | ((with_reducible refine AWP_c ?_); refine zcdT ?_)
  | ((with_reducible refine AWP_c ?_); refine zcdD ?_ ?_ <;> intro hb hb2 <;> first | contradiction | (exfalso; omega) | ((try refine zH hb2 ?_); try clear hb2))
  | ((with_reducible refine AWP_c ?_); refine zcdM ?_ ?_ <;> intro hb <;> first | contradiction | (try refine zH hb ?_))
  | ((with_reducible refine awp_skip ?_); try refine zS ?_)
  | with_reducible refine awp_block ?_
  | ((with_reducible refine awp_exit ?_); try refine zS ?_)
  | ((with_reducible refine CallK_id ?_); refine zcF ?_; refine ⟨_, by first | exact rReach_ok n i4 (by omega) (by omega) hI (by omega) | fail, fun _ => rfl, fun _ => rfl, rfl, ?_⟩; try refine zS ?_)
  | ((with_reducible refine awp_ret ?_); refine q_step (by assumption) ?_)
  | with_reducible refine fin_r ?_
  | ((with_reducible refine q_step (by assumption) ?_); try refine zS ?_)
  all_goals first
    | (rw [h9, firstR_t (by omega) (by simp [bad4, gb, *]; done)]; done)
    | exact ⟨i4 + 1, ⟨by omega, by rw [h9, firstR_f (by omega) (by simp [bad4, gb, *])]⟩, by omega, (by exact zwc 2)⟩
    | (rw [h9, show n.ns.length - i4 = 0 by omega, List.range'_zero, firstR]; done)
    | trace_state
end Go.Eng
open Go Go.Proofs
namespace Go.Eng
set_option linter.unusedSimpArgs false
set_option linter.unusedVariables false
def inF (s : List UInt8) (c : Int) : Bool := s.any fun x => decide ((x.toNat : Int) = c)
def hasK (k x : Int) : List UInt8 := if k = 2 ∨ k = 4 then [110, 97] else if k = 3 then [110, 97, 116] else if k = 5 then [110] else if k = 6 ∨ k = 7 then [107] else if k = 8 then [110, 97, 107, 99]
  else if k = 9 then [110, 107] else if k = 10 then [110, 97, 107] else if k = 11 then [110, 97, 98, 107, 99] else if k = 12 then (if x = 3 then [110, 97, 98, 99] else [110, 97]) else if k = 13 then [107, 108] else if k = 14 then [112] else []
def hasF (b : B) : List UInt8 := hasK b.kind b.x
def bareR (s : List UInt8) (b : B) : Bool := (inF s 110 || decide (b.node = 0)) && (inF s 97 || decide (b.x = 0)) && (inF s 98 || decide (b.y = 0)) && (inF s 116 || noneF b.t) && (inF s 99 || decide ((b.conds.length : Int) = 0)) && (inF s 107 || decide ((b.kids.length : Int) = 0)) &&
  (inF s 108 || decide ((b.links.length : Int) = 0)) && (inF s 112 || decide ((b.nodes.length : Int) = 0) && decide ((b.flows.length : Int) = 0))
theorem eqL_r0 {α : Type} (p : α → α → Bool) (l : List α) : eqL p l [] = decide (l.length = 0) := by cases l <;> simp [eqL]
theorem eqT_t0 (t : T) : eqT t t0 = noneF t := by rw [eqT_eq, noneF]; simp only [t0, T.op, T.n, T.kids, eqL_r0]; rfl
theorem eqB_0 (b : B) : eqB b b0 = (decide (b.kind = 0) && decide (b.node = 0) && decide (b.x = 0) && decide (b.y = 0) && noneF b.t && decide (b.conds.length = 0) && decide (b.links.length = 0) && (decide (b.nodes.length = 0) && decide (b.flows.length = 0)) && decide (b.kids.length = 0)) := by
  rw [eqB_eq]; simp only [b0, mk_kind, mk_node, mk_x, mk_y, mk_t, mk_conds, mk_links, mk_nodes, mk_flows, mk_kids, eqT_t0, eqL_r0, eqNt]; rfl
theorem noneF_t0 : noneF t0 = true := rfl
theorem rBare_eq (b : B) : bareR (hasF b) b = eqB (bareF b) b0 := by
  cases b with | mk k n x y t c ks l ns fs =>
  rw [eqB_0]
  simp only [bareF, hasF, bareR, mk_kind, mk_node, mk_x, mk_y, mk_t, mk_conds, mk_links, mk_nodes, mk_flows, mk_kids]
  by_cases h : k < 1 ∨ 14 < k
  · have e1 : ¬ k = 1 := by omega
    have e2 : ¬ k = 2 := by omega
    have e3 : ¬ k = 3 := by omega
    have e4 : ¬ k = 4 := by omega
    have e5 : ¬ k = 5 := by omega
    have e6 : ¬ k = 6 := by omega
    have e7 : ¬ k = 7 := by omega
    have e8 : ¬ k = 8 := by omega
    have e9 : ¬ k = 9 := by omega
    have e10 : ¬ k = 10 := by omega
    have e11 : ¬ k = 11 := by omega
    have e12 : ¬ k = 12 := by omega
    have e13 : ¬ k = 13 := by omega
    have e14 : ¬ k = 14 := by omega
    simp only [hasK, inF, e1, e2, e3, e4, e5, e6, e7, e8, e9, e10, e11, e12, e13, e14]
    rw [Bool.eq_iff_iff]; simp; try grind
  have hk : k = 1 ∨ k = 2 ∨ k = 3 ∨ k = 4 ∨ k = 5 ∨ k = 6 ∨ k = 7 ∨ k = 8 ∨ k = 9 ∨ k = 10 ∨ k = 11 ∨ k = 12 ∨ k = 13 ∨ k = 14 := by omega
  rcases hk with rfl | rfl | rfl | rfl | rfl | rfl | rfl | rfl | rfl | rfl | rfl | rfl | rfl | rfl
  all_goals try (rw [Bool.eq_iff_iff]; simp [hasK, inF, noneF_t0]; done)
  all_goals try (rw [Bool.eq_iff_iff]; simp [hasK, inF, noneF_t0]; try grind)
  all_goals (by_cases hx : x = 3 <;> rw [Bool.eq_iff_iff] <;> simp [hasK, inF, noneF_t0, hx] <;> try grind)
def rKidF (b : B) (i : Nat) : Bool :=
  let p : Int := cI b.links i
  let q : Int := cO b.links i
  let k := gt b.kids i
  if k.kind ≠ 12 then decide (p = 1) && decide (q = 1) else if k.x = 1 then decide (p = 1) && decide (q ≥ 2) else if k.x = 3 then decide (p = 1) && decide (q = k.conds.length) else if k.x = 2 ∨ k.x = 4 then decide (p ≥ 2) && decide (q = 1) else true
def rLinkedF (b : B) : Bool := if b.links.any (lkBad b.kids.length) = true then false else if (cI b.links (-1) : Int) ≠ 1 ∨ (cO b.links (-1) : Int) ≠ 1 ∨ b.links.length > 40 ∨ b.kids.length > 64 then false
  else if ((List.range' 0 b.kids.length).any fun i => !rKidF b i) = true then false else decide ((rRoundF b.kids.length (inner b.links)).1.length = 0)
theorem kidsBad_any (ls : List Lk) : ∀ (l : List B) (i : Nat), kidsBad ls l i = (List.range' i l.length).any fun j => kidBad ls (gt l (j - i)) j
  | [], i => rfl
  | k :: l, i => by
    rw [kidsBad, List.length_cons, List.range'_succ, List.any_cons, kidsBad_any ls l (i + 1), Nat.sub_self]
    congr 1
    rw [Bool.eq_iff_iff, List.any_eq_true, List.any_eq_true]
    have e : ∀ j, i + 1 ≤ j → gt (k :: l) (j - i) = gt l (j - (i + 1)) := fun j h => by rw [show j - i = (j - (i + 1)) + 1 by omega]; simp [gt]
    constructor
    · rintro ⟨j, h1, h2⟩
      exact ⟨j, h1, by rw [e j (by obtain ⟨_, _, rfl⟩ := List.mem_range'.1 h1; omega)]; exact h2⟩
    · rintro ⟨j, h1, h2⟩
      exact ⟨j, h1, by rw [e j (by obtain ⟨_, _, rfl⟩ := List.mem_range'.1 h1; omega)] at h2; exact h2⟩
theorem any_congr' {l : List Nat} {p q : Nat → Bool} (h : ∀ i ∈ l, p i = q i) : l.any p = l.any q := by
  rw [Bool.eq_iff_iff, List.any_eq_true, List.any_eq_true]
  exact ⟨fun ⟨i, h1, h2⟩ => ⟨i, h1, by rw [← h i h1]; exact h2⟩, fun ⟨i, h1, h2⟩ => ⟨i, h1, by rw [h i h1]; exact h2⟩⟩
theorem rKid_eq {b : B} {i : Nat} (h : (gt b.kids i).kind = 12 → (gt b.kids i).x = 1 ∨ (gt b.kids i).x = 2 ∨ (gt b.kids i).x = 3 ∨ (gt b.kids i).x = 4) : (!rKidF b i) = kidBad b.links (gt b.kids i) i := by
  unfold rKidF
  rw [Bool.eq_iff_iff, kidBad_iff]
  simp only
  by_cases hk : (gt b.kids i).kind = 12
  · rw [if_neg (by omega)]
    rcases h hk with e | e | e | e <;> rw [e] <;> simp [hk] <;> omega
  · rw [if_pos hk]
    simp [hk]
theorem rkC_inner {b : B} (h1 : b.links.any (lkBad b.kids.length) = false) (h2 : b.links.length ≤ 40) (h3 : b.kids.length ≤ 64) : rkC b.kids.length (inner b.links) = 0 := by
  have hl : (inner b.links).length ≤ b.links.length := List.length_filter_le _ _
  rw [rkC, if_neg (by omega), if_neg (by omega), if_pos]
  rw [List.all_eq_true]
  intro e he
  unfold inner at he
  obtain ⟨h4, h5⟩ := List.mem_filter.1 he
  rw [List.any_eq_false] at h1
  have := h1 e h4
  simp only [Bool.and_eq_true, decide_eq_true_eq] at h5
  simp only [lkBad, Bool.or_eq_true, decide_eq_true_eq] at this
  simp [inR]; omega
theorem ord_round {n : Nat} {l : List Lk} (h : rkC n l = 0) : decide ((rRoundF n l).1.length = 0) = decide ((ordF n l).2 = 0) := by
  have e := (round_eq (n := n) (l := l)).1
  have h2 : (roundF n l).2 = 0 := by unfold roundF; rw [if_pos h]
  rw [ordF, if_neg (by omega)]
  by_cases hr : (roundF n l).1.length = 0
  · rw [if_neg (by omega)]; simp [e.2 hr]
  · rw [if_pos (by omega)]
    have : ¬ (rRoundF n l).1.length = 0 := fun hh => hr (e.1 hh)
    simp [this]
theorem rLinked_eq {b : B} (h : ∀ k ∈ b.kids, k.kind = 12 → k.x = 1 ∨ k.x = 2 ∨ k.x = 3 ∨ k.x = 4) : rLinkedF b = linkedF b := by
  unfold rLinkedF linkedF
  by_cases h1 : b.links.any (lkBad b.kids.length) = true
  · rw [if_pos h1, if_pos h1]
  rw [if_neg h1, if_neg h1]
  by_cases h2 : (cI b.links (-1) : Int) ≠ 1 ∨ (cO b.links (-1) : Int) ≠ 1 ∨ b.links.length > 40 ∨ b.kids.length > 64
  · rw [if_pos h2, if_pos h2]
  rw [if_neg h2, if_neg h2]
  have e : ((List.range' 0 b.kids.length).any fun i => !rKidF b i) = kidsBad b.links b.kids 0 := by
    rw [kidsBad_any]
    refine any_congr' fun i hi => ?_
    obtain ⟨j, hj, rfl⟩ := List.mem_range'.1 hi
    exact rKid_eq (h _ (gt_mem (by omega)))
  rw [e]
  by_cases h3 : kidsBad b.links b.kids 0 = true
  · rw [if_pos h3, if_pos h3]
  rw [if_neg h3, if_neg h3]
  exact ord_round (rkC_inner (by simpa using h1) (by omega) (by omega))
def rNumF (b : B) : Bool := if b.kind = 13 then decide ((b.kids.length : Int) ≥ 1) && rLinkedF b else numF b
theorem num13 {b : B} (h : b.kind = 13) : numF b = (decide ((b.kids.length : Int) > 0) && linkedF b) := by
  unfold numF; simp [h]
theorem num12 {b : B} (h : b.kind = 12) (hn : numF b = true) : b.x = 1 ∨ b.x = 2 ∨ b.x = 3 ∨ b.x = 4 := by
  unfold numF at hn
  simp [h] at hn
  omega
theorem right_num {N : B → Bool} {b : B} (h : rightF N b = true) : N b = true := by
  rw [rightF_eq] at h
  simp only [Bool.and_eq_true] at h
  exact h.1.2
theorem rNum12 {b : B} (h : b.kind = 12) (hn : rNumF b = true) : b.x = 1 ∨ b.x = 2 ∨ b.x = 3 ∨ b.x = 4 := by
  unfold rNumF at hn
  rw [if_neg (by omega)] at hn
  exact num12 h hn
mutual
theorem form_eq : ∀ b : B, rightF rNumF b = rightF numF b
  | .mk k n x y t c ks l ns fs => by
    rw [rightF, rightF, forms_eq k ks]
    cases hw : wrongs numF k ks with
    | true => simp
    | false =>
      have : rNumF (.mk k n x y t c ks l ns fs) = numF (.mk k n x y t c ks l ns fs) := by
        by_cases hk : k = 13
        · subst hk
          rw [num13 rfl, rNumF, mk_kind, if_pos rfl, rLinked_eq (fun q hq h12 => num12 h12 (right_num (b := q) ?_))]
          · rfl
          · rw [wrongs_eq, List.any_eq_false] at hw
            have := hw q hq
            simp only [wrong1, Bool.not_eq_true, Bool.or_eq_false_iff, Bool.not_eq_false'] at this
            exact this.2
        · rw [rNumF, mk_kind, if_neg hk]
      rw [this]
theorem forms_eq (k : Int) : ∀ l : List B, wrongs rNumF k l = wrongs numF k l
  | [] => by rw [wrongs, wrongs]
  | b :: l => by rw [wrongs, wrongs, form_eq b, forms_eq k l]
end
def nmd (b : B) (i : Int) : Nat := if inF (hasF b) 110 = true ∧ b.node = i then 1 else 0
mutual
def timesF (i : Int) : B → Nat
  | .mk k n x y t c ks l ns fs => nmd (.mk k n x y t c ks l ns fs) i + timess i ks
def timess (i : Int) : List B → Nat
  | [] => 0
  | b :: l => timesF i b + timess i l
end
theorem timesF_eq (i : Int) (b : B) : timesF i b = nmd b i + timess i b.kids := by cases b; rw [timesF]; rfl
def rChkF (b : B) : Int := if b.count > 96 ∨ deepF b > 24 then 2 else if b.kind = 10 ∨ b.kind = 12 ∨ rightF rNumF b = false then 4 else if ((List.range' 0 24).any fun i : Nat => decide (timesF i b > 1)) = true then 8 else 0
theorem num_kind {b : B} (h : numF b = true) : 1 ≤ b.kind ∧ b.kind ≤ 14 := by
  refine Classical.byContradiction fun hn => ?_
  have e1 : ¬ b.kind = 1 := by omega
  have e2 : ¬ b.kind = 2 := by omega
  have e3 : ¬ b.kind = 3 := by omega
  have e4 : ¬ b.kind = 4 := by omega
  have e5 : ¬ b.kind = 5 := by omega
  have e6 : ¬ b.kind = 6 := by omega
  have e7 : ¬ b.kind = 7 := by omega
  have e8 : ¬ b.kind = 8 := by omega
  have e9 : ¬ b.kind = 9 := by omega
  have e10 : ¬ b.kind = 10 := by omega
  have e11 : ¬ b.kind = 11 := by omega
  have e12 : ¬ b.kind = 12 := by omega
  have e13 : ¬ b.kind = 13 := by omega
  have e14 : ¬ b.kind = 14 := by omega
  unfold numF at h
  simp [e1, e2, e3, e4, e5, e6, e7, e8, e9, e10, e11, e12, e13, e14] at h
theorem has_n {b : B} (h : 1 ≤ b.kind ∧ b.kind ≤ 14) : inF (hasF b) 110 = true ↔ ¬ skips b.kind := by
  have hk : b.kind = 1 ∨ b.kind = 2 ∨ b.kind = 3 ∨ b.kind = 4 ∨ b.kind = 5 ∨ b.kind = 6 ∨ b.kind = 7 ∨ b.kind = 8 ∨ b.kind = 9 ∨ b.kind = 10 ∨ b.kind = 11 ∨ b.kind = 12 ∨ b.kind = 13 ∨ b.kind = 14 := by omega
  unfold hasF
  rcases hk with e | e | e | e | e | e | e | e | e | e | e | e | e | e <;> rw [e] <;> (try (by_cases hx : b.x = 3)) <;> simp_all [hasK, inF, skips]
theorem count_append (i : Int) (a b : List B) : (nodesL (a ++ b)).count i = (nodesL a).count i + (nodesL b).count i := by
  unfold nodesL; rw [List.filterMap_append, List.count_append]
mutual
theorem times_count (i : Int) : ∀ b : B, (∀ x ∈ pL b, 1 ≤ x.kind ∧ x.kind ≤ 14) → timesF i b = (nodesL (pL b)).count i
  | .mk k n x y t c ks l ns fs, h => by
    have h1 := h (.mk k n x y t c ks l ns fs) (by rw [pL]; simp)
    have hn := has_n h1
    rw [timesF, pL, timess_count i ks (fun z hz => h z (by rw [pL]; simp [hz])), show ∀ (a : B) (r : List B), a :: r = [a] ++ r from fun _ _ => rfl, count_append]
    congr 1
    unfold nmd nodesL
    simp only [List.filterMap_cons, List.filterMap_nil]
    by_cases hs : skips (B.mk k n x y t c ks l ns fs).kind
    · rw [if_pos hs, if_neg (fun hh => (hn.1 hh.1) hs)]; rfl
    · rw [if_neg hs]
      simp only [List.count_cons, List.count_nil]
      by_cases hi : (B.mk k n x y t c ks l ns fs).node = i
      · rw [if_pos ⟨hn.2 hs, hi⟩]; simp [hi]
      · rw [if_neg (fun hh => hi hh.2)]; simp [hi]
theorem timess_count (i : Int) : ∀ l : List B, (∀ x ∈ pLs l, 1 ≤ x.kind ∧ x.kind ≤ 14) → timess i l = (nodesL (pLs l)).count i
  | [], _ => by rw [timess, pLs]; rfl
  | b :: l, h => by rw [timess, pLs, count_append, times_count i b (fun x hx => h x (by rw [pLs]; simp [hx])), timess_count i l (fun x hx => h x (by rw [pLs]; simp [hx]))]
end
theorem nodup_count {l : List Int} : l.Nodup ↔ ∀ i, l.count i ≤ 1 := List.nodup_iff_count
theorem rChk_eq (b : B) : rChkF b = checkF numF b := by
  unfold rChkF checkF
  rw [form_eq]
  by_cases h1 : b.count > 96 ∨ deepF b > 24
  · rw [if_pos h1, if_pos h1]
  rw [if_neg h1, if_neg h1]
  by_cases h2 : b.kind = 10 ∨ b.kind = 12 ∨ rightF numF b = false
  · rw [if_pos h2, if_pos h2]
  rw [if_neg h2, if_neg h2]
  have hr : rightF numF b = true := by
    cases hh : rightF numF b with
    | true => rfl
    | false => exact absurd (.inr (.inr hh)) h2
  have hp : ∀ x ∈ pL b, rightF numF x = true := fun x hx => pL_right numF b x hx hr
  have hk : ∀ x ∈ pL b, 1 ≤ x.kind ∧ x.kind ≤ 14 := fun x hx => num_kind (right_num (hp x hx))
  have hn : ∀ x ∈ pL b, 0 ≤ x.node ∧ x.node < 24 := fun x hx => by
    have := hp x hx
    rw [rightF_eq] at this
    simp only [Bool.and_eq_true, decide_eq_true_eq] at this
    exact ⟨this.1.1.1.2, this.1.1.2⟩
  have hmem : ∀ i ∈ nodesL (pL b), 0 ≤ i ∧ i < 24 := fun i hi => by
    unfold nodesL at hi
    obtain ⟨x, hx, he⟩ := List.mem_filterMap.1 hi
    split at he
    · cases he
    · cases he; exact hn x hx
  have hd : dupF (itemsF b (-1) 0 0) [] = false ↔ ((List.range' 0 24).any fun i : Nat => decide (timesF i b > 1)) = false := by
    rw [dupF_ok, items_pL, List.any_eq_false]
    constructor
    · rintro ⟨h, _⟩ i _
      have := nodup_count.1 h i
      rw [times_count _ b hk]
      simp; omega
    · intro h
      refine ⟨nodup_count.2 fun i => ?_, fun n _ => by simp⟩
      by_cases hi : i ∈ nodesL (pL b)
      · have hb := hmem i hi
        have := h i.toNat (List.mem_range'.2 ⟨i.toNat, by omega, by omega⟩)
        rw [times_count _ b hk, Int.toNat_of_nonneg hb.1] at this
        simp at this; omega
      · rw [List.count_eq_zero_of_not_mem hi]; omega
  cases h3 : dupF (itemsF b (-1) 0 0) [] with
  | false => rw [hd.1 h3]
  | true =>
    cases h4 : (List.range' 0 24).any fun i : Nat => decide (timesF i b > 1) with
    | true => rfl
    | false => rw [hd.2 h4] at h3; cases h3
end Go.Eng
open Go Go.Proofs
namespace Go.Eng
set_option linter.unusedSimpArgs false
set_option linter.unusedVariables false
set_option maxRecDepth 10000
set_option maxHeartbeats 8000000
def aS (s : List UInt8) : A := .c (.d (.sc (.string (st s))))
def aU (c : Int) : A := .c (.d (.sc (.int .u8 c)))
attribute [go_sem] aS aU
theorem B.count_eq (b : B) : b.count = B.counts b.kids + 1 := by cases b; rfl
theorem counts_drop {l : List B} {i : Nat} (h : i < l.length) : B.counts (l.drop i) = (gt l i).count + B.counts (l.drop (i + 1)) := by rw [drop_gt h, B.counts]
theorem rSize_ok (b : B) (hs : b.size ≤ 1000000) : AFn env 35 [b.a] [] (aI b.count) [] := by
  generalize hn : b.size = n
  induction n using Nat.strongRecOn generalizing b with
  | _ n ih0 =>
    have ih : ∀ k : B, k.size < b.size → AFn env 35 [k.a] [] (aI k.count) [] := fun k h => ih0 k.size (by omega) k (by omega) rfl
    have hz := b.size_eq
    have l2 := B.len_le b.kids
    have hd := b.count_le
    refine afn_body Tryz.func35 rfl (by decide) ?_
    simp only [Tryz.ntmps35, Tryz.results35, List.length_cons, List.length_nil, List.cons_append, List.nil_append, Nat.reduceAdd, Nat.reduceSub, List.replicate]
    repeat' first
    | with_reducible refine awp_seq ?_
    | ((with_reducible refine awp_region ?_); refine zS ?_)
    | with_reducible refine awp_block ?_
    refine awp_loopT (fun s : Nat × Nat => s.1 ≤ b.kids.length ∧ s.2 + B.counts (b.kids.drop s.1) = b.count) (fun s => b.kids.length - s.1) (fun s => [(3, aI s.2), (9, aI s.1)]) (fun s => [some (.box b.bs)]) (0, 1) ⟨by simp, by rw [b.count_eq]; simp; omega⟩ (wk_le (by simp only [go_sem, Bool.not_not, List.mem_singleton, forall_eq, ↓reduceIte, if_pos, rowsAt_map, wrap64, wrapu8, List.getElem?_cons_zero, List.getElem?_cons_succ, Int.reduceToNat, Nat.reduceAdd, Nat.reduceBEq, Bool.or_false, Bool.false_or, Bool.true_or, Nat.reduceSub, Nat.reduceMul, Int.reduceAdd, Int.reduceEq, Int.reduceLT, Int.reduceLE, Int.reduceNeg, Nat.reduceLT, Nat.reduceLeDiff, Nat.reduceEqDiff]; simp) (by simp only [go_sem, Bool.not_not, List.mem_singleton, forall_eq, ↓reduceIte, if_pos, rowsAt_map, wrap64, wrapu8, List.getElem?_cons_zero, List.getElem?_cons_succ, Int.reduceToNat, Nat.reduceAdd, Nat.reduceBEq, Bool.or_false, Bool.false_or, Bool.true_or, Nat.reduceSub, Nat.reduceMul, Int.reduceAdd, Int.reduceEq, Int.reduceLT, Int.reduceLE, Int.reduceNeg, Nat.reduceLT, Nat.reduceLeDiff, Nat.reduceEqDiff, B.bs])) ?_
    rintro ⟨i, m⟩ ⟨h1, h2⟩
    simp only at h1 h2
    have hc : i < b.kids.length → m + (gt b.kids i).count ≤ b.count := fun h => by rw [counts_drop h] at h2; omega
    simp only [go_sem, Bool.not_not, List.mem_singleton, forall_eq, ↓reduceIte, if_pos, rowsAt_map, wrap64, wrapu8, List.getElem?_cons_zero, List.getElem?_cons_succ, Int.reduceToNat, Nat.reduceAdd, Nat.reduceBEq, Bool.or_false, Bool.false_or, Bool.true_or, Nat.reduceSub, Nat.reduceMul, Int.reduceAdd, Int.reduceEq, Int.reduceLT, Int.reduceLE, Int.reduceNeg, Nat.reduceLT, Nat.reduceLeDiff, Nat.reduceEqDiff, B.bs]
    repeat' first
    | with_reducible refine awp_seq ?_
    | ((with_reducible refine awp_region ?_); refine zS ?_)
    | ((with_reducible refine AWP_c ?_); refine zcdD ?_ ?_ <;> intro hb hb2 <;> first | contradiction | (exfalso; omega) | ((try refine zH hb2 ?_); try clear hb2))
    | ((with_reducible refine awp_ret ?_); refine fin_r ?_)
    | ((with_reducible refine awp_skip ?_); refine zS ?_)
    | with_reducible refine awp_block ?_
    | ((with_reducible refine awp_exit ?_); refine zS ?_)
    | ((with_reducible refine CallK_id ?_); refine zcF ?_; refine ⟨_, by first | exact ih (gt b.kids i) (B.size_lt (gt_mem (by omega))) | fail, fun _ => rfl, fun _ => rfl, rfl, ?_⟩; try refine zS ?_)
    · have hi : i < b.kids.length := by omega
      rw [counts_drop hi] at h2
      exact ⟨(i + 1, m + (gt b.kids i).count), ⟨by simp only; omega, by simp only; omega⟩, by simp only; omega, wk_cl 1 (by decide) (by simp) (by simp only [go_sem, Bool.not_not, List.mem_singleton, forall_eq, ↓reduceIte, if_pos, rowsAt_map, wrap64, wrapu8, List.getElem?_cons_zero, List.getElem?_cons_succ, Int.reduceToNat, Nat.reduceAdd, Nat.reduceBEq, Bool.or_false, Bool.false_or, Bool.true_or, Nat.reduceSub, Nat.reduceMul, Int.reduceAdd, Int.reduceEq, Int.reduceLT, Int.reduceLE, Int.reduceNeg, Nat.reduceLT, Nat.reduceLeDiff, Nat.reduceEqDiff]; simp; try omega) (by simp only [go_sem, Bool.not_not, List.mem_singleton, forall_eq, ↓reduceIte, if_pos, rowsAt_map, wrap64, wrapu8, List.getElem?_cons_zero, List.getElem?_cons_succ, Int.reduceToNat, Nat.reduceAdd, Nat.reduceBEq, Bool.or_false, Bool.false_or, Bool.true_or, Nat.reduceSub, Nat.reduceMul, Int.reduceAdd, Int.reduceEq, Int.reduceLT, Int.reduceLE, Int.reduceNeg, Nat.reduceLT, Nat.reduceLeDiff, Nat.reduceEqDiff, B.bs])⟩
    rw [List.drop_eq_nil_of_le (by omega), B.counts] at h2
    rw [show m = b.count by omega]
theorem deeps_drop {l : List B} {i : Nat} (h : i < l.length) : deeps (l.drop i) = max (deepF (gt l i)) (deeps (l.drop (i + 1))) := by rw [drop_gt h, deeps]
theorem rDepth_ok (b : B) (hs : b.size ≤ 1000000) : AFn env 36 [b.a] [] (aI (deepF b)) [] := by
  generalize hn : b.size = n
  induction n using Nat.strongRecOn generalizing b with
  | _ n ih0 =>
    have ih : ∀ k : B, k.size < b.size → AFn env 36 [k.a] [] (aI (deepF k)) [] := fun k h => ih0 k.size (by omega) k (by omega) rfl
    have hz := b.size_eq
    have l2 := B.len_le b.kids
    have hd := deepF_le b
    refine afn_body Tryz.func36 rfl (by decide) ?_
    simp only [Tryz.ntmps36, Tryz.results36, List.length_cons, List.length_nil, List.cons_append, List.nil_append, Nat.reduceAdd, Nat.reduceSub, List.replicate]
    repeat' first
    | with_reducible refine awp_seq ?_
    | ((with_reducible refine awp_region ?_); refine zS ?_)
    | with_reducible refine awp_block ?_
    refine awp_loopT (fun s : Nat × Nat => s.1 ≤ b.kids.length ∧ max s.2 (deeps (b.kids.drop s.1)) + 1 = deepF b) (fun s => b.kids.length - s.1) (fun s => [(3, aI s.2), (10, aI s.1)]) (fun s => [some (.box b.bs)]) (0, 0) ⟨by simp, by rw [deepF_eq]; simp⟩ (wk_le (by simp only [go_sem, Bool.not_not, List.mem_singleton, forall_eq, ↓reduceIte, if_pos, rowsAt_map, wrap64, wrapu8, List.getElem?_cons_zero, List.getElem?_cons_succ, Int.reduceToNat, Nat.reduceAdd, Nat.reduceBEq, Bool.or_false, Bool.false_or, Bool.true_or, Nat.reduceSub, Nat.reduceMul, Int.reduceAdd, Int.reduceEq, Int.reduceLT, Int.reduceLE, Int.reduceNeg, Nat.reduceLT, Nat.reduceLeDiff, Nat.reduceEqDiff]; simp) (by simp only [go_sem, Bool.not_not, List.mem_singleton, forall_eq, ↓reduceIte, if_pos, rowsAt_map, wrap64, wrapu8, List.getElem?_cons_zero, List.getElem?_cons_succ, Int.reduceToNat, Nat.reduceAdd, Nat.reduceBEq, Bool.or_false, Bool.false_or, Bool.true_or, Nat.reduceSub, Nat.reduceMul, Int.reduceAdd, Int.reduceEq, Int.reduceLT, Int.reduceLE, Int.reduceNeg, Nat.reduceLT, Nat.reduceLeDiff, Nat.reduceEqDiff, B.bs])) ?_
    rintro ⟨i, m⟩ ⟨h1, h2⟩
    simp only at h1 h2
    simp only [go_sem, Bool.not_not, List.mem_singleton, forall_eq, ↓reduceIte, if_pos, rowsAt_map, wrap64, wrapu8, List.getElem?_cons_zero, List.getElem?_cons_succ, Int.reduceToNat, Nat.reduceAdd, Nat.reduceBEq, Bool.or_false, Bool.false_or, Bool.true_or, Nat.reduceSub, Nat.reduceMul, Int.reduceAdd, Int.reduceEq, Int.reduceLT, Int.reduceLE, Int.reduceNeg, Nat.reduceLT, Nat.reduceLeDiff, Nat.reduceEqDiff, B.bs]
    repeat' first
    | with_reducible refine awp_seq ?_
    | ((with_reducible refine awp_region ?_); refine zS ?_)
    | ((with_reducible refine AWP_c ?_); refine zcdD ?_ ?_ <;> intro hb hb2 <;> first | contradiction | (exfalso; omega) | ((try refine zH hb2 ?_); try clear hb2))
    | ((with_reducible refine awp_ret ?_); refine fin_r ?_)
    | ((with_reducible refine awp_skip ?_); refine zS ?_)
    | with_reducible refine awp_block ?_
    | ((with_reducible refine awp_exit ?_); refine zS ?_)
    | ((with_reducible refine CallK_id ?_); refine zcF ?_; refine ⟨_, by first | exact ih (gt b.kids i) (B.size_lt (gt_mem (by omega))) | fail, fun _ => rfl, fun _ => rfl, rfl, ?_⟩; try refine zS ?_)
    · have hi : i < b.kids.length := by omega
      rw [deeps_drop hi] at h2
      exact ⟨(i + 1, deepF (gt b.kids i)), ⟨by simp only; omega, by simp only; omega⟩, by simp only; omega, wk_cl 1 (by decide) (by simp) (by simp only [go_sem, Bool.not_not, List.mem_singleton, forall_eq, ↓reduceIte, if_pos, rowsAt_map, wrap64, wrapu8, List.getElem?_cons_zero, List.getElem?_cons_succ, Int.reduceToNat, Nat.reduceAdd, Nat.reduceBEq, Bool.or_false, Bool.false_or, Bool.true_or, Nat.reduceSub, Nat.reduceMul, Int.reduceAdd, Int.reduceEq, Int.reduceLT, Int.reduceLE, Int.reduceNeg, Nat.reduceLT, Nat.reduceLeDiff, Nat.reduceEqDiff]; simp; try omega) (by simp only [go_sem, Bool.not_not, List.mem_singleton, forall_eq, ↓reduceIte, if_pos, rowsAt_map, wrap64, wrapu8, List.getElem?_cons_zero, List.getElem?_cons_succ, Int.reduceToNat, Nat.reduceAdd, Nat.reduceBEq, Bool.or_false, Bool.false_or, Bool.true_or, Nat.reduceSub, Nat.reduceMul, Int.reduceAdd, Int.reduceEq, Int.reduceLT, Int.reduceLE, Int.reduceNeg, Nat.reduceLT, Nat.reduceLeDiff, Nat.reduceEqDiff, B.bs])⟩
    · have hi : i < b.kids.length := by omega
      rw [deeps_drop hi] at h2
      exact ⟨(i + 1, m), ⟨by simp only; omega, by simp only; omega⟩, by simp only; omega, wk_cl 1 (by decide) (by simp) (by simp only [go_sem, Bool.not_not, List.mem_singleton, forall_eq, ↓reduceIte, if_pos, rowsAt_map, wrap64, wrapu8, List.getElem?_cons_zero, List.getElem?_cons_succ, Int.reduceToNat, Nat.reduceAdd, Nat.reduceBEq, Bool.or_false, Bool.false_or, Bool.true_or, Nat.reduceSub, Nat.reduceMul, Int.reduceAdd, Int.reduceEq, Int.reduceLT, Int.reduceLE, Int.reduceNeg, Nat.reduceLT, Nat.reduceLeDiff, Nat.reduceEqDiff]; simp; try omega) (by simp only [go_sem, Bool.not_not, List.mem_singleton, forall_eq, ↓reduceIte, if_pos, rowsAt_map, wrap64, wrapu8, List.getElem?_cons_zero, List.getElem?_cons_succ, Int.reduceToNat, Nat.reduceAdd, Nat.reduceBEq, Bool.or_false, Bool.false_or, Bool.true_or, Nat.reduceSub, Nat.reduceMul, Int.reduceAdd, Int.reduceEq, Int.reduceLT, Int.reduceLE, Int.reduceNeg, Nat.reduceLT, Nat.reduceLeDiff, Nat.reduceEqDiff, B.bs])⟩
    rw [List.drop_eq_nil_of_le (by omega), deeps] at h2
    rw [show ((m : Int) + 1) = ((deepF b : Nat) : Int) by omega]
theorem in_drop {s : List UInt8} {i : Nat} {c : Int} (h : i < s.length) : inF (s.drop i) c = (decide (byteAt s i = c) || inF (s.drop (i + 1)) c) := by
  rw [List.drop_eq_getElem_cons h, inF, List.any_cons, byteAt, List.getD_eq_getElem?_getD, List.getElem?_eq_getElem h]; rfl
theorem in_ok (s : List UInt8) (c : Int) (hs : s.length < 4611686018427387904) : AFn env 46 [aS s, aU c] [] (aB (inF s c)) [] := by
  refine afn_body Tryz.func46 rfl (by decide) ?_
  simp only [Tryz.ntmps46, Tryz.results46, List.length_cons, List.length_nil, List.cons_append, List.nil_append, Nat.reduceAdd, Nat.reduceSub, List.replicate]
  repeat' first
  | with_reducible refine awp_seq ?_
  | ((with_reducible refine awp_region ?_); refine zS ?_)
  | with_reducible refine awp_block ?_
  refine awp_loopT (fun i : Nat => i ≤ s.length ∧ inF s c = inF (s.drop i) c) (fun i => s.length - i) (fun i => [(5, aI i)]) (fun _ => []) 0 ⟨by omega, rfl⟩ (by exact zwl) ?_
  rintro i ⟨h1, h2⟩
  refine zT ?_
  repeat' first
  | with_reducible refine awp_seq ?_
  | ((with_reducible refine awp_region ?_); refine zS ?_)
  | ((with_reducible refine AWP_c ?_); refine zcdD ?_ ?_ <;> intro hb hb2 <;> first | contradiction | (exfalso; omega) | ((try refine zH hb2 ?_); try clear hb2))
  | ((with_reducible refine awp_ret ?_); refine fin_r ?_)
  | ((with_reducible refine awp_skip ?_); refine zS ?_)
  | with_reducible refine awp_block ?_
  | ((with_reducible refine awp_exit ?_); refine zS ?_)
  · rw [h2, in_drop (by omega), decide_eq_true ‹_›]; rfl
  · exact ⟨i + 1, ⟨by omega, by rw [h2, in_drop (by omega), decide_eq_false ‹_›]; rfl⟩, by omega, (by exact zwc 0)⟩
  · rw [h2, List.drop_eq_nil_of_le (by omega)]; rfl
theorem has_ok (b : B) : AFn env 47 [b.a] [] (aS (hasF b)) [] := by
  refine afn_body Tryz.func47 rfl (by decide) ?_
  simp only [Tryz.ntmps47, Tryz.results47, List.length_cons, List.length_nil, List.cons_append, List.nil_append, Nat.reduceAdd, Nat.reduceSub, List.replicate]
  repeat' first
  | with_reducible refine awp_seq ?_
  | ((with_reducible refine awp_region ?_); refine zS ?_)
  | ((with_reducible refine AWP_c ?_); refine zcdT ?_)
  | ((with_reducible refine AWP_c ?_); refine zcdD ?_ ?_ <;> intro hb hb2 <;> first | contradiction | (exfalso; omega) | ((try refine zH hb2 ?_); try clear hb2))
  | ((with_reducible refine awp_ret ?_); refine fin_r ?_)
  | ((with_reducible refine awp_skip ?_); refine zS ?_)
  | with_reducible refine awp_block ?_
  all_goals first | (simp [go_sem, hasF, hasK, *]; done) | (simp [go_sem, hasF, hasK, *]; rfl) | trace_state
theorem rNone16_ok (t : T) (hs : t.size < 4611686018427387904) : AFn env 55 [t.a] [] (aB (noneF t)) [] := by
  rw [← eqT_t0]
  refine afn_body Tryz.func55 rfl (by decide) ?_
  simp only [Tryz.ntmps55, Tryz.results55, List.length_cons, List.length_nil, List.cons_append, List.nil_append, Nat.reduceAdd, Nat.reduceSub, List.replicate]
  repeat' first
  | ((with_reducible refine awp_seqQ ?_); intro _ _)
  | ((with_reducible refine awp_region ?_); refine zS ?_)
  | ((with_reducible refine CallK_id ?_); refine zcF ?_; refine ⟨_, by first | exact plain_ok t t0 hs | fail, fun _ => rfl, fun _ => rfl, rfl, ?_⟩; try refine zS ?_)
  | ((with_reducible refine awp_ret ?_); refine q_step (by assumption) ?_)
  | with_reducible refine fin_r ?_
  | ((with_reducible refine q_step (by assumption) ?_); try refine zS ?_)
  all_goals rfl
theorem rOf16_ok (t : T) (k : Int) (hs : t.size < 4611686018427387904) : AFn env 56 [t.a, aI k] [] (aB (ofF t k)) [] := by
  refine afn_body Tryz.func56 rfl (by decide) ?_
  simp only [Tryz.ntmps56, Tryz.results56, List.length_cons, List.length_nil, List.cons_append, List.nil_append, Nat.reduceAdd, Nat.reduceSub, List.replicate]
  repeat' first
  | ((with_reducible refine awp_seqQ ?_); intro _ _)
  | ((with_reducible refine awp_region ?_); refine zS ?_)
  | ((with_reducible refine Gd_d ?_ ?_) <;> intro hb hb2 <;> first | contradiction | (exfalso; omega) | (refine zH hb2 ?_; try clear hb2))
  | ((with_reducible refine CallK_id ?_); refine zcF ?_; refine ⟨_, by first | exact rCheckT_ok t hs | fail, fun _ => rfl, fun _ => rfl, rfl, ?_⟩; try refine zS ?_)
  | ((with_reducible refine awp_ret ?_); refine q_step (by assumption) ?_)
  | with_reducible refine fin_r ?_
  | ((with_reducible refine q_step (by assumption) ?_); try refine zS ?_)
  all_goals simp [go_sem, ofF, *]
def rcL (o : Int) : List T → Nat → Bool
  | [], _ => true
  | t :: l, i => (if (i : Int) = o then noneF t else ofF t 2) && rcL o l (i + 1)
theorem rcL_eq (o : Int) : ∀ (l : List T) (i : Nat), rcL o l i = ((if (i : Int) ≤ o ∧ o < i + l.length then noneF (gt l (o.toNat - i)) else true) && condsL o l i)
  | [], i => by rw [rcL, condsL, if_neg (by simp)]; rfl
  | t :: l, i => by
    rw [rcL, condsL, rcL_eq o l (i + 1)]
    by_cases h : (i : Int) = o
    · have a1 : ¬ (((i + 1 : Nat) : Int) ≤ o ∧ o < ((i + 1 : Nat) : Int) + l.length) := by omega
      have a2 : (i : Int) ≤ o ∧ o < i + ((t :: l).length : Nat) := by simp only [List.length_cons]; omega
      rw [if_pos h, if_neg a1, if_pos a2, decide_eq_true h, show o.toNat - i = 0 by omega]; simp [gt]
    · rw [if_neg h, decide_eq_false h, Bool.false_or]
      by_cases h2 : ((i + 1 : Nat) : Int) ≤ o ∧ o < ((i + 1 : Nat) : Int) + l.length
      · rw [if_pos h2, if_pos (by simp only [List.length_cons]; omega), show o.toNat - i = (o.toNat - (i + 1)) + 1 by omega, show gt (t :: l) (o.toNat - (i + 1) + 1) = gt l (o.toNat - (i + 1)) by simp [gt]]
        cases ofF t 2 <;> cases noneF (gt l (o.toNat - (i + 1))) <;> simp
      · rw [if_neg h2, if_neg (by simp only [List.length_cons]; omega)]; simp
theorem condsR {l : List T} {o : Int} (h : 0 ≤ o ∧ o < l.length) : condsF l o = rcL o l 0 := by
  rw [rcL_eq, if_pos (by omega), condsF, decide_eq_true h.1, decide_eq_true h.2, eqT_t0]; rfl
theorem conds_no {l : List T} {o : Int} (h : ¬ (0 ≤ o ∧ o < l.length)) : condsF l o = false := by
  unfold condsF
  by_cases h0 : 0 ≤ o
  · rw [decide_eq_false (p := o < l.length) (by omega)]; simp
  · rw [decide_eq_false h0]; simp
theorem rc_drop {o : Int} {l : List T} {i : Nat} (h : i < l.length) : rcL o (l.drop i) i = ((if (i : Int) = o then noneF (gt l i) else ofF (gt l i) 2) && rcL o (l.drop (i + 1)) (i + 1)) := by rw [drop_gt h, rcL]
theorem rConds_ok (l : List T) (o : Int) (hs : T.sizes l < 4611686018427387904) : AFn env 57 [aF (l.map T.row), aI o] [] (aB (condsF l o)) [] := by
  have hl := T.len_le l
  have hsz : ∀ i, i < l.length → (gt l i).size < 4611686018427387904 := fun i hi => by have := T.size_kid (gt_mem (l := l) hi); omega
  refine afn_body Tryz.func57 rfl (by decide) ?_
  simp only [Tryz.ntmps57, Tryz.results57, List.length_cons, List.length_nil, List.cons_append, List.nil_append, Nat.reduceAdd, Nat.reduceSub, List.replicate]
  repeat' first
  | with_reducible refine awp_seq ?_
  | ((with_reducible refine awp_region ?_); refine zS ?_)
  | ((with_reducible refine Gd_nd ?_ ?_) <;> intro hb hb2 <;> first | contradiction | (exfalso; omega) | (refine zH hb2 ?_; try clear hb2))
  | ((with_reducible refine AWP_c ?_); refine zcdT ?_)
  | ((with_reducible refine AWP_c ?_); refine zcdD ?_ ?_ <;> intro hb hb2 <;> first | contradiction | (exfalso; omega) | ((try refine zH hb2 ?_); try clear hb2))
  | ((with_reducible refine awp_ret ?_); refine fin_r ?_)
  | ((with_reducible refine awp_skip ?_); refine zS ?_)
  | with_reducible refine awp_block ?_
  all_goals try (rw [conds_no (by omega)]; done)
  refine awp_loopT (fun i : Nat => i ≤ l.length ∧ condsF l o = rcL o (l.drop i) i) (fun i => l.length - i) (fun i => [(17, aI i)]) (fun _ => []) 0 ⟨by omega, condsR (by omega)⟩ (by exact zwl) ?_
  rintro i ⟨h1, h2⟩
  refine zT ?_
  repeat' first
  | with_reducible refine awp_seq ?_
  | ((with_reducible refine awp_region ?_); refine zS ?_)
  | ((with_reducible refine Gd_nd ?_ ?_) <;> intro hb hb2 <;> first | contradiction | (exfalso; omega) | (refine zH hb2 ?_; try clear hb2))
  | ((with_reducible refine Gd_d ?_ ?_) <;> intro hb hb2 <;> first | contradiction | (exfalso; omega) | (refine zH hb2 ?_; try clear hb2))
  | ((with_reducible refine Gd_b ?_ ?_) <;> intro hb <;> first | contradiction | refine zH hb ?_)
  | ((with_reducible refine AWP_c ?_); refine zcdT ?_)
  | ((with_reducible refine AWP_c ?_); refine zcdF ?_)
  | ((with_reducible refine AWP_c ?_); refine zcdD ?_ ?_ <;> intro hb hb2 <;> first | contradiction | (exfalso; omega) | ((try refine zH hb2 ?_); try clear hb2))
  | ((with_reducible refine AWP_c ?_); refine zcdM ?_ ?_ <;> intro hb <;> first | contradiction | (try refine zH hb ?_))
  | ((with_reducible refine awp_ret ?_); refine fin_r ?_)
  | ((with_reducible refine awp_skip ?_); refine zS ?_)
  | with_reducible refine awp_block ?_
  | ((with_reducible refine awp_exit ?_); refine zS ?_)
  | ((with_reducible refine CallK_id ?_); refine zcF ?_; refine ⟨_, by first | exact rNone16_ok (gt l i) (hsz _ (by omega)) | exact rOf16_ok (gt l i) 2 (hsz _ (by omega)) | fail, fun _ => rfl, fun _ => rfl, rfl, ?_⟩; try refine zS ?_)
  all_goals first
    | (rw [h2, rc_drop (by omega), if_pos (by omega)]; simp [*]; done)
    | (rw [h2, rc_drop (by omega), if_neg (by omega)]; simp [*]; done)
    | exact ⟨i + 1, ⟨by omega, by rw [h2, rc_drop (by omega), if_pos (by omega)]; simp [*]⟩, by omega, (by exact zwc 0)⟩
    | exact ⟨i + 1, ⟨by omega, by rw [h2, rc_drop (by omega), if_neg (by omega)]; simp [*]⟩, by omega, (by exact zwc 0)⟩
    | (rw [h2, List.drop_eq_nil_of_le (by omega), rcL]; done)
    | trace_state
theorem cI_drop {l : List Lk} {j : Nat} (h : j < l.length) (i : Int) : cI (l.drop j) i = cI (l.drop (j + 1)) i + (if (gt l j).dst = i then 1 else 0) := by rw [drop_gt h, cI_cons]
theorem cO_drop {l : List Lk} {j : Nat} (h : j < l.length) (i : Int) : cO (l.drop j) i = cO (l.drop (j + 1)) i + (if (gt l j).src = i then 1 else 0) := by rw [drop_gt h, cO_cons]
theorem rIns16_ok (b : B) (i : Int) (hs : b.size < 1000000000000) : AFn env 72 [b.a, aI i] [] (aI (cI b.links i)) [] := by
  have hz := B.size_eq b
  have hc := cI_le b.links i
  refine afn_body Tryz.func72 rfl (by decide) ?_
  simp only [Tryz.ntmps72, Tryz.results72, List.length_cons, List.length_nil, List.cons_append, List.nil_append, Nat.reduceAdd, Nat.reduceSub, List.replicate]
  repeat' first
  | ((with_reducible refine awp_seqQ ?_); intro _ _)
  | ((with_reducible refine awp_region ?_); refine zS ?_)
  | with_reducible refine awp_block ?_
  refine awp_loopT (fun s : Nat × Nat => s.1 ≤ b.links.length ∧ s.2 + cI (b.links.drop s.1) i = cI b.links i) (fun s => b.links.length - s.1) (fun s => [(5, aI s.2), (11, aI s.1)]) (fun s => [some (.box b.bs)]) (0, 0) ⟨by simp, by simp⟩ (wk_le (by simp only [go_sem, Bool.not_not, List.mem_singleton, forall_eq, ↓reduceIte, if_pos, rowsAt_map, wrap64, wrapu8, List.getElem?_cons_zero, List.getElem?_cons_succ, Int.reduceToNat, Nat.reduceAdd, Nat.reduceBEq, Bool.or_false, Bool.false_or, Bool.true_or, Nat.reduceSub, Nat.reduceMul, Int.reduceAdd, Int.reduceEq, Int.reduceLT, Int.reduceLE, Int.reduceNeg, Nat.reduceLT, Nat.reduceLeDiff, Nat.reduceEqDiff]; simp) (by simp only [go_sem, Bool.not_not, List.mem_singleton, forall_eq, ↓reduceIte, if_pos, rowsAt_map, wrap64, wrapu8, List.getElem?_cons_zero, List.getElem?_cons_succ, Int.reduceToNat, Nat.reduceAdd, Nat.reduceBEq, Bool.or_false, Bool.false_or, Bool.true_or, Nat.reduceSub, Nat.reduceMul, Int.reduceAdd, Int.reduceEq, Int.reduceLT, Int.reduceLE, Int.reduceNeg, Nat.reduceLT, Nat.reduceLeDiff, Nat.reduceEqDiff, B.bs])) ?_
  rintro ⟨j, m⟩ ⟨h1, h2⟩
  simp only at h1 h2
  simp only [go_sem, Bool.not_not, List.mem_singleton, forall_eq, ↓reduceIte, if_pos, rowsAt_map, wrap64, wrapu8, List.getElem?_cons_zero, List.getElem?_cons_succ, Int.reduceToNat, Nat.reduceAdd, Nat.reduceBEq, Bool.or_false, Bool.false_or, Bool.true_or, Nat.reduceSub, Nat.reduceMul, Int.reduceAdd, Int.reduceEq, Int.reduceLT, Int.reduceLE, Int.reduceNeg, Nat.reduceLT, Nat.reduceLeDiff, Nat.reduceEqDiff, B.bs]
  repeat' first
  | ((with_reducible refine awp_seqQ ?_); intro _ _)
  | ((with_reducible refine awp_region ?_); refine zS ?_)
  | ((with_reducible refine AWP_c ?_); refine zcdD ?_ ?_ <;> intro hb hb2 <;> first | contradiction | (exfalso; omega) | ((try refine zH hb2 ?_); try clear hb2))
  | ((with_reducible refine awp_skip ?_); try refine zS ?_)
  | with_reducible refine awp_block ?_
  | ((with_reducible refine awp_exit ?_); try refine zS ?_)
  | ((with_reducible refine awp_ret ?_); refine q_step (by assumption) ?_)
  | with_reducible refine fin_r ?_
  | ((with_reducible refine q_step (by assumption) ?_); try refine zS ?_)
  · rw [cI_drop (by omega), if_pos ‹_›] at h2
    exact ⟨(j + 1, m + 1), ⟨by simp only; omega, by simp only; omega⟩, by simp only; omega, wk_cl 1 (by decide) (by simp) (by simp only [go_sem, Bool.not_not, List.mem_singleton, forall_eq, ↓reduceIte, if_pos, rowsAt_map, wrap64, wrapu8, List.getElem?_cons_zero, List.getElem?_cons_succ, Int.reduceToNat, Nat.reduceAdd, Nat.reduceBEq, Bool.or_false, Bool.false_or, Bool.true_or, Nat.reduceSub, Nat.reduceMul, Int.reduceAdd, Int.reduceEq, Int.reduceLT, Int.reduceLE, Int.reduceNeg, Nat.reduceLT, Nat.reduceLeDiff, Nat.reduceEqDiff]; simp; try omega) (by simp only [go_sem, Bool.not_not, List.mem_singleton, forall_eq, ↓reduceIte, if_pos, rowsAt_map, wrap64, wrapu8, List.getElem?_cons_zero, List.getElem?_cons_succ, Int.reduceToNat, Nat.reduceAdd, Nat.reduceBEq, Bool.or_false, Bool.false_or, Bool.true_or, Nat.reduceSub, Nat.reduceMul, Int.reduceAdd, Int.reduceEq, Int.reduceLT, Int.reduceLE, Int.reduceNeg, Nat.reduceLT, Nat.reduceLeDiff, Nat.reduceEqDiff, B.bs])⟩
  · rw [cI_drop (by omega), if_neg ‹_›] at h2
    exact ⟨(j + 1, m), ⟨by simp only; omega, by simp only; omega⟩, by simp only; omega, wk_cl 1 (by decide) (by simp) (by simp only [go_sem, Bool.not_not, List.mem_singleton, forall_eq, ↓reduceIte, if_pos, rowsAt_map, wrap64, wrapu8, List.getElem?_cons_zero, List.getElem?_cons_succ, Int.reduceToNat, Nat.reduceAdd, Nat.reduceBEq, Bool.or_false, Bool.false_or, Bool.true_or, Nat.reduceSub, Nat.reduceMul, Int.reduceAdd, Int.reduceEq, Int.reduceLT, Int.reduceLE, Int.reduceNeg, Nat.reduceLT, Nat.reduceLeDiff, Nat.reduceEqDiff]; simp; try omega) (by simp only [go_sem, Bool.not_not, List.mem_singleton, forall_eq, ↓reduceIte, if_pos, rowsAt_map, wrap64, wrapu8, List.getElem?_cons_zero, List.getElem?_cons_succ, Int.reduceToNat, Nat.reduceAdd, Nat.reduceBEq, Bool.or_false, Bool.false_or, Bool.true_or, Nat.reduceSub, Nat.reduceMul, Int.reduceAdd, Int.reduceEq, Int.reduceLT, Int.reduceLE, Int.reduceNeg, Nat.reduceLT, Nat.reduceLeDiff, Nat.reduceEqDiff, B.bs])⟩
  rw [List.drop_eq_nil_of_le (by omega)] at h2
  rw [show m = cI b.links i by simpa [cI] using h2]
theorem rOuts16_ok (b : B) (i : Int) (hs : b.size < 1000000000000) : AFn env 73 [b.a, aI i] [] (aI (cO b.links i)) [] := by
  have hz := B.size_eq b
  have hc := cO_le b.links i
  refine afn_body Tryz.func73 rfl (by decide) ?_
  simp only [Tryz.ntmps73, Tryz.results73, List.length_cons, List.length_nil, List.cons_append, List.nil_append, Nat.reduceAdd, Nat.reduceSub, List.replicate]
  repeat' first
  | ((with_reducible refine awp_seqQ ?_); intro _ _)
  | ((with_reducible refine awp_region ?_); refine zS ?_)
  | with_reducible refine awp_block ?_
  refine awp_loopT (fun s : Nat × Nat => s.1 ≤ b.links.length ∧ s.2 + cO (b.links.drop s.1) i = cO b.links i) (fun s => b.links.length - s.1) (fun s => [(5, aI s.2), (11, aI s.1)]) (fun s => [some (.box b.bs)]) (0, 0) ⟨by simp, by simp⟩ (wk_le (by simp only [go_sem, Bool.not_not, List.mem_singleton, forall_eq, ↓reduceIte, if_pos, rowsAt_map, wrap64, wrapu8, List.getElem?_cons_zero, List.getElem?_cons_succ, Int.reduceToNat, Nat.reduceAdd, Nat.reduceBEq, Bool.or_false, Bool.false_or, Bool.true_or, Nat.reduceSub, Nat.reduceMul, Int.reduceAdd, Int.reduceEq, Int.reduceLT, Int.reduceLE, Int.reduceNeg, Nat.reduceLT, Nat.reduceLeDiff, Nat.reduceEqDiff]; simp) (by simp only [go_sem, Bool.not_not, List.mem_singleton, forall_eq, ↓reduceIte, if_pos, rowsAt_map, wrap64, wrapu8, List.getElem?_cons_zero, List.getElem?_cons_succ, Int.reduceToNat, Nat.reduceAdd, Nat.reduceBEq, Bool.or_false, Bool.false_or, Bool.true_or, Nat.reduceSub, Nat.reduceMul, Int.reduceAdd, Int.reduceEq, Int.reduceLT, Int.reduceLE, Int.reduceNeg, Nat.reduceLT, Nat.reduceLeDiff, Nat.reduceEqDiff, B.bs])) ?_
  rintro ⟨j, m⟩ ⟨h1, h2⟩
  simp only at h1 h2
  simp only [go_sem, Bool.not_not, List.mem_singleton, forall_eq, ↓reduceIte, if_pos, rowsAt_map, wrap64, wrapu8, List.getElem?_cons_zero, List.getElem?_cons_succ, Int.reduceToNat, Nat.reduceAdd, Nat.reduceBEq, Bool.or_false, Bool.false_or, Bool.true_or, Nat.reduceSub, Nat.reduceMul, Int.reduceAdd, Int.reduceEq, Int.reduceLT, Int.reduceLE, Int.reduceNeg, Nat.reduceLT, Nat.reduceLeDiff, Nat.reduceEqDiff, B.bs]
  repeat' first
  | ((with_reducible refine awp_seqQ ?_); intro _ _)
  | ((with_reducible refine awp_region ?_); refine zS ?_)
  | ((with_reducible refine AWP_c ?_); refine zcdD ?_ ?_ <;> intro hb hb2 <;> first | contradiction | (exfalso; omega) | ((try refine zH hb2 ?_); try clear hb2))
  | ((with_reducible refine awp_skip ?_); try refine zS ?_)
  | with_reducible refine awp_block ?_
  | ((with_reducible refine awp_exit ?_); try refine zS ?_)
  | ((with_reducible refine awp_ret ?_); refine q_step (by assumption) ?_)
  | with_reducible refine fin_r ?_
  | ((with_reducible refine q_step (by assumption) ?_); try refine zS ?_)
  · rw [cO_drop (by omega), if_pos ‹_›] at h2
    exact ⟨(j + 1, m + 1), ⟨by simp only; omega, by simp only; omega⟩, by simp only; omega, wk_cl 1 (by decide) (by simp) (by simp only [go_sem, Bool.not_not, List.mem_singleton, forall_eq, ↓reduceIte, if_pos, rowsAt_map, wrap64, wrapu8, List.getElem?_cons_zero, List.getElem?_cons_succ, Int.reduceToNat, Nat.reduceAdd, Nat.reduceBEq, Bool.or_false, Bool.false_or, Bool.true_or, Nat.reduceSub, Nat.reduceMul, Int.reduceAdd, Int.reduceEq, Int.reduceLT, Int.reduceLE, Int.reduceNeg, Nat.reduceLT, Nat.reduceLeDiff, Nat.reduceEqDiff]; simp; try omega) (by simp only [go_sem, Bool.not_not, List.mem_singleton, forall_eq, ↓reduceIte, if_pos, rowsAt_map, wrap64, wrapu8, List.getElem?_cons_zero, List.getElem?_cons_succ, Int.reduceToNat, Nat.reduceAdd, Nat.reduceBEq, Bool.or_false, Bool.false_or, Bool.true_or, Nat.reduceSub, Nat.reduceMul, Int.reduceAdd, Int.reduceEq, Int.reduceLT, Int.reduceLE, Int.reduceNeg, Nat.reduceLT, Nat.reduceLeDiff, Nat.reduceEqDiff, B.bs])⟩
  · rw [cO_drop (by omega), if_neg ‹_›] at h2
    exact ⟨(j + 1, m), ⟨by simp only; omega, by simp only; omega⟩, by simp only; omega, wk_cl 1 (by decide) (by simp) (by simp only [go_sem, Bool.not_not, List.mem_singleton, forall_eq, ↓reduceIte, if_pos, rowsAt_map, wrap64, wrapu8, List.getElem?_cons_zero, List.getElem?_cons_succ, Int.reduceToNat, Nat.reduceAdd, Nat.reduceBEq, Bool.or_false, Bool.false_or, Bool.true_or, Nat.reduceSub, Nat.reduceMul, Int.reduceAdd, Int.reduceEq, Int.reduceLT, Int.reduceLE, Int.reduceNeg, Nat.reduceLT, Nat.reduceLeDiff, Nat.reduceEqDiff]; simp; try omega) (by simp only [go_sem, Bool.not_not, List.mem_singleton, forall_eq, ↓reduceIte, if_pos, rowsAt_map, wrap64, wrapu8, List.getElem?_cons_zero, List.getElem?_cons_succ, Int.reduceToNat, Nat.reduceAdd, Nat.reduceBEq, Bool.or_false, Bool.false_or, Bool.true_or, Nat.reduceSub, Nat.reduceMul, Int.reduceAdd, Int.reduceEq, Int.reduceLT, Int.reduceLE, Int.reduceNeg, Nat.reduceLT, Nat.reduceLeDiff, Nat.reduceEqDiff, B.bs])⟩
  rw [List.drop_eq_nil_of_le (by omega)] at h2
  rw [show m = cO b.links i by simpa [cO] using h2]
theorem rKid_ok (b : B) (i : Nat) (hs : b.size < 1000000000000) (hi : i < b.kids.length) : AFn env 74 [b.a, aI i] [] (aB (rKidF b i)) [] := by
  refine afn_body Tryz.func74 rfl (by decide) ?_
  simp only [Tryz.ntmps74, Tryz.results74, List.length_cons, List.length_nil, List.cons_append, List.nil_append, Nat.reduceAdd, Nat.reduceSub, List.replicate]
  repeat' first
  | with_reducible refine awp_seq ?_
  | ((with_reducible refine awp_region ?_); refine zS ?_)
  | ((with_reducible refine Gd_d ?_ ?_) <;> intro hb hb2 <;> first | contradiction | (exfalso; omega) | (refine zH hb2 ?_; try clear hb2))
  | ((with_reducible refine AWP_c ?_); refine zcdT ?_)
  | ((with_reducible refine AWP_c ?_); refine zcdN ?_ ?_ <;> intro hb hb2 <;> first | contradiction | (exfalso; omega) | ((try refine zH hb2 ?_); try clear hb2))
  | ((with_reducible refine AWP_c ?_); refine zcdD ?_ ?_ <;> intro hb hb2 <;> first | contradiction | (exfalso; omega) | ((try refine zH hb2 ?_); try clear hb2))
  | ((with_reducible refine awp_ret ?_); refine fin_r ?_)
  | ((with_reducible refine awp_skip ?_); refine zS ?_)
  | with_reducible refine awp_block ?_
  | ((with_reducible refine CallK_id ?_); refine zcF ?_; refine ⟨_, by first | exact rIns16_ok b i hs | exact rOuts16_ok b i hs | fail, fun _ => rfl, fun _ => rfl, rfl, ?_⟩; try refine zS ?_)
  all_goals first | (simp [go_sem, rKidF, *]; done) | (simp [go_sem, rKidF, *]; omega) | trace_state
end Go.Eng
open Go Go.Proofs
namespace Go.Eng
set_option linter.unusedSimpArgs false
set_option linter.unusedVariables false
set_option maxRecDepth 10000
set_option maxHeartbeats 40000000
theorem in0_n : inF [] 110 = false := rfl
theorem in0_a : inF [] 97 = false := rfl
theorem in0_b : inF [] 98 = false := rfl
theorem in0_t : inF [] 116 = false := rfl
theorem in0_c : inF [] 99 = false := rfl
theorem in0_k : inF [] 107 = false := rfl
theorem in0_l : inF [] 108 = false := rfl
theorem in0_p : inF [] 112 = false := rfl
theorem in1_n : inF [110, 97] 110 = true := rfl
theorem in1_a : inF [110, 97] 97 = true := rfl
theorem in1_b : inF [110, 97] 98 = false := rfl
theorem in1_t : inF [110, 97] 116 = false := rfl
theorem in1_c : inF [110, 97] 99 = false := rfl
theorem in1_k : inF [110, 97] 107 = false := rfl
theorem in1_l : inF [110, 97] 108 = false := rfl
theorem in1_p : inF [110, 97] 112 = false := rfl
theorem in2_n : inF [110, 97, 116] 110 = true := rfl
theorem in2_a : inF [110, 97, 116] 97 = true := rfl
theorem in2_b : inF [110, 97, 116] 98 = false := rfl
theorem in2_t : inF [110, 97, 116] 116 = true := rfl
theorem in2_c : inF [110, 97, 116] 99 = false := rfl
theorem in2_k : inF [110, 97, 116] 107 = false := rfl
theorem in2_l : inF [110, 97, 116] 108 = false := rfl
theorem in2_p : inF [110, 97, 116] 112 = false := rfl
theorem in3_n : inF [110] 110 = true := rfl
theorem in3_a : inF [110] 97 = false := rfl
theorem in3_b : inF [110] 98 = false := rfl
theorem in3_t : inF [110] 116 = false := rfl
theorem in3_c : inF [110] 99 = false := rfl
theorem in3_k : inF [110] 107 = false := rfl
theorem in3_l : inF [110] 108 = false := rfl
theorem in3_p : inF [110] 112 = false := rfl
theorem in4_n : inF [107] 110 = false := rfl
theorem in4_a : inF [107] 97 = false := rfl
theorem in4_b : inF [107] 98 = false := rfl
theorem in4_t : inF [107] 116 = false := rfl
theorem in4_c : inF [107] 99 = false := rfl
theorem in4_k : inF [107] 107 = true := rfl
theorem in4_l : inF [107] 108 = false := rfl
theorem in4_p : inF [107] 112 = false := rfl
theorem in5_n : inF [110, 97, 107, 99] 110 = true := rfl
theorem in5_a : inF [110, 97, 107, 99] 97 = true := rfl
theorem in5_b : inF [110, 97, 107, 99] 98 = false := rfl
theorem in5_t : inF [110, 97, 107, 99] 116 = false := rfl
theorem in5_c : inF [110, 97, 107, 99] 99 = true := rfl
theorem in5_k : inF [110, 97, 107, 99] 107 = true := rfl
theorem in5_l : inF [110, 97, 107, 99] 108 = false := rfl
theorem in5_p : inF [110, 97, 107, 99] 112 = false := rfl
theorem in6_n : inF [110, 107] 110 = true := rfl
theorem in6_a : inF [110, 107] 97 = false := rfl
theorem in6_b : inF [110, 107] 98 = false := rfl
theorem in6_t : inF [110, 107] 116 = false := rfl
theorem in6_c : inF [110, 107] 99 = false := rfl
theorem in6_k : inF [110, 107] 107 = true := rfl
theorem in6_l : inF [110, 107] 108 = false := rfl
theorem in6_p : inF [110, 107] 112 = false := rfl
theorem in7_n : inF [110, 97, 107] 110 = true := rfl
theorem in7_a : inF [110, 97, 107] 97 = true := rfl
theorem in7_b : inF [110, 97, 107] 98 = false := rfl
theorem in7_t : inF [110, 97, 107] 116 = false := rfl
theorem in7_c : inF [110, 97, 107] 99 = false := rfl
theorem in7_k : inF [110, 97, 107] 107 = true := rfl
theorem in7_l : inF [110, 97, 107] 108 = false := rfl
theorem in7_p : inF [110, 97, 107] 112 = false := rfl
theorem in8_n : inF [110, 97, 98, 107, 99] 110 = true := rfl
theorem in8_a : inF [110, 97, 98, 107, 99] 97 = true := rfl
theorem in8_b : inF [110, 97, 98, 107, 99] 98 = true := rfl
theorem in8_t : inF [110, 97, 98, 107, 99] 116 = false := rfl
theorem in8_c : inF [110, 97, 98, 107, 99] 99 = true := rfl
theorem in8_k : inF [110, 97, 98, 107, 99] 107 = true := rfl
theorem in8_l : inF [110, 97, 98, 107, 99] 108 = false := rfl
theorem in8_p : inF [110, 97, 98, 107, 99] 112 = false := rfl
theorem in9_n : inF [110, 97, 98, 99] 110 = true := rfl
theorem in9_a : inF [110, 97, 98, 99] 97 = true := rfl
theorem in9_b : inF [110, 97, 98, 99] 98 = true := rfl
theorem in9_t : inF [110, 97, 98, 99] 116 = false := rfl
theorem in9_c : inF [110, 97, 98, 99] 99 = true := rfl
theorem in9_k : inF [110, 97, 98, 99] 107 = false := rfl
theorem in9_l : inF [110, 97, 98, 99] 108 = false := rfl
theorem in9_p : inF [110, 97, 98, 99] 112 = false := rfl
theorem in10_n : inF [107, 108] 110 = false := rfl
theorem in10_a : inF [107, 108] 97 = false := rfl
theorem in10_b : inF [107, 108] 98 = false := rfl
theorem in10_t : inF [107, 108] 116 = false := rfl
theorem in10_c : inF [107, 108] 99 = false := rfl
theorem in10_k : inF [107, 108] 107 = true := rfl
theorem in10_l : inF [107, 108] 108 = true := rfl
theorem in10_p : inF [107, 108] 112 = false := rfl
theorem in11_n : inF [112] 110 = false := rfl
theorem in11_a : inF [112] 97 = false := rfl
theorem in11_b : inF [112] 98 = false := rfl
theorem in11_t : inF [112] 116 = false := rfl
theorem in11_c : inF [112] 99 = false := rfl
theorem in11_k : inF [112] 107 = false := rfl
theorem in11_l : inF [112] 108 = false := rfl
theorem in11_p : inF [112] 112 = true := rfl
attribute [go_sem] in0_n in0_a in0_b in0_t in0_c in0_k in0_l in0_p in1_n in1_a in1_b in1_t in1_c in1_k in1_l in1_p in2_n in2_a in2_b in2_t in2_c in2_k in2_l in2_p in3_n in3_a in3_b in3_t in3_c in3_k in3_l in3_p in4_n in4_a in4_b in4_t in4_c in4_k in4_l in4_p in5_n in5_a in5_b in5_t in5_c in5_k in5_l in5_p in6_n in6_a in6_b in6_t in6_c in6_k in6_l in6_p in7_n in7_a in7_b in7_t in7_c in7_k in7_l in7_p in8_n in8_a in8_b in8_t in8_c in8_k in8_l in8_p in9_n in9_a in9_b in9_t in9_c in9_k in9_l in9_p in10_n in10_a in10_b in10_t in10_c in10_k in10_l in10_p in11_n in11_a in11_b in11_t in11_c in11_k in11_l in11_p
theorem has_some (b : B) : hasF b = [] ∨ hasF b = [110, 97] ∨ hasF b = [110, 97, 116] ∨ hasF b = [110] ∨ hasF b = [107] ∨ hasF b = [110, 97, 107, 99] ∨ hasF b = [110, 107] ∨ hasF b = [110, 97, 107] ∨ hasF b = [110, 97, 98, 107, 99] ∨ hasF b = [110, 97, 98, 99] ∨ hasF b = [107, 108] ∨ hasF b = [112] := by
  unfold hasF hasK
  repeat' split
  all_goals simp
theorem rBare_ok (b : B) (hs : b.t.size < 4611686018427387904) : AFn env 44 [b.a] [] (aB (bareR (hasF b) b)) [] := by
  have hh := has_ok b
  have hH := has_some b
  generalize hasF b = s at *
  refine afn_body Tryz.func44 rfl (by decide) ?_
  simp only [Tryz.ntmps44, Tryz.results44, List.length_cons, List.length_nil, List.cons_append, List.nil_append, Nat.reduceAdd, Nat.reduceSub, List.replicate]
  rcases hH with rfl | rfl | rfl | rfl | rfl | rfl | rfl | rfl | rfl | rfl | rfl | rfl
  all_goals repeat' first
            | ((with_reducible refine awp_seqQ ?_); intro _ _)
            | ((with_reducible refine awp_region ?_); refine zS ?_)
            | ((with_reducible refine Gd_d ?_ ?_) <;> intro hb hb2 <;> first | contradiction | (exfalso; omega) | (refine zH hb2 ?_; try clear hb2))
            | ((with_reducible refine AWP_c ?_); refine zcdT ?_)
            | ((with_reducible refine AWP_c ?_); refine zcdF ?_)
            | ((with_reducible refine AWP_c ?_); refine zcdN ?_ ?_ <;> intro hb hb2 <;> first | contradiction | (exfalso; omega) | ((try refine zH hb2 ?_); try clear hb2))
            | ((with_reducible refine AWP_c ?_); refine zcdM ?_ ?_ <;> intro hb <;> first | contradiction | (try refine zH hb ?_))
            | ((with_reducible refine awp_skip ?_); try refine zS ?_)
            | ((with_reducible refine CallK_id ?_); refine zcF ?_; refine ⟨_, by first | exact hh | exact in_ok _ _ (by simp) | exact rNone16_ok b.t hs | fail, fun _ => rfl, fun _ => rfl, rfl, ?_⟩; try refine zS ?_)
            | ((with_reducible refine awp_ret ?_); refine q_step (by assumption) ?_)
            | with_reducible refine fin_r ?_
            | ((with_reducible refine q_step (by assumption) ?_); try refine zS ?_)
  all_goals (clear hh; first | (simp only [go_sem, bareR, *, not_true_eq_false, not_false_eq_true, Bool.false_or, Bool.true_or, Bool.or_true, Bool.or_false, Bool.true_and, Bool.and_true, Bool.false_and, Bool.and_false, decide_true, decide_false]; done) | trace_state)
end Go.Eng
open Go Go.Proofs
namespace Go.Eng
set_option linter.unusedSimpArgs false
set_option linter.unusedVariables false
set_option maxRecDepth 10000
set_option maxHeartbeats 8000000
theorem any_t {p : Nat → Bool} {n j : Nat} (h : j < n) (hp : p j = true) : (List.range' j (n - j)).any p = true := by
  rw [show n - j = (n - (j + 1)) + 1 by omega, List.range'_succ, List.any_cons, hp, Bool.true_or]
theorem any_f {p : Nat → Bool} {n j : Nat} (h : j < n) (hp : p j = false) : (List.range' j (n - j)).any p = (List.range' (j + 1) (n - (j + 1))).any p := by
  rw [show n - j = (n - (j + 1)) + 1 by omega, List.range'_succ, List.any_cons, hp, Bool.false_or]
theorem rlk_bad {b : B} {j : Nat} (hj : j < b.links.length) (h : lkBad b.kids.length (gt b.links j) = true) : rLinkedF b = false := by
  rw [rLinkedF, if_pos (List.any_eq_true.2 ⟨_, gt_mem hj, h⟩)]
theorem rLinked_ok (b : B) (hs : b.size < 1000000000000) : AFn env 58 [b.a] [] (aB (rLinkedF b)) [] := by
  have hz := B.size_eq b
  have hk := B.len_le b.kids
  have hci := cI_le b.links (-1)
  have hco := cO_le b.links (-1)
  have hil : (inner b.links).length ≤ b.links.length := List.length_filter_le _ _
  refine afn_body Tryz.func58 rfl (by decide) ?_
  simp only [Tryz.ntmps58, Tryz.results58, List.length_cons, List.length_nil, List.cons_append, List.nil_append, Nat.reduceAdd, Nat.reduceSub, List.replicate]
  iterate 2 (refine awp_seq ?_; refine awp_region ?_; refine zS ?_)
  refine awp_wk (wk_virt none (i := 3) (s := 2) (by decide) rfl) ?_
  refine zT ?_
  repeat' first
  | ((with_reducible refine awp_seqQ ?_); intro _ _)
  | ((with_reducible refine awp_region ?_); refine zS ?_)
  | with_reducible refine awp_block ?_
  refine awp_loopT (fun z : Nat × List Lk => z.1 ≤ b.links.length ∧ z.2 ++ inner (b.links.drop z.1) = inner b.links ∧ b.links.any (lkBad b.kids.length) = (b.links.drop z.1).any (lkBad b.kids.length)) (fun z => b.links.length - z.1) (fun z => [(12, aI z.1), (3, OwnK 1 z.2.length)]) (fun z => [some (.box b.bs), RwK z.2]) (0, []) ⟨by simp, by simp, by simp⟩ (by exact zwl) ?_
  rintro ⟨j, es⟩ ⟨h1, h3, h4⟩
  simp only at h1 h3 h4
  have hel : es.length ≤ 1000000000000 := by
    have := congrArg List.length h3
    simp only [List.length_append] at *; omega
  refine zT ?_
  repeat' first
  | ((with_reducible refine awp_seqQ ?_); intro _ _)
  | ((with_reducible refine awp_region ?_); refine zS ?_)
  | ((with_reducible refine Gd_nd ?_ ?_) <;> intro hb hb2 <;> first | contradiction | (exfalso; omega) | (refine zH hb2 ?_; try clear hb2))
  | ((with_reducible refine Gd_d ?_ ?_) <;> intro hb hb2 <;> first | contradiction | (exfalso; omega) | (refine zH hb2 ?_; try clear hb2))
  | ((with_reducible refine AWP_c ?_); refine zcdT ?_)
  | ((with_reducible refine AWP_c ?_); refine zcdF ?_)
  | ((with_reducible refine AWP_c ?_); refine zcdD ?_ ?_ <;> intro hb hb2 <;> first | contradiction | (exfalso; omega) | ((try refine zH hb2 ?_); try clear hb2))
  | ((with_reducible refine awp_skip ?_); try refine zS ?_)
  | with_reducible refine awp_block ?_
  | ((with_reducible refine awp_exit ?_); try refine zS ?_)
  | ((with_reducible refine CallK_id ?_); refine zcF ?_; refine ⟨_, by first | exact rIns16_ok b (-1) hs | exact rOuts16_ok b (-1) hs | fail, fun _ => rfl, fun _ => rfl, rfl, ?_⟩; try refine zS ?_)
  | ((with_reducible refine awp_ret ?_); refine q_step (by assumption) ?_)
  | with_reducible refine fin_r ?_
  | ((with_reducible refine q_step (by assumption) ?_); try refine zS ?_)
  all_goals first
    | (rw [rlk_bad (j := j) (by omega) (by simp [lkBad, *]; done)]; done)
    | exact ⟨(j + 1, es ++ [gt b.links j]), ⟨by simp only; omega, by rw [← h3, inner_t (j := j) (by omega) (by omega) (by omega)]; simp, by rw [h4, bad_drop (j := j) (by omega) (by simp [lkBad]; omega)]⟩, by simp only; omega, wk_cl 2 (by decide) (by simp) (by simp only [go_sem, Bool.not_not, List.mem_singleton, forall_eq, ↓reduceIte, if_pos, rowsAt_map, wrap64, wrapu8, List.getElem?_cons_zero, List.getElem?_cons_succ, Int.reduceToNat, Nat.reduceAdd, Nat.reduceBEq, Bool.or_false, Bool.false_or, Bool.true_or, Nat.reduceSub, Nat.reduceMul, Int.reduceAdd, Int.reduceEq, Int.reduceLT, Int.reduceLE, Int.reduceNeg, Nat.reduceLT, Nat.reduceLeDiff, Nat.reduceEqDiff]; try simp) (by simp only [go_sem, Bool.not_not, List.mem_singleton, forall_eq, ↓reduceIte, if_pos, rowsAt_map, wrap64, wrapu8, List.getElem?_cons_zero, List.getElem?_cons_succ, Int.reduceToNat, Nat.reduceAdd, Nat.reduceBEq, Bool.or_false, Bool.false_or, Bool.true_or, Nat.reduceSub, Nat.reduceMul, Int.reduceAdd, Int.reduceEq, Int.reduceLT, Int.reduceLE, Int.reduceNeg, Nat.reduceLT, Nat.reduceLeDiff, Nat.reduceEqDiff, List.map_append]; try simp [go_sem])⟩
    | exact ⟨(j + 1, es), ⟨by simp only; omega, by rw [← h3, inner_f (j := j) (by omega) (by omega)], by rw [h4, bad_drop (j := j) (by omega) (by simp [lkBad]; omega)]⟩, by simp only; omega, wk_cl 2 (by decide) (by simp) (by simp only [go_sem, Bool.not_not, List.mem_singleton, forall_eq, ↓reduceIte, if_pos, rowsAt_map, wrap64, wrapu8, List.getElem?_cons_zero, List.getElem?_cons_succ, Int.reduceToNat, Nat.reduceAdd, Nat.reduceBEq, Bool.or_false, Bool.false_or, Bool.true_or, Nat.reduceSub, Nat.reduceMul, Int.reduceAdd, Int.reduceEq, Int.reduceLT, Int.reduceLE, Int.reduceNeg, Nat.reduceLT, Nat.reduceLeDiff, Nat.reduceEqDiff]; try simp) (by simp only [go_sem, Bool.not_not, List.mem_singleton, forall_eq, ↓reduceIte, if_pos, rowsAt_map, wrap64, wrapu8, List.getElem?_cons_zero, List.getElem?_cons_succ, Int.reduceToNat, Nat.reduceAdd, Nat.reduceBEq, Bool.or_false, Bool.false_or, Bool.true_or, Nat.reduceSub, Nat.reduceMul, Int.reduceAdd, Int.reduceEq, Int.reduceLT, Int.reduceLE, Int.reduceNeg, Nat.reduceLT, Nat.reduceLeDiff, Nat.reduceEqDiff]; try simp [go_sem])⟩
    | skip
  all_goals
    have hj : j = b.links.length := by omega
    subst hj
    rw [List.drop_length] at h3 h4
    have h4 : b.links.any (lkBad b.kids.length) = false := h4
    have he : es = inner b.links := by rw [← h3]; simp [inner]
    subst he
  all_goals try (rw [rLinkedF, if_neg (by simp [h4]), if_pos (by omega)]; done)
  have h0 : rLinkedF b = if ((List.range' 0 b.kids.length).any fun i => !rKidF b i) = true then false else decide ((rRoundF b.kids.length (inner b.links)).1.length = 0) := by
    rw [rLinkedF, if_neg (by simp [h4]), if_neg (by omega)]
  refine awp_loopT (fun i : Nat => i ≤ b.kids.length ∧ ((List.range' 0 b.kids.length).any fun i => !rKidF b i) = ((List.range' i (b.kids.length - i)).any fun i => !rKidF b i)) (fun i => b.kids.length - i) (fun i => [(80, aI i)]) (fun _ => [some (.box b.bs), RwK (inner b.links)]) 0 ⟨by omega, rfl⟩ (by exact zwl) ?_
  rintro i ⟨g1, g2⟩
  refine zT ?_
  repeat' first
  | ((with_reducible refine awp_seqQ ?_); intro _ _)
  | ((with_reducible refine awp_region ?_); refine zS ?_)
  | ((with_reducible refine AWP_c ?_); refine zcdD ?_ ?_ <;> intro hb hb2 <;> first | contradiction | (exfalso; omega) | ((try refine zH hb2 ?_); try clear hb2))
  | ((with_reducible refine AWP_c ?_); refine zcdM ?_ ?_ <;> intro hb <;> first | contradiction | (try refine zH hb ?_))
  | ((with_reducible refine awp_skip ?_); try refine zS ?_)
  | with_reducible refine awp_block ?_
  | ((with_reducible refine awp_exit ?_); try refine zS ?_)
  | ((with_reducible refine CallK_id ?_); refine zcF ?_; refine ⟨_, by first | exact rKid_ok b i hs (by omega) | exact rRound_ok b.kids.length (inner b.links) (by omega) (by omega) | fail, fun _ => rfl, fun _ => rfl, rfl, ?_⟩; try refine zS ?_)
  | ((with_reducible refine awp_ret ?_); refine q_step (by assumption) ?_)
  | with_reducible refine fin_r ?_
  | ((with_reducible refine q_step (by assumption) ?_); try refine zS ?_)
  · rw [h0, g2, any_t (by omega) (by simp [*]), if_pos rfl]
  · exact ⟨i + 1, ⟨by omega, by rw [g2, any_f (by omega) (by simp [*])]⟩, by omega, (by exact zwc 2)⟩
  rw [show b.kids.length - i = 0 by omega, List.range'_zero, List.any_nil] at g2
  rw [h0, g2, if_neg (by simp)]
  simp [go_sem]
end Go.Eng
open Go Go.Proofs
namespace Go.Eng
set_option linter.unusedSimpArgs false
set_option linter.unusedVariables false
set_option maxRecDepth 10000
set_option maxHeartbeats 40000000
theorem rNumK_ok (k : Int) (n x y : Int) (t : T) (c : List T) (ks : List B) (l : List Lk) (ns : List Nd) (fs : List Fl) (hs : (B.mk k n x y t c ks l ns fs).size < 1000000000000) (hk : k = 1 ∨ k = 2 ∨ k = 3 ∨ k = 4 ∨ k = 5 ∨ k = 6 ∨ k = 7 ∨ k = 8 ∨ k = 9 ∨ k = 10 ∨ k = 11 ∨ k = 12 ∨ k = 13 ∨ k = 14) : AFn env 45 [(B.mk k n x y t c ks l ns fs).a] [] (aB (rNumF (B.mk k n x y t c ks l ns fs))) [] := by
  have hz := B.size_eq (B.mk k n x y t c ks l ns fs)
  have l2 := B.len_le ks
  have l3 := T.len_le c
  have hch := chk5_eq (grB (B.mk k n x y t c ks l ns fs))
  simp only [mk_kids, mk_t, mk_conds] at hz
  refine afn_body Tryz.func45 rfl (by decide) ?_
  simp only [Tryz.ntmps45, Tryz.results45, List.length_cons, List.length_nil, List.cons_append, List.nil_append, Nat.reduceAdd, Nat.reduceSub, List.replicate]
  rcases hk with rfl | rfl | rfl | rfl | rfl | rfl | rfl | rfl | rfl | rfl | rfl | rfl | rfl | rfl
  all_goals repeat' first
            | ((with_reducible refine awp_seqQ ?_); intro _ _)
            | ((with_reducible refine awp_region ?_); refine zS ?_)
            | ((with_reducible refine Gd_nd ?_ ?_) <;> intro hb hb2 <;> first | contradiction | (exfalso; omega) | (refine zH hb2 ?_; try clear hb2))
            | ((with_reducible refine Gd_d ?_ ?_) <;> intro hb hb2 <;> first | contradiction | (exfalso; omega) | (refine zH hb2 ?_; try clear hb2))
            | ((with_reducible refine Gd_b ?_ ?_) <;> intro hb <;> first | contradiction | refine zH hb ?_)
            | ((with_reducible refine AWP_c ?_); refine zcdT ?_)
            | ((with_reducible refine AWP_c ?_); refine zcdF ?_)
            | ((with_reducible refine AWP_c ?_); refine zcdD ?_ ?_ <;> intro hb hb2 <;> first | contradiction | (exfalso; omega) | ((try refine zH hb2 ?_); try clear hb2))
            | ((with_reducible refine awp_skip ?_); try refine zS ?_)
            | with_reducible refine awp_block ?_
            | ((with_reducible refine CallK_id ?_); refine zcF ?_; refine ⟨_, by first | exact rOf16_ok t 1 (by omega) | exact rConds_ok c x (by omega) | exact rConds_ok c y (by omega) | exact rLinked_ok _ hs | exact rCheck5_ok _ (gr0_ok (B.mk 14 n x y t c ks l ns fs) hs) | fail, fun _ => rfl, fun _ => rfl, rfl, ?_⟩; try refine zS ?_)
            | ((with_reducible refine awp_ret ?_); refine q_step (by assumption) ?_)
            | with_reducible refine fin_r ?_
            | ((with_reducible refine q_step (by assumption) ?_); try refine zS ?_)
  all_goals (clear hs hz l2 l3; simp only [grB, mk_nodes, mk_flows] at hch; first | (simp [go_sem, rNumF, numF, *]; done) | (simp [go_sem, rNumF, numF, *]; omega) | (simp [go_sem, rNumF, numF]; omega) | (simp [go_sem, rNumF, numF, *]; first | rfl | exact decide_eq_decide.2 Iff.rfl) | (refine congrArg (fun b => A.c (C.d (D.sc (Value.bool b)))) ?_; rw [Bool.eq_iff_iff]; simp [rNumF, numF, go_sem]; first | done | omega | grind) | trace_state)
theorem rNum0_ok (k : Int) (n x y : Int) (t : T) (c : List T) (ks : List B) (l : List Lk) (ns : List Nd) (fs : List Fl) (hs : (B.mk k n x y t c ks l ns fs).size < 1000000000000) (hk : k < 1 ∨ 14 < k) : AFn env 45 [(B.mk k n x y t c ks l ns fs).a] [] (aB (rNumF (B.mk k n x y t c ks l ns fs))) [] := by
  have e1 : ¬ k = 1 := by omega
  have e2 : ¬ k = 2 := by omega
  have e3 : ¬ k = 3 := by omega
  have e4 : ¬ k = 4 := by omega
  have e5 : ¬ k = 5 := by omega
  have e6 : ¬ k = 6 := by omega
  have e7 : ¬ k = 7 := by omega
  have e8 : ¬ k = 8 := by omega
  have e9 : ¬ k = 9 := by omega
  have e10 : ¬ k = 10 := by omega
  have e11 : ¬ k = 11 := by omega
  have e12 : ¬ k = 12 := by omega
  have e13 : ¬ k = 13 := by omega
  have e14 : ¬ k = 14 := by omega
  have hz := B.size_eq (B.mk k n x y t c ks l ns fs)
  have l2 := B.len_le ks
  simp only [mk_kids, mk_t, mk_conds] at hz
  refine afn_body Tryz.func45 rfl (by decide) ?_
  simp only [Tryz.ntmps45, Tryz.results45, List.length_cons, List.length_nil, List.cons_append, List.nil_append, Nat.reduceAdd, Nat.reduceSub, List.replicate]
  repeat' first
  | ((with_reducible refine awp_seqQ ?_); intro _ _)
  | ((with_reducible refine awp_region ?_); refine zS ?_)
  | ((with_reducible refine Gd_d ?_ ?_) <;> intro hb hb2 <;> first | contradiction | (exfalso; omega) | (refine zH hb2 ?_; try clear hb2))
  | ((with_reducible refine AWP_c ?_); refine zcdD ?_ ?_ <;> intro hb hb2 <;> first | contradiction | (exfalso; omega) | ((try refine zH hb2 ?_); try clear hb2))
  | ((with_reducible refine awp_skip ?_); try refine zS ?_)
  | with_reducible refine awp_block ?_
  | ((with_reducible refine awp_ret ?_); refine q_step (by assumption) ?_)
  | with_reducible refine fin_r ?_
  | ((with_reducible refine q_step (by assumption) ?_); try refine zS ?_)
  all_goals simp [go_sem, rNumF, numF, e1, e2, e3, e4, e5, e6, e7, e8, e9, e10, e11, e12, e13, e14]
theorem rNum_ok (b : B) (hs : b.size < 1000000000000) : AFn env 45 [b.a] [] (aB (rNumF b)) [] := by
  cases b with | mk k n x y t c ks l ns fs =>
  by_cases h : k < 1 ∨ 14 < k
  · exact rNum0_ok k n x y t c ks l ns fs hs h
  · exact rNumK_ok k n x y t c ks l ns fs hs (by omega)
end Go.Eng
open Go Go.Proofs
namespace Go.Eng
set_option linter.unusedSimpArgs false
set_option linter.unusedVariables false
set_option maxRecDepth 10000
set_option maxHeartbeats 8000000
theorem bareR_w {N : B → Bool} {b : B} (h : bareR (hasF b) b = false) : rightF N b = false := by rw [rightF_eq, ← rBare_eq, h]; simp
theorem wrongs_drop {N : B → Bool} {k : Int} {l : List B} {i : Nat} (h : i < l.length) : wrongs N k (l.drop i) = (wrong1 N k (gt l i) || wrongs N k (l.drop (i + 1))) := by rw [drop_gt h, wrongs]; rfl
theorem wrong1_iff {N : B → Bool} {k : Int} {x : B} : wrong1 N k x = true ↔ 13 ≤ x.kind ∨ (x.kind = 12 ∧ k ≠ 13) ∨ (x.kind = 10 ∧ k ≠ 9) ∨ (x.kind ≠ 10 ∧ k = 9) ∨ rightF N x = false := by
  unfold wrong1 badK
  by_cases h1 : x.kind = 10 <;> by_cases h2 : k = 9 <;> simp [h1, h2] <;> first | done | grind
theorem wrong1_f {N : B → Bool} {k : Int} {x : B} (h1 : ¬ 13 ≤ x.kind) (h2 : ¬ (x.kind = 12 ∧ k ≠ 13)) (h3 : ¬ (x.kind = 10 ∧ k ≠ 9)) (h4 : ¬ (x.kind ≠ 10 ∧ k = 9)) (h5 : rightF N x = true) : wrong1 N k x = false := by
  cases h : wrong1 N k x with
  | false => rfl
  | true => rcases wrong1_iff.1 h with h | h | h | h | h <;> first | contradiction | (rw [h] at h5; cases h5)
theorem rForm_ok (b : B) (hs : b.size ≤ 100000) : AFn env 37 [b.a] [] (aB (rightF rNumF b)) [] := by
  generalize hn : b.size = n
  induction n using Nat.strongRecOn generalizing b with
  | _ n ih0 =>
    have ih : ∀ k : B, k.size < b.size → AFn env 37 [k.a] [] (aB (rightF rNumF k)) [] := fun k h => ih0 k.size (by omega) k (by omega) rfl
    have hz := b.size_eq
    have l2 := B.len_le b.kids
    refine afn_body Tryz.func37 rfl (by decide) ?_
    simp only [Tryz.ntmps37, Tryz.results37, List.length_cons, List.length_nil, List.cons_append, List.nil_append, Nat.reduceAdd, Nat.reduceSub, List.replicate]
    repeat' first
    | ((with_reducible refine awp_seqQ ?_); intro _ _)
    | ((with_reducible refine awp_region ?_); refine zS ?_)
    | ((with_reducible refine Gd_nd ?_ ?_) <;> intro hb hb2 <;> first | contradiction | (exfalso; omega) | (refine zH hb2 ?_; try clear hb2))
    | ((with_reducible refine Gd_b ?_ ?_) <;> intro hb <;> first | contradiction | refine zH hb ?_)
    | ((with_reducible refine AWP_c ?_); refine zcdT ?_)
    | ((with_reducible refine AWP_c ?_); refine zcdM ?_ ?_ <;> intro hb <;> first | contradiction | (try refine zH hb ?_))
    | ((with_reducible refine awp_skip ?_); try refine zS ?_)
    | with_reducible refine awp_block ?_
    | ((with_reducible refine CallK_id ?_); refine zcF ?_; refine ⟨_, by first | exact rBare_ok b (by omega) | exact rNum_ok b (by omega) | fail, fun _ => rfl, fun _ => rfl, rfl, ?_⟩; try refine zS ?_)
    | ((with_reducible refine awp_ret ?_); refine q_step (by assumption) ?_)
    | with_reducible refine fin_r ?_
    | ((with_reducible refine q_step (by assumption) ?_); try refine zS ?_)
    all_goals try (rw [bareR_w (by assumption)]; done)
    all_goals try (rw [rightF_eq]; simp [*]; done)
    all_goals try (rw [rightF_eq]; simp [*]; omega)
    have h0 : rightF rNumF b = !wrongs rNumF b.kind b.kids := by
      rw [rightF_eq, ← rBare_eq, ‹bareR _ b = true›, ‹rNumF b = true›, decide_eq_true (p := 0 ≤ b.node) (by omega), decide_eq_true (p := b.node < 24) (by omega), wrongs_eq]; rfl
    refine awp_loopT (fun i : Nat => i ≤ b.kids.length ∧ wrongs rNumF b.kind b.kids = wrongs rNumF b.kind (b.kids.drop i)) (fun i => b.kids.length - i) (fun i => [(26, aI i)]) (fun _ => [some (.box b.bs)]) 0 ⟨by omega, rfl⟩ (wk_le (by simp only [go_sem, Bool.not_not, List.mem_singleton, forall_eq, ↓reduceIte, if_pos, rowsAt_map, wrap64, wrapu8, List.getElem?_cons_zero, List.getElem?_cons_succ, Int.reduceToNat, Nat.reduceAdd, Nat.reduceBEq, Bool.or_false, Bool.false_or, Bool.true_or, Nat.reduceSub, Nat.reduceMul, Int.reduceAdd, Int.reduceEq, Int.reduceLT, Int.reduceLE, Int.reduceNeg, Nat.reduceLT, Nat.reduceLeDiff, Nat.reduceEqDiff]; simp) (by simp only [go_sem, Bool.not_not, List.mem_singleton, forall_eq, ↓reduceIte, if_pos, rowsAt_map, wrap64, wrapu8, List.getElem?_cons_zero, List.getElem?_cons_succ, Int.reduceToNat, Nat.reduceAdd, Nat.reduceBEq, Bool.or_false, Bool.false_or, Bool.true_or, Nat.reduceSub, Nat.reduceMul, Int.reduceAdd, Int.reduceEq, Int.reduceLT, Int.reduceLE, Int.reduceNeg, Nat.reduceLT, Nat.reduceLeDiff, Nat.reduceEqDiff, B.bs])) ?_
    rintro i ⟨h1, h2⟩
    simp only [go_sem, Bool.not_not, List.mem_singleton, forall_eq, ↓reduceIte, if_pos, rowsAt_map, wrap64, wrapu8, List.getElem?_cons_zero, List.getElem?_cons_succ, Int.reduceToNat, Nat.reduceAdd, Nat.reduceBEq, Bool.or_false, Bool.false_or, Bool.true_or, Nat.reduceSub, Nat.reduceMul, Int.reduceAdd, Int.reduceEq, Int.reduceLT, Int.reduceLE, Int.reduceNeg, Nat.reduceLT, Nat.reduceLeDiff, Nat.reduceEqDiff, B.bs]
    repeat' first
    | ((with_reducible refine awp_seqQ ?_); intro _ _)
    | ((with_reducible refine awp_region ?_); refine zS ?_)
    | ((with_reducible refine Gd_nd ?_ ?_) <;> intro hb hb2 <;> first | contradiction | (exfalso; omega) | (refine zH hb2 ?_; try clear hb2))
    | ((with_reducible refine Gd_d ?_ ?_) <;> intro hb hb2 <;> first | contradiction | (exfalso; omega) | (refine zH hb2 ?_; try clear hb2))
    | ((with_reducible refine AWP_c ?_); refine zcdT ?_)
    | ((with_reducible refine AWP_c ?_); refine zcdD ?_ ?_ <;> intro hb hb2 <;> first | contradiction | (exfalso; omega) | ((try refine zH hb2 ?_); try clear hb2))
    | ((with_reducible refine AWP_c ?_); refine zcdM ?_ ?_ <;> intro hb <;> first | contradiction | (try refine zH hb ?_))
    | ((with_reducible refine awp_skip ?_); try refine zS ?_)
    | with_reducible refine awp_block ?_
    | ((with_reducible refine awp_exit ?_); try refine zS ?_)
    | ((with_reducible refine CallK_id ?_); refine zcF ?_; refine ⟨_, by first | exact ih (gt b.kids i) (B.size_lt (gt_mem (by omega))) | fail, fun _ => rfl, fun _ => rfl, rfl, ?_⟩; try refine zS ?_)
    | ((with_reducible refine awp_ret ?_); refine q_step (by assumption) ?_)
    | with_reducible refine fin_r ?_
    | ((with_reducible refine q_step (by assumption) ?_); try refine zS ?_)
    all_goals first
      | (rw [h0, h2, wrongs_drop (by omega), wrong1_iff.2 (by first | (exfalso; omega) | exact .inr (.inr (.inr (.inr (by assumption)))) | exact .inl (by omega) | exact .inr (.inl (by omega)) | exact .inr (.inr (.inl (by omega))) | exact .inr (.inr (.inr (.inl (by omega)))))]; rfl)
      | exact ⟨i + 1, ⟨by omega, by rw [h2, wrongs_drop (by omega), wrong1_f (by omega) (by omega) (by omega) (by omega) (by assumption)]; rfl⟩, by omega, wk_cl 1 (by decide) (by simp) (by simp only [go_sem, Bool.not_not, List.mem_singleton, forall_eq, ↓reduceIte, if_pos, rowsAt_map, wrap64, wrapu8, List.getElem?_cons_zero, List.getElem?_cons_succ, Int.reduceToNat, Nat.reduceAdd, Nat.reduceBEq, Bool.or_false, Bool.false_or, Bool.true_or, Nat.reduceSub, Nat.reduceMul, Int.reduceAdd, Int.reduceEq, Int.reduceLT, Int.reduceLE, Int.reduceNeg, Nat.reduceLT, Nat.reduceLeDiff, Nat.reduceEqDiff]; simp) (by simp only [go_sem, Bool.not_not, List.mem_singleton, forall_eq, ↓reduceIte, if_pos, rowsAt_map, wrap64, wrapu8, List.getElem?_cons_zero, List.getElem?_cons_succ, Int.reduceToNat, Nat.reduceAdd, Nat.reduceBEq, Bool.or_false, Bool.false_or, Bool.true_or, Nat.reduceSub, Nat.reduceMul, Int.reduceAdd, Int.reduceEq, Int.reduceLT, Int.reduceLE, Int.reduceNeg, Nat.reduceLT, Nat.reduceLeDiff, Nat.reduceEqDiff, B.bs])⟩
      | (rw [h0, h2, List.drop_eq_nil_of_le (by omega), wrongs]; rfl)
      | trace_state
theorem timess_drop {n : Int} {l : List B} {i : Nat} (h : i < l.length) : timess n (l.drop i) = timesF n (gt l i) + timess n (l.drop (i + 1)) := by rw [drop_gt h, timess]
theorem nmd_t {b : B} {i : Int} (h : inF (hasF b) 110 = true) (h2 : b.node = i) : nmd b i = 1 := if_pos ⟨h, h2⟩
mutual
theorem timesF_le (n : Int) : ∀ b : B, timesF n b ≤ b.count
  | .mk k m x y t c ks l ns fs => by
    have := timess_le n ks
    have h1 : nmd (.mk k m x y t c ks l ns fs) n ≤ 1 := by unfold nmd; split <;> omega
    rw [timesF, B.count]; omega
theorem timess_le (n : Int) : ∀ l : List B, timess n l ≤ B.counts l
  | [] => by rw [timess]; omega
  | b :: l => by have := timesF_le n b; have := timess_le n l; rw [timess, B.counts]; omega
end
theorem has_len (b : B) : (hasF b).length ≤ 5 := by rcases has_some b with h | h | h | h | h | h | h | h | h | h | h | h <;> rw [h] <;> decide
theorem rTimes_ok (b : B) (m : Int) (hs : b.size ≤ 100000) : AFn env 38 [b.a, aI m] [] (aI (timesF m b)) [] := by
  generalize hn : b.size = n
  induction n using Nat.strongRecOn generalizing b with
  | _ n ih0 =>
    have ih : ∀ k : B, k.size < b.size → AFn env 38 [k.a, aI m] [] (aI (timesF m k)) [] := fun k h => ih0 k.size (by omega) k (by omega) rfl
    have hz := b.size_eq
    have l2 := B.len_le b.kids
    have hd := b.count_le
    have ht := timesF_le m b
    have hte := timesF_eq m b
    refine afn_body Tryz.func38 rfl (by decide) ?_
    simp only [Tryz.ntmps38, Tryz.results38, List.length_cons, List.length_nil, List.cons_append, List.nil_append, Nat.reduceAdd, Nat.reduceSub, List.replicate]
    repeat' first
    | ((with_reducible refine awp_seqQ ?_); intro _ _)
    | ((with_reducible refine awp_region ?_); refine zS ?_)
    | ((with_reducible refine Gd_b ?_ ?_) <;> intro hb <;> first | contradiction | refine zH hb ?_)
    | ((with_reducible refine AWP_c ?_); refine zcdF ?_)
    | ((with_reducible refine AWP_c ?_); refine zcdD ?_ ?_ <;> intro hb hb2 <;> first | contradiction | (exfalso; omega) | ((try refine zH hb2 ?_); try clear hb2))
    | ((with_reducible refine awp_skip ?_); try refine zS ?_)
    | with_reducible refine awp_block ?_
    | ((with_reducible refine CallK_id ?_); refine zcF ?_; refine ⟨_, by first | exact has_ok b | exact in_ok (hasF b) 110 (by have := has_len b; omega) | fail, fun _ => rfl, fun _ => rfl, rfl, ?_⟩; try refine zS ?_)
    | ((with_reducible refine q_step (by assumption) ?_); try refine zS ?_)
    all_goals first
      | have hn1 : nmd b m = 1 := nmd_t (by assumption) (by assumption)
      | have hn1 : nmd b m = 0 := if_neg (by rintro ⟨h, h'⟩; first | contradiction | (rw [‹inF (hasF b) 110 = false›] at h; cases h))
    all_goals (
      refine awp_loopT (fun s : Nat × Nat => s.1 ≤ b.kids.length ∧ s.2 + timess m (b.kids.drop s.1) = timesF m b) (fun s => b.kids.length - s.1) (fun s => [(5, aI s.2), (20, aI s.1)]) (fun s => [some (.box b.bs)]) (0, nmd b m) ⟨by simp, by simp [hte]⟩ (wk_le (by simp only [go_sem, Bool.not_not, List.mem_singleton, forall_eq, ↓reduceIte, if_pos, rowsAt_map, wrap64, wrapu8, List.getElem?_cons_zero, List.getElem?_cons_succ, Int.reduceToNat, Nat.reduceAdd, Nat.reduceBEq, Bool.or_false, Bool.false_or, Bool.true_or, Nat.reduceSub, Nat.reduceMul, Int.reduceAdd, Int.reduceEq, Int.reduceLT, Int.reduceLE, Int.reduceNeg, Nat.reduceLT, Nat.reduceLeDiff, Nat.reduceEqDiff, hn1]; simp) (by simp only [go_sem, Bool.not_not, List.mem_singleton, forall_eq, ↓reduceIte, if_pos, rowsAt_map, wrap64, wrapu8, List.getElem?_cons_zero, List.getElem?_cons_succ, Int.reduceToNat, Nat.reduceAdd, Nat.reduceBEq, Bool.or_false, Bool.false_or, Bool.true_or, Nat.reduceSub, Nat.reduceMul, Int.reduceAdd, Int.reduceEq, Int.reduceLT, Int.reduceLE, Int.reduceNeg, Nat.reduceLT, Nat.reduceLeDiff, Nat.reduceEqDiff, B.bs])) ?_
      clear hn1
      rintro ⟨i, c⟩ ⟨h1, h2⟩
      simp only at h1 h2
      have hc : i < b.kids.length → c + timesF m (gt b.kids i) ≤ b.count := fun h => by rw [timess_drop h] at h2; omega
      simp only [go_sem, Bool.not_not, List.mem_singleton, forall_eq, ↓reduceIte, if_pos, rowsAt_map, wrap64, wrapu8, List.getElem?_cons_zero, List.getElem?_cons_succ, Int.reduceToNat, Nat.reduceAdd, Nat.reduceBEq, Bool.or_false, Bool.false_or, Bool.true_or, Nat.reduceSub, Nat.reduceMul, Int.reduceAdd, Int.reduceEq, Int.reduceLT, Int.reduceLE, Int.reduceNeg, Nat.reduceLT, Nat.reduceLeDiff, Nat.reduceEqDiff, B.bs])
    all_goals repeat' first
              | ((with_reducible refine awp_seqQ ?_); intro _ _)
              | ((with_reducible refine awp_region ?_); refine zS ?_)
              | ((with_reducible refine AWP_c ?_); refine zcdD ?_ ?_ <;> intro hb hb2 <;> first | contradiction | (exfalso; omega) | ((try refine zH hb2 ?_); try clear hb2))
              | ((with_reducible refine awp_skip ?_); try refine zS ?_)
              | with_reducible refine awp_block ?_
              | ((with_reducible refine awp_exit ?_); try refine zS ?_)
              | ((with_reducible refine CallK_id ?_); refine zcF ?_; refine ⟨_, by first | exact ih (gt b.kids i) (B.size_lt (gt_mem (by omega))) | fail, fun _ => rfl, fun _ => rfl, rfl, ?_⟩; try refine zS ?_)
              | ((with_reducible refine awp_ret ?_); refine q_step (by assumption) ?_)
              | with_reducible refine fin_r ?_
              | ((with_reducible refine q_step (by assumption) ?_); try refine zS ?_)
    all_goals first
      | (have hi : i < b.kids.length := (by omega)
         rw [timess_drop hi] at h2
         exact ⟨(i + 1, c + timesF m (gt b.kids i)), ⟨by simp only; omega, by simp only; omega⟩, by simp only; omega, wk_cl 1 (by decide) (by simp) (by simp only [go_sem, Bool.not_not, List.mem_singleton, forall_eq, ↓reduceIte, if_pos, rowsAt_map, wrap64, wrapu8, List.getElem?_cons_zero, List.getElem?_cons_succ, Int.reduceToNat, Nat.reduceAdd, Nat.reduceBEq, Bool.or_false, Bool.false_or, Bool.true_or, Nat.reduceSub, Nat.reduceMul, Int.reduceAdd, Int.reduceEq, Int.reduceLT, Int.reduceLE, Int.reduceNeg, Nat.reduceLT, Nat.reduceLeDiff, Nat.reduceEqDiff]; simp; try omega) (by simp only [go_sem, Bool.not_not, List.mem_singleton, forall_eq, ↓reduceIte, if_pos, rowsAt_map, wrap64, wrapu8, List.getElem?_cons_zero, List.getElem?_cons_succ, Int.reduceToNat, Nat.reduceAdd, Nat.reduceBEq, Bool.or_false, Bool.false_or, Bool.true_or, Nat.reduceSub, Nat.reduceMul, Int.reduceAdd, Int.reduceEq, Int.reduceLT, Int.reduceLE, Int.reduceNeg, Nat.reduceLT, Nat.reduceLeDiff, Nat.reduceEqDiff, B.bs])⟩)
      | (rw [List.drop_eq_nil_of_le (by omega), timess] at h2
         rw [show c = timesF m b by omega])
      | trace_state
theorem any24 {b : B} : ((List.range' 0 24).any fun i : Nat => decide (timesF i b > 1)) = ((List.range' 0 (24 - 0)).any fun i : Nat => decide (timesF i b > 1)) := rfl
theorem rCheck16_ok (b : B) (hs : b.size ≤ 100000) : AFn env 27 [b.a] [] (aI (checkF numF b)) [] := by
  rw [← rChk_eq]
  have hc := b.count_le
  have hd := deepF_le b
  refine afn_body Tryz.func27 rfl (by decide) ?_
  simp only [Tryz.ntmps27, Tryz.results27, List.length_cons, List.length_nil, List.cons_append, List.nil_append, Nat.reduceAdd, Nat.reduceSub, List.replicate]
  repeat' first
  | with_reducible refine awp_seq ?_
  | ((with_reducible refine awp_region ?_); refine zS ?_)
  | ((with_reducible refine Gd_nd ?_ ?_) <;> intro hb hb2 <;> first | contradiction | (exfalso; omega) | (refine zH hb2 ?_; try clear hb2))
  | ((with_reducible refine AWP_c ?_); refine zcdT ?_)
  | ((with_reducible refine AWP_c ?_); refine zcdD ?_ ?_ <;> intro hb hb2 <;> first | contradiction | (exfalso; omega) | ((try refine zH hb2 ?_); try clear hb2))
  | ((with_reducible refine AWP_c ?_); refine zcdM ?_ ?_ <;> intro hb <;> first | contradiction | (try refine zH hb ?_))
  | ((with_reducible refine awp_ret ?_); refine fin_r ?_)
  | ((with_reducible refine awp_skip ?_); refine zS ?_)
  | with_reducible refine awp_block ?_
  | ((with_reducible refine CallK_id ?_); refine zcF ?_; refine ⟨_, by first | exact rSize_ok b (by omega) | exact rDepth_ok b (by omega) | exact rForm_ok b hs | fail, fun _ => rfl, fun _ => rfl, rfl, ?_⟩; try refine zS ?_)
  all_goals first
    | (simp only [rChkF]; rw [if_pos (by first | exact .inl (by omega) | exact .inr (by omega))]; done)
    | (simp only [rChkF]; rw [if_neg (by omega), if_pos (by first | exact .inl (by assumption) | exact .inr (.inl (by assumption)) | exact .inr (.inr (by assumption)))]; done)
    | skip
  have h0 : rChkF b = if ((List.range' 0 24).any fun i : Nat => decide (timesF i b > 1)) = true then 8 else 0 := by
    simp only [rChkF]
    rw [if_neg (by omega), if_neg (by rintro (h | h | h) <;> simp_all)]
  refine awp_loopT (fun i : Nat => i ≤ 24 ∧ rChkF b = if ((List.range' i (24 - i)).any fun i : Nat => decide (timesF i b > 1)) = true then 8 else 0) (fun i => 24 - i) (fun i => [(3, aI i)]) (fun _ => [some (.box b.bs)]) 0 ⟨by omega, h0⟩ (by exact zwl) ?_
  rintro i ⟨h1, h2⟩
  refine zT ?_
  repeat' first
  | with_reducible refine awp_seq ?_
  | ((with_reducible refine awp_region ?_); refine zS ?_)
  | ((with_reducible refine AWP_c ?_); refine zcdD ?_ ?_ <;> intro hb hb2 <;> first | contradiction | (exfalso; omega) | ((try refine zH hb2 ?_); try clear hb2))
  | ((with_reducible refine awp_ret ?_); refine fin_r ?_)
  | ((with_reducible refine awp_skip ?_); refine zS ?_)
  | with_reducible refine awp_block ?_
  | ((with_reducible refine awp_exit ?_); refine zS ?_)
  | ((with_reducible refine CallK_id ?_); refine zcF ?_; refine ⟨_, by first | exact rTimes_ok b i hs | fail, fun _ => rfl, fun _ => rfl, rfl, ?_⟩; try refine zS ?_)
  · rw [h2, any_t (by omega) (by simp; omega), if_pos rfl]
  · exact ⟨i + 1, ⟨by omega, by rw [h2, any_f (by omega) (by simp; omega)]⟩, by omega, (by exact zwc 1)⟩
  rw [h2, show 24 - i = 0 by omega]; rfl
end Go.Eng
