/- Each function of the program, walked over plain data: what it comes to, at all arguments. -/
import Derived.Test.YthodghlpcklaeaaGreatDoorMb
import Derived.Test.YthodghlpcklaeaaGreatDoorEf
import Derived.Test.YthodghlpcklaeaaGreatDoorMa
open Go Go.Proofs
namespace Go.Eng
set_option linter.unusedSimpArgs false
set_option linter.unusedVariables false
set_option maxRecDepth 10000
set_option maxHeartbeats 8000000
def freeE (t : List Bool) (i : Nat) (e : Lk) : Bool := !decide (e.dst = i) || gb t e.src
def freeF (t : List Bool) (l : List Lk) (i : Nat) : Bool := !gt t i && l.all (freeE t i)
def orderN (n : Nat) (l : List Lk) : Nat → List Int → List Bool → List Int
  | 0, o, _ => o
  | k + 1, o, t => match (List.range n).find? (freeF t l) with | none => o | some i => orderN n l k (o ++ [(i : Int)]) (t.set i true)
def orderF (n : Nat) (l : List Lk) : List Int := orderN n l (cf (List.replicate n false)) [] (List.replicate n false)
def ordF (n : Nat) (l : List Lk) : List Int × Int := if (roundF n l).2 ≠ 0 then ([], (roundF n l).2) else if (roundF n l).1.length > 0 then ([], 7) else (orderF n l, 0)
theorem cf_le : ∀ t : List Bool, cf t ≤ t.length
  | [] => by simp [cf]
  | b :: l => by have := cf_le l; simp only [cf, List.length_cons]; split <;> omega
theorem cf_rep : ∀ n, cf (List.replicate n false) = n
  | 0 => rfl
  | n + 1 => by rw [List.replicate_succ, cf, cf_rep n]; simp; omega
def Acy (n : Nat) (l : List Lk) : Prop := ∀ t : List Bool, t.length = n → 0 < cf t → ∃ i, i < n ∧ freeF t l i = true
theorem find_least {n : Nat} {p : Nat → Bool} {i : Nat} (hi : i < n) (hp : p i = true) (hn : ∀ j, j < i → p j = false) : (List.range n).find? p = some i := by
  rw [List.find?_range_eq_some]
  exact ⟨hp, by simpa using hi, fun j hj => by simp [hn j hj]⟩
theorem free_no {t : List Bool} {l : List Lk} {i j : Nat} (h : j < l.length) (he : freeE t i (gt l j) = false) : freeF t l i = false := by
  unfold freeF
  rw [Bool.and_eq_false_iff]
  right
  rw [List.all_eq_false]
  exact ⟨_, gt_mem h, by simp [he]⟩
theorem free_yes {t : List Bool} {l : List Lk} {i : Nat} (h : gt t i = false) (he : ∀ k, k < l.length → freeE t i (gt l k) = true) : freeF t l i = true := by
  unfold freeF
  rw [h, List.all_eq_true.2 (fun e hm => by
    obtain ⟨k, hk, rfl⟩ := List.getElem_of_mem hm
    have := he k hk
    simpa [gt, List.getD, hk] using this)]
  rfl
theorem upto {p : Nat → Prop} {i : Nat} (h : ∀ j, j < i → p j) (hi : p i) : ∀ j, j < i + 1 → p j := fun j hj => by
  rcases Nat.lt_or_ge j i with h' | h'
  · exact h j h'
  · obtain rfl : j = i := by omega
    exact hi
theorem order_ok (n : Nat) (l : List Lk) (hac : (roundF n l).2 = 0 → (roundF n l).1.length = 0 → Acy n l) : AFn env 87 [aI n, aF (l.map Lk.row)] [] (.tup [aF ((ordF n l).1.map iRow), aI (ordF n l).2]) [] := by
  have hf : (roundF n l).2 = 0 → n ≤ 64 ∧ l.length ≤ 256 := fun h => by
    unfold roundF at h
    split at h
    · rename_i h2; have := rkC_in h2; omega
    · exact absurd h ‹_›
  have hin : (roundF n l).2 = 0 → inL n l := fun h => by
    unfold roundF at h
    split at h
    · rename_i h2; have := (rkC_in h2).2; rwa [Int.toNat_natCast] at this
    · exact absurd h ‹_›
  refine afn_body Tryz.func87 rfl (by decide) ?_
  simp only [Tryz.ntmps87, Tryz.results87, List.length_cons, List.length_nil, List.cons_append, List.nil_append, Nat.reduceAdd, Nat.reduceSub, List.replicate]
  repeat' first
  | ((with_reducible refine awp_seqQ ?_); intro _ _)
  | ((with_reducible refine awp_region ?_); refine zS ?_)
  | ((with_reducible refine AWP_c ?_); refine zcdN ?_ ?_ <;> intro hb hb2 <;> first | contradiction | (exfalso; omega) | ((try refine zH hb2 ?_); try clear hb2))
  | ((with_reducible refine AWP_c ?_); refine zcdD ?_ ?_ <;> intro hb hb2 <;> first | contradiction | (exfalso; omega) | ((try refine zH hb2 ?_); try clear hb2))
  | ((with_reducible refine awp_skip ?_); try refine zS ?_)
  | with_reducible refine awp_block ?_
  | ((with_reducible refine CallK_id ?_); refine zcF ?_; refine ⟨_, by first | exact round_ok n l | fail, fun _ => rfl, fun _ => rfl, rfl, ?_⟩; try refine zS ?_)
  | ((with_reducible refine awp_label ?_); try refine zS ?_)
  | ((with_reducible refine awp_scope0 ?_); try refine zS ?_)
  | ((with_reducible refine awp_ret ?_); refine q_step (by assumption) ?_)
  | with_reducible refine fin_r ?_
  | ((with_reducible refine q_step (by assumption) ?_); try refine zS ?_)
  · rw [ordF, if_pos ‹_›]; rfl
  · rw [ordF, if_neg (by simp [*]), if_pos (by omega)]; rfl
  have hq : (roundF n l).2 = 0 := ‹_›
  have hq2 : (roundF n l).1.length = 0 := by omega
  have ha := hac hq hq2
  have hl := hin hq
  have hord : ordF n l = (orderF n l, 0) := by rw [ordF, if_neg (by simp [hq]), if_neg (by omega)]
  refine awp_wk (wk_virt none (i := 9) (s := 1) (by decide) rfl) ?_
  refine zT ?_
  refine awp_loopT (fun z : List Int × List Bool => z.2.length = n ∧ z.1.length + cf z.2 = n ∧ orderN n l (cf z.2) z.1 z.2 = orderF n l) (fun z => cf z.2) (fun z => [(9, Own1 z.1.length), (13, .any), (16, .any)]) (fun z => [RwO z.2, RwZ z.1]) ([], List.replicate n false) ⟨by simp, by simp [cf_rep], by simp [orderF]⟩ (by exact zwl) ?_
  rintro ⟨o, t⟩ ⟨h1, h2, h3⟩
  simp only at h1 h2 h3
  refine zT ?_
  repeat' first
  | ((with_reducible refine awp_seqQ ?_); intro _ _)
  | ((with_reducible refine awp_region ?_); refine zS ?_)
  | ((with_reducible refine AWP_c ?_); refine zcdD ?_ ?_ <;> intro hb hb2 <;> first | contradiction | (exfalso; omega) | ((try refine zH hb2 ?_); try clear hb2))
  | ((with_reducible refine awp_skip ?_); try refine zS ?_)
  | with_reducible refine awp_block ?_
  | ((with_reducible refine awp_exit ?_); try refine zS ?_)
  | ((with_reducible refine awp_label ?_); try refine zS ?_)
  | ((with_reducible refine awp_scope0 ?_); try refine zS ?_)
  | ((with_reducible refine awp_ret ?_); refine q_step (by assumption) ?_)
  | ((with_reducible refine q_step (by assumption) ?_); try refine zS ?_)
  rotate_left
  · have hz : cf t = 0 := by omega
    rw [hz, orderN] at h3
    refine fin_r (r0 := .tup [aF (o.map iRow), aI 0]) (H1 := [RwO t, none]) ?_ (h2 := by simp only [go_sem, Bool.not_not, List.mem_singleton, forall_eq, ↓reduceIte, if_pos, rowsAt_map, wrap64, wrapu8, List.getElem?_cons_zero, List.getElem?_cons_succ, Int.reduceToNat, Nat.reduceAdd, Nat.reduceBEq, Bool.or_false, Bool.false_or, Bool.true_or, Nat.reduceSub, Nat.reduceMul, Int.reduceAdd, Int.reduceEq, Int.reduceLT, Int.reduceLE, Int.reduceNeg, Nat.reduceLT, Nat.reduceLeDiff, Nat.reduceEqDiff, frA, frAs, subR, Nat.le_refl, and_self]; try rfl)
    rw [hord, h3]; rfl
  obtain ⟨x, hx, hfx⟩ := ha t h1 (by omega)
  refine awp_loopT (fun i : Nat => i ≤ n ∧ ∀ j, j < i → freeF t l j = false) (fun i => n - i) (fun i => [(9, Own1 o.length), (34, aI i)]) (fun _ => [RwO t, RwZ o]) 0 ⟨by omega, fun j h => by omega⟩ (by exact zwl) ?_
  rintro i ⟨g1, g2⟩
  refine zT ?_
  repeat' first
  | ((with_reducible refine awp_seqQ ?_); intro _ _)
  | ((with_reducible refine awp_region ?_); refine zS ?_)
  | ((with_reducible refine AWP_c ?_); refine zcdD ?_ ?_ <;> intro hb hb2 <;> first | contradiction | (exfalso; omega) | ((try refine zH hb2 ?_); try clear hb2))
  | ((with_reducible refine AWP_c ?_); refine zcdB ?_ ?_ <;> intro hb <;> first | contradiction | (try refine zH hb ?_))
  | ((with_reducible refine awp_skip ?_); try refine zS ?_)
  | with_reducible refine awp_block ?_
  | ((with_reducible refine awp_exit ?_); try refine zS ?_)
  | ((with_reducible refine q_step (by assumption) ?_); try refine zS ?_)
  · exact ⟨i + 1, ⟨by omega, upto g2 (by simp [freeF, hb])⟩, by omega, (by exact zwc 2)⟩
  rotate_left
  · exfalso
    have := g2 x (by omega)
    rw [hfx] at this
    cases this
  have hti : gt t i = false := ‹_›
  refine awp_loopT (fun j : Nat => j ≤ l.length ∧ ∀ k, k < j → freeE t i (gt l k) = true) (fun j => l.length - j) (fun j => [(43, aI j)]) (fun _ => [RwO t, RwZ o]) 0 ⟨by omega, fun j h => by omega⟩ (by exact zwl) ?_
  rintro j ⟨k1, k2⟩
  have hR : j < l.length → 0 ≤ (gt l j).src ∧ (gt l j).src < n ∧ 0 ≤ (gt l j).dst ∧ (gt l j).dst < n := fun h => hl _ (gt_mem h)
  refine zT ?_
  repeat' first
  | ((with_reducible refine awp_seqQ ?_); intro _ _)
  | ((with_reducible refine awp_region ?_); refine zS ?_)
  | ((with_reducible refine Gd_d ?_ ?_) <;> intro hb hb2 <;> first | contradiction | (exfalso; omega) | (refine zH hb2 ?_; try clear hb2))
  | ((with_reducible refine AWP_c ?_); refine zcdF ?_)
  | ((with_reducible refine AWP_c ?_); refine zcdD ?_ ?_ <;> intro hb hb2 <;> first | contradiction | (exfalso; omega) | ((try refine zH hb2 ?_); try clear hb2))
  | ((with_reducible refine AWP_c ?_); refine zcdM ?_ ?_ <;> intro hb <;> first | contradiction | (try refine zH hb ?_))
  | ((with_reducible refine awp_skip ?_); try refine zS ?_)
  | with_reducible refine awp_block ?_
  | ((with_reducible refine awp_exit ?_); try refine zS ?_)
  | ((with_reducible refine q_step (by assumption) ?_); try refine zS ?_)
  · exact ⟨i + 1, ⟨by omega, upto g2 (free_no (j := j) (by omega) (by simp [freeE, gb, *]))⟩, by omega, (by exact zwc 2)⟩
  · exact ⟨j + 1, ⟨by omega, upto k2 (by simp [freeE, gb, *])⟩, by omega, (by exact zwc 2)⟩
  · exact ⟨j + 1, ⟨by omega, upto k2 (by simp [freeE, gb, *])⟩, by omega, (by exact zwc 2)⟩
  have hfi : freeF t l i = true := free_yes hti (fun k hk => k2 k (by omega))
  have hfd : (List.range n).find? (freeF t l) = some i := find_least (by omega) hfi g2
  have hc := cf_set (s := t) (j := i) (by omega) hti
  rw [← hc, orderN, hfd] at h3
  exact ⟨(o ++ [(i : Int)], t.set i true), ⟨by simpa using h1, by simp only [List.length_append, List.length_cons, List.length_nil]; omega, h3⟩, by simp only; omega, wk_cl 2 (by decide) (by simp) (by simp only [go_sem, Bool.not_not, List.mem_singleton, forall_eq, ↓reduceIte, if_pos, rowsAt_map, wrap64, wrapu8, List.getElem?_cons_zero, List.getElem?_cons_succ, Int.reduceToNat, Nat.reduceAdd, Nat.reduceBEq, Bool.or_false, Bool.false_or, Bool.true_or, Nat.reduceSub, Nat.reduceMul, Int.reduceAdd, Int.reduceEq, Int.reduceLT, Int.reduceLE, Int.reduceNeg, Nat.reduceLT, Nat.reduceLeDiff, Nat.reduceEqDiff]; try simp) (by simp only [go_sem, Bool.not_not, List.mem_singleton, forall_eq, ↓reduceIte, if_pos, rowsAt_map, wrap64, wrapu8, List.getElem?_cons_zero, List.getElem?_cons_succ, Int.reduceToNat, Nat.reduceAdd, Nat.reduceBEq, Bool.or_false, Bool.false_or, Bool.true_or, Nat.reduceSub, Nat.reduceMul, Int.reduceAdd, Int.reduceEq, Int.reduceLT, Int.reduceLE, Int.reduceNeg, Nat.reduceLT, Nat.reduceLeDiff, Nat.reduceEqDiff, List.map_append]; try simp [go_sem])⟩
end Go.Eng
open Go Go.Proofs
namespace Go.Eng
set_option linter.unusedSimpArgs false
set_option linter.unusedVariables false
theorem gt_lt {s : List Bool} {k : Nat} (h : gt s k = true) : k < s.length := by
  rcases Nat.lt_or_ge k s.length with h' | h'
  · exact h'
  · rw [show gt s k = false by simp [gt, List.getD, h']] at h; cases h
theorem gt_mono (s : List Bool) (j k : Nat) (h : gt s k = true) : gt (s.set j true) k = true := by
  by_cases hj : j < s.length
  · rw [gt_set _ _ _ _ hj]; split <;> simp [h]
  · rw [List.set_eq_of_length_le (by omega)]; exact h
theorem spreadN_mono : ∀ (n : Nat) (s : List Bool) (l : List Lk) (k : Nat), gt s k = true → gt (spreadN n s l) k = true
  | 0, s, l, k, h => h
  | n + 1, s, l, k, h => by
    rw [spreadN]
    split
    · exact h
    · exact spreadN_mono n _ l k (gt_mono _ _ _ h)
theorem spreadN_closed {l : List Lk} : ∀ (n : Nat) (s : List Bool), inL s.length l → cf s ≤ n → l.find? (hot (spreadN n s l)) = none
  | 0, s, hl, hc => by
    rw [spreadN]
    cases h : l.find? (hot s) with
    | none => rfl
    | some e => have := (spread_some hl h).2; omega
  | n + 1, s, hl, hc => by
    rw [spreadN]
    cases h : l.find? (hot s) with
    | none => simp [h]
    | some e =>
      have h2 := (spread_some hl h).2
      exact spreadN_closed n _ (by simpa using hl) (by omega)
theorem spread_closed {l : List Lk} {s : List Bool} (hl : inL s.length l) {e : Lk} (he : e ∈ l) (h : gb (spreadF s l) e.src = true) : gb (spreadF s l) e.dst = true := by
  have := spreadN_closed (cf s) s hl (Nat.le_refl _)
  rw [List.find?_eq_none] at this
  have := this e he
  unfold hot at this
  rw [show gb (spreadN (cf s) s l) e.src = true from h] at this
  simpa [spreadF] using this
theorem first1_mono (i : Int) : ∀ (l : List Lk) (s : List Bool) (k : Nat), gt s k = true → gt (first1 i l s) k = true
  | [], s, k, h => h
  | e :: l, s, k, h => by
    rw [first1]
    split
    · exact first1_mono i l _ k (gt_mono _ _ _ h)
    · exact first1_mono i l _ k h
theorem first1_seed (i : Int) : ∀ (l : List Lk) (s : List Bool), inL s.length l → ∀ e ∈ l, e.src = i → gb (first1 i l s) e.dst = true
  | [], s, _, e, h, _ => by simp at h
  | x :: l, s, hl, e, h, he => by
    rw [first1]
    have hx := hl x (by simp)
    rcases List.mem_cons.1 h with rfl | h
    · rw [if_pos he]
      exact first1_mono i l _ _ (by rw [gt_set _ _ _ _ (by omega), if_pos rfl])
    · refine first1_seed i l _ (fun y hy => ?_) e h he
      have := hl y (by simp [hy])
      split <;> simpa using this
def run (l : List Lk) (y x : Int) : Prop := ∀ u : Int → Prop, (∀ e ∈ l, u e.src → u e.dst) → (∀ e ∈ l, e.src = y → u e.dst) → u x
theorem run_trans {l : List Lk} {a b c : Int} (h : run l a b) (g : run l b c) : run l a c := fun u hu hs => g u hu fun e he hb => hu e he (by rw [hb]; exact h u hu hs)
theorem run_edge {l : List Lk} {e : Lk} (h : e ∈ l) : run l e.src e.dst := fun u hu hs => hs e h rfl
theorem run_ahead {n : Nat} {l : List Lk} (hl : inL n l) {i : Nat} {x : Int} (h : run l i x) : gb (aheadF n l i) x = true := by
  have hlen : (first1 i l (List.replicate n false)).length = n := by rw [first1_len]; simp
  refine h (fun k => gb (aheadF n l i) k = true) (fun e he hs => spread_closed (by rw [hlen]; exact hl) he hs) (fun e he hs => ?_)
  exact spreadN_mono _ _ _ _ (first1_seed _ _ _ (by simpa using hl) e he hs)
theorem markL_nil : ∀ (s : List Bool) (i : Nat), (markL s i).length = 0 → ∀ k, gt s k = false
  | [], i, _, k => by simp [gt]
  | b :: l, i, h, k => by
    rw [markL] at h
    split at h
    · simp at h
    · rename_i hb
      cases k with
      | zero => simpa [gt] using hb
      | succ k => have := markL_nil l (i + 1) h k; simpa [gt, List.getD] using this
theorem no_round {n : Nat} {l : List Lk} (h0 : (roundF n l).2 = 0) (h : (roundF n l).1.length = 0) : inL n l ∧ ∀ i : Nat, i < n → ¬ run l i i := by
  unfold roundF at h0 h
  split at h0
  · rename_i hr
    rw [if_pos hr, Int.toNat_natCast] at h
    have hl := (rkC_in hr).2
    rw [Int.toNat_natCast] at hl
    refine ⟨hl, fun i hi hrun => ?_⟩
    have h1 := run_ahead hl hrun
    have h2 := markL_nil _ _ h i
    rw [show gt (seenF n l) i = gt (aheadF n l i) i by simp [seenF, gt, List.getD, hi]] at h2
    rw [show gb (aheadF n l i) i = gt (aheadF n l i) i by simp [gb]] at h1
    rw [h1] at h2; cases h2
  · exact absurd h0 ‹_›
theorem leastR {α : Type} (R : α → α → Prop) (tr : ∀ a b c, R a b → R b c → R a c) : ∀ L : List α, (∀ a ∈ L, ¬ R a a) → L ≠ [] → ∃ m ∈ L, ∀ y ∈ L, ¬ R y m
  | [], _, h => absurd rfl h
  | [a], hr, _ => ⟨a, by simp, fun y hy => by simp at hy; subst hy; exact hr _ (by simp)⟩
  | a :: b :: L, hr, _ => by
    obtain ⟨m, hm, hy⟩ := leastR R tr (b :: L) (fun x hx => hr x (by simp [List.mem_cons.1 hx])) (by simp)
    by_cases h : R a m
    · refine ⟨a, by simp, fun y hy' => ?_⟩
      rcases List.mem_cons.1 hy' with rfl | hy'
      · exact hr _ (by simp)
      · exact fun hya => hy y hy' (tr _ _ _ hya h)
    · refine ⟨m, by simp [List.mem_cons.1 hm], fun y hy' => ?_⟩
      rcases List.mem_cons.1 hy' with rfl | hy'
      · exact h
      · exact hy y hy'
theorem cf_pos : ∀ {t : List Bool}, 0 < cf t → ∃ i, i < t.length ∧ gt t i = false
  | [], h => by simp [cf] at h
  | b :: l, h => by
    cases b with
    | false => exact ⟨0, by simp, rfl⟩
    | true =>
      obtain ⟨i, hi, hg⟩ := cf_pos (t := l) (by simpa [cf] using h)
      exact ⟨i + 1, by simpa using hi, by simpa [gt, List.getD] using hg⟩
theorem acyclic {n : Nat} {l : List Lk} (h0 : (roundF n l).2 = 0) (h : (roundF n l).1.length = 0) : Acy n l := by
  obtain ⟨hl, hr⟩ := no_round h0 h
  intro t ht hc
  obtain ⟨i0, hi0, hg0⟩ := cf_pos hc
  let U := (List.range n).filter fun i => !gt t i
  have hU : ∀ i, i ∈ U ↔ i < n ∧ gt t i = false := fun i => by simp [U]
  obtain ⟨m, hm, hy⟩ := leastR (fun a b : Nat => run l a b) (fun a b c h g => run_trans h g) U (fun a ha => hr a ((hU a).1 ha).1) (by
    intro e
    have := (hU i0).2 ⟨by omega, hg0⟩
    rw [e] at this; cases this)
  obtain ⟨hmn, hmt⟩ := (hU m).1 hm
  refine ⟨m, hmn, ?_⟩
  unfold freeF
  rw [hmt, List.all_eq_true.2 (fun e he => ?_)]
  · rfl
  · unfold freeE
    by_cases hd : e.dst = m
    · have hb := hl e he
      have hs : gb t e.src = true := by
        cases hg : gb t e.src with
        | true => rfl
        | false =>
          exfalso
          refine hy e.src.toNat ((hU _).2 ⟨by omega, hg⟩) ?_
          have := run_edge he
          rw [hd] at this
          rwa [show ((e.src.toNat : Nat) : Int) = e.src by omega]
      simp [hs]
    · simp [hd]
end Go.Eng
open Go Go.Proofs
namespace Go.Eng
set_option linter.unusedSimpArgs false
set_option linter.unusedVariables false
set_option maxRecDepth 10000
set_option maxHeartbeats 8000000
theorem rep_iRow2 (n : Nat) (b : Int) : List.replicate n [D.sc (.int .i64 b)] = (List.replicate n b).map iRow := by rw [List.map_replicate]; rfl
attribute [go_sem] rep_iRow2 Nat.zero_add Nat.mul_one
def Sb (s : List Int) : Option Blk := some (.box (stC s))
attribute [go_sem] Sb
def idx2 (p : Lk → Bool) : List Lk → Nat → List Int
  | [], _ => []
  | f :: l, i => if p f = true then (i : Int) :: idx2 p l (i + 1) else idx2 p l (i + 1)
theorem idx2_len (p : Lk → Bool) : ∀ (l : List Lk) (i : Nat), (idx2 p l i).length ≤ l.length
  | [], _ => by simp [idx2]
  | f :: l, i => by have := idx2_len p l (i + 1); rw [idx2]; split <;> simp <;> omega
theorem idx2_mem {p : Lk → Bool} {k : Int} : ∀ {l : List Lk} {i : Nat}, k ∈ idx2 p l i → (i : Int) ≤ k ∧ k < i + l.length
  | [], i, h => by simp [idx2] at h
  | f :: l, i, h => by
    rw [idx2] at h
    split at h
    · rcases List.mem_cons.1 h with rfl | h
      · simp only [List.length_cons]; omega
      · have := idx2_mem h; simp only [List.length_cons]; omega
    · have := idx2_mem h; simp only [List.length_cons]; omega
def outsK (w : B) (i : Int) : List Int := idx2 (fun f => decide (f.src = i)) w.links 0
def insK (w : B) (i : Int) : List Int := idx2 (fun f => decide (f.dst = i)) w.links 0
theorem outs19_ok (w : B) (i : Int) (hs : w.size < 1000000000000) : AFn env 31 [w.a, aI i] [] (aF ((outsK w i).map iRow)) [] := by
  have hz := B.size_eq w
  refine afn_body Tryz.func31 rfl (by decide) ?_
  simp only [Tryz.ntmps31, Tryz.results31, List.length_cons, List.length_nil, List.cons_append, List.nil_append, Nat.reduceAdd, Nat.reduceSub, List.replicate]
  iterate 2 (refine awp_seq ?_; refine awp_region ?_; refine zS ?_)
  refine awp_wk (wk_virt none (i := 5) (s := 1) (by decide) rfl) ?_
  refine zT ?_
  repeat' first
  | ((with_reducible refine awp_seqQ ?_); intro _ _)
  | ((with_reducible refine awp_region ?_); refine zS ?_)
  | with_reducible refine awp_block ?_
  refine awp_loopT (fun z : Nat × List Int => z.1 ≤ w.links.length ∧ z.2 ++ idx2 (fun f => decide (f.src = i)) (w.links.drop z.1) z.1 = outsK w i ∧ z.2.length ≤ z.1) (fun z => w.links.length - z.1) (fun z => [(5, OwnK 1 z.2.length), (11, aI z.1)]) (fun z => [some (.box w.bs), RwG z.2]) (0, []) ⟨by simp, by simp [outsK], by simp⟩ (by exact zwl) ?_
  rintro ⟨j, o⟩ ⟨h1, h2, h3⟩
  simp only at h1 h2 h3
  refine zT ?_
  repeat' first
  | ((with_reducible refine awp_seqQ ?_); intro _ _)
  | ((with_reducible refine awp_region ?_); refine zS ?_)
  | ((with_reducible refine AWP_c ?_); refine zcdD ?_ ?_ <;> intro hb hb2 <;> first | contradiction | (exfalso; omega) | ((try refine zH hb2 ?_); try clear hb2))
  | ((with_reducible refine awp_skip ?_); try refine zS ?_)
  | with_reducible refine awp_block ?_
  | ((with_reducible refine awp_exit ?_); try refine zS ?_)
  | ((with_reducible refine awp_ret ?_); refine q_step (by assumption) ?_)
  | ((with_reducible refine q_step (by assumption) ?_); try refine zS ?_)
  · exact ⟨(j + 1, o ++ [(j : Int)]), ⟨by simp only; omega, by rw [← h2, drop_gt (l := w.links) (i := j) (by omega), idx2, if_pos (by simp [*])]; simp, by simp; omega⟩, by simp only; omega, wk_cl 2 (by decide) (by simp) (by simp only [go_sem, Bool.not_not, List.mem_singleton, forall_eq, ↓reduceIte, if_pos, rowsAt_map, wrap64, wrapu8, List.getElem?_cons_zero, List.getElem?_cons_succ, Int.reduceToNat, Nat.reduceAdd, Nat.reduceBEq, Bool.or_false, Bool.false_or, Bool.true_or, Nat.reduceSub, Nat.reduceMul, Int.reduceAdd, Int.reduceEq, Int.reduceLT, Int.reduceLE, Int.reduceNeg, Nat.reduceLT, Nat.reduceLeDiff, Nat.reduceEqDiff]; try simp) (by simp only [go_sem, Bool.not_not, List.mem_singleton, forall_eq, ↓reduceIte, if_pos, rowsAt_map, wrap64, wrapu8, List.getElem?_cons_zero, List.getElem?_cons_succ, Int.reduceToNat, Nat.reduceAdd, Nat.reduceBEq, Bool.or_false, Bool.false_or, Bool.true_or, Nat.reduceSub, Nat.reduceMul, Int.reduceAdd, Int.reduceEq, Int.reduceLT, Int.reduceLE, Int.reduceNeg, Nat.reduceLT, Nat.reduceLeDiff, Nat.reduceEqDiff, List.map_append]; try simp [go_sem])⟩
  · exact ⟨(j + 1, o), ⟨by simp only; omega, by rw [← h2, drop_gt (l := w.links) (i := j) (by omega), idx2, if_neg (by simp [*])], by simp only; omega⟩, by simp only; omega, (by exact zwc 2)⟩
  refine fin_r ?_
  rw [List.drop_eq_nil_of_le (by omega), idx2, List.append_nil] at h2
  rw [h2]
theorem ins19_ok (w : B) (i : Int) (hs : w.size < 1000000000000) : AFn env 32 [w.a, aI i] [] (aF ((insK w i).map iRow)) [] := by
  have hz := B.size_eq w
  refine afn_body Tryz.func32 rfl (by decide) ?_
  simp only [Tryz.ntmps32, Tryz.results32, List.length_cons, List.length_nil, List.cons_append, List.nil_append, Nat.reduceAdd, Nat.reduceSub, List.replicate]
  iterate 2 (refine awp_seq ?_; refine awp_region ?_; refine zS ?_)
  refine awp_wk (wk_virt none (i := 5) (s := 1) (by decide) rfl) ?_
  refine zT ?_
  repeat' first
  | ((with_reducible refine awp_seqQ ?_); intro _ _)
  | ((with_reducible refine awp_region ?_); refine zS ?_)
  | with_reducible refine awp_block ?_
  refine awp_loopT (fun z : Nat × List Int => z.1 ≤ w.links.length ∧ z.2 ++ idx2 (fun f => decide (f.dst = i)) (w.links.drop z.1) z.1 = insK w i ∧ z.2.length ≤ z.1) (fun z => w.links.length - z.1) (fun z => [(5, OwnK 1 z.2.length), (11, aI z.1)]) (fun z => [some (.box w.bs), RwG z.2]) (0, []) ⟨by simp, by simp [insK], by simp⟩ (by exact zwl) ?_
  rintro ⟨j, o⟩ ⟨h1, h2, h3⟩
  simp only at h1 h2 h3
  refine zT ?_
  repeat' first
  | ((with_reducible refine awp_seqQ ?_); intro _ _)
  | ((with_reducible refine awp_region ?_); refine zS ?_)
  | ((with_reducible refine AWP_c ?_); refine zcdD ?_ ?_ <;> intro hb hb2 <;> first | contradiction | (exfalso; omega) | ((try refine zH hb2 ?_); try clear hb2))
  | ((with_reducible refine awp_skip ?_); try refine zS ?_)
  | with_reducible refine awp_block ?_
  | ((with_reducible refine awp_exit ?_); try refine zS ?_)
  | ((with_reducible refine awp_ret ?_); refine q_step (by assumption) ?_)
  | ((with_reducible refine q_step (by assumption) ?_); try refine zS ?_)
  · exact ⟨(j + 1, o ++ [(j : Int)]), ⟨by simp only; omega, by rw [← h2, drop_gt (l := w.links) (i := j) (by omega), idx2, if_pos (by simp [*])]; simp, by simp; omega⟩, by simp only; omega, wk_cl 2 (by decide) (by simp) (by simp only [go_sem, Bool.not_not, List.mem_singleton, forall_eq, ↓reduceIte, if_pos, rowsAt_map, wrap64, wrapu8, List.getElem?_cons_zero, List.getElem?_cons_succ, Int.reduceToNat, Nat.reduceAdd, Nat.reduceBEq, Bool.or_false, Bool.false_or, Bool.true_or, Nat.reduceSub, Nat.reduceMul, Int.reduceAdd, Int.reduceEq, Int.reduceLT, Int.reduceLE, Int.reduceNeg, Nat.reduceLT, Nat.reduceLeDiff, Nat.reduceEqDiff]; try simp) (by simp only [go_sem, Bool.not_not, List.mem_singleton, forall_eq, ↓reduceIte, if_pos, rowsAt_map, wrap64, wrapu8, List.getElem?_cons_zero, List.getElem?_cons_succ, Int.reduceToNat, Nat.reduceAdd, Nat.reduceBEq, Bool.or_false, Bool.false_or, Bool.true_or, Nat.reduceSub, Nat.reduceMul, Int.reduceAdd, Int.reduceEq, Int.reduceLT, Int.reduceLE, Int.reduceNeg, Nat.reduceLT, Nat.reduceLeDiff, Nat.reduceEqDiff, List.map_append]; try simp [go_sem])⟩
  · exact ⟨(j + 1, o), ⟨by simp only; omega, by rw [← h2, drop_gt (l := w.links) (i := j) (by omega), idx2, if_neg (by simp [*])], by simp only; omega⟩, by simp only; omega, (by exact zwc 2)⟩
  refine fin_r ?_
  rw [List.drop_eq_nil_of_le (by omega), idx2, List.append_nil] at h2
  rw [h2]
def giveF (os : List Int) (v : Int) (s : List Int) : List Int := os.foldl (fun s k => s.set k.toNat v) s
theorem giveF_len (v : Int) : ∀ (os : List Int) (s : List Int), (giveF os v s).length = s.length
  | [], s => rfl
  | k :: os, s => by rw [giveF, List.foldl_cons]; exact (giveF_len v os _).trans (by simp)
theorem give_drop {os : List Int} {v : Int} {s : List Int} {j : Nat} (h : j < os.length) : giveF (os.drop j) v s = giveF (os.drop (j + 1)) v (s.set (gt os j).toNat v) := by
  rw [drop_gt h]; rfl
structure Wb (w : B) : Prop where
  hs : w.size < 1000000000000
  hl : w.links.length ≤ 40
  hk : w.kids.length ≤ 64
theorem give_ok (w : B) (k v : Int) (s : List Int) (hw : Wb w) (hs : s.length = 104) : AFn env 25 [P0, w.a, aI k, aI v] [Sb s] (.tup []) [Sb (giveF (outsK w k) v s)] := by
  have hl := hw.hl
  have hol : (outsK w k).length ≤ w.links.length := idx2_len _ w.links 0
  have hom : ∀ q ∈ outsK w k, 0 ≤ q ∧ q < w.links.length := fun q hq => by have := idx2_mem hq; omega
  refine afn_body Tryz.func25 rfl (by decide) ?_
  simp only [Tryz.ntmps25, Tryz.results25, List.length_cons, List.length_nil, List.cons_append, List.nil_append, Nat.reduceAdd, Nat.reduceSub, List.replicate]
  repeat' first
  | ((with_reducible refine awp_seqQ ?_); intro _ _)
  | ((with_reducible refine awp_region ?_); refine zS ?_)
  | with_reducible refine awp_block ?_
  | ((with_reducible refine CallK_id ?_); refine zcF ?_; refine ⟨_, by first | exact outs19_ok w k hw.hs | fail, ?_⟩; refine ⟨fun _ => by (first | rfl | simp only [go_sem]; done), fun _ => by (first | rfl | simp only [go_sem]; done), by (first | rfl | (simp [okAs, okA, okCs, okC, okC_st, go_sem]; done)), ?_⟩; try refine zS ?_)
  refine awp_loopT (fun z : Nat × List Int => z.1 ≤ (outsK w k).length ∧ z.2.length = 104 ∧ giveF (outsK w k) v s = giveF ((outsK w k).drop z.1) v z.2) (fun z => (outsK w k).length - z.1) (fun z => [(14, aI z.1)]) (fun z => [Sb z.2, some (.box w.bs)]) (0, s) ⟨by simp, hs, rfl⟩ (by exact zwl) ?_
  rintro ⟨j, t⟩ ⟨h1, h2, h3⟩
  simp only at h1 h2 h3
  have hR : j < (outsK w k).length → 0 ≤ gt (outsK w k) j ∧ gt (outsK w k) j < 40 := fun h => by have := hom _ (gt_mem h); omega
  refine zT ?_
  repeat' first
  | ((with_reducible refine awp_seqQ ?_); intro _ _)
  | ((with_reducible refine awp_region ?_); refine zS ?_)
  | ((with_reducible refine AWP_c ?_); refine zcdD ?_ ?_ <;> intro hb hb2 <;> first | contradiction | (exfalso; omega) | ((try refine zH hb2 ?_); try clear hb2))
  | with_reducible refine fin_qn ?_ ?_
  | ((with_reducible refine awp_skip ?_); try refine zS ?_)
  | with_reducible refine awp_block ?_
  | ((with_reducible refine awp_exit ?_); try refine zS ?_)
  | ((with_reducible refine q_step (by assumption) ?_); try refine zS ?_)
  · exact ⟨(j + 1, t.set (gt (outsK w k) j).toNat v), ⟨by simp only; omega, by simpa using h2, by rw [h3, give_drop (by omega)]⟩, by simp only; omega, (by exact zwc 2)⟩
  · rfl
  · rw [h3, List.drop_eq_nil_of_le (by omega)]; rfl
def takenF (s : List Int) : List Int → Int
  | [] => 0
  | k :: l => (if gt s k.toNat = 1 then 1 else 0) + takenF s l
theorem takenF_le (s : List Int) : ∀ l : List Int, 0 ≤ takenF s l ∧ takenF s l ≤ l.length
  | [] => by simp [takenF]
  | o :: l => by have := takenF_le s l; rw [takenF]; simp only [List.length_cons]; split <;> omega
theorem taken_drop {s os : List Int} {j : Nat} (h : j < os.length) : takenF s (os.drop j) = (if gt s (gt os j).toNat = 1 then 1 else 0) + takenF s (os.drop (j + 1)) := by rw [drop_gt h, takenF]
def livesF (s : List Int) (w : B) (i : Nat) : Bool := if (gt w.kids i).kind = 12 ∧ (gt w.kids i).x = 2 then decide (takenF s (insK w i) = (insK w i).length) else decide (takenF s (insK w i) > 0)
theorem lives_ok (w : B) (i : Nat) (s : List Int) (hw : Wb w) (hs : s.length = 104) (hi : i < w.kids.length) : AFn env 43 [P0, w.a, aI i] [Sb s] (aB (livesF s w i)) [Sb s] := by
  have hl := hw.hl
  have hk := hw.hk
  have hil : (insK w i).length ≤ w.links.length := idx2_len _ w.links 0
  have him : ∀ q ∈ insK w i, 0 ≤ q ∧ q < w.links.length := fun q hq => by have := idx2_mem hq; omega
  refine afn_body Tryz.func43 rfl (by decide) ?_
  simp only [Tryz.ntmps43, Tryz.results43, List.length_cons, List.length_nil, List.cons_append, List.nil_append, Nat.reduceAdd, Nat.reduceSub, List.replicate]
  repeat' first
  | ((with_reducible refine awp_seqQ ?_); intro _ _)
  | ((with_reducible refine awp_region ?_); refine zS ?_)
  | with_reducible refine awp_block ?_
  | ((with_reducible refine CallK_id ?_); refine zcF ?_; refine ⟨_, by first | exact ins19_ok w i hw.hs | fail, ?_⟩; refine ⟨fun _ => by (first | rfl | simp only [go_sem]; done), fun _ => by (first | rfl | simp only [go_sem]; done), by (first | rfl | (simp [okAs, okA, okCs, okC, okC_st, go_sem]; done)), ?_⟩; try refine zS ?_)
  refine awp_loopT (fun z : Nat × Int => z.1 ≤ (insK w i).length ∧ z.2 + takenF s ((insK w i).drop z.1) = takenF s (insK w i) ∧ 0 ≤ z.2 ∧ z.2 ≤ z.1) (fun z => (insK w i).length - z.1) (fun z => [(7, aI z.2), (16, aI z.1)]) (fun z => [Sb s, some (.box w.bs)]) (0, 0) ⟨by simp, by simp, by simp, by simp⟩ (by exact zwl) ?_
  rintro ⟨j, c⟩ ⟨h1, h2, h3, h4⟩
  simp only at h1 h2 h3 h4
  have hR : j < (insK w i).length → 0 ≤ gt (insK w i) j ∧ gt (insK w i) j < 40 := fun h => by have := him _ (gt_mem h); omega
  refine zT ?_
  repeat' first
  | ((with_reducible refine awp_seqQ ?_); intro _ _)
  | ((with_reducible refine awp_region ?_); refine zS ?_)
  | ((with_reducible refine Gd_d ?_ ?_) <;> intro hb hb2 <;> first | contradiction | (exfalso; omega) | (refine zH hb2 ?_; try clear hb2))
  | ((with_reducible refine AWP_c ?_); refine zcdF ?_)
  | ((with_reducible refine AWP_c ?_); refine zcdD ?_ ?_ <;> intro hb hb2 <;> first | contradiction | (exfalso; omega) | ((try refine zH hb2 ?_); try clear hb2))
  | ((with_reducible refine awp_skip ?_); try refine zS ?_)
  | with_reducible refine awp_block ?_
  | ((with_reducible refine awp_exit ?_); try refine zS ?_)
  | ((with_reducible refine awp_ret ?_); refine q_step (by assumption) ?_)
  | with_reducible refine fin_r ?_
  | ((with_reducible refine q_step (by assumption) ?_); try refine zS ?_)
  all_goals first
    | (have hT := taken_drop (s := s) (os := insK w i) (j := j) (by omega)
       first
       | (rw [if_pos ‹_›] at hT; exact ⟨(j + 1, c + 1), ⟨by simp only; omega, by simp only; omega, by simp only; omega, by simp only; omega⟩, by simp only; omega, (by exact zwc 2)⟩)
       | (rw [if_neg ‹_›] at hT; exact ⟨(j + 1, c), ⟨by simp only; omega, by simp only; omega, by simp only; omega, by simp only; omega⟩, by simp only; omega, (by exact zwc 2)⟩))
    | (rw [List.drop_eq_nil_of_le (by omega), takenF] at h2
       rw [show takenF s (insK w i) = c by omega]
       trace_state)
    | (have hc : c = takenF s (insK w i) := (by rw [List.drop_eq_nil_of_le (by omega), takenF] at h2; omega)
       subst hc
       unfold livesF
       first | (rw [if_pos ⟨by assumption, by assumption⟩]; done) | (rw [if_neg (by omega)]; done))
    | trace_state
def fateF (s : List Int) (w : B) (i : Nat) : List Int := if livesF s w i = false then giveF (outsK w i) 2 (s.set (40 + i) 3) else if (gt w.kids i).kind = 12 ∧ (gt w.kids i).x ≠ 3 then giveF (outsK w i) 1 (s.set (40 + i) 2) else s.set (40 + i) 1
theorem fate_ok (w : B) (i : Nat) (s : List Int) (hw : Wb w) (hs : s.length = 104) (hi : i < w.kids.length) : AFn env 34 [P0, w.a, aI i] [Sb s] (.tup []) [Sb (fateF s w i)] := by
  have hl := hw.hl
  have hk := hw.hk
  have hg : ∀ os v t, (giveF os v t).length = t.length := fun os v t => giveF_len v os t
  refine afn_body Tryz.func34 rfl (by decide) ?_
  simp only [Tryz.ntmps34, Tryz.results34, List.length_cons, List.length_nil, List.cons_append, List.nil_append, Nat.reduceAdd, Nat.reduceSub, List.replicate]
  repeat' first
  | ((with_reducible refine awp_seqQ ?_); intro _ _)
  | ((with_reducible refine awp_region ?_); refine zS ?_)
  | ((with_reducible refine Gd_d ?_ ?_) <;> intro hb hb2 <;> first | contradiction | (exfalso; omega) | (refine zH hb2 ?_; try clear hb2))
  | ((with_reducible refine AWP_c ?_); refine zcdF ?_)
  | ((with_reducible refine AWP_c ?_); refine zcdN ?_ ?_ <;> intro hb hb2 <;> first | contradiction | (exfalso; omega) | ((try refine zH hb2 ?_); try clear hb2))
  | ((with_reducible refine AWP_c ?_); refine zcdM ?_ ?_ <;> intro hb <;> first | contradiction | (try refine zH hb ?_))
  | with_reducible refine fin_qn ?_ ?_
  | with_reducible refine awp_block ?_
  | ((with_reducible refine CallK_id ?_); refine zcT [0] ?_; refine ⟨_, _, by first | exact lives_ok w i s hw hs hi | exact give_ok w i _ _ hw (by simpa using hs) | fail, ?_⟩; try refine zS ?_)
  | ((with_reducible refine q_step (by assumption) ?_); try refine zS ?_)
  all_goals first
    | rfl
    | (rw [fateF, if_pos (by assumption)]; done)
    | (rw [fateF, if_neg (by simp [*]), if_pos (by omega)]; done)
    | (rw [fateF, if_neg (by simp [*]), if_neg (by omega)]; done)
    | trace_state
end Go.Eng
open Go Go.Proofs
namespace Go.Eng
set_option linter.unusedSimpArgs false
set_option linter.unusedVariables false
set_option maxRecDepth 10000
set_option maxHeartbeats 16000000
theorem gtI_set2 (s : List Int) (i j : Nat) (b : Int) (h : i < s.length) : gt (s.set i b) j = if i = j then b else gt s j := by
  unfold gt
  rw [List.getD_eq_getElem?_getD, List.getElem?_set, List.getD_eq_getElem?_getD]
  split
  · rename_i e; subst e; simp [h]
  · rfl
theorem give_get {v : Int} : ∀ {os : List Int} {s : List Int} {j : Nat}, (∀ q ∈ os, 0 ≤ q ∧ q < 40) → 40 ≤ j → s.length = 104 → gt (giveF os v s) j = gt s j
  | [], s, j, _, _, _ => rfl
  | k :: os, s, j, h, hj, hs => by
    have hk := h k (by simp)
    show gt (giveF os v (s.set k.toNat v)) j = _
    rw [give_get (fun q hq => h q (by simp [hq])) hj (by simpa using hs), gtI_set2 _ _ _ _ (by omega), if_neg (by omega)]
theorem fateF_len (s : List Int) (w : B) (i : Nat) : (fateF s w i).length = s.length := by
  unfold fateF; split
  · rw [giveF_len]; simp
  · split
    · rw [giveF_len]; simp
    · simp
theorem outs_40 {w : B} (hw : Wb w) (i : Int) : ∀ q ∈ outsK w i, 0 ≤ q ∧ q < 40 := fun q hq => by have := idx2_mem hq; have := hw.hl; omega
theorem ins_40 {w : B} (hw : Wb w) (i : Int) : ∀ q ∈ insK w i, 0 ≤ q ∧ q < 40 := fun q hq => by have := idx2_mem hq; have := hw.hl; omega
theorem fate_get {s : List Int} {w : B} {i j : Nat} (hw : Wb w) (hs : s.length = 104) (hi : i < w.kids.length) (hj : j < w.kids.length) : (j ≠ i → gt (fateF s w i) (40 + j) = gt s (40 + j)) ∧ gt (fateF s w i) (40 + i) ≠ 0 := by
  have hk := hw.hk
  have ho := outs_40 hw i
  unfold fateF
  split
  · rw [give_get ho (by omega) (by simpa using hs), give_get ho (by omega) (by simpa using hs), gtI_set2 _ _ _ _ (by omega), gtI_set2 _ _ _ _ (by omega), if_pos rfl]
    exact ⟨fun h => by rw [if_neg (by omega)], by decide⟩
  · split
    · rw [give_get ho (by omega) (by simpa using hs), give_get ho (by omega) (by simpa using hs), gtI_set2 _ _ _ _ (by omega), gtI_set2 _ _ _ _ (by omega), if_pos rfl]
      exact ⟨fun h => by rw [if_neg (by omega)], by decide⟩
    · rw [gtI_set2 _ _ _ _ (by omega), gtI_set2 _ _ _ _ (by omega), if_pos rfl]
      exact ⟨fun h => by rw [if_neg (by omega)], by decide⟩
def waits (s : List Int) : Nat → Nat
  | 0 => 0
  | n + 1 => (if gt s (40 + n) = 0 then 1 else 0) + waits s n
theorem waits_le (s : List Int) : ∀ n, waits s n ≤ n
  | 0 => Nat.le_refl _
  | n + 1 => by have := waits_le s n; rw [waits]; split <;> omega
theorem waits_lt {s t : List Int} {i : Nat} : ∀ {n : Nat}, i < n → gt s (40 + i) = 0 → gt t (40 + i) ≠ 0 → (∀ j, j < n → j ≠ i → gt t (40 + j) = gt s (40 + j)) → waits t n < waits s n ∧ True
  | 0, h, _, _, _ => by omega
  | n + 1, h, h1, h2, h3 => by
    refine ⟨?_, trivial⟩
    rw [waits, waits]
    by_cases hn : i = n
    · subst hn
      rw [if_pos h1, if_neg h2]
      have : ∀ m, m ≤ i → waits t m = waits s m := fun m hm => by
        induction m with
        | zero => rfl
        | succ m ih => rw [waits, waits, ih (by omega), h3 m (by omega) (by omega)]
      rw [this i (Nat.le_refl _)]; omega
    · have := waits_lt (n := n) (by omega) h1 h2 (fun j hj => h3 j (by omega))
      rw [h3 n (by omega) (by omega)]
      omega
def ready (s : List Int) (w : B) (i : Nat) : Bool := decide (gt s (40 + i) = 0) && (insK w i).all (fun k => decide (gt s k.toNat ≠ 0))
def pickF (s : List Int) (w : B) : Option Nat := (List.range' 0 w.kids.length).find? (ready s w)
def settleN (w : B) : Nat → List Int → List Int
  | 0, s => s
  | k + 1, s => match pickF s w with | none => s | some i => settleN w k (fateF s w i)
def settleF (s : List Int) (w : B) : List Int := settleN w (waits s w.kids.length) s
theorem settle_none {s : List Int} {w : B} (h : pickF s w = none) : settleF s w = s := by
  unfold settleF
  cases waits s w.kids.length with
  | zero => rfl
  | succ n => rw [settleN, h]
theorem pick_spec {s : List Int} {w : B} {i : Nat} (h : pickF s w = some i) : i < w.kids.length ∧ gt s (40 + i) = 0 := by
  have hm := List.mem_of_find?_eq_some h
  have hh := List.find?_some h
  obtain ⟨j, hj, rfl⟩ := List.mem_range'.1 hm
  refine ⟨by omega, ?_⟩
  unfold ready at hh
  simp only [Bool.and_eq_true, decide_eq_true_eq] at hh
  exact hh.1
theorem fate_waits {s : List Int} {w : B} {i : Nat} (hw : Wb w) (hs : s.length = 104) (hi : i < w.kids.length) (h0 : gt s (40 + i) = 0) : waits (fateF s w i) w.kids.length < waits s w.kids.length :=
  (waits_lt hi h0 (fate_get hw hs hi hi).2 (fun j hj hne => (fate_get hw hs hi hj).1 hne)).1
theorem settleN_len (w : B) : ∀ (k : Nat) (s : List Int), (settleN w k s).length = s.length
  | 0, s => rfl
  | k + 1, s => by
    rw [settleN]
    split
    · rfl
    · rw [settleN_len w k, fateF_len]
theorem settleF_len (s : List Int) (w : B) : (settleF s w).length = s.length := settleN_len w _ s
theorem settleN_none {s : List Int} {w : B} (h : pickF s w = none) : ∀ k, settleN w k s = s
  | 0 => rfl
  | k + 1 => by rw [settleN, h]
theorem settleN_more {w : B} (hw : Wb w) : ∀ (k : Nat) (s : List Int), s.length = 104 → waits s w.kids.length ≤ k → settleN w k s = settleN w (waits s w.kids.length) s := by
  intro k
  induction k using Nat.strongRecOn with
  | _ k ih =>
    intro s hs hk
    cases hp : pickF s w with
    | none => rw [settleN_none hp, settleN_none hp]
    | some i =>
      have h1 := pick_spec hp
      have h2 := fate_waits hw hs h1.1 h1.2
      obtain ⟨m, hm⟩ : ∃ m, waits s w.kids.length = m + 1 := ⟨waits s w.kids.length - 1, by omega⟩
      obtain ⟨k', rfl⟩ : ∃ k', k = k' + 1 := ⟨k - 1, by omega⟩
      rw [hm, settleN, settleN, hp]
      simp only
      have hf : (fateF s w i).length = 104 := by rw [fateF_len]; exact hs
      rw [ih k' (by omega) _ hf (by omega), ih m (by omega) _ hf (by omega)]
theorem settle_some {s : List Int} {w : B} {i : Nat} (hw : Wb w) (hs : s.length = 104) (h : pickF s w = some i) : settleF s w = settleF (fateF s w i) w ∧ waits (fateF s w i) w.kids.length < waits s w.kids.length ∧ fateF s w i ≠ s := by
  have h1 := pick_spec h
  have h2 := fate_waits hw hs h1.1 h1.2
  refine ⟨?_, h2, fun e => by rw [e] at h2; omega⟩
  unfold settleF
  obtain ⟨m, hm⟩ : ∃ m, waits s w.kids.length = m + 1 := ⟨waits s w.kids.length - 1, by omega⟩
  rw [hm, settleN, h]
  simp only
  exact settleN_more hw m _ (by rw [fateF_len]; exact hs) (by omega)
theorem pick_t {s : List Int} {w : B} {i : Nat} (hi : i < w.kids.length) (h : ready s w i = true) : (List.range' i (w.kids.length - i)).find? (ready s w) = some i := by
  rw [show w.kids.length - i = (w.kids.length - (i + 1)) + 1 by omega, List.range'_succ, List.find?_cons_of_pos h]
theorem pick_f {s : List Int} {w : B} {i : Nat} (hi : i < w.kids.length) (h : ready s w i = false) : (List.range' i (w.kids.length - i)).find? (ready s w) = (List.range' (i + 1) (w.kids.length - (i + 1))).find? (ready s w) := by
  rw [show w.kids.length - i = (w.kids.length - (i + 1)) + 1 by omega, List.range'_succ, List.find?_cons_of_neg (by simp [h])]
theorem ready_k {s : List Int} {w : B} {i : Nat} (h : ¬ gt s (40 + i) = 0) : ready s w i = false := by simp [ready, h]
theorem ready_l {s : List Int} {w : B} {i j : Nat} (hj : j < (insK w i).length) (h : gt s (gt (insK w i) j).toNat = 0) : ready s w i = false := by
  unfold ready
  rw [show ((insK w i).all fun k => decide (gt s k.toNat ≠ 0)) = false by
    rw [List.all_eq_false]; exact ⟨_, gt_mem hj, by simp [h]⟩]
  simp
theorem ready_t {s : List Int} {w : B} {i : Nat} (h : gt s (40 + i) = 0) (h2 : ∀ j, j < (insK w i).length → ¬ gt s (gt (insK w i) j).toNat = 0) : ready s w i = true := by
  unfold ready
  rw [decide_eq_true h, Bool.true_and, List.all_eq_true]
  intro k hk
  obtain ⟨j, hj, rfl⟩ := List.getElem_of_mem hk
  have := h2 j hj
  rw [show gt (insK w i) j = (insK w i)[j] by simp [gt, List.getD, hj]] at this
  simpa using this
theorem settle_ok (w : B) (s : List Int) (hw : Wb w) (hs : s.length = 104) : AFn env 26 [P0, w.a] [Sb s] (.tup []) [Sb (settleF s w)] := by
  have hl := hw.hl
  have hk := hw.hk
  refine afn_body Tryz.func26 rfl (by decide) ?_
  simp only [Tryz.ntmps26, Tryz.results26, List.length_cons, List.length_nil, List.cons_append, List.nil_append, Nat.reduceAdd, Nat.reduceSub, List.replicate]
  refine awp_seq ?_
  refine awp_region ?_
  refine zS ?_
  refine awp_scopeJ 0 (fun s1 : List Int => s1.length = 104 ∧ settleF s1 w = settleF s w) (fun s1 => (P0 :: w.a :: .any :: .c (.ptr 1 0 0 0) :: List.replicate 46 .any, [Sb s1, some (.box w.bs)])) (fun s1 => waits s1 w.kids.length) rfl ?_ ?_
  · obtain ⟨s1, hs1⟩ : ∃ s1, s1 = s := ⟨s, rfl⟩
    have e1 : s1.length = 104 := by rw [hs1]; exact hs
    have e2 : settleF s1 w = settleF s w := by rw [hs1]
    rw [show stC s = stC s1 by rw [hs1]]
    clear hs1
    simp only [go_sem, Bool.not_not, List.mem_singleton, forall_eq, ↓reduceIte, if_pos, rowsAt_map, wrap64, wrapu8, List.getElem?_cons_zero, List.getElem?_cons_succ, Int.reduceToNat, Nat.reduceAdd, Nat.reduceBEq, Bool.or_false, Bool.false_or, Bool.true_or, Nat.reduceSub, Nat.reduceMul, Int.reduceAdd, Int.reduceEq, Int.reduceLT, Int.reduceLE, Int.reduceNeg, Nat.reduceLT, Nat.reduceLeDiff, Nat.reduceEqDiff, List.replicate]
    repeat' first
    | ((with_reducible refine awp_seqQ ?_); intro _ _)
    | ((with_reducible refine awp_region ?_); refine zS ?_)
    | with_reducible refine awp_block ?_
    | ((with_reducible refine awp_label ?_); try refine zS ?_)
    refine awp_loopT (fun i : Nat => i ≤ w.kids.length ∧ pickF s1 w = (List.range' i (w.kids.length - i)).find? (ready s1 w)) (fun i => w.kids.length - i) (fun i => [(14, aI i)]) (fun _ => [Sb s1, some (.box w.bs), Sb s1]) 0 ⟨by omega, rfl⟩ (by exact zwl) ?_
    rintro i ⟨h1, h2⟩
    have hil : (insK w i).length ≤ w.links.length := idx2_len _ w.links 0
    have him := ins_40 hw i
    refine zT ?_
    repeat' first
    | ((with_reducible refine awp_seqQ ?_); intro _ _)
    | ((with_reducible refine awp_region ?_); refine zS ?_)
    | ((with_reducible refine awp_drawnC ?_ ?_); rfl; refine zS ?_)
    | ((with_reducible refine AWP_c ?_); refine zcdF ?_)
    | ((with_reducible refine AWP_c ?_); refine zcdN ?_ ?_ <;> intro hb hb2 <;> first | contradiction | (exfalso; omega) | ((try refine zH hb2 ?_); try clear hb2))
    | ((with_reducible refine AWP_c ?_); refine zcdD ?_ ?_ <;> intro hb hb2 <;> first | contradiction | (exfalso; omega) | ((try refine zH hb2 ?_); try clear hb2))
    | with_reducible refine fin_qn ?_ ?_
    | ((with_reducible refine awp_skip ?_); try refine zS ?_)
    | with_reducible refine awp_block ?_
    | ((with_reducible refine awp_exit ?_); try refine zS ?_)
    | ((with_reducible refine CallK_id ?_); refine zcF ?_; refine ⟨_, by first | exact ins19_ok w i hw.hs | fail, ?_⟩; refine ⟨fun _ => by (first | rfl | simp only [go_sem]; done), fun _ => by (first | rfl | simp only [go_sem]; done), by (first | rfl | (simp [okAs, okA, okCs, okC, okC_st, go_sem]; done)), ?_⟩; try refine zS ?_)
    | ((with_reducible refine q_step (by assumption) ?_); try refine zS ?_)
    · exact ⟨i + 1, ⟨by omega, by rw [h2, pick_f (by omega) (ready_k ‹_›)]⟩, by omega, (by exact zwc 3)⟩
    · refine awp_loopT (fun j : Nat => j ≤ (insK w i).length ∧ ∀ k, k < j → ¬ gt s1 (gt (insK w i) k).toNat = 0) (fun j => (insK w i).length - j) (fun j => [(28, aI j)]) (fun _ => [Sb s1, some (.box w.bs), Sb s1]) 0 ⟨by omega, fun k h => by omega⟩ (by exact zwl) ?_
      rintro j ⟨h3, h4⟩
      have hR : j < (insK w i).length → 0 ≤ gt (insK w i) j ∧ gt (insK w i) j < 40 := fun h => him _ (gt_mem h)
      have hfl := fateF_len s1 w i
      refine zT ?_
      repeat' first
      | ((with_reducible refine awp_seqQ ?_); intro _ _)
      | ((with_reducible refine awp_region ?_); refine zS ?_)
      | ((with_reducible refine awp_drawnC ?_ ?_); rfl; refine zS ?_)
      | ((with_reducible refine AWP_c ?_); refine zcdN ?_ ?_ <;> intro hb hb2 <;> first | contradiction | (exfalso; omega) | ((try refine zH hb2 ?_); try clear hb2))
      | ((with_reducible refine AWP_c ?_); refine zcdD ?_ ?_ <;> intro hb hb2 <;> first | contradiction | (exfalso; omega) | ((try refine zH hb2 ?_); try clear hb2))
      | with_reducible refine fin_qn ?_ ?_
      | ((with_reducible refine awp_skip ?_); try refine zS ?_)
      | with_reducible refine awp_block ?_
      | ((with_reducible refine awp_exit ?_); try refine zS ?_)
      | ((with_reducible refine CallK_id ?_); refine zcT [0] ?_; refine ⟨_, _, by first | exact fate_ok w i s1 hw e1 (by omega) | fail, ?_⟩; try refine zS ?_)
      | ((with_reducible refine awp_goto ?_); try refine zS ?_)
      | ((with_reducible refine q_step (by assumption) ?_); try refine zS ?_)
      all_goals first
        | exact ⟨i + 1, ⟨by omega, by rw [h2, pick_f (by omega) (ready_l (j := j) (by omega) ‹_›)]⟩, by omega, (by exact zwc 3)⟩
        | exact ⟨j + 1, ⟨by omega, fun k hk => by
            by_cases e : k = j
            · subst e; assumption
            · exact h4 k (by omega)⟩, by omega, (by exact zwc 3)⟩
        | (have hp : pickF s1 w = some i := (by rw [h2, pick_t (by omega) (ready_t (by assumption) (fun k hk => h4 k (by omega)))])
           obtain ⟨q1, q2, q3⟩ := settle_some hw e1 hp
           first
           | exact absurd (by assumption) q3
           | exact ⟨fateF s1 w i, ⟨by rw [fateF_len]; exact e1, by rw [← q1, e2]⟩, (by exact zwc 2)⟩
           | trace_state)
        | trace_state
    all_goals first
      | rfl
      | (rw [← e2, settle_none (by rw [h2, show w.kids.length - i = 0 by omega]; rfl)]; done)
      | trace_state
  · rintro s1 ⟨e1, e2⟩
    simp only [go_sem, Bool.not_not, List.mem_singleton, forall_eq, ↓reduceIte, if_pos, rowsAt_map, wrap64, wrapu8, List.getElem?_cons_zero, List.getElem?_cons_succ, Int.reduceToNat, Nat.reduceAdd, Nat.reduceBEq, Bool.or_false, Bool.false_or, Bool.true_or, Nat.reduceSub, Nat.reduceMul, Int.reduceAdd, Int.reduceEq, Int.reduceLT, Int.reduceLE, Int.reduceNeg, Nat.reduceLT, Nat.reduceLeDiff, Nat.reduceEqDiff, List.replicate]
    repeat' first
    | ((with_reducible refine awp_seqQ ?_); intro _ _)
    | ((with_reducible refine awp_region ?_); refine zS ?_)
    | ((with_reducible refine awp_skip ?_); try refine zS ?_)
    | with_reducible refine awp_block ?_
    | ((with_reducible refine awp_label ?_); try refine zS ?_)
    refine awp_loopT (fun i : Nat => i ≤ w.kids.length ∧ pickF s1 w = (List.range' i (w.kids.length - i)).find? (ready s1 w)) (fun i => w.kids.length - i) (fun i => [(14, aI i)]) (fun _ => [Sb s1, some (.box w.bs), Sb s1]) 0 ⟨by omega, rfl⟩ (by exact zwl) ?_
    rintro i ⟨h1, h2⟩
    have hil : (insK w i).length ≤ w.links.length := idx2_len _ w.links 0
    have him := ins_40 hw i
    refine zT ?_
    repeat' first
    | ((with_reducible refine awp_seqQ ?_); intro _ _)
    | ((with_reducible refine awp_region ?_); refine zS ?_)
    | ((with_reducible refine awp_drawnC ?_ ?_); rfl; refine zS ?_)
    | ((with_reducible refine AWP_c ?_); refine zcdF ?_)
    | ((with_reducible refine AWP_c ?_); refine zcdN ?_ ?_ <;> intro hb hb2 <;> first | contradiction | (exfalso; omega) | ((try refine zH hb2 ?_); try clear hb2))
    | ((with_reducible refine AWP_c ?_); refine zcdD ?_ ?_ <;> intro hb hb2 <;> first | contradiction | (exfalso; omega) | ((try refine zH hb2 ?_); try clear hb2))
    | with_reducible refine fin_qn ?_ ?_
    | ((with_reducible refine awp_skip ?_); try refine zS ?_)
    | with_reducible refine awp_block ?_
    | ((with_reducible refine awp_exit ?_); try refine zS ?_)
    | ((with_reducible refine CallK_id ?_); refine zcF ?_; refine ⟨_, by first | exact ins19_ok w i hw.hs | fail, ?_⟩; refine ⟨fun _ => by (first | rfl | simp only [go_sem]; done), fun _ => by (first | rfl | simp only [go_sem]; done), by (first | rfl | (simp [okAs, okA, okCs, okC, okC_st, go_sem]; done)), ?_⟩; try refine zS ?_)
    | ((with_reducible refine q_step (by assumption) ?_); try refine zS ?_)
    · exact ⟨i + 1, ⟨by omega, by rw [h2, pick_f (by omega) (ready_k ‹_›)]⟩, by omega, (by exact zwc 3)⟩
    · refine awp_loopT (fun j : Nat => j ≤ (insK w i).length ∧ ∀ k, k < j → ¬ gt s1 (gt (insK w i) k).toNat = 0) (fun j => (insK w i).length - j) (fun j => [(28, aI j)]) (fun _ => [Sb s1, some (.box w.bs), Sb s1]) 0 ⟨by omega, fun k h => by omega⟩ (by exact zwl) ?_
      rintro j ⟨h3, h4⟩
      have hR : j < (insK w i).length → 0 ≤ gt (insK w i) j ∧ gt (insK w i) j < 40 := fun h => him _ (gt_mem h)
      have hfl := fateF_len s1 w i
      refine zT ?_
      repeat' first
      | ((with_reducible refine awp_seqQ ?_); intro _ _)
      | ((with_reducible refine awp_region ?_); refine zS ?_)
      | ((with_reducible refine awp_drawnC ?_ ?_); rfl; refine zS ?_)
      | ((with_reducible refine AWP_c ?_); refine zcdN ?_ ?_ <;> intro hb hb2 <;> first | contradiction | (exfalso; omega) | ((try refine zH hb2 ?_); try clear hb2))
      | ((with_reducible refine AWP_c ?_); refine zcdD ?_ ?_ <;> intro hb hb2 <;> first | contradiction | (exfalso; omega) | ((try refine zH hb2 ?_); try clear hb2))
      | with_reducible refine fin_qn ?_ ?_
      | ((with_reducible refine awp_skip ?_); try refine zS ?_)
      | with_reducible refine awp_block ?_
      | ((with_reducible refine awp_exit ?_); try refine zS ?_)
      | ((with_reducible refine CallK_id ?_); refine zcT [0] ?_; refine ⟨_, _, by first | exact fate_ok w i s1 hw e1 (by omega) | fail, ?_⟩; try refine zS ?_)
      | ((with_reducible refine awp_goto ?_); try refine zS ?_)
      | ((with_reducible refine q_step (by assumption) ?_); try refine zS ?_)
      all_goals first
        | exact ⟨i + 1, ⟨by omega, by rw [h2, pick_f (by omega) (ready_l (j := j) (by omega) ‹_›)]⟩, by omega, (by exact zwc 3)⟩
        | exact ⟨j + 1, ⟨by omega, fun k hk => by
            by_cases e : k = j
            · subst e; assumption
            · exact h4 k (by omega)⟩, by omega, (by exact zwc 3)⟩
        | (have hp : pickF s1 w = some i := (by rw [h2, pick_t (by omega) (ready_t (by assumption) (fun k hk => h4 k (by omega)))])
           obtain ⟨q1, q2, q3⟩ := settle_some hw e1 hp
           first
           | exact absurd (by assumption) q3
           | exact ⟨fateF s1 w i, ⟨by rw [fateF_len]; exact e1, by rw [← q1, e2]⟩, q2, (by exact zwc 2)⟩
           | trace_state)
        | trace_state
    all_goals first
      | rfl
      | (rw [← e2, settle_none (by rw [h2, show w.kids.length - i = 0 by omega]; rfl)]; done)
      | trace_state
end Go.Eng
open Go Go.Proofs
namespace Go.Eng
set_option linter.unusedSimpArgs false
set_option linter.unusedVariables false
set_option maxRecDepth 10000
set_option maxHeartbeats 8000000
attribute [go_sem] aMakeV
def lkBad (n : Int) (e : Lk) : Bool := decide (e.src < -1) || decide (e.src ≥ n) || decide (e.dst < -1) || decide (e.dst ≥ n)
def cI (l : List Lk) (i : Int) : Nat := l.countP fun e => decide (e.dst = i)
def cO (l : List Lk) (i : Int) : Nat := l.countP fun e => decide (e.src = i)
def inner (l : List Lk) : List Lk := l.filter fun e => decide (e.src ≥ 0) && decide (e.dst ≥ 0)
def kidBad (ls : List Lk) (k : B) (i : Int) : Bool := if k.kind ≠ 12 then decide ((cI ls i : Int) ≠ 1 ∨ (cO ls i : Int) ≠ 1)
  else decide (k.x = 1 ∧ ((cI ls i : Int) ≠ 1 ∨ (cO ls i : Int) < 2)) || (decide (k.x = 3 ∧ ((cI ls i : Int) ≠ 1 ∨ (cO ls i : Int) ≠ k.conds.length)) || decide (k.x.tmod 2 = 0 ∧ ¬ ((cI ls i : Int) > 1 ∧ (cO ls i : Int) = 1)))
def kidsBad (ls : List Lk) : List B → Nat → Bool
  | [], _ => false
  | k :: l, i => kidBad ls k i || kidsBad ls l (i + 1)
def linkedF (b : B) : Bool := if b.links.any (lkBad b.kids.length) = true then false else if (cI b.links (-1) : Int) ≠ 1 ∨ (cO b.links (-1) : Int) ≠ 1 ∨ b.links.length > 40 ∨ b.kids.length > 64 then false
  else if kidsBad b.links b.kids 0 = true then false else decide ((ordF b.kids.length (inner b.links)).2 = 0)
def RwK (l : List Lk) : Option Blk := some (.rows 2 (l.map Lk.row))
attribute [go_sem] RwK
theorem rep_iRow (n : Nat) (b : Int) : List.replicate n [D.sc (.int .i64 b)] = (List.replicate n b).map iRow := by rw [List.map_replicate]; rfl
attribute [go_sem] rep_iRow
def cnts (b : B) (j : Nat) (ins outs : List Int) : Prop := ins.length = b.kids.length + 1 ∧ outs.length = b.kids.length + 1 ∧ (∀ k, k ≤ b.kids.length → 0 ≤ gt ins k ∧ gt ins k + cI (b.links.drop j) (k - 1) = cI b.links (k - 1)) ∧
  (∀ k, k ≤ b.kids.length → 0 ≤ gt outs k ∧ gt outs k + cO (b.links.drop j) (k - 1) = cO b.links (k - 1))
theorem cI_le (l : List Lk) (i : Int) : cI l i ≤ l.length := List.countP_le_length
theorem cO_le (l : List Lk) (i : Int) : cO l i ≤ l.length := List.countP_le_length
theorem cnts_I {b : B} {j : Nat} {ins outs : List Int} {d : Int} (h : cnts b j ins outs) (hs : b.links.length ≤ 1000000000000) (h1 : -1 ≤ d) (h2 : d < b.kids.length) : 0 ≤ gt ins (d + 1).toNat ∧ gt ins (d + 1).toNat ≤ 1000000000000 := by
  have := h.2.2.1 (d + 1).toNat (by omega)
  have := cI_le b.links ((d + 1).toNat - 1)
  omega
theorem cnts_O {b : B} {j : Nat} {ins outs : List Int} {d : Int} (h : cnts b j ins outs) (hs : b.links.length ≤ 1000000000000) (h1 : -1 ≤ d) (h2 : d < b.kids.length) : 0 ≤ gt outs (d + 1).toNat ∧ gt outs (d + 1).toNat ≤ 1000000000000 := by
  have := h.2.2.2 (d + 1).toNat (by omega)
  have := cO_le b.links ((d + 1).toNat - 1)
  omega
theorem gt_rep (n k : Nat) (x : Int) (h : k < n) : gt (List.replicate n x) k = x := by simp [gt, List.getD, h]
theorem cnts_0 (b : B) : cnts b 0 (List.replicate (b.kids.length + 1) 0) (List.replicate (b.kids.length + 1) 0) := by
  refine ⟨by simp, by simp, fun k hk => ?_, fun k hk => ?_⟩
  · rw [gt_rep _ _ _ (by omega)]; simp
  · rw [gt_rep _ _ _ (by omega)]; simp
theorem gtI_set (s : List Int) (i j : Nat) (b : Int) (h : i < s.length) : gt (s.set i b) j = if i = j then b else gt s j := by
  unfold gt
  rw [List.getD_eq_getElem?_getD, List.getElem?_set, List.getD_eq_getElem?_getD]
  split
  · rename_i e; subst e; simp [h]
  · rfl
theorem cI_cons (e : Lk) (l : List Lk) (i : Int) : cI (e :: l) i = cI l i + (if e.dst = i then 1 else 0) := by simp [cI, List.countP_cons]
theorem cO_cons (e : Lk) (l : List Lk) (i : Int) : cO (e :: l) i = cO l i + (if e.src = i then 1 else 0) := by simp [cO, List.countP_cons]
theorem cnts_s {b : B} {j : Nat} {ins outs : List Int} (h : cnts b j ins outs) (hj : j < b.links.length) (h1 : -1 ≤ (gt b.links j).src) (h2 : -1 ≤ (gt b.links j).dst) (h3 : (gt b.links j).src < b.kids.length) (h4 : (gt b.links j).dst < b.kids.length) :
    cnts b (j + 1) (ins.set ((gt b.links j).dst + 1).toNat (gt ins ((gt b.links j).dst + 1).toNat + 1)) (outs.set ((gt b.links j).src + 1).toNat (gt outs ((gt b.links j).src + 1).toNat + 1)) := by
  obtain ⟨a1, a2, a3, a4⟩ := h
  refine ⟨by simpa using a1, by simpa using a2, fun k hk => ?_, fun k hk => ?_⟩
  · have := a3 k hk
    rw [drop_gt hj, cI_cons] at this
    rw [gtI_set _ _ _ _ (by omega)]
    split
    · rename_i e; subst e
      rw [if_pos (by omega)] at this; omega
    · rw [if_neg (by omega)] at this; omega
  · have := a4 k hk
    rw [drop_gt hj, cO_cons] at this
    rw [gtI_set _ _ _ _ (by omega)]
    split
    · rename_i e; subst e
      rw [if_pos (by omega)] at this; omega
    · rw [if_neg (by omega)] at this; omega
theorem lk_bad {b : B} {j : Nat} (hj : j < b.links.length) (h : lkBad b.kids.length (gt b.links j) = true) : linkedF b = false := by
  rw [linkedF, if_pos (List.any_eq_true.2 ⟨_, gt_mem hj, h⟩)]
theorem bad_drop {n : Int} {l : List Lk} {j : Nat} (hj : j < l.length) (h : lkBad n (gt l j) = false) : (l.drop j).any (lkBad n) = (l.drop (j + 1)).any (lkBad n) := by
  rw [drop_gt hj, List.any_cons, h, Bool.false_or]
theorem inner_t {l : List Lk} {j : Nat} (hj : j < l.length) (h1 : (gt l j).src ≥ 0) (h2 : (gt l j).dst ≥ 0) : inner (l.drop j) = gt l j :: inner (l.drop (j + 1)) := by
  rw [drop_gt hj, inner, List.filter_cons, if_pos (by simp [h1, h2])]; rfl
theorem inner_f {l : List Lk} {j : Nat} (hj : j < l.length) (h : ¬ ((gt l j).src ≥ 0 ∧ (gt l j).dst ≥ 0)) : inner (l.drop j) = inner (l.drop (j + 1)) := by
  rw [drop_gt hj, inner, List.filter_cons, if_neg (by simpa using h)]; rfl
theorem kidBad_iff (ls : List Lk) (k : B) (i : Int) : kidBad ls k i = true ↔ (k.kind ≠ 12 ∧ ((cI ls i : Int) ≠ 1 ∨ (cO ls i : Int) ≠ 1)) ∨ (k.kind = 12 ∧ ((k.x = 1 ∧ ((cI ls i : Int) ≠ 1 ∨ (cO ls i : Int) < 2)) ∨ (k.x = 3 ∧ ((cI ls i : Int) ≠ 1 ∨ (cO ls i : Int) ≠ k.conds.length)) ∨ (k.x.tmod 2 = 0 ∧ ¬ ((cI ls i : Int) > 1 ∧ (cO ls i : Int) = 1)))) := by
  unfold kidBad
  by_cases h : k.kind = 12
  · rw [if_neg (by omega)]
    simp only [Bool.or_eq_true, decide_eq_true_eq, h, true_and, not_true, ne_eq, false_and, false_or]
  · rw [if_pos h]
    simp only [decide_eq_true_eq, h, false_and, or_false, ne_eq, not_false_eq_true, true_and]
theorem kids_bad {ls : List Lk} {ks : List B} {i : Nat} (hi : i < ks.length) (h : kidBad ls (gt ks i) i = true) : kidsBad ls (ks.drop i) i = true := by
  rw [drop_gt hi, kidsBad, h, Bool.true_or]
theorem kids_ok {ls : List Lk} {ks : List B} {i : Nat} (hi : i < ks.length) (h : ¬ kidBad ls (gt ks i) i = true) : kidsBad ls (ks.drop i) i = kidsBad ls (ks.drop (i + 1)) (i + 1) := by
  rw [drop_gt hi, kidsBad, Bool.eq_false_iff.2 h, Bool.false_or]
theorem linked_ok (b : B) (hs : b.size < 1000000000000) : AFn env 67 [b.a] [] (aB (linkedF b)) [] := by
  have hz := B.size_eq b
  have hk := B.len_le b.kids
  refine afn_body Tryz.func67 rfl (by decide) ?_
  simp only [Tryz.ntmps67, Tryz.results67, List.length_cons, List.length_nil, List.cons_append, List.nil_append, Nat.reduceAdd, Nat.reduceSub, List.replicate]
  refine awp_seq ?_
  refine awp_region ?_
  refine zS ?_
  refine awp_wk (wk_vnew (s := 1) none (by decide)) ?_
  refine awp_wk (wk_vnew (s := 1) none (by decide)) ?_
  refine zT ?_
  refine awp_seq ?_
  refine awp_draw2 4 9 1 1 2 1 (by decide) (by decide) rfl rfl (by decide) (by decide) (by decide) ?_
  simp only [List.set_cons_succ, List.set_cons_zero]
  iterate 4 (refine fo_p (by simp (disch := omega) only [go_sem, Bool.not_not, List.mem_singleton, forall_eq, ↓reduceIte, if_pos, rowsAt_map, wrap64, wrapu8, List.getElem?_cons_zero, List.getElem?_cons_succ, Int.reduceToNat, Nat.reduceAdd, Nat.reduceBEq, Bool.or_false, Bool.false_or, Bool.true_or, Nat.reduceSub, Nat.reduceMul, Int.reduceAdd, Int.reduceEq, Int.reduceLT, Int.reduceLE, Int.reduceNeg, Nat.reduceLT, Nat.reduceLeDiff, Nat.reduceEqDiff]; rfl) rfl (by decide) (by decide) rfl rfl ?_; simp only [go_sem, Bool.not_not, List.mem_singleton, forall_eq, ↓reduceIte, if_pos, rowsAt_map, wrap64, wrapu8, List.getElem?_cons_zero, List.getElem?_cons_succ, Int.reduceToNat, Nat.reduceAdd, Nat.reduceBEq, Bool.or_false, Bool.false_or, Bool.true_or, Nat.reduceSub, Nat.reduceMul, Int.reduceAdd, Int.reduceEq, Int.reduceLT, Int.reduceLE, Int.reduceNeg, Nat.reduceLT, Nat.reduceLeDiff, Nat.reduceEqDiff])
  refine fo_1 rfl (by simp (disch := omega) only [go_sem, Bool.not_not, List.mem_singleton, forall_eq, ↓reduceIte, if_pos, rowsAt_map, wrap64, wrapu8, List.getElem?_cons_zero, List.getElem?_cons_succ, Int.reduceToNat, Nat.reduceAdd, Nat.reduceBEq, Bool.or_false, Bool.false_or, Bool.true_or, Nat.reduceSub, Nat.reduceMul, Int.reduceAdd, Int.reduceEq, Int.reduceLT, Int.reduceLE, Int.reduceNeg, Nat.reduceLT, Nat.reduceLeDiff, Nat.reduceEqDiff]; rfl) rfl ?_
  refine zT ?_
  iterate 4 (refine fo_p (by simp (disch := omega) only [go_sem, Bool.not_not, List.mem_singleton, forall_eq, ↓reduceIte, if_pos, rowsAt_map, wrap64, wrapu8, List.getElem?_cons_zero, List.getElem?_cons_succ, Int.reduceToNat, Nat.reduceAdd, Nat.reduceBEq, Bool.or_false, Bool.false_or, Bool.true_or, Nat.reduceSub, Nat.reduceMul, Int.reduceAdd, Int.reduceEq, Int.reduceLT, Int.reduceLE, Int.reduceNeg, Nat.reduceLT, Nat.reduceLeDiff, Nat.reduceEqDiff]; rfl) rfl (by decide) (by decide) rfl rfl ?_; simp only [go_sem, Bool.not_not, List.mem_singleton, forall_eq, ↓reduceIte, if_pos, rowsAt_map, wrap64, wrapu8, List.getElem?_cons_zero, List.getElem?_cons_succ, Int.reduceToNat, Nat.reduceAdd, Nat.reduceBEq, Bool.or_false, Bool.false_or, Bool.true_or, Nat.reduceSub, Nat.reduceMul, Int.reduceAdd, Int.reduceEq, Int.reduceLT, Int.reduceLE, Int.reduceNeg, Nat.reduceLT, Nat.reduceLeDiff, Nat.reduceEqDiff])
  refine fo_2 rfl (by simp (disch := omega) only [go_sem, Bool.not_not, List.mem_singleton, forall_eq, ↓reduceIte, if_pos, rowsAt_map, wrap64, wrapu8, List.getElem?_cons_zero, List.getElem?_cons_succ, Int.reduceToNat, Nat.reduceAdd, Nat.reduceBEq, Bool.or_false, Bool.false_or, Bool.true_or, Nat.reduceSub, Nat.reduceMul, Int.reduceAdd, Int.reduceEq, Int.reduceLT, Int.reduceLE, Int.reduceNeg, Nat.reduceLT, Nat.reduceLeDiff, Nat.reduceEqDiff]; rfl) rfl (by decide) ?_
  refine zT ?_
  iterate 2 (refine fo_q (fun H2 => by simp only [go_sem, Bool.not_not, List.mem_singleton, forall_eq, ↓reduceIte, if_pos, rowsAt_map, wrap64, wrapu8, List.getElem?_cons_zero, List.getElem?_cons_succ, Int.reduceToNat, Nat.reduceAdd, Nat.reduceBEq, Bool.or_false, Bool.false_or, Bool.true_or, Nat.reduceSub, Nat.reduceMul, Int.reduceAdd, Int.reduceEq, Int.reduceLT, Int.reduceLE, Int.reduceNeg, Nat.reduceLT, Nat.reduceLeDiff, Nat.reduceEqDiff]; rfl) rfl (by decide) (by decide) ?_; simp only [go_sem, Bool.not_not, List.mem_singleton, forall_eq, ↓reduceIte, if_pos, rowsAt_map, wrap64, wrapu8, List.getElem?_cons_zero, List.getElem?_cons_succ, Int.reduceToNat, Nat.reduceAdd, Nat.reduceBEq, Bool.or_false, Bool.false_or, Bool.true_or, Nat.reduceSub, Nat.reduceMul, Int.reduceAdd, Int.reduceEq, Int.reduceLT, Int.reduceLE, Int.reduceNeg, Nat.reduceLT, Nat.reduceLeDiff, Nat.reduceEqDiff])
  refine fo_e ?_
  rw [show ((b.kids.length : Int) + 1).toNat = b.kids.length + 1 by omega]
  refine awp_seq ?_
  refine awp_region ?_
  refine zT ?_
  refine awp_wk (wk_virt none (i := 5) (s := 2) (by decide) rfl) ?_
  refine zT ?_
  repeat' first
  | ((with_reducible refine awp_seqQ ?_); intro _ _)
  | ((with_reducible refine awp_region ?_); refine zS ?_)
  | with_reducible refine awp_block ?_
  refine awp_loopT (fun z : Nat × List Int × List Int × List Lk => z.1 ≤ b.links.length ∧ cnts b z.1 z.2.1 z.2.2.1 ∧ z.2.2.2 ++ inner (b.links.drop z.1) = inner b.links ∧ b.links.any (lkBad b.kids.length) = (b.links.drop z.1).any (lkBad b.kids.length)) (fun z => b.links.length - z.1) (fun z => [(28, aI z.1), (5, OwnK 3 z.2.2.2.length)]) (fun z => [some (.box b.bs), RwG z.2.1, RwG z.2.2.1, RwK z.2.2.2]) (0, List.replicate (b.kids.length + 1) 0, List.replicate (b.kids.length + 1) 0, []) ⟨by simp, cnts_0 b, by simp, by simp⟩ (by exact zwl) ?_
  rintro ⟨j, ins, outs, es⟩ ⟨h1, h2, h3, h4⟩
  simp only at h1 h2 h3 h4
  have hil := h2.1
  have hol := h2.2.1
  have hI : -1 ≤ (gt b.links j).dst → (gt b.links j).dst < b.kids.length → 0 ≤ gt ins ((gt b.links j).dst + 1).toNat ∧ gt ins ((gt b.links j).dst + 1).toNat ≤ 1000000000000 := fun q1 q2 => cnts_I h2 (by omega) q1 q2
  have hO : -1 ≤ (gt b.links j).src → (gt b.links j).src < b.kids.length → 0 ≤ gt outs ((gt b.links j).src + 1).toNat ∧ gt outs ((gt b.links j).src + 1).toNat ≤ 1000000000000 := fun q1 q2 => cnts_O h2 (by omega) q1 q2
  have hel : es.length ≤ 1000000000000 := by
    have := congrArg List.length h3
    have := List.length_filter_le (fun e : Lk => decide (e.src ≥ 0) && decide (e.dst ≥ 0)) b.links
    simp only [List.length_append, inner] at *; omega
  refine zT ?_
  repeat' first
  | ((with_reducible refine awp_seqQ ?_); intro _ _)
  | ((with_reducible refine awp_region ?_); refine zS ?_)
  | ((with_reducible refine Gd_nd ?_ ?_) <;> intro hb hb2 <;> first | contradiction | (exfalso; omega) | (refine zH hb2 ?_; try clear hb2))
  | ((with_reducible refine Gd_d ?_ ?_) <;> intro hb hb2 <;> first | contradiction | (exfalso; omega) | (refine zH hb2 ?_; try clear hb2))
  | ((with_reducible refine AWP_c ?_); refine zcdT ?_)
  | ((with_reducible refine AWP_c ?_); refine zcdF ?_)
  | ((with_reducible refine AWP_c ?_); refine zcdD ?_ ?_ <;> intro hb hb2 <;> first | contradiction | (exfalso; omega) | ((try refine zH hb2 ?_); try clear hb2))
  | ((with_reducible refine awp_skip ?_); try refine zS ?_)
  | with_reducible refine awp_block ?_
  | ((with_reducible refine awp_exit ?_); try refine zS ?_)
  | ((with_reducible refine awp_ret ?_); refine q_step (by assumption) ?_)
  | with_reducible refine fin_r ?_
  | ((with_reducible refine q_step (by assumption) ?_); try refine zS ?_)
  all_goals first
    | (rw [lk_bad (j := j) (by omega) (by simp [lkBad, *]; done)]; done)
    | exact ⟨(j + 1, ins.set ((gt b.links j).dst + 1).toNat (gt ins ((gt b.links j).dst + 1).toNat + 1), outs.set ((gt b.links j).src + 1).toNat (gt outs ((gt b.links j).src + 1).toNat + 1), es ++ [gt b.links j]), ⟨by simp only; omega, cnts_s h2 (by omega) (by omega) (by omega) (by omega) (by omega), by rw [← h3, inner_t (j := j) (by omega) (by omega) (by omega)]; simp, by rw [h4, bad_drop (j := j) (by omega) (by simp [lkBad]; omega)]⟩, by simp only; omega, wk_cl 4 (by decide) (by simp) (by simp only [go_sem, Bool.not_not, List.mem_singleton, forall_eq, ↓reduceIte, if_pos, rowsAt_map, wrap64, wrapu8, List.getElem?_cons_zero, List.getElem?_cons_succ, Int.reduceToNat, Nat.reduceAdd, Nat.reduceBEq, Bool.or_false, Bool.false_or, Bool.true_or, Nat.reduceSub, Nat.reduceMul, Int.reduceAdd, Int.reduceEq, Int.reduceLT, Int.reduceLE, Int.reduceNeg, Nat.reduceLT, Nat.reduceLeDiff, Nat.reduceEqDiff]; try simp) (by simp only [go_sem, Bool.not_not, List.mem_singleton, forall_eq, ↓reduceIte, if_pos, rowsAt_map, wrap64, wrapu8, List.getElem?_cons_zero, List.getElem?_cons_succ, Int.reduceToNat, Nat.reduceAdd, Nat.reduceBEq, Bool.or_false, Bool.false_or, Bool.true_or, Nat.reduceSub, Nat.reduceMul, Int.reduceAdd, Int.reduceEq, Int.reduceLT, Int.reduceLE, Int.reduceNeg, Nat.reduceLT, Nat.reduceLeDiff, Nat.reduceEqDiff, List.map_append]; try simp [go_sem])⟩
    | exact ⟨(j + 1, ins.set ((gt b.links j).dst + 1).toNat (gt ins ((gt b.links j).dst + 1).toNat + 1), outs.set ((gt b.links j).src + 1).toNat (gt outs ((gt b.links j).src + 1).toNat + 1), es), ⟨by simp only; omega, cnts_s h2 (by omega) (by omega) (by omega) (by omega) (by omega), by rw [← h3, inner_f (j := j) (by omega) (by omega)], by rw [h4, bad_drop (j := j) (by omega) (by simp [lkBad]; omega)]⟩, by simp only; omega, wk_cl 4 (by decide) (by simp) (by simp only [go_sem, Bool.not_not, List.mem_singleton, forall_eq, ↓reduceIte, if_pos, rowsAt_map, wrap64, wrapu8, List.getElem?_cons_zero, List.getElem?_cons_succ, Int.reduceToNat, Nat.reduceAdd, Nat.reduceBEq, Bool.or_false, Bool.false_or, Bool.true_or, Nat.reduceSub, Nat.reduceMul, Int.reduceAdd, Int.reduceEq, Int.reduceLT, Int.reduceLE, Int.reduceNeg, Nat.reduceLT, Nat.reduceLeDiff, Nat.reduceEqDiff]; try simp) (by simp only [go_sem, Bool.not_not, List.mem_singleton, forall_eq, ↓reduceIte, if_pos, rowsAt_map, wrap64, wrapu8, List.getElem?_cons_zero, List.getElem?_cons_succ, Int.reduceToNat, Nat.reduceAdd, Nat.reduceBEq, Bool.or_false, Bool.false_or, Bool.true_or, Nat.reduceSub, Nat.reduceMul, Int.reduceAdd, Int.reduceEq, Int.reduceLT, Int.reduceLE, Int.reduceNeg, Nat.reduceLT, Nat.reduceLeDiff, Nat.reduceEqDiff]; try simp [go_sem])⟩
    | skip
  all_goals
    have hj : j = b.links.length := by omega
    subst hj
    rw [List.drop_length] at h3 h4
    have h4 : b.links.any (lkBad b.kids.length) = false := h4
    have he : es = inner b.links := by rw [← h3]; simp [inner]
    subst he
    have hI2 : ∀ k, k ≤ b.kids.length → gt ins k = cI b.links (k - 1) := fun k hk => by have := (h2.2.2.1 k hk).2; rw [List.drop_length] at this; simpa [cI] using this
    have hO2 : ∀ k, k ≤ b.kids.length → gt outs k = cO b.links (k - 1) := fun k hk => by have := (h2.2.2.2 k hk).2; rw [List.drop_length] at this; simpa [cO] using this
    have hI0 : gt ins 0 = cI b.links (-1) := hI2 0 (by omega)
    have hO0 : gt outs 0 = cO b.links (-1) := hO2 0 (by omega)
  all_goals try (rw [linkedF, if_neg (by simp [h4]), if_pos (by omega)]; done)
  have h0 : linkedF b = if kidsBad b.links b.kids 0 = true then false else decide ((ordF b.kids.length (inner b.links)).2 = 0) := by
    rw [linkedF, if_neg (by simp [h4]), if_neg (by omega)]
  refine awp_loopT (fun i : Nat => i ≤ b.kids.length ∧ kidsBad b.links b.kids 0 = kidsBad b.links (b.kids.drop i) i) (fun i => b.kids.length - i) (fun i => [(114, aI i)]) (fun _ => [some (.box b.bs), RwG ins, RwG outs, RwK (inner b.links)]) 0 ⟨by omega, rfl⟩ (by exact zwl) ?_
  rintro i ⟨g1, g2⟩
  have hI3 : i < b.kids.length → (cI b.links i : Int) = gt ins ((i : Int) + 1).toNat := fun h => by rw [show ((i : Int) + 1).toNat = i + 1 by omega, hI2 (i + 1) (by omega)]; congr 2; omega
  have hO3 : i < b.kids.length → (cO b.links i : Int) = gt outs ((i : Int) + 1).toNat := fun h => by rw [show ((i : Int) + 1).toNat = i + 1 by omega, hO2 (i + 1) (by omega)]; congr 2; omega
  refine zT ?_
  repeat' first
  | ((with_reducible refine awp_seqQ ?_); intro _ _)
  | ((with_reducible refine awp_region ?_); refine zS ?_)
  | ((with_reducible refine Gd_d ?_ ?_) <;> intro hb hb2 <;> first | contradiction | (exfalso; omega) | (refine zH hb2 ?_; try clear hb2))
  | ((with_reducible refine awp_drawnC ?_ ?_); rfl; refine zS ?_)
  | ((with_reducible refine AWP_c ?_); refine zcdT ?_)
  | ((with_reducible refine AWP_c ?_); refine zcdF ?_)
  | ((with_reducible refine AWP_c ?_); refine zcdN ?_ ?_ <;> intro hb hb2 <;> first | contradiction | (exfalso; omega) | ((try refine zH hb2 ?_); try clear hb2))
  | ((with_reducible refine AWP_c ?_); refine zcdD ?_ ?_ <;> intro hb hb2 <;> first | contradiction | (exfalso; omega) | ((try refine zH hb2 ?_); try clear hb2))
  | ((with_reducible refine awp_skip ?_); try refine zS ?_)
  | with_reducible refine awp_block ?_
  | ((with_reducible refine awp_exit ?_); try refine zS ?_)
  | ((with_reducible refine CallK_id ?_); refine zcF ?_; refine ⟨_, by first | exact order_ok b.kids.length (inner b.links) (fun q0 q1 => acyclic q0 q1) | fail, fun _ => rfl, fun _ => rfl, rfl, ?_⟩; try refine zS ?_)
  | ((with_reducible refine awp_ret ?_); refine q_step (by assumption) ?_)
  | with_reducible refine fin_r ?_
  | ((with_reducible refine q_step (by assumption) ?_); try refine zS ?_)
  all_goals first
    | (rw [h0, g2, kids_bad (i := i) (by omega) (by rw [kidBad_iff]; omega), if_pos rfl]; done)
    | exact ⟨i + 1, ⟨by omega, by rw [g2, kids_ok (i := i) (by omega) (by rw [kidBad_iff]; omega)]⟩, by omega, (by exact zwc 4)⟩
    | skip
  rw [h0, g2, List.drop_eq_nil_of_le (by omega), kidsBad, if_neg (by simp)]
end Go.Eng
open Go Go.Proofs
namespace Go.Eng
set_option linter.unusedSimpArgs false
set_option linter.unusedVariables false
set_option maxRecDepth 10000
set_option maxHeartbeats 8000000
structure Gr where
  ns : List Nd
  fs : List Fl
def Gr.a (n : Gr) : A := .agg [.d (.fz (n.ns.map Nd.row)), .d (.fz (n.fs.map Fl.row))]
def Gr.bs (n : Gr) : List C := [.d (.fz (n.ns.map Nd.row)), .d (.fz (n.fs.map Fl.row))]
attribute [go_sem] Gr.a Gr.bs
theorem ofN_ok (t : T) (k : Int) (hs : t.size < 4611686018427387904) : AFn env 120 [t.a, aI k] [] (aB (ofF t k)) [] := by
  refine afn_body Tryz.func120 rfl (by decide) ?_
  simp only [Tryz.ntmps120, Tryz.results120, List.length_cons, List.length_nil, List.cons_append, List.nil_append, Nat.reduceAdd, Nat.reduceSub, List.replicate]
  repeat' first
  | ((with_reducible refine awp_seqQ ?_); intro _ _)
  | ((with_reducible refine awp_region ?_); refine zS ?_)
  | ((with_reducible refine Gd_d ?_ ?_) <;> intro hb hb2 <;> first | contradiction | (exfalso; omega) | (refine zH hb2 ?_; try clear hb2))
  | ((with_reducible refine CallK_id ?_); refine zcF ?_; refine ⟨_, by first | exact checkT_ok t hs | fail, fun _ => rfl, fun _ => rfl, rfl, ?_⟩; try refine zS ?_)
  | ((with_reducible refine awp_ret ?_); refine q_step (by assumption) ?_)
  | with_reducible refine fin_r ?_
  | ((with_reducible refine q_step (by assumption) ?_); try refine zS ?_)
  all_goals simp [go_sem, ofF, *]
def noneF (t : T) : Bool := decide (t.op = 0) && decide (t.n = 0) && decide (t.kids.length = 0)
theorem noneN_ok (t : T) : AFn env 121 [t.a] [] (aB (noneF t)) [] := by
  refine afn_body Tryz.func121 rfl (by decide) ?_
  simp only [Tryz.ntmps121, Tryz.results121, List.length_cons, List.length_nil, List.cons_append, List.nil_append, Nat.reduceAdd, Nat.reduceSub, List.replicate]
  repeat' first
  | ((with_reducible refine awp_seqQ ?_); intro _ _)
  | ((with_reducible refine awp_region ?_); refine zS ?_)
  | ((with_reducible refine Gd_d ?_ ?_) <;> intro hb hb2 <;> first | contradiction | (exfalso; omega) | (refine zH hb2 ?_; try clear hb2))
  | ((with_reducible refine awp_ret ?_); refine q_step (by assumption) ?_)
  | with_reducible refine fin_r ?_
  | ((with_reducible refine q_step (by assumption) ?_); try refine zS ?_)
  all_goals simp [go_sem, noneF, *]
  all_goals omega
theorem start1_ok (d : Nd) : AFn env 127 [d.a] [] (aB (decide (d.kind = 1))) [] := by
  refine afn_body Tryz.func127 rfl (by decide) ?_
  simp only [Tryz.ntmps127, Tryz.results127, List.length_cons, List.length_nil, List.cons_append, List.nil_append, Nat.reduceAdd, Nat.reduceSub, List.replicate]
  repeat' first
  | ((with_reducible refine awp_seqQ ?_); intro _ _)
  | ((with_reducible refine awp_region ?_); refine zS ?_)
  | ((with_reducible refine awp_ret ?_); refine q_step (by assumption) ?_)
  | with_reducible refine fin_r ?_
  | ((with_reducible refine q_step (by assumption) ?_); try refine zS ?_)
  all_goals rfl
theorem end1_ok (d : Nd) : AFn env 128 [d.a] [] (aB (decide (d.kind = 2))) [] := by
  refine afn_body Tryz.func128 rfl (by decide) ?_
  simp only [Tryz.ntmps128, Tryz.results128, List.length_cons, List.length_nil, List.cons_append, List.nil_append, Nat.reduceAdd, Nat.reduceSub, List.replicate]
  repeat' first
  | ((with_reducible refine awp_seqQ ?_); intro _ _)
  | ((with_reducible refine awp_region ?_); refine zS ?_)
  | ((with_reducible refine awp_ret ?_); refine q_step (by assumption) ?_)
  | with_reducible refine fin_r ?_
  | ((with_reducible refine q_step (by assumption) ?_); try refine zS ?_)
  all_goals rfl
theorem idxN_ok (F : FuncId) (p : Nd → Bool) (l : List Nd) (hl : l.length < 4611686018427387904) (h : ∀ i, i < l.length → AFn env F [(gt l i).a] [] (aB (p (gt l i))) []) :
    AFn env 126 [aF (l.map Nd.row), .c (.clo (.func F) [])] [] (aI (idxF p l 0)) [] := by
  refine afn_body Tryz.func126 rfl (by decide) ?_
  simp only [Tryz.ntmps126, Tryz.results126, List.length_cons, List.length_nil, List.cons_append, List.nil_append, Nat.reduceAdd, Nat.reduceSub, List.replicate]
  repeat' first
  | ((with_reducible refine awp_seqQ ?_); intro _ _)
  | ((with_reducible refine awp_region ?_); refine zS ?_)
  | with_reducible refine awp_block ?_
  refine awp_loopT (fun i : Nat => i ≤ l.length ∧ idxF p l 0 = idxF p (l.drop i) i) (fun i => l.length - i) (fun i => [(8, aI i)]) (fun _ => []) 0 ⟨by omega, rfl⟩ (by exact zwl) ?_
  rintro i ⟨h1, h2⟩
  refine zT ?_
  repeat' first
  | ((with_reducible refine awp_seqQ ?_); intro _ _)
  | ((with_reducible refine awp_region ?_); refine zS ?_)
  | ((with_reducible refine AWP_c ?_); refine zcdD ?_ ?_ <;> intro hb hb2 <;> first | contradiction | (exfalso; omega) | ((try refine zH hb2 ?_); try clear hb2))
  | ((with_reducible refine AWP_c ?_); refine zcdB ?_ ?_ <;> intro hb <;> first | contradiction | (try refine zH hb ?_))
  | ((with_reducible refine awp_skip ?_); try refine zS ?_)
  | with_reducible refine awp_block ?_
  | ((with_reducible refine awp_exit ?_); try refine zS ?_)
  | ((with_reducible refine CallK_id ?_); refine zcF ?_; refine ⟨_, by first | exact h i (by omega) | fail, fun _ => rfl, fun _ => rfl, rfl, ?_⟩; try refine zS ?_)
  | ((with_reducible refine awp_ret ?_); refine q_step (by assumption) ?_)
  | with_reducible refine fin_r ?_
  | ((with_reducible refine q_step (by assumption) ?_); try refine zS ?_)
  · rw [h2, drop_gt (by omega), idxF, if_pos ‹_›]
  · exact ⟨i + 1, ⟨by omega, by rw [h2, drop_gt (by omega), idxF, if_neg (by simp [*])]⟩, by omega, wk_le (by simp only [go_sem, Bool.not_not, List.mem_singleton, forall_eq, ↓reduceIte, if_pos, rowsAt_map, wrap64, wrapu8, List.getElem?_cons_zero, List.getElem?_cons_succ, Int.reduceToNat, Nat.reduceAdd, Nat.reduceBEq, Bool.or_false, Bool.false_or, Bool.true_or, Nat.reduceSub, Nat.reduceMul, Int.reduceAdd, Int.reduceEq, Int.reduceLT, Int.reduceLE, Int.reduceNeg, Nat.reduceLT, Nat.reduceLeDiff, Nat.reduceEqDiff]; simp) (by simp only [go_sem, Bool.not_not, List.mem_singleton, forall_eq, ↓reduceIte, if_pos, rowsAt_map, wrap64, wrapu8, List.getElem?_cons_zero, List.getElem?_cons_succ, Int.reduceToNat, Nat.reduceAdd, Nat.reduceBEq, Bool.or_false, Bool.false_or, Bool.true_or, Nat.reduceSub, Nat.reduceMul, Int.reduceAdd, Int.reduceEq, Int.reduceLT, Int.reduceLE, Int.reduceNeg, Nat.reduceLT, Nat.reduceLeDiff, Nat.reduceEqDiff])⟩
  · rw [h2, List.drop_eq_nil_of_le (by omega), idxF]
def startF (n : Gr) : Int := idxF (fun d : Nd => decide (d.kind = 1)) n.ns 0
def endF (n : Gr) : Int := idxF (fun d : Nd => decide (d.kind = 2)) n.ns 0
theorem start_ok (n : Gr) (hl : n.ns.length < 4611686018427387904) : AFn env 108 [n.a] [] (aI (startF n)) [] := by
  refine afn_body Tryz.func108 rfl (by decide) ?_
  simp only [Tryz.ntmps108, Tryz.results108, List.length_cons, List.length_nil, List.cons_append, List.nil_append, Nat.reduceAdd, Nat.reduceSub, List.replicate]
  repeat' first
  | ((with_reducible refine awp_seqQ ?_); intro _ _)
  | ((with_reducible refine awp_region ?_); refine zS ?_)
  | ((with_reducible refine CallK_id ?_); refine zcF ?_; refine ⟨_, by first | exact idxN_ok 127 (fun d => decide (d.kind = 1)) n.ns hl (fun i _ => start1_ok (gt n.ns i)) | fail, fun _ => rfl, fun _ => rfl, rfl, ?_⟩; try refine zS ?_)
  | ((with_reducible refine awp_ret ?_); refine q_step (by assumption) ?_)
  | with_reducible refine fin_r ?_
  | ((with_reducible refine q_step (by assumption) ?_); try refine zS ?_)
  all_goals rfl
theorem end_ok (n : Gr) (hl : n.ns.length < 4611686018427387904) : AFn env 109 [n.a] [] (aI (endF n)) [] := by
  refine afn_body Tryz.func109 rfl (by decide) ?_
  simp only [Tryz.ntmps109, Tryz.results109, List.length_cons, List.length_nil, List.cons_append, List.nil_append, Nat.reduceAdd, Nat.reduceSub, List.replicate]
  repeat' first
  | ((with_reducible refine awp_seqQ ?_); intro _ _)
  | ((with_reducible refine awp_region ?_); refine zS ?_)
  | ((with_reducible refine CallK_id ?_); refine zcF ?_; refine ⟨_, by first | exact idxN_ok 128 (fun d => decide (d.kind = 2)) n.ns hl (fun i _ => end1_ok (gt n.ns i)) | fail, fun _ => rfl, fun _ => rfl, rfl, ?_⟩; try refine zS ?_)
  | ((with_reducible refine awp_ret ?_); refine q_step (by assumption) ?_)
  | with_reducible refine fin_r ?_
  | ((with_reducible refine q_step (by assumption) ?_); try refine zS ?_)
  all_goals rfl
def mostF (k : Int) : Int := if k = 3 ∨ k = 4 then 3 else if k = 8 then 4 else 0
def rightN (d : Nd) : Bool := (decide (d.kind ≠ 4) || ofF d.t 1) && decide (1 ≤ d.kind ∧ d.kind ≤ 8) && decide (0 ≤ d.x ∧ d.x ≤ mostF d.kind) && (decide (d.kind = 4) || noneF d.t)
theorem right_okN (d : Nd) (hs : d.t.size < 4611686018427387904) : AFn env 103 [d.a] [] (aB (rightN d)) [] := by
  refine afn_body Tryz.func103 rfl (by decide) ?_
  simp only [Tryz.ntmps103, Tryz.results103, List.length_cons, List.length_nil, List.cons_append, List.nil_append, Nat.reduceAdd, Nat.reduceSub, List.replicate]
  repeat' first
  | ((with_reducible refine awp_seqQ ?_); intro _ _)
  | ((with_reducible refine awp_region ?_); refine zS ?_)
  | ((with_reducible refine Gd_d ?_ ?_) <;> intro hb hb2 <;> first | contradiction | (exfalso; omega) | (refine zH hb2 ?_; try clear hb2))
  | ((with_reducible refine AWP_c ?_); refine zcdD ?_ ?_ <;> intro hb hb2 <;> first | contradiction | (exfalso; omega) | ((try refine zH hb2 ?_); try clear hb2))
  | ((with_reducible refine AWP_c ?_); refine zcdM ?_ ?_ <;> intro hb <;> first | contradiction | (try refine zH hb ?_))
  | ((with_reducible refine awp_skip ?_); try refine zS ?_)
  | with_reducible refine awp_block ?_
  | ((with_reducible refine awp_exit ?_); try refine zS ?_)
  | ((with_reducible refine CallK_id ?_); refine zcF ?_; refine ⟨_, by first | exact ofN_ok d.t 1 hs | exact noneN_ok d.t | exact noneN_ok t0 | fail, fun _ => rfl, fun _ => rfl, rfl, ?_⟩; try refine zS ?_)
  | ((with_reducible refine awp_ret ?_); refine q_step (by assumption) ?_)
  | with_reducible refine fin_r ?_
  | ((with_reducible refine q_step (by assumption) ?_); try refine zS ?_)
  all_goals first | (rw [rightN]; simp [go_sem, mostF, noneF, t0, T.op, T.n, T.kids, *]; done) | (rw [rightN]; simp [go_sem, mostF, noneF, t0, T.op, T.n, T.kids, *]; omega) | trace_state
end Go.Eng
open Go Go.Proofs
namespace Go.Eng
set_option linter.unusedSimpArgs false
set_option linter.unusedVariables false
set_option maxRecDepth 10000
set_option maxHeartbeats 8000000
def idxs (p : Fl → Bool) : List Fl → Nat → List Int
  | [], _ => []
  | f :: l, i => if p f = true then (i : Int) :: idxs p l (i + 1) else idxs p l (i + 1)
theorem idxs_len (p : Fl → Bool) : ∀ (l : List Fl) (i : Nat), (idxs p l i).length ≤ l.length
  | [], _ => by simp [idxs]
  | f :: l, i => by have := idxs_len p l (i + 1); rw [idxs]; split <;> simp <;> omega
theorem idxs_mem {p : Fl → Bool} {k : Int} : ∀ {l : List Fl} {i : Nat}, k ∈ idxs p l i → (i : Int) ≤ k ∧ k < i + l.length
  | [], i, h => by simp [idxs] at h
  | f :: l, i, h => by
    rw [idxs] at h
    split at h
    · rcases List.mem_cons.1 h with rfl | h
      · simp only [List.length_cons]; omega
      · have := idxs_mem h; simp only [List.length_cons]; omega
    · have := idxs_mem h; simp only [List.length_cons]; omega
theorem outs1_ok (f : Fl) (i : Int) : AFn env 135 [f.a, P0] [Rm i] (aB (decide (f.src = i))) [Rm i] := by
  refine afn_body Tryz.func135 rfl (by decide) ?_
  simp only [Tryz.ntmps135, Tryz.results135, List.length_cons, List.length_nil, List.cons_append, List.nil_append, Nat.reduceAdd, Nat.reduceSub, List.replicate]
  repeat' first
  | ((with_reducible refine awp_seqQ ?_); intro _ _)
  | ((with_reducible refine awp_region ?_); refine zS ?_)
  | ((with_reducible refine awp_ret ?_); refine q_step (by assumption) ?_)
  | with_reducible refine fin_r ?_
  | ((with_reducible refine q_step (by assumption) ?_); try refine zS ?_)
  all_goals rfl
theorem ins1_ok (f : Fl) (i : Int) : AFn env 137 [f.a, P0] [Rm i] (aB (decide (f.dst = i))) [Rm i] := by
  refine afn_body Tryz.func137 rfl (by decide) ?_
  simp only [Tryz.ntmps137, Tryz.results137, List.length_cons, List.length_nil, List.cons_append, List.nil_append, Nat.reduceAdd, Nat.reduceSub, List.replicate]
  repeat' first
  | ((with_reducible refine awp_seqQ ?_); intro _ _)
  | ((with_reducible refine awp_region ?_); refine zS ?_)
  | ((with_reducible refine awp_ret ?_); refine q_step (by assumption) ?_)
  | with_reducible refine fin_r ?_
  | ((with_reducible refine q_step (by assumption) ?_); try refine zS ?_)
  all_goals rfl
theorem flows_ok (F : FuncId) (p : Fl → Bool) (n : Gr) (i : Int) (hl : n.fs.length < 1000000000000) (h : ∀ f : Fl, AFn env F [f.a, P0] [Rm i] (aB (p f)) [Rm i]) :
    AFn env 134 [n.a, .c (.clo (.func F) [.ptr 0 0 0 0])] [Rm i] (aF ((idxs p n.fs 0).map iRow)) [Rm i] := by
  refine afn_body Tryz.func134 rfl (by decide) ?_
  simp only [Tryz.ntmps134, Tryz.results134, List.length_cons, List.length_nil, List.cons_append, List.nil_append, Nat.reduceAdd, Nat.reduceSub, List.replicate]
  iterate 2 (refine awp_seq ?_; refine awp_region ?_; refine zS ?_)
  refine awp_wk (wk_virt none (i := 5) (s := 1) (by decide) rfl) ?_
  refine zT ?_
  repeat' first
  | ((with_reducible refine awp_seqQ ?_); intro _ _)
  | ((with_reducible refine awp_region ?_); refine zS ?_)
  | with_reducible refine awp_block ?_
  refine awp_loopT (fun z : Nat × List Int => z.1 ≤ n.fs.length ∧ z.2 ++ idxs p (n.fs.drop z.1) z.1 = idxs p n.fs 0 ∧ z.2.length ≤ z.1) (fun z => n.fs.length - z.1) (fun z => [(5, OwnK 2 z.2.length), (11, aI z.1)]) (fun z => [Rm i, some (.box n.bs), RwG z.2]) (0, []) ⟨by simp, by simp, by simp⟩ (by exact zwl) ?_
  rintro ⟨j, o⟩ ⟨h1, h2, h3⟩
  simp only at h1 h2 h3
  refine zT ?_
  repeat' first
  | ((with_reducible refine awp_seqQ ?_); intro _ _)
  | ((with_reducible refine awp_region ?_); refine zS ?_)
  | ((with_reducible refine AWP_c ?_); refine zcdD ?_ ?_ <;> intro hb hb2 <;> first | contradiction | (exfalso; omega) | ((try refine zH hb2 ?_); try clear hb2))
  | ((with_reducible refine AWP_c ?_); refine zcdB ?_ ?_ <;> intro hb <;> first | contradiction | (try refine zH hb ?_))
  | ((with_reducible refine awp_skip ?_); try refine zS ?_)
  | with_reducible refine awp_block ?_
  | ((with_reducible refine awp_exit ?_); try refine zS ?_)
  | ((with_reducible refine CallK_id ?_); refine zcT [0] ?_; refine ⟨_, _, by first | exact h _ | fail, ?_⟩; try refine zS ?_)
  | ((with_reducible refine awp_ret ?_); refine q_step (by assumption) ?_)
  | ((with_reducible refine q_step (by assumption) ?_); try refine zS ?_)
  · exact ⟨(j + 1, o ++ [(j : Int)]), ⟨by simp only; omega, by rw [← h2, drop_gt (l := n.fs) (i := j) (by omega), idxs, if_pos ‹_›]; simp, by simp; omega⟩, by simp only; omega, wk_cl 3 (by decide) (by simp) (by simp only [go_sem, Bool.not_not, List.mem_singleton, forall_eq, ↓reduceIte, if_pos, rowsAt_map, wrap64, wrapu8, List.getElem?_cons_zero, List.getElem?_cons_succ, Int.reduceToNat, Nat.reduceAdd, Nat.reduceBEq, Bool.or_false, Bool.false_or, Bool.true_or, Nat.reduceSub, Nat.reduceMul, Int.reduceAdd, Int.reduceEq, Int.reduceLT, Int.reduceLE, Int.reduceNeg, Nat.reduceLT, Nat.reduceLeDiff, Nat.reduceEqDiff]; try simp) (by simp only [go_sem, Bool.not_not, List.mem_singleton, forall_eq, ↓reduceIte, if_pos, rowsAt_map, wrap64, wrapu8, List.getElem?_cons_zero, List.getElem?_cons_succ, Int.reduceToNat, Nat.reduceAdd, Nat.reduceBEq, Bool.or_false, Bool.false_or, Bool.true_or, Nat.reduceSub, Nat.reduceMul, Int.reduceAdd, Int.reduceEq, Int.reduceLT, Int.reduceLE, Int.reduceNeg, Nat.reduceLT, Nat.reduceLeDiff, Nat.reduceEqDiff, List.map_append]; try simp [go_sem])⟩
  · exact ⟨(j + 1, o), ⟨by simp only; omega, by rw [← h2, drop_gt (l := n.fs) (i := j) (by omega), idxs, if_neg (by simp [*])], by simp only; omega⟩, by simp only; omega, (by exact zwc 3)⟩
  refine fin_r ?_
  rw [List.drop_eq_nil_of_le (by omega), idxs, List.append_nil] at h2
  rw [h2]
def outsF (n : Gr) (i : Int) : List Int := idxs (fun f => decide (f.src = i)) n.fs 0
def insF (n : Gr) (i : Int) : List Int := idxs (fun f => decide (f.dst = i)) n.fs 0
theorem outs_ok (n : Gr) (i : Int) (hl : n.fs.length < 1000000000000) : AFn env 123 [n.a, aI i] [] (aF ((outsF n i).map iRow)) [] := by
  refine afn_body Tryz.func123 rfl (by decide) ?_
  simp only [Tryz.ntmps123, Tryz.results123, List.length_cons, List.length_nil, List.cons_append, List.nil_append, Nat.reduceAdd, Nat.reduceSub, List.replicate]
  repeat' first
  | ((with_reducible refine awp_seqQ ?_); intro _ _)
  | ((with_reducible refine awp_region ?_); refine zS ?_)
  | ((with_reducible refine CallK_id ?_); refine zcT [1] ?_; refine ⟨_, _, by first | exact flows_ok 135 (fun f => decide (f.src = i)) n i hl (fun f => outs1_ok f i) | fail, ?_⟩; try refine zS ?_)
  | ((with_reducible refine awp_ret ?_); refine q_step (by assumption) ?_)
  | with_reducible refine fin_r ?_
  | ((with_reducible refine q_step (by assumption) ?_); try refine zS ?_)
  all_goals rfl
theorem ins_ok (n : Gr) (i : Int) (hl : n.fs.length < 1000000000000) : AFn env 136 [n.a, aI i] [] (aF ((insF n i).map iRow)) [] := by
  refine afn_body Tryz.func136 rfl (by decide) ?_
  simp only [Tryz.ntmps136, Tryz.results136, List.length_cons, List.length_nil, List.cons_append, List.nil_append, Nat.reduceAdd, Nat.reduceSub, List.replicate]
  repeat' first
  | ((with_reducible refine awp_seqQ ?_); intro _ _)
  | ((with_reducible refine awp_region ?_); refine zS ?_)
  | ((with_reducible refine CallK_id ?_); refine zcT [1] ?_; refine ⟨_, _, by first | exact flows_ok 137 (fun f => decide (f.dst = i)) n i hl (fun f => ins1_ok f i) | fail, ?_⟩; try refine zS ?_)
  | ((with_reducible refine awp_ret ?_); refine q_step (by assumption) ?_)
  | with_reducible refine fin_r ?_
  | ((with_reducible refine q_step (by assumption) ?_); try refine zS ?_)
  all_goals rfl
def elsF (n : Gr) : List Int → Int
  | [] => 0
  | o :: l => (if (gt n.fs o.toNat).els = true then 1 else 0) + elsF n l
theorem elsF_le (n : Gr) : ∀ l : List Int, 0 ≤ elsF n l ∧ elsF n l ≤ l.length
  | [] => by simp [elsF]
  | o :: l => by have := elsF_le n l; rw [elsF]; simp only [List.length_cons]; split <;> omega
def timF (n : Gr) (l : List Int) : Bool := l.all fun o => decide ((gt n.ns (gt n.fs o.toNat).dst.toNat).kind = 8)
def fitsF (n : Gr) (i : Int) : Bool :=
  let k := (gt n.ns i.toNat).kind
  let o : Int := (outsF n i).length
  let m : Int := (insF n i).length
  if k = 1 then decide (m = 0) && decide (o = 1) else if k = 2 then decide (m = 1) && decide (o = 0) else if k = 7 then decide (m = 1) && decide (o > 1) && timF n (outsF n i)
  else if k = 5 ∨ k = 6 then (decide (m = 1 ∧ o > 1) && decide (k = 6 ∨ elsF n (outsF n i) = 1)) || decide (m > 1 ∧ o = 1) else decide (m = 1) && decide (o = 1)
theorem els_drop {n : Gr} {os : List Int} {j : Nat} (h : j < os.length) : elsF n (os.drop j) = (if (gt n.fs (gt os j).toNat).els = true then 1 else 0) + elsF n (os.drop (j + 1)) := by
  rw [drop_gt h, elsF]
theorem tim_drop {n : Gr} {os : List Int} {j : Nat} (h : j < os.length) : timF n (os.drop j) = (decide ((gt n.ns (gt n.fs (gt os j).toNat).dst.toNat).kind = 8) && timF n (os.drop (j + 1))) := by
  rw [drop_gt h, timF, List.all_cons]; rfl
theorem fits_ok (n : Gr) (i : Int) (hl : n.fs.length < 1000000000000) (hi0 : 0 ≤ i) (hi1 : i < n.ns.length) (hd : ∀ f ∈ n.fs, 0 ≤ f.dst ∧ f.dst < n.ns.length) : AFn env 125 [n.a, aI i] [] (aB (fitsF n i)) [] := by
  have hol : (outsF n i).length ≤ n.fs.length := idxs_len (fun f => decide (f.src = i)) n.fs 0
  have hil : (insF n i).length ≤ n.fs.length := idxs_len (fun f => decide (f.dst = i)) n.fs 0
  have hom : ∀ k ∈ outsF n i, 0 ≤ k ∧ k < n.fs.length := fun k hk => by have := idxs_mem hk; omega
  refine afn_body Tryz.func125 rfl (by decide) ?_
  simp only [Tryz.ntmps125, Tryz.results125, List.length_cons, List.length_nil, List.cons_append, List.nil_append, Nat.reduceAdd, Nat.reduceSub, List.replicate]
  repeat' first
  | ((with_reducible refine awp_seqQ ?_); intro _ _)
  | ((with_reducible refine awp_region ?_); refine zS ?_)
  | ((with_reducible refine awp_drawnA ?_ ?_); rfl; refine zS ?_)
  | ((with_reducible refine DStep_id ?_); refine zdP ?_; refine ⟨_, by first | exact outs_ok n i (by omega) | exact ins_ok n i (by omega) | fail, fun _ => rfl, fun _ => rfl, rfl, (fun h => by first | cases h | fail), ?_⟩; try refine zS ?_)
  | with_reducible refine awp_block ?_
  | ((with_reducible refine CallK_id ?_); refine zcF ?_; refine ⟨_, by first | exact outs_ok n i (by omega) | exact ins_ok n i (by omega) | fail, fun _ => rfl, fun _ => rfl, rfl, ?_⟩; try refine zS ?_)
  refine awp_loopT (fun z : Nat × Int × Bool => z.1 ≤ (outsF n i).length ∧ z.2.1 + elsF n ((outsF n i).drop z.1) = elsF n (outsF n i) ∧ (z.2.2 && timF n ((outsF n i).drop z.1)) = timF n (outsF n i) ∧ 0 ≤ z.2.1 ∧ z.2.1 ≤ z.1) (fun z => (outsF n i).length - z.1) (fun z => [(8, aI z.2.1), (9, aB z.2.2), (28, aI z.1)]) (fun z => [some (.box n.bs)]) (0, 0, true) ⟨by simp, by simp, by simp, by simp, by simp⟩ (by exact zwl) ?_
  rintro ⟨j, c, t⟩ ⟨h1, h2, h3, h4, h5⟩
  simp only at h1 h2 h3 h4 h5
  have hR : j < (outsF n i).length → 0 ≤ gt (outsF n i) j ∧ gt (outsF n i) j < n.fs.length := fun h => hom _ (gt_mem h)
  have hD : j < (outsF n i).length → 0 ≤ (gt n.fs (gt (outsF n i) j).toNat).dst ∧ (gt n.fs (gt (outsF n i) j).toNat).dst < n.ns.length := fun h => hd _ (gt_mem (by have := hR h; omega))
  have hE := elsF_le n (outsF n i)
  refine zT ?_
  repeat' first
  | ((with_reducible refine awp_seqQ ?_); intro _ _)
  | ((with_reducible refine awp_region ?_); refine zS ?_)
  | ((with_reducible refine Gd_nd ?_ ?_) <;> intro hb hb2 <;> first | contradiction | (exfalso; omega) | (refine zH hb2 ?_; try clear hb2))
  | ((with_reducible refine Gd_d ?_ ?_) <;> intro hb hb2 <;> first | contradiction | (exfalso; omega) | (refine zH hb2 ?_; try clear hb2))
  | ((with_reducible refine awp_drawnC ?_ ?_); rfl; refine zS ?_)
  | ((with_reducible refine CGd_b ?_ ?_) <;> intro hb <;> first | contradiction | refine zH hb ?_)
  | ((with_reducible refine AWP_c ?_); refine zcdT ?_)
  | ((with_reducible refine AWP_c ?_); refine zcdD ?_ ?_ <;> intro hb hb2 <;> first | contradiction | (exfalso; omega) | ((try refine zH hb2 ?_); try clear hb2))
  | ((with_reducible refine AWP_c ?_); refine zcdB ?_ ?_ <;> intro hb <;> first | contradiction | (try refine zH hb ?_))
  | ((with_reducible refine awp_skip ?_); try refine zS ?_)
  | with_reducible refine awp_block ?_
  | ((with_reducible refine awp_exit ?_); try refine zS ?_)
  | ((with_reducible refine awp_ret ?_); refine q_step (by assumption) ?_)
  | with_reducible refine fin_r ?_
  | ((with_reducible refine q_step (by assumption) ?_); try refine zS ?_)
  all_goals try (
    have hT1 := tim_drop (n := n) (os := outsF n i) (j := j) (by omega)
    have hE1 := els_drop (n := n) (os := outsF n i) (j := j) (by omega)
    simp only [*, ↓reduceIte, Bool.false_eq_true] at hE1
    first
    | (rename t = true => q1; rename (gt n.fs (gt (outsF n i) j).toNat).els = true => q2; exact ⟨(j + 1, c + 1, decide ((gt n.ns (gt n.fs (gt (outsF n i) j).toNat).dst.toNat).kind = 8)), ⟨by simp only; omega, by simp only; omega, by rw [← h3, hT1]; simp only [*, Bool.true_and, Bool.false_and], by simp only; omega, by simp only; omega⟩, by simp only; omega, (by exact zwc 1)⟩)
    | (rename t = false => q1; rename (gt n.fs (gt (outsF n i) j).toNat).els = true => q2; exact ⟨(j + 1, c + 1, false), ⟨by simp only; omega, by simp only; omega, by rw [← h3, hT1]; simp only [*, Bool.true_and, Bool.false_and], by simp only; omega, by simp only; omega⟩, by simp only; omega, (by exact zwc 1)⟩)
    | (rename t = true => q1; rename (gt n.fs (gt (outsF n i) j).toNat).els = false => q2; exact ⟨(j + 1, c, decide ((gt n.ns (gt n.fs (gt (outsF n i) j).toNat).dst.toNat).kind = 8)), ⟨by simp only; omega, by simp only; omega, by rw [← h3, hT1]; simp only [*, Bool.true_and, Bool.false_and], by simp only; omega, by simp only; omega⟩, by simp only; omega, (by exact zwc 1)⟩)
    | (rename t = false => q1; rename (gt n.fs (gt (outsF n i) j).toNat).els = false => q2; exact ⟨(j + 1, c, false), ⟨by simp only; omega, by simp only; omega, by rw [← h3, hT1]; simp only [*, Bool.true_and, Bool.false_and], by simp only; omega, by simp only; omega⟩, by simp only; omega, (by exact zwc 1)⟩)
    | skip)
  all_goals
    have hj : j = (outsF n i).length := by omega
    rw [List.drop_eq_nil_of_le (by omega), elsF] at h2
    rw [List.drop_eq_nil_of_le (by omega), timF, List.all_nil, Bool.and_true] at h3
    have h2 : c = elsF n (outsF n i) := by omega
    subst h2
    subst h3
    clear hE hR hD hom hd hol hil h1 h4 h5 hi0 hi1 hl h2
    unfold fitsF
    simp only
    generalize ((insF n i).length : Int) = m at *
    generalize ((outsF n i).length : Int) = o at *
    generalize (gt n.ns i.toNat).kind = k at *
    generalize timF n (outsF n i) = t at *
    generalize elsF n (outsF n i) = e at *
  all_goals first
    | (simp [*]; done)
    | (simp [*]; omega)
    | trace_state
end Go.Eng
