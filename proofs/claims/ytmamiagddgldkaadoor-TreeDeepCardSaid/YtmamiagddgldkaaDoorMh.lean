/- Each function of the program, walked over plain data: what it comes to, at all arguments. -/
import Derived.Test.YtmamiagddgldkaaDoorMd
import Derived.Test.YtmamiagddgldkaaDoorMg
import Derived.Test.YtmamiagddgldkaaDoorMe
import Derived.Test.YtmamiagddgldkaaDoorMa
import Derived.Test.YtmamiagddgldkaaDoorEf
import Derived.Test.YtmamiagddgldkaaDoorRows
open Go Go.Proofs
namespace Go.Eng
set_option linter.unusedSimpArgs false
set_option linter.unusedVariables false
set_option maxRecDepth 100000
set_option maxHeartbeats 8000000
theorem attrsX_eq : ∀ (d : Nat) (s : Str) (acc : List At), match attrsS d s with | some y => attrsX d s acc = (y.2, true, acc ++ y.1) | none => (attrsX d s acc).2.1 = false
  | 0, s, acc => by simp [attrsS, attrsX]
  | d + 1, s, acc => by
    rw [attrsS, attrsX]
    by_cases hp : pfx s [32] = true
    · simp only [if_pos hp]
      cases h : attrS (s.drop 1) with
      | none =>
        have : (attrR (s.drop 1)).2.2 = false := by unfold attrR; rw [h]
        simp only [this, Bool.false_eq_true, if_false]
      | some x =>
        have hx : attrR (s.drop 1) = (x.1, x.2, true) := by unfold attrR; rw [h]
        simp only [hx, if_true]
        have := attrsX_eq d x.2 (acc ++ [x.1])
        cases h2 : attrsS d x.2 with
        | none => rw [h2] at this; simpa using this
        | some y => rw [h2] at this; simp only at this; simp [this]
    · simp [hp]
theorem opn_eq (l : Str) : if (openR l).2.2.2 = true then opnS l = some ((openR l).1.name, (openR l).1.ats, (openR l).2.1, (openR l).2.2.1) else opnS l = none := by
  unfold opnS
  by_cases hn : isName (l.takeWhile ptU) = true
  · rw [if_pos hn]
    have hX := attrsX_eq l.length (l.dropWhile ptU) []
    have hO : openX l = attrsX l.length (l.dropWhile ptU) [] := by unfold openX; rw [if_pos hn]
    cases ha : attrsS l.length (l.dropWhile ptU) with
    | none =>
      rw [ha] at hX
      have : openO l = false := by unfold openO; rw [hO, hX]; rfl
      have : (openR l).2.2.2 = false := by unfold openR; split <;> simp [this]
      simp [this]
    | some x =>
      rw [ha, ← hO] at hX
      simp only at hX
      have hoo : openO l = (decide (x.1.length ≤ 64) && !dup x.1) := by unfold openO; rw [hX]; simp
      by_cases hc : x.1.length ≤ 64 ∧ dup x.1 = false
      · have h1 : openO l = true := by rw [hoo]; simp [hc]
        unfold openR
        rw [hX, h1]
        simp only [if_pos hc, List.nil_append]
        by_cases h2 : pfx x.2 [47, 62] = true
        · simp [h2]
        · by_cases h3 : pfx x.2 [62] = true
          · simp [h2, h3]
          · simp [h2, h3]
      · have h1 : openO l = false := by
          rw [hoo]
          by_cases h5 : x.1.length ≤ 64
          · have : dup x.1 = true := by cases h6 : dup x.1; exact absurd ⟨h5, h6⟩ hc; rfl
            simp [this]
          · simp [h5]
        have : (openR l).2.2.2 = false := by unfold openR; split <;> simp [h1]
        simp [this, hc]
  · rw [if_neg hn]
    have hX : openX l = (l.dropWhile ptU, false, []) := by unfold openX; rw [if_neg hn]
    have : openO l = false := by unfold openO; rw [hX]; rfl
    have : (openR l).2.2.2 = false := by unfold openR; split <;> simp [this]
    simp [this]
def firstR (l : Str) : List Mk × Str × Bool :=
  if pfx l [60, 47] = true then ([⟨2, 0, (l.drop 2).takeWhile ptU, [], []⟩], (if pfx ((l.drop 2).dropWhile ptU) [62] = true then ((l.drop 2).dropWhile ptU).drop 1 else (l.drop 2).dropWhile ptU), isName ((l.drop 2).takeWhile ptU) && pfx ((l.drop 2).dropWhile ptU) [62])
  else if pfx l [60] = true then ((openR (l.drop 1)).1 :: (if (openR (l.drop 1)).2.1 = true then [⟨2, 0, (openR (l.drop 1)).1.name, [], []⟩] else []), (openR (l.drop 1)).2.2.1, (openR (l.drop 1)).2.2.2)
  else ([⟨3, 0, [], [], (meanR (l.takeWhile (· != 60))).1⟩], l.dropWhile (· != 60), (meanR (l.takeWhile (· != 60))).2)
theorem first_eq (l : Str) : if (firstR l).2.2 = true then firstS l = some ((firstR l).1, (firstR l).2.1) else firstS l = none := by
  unfold firstS firstR
  by_cases h1 : pfx l [60, 47] = true
  · simp only [if_pos h1]
    by_cases h2 : isName ((l.drop 2).takeWhile ptU) = true
    · by_cases h3 : pfx ((l.drop 2).dropWhile ptU) [62] = true
      · simp [h2, h3]
      · simp [h2, h3]
    · simp [h2]
  · simp only [if_neg h1]
    by_cases h2 : pfx l [60] = true
    · simp only [if_pos h2]
      have ho := opn_eq (l.drop 1)
      split
      · rename_i h3
        rw [if_pos h3] at ho
        rw [ho]
        have hk : (openR (l.drop 1)).1 = ⟨1, 0, (openR (l.drop 1)).1.name, (openR (l.drop 1)).1.ats, []⟩ := by unfold openR; split <;> rfl
        simp only
        rw [← hk]
      · rename_i h3
        rw [if_neg h3] at ho
        rw [ho]
    · simp only [if_neg h2]
      split
      · rw [meanR_t ‹_›]
      · rename_i h3; rw [meanR_f (Bool.not_eq_true _ ▸ h3)]
theorem first_ok (l : Str) (hs : l.length ≤ 1000000) : AFn env 34 [aS l] [] (.tup [aF ((firstR l).1.map Mk.row), aS (firstR l).2.1, aB (firstR l).2.2]) [] := by
  have t0 := tw_len l (· != 60)
  refine afn_body Tryd.func34 rfl (by decide) ?_
  simp only [Tryd.ntmps34, Tryd.results34, List.length_cons, List.length_nil, List.cons_append, List.nil_append, Nat.reduceAdd, Nat.reduceSub, List.replicate]
  repeat' first
  | with_reducible refine awp_seq ?_
  | ((with_reducible refine awp_region ?_); refine zS ?_)
  | ((with_reducible refine Gd_nd ?_ ?_) <;> intro hb hb2 <;> first | contradiction | (exfalso; omega) | (refine zH hb2 ?_; try clear hb2))
  | ((with_reducible refine Gd_nb ?_ ?_) <;> intro hb <;> first | contradiction | refine zH hb ?_)
  | ((with_reducible refine Gd_d ?_ ?_) <;> intro hb hb2 <;> first | contradiction | (exfalso; omega) | (refine zH hb2 ?_; try clear hb2))
  | ((with_reducible refine Gd_b ?_ ?_) <;> intro hb <;> first | contradiction | refine zH hb ?_)
  | ((with_reducible refine Res_id ?_); refine zS ?_)
  | ((with_reducible refine awp_drawnC ?_ ?_); rfl; refine zS ?_)
  | ((with_reducible refine awp_drawnA ?_ ?_); rfl; refine zS ?_)
  | ((with_reducible refine CGd_nd ?_ ?_) <;> intro hb hb2 <;> first | contradiction | (exfalso; omega) | (refine zH hb2 ?_; try clear hb2))
  | ((with_reducible refine CGd_nb ?_ ?_) <;> intro hb <;> first | contradiction | refine zH hb ?_)
  | ((with_reducible refine CGd_d ?_ ?_) <;> intro hb hb2 <;> first | contradiction | (exfalso; omega) | (refine zH hb2 ?_; try clear hb2))
  | ((with_reducible refine CGd_b ?_ ?_) <;> intro hb <;> first | contradiction | refine zH hb ?_)
  | ((with_reducible refine CRes_id ?_); refine zS ?_)
  | ((with_reducible refine DStep_id ?_); refine zdP ?_; refine ⟨_, by first | exact cutPrefix_ok _ _ | exact named_ok _ (by simp only [List.length_drop]; omega) | exact open_ok _ (by simp only [List.length_drop]; omega) | exact cut60_ok _ (by omega) | exact meaA_ok _ (by omega) | fail, fun _ => rfl, fun _ => rfl, rfl, (fun h => by first | cases h | fail), ?_⟩; try refine zS ?_)
  | ((with_reducible refine DStep_id ?_); refine zdW ?_; refine ⟨_, by first | exact cutPrefix_ok _ _ | exact named_ok _ (by simp only [List.length_drop]; omega) | exact open_ok _ (by simp only [List.length_drop]; omega) | exact cut60_ok _ (by omega) | exact meaA_ok _ (by omega) | fail, fun _ => rfl, fun _ => rfl, rfl, ?_⟩; try refine zS ?_)
  | ((with_reducible refine AWP_c ?_); refine zcdT ?_)
  | ((with_reducible refine AWP_c ?_); refine zcdF ?_)
  | ((with_reducible refine AWP_c ?_); refine zcdN ?_ ?_ <;> intro hb hb2 <;> first | contradiction | (exfalso; omega) | ((try refine zH hb2 ?_); try clear hb2))
  | ((with_reducible refine AWP_c ?_); refine zcdD ?_ ?_ <;> intro hb hb2 <;> first | contradiction | (exfalso; omega) | ((try refine zH hb2 ?_); try clear hb2))
  | ((with_reducible refine AWP_c ?_); refine zcdM ?_ ?_ <;> intro hb <;> first | contradiction | (try refine zH hb ?_))
  | ((with_reducible refine AWP_c ?_); refine zcdB ?_ ?_ <;> intro hb <;> first | contradiction | (try refine zH hb ?_))
  | ((with_reducible refine awp_ret ?_); refine fin_r ?_)
  | ((with_reducible refine awp_ret ?_); refine fin_q ?_ ?_)
  | with_reducible refine fin_qn ?_ ?_
  | ((with_reducible refine awp_skip ?_); refine zS ?_)
  | with_reducible refine awp_block ?_
  | ((with_reducible refine awp_exit ?_); refine zS ?_)
  | ((with_reducible refine CallK_id ?_); refine zcF ?_; refine ⟨_, by first | exact cutPrefix_ok _ _ | exact named_ok _ (by simp only [List.length_drop]; omega) | exact open_ok _ (by simp only [List.length_drop]; omega) | exact cut60_ok _ (by omega) | exact meaA_ok _ (by omega) | fail, fun _ => rfl, fun _ => rfl, rfl, ?_⟩; try refine zS ?_)
  | ((with_reducible refine awp_label ?_); try refine zS ?_)
  | ((with_reducible refine awp_goto ?_); try refine zS ?_)
  | ((with_reducible refine awp_scope0 ?_); try refine zS ?_)
  | exact True.intro
  | fail
  all_goals first
    | (simp [go_sem, firstR, *]; done)
    | (simp [go_sem, firstR, *]; rfl)
    | (have hfo : firstR l = ((openR (l.drop 1)).1 :: (if (openR (l.drop 1)).2.1 = true then [⟨2, 0, (openR (l.drop 1)).1.name, [], []⟩] else []), (openR (l.drop 1)).2.2.1, (openR (l.drop 1)).2.2.2) := by
         unfold firstR; rw [if_neg (by rw [Bool.not_eq_true]; assumption), if_pos ‹_›]
       rw [hfo]
       generalize openR (l.drop 1) = o at *
       first | (simp [go_sem, *]; done) | (simp [go_sem, *]; rfl))
    | trace_state
theorem attrsX_len : ∀ (d : Nat) (s : Str) (acc : List At), (attrsX d s acc).1.length ≤ s.length
  | 0, s, acc => by simp [attrsX]
  | d + 1, s, acc => by
    rw [attrsX]
    split
    · split
      · have h1 := attrsX_len d (attrR (s.drop 1)).2.1 (acc ++ [(attrR (s.drop 1)).1])
        have h2 := attrR_len (s.drop 1)
        rw [List.length_drop] at h2
        omega
      · simp
    · simp
theorem openR_len (l : Str) : (openR l).2.2.1.length ≤ l.length := by
  have h1 : (openX l).1.length ≤ l.length := by
    have t1 := tw_len l ptU
    unfold openX
    split
    · have := attrsX_len l.length (l.dropWhile ptU) []; omega
    · simp only; omega
  unfold openR
  split
  · simp only [List.length_drop]; omega
  · simp only; split <;> (try simp only [List.length_drop]) <;> omega
theorem first_len {s : Str} (h : s ≠ []) : (firstR s).2.1.length < s.length ∧ (firstR s).1.length ≤ 2 := by
  have h0 := List.length_pos_iff.2 h
  unfold firstR
  split
  · rename_i hp
    have hl : 2 ≤ s.length := pfx_len hp
    have t1 := tw_len (s.drop 2) ptU
    rw [List.length_drop] at t1
    refine ⟨?_, by simp⟩
    simp only; split <;> (try simp only [List.length_drop]) <;> omega
  · split
    · have := openR_len (s.drop 1)
      rw [List.length_drop] at this
      refine ⟨by simp only; omega, ?_⟩
      simp only [List.length_cons]; split <;> simp
    · rename_i h1 h2
      refine ⟨?_, by simp⟩
      obtain ⟨c, r, rfl⟩ := List.exists_cons_of_ne_nil h
      have hc : (c != 60) = true := by
        rw [pfx_cons, pfx_e] at h2
        simp only [Bool.and_true, beq_iff_eq] at h2
        exact bne_iff_ne.2 (fun e => h2 e.symm)
      have := tw_len r (· != 60)
      simp only [List.dropWhile_cons, hc, if_true, List.length_cons]
      omega
def joinR (acc : List Mk) : Int ⊕ List Mk → Int ⊕ List Mk
  | .inl e => .inl e
  | .inr r => .inr (acc ++ r)
def readR (s : Str) : List Mk × Int × Int := if 20000 < s.length then ([], 0, 2) else match readS s.length s 0 with | .inl a => ([], a, 4) | .inr r => (r, 0, 0)
theorem readS_step {d : Nat} {s : Str} (a : Int) (h : s ≠ []) : readS (d + 1) s a = if (firstR s).2.2 = true then joinR ((firstR s).1.map (setAt a)) (readS d (firstR s).2.1 (a + ((s.length : Int) - (firstR s).2.1.length))) else .inl a := by
  obtain ⟨c, l, rfl⟩ := List.exists_cons_of_ne_nil h
  have hf := first_eq (c :: l)
  rw [readS]
  split
  · rename_i hn
    split
    · rename_i h1; rw [if_pos h1, hn] at hf; cases hf
    · rfl
  · rename_i x hx
    by_cases h1 : (firstR (c :: l)).2.2 = true
    · rw [if_pos h1] at hf ⊢
      rw [hf] at hx
      cases hx
      simp only [List.length_cons, Int.natCast_add, Int.natCast_one]
      unfold joinR
      rfl
    · rw [if_neg h1] at hf; rw [hf] at hx; cases hx
def joinR' (acc : List Mk) (x : Int ⊕ List Mk) : Int ⊕ List Mk := joinR acc x
theorem joinR_joinR (a b : List Mk) (x : Int ⊕ List Mk) : joinR a (joinR b x) = joinR (a ++ b) x := by cases x <;> simp [joinR]
theorem read_ok (s0 : Str) (h0 : s0.length < 4611686018427387904) : AFn env 25 [aS s0] [] (.tup [aF ((readR s0).1.map Mk.row), aI (readR s0).2.1, aI (readR s0).2.2]) [] := by
  refine afn_body Tryd.func25 rfl (by decide) ?_
  simp only [Tryd.ntmps25, Tryd.results25, List.length_cons, List.length_nil, List.cons_append, List.nil_append, Nat.reduceAdd, Nat.reduceSub, List.replicate]
  repeat' first
  | with_reducible refine awp_seq ?_
  | ((with_reducible refine awp_region ?_); refine zS ?_)
  | ((with_reducible refine Gd_nd ?_ ?_) <;> intro hb hb2 <;> first | contradiction | (exfalso; omega) | (refine zH hb2 ?_; try clear hb2))
  | ((with_reducible refine Gd_nb ?_ ?_) <;> intro hb <;> first | contradiction | refine zH hb ?_)
  | ((with_reducible refine Gd_d ?_ ?_) <;> intro hb hb2 <;> first | contradiction | (exfalso; omega) | (refine zH hb2 ?_; try clear hb2))
  | ((with_reducible refine Gd_b ?_ ?_) <;> intro hb <;> first | contradiction | refine zH hb ?_)
  | ((with_reducible refine Res_id ?_); refine zS ?_)
  | ((with_reducible refine awp_drawnC ?_ ?_); rfl; refine zS ?_)
  | ((with_reducible refine awp_drawnA ?_ ?_); rfl; refine zS ?_)
  | ((with_reducible refine CGd_nd ?_ ?_) <;> intro hb hb2 <;> first | contradiction | (exfalso; omega) | (refine zH hb2 ?_; try clear hb2))
  | ((with_reducible refine CGd_nb ?_ ?_) <;> intro hb <;> first | contradiction | refine zH hb ?_)
  | ((with_reducible refine CGd_d ?_ ?_) <;> intro hb hb2 <;> first | contradiction | (exfalso; omega) | (refine zH hb2 ?_; try clear hb2))
  | ((with_reducible refine CGd_b ?_ ?_) <;> intro hb <;> first | contradiction | refine zH hb ?_)
  | ((with_reducible refine CRes_id ?_); refine zS ?_)
  | ((with_reducible refine DStep_id ?_); refine zdP ?_; refine ⟨_, by first | exact first_ok _ (by omega) | fail, fun _ => rfl, fun _ => rfl, rfl, (fun h => by first | cases h | fail), ?_⟩; try refine zS ?_)
  | ((with_reducible refine DStep_id ?_); refine zdW ?_; refine ⟨_, by first | exact first_ok _ (by omega) | fail, fun _ => rfl, fun _ => rfl, rfl, ?_⟩; try refine zS ?_)
  | ((with_reducible refine AWP_c ?_); refine zcdT ?_)
  | ((with_reducible refine AWP_c ?_); refine zcdF ?_)
  | ((with_reducible refine AWP_c ?_); refine zcdN ?_ ?_ <;> intro hb hb2 <;> first | contradiction | (exfalso; omega) | ((try refine zH hb2 ?_); try clear hb2))
  | ((with_reducible refine AWP_c ?_); refine zcdD ?_ ?_ <;> intro hb hb2 <;> first | contradiction | (exfalso; omega) | ((try refine zH hb2 ?_); try clear hb2))
  | ((with_reducible refine AWP_c ?_); refine zcdM ?_ ?_ <;> intro hb <;> first | contradiction | (try refine zH hb ?_))
  | ((with_reducible refine AWP_c ?_); refine zcdB ?_ ?_ <;> intro hb <;> first | contradiction | (try refine zH hb ?_))
  | ((with_reducible refine awp_ret ?_); refine fin_r ?_)
  | ((with_reducible refine awp_ret ?_); refine fin_q ?_ ?_)
  | with_reducible refine fin_qn ?_ ?_
  | ((with_reducible refine awp_skip ?_); refine zS ?_)
  | ((with_reducible refine awp_exit ?_); refine zS ?_)
  | ((with_reducible refine CallK_id ?_); refine zcF ?_; refine ⟨_, by first | exact first_ok _ (by omega) | fail, fun _ => rfl, fun _ => rfl, rfl, ?_⟩; try refine zS ?_)
  | ((with_reducible refine awp_label ?_); try refine zS ?_)
  | ((with_reducible refine awp_goto ?_); try refine zS ?_)
  | ((with_reducible refine awp_scope0 ?_); try refine zS ?_)
  | exact True.intro
  | fail
  · have : readR s0 = ([], 0, 2) := if_pos (by omega)
    rw [this]; first | rfl | (simp [go_sem]; done) | trace_state
  have hR : readR s0 = (match readS s0.length s0 0 with | .inl a => ([], a, 4) | .inr r => (r, 0, 0)) := if_neg (by omega)
  refine awp_wk (wk_virt (i := 5) (s := 5) none (by decide) rfl) ?_
  refine zT ?_
  repeat' first
  | with_reducible refine awp_seq ?_
  | ((with_reducible refine awp_region ?_); refine zS ?_)
  | ((with_reducible refine Gd_nd ?_ ?_) <;> intro hb hb2 <;> first | contradiction | (exfalso; omega) | (refine zH hb2 ?_; try clear hb2))
  | ((with_reducible refine Gd_nb ?_ ?_) <;> intro hb <;> first | contradiction | refine zH hb ?_)
  | ((with_reducible refine Gd_d ?_ ?_) <;> intro hb hb2 <;> first | contradiction | (exfalso; omega) | (refine zH hb2 ?_; try clear hb2))
  | ((with_reducible refine Gd_b ?_ ?_) <;> intro hb <;> first | contradiction | refine zH hb ?_)
  | ((with_reducible refine Res_id ?_); refine zS ?_)
  | ((with_reducible refine awp_drawnC ?_ ?_); rfl; refine zS ?_)
  | ((with_reducible refine awp_drawnA ?_ ?_); rfl; refine zS ?_)
  | ((with_reducible refine CGd_nd ?_ ?_) <;> intro hb hb2 <;> first | contradiction | (exfalso; omega) | (refine zH hb2 ?_; try clear hb2))
  | ((with_reducible refine CGd_nb ?_ ?_) <;> intro hb <;> first | contradiction | refine zH hb ?_)
  | ((with_reducible refine CGd_d ?_ ?_) <;> intro hb hb2 <;> first | contradiction | (exfalso; omega) | (refine zH hb2 ?_; try clear hb2))
  | ((with_reducible refine CGd_b ?_ ?_) <;> intro hb <;> first | contradiction | refine zH hb ?_)
  | ((with_reducible refine CRes_id ?_); refine zS ?_)
  | ((with_reducible refine DStep_id ?_); refine zdP ?_; refine ⟨_, by first | exact first_ok _ (by omega) | fail, fun _ => rfl, fun _ => rfl, rfl, (fun h => by first | cases h | fail), ?_⟩; try refine zS ?_)
  | ((with_reducible refine DStep_id ?_); refine zdW ?_; refine ⟨_, by first | exact first_ok _ (by omega) | fail, fun _ => rfl, fun _ => rfl, rfl, ?_⟩; try refine zS ?_)
  | ((with_reducible refine AWP_c ?_); refine zcdT ?_)
  | ((with_reducible refine AWP_c ?_); refine zcdF ?_)
  | ((with_reducible refine AWP_c ?_); refine zcdN ?_ ?_ <;> intro hb hb2 <;> first | contradiction | (exfalso; omega) | ((try refine zH hb2 ?_); try clear hb2))
  | ((with_reducible refine AWP_c ?_); refine zcdD ?_ ?_ <;> intro hb hb2 <;> first | contradiction | (exfalso; omega) | ((try refine zH hb2 ?_); try clear hb2))
  | ((with_reducible refine AWP_c ?_); refine zcdM ?_ ?_ <;> intro hb <;> first | contradiction | (try refine zH hb ?_))
  | ((with_reducible refine AWP_c ?_); refine zcdB ?_ ?_ <;> intro hb <;> first | contradiction | (try refine zH hb ?_))
  | ((with_reducible refine awp_ret ?_); refine fin_r ?_)
  | ((with_reducible refine awp_ret ?_); refine fin_q ?_ ?_)
  | with_reducible refine fin_qn ?_ ?_
  | ((with_reducible refine awp_skip ?_); refine zS ?_)
  | with_reducible refine awp_block ?_
  | ((with_reducible refine awp_exit ?_); refine zS ?_)
  | ((with_reducible refine CallK_id ?_); refine zcF ?_; refine ⟨_, by first | exact first_ok _ (by omega) | fail, fun _ => rfl, fun _ => rfl, rfl, ?_⟩; try refine zS ?_)
  | ((with_reducible refine awp_label ?_); try refine zS ?_)
  | ((with_reducible refine awp_goto ?_); try refine zS ?_)
  | ((with_reducible refine awp_scope0 ?_); try refine zS ?_)
  | exact True.intro
  | fail
  refine awp_loopT (fun z : Nat × Str × List Mk => z.2.1.length ≤ z.1 ∧ z.2.1.length ≤ s0.length ∧ z.2.2.length + 2 * z.2.1.length ≤ 2 * s0.length ∧ readS s0.length s0 0 = joinR z.2.2 (readS z.1 z.2.1 ((s0.length : Int) - z.2.1.length))) (fun z => z.2.1.length) (fun z => [(0, aS z.2.1), (5, .c (.own 0 0 z.2.2.length z.2.2.length))]) (fun z => [some (.rows 5 (z.2.2.map Mk.row))]) (s0.length, s0, []) ⟨by simp, by simp, by simp, by simp [joinR]; cases readS s0.length s0 0 <;> rfl⟩ (by exact zwl) ?_
  rintro ⟨d, s, acc⟩ ⟨h1, h2, h3, h4⟩
  simp only at h1 h2 h3 h4
  refine zT ?_
  repeat' first
  | with_reducible refine awp_seq ?_
  | ((with_reducible refine awp_region ?_); refine zS ?_)
  | ((with_reducible refine Gd_nd ?_ ?_) <;> intro hb hb2 <;> first | contradiction | (exfalso; omega) | (refine zH hb2 ?_; try clear hb2))
  | ((with_reducible refine Gd_nb ?_ ?_) <;> intro hb <;> first | contradiction | refine zH hb ?_)
  | ((with_reducible refine Gd_d ?_ ?_) <;> intro hb hb2 <;> first | contradiction | (exfalso; omega) | (refine zH hb2 ?_; try clear hb2))
  | ((with_reducible refine Gd_b ?_ ?_) <;> intro hb <;> first | contradiction | refine zH hb ?_)
  | ((with_reducible refine Res_id ?_); refine zS ?_)
  | ((with_reducible refine awp_drawnC ?_ ?_); rfl; refine zS ?_)
  | ((with_reducible refine awp_drawnA ?_ ?_); rfl; refine zS ?_)
  | ((with_reducible refine CGd_nd ?_ ?_) <;> intro hb hb2 <;> first | contradiction | (exfalso; omega) | (refine zH hb2 ?_; try clear hb2))
  | ((with_reducible refine CGd_nb ?_ ?_) <;> intro hb <;> first | contradiction | refine zH hb ?_)
  | ((with_reducible refine CGd_d ?_ ?_) <;> intro hb hb2 <;> first | contradiction | (exfalso; omega) | (refine zH hb2 ?_; try clear hb2))
  | ((with_reducible refine CGd_b ?_ ?_) <;> intro hb <;> first | contradiction | refine zH hb ?_)
  | ((with_reducible refine CRes_id ?_); refine zS ?_)
  | ((with_reducible refine DStep_id ?_); refine zdP ?_; refine ⟨_, by first | exact first_ok _ (by omega) | fail, fun _ => rfl, fun _ => rfl, rfl, (fun h => by first | cases h | fail), ?_⟩; try refine zS ?_)
  | ((with_reducible refine DStep_id ?_); refine zdW ?_; refine ⟨_, by first | exact first_ok _ (by omega) | fail, fun _ => rfl, fun _ => rfl, rfl, ?_⟩; try refine zS ?_)
  | ((with_reducible refine AWP_c ?_); refine zcdT ?_)
  | ((with_reducible refine AWP_c ?_); refine zcdF ?_)
  | ((with_reducible refine AWP_c ?_); refine zcdN ?_ ?_ <;> intro hb hb2 <;> first | contradiction | (exfalso; omega) | ((try refine zH hb2 ?_); try clear hb2))
  | ((with_reducible refine AWP_c ?_); refine zcdD ?_ ?_ <;> intro hb hb2 <;> first | contradiction | (exfalso; omega) | ((try refine zH hb2 ?_); try clear hb2))
  | ((with_reducible refine AWP_c ?_); refine zcdM ?_ ?_ <;> intro hb <;> first | contradiction | (try refine zH hb ?_))
  | ((with_reducible refine AWP_c ?_); refine zcdB ?_ ?_ <;> intro hb <;> first | contradiction | (try refine zH hb ?_))
  | ((with_reducible refine awp_ret ?_); refine fin_r ?_)
  | ((with_reducible refine awp_ret ?_); refine fin_q ?_ ?_)
  | with_reducible refine fin_qn ?_ ?_
  | ((with_reducible refine awp_skip ?_); refine zS ?_)
  | with_reducible refine awp_block ?_
  | ((with_reducible refine awp_exit ?_); refine zS ?_)
  | ((with_reducible refine CallK_id ?_); refine zcF ?_; refine ⟨_, by first | exact first_ok _ (by omega) | fail, fun _ => rfl, fun _ => rfl, rfl, ?_⟩; try refine zS ?_)
  | ((with_reducible refine awp_label ?_); try refine zS ?_)
  | ((with_reducible refine awp_goto ?_); try refine zS ?_)
  | ((with_reducible refine awp_scope0 ?_); try refine zS ?_)
  | exact True.intro
  | fail
  · obtain ⟨d, rfl⟩ : ∃ q, d = q + 1 := ⟨d - 1, by have := List.length_pos_iff.2 ‹¬ s = []›; omega⟩
    rw [readS_step _ ‹_›, if_neg (by simp [*])] at h4
    have : readR s0 = ([], (s0.length : Int) - s.length, 4) := by rw [hR, h4]; rfl
    rw [this]; first | rfl | (simp [go_sem]; done) | trace_state
  · have hf := first_len ‹¬ s = []›
    have hs0 := List.length_pos_iff.2 ‹¬ s = []›
    obtain ⟨d, rfl⟩ : ∃ q, d = q + 1 := ⟨d - 1, by omega⟩
    rw [readS_step _ ‹_›, if_pos ‹_›, joinR_joinR] at h4
    generalize hms : (firstR s).1 = ms at *
    generalize hat : (s0.length : Int) - s.length = at_ at *
    refine awp_loopT (fun i : Nat => i ≤ ms.length) (fun i => ms.length - i) (fun i => [(23, .any), (25, .any), (34, aI i), (5, .c (.own 0 0 (acc.length + i) (acc.length + i)))]) (fun i => [some (.rows 5 ((acc ++ (ms.take i).map (setAt at_)).map Mk.row))]) 0 (by omega) (by exact zwl) ?_
    intro i hi
    have hli : (ms.take i).length = i := by rw [List.length_take]; omega
    refine zT ?_
    repeat' first
    | with_reducible refine awp_seq ?_
    | ((with_reducible refine awp_region ?_); refine zS ?_)
    | ((with_reducible refine Gd_nd ?_ ?_) <;> intro hb hb2 <;> first | contradiction | (exfalso; omega) | (refine zH hb2 ?_; try clear hb2))
    | ((with_reducible refine Gd_nb ?_ ?_) <;> intro hb <;> first | contradiction | refine zH hb ?_)
    | ((with_reducible refine Gd_d ?_ ?_) <;> intro hb hb2 <;> first | contradiction | (exfalso; omega) | (refine zH hb2 ?_; try clear hb2))
    | ((with_reducible refine Gd_b ?_ ?_) <;> intro hb <;> first | contradiction | refine zH hb ?_)
    | ((with_reducible refine Res_id ?_); refine zS ?_)
    | ((with_reducible refine awp_drawnC ?_ ?_); rfl; refine zS ?_)
    | ((with_reducible refine awp_drawnA ?_ ?_); rfl; refine zS ?_)
    | ((with_reducible refine CGd_nd ?_ ?_) <;> intro hb hb2 <;> first | contradiction | (exfalso; omega) | (refine zH hb2 ?_; try clear hb2))
    | ((with_reducible refine CGd_nb ?_ ?_) <;> intro hb <;> first | contradiction | refine zH hb ?_)
    | ((with_reducible refine CGd_d ?_ ?_) <;> intro hb hb2 <;> first | contradiction | (exfalso; omega) | (refine zH hb2 ?_; try clear hb2))
    | ((with_reducible refine CGd_b ?_ ?_) <;> intro hb <;> first | contradiction | refine zH hb ?_)
    | ((with_reducible refine CRes_id ?_); refine zS ?_)
    | ((with_reducible refine DStep_id ?_); refine zdP ?_; refine ⟨_, by first | exact first_ok _ (by omega) | fail, fun _ => rfl, fun _ => rfl, rfl, (fun h => by first | cases h | fail), ?_⟩; try refine zS ?_)
    | ((with_reducible refine DStep_id ?_); refine zdW ?_; refine ⟨_, by first | exact first_ok _ (by omega) | fail, fun _ => rfl, fun _ => rfl, rfl, ?_⟩; try refine zS ?_)
    | ((with_reducible refine AWP_c ?_); refine zcdT ?_)
    | ((with_reducible refine AWP_c ?_); refine zcdF ?_)
    | ((with_reducible refine AWP_c ?_); refine zcdN ?_ ?_ <;> intro hb hb2 <;> first | contradiction | (exfalso; omega) | ((try refine zH hb2 ?_); try clear hb2))
    | ((with_reducible refine AWP_c ?_); refine zcdD ?_ ?_ <;> intro hb hb2 <;> first | contradiction | (exfalso; omega) | ((try refine zH hb2 ?_); try clear hb2))
    | ((with_reducible refine AWP_c ?_); refine zcdM ?_ ?_ <;> intro hb <;> first | contradiction | (try refine zH hb ?_))
    | ((with_reducible refine AWP_c ?_); refine zcdB ?_ ?_ <;> intro hb <;> first | contradiction | (try refine zH hb ?_))
    | ((with_reducible refine awp_ret ?_); refine fin_r ?_)
    | ((with_reducible refine awp_ret ?_); refine fin_q ?_ ?_)
    | with_reducible refine fin_qn ?_ ?_
    | ((with_reducible refine awp_skip ?_); refine zS ?_)
    | with_reducible refine awp_block ?_
    | ((with_reducible refine awp_exit ?_); refine zS ?_)
    | ((with_reducible refine CallK_id ?_); refine zcF ?_; refine ⟨_, by first | exact first_ok _ (by omega) | fail, fun _ => rfl, fun _ => rfl, rfl, ?_⟩; try refine zS ?_)
    | ((with_reducible refine awp_label ?_); try refine zS ?_)
    | ((with_reducible refine awp_goto ?_); try refine zS ?_)
    | ((with_reducible refine awp_scope0 ?_); try refine zS ?_)
    | exact True.intro
    | fail
    · refine ⟨i + 1, by omega, by omega, ?_⟩
      simp only [take_gt (show i < ms.length by omega)]
      exact wk_cl 1 (by decide) (by simp) (by simp only [go_sem, Bool.not_not, List.mem_singleton, forall_eq, ↓reduceIte, if_pos, rowsAt_map, wrap64, wrapu8, List.getElem?_cons_zero, List.getElem?_cons_succ, Int.reduceToNat, Nat.reduceAdd, Nat.reduceBEq, Bool.or_false, Bool.false_or, Bool.true_or, Nat.reduceSub, Nat.reduceMul, Int.reduceAdd, Int.reduceEq, Int.reduceLT, Int.reduceLE, Int.reduceNeg, Nat.reduceLT, Nat.reduceLeDiff, Nat.reduceEqDiff]; simp; try omega) (by simp only [go_sem, Bool.not_not, List.mem_singleton, forall_eq, ↓reduceIte, if_pos, rowsAt_map, wrap64, wrapu8, List.getElem?_cons_zero, List.getElem?_cons_succ, Int.reduceToNat, Nat.reduceAdd, Nat.reduceBEq, Bool.or_false, Bool.false_or, Bool.true_or, Nat.reduceSub, Nat.reduceMul, Int.reduceAdd, Int.reduceEq, Int.reduceLT, Int.reduceLE, Int.reduceNeg, Nat.reduceLT, Nat.reduceLeDiff, Nat.reduceEqDiff]; simp [setAt, hli]; rfl)
    · have hi2 : i = ms.length := by omega
      subst hi2
      simp only [List.take_length]
      refine ⟨(d, (firstR s).2.1, acc ++ ms.map (setAt at_)), ⟨by simp only; omega, by simp only; omega, by simp only [List.length_append, List.length_map]; omega, ?_⟩, by simp only; omega, (by exact zwc 1)⟩
      rw [h4]; congr 2; simp only; omega
  · have hs : s = [] := ‹_›
    subst hs
    have hn : readS d [] ((s0.length : Int) - ([] : Str).length) = .inr [] := by cases d <;> rfl
    rw [hn] at h4
    have : readR s0 = (acc, 0, 0) := by rw [hR, h4]; simp [joinR]
    rw [this]; first | rfl | (simp [go_sem]; done) | trace_state
end Go.Eng
open Go Go.Proofs Go.RowKit
namespace Go.Eng
set_option linter.unusedSimpArgs false
set_option linter.unusedVariables false
set_option maxRecDepth 100000
set_option maxHeartbeats 8000000
def runP : List Mk → List OE → Option El → (Int × Int) ⊕ Option El
  | [], _, wh => .inr wh
  | m :: l, os, wh => if (take os wh m).1 = 0 then runP l (take os wh m).2.1 (take os wh m).2.2 else .inl (m.pos, (take os wh m).1)
def parseR (s : Str) : El × Int × Int := if (readR s).2.2 = 0 then (match runP (readR s).1 [] none with | .inl a => (e0, a.1, a.2) | .inr none => (e0, (s.length : Int), 4) | .inr (some e) => (e, 0, 0)) else (e0, (readR s).2.1, (readR s).2.2)
theorem Rel.retellG {B : Base} {x : Ctx} {O : Nat → Nat → Prop} {H : Heap} (hR : Rel B x O H) {i : Nat} {b b' : Blk} (hb : H[i]? = some (some b)) (hn : b'.n = b.n) (h : BR x (O i) i b → BR x (O i) i b') : Rel B x O (H.set i (some b')) := by
  have hlt : i < H.length := (List.getElem?_eq_some_iff.1 hb).1
  refine ⟨by rw [List.length_set]; exact hR.hL, fun id => ?_, hR.le, hR.os, hR.tape, hR.output, hR.keep, hR.own, hR.fr, hR.disj, hR.nof, fun id b2 hb2 => ?_⟩
  · rw [hR.hN]
    by_cases e : i = id
    · subst e; rw [nOf_some hb, nOf_some (b := b') (by simp [hlt]), hn]
    · unfold nOf; rw [List.getElem?_set_ne e]
  · rw [List.getElem?_set] at hb2
    by_cases e : i = id
    · subst e
      rw [if_pos rfl, if_pos hlt] at hb2
      cases hb2
      exact h (hR.blk i _ hb)
    · rw [if_neg e] at hb2
      exact hR.blk id b2 hb2
theorem wk_tell {m : Nat} {T : List A} {H : Heap} (i : Nat) {b b' : Blk} (hb : H[i]? = some (some b)) (hn : b'.n = b.n) (h : ∀ x O, BR x O i b → BR x O i b') : Wk m T H T (H.set i (some b')) := by
  intro B a w hm hs
  obtain ⟨hd, x, O, rfl, hR, hT⟩ := hs
  exact ⟨hd, x, O, rfl, hR.retellG hb hn (h x _), hT⟩
theorem br_par0 {x : Ctx} {O : Nat → Prop} {i : Nat} {ty : Option TypeId} (h : BR x O i (.box [.nils, .d (.sc (.pointer none))] ty)) : BR x O i (.raw (parR [] none)) := by
  obtain ⟨P, vs, t, hμ, hO, hh, hcs⟩ := h
  obtain ⟨sv, hsv, hvs⟩ := hcs.2 0 _ rfl
  obtain ⟨uv, huv, hvu⟩ := hcs.2 1 _ rfl
  obtain rfl := arr2 hcs.1 hsv huv
  have h1 : sv = .slice none 0 0 := by cases hvs; rfl
  have h2 : uv = .pointer none := by cases hvu with | d _ _ h => exact h.sc_eq
  subst h1 h2
  refine ⟨fun g lo h => (by rw [hμ] at h; cases h; exact hO), P, _, _, none, [], hμ, ⟨⟨_, hh⟩, .inl ⟨rfl, rfl, rfl⟩, ⟨rfl, fun i r h => by simp at h, fun i r h => by simp at h, fun i j r s k h => by simp at h, fun i r o h => by simp at h⟩, hO, (fun k hk => by cases hk), rfl⟩⟩
theorem br_parW {x : Ctx} {O : Nat → Prop} {i : Nat} {os : List OE} {wh : Option El} (h : BR x O i (.raw (parR os wh))) : BR x O i (.box [.any, wC wh]) := by
  obtain ⟨_, P, sv, uv, S, rws, hμ, hp⟩ := h
  obtain ⟨t, hh⟩ := hp.p
  refine ⟨P, #[sv, uv], t, hμ, hp.oP, hh, rfl, fun i c hi => ?_⟩
  match i, hi with
  | 0, hi =>
    cases hi
    have hone : one sv = true := by rcases hp.row with ⟨_, h, _⟩ | ⟨_, _, _, _, _, _, h, _⟩ <;> rw [h] <;> rfl
    exact ⟨sv, rfl, .any _ hone⟩
  | 1, hi =>
    cases hi
    refine ⟨uv, rfl, ?_⟩
    cases wh with
    | none => have h1 : uv = .pointer none := hp.wh; rw [h1]; exact .d _ _ (.sc _ rfl)
    | some e =>
      obtain ⟨G, o, h1, h2, h3⟩ := hp.wh
      rw [h1]
      exact .pf e.row 0 G o (fun _ => h2) h3
  | i + 2, hi => simp at hi
theorem wk_e0 {m : Nat} {a b : A} {H : Heap} : Wk m [.tup [.agg [.d (.sc (.string ⟨#[]⟩)), .nils, .d (.sc (.slice none 0 0)), .d (.sc (.string ⟨#[]⟩))], a, b]] H [.tup [e0.a, a, b]] H := by
  intro B ac w hm hs
  obtain ⟨hd, x, O, rfl, hR, hT⟩ := hs
  refine ⟨hd, x, O, rfl, hR, hT.1, fun i c hi => ?_⟩
  match i, hi with
  | 0, hi =>
    cases hi
    obtain ⟨u, hu, hv⟩ := hT.2 0 _ rfl
    refine ⟨u, hu, ?_⟩
    cases hv with | tup _ vs f h1 h2 h3 =>
    refine .tup _ vs f h1 (fun i c hi => ?_) (fun i c hi => ?_)
    · match i, hi with
      | 0, hi => cases hi; exact h2 0 _ rfl
      | 1, hi => exact h2 1 _ hi
      | 2, hi => exact h2 2 _ hi
      | i + 3, hi => simp at hi
    · match i, hi with
      | 0, hi =>
        cases hi
        have h4 := h3 0 _ rfl
        generalize f 0 = w at h4
        cases h4 with | agg _ vs' hc =>
        refine .agg _ _ ⟨hc.1, fun i c hi => ?_⟩
        match i, hi with
        | 0, hi => exact hc.2 0 _ hi
        | 1, hi =>
          cases hi
          obtain ⟨u, hu, hv⟩ := hc.2 1 _ rfl
          refine ⟨u, hu, ?_⟩
          cases hv
          exact .d _ _ (.nil _ _)
        | 2, hi =>
          cases hi
          obtain ⟨u, hu, hv⟩ := hc.2 2 _ rfl
          refine ⟨u, hu, ?_⟩
          cases hv with | d _ _ hv => rw [hv.sc_eq]; exact .d _ _ (.nil _ _)
        | 3, hi => exact hc.2 3 _ hi
        | i + 4, hi => simp at hi
      | 1, hi => exact h3 1 _ hi
      | 2, hi => exact h3 2 _ hi
      | i + 3, hi => simp at hi
  | i + 1, hi => simp at hi
theorem runP_step {ms : List Mk} {i : Nat} (hi : i < ms.length) (os : List OE) (wh : Option El) : runP (ms.drop i) os wh = if (take os wh (gt ms i)).1 = 0 then runP (ms.drop (i + 1)) (take os wh (gt ms i)).2.1 (take os wh (gt ms i)).2.2 else .inl ((gt ms i).pos, (take os wh (gt ms i)).1) := by
  have : ms.drop i = gt ms i :: ms.drop (i + 1) := by
    rw [List.drop_eq_getElem_cons hi, gt, List.getD_eq_getElem?_getD, List.getElem?_eq_getElem hi]; rfl
  rw [this, runP]
theorem wk_e0c {H : Heap} {p c : Int} : Wk 0 [.tup [e0.a, aI p, aI c]] H [.tup [e0.a, aI p, aI c]] [] :=
  fin_wk (H1 := H) (a := .tup [e0.a, aI p, aI c]) (a' := .tup [e0.a, aI p, aI c]) (by simp only [go_sem, Bool.not_not, List.mem_singleton, forall_eq, ↓reduceIte, if_pos, rowsAt_map, wrap64, wrapu8, List.getElem?_cons_zero, List.getElem?_cons_succ, Int.reduceToNat, Nat.reduceAdd, Nat.reduceBEq, Bool.or_false, Bool.false_or, Bool.true_or, Nat.reduceSub, Nat.reduceMul, Int.reduceAdd, Int.reduceEq, Int.reduceLT, Int.reduceLE, Int.reduceNeg, Nat.reduceLT, Nat.reduceLeDiff, Nat.reduceEqDiff]; try rfl) (by simp only [go_sem, Bool.not_not, List.mem_singleton, forall_eq, ↓reduceIte, if_pos, rowsAt_map, wrap64, wrapu8, List.getElem?_cons_zero, List.getElem?_cons_succ, Int.reduceToNat, Nat.reduceAdd, Nat.reduceBEq, Bool.or_false, Bool.false_or, Bool.true_or, Nat.reduceSub, Nat.reduceMul, Int.reduceAdd, Int.reduceEq, Int.reduceLT, Int.reduceLE, Int.reduceNeg, Nat.reduceLT, Nat.reduceLeDiff, Nat.reduceEqDiff]; try rfl) (Nat.zero_le _)
theorem okWC (k : Nat) (wh : Option El) : okC k (wC wh) = true := by cases wh <;> rfl
theorem fin_e0 {T : List A} {H : Heap} {rs : List ResultVar} {a b : Int} (h1 : resA env T H rs = some [.agg [.d (.sc (.string ⟨#[]⟩)), .nils, .d (.sc (.slice none 0 0)), .d (.sc (.string ⟨#[]⟩))], aI a, aI b]) : Fin env rs (.tup [e0.a, aI a, aI b]) [] 0 .ret T H :=
  fin_hand h1 (wk_e0.trans wk_e0c)
theorem readS_len : ∀ (d : Nat) (s : Str) (a : Int) (r : List Mk), readS d s a = .inr r → r.length ≤ 2 * s.length
  | d, [], a, r, h => by
    have : readS d [] a = .inr [] := by cases d <;> rfl
    rw [this] at h; cases h; simp
  | 0, c :: l, a, r, h => by cases h
  | d + 1, c :: l, a, r, h => by
    rw [readS_step a (by simp)] at h
    obtain ⟨f1, f2⟩ := first_len (s := c :: l) (by simp)
    split at h
    · cases hx : readS d (firstR (c :: l)).2.1 (a + (((c :: l).length : Int) - (firstR (c :: l)).2.1.length)) with
      | inl e => rw [hx] at h; cases h
      | inr r' =>
        rw [hx] at h
        have h' : r = (firstR (c :: l)).1.map (setAt a) ++ r' := by cases h; rfl
        have := readS_len d _ _ _ hx
        rw [h', List.length_append, List.length_map]; omega
    · cases h
theorem readR_len (s : Str) : (readR s).1.length ≤ 2 * s.length := by
  unfold readR
  split
  · simp
  · split
    · simp
    · rename_i r h; exact readS_len _ _ _ _ h
theorem parse_ok (s : Str) (h : s.length < 1000000000) : AFn env 10 [aS s] [] (.tup [(parseR s).1.a, aI (parseR s).2.1, aI (parseR s).2.2]) [] := by
  refine afn_body Tryd.func10 rfl (by decide) ?_
  simp only [Tryd.ntmps10, Tryd.results10, List.length_cons, List.length_nil, List.cons_append, List.nil_append, Nat.reduceAdd, Nat.reduceSub, List.replicate]
  repeat' first
  | with_reducible refine awp_seq ?_
  | ((with_reducible refine awp_region ?_); refine zS ?_)
  | ((with_reducible refine Gd_nd ?_ ?_) <;> intro hb hb2 <;> first | contradiction | (exfalso; omega) | (refine zH hb2 ?_; try clear hb2))
  | ((with_reducible refine Gd_nb ?_ ?_) <;> intro hb <;> first | contradiction | refine zH hb ?_)
  | ((with_reducible refine Gd_d ?_ ?_) <;> intro hb hb2 <;> first | contradiction | (exfalso; omega) | (refine zH hb2 ?_; try clear hb2))
  | ((with_reducible refine Gd_b ?_ ?_) <;> intro hb <;> first | contradiction | refine zH hb ?_)
  | ((with_reducible refine Res_id ?_); refine zS ?_)
  | ((with_reducible refine awp_drawnW [999] ?_ ?_); rfl; refine zS ?_)
  | ((with_reducible refine awp_drawnA ?_ ?_); rfl; refine zS ?_)
  | ((with_reducible refine CGd_nd ?_ ?_) <;> intro hb hb2 <;> first | contradiction | (exfalso; omega) | (refine zH hb2 ?_; try clear hb2))
  | ((with_reducible refine CGd_nb ?_ ?_) <;> intro hb <;> first | contradiction | refine zH hb ?_)
  | ((with_reducible refine CGd_d ?_ ?_) <;> intro hb hb2 <;> first | contradiction | (exfalso; omega) | (refine zH hb2 ?_; try clear hb2))
  | ((with_reducible refine CGd_b ?_ ?_) <;> intro hb <;> first | contradiction | refine zH hb ?_)
  | ((with_reducible refine CRes_id ?_); refine zS ?_)
  | ((with_reducible refine DStep_id ?_); refine zdP ?_; refine ⟨_, by first | exact read_ok s (by omega) | fail, fun _ => rfl, fun _ => rfl, rfl, (fun h => by first | cases h | fail), ?_⟩; try refine zS ?_)
  | ((with_reducible refine DStep_id ?_); refine zdW ?_; refine ⟨_, by first | exact read_ok s (by omega) | fail, fun _ => rfl, fun _ => rfl, rfl, ?_⟩; try refine zS ?_)
  | ((with_reducible refine AWP_c ?_); refine zcdT ?_)
  | ((with_reducible refine AWP_c ?_); refine zcdF ?_)
  | ((with_reducible refine AWP_c ?_); refine zcdN ?_ ?_ <;> intro hb hb2 <;> first | contradiction | (exfalso; omega) | ((try refine zH hb2 ?_); try clear hb2))
  | ((with_reducible refine AWP_c ?_); refine zcdD ?_ ?_ <;> intro hb hb2 <;> first | contradiction | (exfalso; omega) | ((try refine zH hb2 ?_); try clear hb2))
  | ((with_reducible refine AWP_c ?_); refine zcdM ?_ ?_ <;> intro hb <;> first | contradiction | (try refine zH hb ?_))
  | ((with_reducible refine AWP_c ?_); refine zcdB ?_ ?_ <;> intro hb <;> first | contradiction | (try refine zH hb ?_))
  | ((with_reducible refine awp_skip ?_); refine zS ?_)
  | ((with_reducible refine awp_exit ?_); refine zS ?_)
  | ((with_reducible refine CallK_id ?_); refine zcF ?_; refine ⟨_, by first | exact read_ok s (by omega) | fail, fun _ => rfl, fun _ => rfl, rfl, ?_⟩; try refine zS ?_)
  | ((with_reducible refine awp_label ?_); try refine zS ?_)
  | ((with_reducible refine awp_goto ?_); try refine zS ?_)
  | ((with_reducible refine awp_scope0 ?_); try refine zS ?_)
  | exact True.intro
  | fail
  · have e : parseR s = (e0, (readR s).2.1, (readR s).2.2) := by rw [parseR, if_neg (by assumption)]
    rw [e]
    refine awp_ret ?_
    exact fin_e0 (by simp only [go_sem, Bool.not_not, List.mem_singleton, forall_eq, ↓reduceIte, if_pos, rowsAt_map, wrap64, wrapu8, List.getElem?_cons_zero, List.getElem?_cons_succ, Int.reduceToNat, Nat.reduceAdd, Nat.reduceBEq, Bool.or_false, Bool.false_or, Bool.true_or, Nat.reduceSub, Nat.reduceMul, Int.reduceAdd, Int.reduceEq, Int.reduceLT, Int.reduceLE, Int.reduceNeg, Nat.reduceLT, Nat.reduceLeDiff, Nat.reduceEqDiff]; try rfl)
  · refine awp_wk (wk_tell 1 (b' := .raw (parR [] none)) rfl rfl (fun x O h => br_par0 h)) ?_
    simp only [List.set_cons_succ, List.set_cons_zero]
    have hml := readR_len s
    generalize hms : (readR s).1 = ms at hml ⊢
    refine awp_cutS (fun z : List OE × Option El => runP ms [] none = .inr z.2) (fun z => [(12, .any), (14, .any)]) (fun z => [some (.box [.d (.sc (.string ⟨#[]⟩)), .nils, .nils, .d (.sc (.string ⟨#[]⟩))]), some (.box [.any, wC z.2])]) ?_ ?_
    · repeat' first
      | with_reducible refine awp_seq ?_
      | ((with_reducible refine awp_region ?_); refine zS ?_)
      | ((with_reducible refine Gd_nd ?_ ?_) <;> intro hb hb2 <;> first | contradiction | (exfalso; omega) | (refine zH hb2 ?_; try clear hb2))
      | ((with_reducible refine Gd_nb ?_ ?_) <;> intro hb <;> first | contradiction | refine zH hb ?_)
      | ((with_reducible refine Gd_d ?_ ?_) <;> intro hb hb2 <;> first | contradiction | (exfalso; omega) | (refine zH hb2 ?_; try clear hb2))
      | ((with_reducible refine Gd_b ?_ ?_) <;> intro hb <;> first | contradiction | refine zH hb ?_)
      | ((with_reducible refine Res_id ?_); refine zS ?_)
      | ((with_reducible refine awp_drawnW [999] ?_ ?_); rfl; refine zS ?_)
      | ((with_reducible refine awp_drawnA ?_ ?_); rfl; refine zS ?_)
      | ((with_reducible refine CGd_nd ?_ ?_) <;> intro hb hb2 <;> first | contradiction | (exfalso; omega) | (refine zH hb2 ?_; try clear hb2))
      | ((with_reducible refine CGd_nb ?_ ?_) <;> intro hb <;> first | contradiction | refine zH hb ?_)
      | ((with_reducible refine CGd_d ?_ ?_) <;> intro hb hb2 <;> first | contradiction | (exfalso; omega) | (refine zH hb2 ?_; try clear hb2))
      | ((with_reducible refine CGd_b ?_ ?_) <;> intro hb <;> first | contradiction | refine zH hb ?_)
      | ((with_reducible refine CRes_id ?_); refine zS ?_)
      | ((with_reducible refine DStep_id ?_); refine zdP ?_; refine ⟨_, by first | exact read_ok s (by omega) | fail, fun _ => rfl, fun _ => rfl, rfl, (fun h => by first | cases h | fail), ?_⟩; try refine zS ?_)
      | ((with_reducible refine DStep_id ?_); refine zdW ?_; refine ⟨_, by first | exact read_ok s (by omega) | fail, fun _ => rfl, fun _ => rfl, rfl, ?_⟩; try refine zS ?_)
      | ((with_reducible refine AWP_c ?_); refine zcdT ?_)
      | ((with_reducible refine AWP_c ?_); refine zcdF ?_)
      | ((with_reducible refine AWP_c ?_); refine zcdN ?_ ?_ <;> intro hb hb2 <;> first | contradiction | (exfalso; omega) | ((try refine zH hb2 ?_); try clear hb2))
      | ((with_reducible refine AWP_c ?_); refine zcdD ?_ ?_ <;> intro hb hb2 <;> first | contradiction | (exfalso; omega) | ((try refine zH hb2 ?_); try clear hb2))
      | ((with_reducible refine AWP_c ?_); refine zcdM ?_ ?_ <;> intro hb <;> first | contradiction | (try refine zH hb ?_))
      | ((with_reducible refine AWP_c ?_); refine zcdB ?_ ?_ <;> intro hb <;> first | contradiction | (try refine zH hb ?_))
      | ((with_reducible refine awp_skip ?_); refine zS ?_)
      | with_reducible refine awp_block ?_
      | ((with_reducible refine awp_exit ?_); refine zS ?_)
      | ((with_reducible refine CallK_id ?_); refine zcF ?_; refine ⟨_, by first | exact read_ok s (by omega) | fail, fun _ => rfl, fun _ => rfl, rfl, ?_⟩; try refine zS ?_)
      | ((with_reducible refine awp_label ?_); try refine zS ?_)
      | ((with_reducible refine awp_goto ?_); try refine zS ?_)
      | ((with_reducible refine awp_scope0 ?_); try refine zS ?_)
      | exact True.intro
      | fail
      refine awp_loopT (fun z : Nat × List OE × Option El => z.1 ≤ ms.length ∧ runP (ms.drop z.1) z.2.1 z.2.2 = runP ms [] none ∧ OkS z.2.1 ∧ (z.2.1 ≠ [] → z.2.2 = none)) (fun z => ms.length - z.1) (fun z => [(12, .any), (14, .any), (27, aI z.1)]) (fun z => [some (.box [.d (.sc (.string ⟨#[]⟩)), .nils, .nils, .d (.sc (.string ⟨#[]⟩))]), some (.raw (parR z.2.1 z.2.2))]) (0, [], none) ⟨Nat.zero_le _, rfl, ⟨by simp, by simp, by simp⟩, fun _ => rfl⟩ (wk_le (by simp only [go_sem, Bool.not_not, List.mem_singleton, forall_eq, ↓reduceIte, if_pos, rowsAt_map, wrap64, wrapu8, List.getElem?_cons_zero, List.getElem?_cons_succ, Int.reduceToNat, Nat.reduceAdd, Nat.reduceBEq, Bool.or_false, Bool.false_or, Bool.true_or, Nat.reduceSub, Nat.reduceMul, Int.reduceAdd, Int.reduceEq, Int.reduceLT, Int.reduceLE, Int.reduceNeg, Nat.reduceLT, Nat.reduceLeDiff, Nat.reduceEqDiff]; first | done | rfl | (simp; done) | trace_state) (by simp only [go_sem, Bool.not_not, List.mem_singleton, forall_eq, ↓reduceIte, if_pos, rowsAt_map, wrap64, wrapu8, List.getElem?_cons_zero, List.getElem?_cons_succ, Int.reduceToNat, Nat.reduceAdd, Nat.reduceBEq, Bool.or_false, Bool.false_or, Bool.true_or, Nat.reduceSub, Nat.reduceMul, Int.reduceAdd, Int.reduceEq, Int.reduceLT, Int.reduceLE, Int.reduceNeg, Nat.reduceLT, Nat.reduceLeDiff, Nat.reduceEqDiff]; first | done | rfl | (simp; done) | trace_state)) ?_
      rintro ⟨i, os, wh⟩ ⟨h1, h2, h3, h4⟩
      simp only at h1 h2 h3 h4
      refine zT ?_
      repeat' first
      | with_reducible refine awp_seq ?_
      | ((with_reducible refine awp_region ?_); refine zS ?_)
      | ((with_reducible refine Gd_nd ?_ ?_) <;> intro hb hb2 <;> first | contradiction | (exfalso; omega) | (refine zH hb2 ?_; try clear hb2))
      | ((with_reducible refine Gd_nb ?_ ?_) <;> intro hb <;> first | contradiction | refine zH hb ?_)
      | ((with_reducible refine Gd_d ?_ ?_) <;> intro hb hb2 <;> first | contradiction | (exfalso; omega) | (refine zH hb2 ?_; try clear hb2))
      | ((with_reducible refine Gd_b ?_ ?_) <;> intro hb <;> first | contradiction | refine zH hb ?_)
      | ((with_reducible refine Res_id ?_); refine zS ?_)
      | ((with_reducible refine awp_drawnW [999] ?_ ?_); rfl; refine zS ?_)
      | ((with_reducible refine awp_drawnA ?_ ?_); rfl; refine zS ?_)
      | ((with_reducible refine CGd_nd ?_ ?_) <;> intro hb hb2 <;> first | contradiction | (exfalso; omega) | (refine zH hb2 ?_; try clear hb2))
      | ((with_reducible refine CGd_nb ?_ ?_) <;> intro hb <;> first | contradiction | refine zH hb ?_)
      | ((with_reducible refine CGd_d ?_ ?_) <;> intro hb hb2 <;> first | contradiction | (exfalso; omega) | (refine zH hb2 ?_; try clear hb2))
      | ((with_reducible refine CGd_b ?_ ?_) <;> intro hb <;> first | contradiction | refine zH hb ?_)
      | ((with_reducible refine CRes_id ?_); refine zS ?_)
      | ((with_reducible refine DStep_id ?_); refine zdP ?_; refine ⟨_, by first | fail | fail, fun _ => rfl, fun _ => rfl, rfl, (fun h => by first | cases h | fail), ?_⟩; try refine zS ?_)
      | ((with_reducible refine DStep_id ?_); refine zdW ?_; refine ⟨_, by first | fail | fail, fun _ => rfl, fun _ => rfl, rfl, ?_⟩; try refine zS ?_)
      | ((with_reducible refine DStep_id ?_); refine zdT [1] ?_; refine ⟨_, _, by first | exact take_ok os wh (gt ms i) h3 h4 | fail, ?_⟩; try refine zS ?_)
      | ((with_reducible refine AWP_c ?_); refine zcdT ?_)
      | ((with_reducible refine AWP_c ?_); refine zcdF ?_)
      | ((with_reducible refine AWP_c ?_); refine zcdN ?_ ?_ <;> intro hb hb2 <;> first | contradiction | (exfalso; omega) | ((try refine zH hb2 ?_); try clear hb2))
      | ((with_reducible refine AWP_c ?_); refine zcdD ?_ ?_ <;> intro hb hb2 <;> first | contradiction | (exfalso; omega) | ((try refine zH hb2 ?_); try clear hb2))
      | ((with_reducible refine AWP_c ?_); refine zcdM ?_ ?_ <;> intro hb <;> first | contradiction | (try refine zH hb ?_))
      | ((with_reducible refine AWP_c ?_); refine zcdB ?_ ?_ <;> intro hb <;> first | contradiction | (try refine zH hb ?_))
      | ((with_reducible refine awp_skip ?_); refine zS ?_)
      | with_reducible refine awp_block ?_
      | ((with_reducible refine awp_exit ?_); refine zS ?_)
      | ((with_reducible refine CallK_id ?_); refine zcF ?_; refine ⟨_, by first | fail | fail, fun _ => rfl, fun _ => rfl, rfl, ?_⟩; try refine zS ?_)
      | ((with_reducible refine CallK_id ?_); refine zcT [1] ?_; refine ⟨_, _, by first | exact take_ok os wh (gt ms i) h3 h4 | fail, ?_⟩; try refine zS ?_)
      | ((with_reducible refine awp_label ?_); try refine zS ?_)
      | ((with_reducible refine awp_goto ?_); try refine zS ?_)
      | ((with_reducible refine awp_scope0 ?_); try refine zS ?_)
      | exact True.intro
      | fail
      · have e : parseR s = (e0, (gt ms i).pos, (take os wh (gt ms i)).1) := by
          rw [parseR, if_pos (by assumption), hms, ← h2, runP_step (by omega), if_neg (by assumption)]
        rw [e]
        refine awp_drawhA [true] (by rfl) (by simp only [go_sem, Bool.not_not, List.mem_singleton, forall_eq, ↓reduceIte, if_pos, rowsAt_map, wrap64, wrapu8, List.getElem?_cons_zero, List.getElem?_cons_succ, Int.reduceToNat, Nat.reduceAdd, Nat.reduceBEq, Bool.or_false, Bool.false_or, Bool.true_or, Nat.reduceSub, Nat.reduceMul, Int.reduceAdd, Int.reduceEq, Int.reduceLT, Int.reduceLE, Int.reduceNeg, Nat.reduceLT, Nat.reduceLeDiff, Nat.reduceEqDiff]; first | done | rfl | decide) ?_
        refine zT ?_
        repeat' first
        | with_reducible refine awp_seq ?_
        | ((with_reducible refine awp_region ?_); refine zS ?_)
        | ((with_reducible refine Gd_nd ?_ ?_) <;> intro hb hb2 <;> first | contradiction | (exfalso; omega) | (refine zH hb2 ?_; try clear hb2))
        | ((with_reducible refine Gd_nb ?_ ?_) <;> intro hb <;> first | contradiction | refine zH hb ?_)
        | ((with_reducible refine Gd_d ?_ ?_) <;> intro hb hb2 <;> first | contradiction | (exfalso; omega) | (refine zH hb2 ?_; try clear hb2))
        | ((with_reducible refine Gd_b ?_ ?_) <;> intro hb <;> first | contradiction | refine zH hb ?_)
        | ((with_reducible refine Res_id ?_); refine zS ?_)
        | ((with_reducible refine awp_drawnW [999] ?_ ?_); rfl; refine zS ?_)
        | ((with_reducible refine awp_drawnA ?_ ?_); rfl; refine zS ?_)
        | ((with_reducible refine CGd_nd ?_ ?_) <;> intro hb hb2 <;> first | contradiction | (exfalso; omega) | (refine zH hb2 ?_; try clear hb2))
        | ((with_reducible refine CGd_nb ?_ ?_) <;> intro hb <;> first | contradiction | refine zH hb ?_)
        | ((with_reducible refine CGd_d ?_ ?_) <;> intro hb hb2 <;> first | contradiction | (exfalso; omega) | (refine zH hb2 ?_; try clear hb2))
        | ((with_reducible refine CGd_b ?_ ?_) <;> intro hb <;> first | contradiction | refine zH hb ?_)
        | ((with_reducible refine CRes_id ?_); refine zS ?_)
        | ((with_reducible refine DStep_id ?_); refine zdP ?_; refine ⟨_, by first | fail | fail, fun _ => rfl, fun _ => rfl, rfl, (fun h => by first | cases h | fail), ?_⟩; try refine zS ?_)
        | ((with_reducible refine DStep_id ?_); refine zdW ?_; refine ⟨_, by first | fail | fail, fun _ => rfl, fun _ => rfl, rfl, ?_⟩; try refine zS ?_)
        | ((with_reducible refine DStep_id ?_); refine zdT [1] ?_; refine ⟨_, _, by first | exact take_ok os wh (gt ms i) h3 h4 | fail, ?_⟩; try refine zS ?_)
        | ((with_reducible refine AWP_c ?_); refine zcdT ?_)
        | ((with_reducible refine AWP_c ?_); refine zcdF ?_)
        | ((with_reducible refine AWP_c ?_); refine zcdN ?_ ?_ <;> intro hb hb2 <;> first | contradiction | (exfalso; omega) | ((try refine zH hb2 ?_); try clear hb2))
        | ((with_reducible refine AWP_c ?_); refine zcdD ?_ ?_ <;> intro hb hb2 <;> first | contradiction | (exfalso; omega) | ((try refine zH hb2 ?_); try clear hb2))
        | ((with_reducible refine AWP_c ?_); refine zcdM ?_ ?_ <;> intro hb <;> first | contradiction | (try refine zH hb ?_))
        | ((with_reducible refine AWP_c ?_); refine zcdB ?_ ?_ <;> intro hb <;> first | contradiction | (try refine zH hb ?_))
        | ((with_reducible refine awp_skip ?_); refine zS ?_)
        | with_reducible refine awp_block ?_
        | ((with_reducible refine awp_exit ?_); refine zS ?_)
        | ((with_reducible refine CallK_id ?_); refine zcF ?_; refine ⟨_, by first | fail | fail, fun _ => rfl, fun _ => rfl, rfl, ?_⟩; try refine zS ?_)
        | ((with_reducible refine CallK_id ?_); refine zcT [1] ?_; refine ⟨_, _, by first | exact take_ok os wh (gt ms i) h3 h4 | fail, ?_⟩; try refine zS ?_)
        | ((with_reducible refine awp_label ?_); try refine zS ?_)
        | ((with_reducible refine awp_goto ?_); try refine zS ?_)
        | ((with_reducible refine awp_scope0 ?_); try refine zS ?_)
        | exact True.intro
        | fail
        refine awp_ret ?_
        exact fin_e0 (by simp only [go_sem, Bool.not_not, List.mem_singleton, forall_eq, ↓reduceIte, if_pos, rowsAt_map, wrap64, wrapu8, List.getElem?_cons_zero, List.getElem?_cons_succ, Int.reduceToNat, Nat.reduceAdd, Nat.reduceBEq, Bool.or_false, Bool.false_or, Bool.true_or, Nat.reduceSub, Nat.reduceMul, Int.reduceAdd, Int.reduceEq, Int.reduceLT, Int.reduceLE, Int.reduceNeg, Nat.reduceLT, Nat.reduceLeDiff, Nat.reduceEqDiff]; try rfl)
      · refine ⟨(i + 1, (take os wh (gt ms i)).2.1, (take os wh (gt ms i)).2.2), ⟨by simp only; omega, ?_, take_okS os wh _ h3, by simpa using take_wh os wh (gt ms i) h4⟩, by simp only; omega, (by exact zwc 2)⟩
        have := runP_step (ms := ms) (i := i) (by omega) os wh
        rw [if_pos (by assumption), h2] at this
        exact this.symm
      · have hi : i = ms.length := by omega
        subst hi
        rw [List.drop_length] at h2
        refine ⟨(os, wh), by rw [← h2]; rfl, (wk_tell 1 (b := .raw (parR os wh)) (b' := .box [.any, wC wh]) rfl rfl (fun x O h => br_parW h)).trans ?_⟩
        exact wk_cl 2 (by decide) (by simp) (by simp only [go_sem, Bool.not_not, List.mem_singleton, forall_eq, ↓reduceIte, if_pos, rowsAt_map, wrap64, wrapu8, List.getElem?_cons_zero, List.getElem?_cons_succ, Int.reduceToNat, Nat.reduceAdd, Nat.reduceBEq, Bool.or_false, Bool.false_or, Bool.true_or, Nat.reduceSub, Nat.reduceMul, Int.reduceAdd, Int.reduceEq, Int.reduceLT, Int.reduceLE, Int.reduceNeg, Nat.reduceLT, Nat.reduceLeDiff, Nat.reduceEqDiff]; first | done | rfl | (simp; done) | trace_state) (by simp only [List.set_cons_succ, List.set_cons_zero, okWC, go_sem, Bool.not_not, List.mem_singleton, forall_eq, ↓reduceIte, if_pos, rowsAt_map, wrap64, wrapu8, List.getElem?_cons_zero, List.getElem?_cons_succ, Int.reduceToNat, Nat.reduceAdd, Nat.reduceBEq, Bool.or_false, Bool.false_or, Bool.true_or, Nat.reduceSub, Nat.reduceMul, Int.reduceAdd, Int.reduceEq, Int.reduceLT, Int.reduceLE, Int.reduceNeg, Nat.reduceLT, Nat.reduceLeDiff, Nat.reduceEqDiff]; first | done | rfl | (simp; done) | trace_state)
    · rintro ⟨os, wh⟩ hz
      simp only at hz
      cases wh with
      | none =>
        have e : parseR s = (e0, (s.length : Int), 4) := by rw [parseR, if_pos (by assumption), hms, hz]
        rw [e]
        simp only [wC, go_sem, Bool.not_not, List.mem_singleton, forall_eq, ↓reduceIte, if_pos, rowsAt_map, wrap64, wrapu8, List.getElem?_cons_zero, List.getElem?_cons_succ, Int.reduceToNat, Nat.reduceAdd, Nat.reduceBEq, Bool.or_false, Bool.false_or, Bool.true_or, Nat.reduceSub, Nat.reduceMul, Int.reduceAdd, Int.reduceEq, Int.reduceLT, Int.reduceLE, Int.reduceNeg, Nat.reduceLT, Nat.reduceLeDiff, Nat.reduceEqDiff]
        repeat' first
        | with_reducible refine awp_seq ?_
        | ((with_reducible refine awp_region ?_); refine zS ?_)
        | ((with_reducible refine Gd_nd ?_ ?_) <;> intro hb hb2 <;> first | contradiction | (exfalso; omega) | (refine zH hb2 ?_; try clear hb2))
        | ((with_reducible refine Gd_nb ?_ ?_) <;> intro hb <;> first | contradiction | refine zH hb ?_)
        | ((with_reducible refine Gd_d ?_ ?_) <;> intro hb hb2 <;> first | contradiction | (exfalso; omega) | (refine zH hb2 ?_; try clear hb2))
        | ((with_reducible refine Gd_b ?_ ?_) <;> intro hb <;> first | contradiction | refine zH hb ?_)
        | ((with_reducible refine Res_id ?_); refine zS ?_)
        | ((with_reducible refine awp_drawnW [999] ?_ ?_); rfl; refine zS ?_)
        | ((with_reducible refine awp_drawnA ?_ ?_); rfl; refine zS ?_)
        | ((with_reducible refine CGd_nd ?_ ?_) <;> intro hb hb2 <;> first | contradiction | (exfalso; omega) | (refine zH hb2 ?_; try clear hb2))
        | ((with_reducible refine CGd_nb ?_ ?_) <;> intro hb <;> first | contradiction | refine zH hb ?_)
        | ((with_reducible refine CGd_d ?_ ?_) <;> intro hb hb2 <;> first | contradiction | (exfalso; omega) | (refine zH hb2 ?_; try clear hb2))
        | ((with_reducible refine CGd_b ?_ ?_) <;> intro hb <;> first | contradiction | refine zH hb ?_)
        | ((with_reducible refine CRes_id ?_); refine zS ?_)
        | ((with_reducible refine DStep_id ?_); refine zdP ?_; refine ⟨_, by first | fail | fail, fun _ => rfl, fun _ => rfl, rfl, (fun h => by first | cases h | fail), ?_⟩; try refine zS ?_)
        | ((with_reducible refine DStep_id ?_); refine zdW ?_; refine ⟨_, by first | fail | fail, fun _ => rfl, fun _ => rfl, rfl, ?_⟩; try refine zS ?_)
        | ((with_reducible refine DStep_id ?_); refine zdT [1] ?_; refine ⟨_, _, by first | exact take_ok os wh (gt ms i) h3 h4 | fail, ?_⟩; try refine zS ?_)
        | ((with_reducible refine AWP_c ?_); refine zcdT ?_)
        | ((with_reducible refine AWP_c ?_); refine zcdF ?_)
        | ((with_reducible refine AWP_c ?_); refine zcdN ?_ ?_ <;> intro hb hb2 <;> first | contradiction | (exfalso; omega) | ((try refine zH hb2 ?_); try clear hb2))
        | ((with_reducible refine AWP_c ?_); refine zcdD ?_ ?_ <;> intro hb hb2 <;> first | contradiction | (exfalso; omega) | ((try refine zH hb2 ?_); try clear hb2))
        | ((with_reducible refine AWP_c ?_); refine zcdM ?_ ?_ <;> intro hb <;> first | contradiction | (try refine zH hb ?_))
        | ((with_reducible refine AWP_c ?_); refine zcdB ?_ ?_ <;> intro hb <;> first | contradiction | (try refine zH hb ?_))
        | ((with_reducible refine awp_skip ?_); refine zS ?_)
        | with_reducible refine awp_block ?_
        | ((with_reducible refine awp_exit ?_); refine zS ?_)
        | ((with_reducible refine CallK_id ?_); refine zcF ?_; refine ⟨_, by first | fail | fail, fun _ => rfl, fun _ => rfl, rfl, ?_⟩; try refine zS ?_)
        | ((with_reducible refine CallK_id ?_); refine zcT [1] ?_; refine ⟨_, _, by first | exact take_ok os wh (gt ms i) h3 h4 | fail, ?_⟩; try refine zS ?_)
        | ((with_reducible refine awp_label ?_); try refine zS ?_)
        | ((with_reducible refine awp_goto ?_); try refine zS ?_)
        | ((with_reducible refine awp_scope0 ?_); try refine zS ?_)
        | exact True.intro
        | fail
        refine awp_ret ?_
        exact fin_e0 (by simp only [go_sem, Bool.not_not, List.mem_singleton, forall_eq, ↓reduceIte, if_pos, rowsAt_map, wrap64, wrapu8, List.getElem?_cons_zero, List.getElem?_cons_succ, Int.reduceToNat, Nat.reduceAdd, Nat.reduceBEq, Bool.or_false, Bool.false_or, Bool.true_or, Nat.reduceSub, Nat.reduceMul, Int.reduceAdd, Int.reduceEq, Int.reduceLT, Int.reduceLE, Int.reduceNeg, Nat.reduceLT, Nat.reduceLeDiff, Nat.reduceEqDiff]; try rfl)
      | some e =>
        have e : parseR s = (e, 0, 0) := by rw [parseR, if_pos (by assumption), hms, hz]
        rw [e]
        simp only [wC, go_sem, Bool.not_not, List.mem_singleton, forall_eq, ↓reduceIte, if_pos, rowsAt_map, wrap64, wrapu8, List.getElem?_cons_zero, List.getElem?_cons_succ, Int.reduceToNat, Nat.reduceAdd, Nat.reduceBEq, Bool.or_false, Bool.false_or, Bool.true_or, Nat.reduceSub, Nat.reduceMul, Int.reduceAdd, Int.reduceEq, Int.reduceLT, Int.reduceLE, Int.reduceNeg, Nat.reduceLT, Nat.reduceLeDiff, Nat.reduceEqDiff]
        repeat' first
        | with_reducible refine awp_seq ?_
        | ((with_reducible refine awp_region ?_); refine zS ?_)
        | ((with_reducible refine Gd_nd ?_ ?_) <;> intro hb hb2 <;> first | contradiction | (exfalso; omega) | (refine zH hb2 ?_; try clear hb2))
        | ((with_reducible refine Gd_nb ?_ ?_) <;> intro hb <;> first | contradiction | refine zH hb ?_)
        | ((with_reducible refine Gd_d ?_ ?_) <;> intro hb hb2 <;> first | contradiction | (exfalso; omega) | (refine zH hb2 ?_; try clear hb2))
        | ((with_reducible refine Gd_b ?_ ?_) <;> intro hb <;> first | contradiction | refine zH hb ?_)
        | ((with_reducible refine Res_id ?_); refine zS ?_)
        | ((with_reducible refine awp_drawnW [999] ?_ ?_); rfl; refine zS ?_)
        | ((with_reducible refine awp_drawnA ?_ ?_); rfl; refine zS ?_)
        | ((with_reducible refine CGd_nd ?_ ?_) <;> intro hb hb2 <;> first | contradiction | (exfalso; omega) | (refine zH hb2 ?_; try clear hb2))
        | ((with_reducible refine CGd_nb ?_ ?_) <;> intro hb <;> first | contradiction | refine zH hb ?_)
        | ((with_reducible refine CGd_d ?_ ?_) <;> intro hb hb2 <;> first | contradiction | (exfalso; omega) | (refine zH hb2 ?_; try clear hb2))
        | ((with_reducible refine CGd_b ?_ ?_) <;> intro hb <;> first | contradiction | refine zH hb ?_)
        | ((with_reducible refine CRes_id ?_); refine zS ?_)
        | ((with_reducible refine DStep_id ?_); refine zdP ?_; refine ⟨_, by first | fail | fail, fun _ => rfl, fun _ => rfl, rfl, (fun h => by first | cases h | fail), ?_⟩; try refine zS ?_)
        | ((with_reducible refine DStep_id ?_); refine zdW ?_; refine ⟨_, by first | fail | fail, fun _ => rfl, fun _ => rfl, rfl, ?_⟩; try refine zS ?_)
        | ((with_reducible refine DStep_id ?_); refine zdT [1] ?_; refine ⟨_, _, by first | exact take_ok os wh (gt ms i) h3 h4 | fail, ?_⟩; try refine zS ?_)
        | ((with_reducible refine AWP_c ?_); refine zcdT ?_)
        | ((with_reducible refine AWP_c ?_); refine zcdF ?_)
        | ((with_reducible refine AWP_c ?_); refine zcdN ?_ ?_ <;> intro hb hb2 <;> first | contradiction | (exfalso; omega) | ((try refine zH hb2 ?_); try clear hb2))
        | ((with_reducible refine AWP_c ?_); refine zcdD ?_ ?_ <;> intro hb hb2 <;> first | contradiction | (exfalso; omega) | ((try refine zH hb2 ?_); try clear hb2))
        | ((with_reducible refine AWP_c ?_); refine zcdM ?_ ?_ <;> intro hb <;> first | contradiction | (try refine zH hb ?_))
        | ((with_reducible refine AWP_c ?_); refine zcdB ?_ ?_ <;> intro hb <;> first | contradiction | (try refine zH hb ?_))
        | ((with_reducible refine awp_ret ?_); refine fin_r ?_)
        | ((with_reducible refine awp_ret ?_); refine fin_q ?_ ?_)
        | with_reducible refine fin_qn ?_ ?_
        | ((with_reducible refine awp_skip ?_); refine zS ?_)
        | with_reducible refine awp_block ?_
        | ((with_reducible refine awp_exit ?_); refine zS ?_)
        | ((with_reducible refine CallK_id ?_); refine zcF ?_; refine ⟨_, by first | fail | fail, fun _ => rfl, fun _ => rfl, rfl, ?_⟩; try refine zS ?_)
        | ((with_reducible refine CallK_id ?_); refine zcT [1] ?_; refine ⟨_, _, by first | exact take_ok os wh (gt ms i) h3 h4 | fail, ?_⟩; try refine zS ?_)
        | ((with_reducible refine awp_label ?_); try refine zS ?_)
        | ((with_reducible refine awp_goto ?_); try refine zS ?_)
        | ((with_reducible refine awp_scope0 ?_); try refine zS ?_)
        | exact True.intro
        | fail
        all_goals first | rfl | trace_state
end Go.Eng
open Go Go.Proofs
namespace Go.Eng
set_option linter.unusedSimpArgs false
set_option linter.unusedVariables false
set_option maxRecDepth 100000
set_option maxHeartbeats 8000000
def t1 : Str := [60, 97, 62, 60, 98, 47, 62, 120, 60, 47, 97, 62]
def t2 : Str := [60, 97, 62, 60, 47, 97, 62]
def e1 : El := .mk [97] [] [] []
theorem p1 : parseR t1 = (e0, 7, 4) := by kernel_rfl
theorem p2 : parseR t2 = (e1, 0, 0) := by kernel_rfl
theorem w1 : writeE e1 = ([60, 97, 47, 62], 0) := by kernel_rfl
theorem parse1 : AFn env 10 [aS t1] [] (.tup [e0.a, aI 7, aI 4]) [] := by
  have := parse_ok t1 (by decide); rw [p1] at this; exact this
theorem parse2 : AFn env 10 [aS t2] [] (.tup [e1.a, aI 0, aI 0]) [] := by
  have := parse_ok t2 (by decide); rw [p2] at this; exact this
theorem write1 : AFn env 9 [e1.a] [] (.tup [aS [60, 97, 47, 62], aI 0]) [] := by
  have := write_ok e1 (by decide); rw [w1] at this; exact this
theorem count1 : AFn env 18 [e1.a] [] (aI 1) [] := count_ok e1 (by decide)
theorem kids_ok : AFn env 8 [] [] (aB true) [] := by
  refine afn_body Tryd.func8 rfl (by decide) ?_
  simp only [Tryd.ntmps8, Tryd.results8, List.length_cons, List.length_nil, List.cons_append, List.nil_append, Nat.reduceAdd, Nat.reduceSub, List.replicate]
  repeat' first
  | with_reducible refine awp_seq ?_
  | ((with_reducible refine awp_region ?_); refine zS ?_)
  | ((with_reducible refine Gd_nd ?_ ?_) <;> intro hb hb2 <;> first | contradiction | (exfalso; omega) | (refine zH hb2 ?_; try clear hb2))
  | ((with_reducible refine Gd_nb ?_ ?_) <;> intro hb <;> first | contradiction | refine zH hb ?_)
  | ((with_reducible refine Gd_d ?_ ?_) <;> intro hb hb2 <;> first | contradiction | (exfalso; omega) | (refine zH hb2 ?_; try clear hb2))
  | ((with_reducible refine Gd_b ?_ ?_) <;> intro hb <;> first | contradiction | refine zH hb ?_)
  | ((with_reducible refine Res_id ?_); refine zS ?_)
  | ((with_reducible refine awp_drawnC ?_ ?_); rfl; refine zS ?_)
  | ((with_reducible refine awp_drawnA ?_ ?_); rfl; refine zS ?_)
  | ((with_reducible refine CGd_nd ?_ ?_) <;> intro hb hb2 <;> first | contradiction | (exfalso; omega) | (refine zH hb2 ?_; try clear hb2))
  | ((with_reducible refine CGd_nb ?_ ?_) <;> intro hb <;> first | contradiction | refine zH hb ?_)
  | ((with_reducible refine CGd_d ?_ ?_) <;> intro hb hb2 <;> first | contradiction | (exfalso; omega) | (refine zH hb2 ?_; try clear hb2))
  | ((with_reducible refine CGd_b ?_ ?_) <;> intro hb <;> first | contradiction | refine zH hb ?_)
  | ((with_reducible refine CRes_id ?_); refine zS ?_)
  | ((with_reducible refine DStep_id ?_); refine zdP ?_; refine ⟨_, by first | exact parse1 | exact parse2 | exact write1 | exact count1 | fail, fun _ => rfl, fun _ => rfl, rfl, (fun h => by first | cases h | fail), ?_⟩; try refine zS ?_)
  | ((with_reducible refine DStep_id ?_); refine zdW ?_; refine ⟨_, by first | exact parse1 | exact parse2 | exact write1 | exact count1 | fail, fun _ => rfl, fun _ => rfl, rfl, ?_⟩; try refine zS ?_)
  | ((with_reducible refine AWP_c ?_); refine zcdT ?_)
  | ((with_reducible refine AWP_c ?_); refine zcdF ?_)
  | ((with_reducible refine AWP_c ?_); refine zcdN ?_ ?_ <;> intro hb hb2 <;> first | contradiction | (exfalso; omega) | ((try refine zH hb2 ?_); try clear hb2))
  | ((with_reducible refine AWP_c ?_); refine zcdD ?_ ?_ <;> intro hb hb2 <;> first | contradiction | (exfalso; omega) | ((try refine zH hb2 ?_); try clear hb2))
  | ((with_reducible refine AWP_c ?_); refine zcdM ?_ ?_ <;> intro hb <;> first | contradiction | (try refine zH hb ?_))
  | ((with_reducible refine AWP_c ?_); refine zcdB ?_ ?_ <;> intro hb <;> first | contradiction | (try refine zH hb ?_))
  | ((with_reducible refine awp_ret ?_); refine fin_r ?_)
  | ((with_reducible refine awp_ret ?_); refine fin_q ?_ ?_)
  | with_reducible refine fin_qn ?_ ?_
  | ((with_reducible refine awp_skip ?_); refine zS ?_)
  | with_reducible refine awp_block ?_
  | ((with_reducible refine awp_exit ?_); refine zS ?_)
  | ((with_reducible refine CallK_id ?_); refine zcF ?_; refine ⟨_, by first | exact parse1 | exact parse2 | exact write1 | exact count1 | fail, fun _ => rfl, fun _ => rfl, rfl, ?_⟩; try refine zS ?_)
  | ((with_reducible refine awp_label ?_); try refine zS ?_)
  | ((with_reducible refine awp_goto ?_); try refine zS ?_)
  | ((with_reducible refine awp_scope0 ?_); try refine zS ?_)
  | exact True.intro
  | fail
  all_goals first | rfl | trace_state
end Go.Eng
open Go Go.Proofs
namespace Go.Eng
set_option linter.unusedSimpArgs false
set_option linter.unusedVariables false
set_option maxRecDepth 100000
set_option maxHeartbeats 8000000
theorem nlE {b : Bool} (h : b = false) : b = false := h
theorem lawC_ok (e : El) (n : Str) (hgd : e.gd) : AFn env 6 [e.a, aS n] [] (aB true) [] := by
  refine afn_body Tryd.func6 rfl (by decide) ?_
  simp only [Tryd.ntmps6, Tryd.results6, List.length_cons, List.length_nil, List.cons_append, List.nil_append, Nat.reduceAdd, Nat.reduceSub, List.replicate]
  have hle := largeE_le e 5000 1
  repeat' first
  | with_reducible refine awp_seq ?_
  | ((with_reducible refine awp_region ?_); refine zS ?_)
  | ((with_reducible refine Gd_nd ?_ ?_) <;> intro hb hb2 <;> first | contradiction | (exfalso; omega) | (refine zH hb2 ?_; try clear hb2))
  | ((with_reducible refine Gd_nb ?_ ?_) <;> intro hb <;> first | contradiction | refine zH hb ?_)
  | ((with_reducible refine Gd_d ?_ ?_) <;> intro hb hb2 <;> first | contradiction | (exfalso; omega) | (refine zH hb2 ?_; try clear hb2))
  | ((with_reducible refine Gd_b ?_ ?_) <;> intro hb <;> first | contradiction | refine zH hb ?_)
  | ((with_reducible refine Res_id ?_); refine zS ?_)
  | ((with_reducible refine awp_drawnC ?_ ?_); rfl; refine zS ?_)
  | ((with_reducible refine awp_drawnA ?_ ?_); rfl; refine zS ?_)
  | ((with_reducible refine CGd_nd ?_ ?_) <;> intro hb hb2 <;> first | contradiction | (exfalso; omega) | (refine zH hb2 ?_; try clear hb2))
  | ((with_reducible refine CGd_nb ?_ ?_) <;> intro hb <;> first | contradiction | refine zH hb ?_)
  | ((with_reducible refine CGd_d ?_ ?_) <;> intro hb hb2 <;> first | contradiction | (exfalso; omega) | (refine zH hb2 ?_; try clear hb2))
  | ((with_reducible refine CGd_b ?_ ?_) <;> intro hb <;> first | contradiction | refine zH hb ?_)
  | ((with_reducible refine CRes_id ?_); refine zS ?_)
  | ((with_reducible refine DStep_id ?_); refine zdP ?_; refine ⟨_, by first | exact kids_ok | fail, fun _ => rfl, fun _ => rfl, rfl, (fun h => by first | cases h | fail), ?_⟩; try refine zS ?_)
  | ((with_reducible refine DStep_id ?_); refine zdW ?_; refine ⟨_, by first | exact kids_ok | fail, fun _ => rfl, fun _ => rfl, rfl, ?_⟩; try refine zS ?_)
  | ((with_reducible refine DStep_id ?_); refine zdT [1] ?_; refine ⟨_, _, by first | exact large_ok e 5000 1 hgd (by omega) (by omega) (by omega) (by omega) | fail, ?_⟩; try refine zS ?_)
  | ((with_reducible refine AWP_c ?_); refine zcdT ?_)
  | ((with_reducible refine AWP_c ?_); refine zcdF ?_)
  | ((with_reducible refine AWP_c ?_); refine zcdN ?_ ?_ <;> intro hb hb2 <;> first | contradiction | (exfalso; omega) | ((try refine zH hb2 ?_); try clear hb2))
  | ((with_reducible refine AWP_c ?_); refine zcdD ?_ ?_ <;> intro hb hb2 <;> first | contradiction | (exfalso; omega) | ((try refine zH hb2 ?_); try clear hb2))
  | ((with_reducible refine AWP_c ?_); refine zcdM ?_ ?_ <;> intro hb <;> first | contradiction | (try refine zH hb ?_))
  | ((with_reducible refine AWP_c ?_); refine zcdB ?_ ?_ <;> intro hb <;> first | contradiction | (try refine zH hb ?_))
  | ((with_reducible refine awp_ret ?_); refine fin_r ?_)
  | ((with_reducible refine awp_ret ?_); refine fin_q ?_ ?_)
  | with_reducible refine fin_qn ?_ ?_
  | ((with_reducible refine awp_skip ?_); refine zS ?_)
  | ((with_reducible refine awp_exit ?_); refine zS ?_)
  | ((with_reducible refine CallK_id ?_); refine zcF ?_; refine ⟨_, by first | exact kids_ok | fail, fun _ => rfl, fun _ => rfl, rfl, ?_⟩; try refine zS ?_)
  | ((with_reducible refine CallK_id ?_); refine zcT [1] ?_; refine ⟨_, _, by first | exact large_ok e 5000 1 hgd (by omega) (by omega) (by omega) (by omega) | fail, ?_⟩; try refine zS ?_)
  | ((with_reducible refine awp_label ?_); try refine zS ?_)
  | ((with_reducible refine awp_goto ?_); try refine zS ?_)
  | ((with_reducible refine awp_scope0 ?_); try refine zS ?_)
  | exact True.intro
  | fail
  · rfl
  have hw : e.wt ≤ 5000 := by have := hle.2 (by assumption); omega
  have hsz := e.size_wt
  have hwe := e.wt_eq
  have hal := At.wts_len e.ats
  repeat' first
  | with_reducible refine awp_seq ?_
  | ((with_reducible refine awp_region ?_); refine zS ?_)
  | ((with_reducible refine Gd_nd ?_ ?_) <;> intro hb hb2 <;> first | contradiction | (exfalso; omega) | (refine zH hb2 ?_; try clear hb2))
  | ((with_reducible refine Gd_nb ?_ ?_) <;> intro hb <;> first | contradiction | refine zH hb ?_)
  | ((with_reducible refine Gd_d ?_ ?_) <;> intro hb hb2 <;> first | contradiction | (exfalso; omega) | (refine zH hb2 ?_; try clear hb2))
  | ((with_reducible refine Gd_b ?_ ?_) <;> intro hb <;> first | contradiction | refine zH hb ?_)
  | ((with_reducible refine Res_id ?_); refine zS ?_)
  | ((with_reducible refine awp_drawnC ?_ ?_); rfl; refine zS ?_)
  | ((with_reducible refine awp_drawnA ?_ ?_); rfl; refine zS ?_)
  | ((with_reducible refine CGd_nd ?_ ?_) <;> intro hb hb2 <;> first | contradiction | (exfalso; omega) | (refine zH hb2 ?_; try clear hb2))
  | ((with_reducible refine CGd_nb ?_ ?_) <;> intro hb <;> first | contradiction | refine zH hb ?_)
  | ((with_reducible refine CGd_d ?_ ?_) <;> intro hb hb2 <;> first | contradiction | (exfalso; omega) | (refine zH hb2 ?_; try clear hb2))
  | ((with_reducible refine CGd_b ?_ ?_) <;> intro hb <;> first | contradiction | refine zH hb ?_)
  | ((with_reducible refine CRes_id ?_); refine zS ?_)
  | ((with_reducible refine DStep_id ?_); refine zdP ?_; refine ⟨_, by first | exact ref_ok e (by omega) | exact get_ok e n (by omega) | exact count_ok e (by omega) | exact rcount_ok e (by omega) | exact depth_ok e (by omega) | exact rdepth_ok e (by omega) | exact kids_ok | fail, fun _ => rfl, fun _ => rfl, rfl, (fun h => by first | cases h | fail), ?_⟩; try refine zS ?_)
  | ((with_reducible refine DStep_id ?_); refine zdW ?_; refine ⟨_, by first | exact ref_ok e (by omega) | exact get_ok e n (by omega) | exact count_ok e (by omega) | exact rcount_ok e (by omega) | exact depth_ok e (by omega) | exact rdepth_ok e (by omega) | exact kids_ok | fail, fun _ => rfl, fun _ => rfl, rfl, ?_⟩; try refine zS ?_)
  | ((with_reducible refine AWP_c ?_); refine zcdT ?_)
  | ((with_reducible refine AWP_c ?_); refine zcdF ?_)
  | ((with_reducible refine AWP_c ?_); refine zcdN ?_ ?_ <;> intro hb hb2 <;> first | contradiction | (exfalso; omega) | ((try refine zH hb2 ?_); try clear hb2))
  | ((with_reducible refine AWP_c ?_); refine zcdD ?_ ?_ <;> intro hb hb2 <;> first | contradiction | (exfalso; omega) | ((try refine zH hb2 ?_); try clear hb2))
  | ((with_reducible refine AWP_c ?_); refine zcdM ?_ ?_ <;> intro hb <;> first | contradiction | (try refine zH hb ?_))
  | ((with_reducible refine AWP_c ?_); refine zcdB ?_ ?_ <;> intro hb <;> first | contradiction | (try refine zH hb ?_))
  | ((with_reducible refine awp_ret ?_); refine fin_r ?_)
  | ((with_reducible refine awp_ret ?_); refine fin_q ?_ ?_)
  | with_reducible refine fin_qn ?_ ?_
  | ((with_reducible refine awp_skip ?_); refine zS ?_)
  | ((with_reducible refine awp_exit ?_); refine zS ?_)
  | ((with_reducible refine CallK_id ?_); refine zcF ?_; refine ⟨_, by first | exact ref_ok e (by omega) | exact get_ok e n (by omega) | exact count_ok e (by omega) | exact rcount_ok e (by omega) | exact depth_ok e (by omega) | exact rdepth_ok e (by omega) | exact kids_ok | fail, fun _ => rfl, fun _ => rfl, rfl, ?_⟩; try refine zS ?_)
  | ((with_reducible refine awp_label ?_); try refine zS ?_)
  | ((with_reducible refine awp_goto ?_); try refine zS ?_)
  | ((with_reducible refine awp_scope0 ?_); try refine zS ?_)
  | exact True.intro
  | fail
  refine awp_block ?_
  refine awp_loopT (fun i : Nat => i ≤ e.ats.length ∧ getA (e.ats.drop i) n = getA e.ats n) (fun i => e.ats.length - i) (fun i => [(17, .any), (20, .any), (26, aI i)]) (fun i => [some (.box e.bs), some (.box [.d (dI (largeE e 5000 1).2)]), some (.box e.bs)]) 0 ⟨by omega, rfl⟩ (by exact zwl) ?_
  rintro i ⟨h1, h2⟩
  refine zT ?_
  repeat' first
  | with_reducible refine awp_seq ?_
  | ((with_reducible refine awp_region ?_); refine zS ?_)
  | ((with_reducible refine Gd_nd ?_ ?_) <;> intro hb hb2 <;> first | contradiction | (exfalso; omega) | (refine zH hb2 ?_; try clear hb2))
  | ((with_reducible refine Gd_nb ?_ ?_) <;> intro hb <;> first | contradiction | refine zH hb ?_)
  | ((with_reducible refine Gd_d ?_ ?_) <;> intro hb hb2 <;> first | contradiction | (exfalso; omega) | (refine zH hb2 ?_; try clear hb2))
  | ((with_reducible refine Gd_b ?_ ?_) <;> intro hb <;> first | contradiction | refine zH hb ?_)
  | ((with_reducible refine Res_id ?_); refine zS ?_)
  | ((with_reducible refine awp_drawnC ?_ ?_); rfl; refine zS ?_)
  | ((with_reducible refine awp_drawnA ?_ ?_); rfl; refine zS ?_)
  | ((with_reducible refine CGd_nd ?_ ?_) <;> intro hb hb2 <;> first | contradiction | (exfalso; omega) | (refine zH hb2 ?_; try clear hb2))
  | ((with_reducible refine CGd_nb ?_ ?_) <;> intro hb <;> first | contradiction | refine zH hb ?_)
  | ((with_reducible refine CGd_d ?_ ?_) <;> intro hb hb2 <;> first | contradiction | (exfalso; omega) | (refine zH hb2 ?_; try clear hb2))
  | ((with_reducible refine CGd_b ?_ ?_) <;> intro hb <;> first | contradiction | refine zH hb ?_)
  | ((with_reducible refine CRes_id ?_); refine zS ?_)
  | ((with_reducible refine DStep_id ?_); refine zdP ?_; refine ⟨_, by first | exact ref_ok e (by omega) | exact get_ok e n (by omega) | exact count_ok e (by omega) | exact rcount_ok e (by omega) | exact depth_ok e (by omega) | exact rdepth_ok e (by omega) | exact kids_ok | fail, fun _ => rfl, fun _ => rfl, rfl, (fun h => by first | cases h | fail), ?_⟩; try refine zS ?_)
  | ((with_reducible refine DStep_id ?_); refine zdW ?_; refine ⟨_, by first | exact ref_ok e (by omega) | exact get_ok e n (by omega) | exact count_ok e (by omega) | exact rcount_ok e (by omega) | exact depth_ok e (by omega) | exact rdepth_ok e (by omega) | exact kids_ok | fail, fun _ => rfl, fun _ => rfl, rfl, ?_⟩; try refine zS ?_)
  | ((with_reducible refine AWP_c ?_); refine zcdT ?_)
  | ((with_reducible refine AWP_c ?_); refine zcdF ?_)
  | ((with_reducible refine AWP_c ?_); refine zcdN ?_ ?_ <;> intro hb hb2 <;> first | contradiction | (exfalso; omega) | ((try refine zH hb2 ?_); try clear hb2))
  | ((with_reducible refine AWP_c ?_); refine zcdD ?_ ?_ <;> intro hb hb2 <;> first | contradiction | (exfalso; omega) | ((try refine zH hb2 ?_); try clear hb2))
  | ((with_reducible refine AWP_c ?_); refine zcdM ?_ ?_ <;> intro hb <;> first | contradiction | (try refine zH hb ?_))
  | ((with_reducible refine AWP_c ?_); refine zcdB ?_ ?_ <;> intro hb <;> first | contradiction | (try refine zH hb ?_))
  | ((with_reducible refine awp_ret ?_); refine fin_r ?_)
  | ((with_reducible refine awp_ret ?_); refine fin_q ?_ ?_)
  | with_reducible refine fin_qn ?_ ?_
  | ((with_reducible refine awp_skip ?_); refine zS ?_)
  | with_reducible refine awp_block ?_
  | ((with_reducible refine awp_exit ?_); refine zS ?_)
  | ((with_reducible refine CallK_id ?_); refine zcF ?_; refine ⟨_, by first | exact ref_ok e (by omega) | exact get_ok e n (by omega) | exact count_ok e (by omega) | exact rcount_ok e (by omega) | exact depth_ok e (by omega) | exact rdepth_ok e (by omega) | exact kids_ok | fail, fun _ => rfl, fun _ => rfl, rfl, ?_⟩; try refine zS ?_)
  | ((with_reducible refine awp_label ?_); try refine zS ?_)
  | ((with_reducible refine awp_goto ?_); try refine zS ?_)
  | ((with_reducible refine awp_scope0 ?_); try refine zS ?_)
  | exact True.intro
  | fail
  all_goals first
    | rfl
    | (have hi : i < e.ats.length := by omega
       refine ⟨i + 1, ⟨by omega, ?_⟩, by omega, (by exact zwc 3)⟩
       rw [← h2, drop_gtE hi, getA, if_neg (by assumption)]; done)
    | (exfalso
       have hi : i < e.ats.length := by omega
       have hg := h2
       rw [drop_gtE hi, getA, if_pos (by assumption)] at hg
       first
         | exact absurd ‹(getA e.ats n).2 = false› (by rw [← hg]; simp)
         | exact absurd (show (getA e.ats n).1 = (gt e.ats i).val by rw [← hg]) (by assumption))
    | (exfalso
       have hi : i = e.ats.length := by omega
       have hg := h2
       rw [hi, List.drop_length, getA] at hg
       first
         | exact absurd ‹(getA e.ats n).2 = true› (by rw [← hg]; simp)
         | exact absurd (show (getA e.ats n).1 = [] by rw [← hg]) (by assumption))
    | trace_state
end Go.Eng
open Go Go.Proofs Go.RowKit
namespace Go.Eng
set_option linter.unusedSimpArgs false
set_option linter.unusedVariables false
set_option maxRecDepth 100000
theorem El.gds_of : ∀ {l : List El}, (∀ k ∈ l, k.gd) → El.gds l
  | [], _ => trivial
  | a :: l, h => ⟨h a (by simp), El.gds_of (fun k hk => h k (by simp [hk]))⟩
section
variable {H : Type} {enc : TypeId × Value → H} {W : World} {F : Nat → Prop} {base : Nat} {spare : Nat → Bool} {held : Bool}
theorem opD_Att (n : Nat) : OpD enc Tryd.prog W F base spare held 53 At.row (fun x => x.name.length ≤ 140737488351232 ∧ x.val.length ≤ 140737488351232) n := by
  refine opD_imp (opD_struct (β := At) (g := fun x : Str × Str × Unit => ⟨x.1, x.2.1⟩) (f := fun d => (d.name, d.val, ())) Tryd.underlying53 (by kernel_rfl) (fun a => rfl) (fun m hm => opDF_cons (s := 1) rfl (by kernel_rfl) (opD_string Tryd.underlying9) (opDF_cons (s := 1) rfl (by kernel_rfl) (opD_string Tryd.underlying9) opDF_nil))) (fun t => rfl) (fun a h => ⟨h.1, h.2.1⟩)
theorem opD_E (hF : ∀ a u, W.cell? a = some u → F a.block) : ∀ n, OpD enc Tryd.prog W F base spare held 25 El.row El.gd n := by
  refine opD_fix (fun n ih => ?_)
  have hk : ∀ m, m < n → OpD enc Tryd.prog W F base spare held 23 (fun xs : List El => [.fz (xs.map El.row)]) _ m := fun m hm => opD_slice (s := 4) (B := 80) hF Tryd.underlying23 (by kernel_rfl) (by kernel_rfl) (by decide) (fun a => by rw [El.row_eq]; rfl) (fun m' hm' => ih m' (by omega))
  have ha : ∀ m, OpD enc Tryd.prog W F base spare held 22 (fun xs : List At => [.fz (xs.map At.row)]) _ m := fun m => opD_slice (s := 2) (B := 32) hF Tryd.underlying22 (by kernel_rfl) (by kernel_rfl) (by decide) (fun a => rfl) (fun m' _ => opD_Att m')
  refine opD_imp (opD_struct (β := El) (g := fun x : Str × List At × List El × Str × Unit => .mk x.1 x.2.1 x.2.2.1 x.2.2.2.1) (f := fun e => (e.name, e.ats, e.kids, e.text, ())) Tryd.underlying25 (by kernel_rfl) (fun a => rfl) (fun m hm => opDF_cons (s := 1) rfl (by kernel_rfl) (opD_string Tryd.underlying9) (opDF_cons (s := 1) rfl (by kernel_rfl) (ha m) (opDF_cons (s := 1) rfl (by kernel_rfl) (hk m hm) (opDF_cons (s := 1) rfl (by kernel_rfl) (opD_string Tryd.underlying9) opDF_nil))))) (fun t => ?_) (fun a h => ?_)
  · rw [El.row_eq]; rfl
  · cases a with | mk n a k t => exact ⟨h.1, h.2.2.2.1, h.2.1.2.2, El.gds_of h.2.2.1.2.2⟩
end
def laid1 : List (String × DataW Unit) := [("treenail/mark.escapes", Go.Proofs.YtmamiagddgldkaaDoor.Rows.laid_treenail_mark_escapes)]
def escVals : List Value := escs.flatMap fun b => [.int .u8 b.c, .string (st b.s)]
theorem base_ok {W : World} (h : laidMetH Tryd.prog laid1 W) : (B0 W).ok env := by
  intro g
  match g with
  | 0 =>
    have hc := cells_of_laid rfl h (.head _) (g := 0) (by kernel_rfl) (t := 101) (by kernel_rfl) 8 escVals (by kernel_rfl)
    exact vr_pa (s := 2) (by decide) (by kernel_rfl) (by kernel_rfl) (by decide) hc
  | g + 1 => exact .any _ rfl
end Go.Eng
