/- Each function of the program, walked over plain data: what it comes to, at all arguments. -/
import Derived.Test.YtnfkbkomkkjphaaDoorNc
import Derived.Test.YtnfkbkomkkjphaaDoorEc
import Derived.Test.YtnfkbkomkkjphaaDoorRows
open Go Go.Proofs
namespace Go.Eng
set_option linter.unusedSimpArgs false
set_option linter.unusedVariables false
set_option maxRecDepth 100000
set_option maxHeartbeats 8000000

def okP (l : List Tok) : Prop := ∀ t ∈ l, t.kind ≤ 2 → pfxAt t.text 0 [40] = false
def PG (l : List Tok) (n : Nat) : Prop := ∀ (i : Nat) (j r : Int), j = i → i ≤ l.length → 1 ≤ r → r ≤ 7 → 20 * (l.length - i) + 2 * (9 - r) ≤ (n : Int) → AFn env 27 [aF (l.map Tok.row), aI j, aI r] [] (rowG n l i r).a []
def PC (l : List Tok) (n : Nat) : Prop := ∀ (i : Nat) (j : Int), j = i → i ≤ l.length → 20 * (l.length - i) + 9 ≤ n → AFn env 49 [aF (l.map Tok.row), aI j] [] (cmpG n l i).a []
def PO (l : List Tok) (n : Nat) : Prop := ∀ (i : Nat) (j : Int), j = i → i ≤ l.length → 20 * (l.length - i) + 3 ≤ n → AFn env 50 [aF (l.map Tok.row), aI j] [] (oneG n l i).a []
section
variable (l : List Tok) (hl : l.length ≤ 100000000) (hp : okP l)
theorem isI_ok (i : Nat) (j : Int) (hj : j = i) (x : Str) : AFn env 48 [aF (l.map Tok.row), aI j, aS x] [] (aB (isG l i x)) [] := by
  subst hj
  have h := is_ok l i (by omega) x
  have e : (decide ((i : Int) < (l.length : Int)) && decide ((gt l (i : Int).toNat).text = x)) = isG l i x := by
    simp only [isG, Int.toNat_natCast]; congr 1; simp
  rwa [e] at h
theorem isG_ge {l : List Tok} {i : Nat} {x : Str} (h : ¬ i < l.length) : isG l i x = false := by simp [isG, h]
include hl hp in
theorem oneG_ok (n : Nat) (ihO : PO l n) (ihG : PG l n) : PO l (n + 1) := by
  intro i j hj hi hn
  subst hj
  rw [oneG]
  by_cases hi2 : i < l.length
  · have hb1 : (rowG n l (i + 1) 1).nx ≤ l.length := (rowG_in n l (i + 1) 1 hi2).1
    have hb2 : (oneG n l (i + 1)).nx ≤ l.length := (oneG_in n l (i + 1) hi2).1
    refine afn_body Tryd.func50 rfl (by decide) ?_
    simp only [Tryd.ntmps50, Tryd.results50, List.length_cons, List.length_nil, List.cons_append, List.nil_append, Nat.reduceAdd, Nat.reduceSub, List.replicate]
    repeat' first
    | with_reducible refine awp_seq ?_
    | ((with_reducible refine awp_region ?_); refine zS ?_)
    | ((with_reducible refine Gd_nd ?_ ?_) <;> intro hb hb2 <;> first | contradiction | (exfalso; omega) | (refine zH hb2 ?_; try clear hb2))
    | ((with_reducible refine Gd_nb ?_ ?_) <;> intro hb <;> first | contradiction | refine zH hb ?_)
    | ((with_reducible refine Gd_d ?_ ?_) <;> intro hb hb2 <;> first | contradiction | (exfalso; omega) | (refine zH hb2 ?_; try clear hb2))
    | ((with_reducible refine Gd_b ?_ ?_) <;> intro hb <;> first | contradiction | refine zH hb ?_)
    | ((with_reducible refine Res_id ?_); refine zS ?_)
    | ((with_reducible refine awp_drawnC ?_ ?_); rfl; refine zS ?_)
    | ((with_reducible refine awp_drawnA ?_ ?_); rfl; refine zS ?_)
    | ((with_reducible refine CGd_nd ?_ ?_) <;> intro hb hb2 <;> first | contradiction | (exfalso; omega) | (refine zH hb2 ?_; try clear hb2))
    | ((with_reducible refine CGd_nb ?_ ?_) <;> intro hb <;> first | contradiction | refine zH hb ?_)
    | ((with_reducible refine CGd_d ?_ ?_) <;> intro hb hb2 <;> first | contradiction | (exfalso; omega) | (refine zH hb2 ?_; try clear hb2))
    | ((with_reducible refine CGd_b ?_ ?_) <;> intro hb <;> first | contradiction | refine zH hb ?_)
    | ((with_reducible refine CRes_id ?_); refine zS ?_)
    | ((with_reducible refine DStep_id ?_); refine zdP ?_; refine ⟨_, by first | exact isI_ok l i _ rfl [45] | exact isI_ok l i _ rfl [40] | exact ihO (i + 1) _ (by omega) (isG_lt ‹_›) (by have := isG_lt ‹isG l i [45] = true›; omega) | exact ihG (i + 1) _ 1 (by omega) (isG_lt ‹_›) (by omega) (by omega) (by have := isG_lt ‹isG l i [40] = true›; omega) | exact isI_ok l (rowG n l (i + 1) 1).nx _ rfl [41] | exact bad_ok _ | exact parse3_ok _ (hp _ (gt_mem (by omega)) (by omega)) | fail, fun _ => rfl, fun _ => rfl, rfl, (fun h => by first | cases h | fail), ?_⟩; try refine zS ?_)
    | ((with_reducible refine DStep_id ?_); refine zdW ?_; refine ⟨_, by first | exact isI_ok l i _ rfl [45] | exact isI_ok l i _ rfl [40] | exact ihO (i + 1) _ (by omega) (isG_lt ‹_›) (by have := isG_lt ‹isG l i [45] = true›; omega) | exact ihG (i + 1) _ 1 (by omega) (isG_lt ‹_›) (by omega) (by omega) (by have := isG_lt ‹isG l i [40] = true›; omega) | exact isI_ok l (rowG n l (i + 1) 1).nx _ rfl [41] | exact bad_ok _ | exact parse3_ok _ (hp _ (gt_mem (by omega)) (by omega)) | fail, fun _ => rfl, fun _ => rfl, rfl, ?_⟩; try refine zS ?_)
    | ((with_reducible refine AWP_c ?_); refine zcdT ?_)
    | ((with_reducible refine AWP_c ?_); refine zcdF ?_)
    | ((with_reducible refine AWP_c ?_); refine zcdN ?_ ?_ <;> intro hb hb2 <;> first | contradiction | (exfalso; omega) | ((try refine zH hb2 ?_); try clear hb2))
    | ((with_reducible refine AWP_c ?_); refine zcdD ?_ ?_ <;> intro hb hb2 <;> first | contradiction | (exfalso; omega) | ((try refine zH hb2 ?_); try clear hb2))
    | ((with_reducible refine AWP_c ?_); refine zcdM ?_ ?_ <;> intro hb <;> first | contradiction | (try refine zH hb ?_))
    | ((with_reducible refine AWP_c ?_); refine zcdB ?_ ?_ <;> intro hb <;> first | contradiction | (try refine zH hb ?_))
    | ((with_reducible refine awp_ret ?_); refine fin_r ?_)
    | ((with_reducible refine awp_ret ?_); refine fin_q ?_ ?_)
    | with_reducible refine fin_qn ?_ ?_
    | ((with_reducible refine awp_skip ?_); refine zS ?_)
    | with_reducible refine awp_block ?_
    | ((with_reducible refine awp_exit ?_); refine zS ?_)
    | ((with_reducible refine CallK_id ?_); refine zcF ?_; refine ⟨_, by first | exact isI_ok l i _ rfl [45] | exact isI_ok l i _ rfl [40] | exact ihO (i + 1) _ (by omega) (isG_lt ‹_›) (by have := isG_lt ‹isG l i [45] = true›; omega) | exact ihG (i + 1) _ 1 (by omega) (isG_lt ‹_›) (by omega) (by omega) (by have := isG_lt ‹isG l i [40] = true›; omega) | exact isI_ok l (rowG n l (i + 1) 1).nx _ rfl [41] | exact bad_ok _ | exact parse3_ok _ (hp _ (gt_mem (by omega)) (by omega)) | fail, fun _ => rfl, fun _ => rfl, rfl, ?_⟩; try refine zS ?_)
    | exact True.intro
    | fail
    all_goals (repeat' split) <;> first | contradiction | (exfalso; omega) | (exfalso; simp_all; done) | (simp [go_sem, badG, t0, T.op, T.n, T.kids]; done) | (clear hp ihO ihG; simp [go_sem, badG, t0, T.op, T.n, T.kids, *]; done) | trace_state
  · have h45 := isI_ok l i _ rfl [45]
    have h40 := isI_ok l i _ rfl [40]
    rw [isG_ge hi2] at h45 h40
    simp only [isG_ge hi2]
    rw [if_neg (by decide), if_neg (by decide), if_pos (.inl (by omega))]
    refine afn_body Tryd.func50 rfl (by decide) ?_
    simp only [Tryd.ntmps50, Tryd.results50, List.length_cons, List.length_nil, List.cons_append, List.nil_append, Nat.reduceAdd, Nat.reduceSub, List.replicate]
    repeat' first
    | with_reducible refine awp_seq ?_
    | ((with_reducible refine awp_region ?_); refine zS ?_)
    | ((with_reducible refine Gd_nd ?_ ?_) <;> intro hb hb2 <;> first | contradiction | (exfalso; omega) | (refine zH hb2 ?_; try clear hb2))
    | ((with_reducible refine Gd_nb ?_ ?_) <;> intro hb <;> first | contradiction | refine zH hb ?_)
    | ((with_reducible refine Gd_d ?_ ?_) <;> intro hb hb2 <;> first | contradiction | (exfalso; omega) | (refine zH hb2 ?_; try clear hb2))
    | ((with_reducible refine Gd_b ?_ ?_) <;> intro hb <;> first | contradiction | refine zH hb ?_)
    | ((with_reducible refine Res_id ?_); refine zS ?_)
    | ((with_reducible refine awp_drawnC ?_ ?_); rfl; refine zS ?_)
    | ((with_reducible refine awp_drawnA ?_ ?_); rfl; refine zS ?_)
    | ((with_reducible refine CGd_nd ?_ ?_) <;> intro hb hb2 <;> first | contradiction | (exfalso; omega) | (refine zH hb2 ?_; try clear hb2))
    | ((with_reducible refine CGd_nb ?_ ?_) <;> intro hb <;> first | contradiction | refine zH hb ?_)
    | ((with_reducible refine CGd_d ?_ ?_) <;> intro hb hb2 <;> first | contradiction | (exfalso; omega) | (refine zH hb2 ?_; try clear hb2))
    | ((with_reducible refine CGd_b ?_ ?_) <;> intro hb <;> first | contradiction | refine zH hb ?_)
    | ((with_reducible refine CRes_id ?_); refine zS ?_)
    | ((with_reducible refine DStep_id ?_); refine zdP ?_; refine ⟨_, by first | exact h45 | exact h40 | exact bad_ok _ | fail, fun _ => rfl, fun _ => rfl, rfl, (fun h => by first | cases h | fail), ?_⟩; try refine zS ?_)
    | ((with_reducible refine DStep_id ?_); refine zdW ?_; refine ⟨_, by first | exact h45 | exact h40 | exact bad_ok _ | fail, fun _ => rfl, fun _ => rfl, rfl, ?_⟩; try refine zS ?_)
    | ((with_reducible refine AWP_c ?_); refine zcdT ?_)
    | ((with_reducible refine AWP_c ?_); refine zcdF ?_)
    | ((with_reducible refine AWP_c ?_); refine zcdN ?_ ?_ <;> intro hb hb2 <;> first | contradiction | (exfalso; omega) | ((try refine zH hb2 ?_); try clear hb2))
    | ((with_reducible refine AWP_c ?_); refine zcdD ?_ ?_ <;> intro hb hb2 <;> first | contradiction | (exfalso; omega) | ((try refine zH hb2 ?_); try clear hb2))
    | ((with_reducible refine AWP_c ?_); refine zcdM ?_ ?_ <;> intro hb <;> first | contradiction | (try refine zH hb ?_))
    | ((with_reducible refine AWP_c ?_); refine zcdB ?_ ?_ <;> intro hb <;> first | contradiction | (try refine zH hb ?_))
    | ((with_reducible refine awp_ret ?_); refine fin_r ?_)
    | ((with_reducible refine awp_ret ?_); refine fin_q ?_ ?_)
    | with_reducible refine fin_qn ?_ ?_
    | ((with_reducible refine awp_skip ?_); refine zS ?_)
    | with_reducible refine awp_block ?_
    | ((with_reducible refine awp_exit ?_); refine zS ?_)
    | ((with_reducible refine CallK_id ?_); refine zcF ?_; refine ⟨_, by first | exact h45 | exact h40 | exact bad_ok _ | fail, fun _ => rfl, fun _ => rfl, rfl, ?_⟩; try refine zS ?_)
    | exact True.intro
    | fail
    all_goals (simp [go_sem, badG, t0, T.op, T.n, T.kids]; done)
include hl in
theorem cmpG_ok (n : Nat) (ihG : PG l n) : PC l (n + 1) := by
  intro i j hj hi hn
  subst hj
  have h0 := rowG_in n l i 5 hi
  have h01 := h0.1
  have h02 := h0.2.1
  have h04 := h0.2.2.2
  rw [cmpG]
  by_cases hc : 0 ≤ (rowG n l i 5).bd ∨ l.length ≤ (rowG n l i 5).nx
  · rw [if_pos hc]
    refine afn_body Tryd.func49 rfl (by decide) ?_
    simp only [Tryd.ntmps49, Tryd.results49, List.length_cons, List.length_nil, List.cons_append, List.nil_append, Nat.reduceAdd, Nat.reduceSub, List.replicate]
    repeat' first
    | with_reducible refine awp_seq ?_
    | ((with_reducible refine awp_region ?_); refine zS ?_)
    | ((with_reducible refine Gd_nd ?_ ?_) <;> intro hb hb2 <;> first | contradiction | (exfalso; omega) | (refine zH hb2 ?_; try clear hb2))
    | ((with_reducible refine Gd_nb ?_ ?_) <;> intro hb <;> first | contradiction | refine zH hb ?_)
    | ((with_reducible refine Gd_d ?_ ?_) <;> intro hb hb2 <;> first | contradiction | (exfalso; omega) | (refine zH hb2 ?_; try clear hb2))
    | ((with_reducible refine Gd_b ?_ ?_) <;> intro hb <;> first | contradiction | refine zH hb ?_)
    | ((with_reducible refine Res_id ?_); refine zS ?_)
    | ((with_reducible refine awp_drawnC ?_ ?_); rfl; refine zS ?_)
    | ((with_reducible refine awp_drawnA ?_ ?_); rfl; refine zS ?_)
    | ((with_reducible refine CGd_nd ?_ ?_) <;> intro hb hb2 <;> first | contradiction | (exfalso; omega) | (refine zH hb2 ?_; try clear hb2))
    | ((with_reducible refine CGd_nb ?_ ?_) <;> intro hb <;> first | contradiction | refine zH hb ?_)
    | ((with_reducible refine CGd_d ?_ ?_) <;> intro hb hb2 <;> first | contradiction | (exfalso; omega) | (refine zH hb2 ?_; try clear hb2))
    | ((with_reducible refine CGd_b ?_ ?_) <;> intro hb <;> first | contradiction | refine zH hb ?_)
    | ((with_reducible refine CRes_id ?_); refine zS ?_)
    | ((with_reducible refine DStep_id ?_); refine zdP ?_; refine ⟨_, by first | exact ihG i _ 5 rfl hi (by omega) (by omega) (by omega) | exact ihG ((rowG n l i 5).nx + 1) _ 5 (by omega) (by omega) (by omega) (by omega) (by omega) | exact two_ok _ _ _ | fail, fun _ => rfl, fun _ => rfl, rfl, (fun h => by first | cases h | fail), ?_⟩; try refine zS ?_)
    | ((with_reducible refine DStep_id ?_); refine zdW ?_; refine ⟨_, by first | exact ihG i _ 5 rfl hi (by omega) (by omega) (by omega) | exact ihG ((rowG n l i 5).nx + 1) _ 5 (by omega) (by omega) (by omega) (by omega) (by omega) | exact two_ok _ _ _ | fail, fun _ => rfl, fun _ => rfl, rfl, ?_⟩; try refine zS ?_)
    | ((with_reducible refine AWP_c ?_); refine zcdT ?_)
    | ((with_reducible refine AWP_c ?_); refine zcdF ?_)
    | ((with_reducible refine AWP_c ?_); refine zcdN ?_ ?_ <;> intro hb hb2 <;> first | contradiction | (exfalso; omega) | ((try refine zH hb2 ?_); try clear hb2))
    | ((with_reducible refine AWP_c ?_); refine zcdD ?_ ?_ <;> intro hb hb2 <;> first | contradiction | (exfalso; omega) | ((try refine zH hb2 ?_); try clear hb2))
    | ((with_reducible refine AWP_c ?_); refine zcdM ?_ ?_ <;> intro hb <;> first | contradiction | (try refine zH hb ?_))
    | ((with_reducible refine AWP_c ?_); refine zcdB ?_ ?_ <;> intro hb <;> first | contradiction | (try refine zH hb ?_))
    | ((with_reducible refine awp_ret ?_); refine fin_r ?_)
    | ((with_reducible refine awp_ret ?_); refine fin_q ?_ ?_)
    | with_reducible refine fin_qn ?_ ?_
    | ((with_reducible refine awp_skip ?_); refine zS ?_)
    | with_reducible refine awp_block ?_
    | ((with_reducible refine awp_exit ?_); refine zS ?_)
    | ((with_reducible refine CallK_id ?_); refine zcF ?_; refine ⟨_, by first | exact ihG i _ 5 rfl hi (by omega) (by omega) (by omega) | exact ihG ((rowG n l i 5).nx + 1) _ 5 (by omega) (by omega) (by omega) (by omega) (by omega) | exact two_ok _ _ _ | fail, fun _ => rfl, fun _ => rfl, rfl, ?_⟩; try refine zS ?_)
    | exact True.intro
    | fail
    all_goals first | (exfalso; omega) | (simp [go_sem]; done) | trace_state
  rw [if_neg hc]
  have hlt : (rowG n l i 5).nx < l.length := by omega
  have hge : i ≤ (rowG n l i 5).nx := by omega
  have h1 := (rowG_in n l ((rowG n l i 5).nx + 1) 5 hlt).1
  generalize hx : (gt l (rowG n l i 5).nx).text = x
  by_cases hcb : cmpB x = false
  · rw [if_pos hcb]
    have hne : x ≠ [61] ∧ x ≠ [33, 61] ∧ x ≠ [60] ∧ x ≠ [60, 61] ∧ x ≠ [62] ∧ x ≠ [62, 61] := by
      simp only [cmpB, decide_eq_false_iff_not, not_or] at hcb; exact hcb
    obtain ⟨k1, k2, k3, k4, k5, k6⟩ := hne
    refine afn_body Tryd.func49 rfl (by decide) ?_
    simp only [Tryd.ntmps49, Tryd.results49, List.length_cons, List.length_nil, List.cons_append, List.nil_append, Nat.reduceAdd, Nat.reduceSub, List.replicate]
    repeat' first
    | with_reducible refine awp_seq ?_
    | ((with_reducible refine awp_region ?_); simp (maxSteps := 500000) (disch := omega) only [go_sem, Bool.not_not, List.mem_singleton, forall_eq, ↓reduceIte, if_pos, rowsAt_map, wrap64, wrapu8, List.getElem?_cons_zero, List.getElem?_cons_succ, Int.reduceToNat, Nat.reduceAdd, Nat.reduceBEq, Bool.or_false, Bool.false_or, Bool.true_or, Nat.reduceSub, Nat.reduceMul, Int.reduceAdd, Int.reduceEq, Int.reduceLT, Int.reduceLE, Int.reduceNeg, Nat.reduceLT, Nat.reduceLeDiff, hx])
    | ((with_reducible refine Gd_nd ?_ ?_) <;> intro hb hb2 <;> first | contradiction | (exfalso; omega) | (simp (maxSteps := 500000) (disch := omega) only [go_sem, Bool.not_not, List.mem_singleton, forall_eq, ↓reduceIte, if_pos, rowsAt_map, wrap64, wrapu8, List.getElem?_cons_zero, List.getElem?_cons_succ, Int.reduceToNat, Nat.reduceAdd, Nat.reduceBEq, Bool.or_false, Bool.false_or, Bool.true_or, Nat.reduceSub, Nat.reduceMul, Int.reduceAdd, Int.reduceEq, Int.reduceLT, Int.reduceLE, Int.reduceNeg, Nat.reduceLT, Nat.reduceLeDiff, hx, hb2]; try clear hb2))
    | ((with_reducible refine Gd_nb ?_ ?_) <;> intro hb <;> first | contradiction | simp (maxSteps := 500000) (disch := omega) only [go_sem, Bool.not_not, List.mem_singleton, forall_eq, ↓reduceIte, if_pos, rowsAt_map, wrap64, wrapu8, List.getElem?_cons_zero, List.getElem?_cons_succ, Int.reduceToNat, Nat.reduceAdd, Nat.reduceBEq, Bool.or_false, Bool.false_or, Bool.true_or, Nat.reduceSub, Nat.reduceMul, Int.reduceAdd, Int.reduceEq, Int.reduceLT, Int.reduceLE, Int.reduceNeg, Nat.reduceLT, Nat.reduceLeDiff, hx, hb])
    | ((with_reducible refine Gd_d ?_ ?_) <;> intro hb hb2 <;> first | contradiction | (exfalso; omega) | (simp (maxSteps := 500000) (disch := omega) only [go_sem, Bool.not_not, List.mem_singleton, forall_eq, ↓reduceIte, if_pos, rowsAt_map, wrap64, wrapu8, List.getElem?_cons_zero, List.getElem?_cons_succ, Int.reduceToNat, Nat.reduceAdd, Nat.reduceBEq, Bool.or_false, Bool.false_or, Bool.true_or, Nat.reduceSub, Nat.reduceMul, Int.reduceAdd, Int.reduceEq, Int.reduceLT, Int.reduceLE, Int.reduceNeg, Nat.reduceLT, Nat.reduceLeDiff, hx, hb2]; try clear hb2))
    | ((with_reducible refine Gd_b ?_ ?_) <;> intro hb <;> first | contradiction | simp (maxSteps := 500000) (disch := omega) only [go_sem, Bool.not_not, List.mem_singleton, forall_eq, ↓reduceIte, if_pos, rowsAt_map, wrap64, wrapu8, List.getElem?_cons_zero, List.getElem?_cons_succ, Int.reduceToNat, Nat.reduceAdd, Nat.reduceBEq, Bool.or_false, Bool.false_or, Bool.true_or, Nat.reduceSub, Nat.reduceMul, Int.reduceAdd, Int.reduceEq, Int.reduceLT, Int.reduceLE, Int.reduceNeg, Nat.reduceLT, Nat.reduceLeDiff, hx, hb])
    | ((with_reducible refine Res_id ?_); simp (maxSteps := 500000) (disch := omega) only [go_sem, Bool.not_not, List.mem_singleton, forall_eq, ↓reduceIte, if_pos, rowsAt_map, wrap64, wrapu8, List.getElem?_cons_zero, List.getElem?_cons_succ, Int.reduceToNat, Nat.reduceAdd, Nat.reduceBEq, Bool.or_false, Bool.false_or, Bool.true_or, Nat.reduceSub, Nat.reduceMul, Int.reduceAdd, Int.reduceEq, Int.reduceLT, Int.reduceLE, Int.reduceNeg, Nat.reduceLT, Nat.reduceLeDiff, hx])
    | ((with_reducible refine awp_drawnC ?_ ?_); rfl; simp (maxSteps := 500000) (disch := omega) only [go_sem, Bool.not_not, List.mem_singleton, forall_eq, ↓reduceIte, if_pos, rowsAt_map, wrap64, wrapu8, List.getElem?_cons_zero, List.getElem?_cons_succ, Int.reduceToNat, Nat.reduceAdd, Nat.reduceBEq, Bool.or_false, Bool.false_or, Bool.true_or, Nat.reduceSub, Nat.reduceMul, Int.reduceAdd, Int.reduceEq, Int.reduceLT, Int.reduceLE, Int.reduceNeg, Nat.reduceLT, Nat.reduceLeDiff, hx])
    | ((with_reducible refine awp_drawnA ?_ ?_); rfl; simp (maxSteps := 500000) (disch := omega) only [go_sem, Bool.not_not, List.mem_singleton, forall_eq, ↓reduceIte, if_pos, rowsAt_map, wrap64, wrapu8, List.getElem?_cons_zero, List.getElem?_cons_succ, Int.reduceToNat, Nat.reduceAdd, Nat.reduceBEq, Bool.or_false, Bool.false_or, Bool.true_or, Nat.reduceSub, Nat.reduceMul, Int.reduceAdd, Int.reduceEq, Int.reduceLT, Int.reduceLE, Int.reduceNeg, Nat.reduceLT, Nat.reduceLeDiff, hx])
    | ((with_reducible refine CGd_nd ?_ ?_) <;> intro hb hb2 <;> first | contradiction | (exfalso; omega) | (simp (maxSteps := 500000) (disch := omega) only [go_sem, Bool.not_not, List.mem_singleton, forall_eq, ↓reduceIte, if_pos, rowsAt_map, wrap64, wrapu8, List.getElem?_cons_zero, List.getElem?_cons_succ, Int.reduceToNat, Nat.reduceAdd, Nat.reduceBEq, Bool.or_false, Bool.false_or, Bool.true_or, Nat.reduceSub, Nat.reduceMul, Int.reduceAdd, Int.reduceEq, Int.reduceLT, Int.reduceLE, Int.reduceNeg, Nat.reduceLT, Nat.reduceLeDiff, hx, hb2]; try clear hb2))
    | ((with_reducible refine CGd_nb ?_ ?_) <;> intro hb <;> first | contradiction | simp (maxSteps := 500000) (disch := omega) only [go_sem, Bool.not_not, List.mem_singleton, forall_eq, ↓reduceIte, if_pos, rowsAt_map, wrap64, wrapu8, List.getElem?_cons_zero, List.getElem?_cons_succ, Int.reduceToNat, Nat.reduceAdd, Nat.reduceBEq, Bool.or_false, Bool.false_or, Bool.true_or, Nat.reduceSub, Nat.reduceMul, Int.reduceAdd, Int.reduceEq, Int.reduceLT, Int.reduceLE, Int.reduceNeg, Nat.reduceLT, Nat.reduceLeDiff, hx, hb])
    | ((with_reducible refine CGd_d ?_ ?_) <;> intro hb hb2 <;> first | contradiction | (exfalso; omega) | (simp (maxSteps := 500000) (disch := omega) only [go_sem, Bool.not_not, List.mem_singleton, forall_eq, ↓reduceIte, if_pos, rowsAt_map, wrap64, wrapu8, List.getElem?_cons_zero, List.getElem?_cons_succ, Int.reduceToNat, Nat.reduceAdd, Nat.reduceBEq, Bool.or_false, Bool.false_or, Bool.true_or, Nat.reduceSub, Nat.reduceMul, Int.reduceAdd, Int.reduceEq, Int.reduceLT, Int.reduceLE, Int.reduceNeg, Nat.reduceLT, Nat.reduceLeDiff, hx, hb2]; try clear hb2))
    | ((with_reducible refine CGd_b ?_ ?_) <;> intro hb <;> first | contradiction | simp (maxSteps := 500000) (disch := omega) only [go_sem, Bool.not_not, List.mem_singleton, forall_eq, ↓reduceIte, if_pos, rowsAt_map, wrap64, wrapu8, List.getElem?_cons_zero, List.getElem?_cons_succ, Int.reduceToNat, Nat.reduceAdd, Nat.reduceBEq, Bool.or_false, Bool.false_or, Bool.true_or, Nat.reduceSub, Nat.reduceMul, Int.reduceAdd, Int.reduceEq, Int.reduceLT, Int.reduceLE, Int.reduceNeg, Nat.reduceLT, Nat.reduceLeDiff, hx, hb])
    | ((with_reducible refine CRes_id ?_); simp (maxSteps := 500000) (disch := omega) only [go_sem, Bool.not_not, List.mem_singleton, forall_eq, ↓reduceIte, if_pos, rowsAt_map, wrap64, wrapu8, List.getElem?_cons_zero, List.getElem?_cons_succ, Int.reduceToNat, Nat.reduceAdd, Nat.reduceBEq, Bool.or_false, Bool.false_or, Bool.true_or, Nat.reduceSub, Nat.reduceMul, Int.reduceAdd, Int.reduceEq, Int.reduceLT, Int.reduceLE, Int.reduceNeg, Nat.reduceLT, Nat.reduceLeDiff, hx])
    | ((with_reducible refine DStep_id ?_); refine dcallP ⟨_, rfl⟩ rfl (by simp (maxSteps := 500000) (disch := omega) only [go_sem, Bool.not_not, List.mem_singleton, forall_eq, ↓reduceIte, if_pos, rowsAt_map, wrap64, wrapu8, List.getElem?_cons_zero, List.getElem?_cons_succ, Int.reduceToNat, Nat.reduceAdd, Nat.reduceBEq, Bool.or_false, Bool.false_or, Bool.true_or, Nat.reduceSub, Nat.reduceMul, Int.reduceAdd, Int.reduceEq, Int.reduceLT, Int.reduceLE, Int.reduceNeg, Nat.reduceLT, Nat.reduceLeDiff, hx]; first | done | rfl | fail) ?_; refine ⟨_, by first | exact ihG i _ 5 rfl hi (by omega) (by omega) (by omega) | exact ihG ((rowG n l i 5).nx + 1) _ 5 (by omega) (by omega) (by omega) (by omega) (by omega) | exact two_ok _ _ _ | fail, ?_⟩; refine ⟨fun _ => rfl, fun _ => rfl, rfl, (fun h => by first | cases h | fail), ?_⟩; try simp (maxSteps := 500000) (disch := omega) only [go_sem, Bool.not_not, List.mem_singleton, forall_eq, ↓reduceIte, if_pos, rowsAt_map, wrap64, wrapu8, List.getElem?_cons_zero, List.getElem?_cons_succ, Int.reduceToNat, Nat.reduceAdd, Nat.reduceBEq, Bool.or_false, Bool.false_or, Bool.true_or, Nat.reduceSub, Nat.reduceMul, Int.reduceAdd, Int.reduceEq, Int.reduceLT, Int.reduceLE, Int.reduceNeg, Nat.reduceLT, Nat.reduceLeDiff, hx])
    | ((with_reducible refine DStep_id ?_); refine dcallPw ⟨_, rfl⟩ rfl (by simp (maxSteps := 500000) (disch := omega) only [go_sem, Bool.not_not, List.mem_singleton, forall_eq, ↓reduceIte, if_pos, rowsAt_map, wrap64, wrapu8, List.getElem?_cons_zero, List.getElem?_cons_succ, Int.reduceToNat, Nat.reduceAdd, Nat.reduceBEq, Bool.or_false, Bool.false_or, Bool.true_or, Nat.reduceSub, Nat.reduceMul, Int.reduceAdd, Int.reduceEq, Int.reduceLT, Int.reduceLE, Int.reduceNeg, Nat.reduceLT, Nat.reduceLeDiff, hx]; first | done | rfl | fail) ?_; refine ⟨_, by first | exact ihG i _ 5 rfl hi (by omega) (by omega) (by omega) | exact ihG ((rowG n l i 5).nx + 1) _ 5 (by omega) (by omega) (by omega) (by omega) (by omega) | exact two_ok _ _ _ | fail, ?_⟩; refine ⟨fun _ => rfl, fun _ => rfl, rfl, ?_⟩; try simp (maxSteps := 500000) (disch := omega) only [go_sem, Bool.not_not, List.mem_singleton, forall_eq, ↓reduceIte, if_pos, rowsAt_map, wrap64, wrapu8, List.getElem?_cons_zero, List.getElem?_cons_succ, Int.reduceToNat, Nat.reduceAdd, Nat.reduceBEq, Bool.or_false, Bool.false_or, Bool.true_or, Nat.reduceSub, Nat.reduceMul, Int.reduceAdd, Int.reduceEq, Int.reduceLT, Int.reduceLE, Int.reduceNeg, Nat.reduceLT, Nat.reduceLeDiff, hx])
    | ((with_reducible refine AWP_c ?_); refine awp_cond_t (by simp (maxSteps := 500000) (disch := omega) only [go_sem, Bool.not_not, List.mem_singleton, forall_eq, ↓reduceIte, if_pos, rowsAt_map, wrap64, wrapu8, List.getElem?_cons_zero, List.getElem?_cons_succ, Int.reduceToNat, Nat.reduceAdd, Nat.reduceBEq, Bool.or_false, Bool.false_or, Bool.true_or, Nat.reduceSub, Nat.reduceMul, Int.reduceAdd, Int.reduceEq, Int.reduceLT, Int.reduceLE, Int.reduceNeg, Nat.reduceLT, Nat.reduceLeDiff, hx]; first | done | fail) ?_)
    | ((with_reducible refine AWP_c ?_); refine awp_cond_f (by simp (maxSteps := 500000) (disch := omega) only [go_sem, Bool.not_not, List.mem_singleton, forall_eq, ↓reduceIte, if_pos, rowsAt_map, wrap64, wrapu8, List.getElem?_cons_zero, List.getElem?_cons_succ, Int.reduceToNat, Nat.reduceAdd, Nat.reduceBEq, Bool.or_false, Bool.false_or, Bool.true_or, Nat.reduceSub, Nat.reduceMul, Int.reduceAdd, Int.reduceEq, Int.reduceLT, Int.reduceLE, Int.reduceNeg, Nat.reduceLT, Nat.reduceLeDiff, hx]; first | done | fail) ?_)
    | ((with_reducible refine AWP_c ?_); refine cond_nd (by simp (maxSteps := 500000) (disch := omega) only [go_sem, Bool.not_not, List.mem_singleton, forall_eq, ↓reduceIte, if_pos, rowsAt_map, wrap64, wrapu8, List.getElem?_cons_zero, List.getElem?_cons_succ, Int.reduceToNat, Nat.reduceAdd, Nat.reduceBEq, Bool.or_false, Bool.false_or, Bool.true_or, Nat.reduceSub, Nat.reduceMul, Int.reduceAdd, Int.reduceEq, Int.reduceLT, Int.reduceLE, Int.reduceNeg, Nat.reduceLT, Nat.reduceLeDiff, hx]; first | done | rfl) ?_ ?_ <;> intro hb hb2 <;> first | contradiction | (exfalso; omega) | ((try simp (maxSteps := 500000) (disch := omega) only [go_sem, Bool.not_not, List.mem_singleton, forall_eq, ↓reduceIte, if_pos, rowsAt_map, wrap64, wrapu8, List.getElem?_cons_zero, List.getElem?_cons_succ, Int.reduceToNat, Nat.reduceAdd, Nat.reduceBEq, Bool.or_false, Bool.false_or, Bool.true_or, Nat.reduceSub, Nat.reduceMul, Int.reduceAdd, Int.reduceEq, Int.reduceLT, Int.reduceLE, Int.reduceNeg, Nat.reduceLT, Nat.reduceLeDiff, hx, hb2]); try clear hb2))
    | ((with_reducible refine AWP_c ?_); refine cond_d (by simp (maxSteps := 500000) (disch := omega) only [go_sem, Bool.not_not, List.mem_singleton, forall_eq, ↓reduceIte, if_pos, rowsAt_map, wrap64, wrapu8, List.getElem?_cons_zero, List.getElem?_cons_succ, Int.reduceToNat, Nat.reduceAdd, Nat.reduceBEq, Bool.or_false, Bool.false_or, Bool.true_or, Nat.reduceSub, Nat.reduceMul, Int.reduceAdd, Int.reduceEq, Int.reduceLT, Int.reduceLE, Int.reduceNeg, Nat.reduceLT, Nat.reduceLeDiff, hx]; first | done | rfl) ?_ ?_ <;> intro hb hb2 <;> first | contradiction | (exfalso; omega) | ((try simp (maxSteps := 500000) (disch := omega) only [go_sem, Bool.not_not, List.mem_singleton, forall_eq, ↓reduceIte, if_pos, rowsAt_map, wrap64, wrapu8, List.getElem?_cons_zero, List.getElem?_cons_succ, Int.reduceToNat, Nat.reduceAdd, Nat.reduceBEq, Bool.or_false, Bool.false_or, Bool.true_or, Nat.reduceSub, Nat.reduceMul, Int.reduceAdd, Int.reduceEq, Int.reduceLT, Int.reduceLE, Int.reduceNeg, Nat.reduceLT, Nat.reduceLeDiff, hx, hb2]); try clear hb2))
    | ((with_reducible refine AWP_c ?_); refine cond_nb (by simp (maxSteps := 500000) (disch := omega) only [go_sem, Bool.not_not, List.mem_singleton, forall_eq, ↓reduceIte, if_pos, rowsAt_map, wrap64, wrapu8, List.getElem?_cons_zero, List.getElem?_cons_succ, Int.reduceToNat, Nat.reduceAdd, Nat.reduceBEq, Bool.or_false, Bool.false_or, Bool.true_or, Nat.reduceSub, Nat.reduceMul, Int.reduceAdd, Int.reduceEq, Int.reduceLT, Int.reduceLE, Int.reduceNeg, Nat.reduceLT, Nat.reduceLeDiff, hx]; first | done | rfl) ?_ ?_ <;> intro hb <;> first | contradiction | (try simp (maxSteps := 500000) (disch := omega) only [go_sem, Bool.not_not, List.mem_singleton, forall_eq, ↓reduceIte, if_pos, rowsAt_map, wrap64, wrapu8, List.getElem?_cons_zero, List.getElem?_cons_succ, Int.reduceToNat, Nat.reduceAdd, Nat.reduceBEq, Bool.or_false, Bool.false_or, Bool.true_or, Nat.reduceSub, Nat.reduceMul, Int.reduceAdd, Int.reduceEq, Int.reduceLT, Int.reduceLE, Int.reduceNeg, Nat.reduceLT, Nat.reduceLeDiff, hx, hb]))
    | ((with_reducible refine AWP_c ?_); refine awp_cond (by simp (maxSteps := 500000) (disch := omega) only [go_sem, Bool.not_not, List.mem_singleton, forall_eq, ↓reduceIte, if_pos, rowsAt_map, wrap64, wrapu8, List.getElem?_cons_zero, List.getElem?_cons_succ, Int.reduceToNat, Nat.reduceAdd, Nat.reduceBEq, Bool.or_false, Bool.false_or, Bool.true_or, Nat.reduceSub, Nat.reduceMul, Int.reduceAdd, Int.reduceEq, Int.reduceLT, Int.reduceLE, Int.reduceNeg, Nat.reduceLT, Nat.reduceLeDiff, hx]; first | done | rfl) ?_ ?_ <;> intro hb <;> first | contradiction | (try simp (maxSteps := 500000) (disch := omega) only [go_sem, Bool.not_not, List.mem_singleton, forall_eq, ↓reduceIte, if_pos, rowsAt_map, wrap64, wrapu8, List.getElem?_cons_zero, List.getElem?_cons_succ, Int.reduceToNat, Nat.reduceAdd, Nat.reduceBEq, Bool.or_false, Bool.false_or, Bool.true_or, Nat.reduceSub, Nat.reduceMul, Int.reduceAdd, Int.reduceEq, Int.reduceLT, Int.reduceLE, Int.reduceNeg, Nat.reduceLT, Nat.reduceLeDiff, hx, hb]))
    | ((with_reducible refine awp_ret ?_); refine fin_r ?_)
    | ((with_reducible refine awp_ret ?_); refine fin_q ?_ ?_)
    | with_reducible refine fin_qn ?_ ?_
    | ((with_reducible refine awp_skip ?_); simp (maxSteps := 500000) (disch := omega) only [go_sem, Bool.not_not, List.mem_singleton, forall_eq, ↓reduceIte, if_pos, rowsAt_map, wrap64, wrapu8, List.getElem?_cons_zero, List.getElem?_cons_succ, Int.reduceToNat, Nat.reduceAdd, Nat.reduceBEq, Bool.or_false, Bool.false_or, Bool.true_or, Nat.reduceSub, Nat.reduceMul, Int.reduceAdd, Int.reduceEq, Int.reduceLT, Int.reduceLE, Int.reduceNeg, Nat.reduceLT, Nat.reduceLeDiff, hx])
    | with_reducible refine awp_block ?_
    | ((with_reducible refine awp_exit ?_); simp (maxSteps := 500000) (disch := omega) only [go_sem, Bool.not_not, List.mem_singleton, forall_eq, ↓reduceIte, if_pos, rowsAt_map, wrap64, wrapu8, List.getElem?_cons_zero, List.getElem?_cons_succ, Int.reduceToNat, Nat.reduceAdd, Nat.reduceBEq, Bool.or_false, Bool.false_or, Bool.true_or, Nat.reduceSub, Nat.reduceMul, Int.reduceAdd, Int.reduceEq, Int.reduceLT, Int.reduceLE, Int.reduceNeg, Nat.reduceLT, Nat.reduceLeDiff, hx])
    | ((with_reducible refine CallK_id ?_); refine callF ⟨_, rfl⟩ rfl (by simp (maxSteps := 500000) (disch := omega) only [go_sem, Bool.not_not, List.mem_singleton, forall_eq, ↓reduceIte, if_pos, rowsAt_map, wrap64, wrapu8, List.getElem?_cons_zero, List.getElem?_cons_succ, Int.reduceToNat, Nat.reduceAdd, Nat.reduceBEq, Bool.or_false, Bool.false_or, Bool.true_or, Nat.reduceSub, Nat.reduceMul, Int.reduceAdd, Int.reduceEq, Int.reduceLT, Int.reduceLE, Int.reduceNeg, Nat.reduceLT, Nat.reduceLeDiff, hx]; first | done | rfl | fail) ?_; refine ⟨_, by first | exact ihG i _ 5 rfl hi (by omega) (by omega) (by omega) | exact ihG ((rowG n l i 5).nx + 1) _ 5 (by omega) (by omega) (by omega) (by omega) (by omega) | exact two_ok _ _ _ | fail, ?_⟩; refine ⟨fun _ => rfl, fun _ => rfl, rfl, ?_⟩; try simp (maxSteps := 500000) (disch := omega) only [go_sem, Bool.not_not, List.mem_singleton, forall_eq, ↓reduceIte, if_pos, rowsAt_map, wrap64, wrapu8, List.getElem?_cons_zero, List.getElem?_cons_succ, Int.reduceToNat, Nat.reduceAdd, Nat.reduceBEq, Bool.or_false, Bool.false_or, Bool.true_or, Nat.reduceSub, Nat.reduceMul, Int.reduceAdd, Int.reduceEq, Int.reduceLT, Int.reduceLE, Int.reduceNeg, Nat.reduceLT, Nat.reduceLeDiff, hx])
    | fail
    all_goals first | (exfalso; omega) | contradiction | (simp [go_sem]; done) | trace_state
  · rw [if_neg hcb]
    have hor : x = [61] ∨ x = [33, 61] ∨ x = [60] ∨ x = [60, 61] ∨ x = [62] ∨ x = [62, 61] := by
      simp only [cmpB, Bool.not_eq_false, decide_eq_true_eq] at hcb; exact hcb
    clear hcb
    rcases hor with e | e | e | e | e | e
    · have f1 : (x = [61]) = True := by rw [e]; simp
      have f2 : (x = [33, 61]) = False := by rw [e]; simp
      have f3 : (x = [60]) = False := by rw [e]; simp
      have f4 : (x = [60, 61]) = False := by rw [e]; simp
      have f5 : (x = [62]) = False := by rw [e]; simp
      have f6 : (x = [62, 61]) = False := by rw [e]; simp
      refine afn_body Tryd.func49 rfl (by decide) ?_
      simp only [Tryd.ntmps49, Tryd.results49, List.length_cons, List.length_nil, List.cons_append, List.nil_append, Nat.reduceAdd, Nat.reduceSub, List.replicate]
      repeat' first
      | with_reducible refine awp_seq ?_
      | ((with_reducible refine awp_region ?_); simp (maxSteps := 500000) (disch := omega) only [go_sem, Bool.not_not, List.mem_singleton, forall_eq, ↓reduceIte, if_pos, rowsAt_map, wrap64, wrapu8, List.getElem?_cons_zero, List.getElem?_cons_succ, Int.reduceToNat, Nat.reduceAdd, Nat.reduceBEq, Bool.or_false, Bool.false_or, Bool.true_or, Nat.reduceSub, Nat.reduceMul, Int.reduceAdd, Int.reduceEq, Int.reduceLT, Int.reduceLE, Int.reduceNeg, Nat.reduceLT, Nat.reduceLeDiff, hx, f1, f2, f3, f4, f5, f6])
      | ((with_reducible refine Gd_nd ?_ ?_) <;> intro hb hb2 <;> first | contradiction | (exfalso; omega) | (simp (maxSteps := 500000) (disch := omega) only [go_sem, Bool.not_not, List.mem_singleton, forall_eq, ↓reduceIte, if_pos, rowsAt_map, wrap64, wrapu8, List.getElem?_cons_zero, List.getElem?_cons_succ, Int.reduceToNat, Nat.reduceAdd, Nat.reduceBEq, Bool.or_false, Bool.false_or, Bool.true_or, Nat.reduceSub, Nat.reduceMul, Int.reduceAdd, Int.reduceEq, Int.reduceLT, Int.reduceLE, Int.reduceNeg, Nat.reduceLT, Nat.reduceLeDiff, hx, f1, f2, f3, f4, f5, f6, hb2]; try clear hb2))
      | ((with_reducible refine Gd_nb ?_ ?_) <;> intro hb <;> first | contradiction | simp (maxSteps := 500000) (disch := omega) only [go_sem, Bool.not_not, List.mem_singleton, forall_eq, ↓reduceIte, if_pos, rowsAt_map, wrap64, wrapu8, List.getElem?_cons_zero, List.getElem?_cons_succ, Int.reduceToNat, Nat.reduceAdd, Nat.reduceBEq, Bool.or_false, Bool.false_or, Bool.true_or, Nat.reduceSub, Nat.reduceMul, Int.reduceAdd, Int.reduceEq, Int.reduceLT, Int.reduceLE, Int.reduceNeg, Nat.reduceLT, Nat.reduceLeDiff, hx, f1, f2, f3, f4, f5, f6, hb])
      | ((with_reducible refine Gd_d ?_ ?_) <;> intro hb hb2 <;> first | contradiction | (exfalso; omega) | (simp (maxSteps := 500000) (disch := omega) only [go_sem, Bool.not_not, List.mem_singleton, forall_eq, ↓reduceIte, if_pos, rowsAt_map, wrap64, wrapu8, List.getElem?_cons_zero, List.getElem?_cons_succ, Int.reduceToNat, Nat.reduceAdd, Nat.reduceBEq, Bool.or_false, Bool.false_or, Bool.true_or, Nat.reduceSub, Nat.reduceMul, Int.reduceAdd, Int.reduceEq, Int.reduceLT, Int.reduceLE, Int.reduceNeg, Nat.reduceLT, Nat.reduceLeDiff, hx, f1, f2, f3, f4, f5, f6, hb2]; try clear hb2))
      | ((with_reducible refine Gd_b ?_ ?_) <;> intro hb <;> first | contradiction | simp (maxSteps := 500000) (disch := omega) only [go_sem, Bool.not_not, List.mem_singleton, forall_eq, ↓reduceIte, if_pos, rowsAt_map, wrap64, wrapu8, List.getElem?_cons_zero, List.getElem?_cons_succ, Int.reduceToNat, Nat.reduceAdd, Nat.reduceBEq, Bool.or_false, Bool.false_or, Bool.true_or, Nat.reduceSub, Nat.reduceMul, Int.reduceAdd, Int.reduceEq, Int.reduceLT, Int.reduceLE, Int.reduceNeg, Nat.reduceLT, Nat.reduceLeDiff, hx, f1, f2, f3, f4, f5, f6, hb])
      | ((with_reducible refine Res_id ?_); simp (maxSteps := 500000) (disch := omega) only [go_sem, Bool.not_not, List.mem_singleton, forall_eq, ↓reduceIte, if_pos, rowsAt_map, wrap64, wrapu8, List.getElem?_cons_zero, List.getElem?_cons_succ, Int.reduceToNat, Nat.reduceAdd, Nat.reduceBEq, Bool.or_false, Bool.false_or, Bool.true_or, Nat.reduceSub, Nat.reduceMul, Int.reduceAdd, Int.reduceEq, Int.reduceLT, Int.reduceLE, Int.reduceNeg, Nat.reduceLT, Nat.reduceLeDiff, hx, f1, f2, f3, f4, f5, f6])
      | ((with_reducible refine awp_drawnC ?_ ?_); rfl; simp (maxSteps := 500000) (disch := omega) only [go_sem, Bool.not_not, List.mem_singleton, forall_eq, ↓reduceIte, if_pos, rowsAt_map, wrap64, wrapu8, List.getElem?_cons_zero, List.getElem?_cons_succ, Int.reduceToNat, Nat.reduceAdd, Nat.reduceBEq, Bool.or_false, Bool.false_or, Bool.true_or, Nat.reduceSub, Nat.reduceMul, Int.reduceAdd, Int.reduceEq, Int.reduceLT, Int.reduceLE, Int.reduceNeg, Nat.reduceLT, Nat.reduceLeDiff, hx, f1, f2, f3, f4, f5, f6])
      | ((with_reducible refine awp_drawnA ?_ ?_); rfl; simp (maxSteps := 500000) (disch := omega) only [go_sem, Bool.not_not, List.mem_singleton, forall_eq, ↓reduceIte, if_pos, rowsAt_map, wrap64, wrapu8, List.getElem?_cons_zero, List.getElem?_cons_succ, Int.reduceToNat, Nat.reduceAdd, Nat.reduceBEq, Bool.or_false, Bool.false_or, Bool.true_or, Nat.reduceSub, Nat.reduceMul, Int.reduceAdd, Int.reduceEq, Int.reduceLT, Int.reduceLE, Int.reduceNeg, Nat.reduceLT, Nat.reduceLeDiff, hx, f1, f2, f3, f4, f5, f6])
      | ((with_reducible refine CGd_nd ?_ ?_) <;> intro hb hb2 <;> first | contradiction | (exfalso; omega) | (simp (maxSteps := 500000) (disch := omega) only [go_sem, Bool.not_not, List.mem_singleton, forall_eq, ↓reduceIte, if_pos, rowsAt_map, wrap64, wrapu8, List.getElem?_cons_zero, List.getElem?_cons_succ, Int.reduceToNat, Nat.reduceAdd, Nat.reduceBEq, Bool.or_false, Bool.false_or, Bool.true_or, Nat.reduceSub, Nat.reduceMul, Int.reduceAdd, Int.reduceEq, Int.reduceLT, Int.reduceLE, Int.reduceNeg, Nat.reduceLT, Nat.reduceLeDiff, hx, f1, f2, f3, f4, f5, f6, hb2]; try clear hb2))
      | ((with_reducible refine CGd_nb ?_ ?_) <;> intro hb <;> first | contradiction | simp (maxSteps := 500000) (disch := omega) only [go_sem, Bool.not_not, List.mem_singleton, forall_eq, ↓reduceIte, if_pos, rowsAt_map, wrap64, wrapu8, List.getElem?_cons_zero, List.getElem?_cons_succ, Int.reduceToNat, Nat.reduceAdd, Nat.reduceBEq, Bool.or_false, Bool.false_or, Bool.true_or, Nat.reduceSub, Nat.reduceMul, Int.reduceAdd, Int.reduceEq, Int.reduceLT, Int.reduceLE, Int.reduceNeg, Nat.reduceLT, Nat.reduceLeDiff, hx, f1, f2, f3, f4, f5, f6, hb])
      | ((with_reducible refine CGd_d ?_ ?_) <;> intro hb hb2 <;> first | contradiction | (exfalso; omega) | (simp (maxSteps := 500000) (disch := omega) only [go_sem, Bool.not_not, List.mem_singleton, forall_eq, ↓reduceIte, if_pos, rowsAt_map, wrap64, wrapu8, List.getElem?_cons_zero, List.getElem?_cons_succ, Int.reduceToNat, Nat.reduceAdd, Nat.reduceBEq, Bool.or_false, Bool.false_or, Bool.true_or, Nat.reduceSub, Nat.reduceMul, Int.reduceAdd, Int.reduceEq, Int.reduceLT, Int.reduceLE, Int.reduceNeg, Nat.reduceLT, Nat.reduceLeDiff, hx, f1, f2, f3, f4, f5, f6, hb2]; try clear hb2))
      | ((with_reducible refine CGd_b ?_ ?_) <;> intro hb <;> first | contradiction | simp (maxSteps := 500000) (disch := omega) only [go_sem, Bool.not_not, List.mem_singleton, forall_eq, ↓reduceIte, if_pos, rowsAt_map, wrap64, wrapu8, List.getElem?_cons_zero, List.getElem?_cons_succ, Int.reduceToNat, Nat.reduceAdd, Nat.reduceBEq, Bool.or_false, Bool.false_or, Bool.true_or, Nat.reduceSub, Nat.reduceMul, Int.reduceAdd, Int.reduceEq, Int.reduceLT, Int.reduceLE, Int.reduceNeg, Nat.reduceLT, Nat.reduceLeDiff, hx, f1, f2, f3, f4, f5, f6, hb])
      | ((with_reducible refine CRes_id ?_); simp (maxSteps := 500000) (disch := omega) only [go_sem, Bool.not_not, List.mem_singleton, forall_eq, ↓reduceIte, if_pos, rowsAt_map, wrap64, wrapu8, List.getElem?_cons_zero, List.getElem?_cons_succ, Int.reduceToNat, Nat.reduceAdd, Nat.reduceBEq, Bool.or_false, Bool.false_or, Bool.true_or, Nat.reduceSub, Nat.reduceMul, Int.reduceAdd, Int.reduceEq, Int.reduceLT, Int.reduceLE, Int.reduceNeg, Nat.reduceLT, Nat.reduceLeDiff, hx, f1, f2, f3, f4, f5, f6])
      | ((with_reducible refine DStep_id ?_); refine dcallP ⟨_, rfl⟩ rfl (by simp (maxSteps := 500000) (disch := omega) only [go_sem, Bool.not_not, List.mem_singleton, forall_eq, ↓reduceIte, if_pos, rowsAt_map, wrap64, wrapu8, List.getElem?_cons_zero, List.getElem?_cons_succ, Int.reduceToNat, Nat.reduceAdd, Nat.reduceBEq, Bool.or_false, Bool.false_or, Bool.true_or, Nat.reduceSub, Nat.reduceMul, Int.reduceAdd, Int.reduceEq, Int.reduceLT, Int.reduceLE, Int.reduceNeg, Nat.reduceLT, Nat.reduceLeDiff, hx, f1, f2, f3, f4, f5, f6]; first | done | rfl | fail) ?_; refine ⟨_, by first | exact ihG i _ 5 rfl hi (by omega) (by omega) (by omega) | exact ihG ((rowG n l i 5).nx + 1) _ 5 (by omega) (by omega) (by omega) (by omega) (by omega) | exact two_ok _ _ _ | fail, ?_⟩; refine ⟨fun _ => rfl, fun _ => rfl, rfl, (fun h => by first | cases h | fail), ?_⟩; try simp (maxSteps := 500000) (disch := omega) only [go_sem, Bool.not_not, List.mem_singleton, forall_eq, ↓reduceIte, if_pos, rowsAt_map, wrap64, wrapu8, List.getElem?_cons_zero, List.getElem?_cons_succ, Int.reduceToNat, Nat.reduceAdd, Nat.reduceBEq, Bool.or_false, Bool.false_or, Bool.true_or, Nat.reduceSub, Nat.reduceMul, Int.reduceAdd, Int.reduceEq, Int.reduceLT, Int.reduceLE, Int.reduceNeg, Nat.reduceLT, Nat.reduceLeDiff, hx, f1, f2, f3, f4, f5, f6])
      | ((with_reducible refine DStep_id ?_); refine dcallPw ⟨_, rfl⟩ rfl (by simp (maxSteps := 500000) (disch := omega) only [go_sem, Bool.not_not, List.mem_singleton, forall_eq, ↓reduceIte, if_pos, rowsAt_map, wrap64, wrapu8, List.getElem?_cons_zero, List.getElem?_cons_succ, Int.reduceToNat, Nat.reduceAdd, Nat.reduceBEq, Bool.or_false, Bool.false_or, Bool.true_or, Nat.reduceSub, Nat.reduceMul, Int.reduceAdd, Int.reduceEq, Int.reduceLT, Int.reduceLE, Int.reduceNeg, Nat.reduceLT, Nat.reduceLeDiff, hx, f1, f2, f3, f4, f5, f6]; first | done | rfl | fail) ?_; refine ⟨_, by first | exact ihG i _ 5 rfl hi (by omega) (by omega) (by omega) | exact ihG ((rowG n l i 5).nx + 1) _ 5 (by omega) (by omega) (by omega) (by omega) (by omega) | exact two_ok _ _ _ | fail, ?_⟩; refine ⟨fun _ => rfl, fun _ => rfl, rfl, ?_⟩; try simp (maxSteps := 500000) (disch := omega) only [go_sem, Bool.not_not, List.mem_singleton, forall_eq, ↓reduceIte, if_pos, rowsAt_map, wrap64, wrapu8, List.getElem?_cons_zero, List.getElem?_cons_succ, Int.reduceToNat, Nat.reduceAdd, Nat.reduceBEq, Bool.or_false, Bool.false_or, Bool.true_or, Nat.reduceSub, Nat.reduceMul, Int.reduceAdd, Int.reduceEq, Int.reduceLT, Int.reduceLE, Int.reduceNeg, Nat.reduceLT, Nat.reduceLeDiff, hx, f1, f2, f3, f4, f5, f6])
      | ((with_reducible refine AWP_c ?_); refine awp_cond_t (by simp (maxSteps := 500000) (disch := omega) only [go_sem, Bool.not_not, List.mem_singleton, forall_eq, ↓reduceIte, if_pos, rowsAt_map, wrap64, wrapu8, List.getElem?_cons_zero, List.getElem?_cons_succ, Int.reduceToNat, Nat.reduceAdd, Nat.reduceBEq, Bool.or_false, Bool.false_or, Bool.true_or, Nat.reduceSub, Nat.reduceMul, Int.reduceAdd, Int.reduceEq, Int.reduceLT, Int.reduceLE, Int.reduceNeg, Nat.reduceLT, Nat.reduceLeDiff, hx, f1, f2, f3, f4, f5, f6]; first | done | fail) ?_)
      | ((with_reducible refine AWP_c ?_); refine awp_cond_f (by simp (maxSteps := 500000) (disch := omega) only [go_sem, Bool.not_not, List.mem_singleton, forall_eq, ↓reduceIte, if_pos, rowsAt_map, wrap64, wrapu8, List.getElem?_cons_zero, List.getElem?_cons_succ, Int.reduceToNat, Nat.reduceAdd, Nat.reduceBEq, Bool.or_false, Bool.false_or, Bool.true_or, Nat.reduceSub, Nat.reduceMul, Int.reduceAdd, Int.reduceEq, Int.reduceLT, Int.reduceLE, Int.reduceNeg, Nat.reduceLT, Nat.reduceLeDiff, hx, f1, f2, f3, f4, f5, f6]; first | done | fail) ?_)
      | ((with_reducible refine AWP_c ?_); refine cond_nd (by simp (maxSteps := 500000) (disch := omega) only [go_sem, Bool.not_not, List.mem_singleton, forall_eq, ↓reduceIte, if_pos, rowsAt_map, wrap64, wrapu8, List.getElem?_cons_zero, List.getElem?_cons_succ, Int.reduceToNat, Nat.reduceAdd, Nat.reduceBEq, Bool.or_false, Bool.false_or, Bool.true_or, Nat.reduceSub, Nat.reduceMul, Int.reduceAdd, Int.reduceEq, Int.reduceLT, Int.reduceLE, Int.reduceNeg, Nat.reduceLT, Nat.reduceLeDiff, hx, f1, f2, f3, f4, f5, f6]; first | done | rfl) ?_ ?_ <;> intro hb hb2 <;> first | contradiction | (exfalso; omega) | ((try simp (maxSteps := 500000) (disch := omega) only [go_sem, Bool.not_not, List.mem_singleton, forall_eq, ↓reduceIte, if_pos, rowsAt_map, wrap64, wrapu8, List.getElem?_cons_zero, List.getElem?_cons_succ, Int.reduceToNat, Nat.reduceAdd, Nat.reduceBEq, Bool.or_false, Bool.false_or, Bool.true_or, Nat.reduceSub, Nat.reduceMul, Int.reduceAdd, Int.reduceEq, Int.reduceLT, Int.reduceLE, Int.reduceNeg, Nat.reduceLT, Nat.reduceLeDiff, hx, f1, f2, f3, f4, f5, f6, hb2]); try clear hb2))
      | ((with_reducible refine AWP_c ?_); refine cond_d (by simp (maxSteps := 500000) (disch := omega) only [go_sem, Bool.not_not, List.mem_singleton, forall_eq, ↓reduceIte, if_pos, rowsAt_map, wrap64, wrapu8, List.getElem?_cons_zero, List.getElem?_cons_succ, Int.reduceToNat, Nat.reduceAdd, Nat.reduceBEq, Bool.or_false, Bool.false_or, Bool.true_or, Nat.reduceSub, Nat.reduceMul, Int.reduceAdd, Int.reduceEq, Int.reduceLT, Int.reduceLE, Int.reduceNeg, Nat.reduceLT, Nat.reduceLeDiff, hx, f1, f2, f3, f4, f5, f6]; first | done | rfl) ?_ ?_ <;> intro hb hb2 <;> first | contradiction | (exfalso; omega) | ((try simp (maxSteps := 500000) (disch := omega) only [go_sem, Bool.not_not, List.mem_singleton, forall_eq, ↓reduceIte, if_pos, rowsAt_map, wrap64, wrapu8, List.getElem?_cons_zero, List.getElem?_cons_succ, Int.reduceToNat, Nat.reduceAdd, Nat.reduceBEq, Bool.or_false, Bool.false_or, Bool.true_or, Nat.reduceSub, Nat.reduceMul, Int.reduceAdd, Int.reduceEq, Int.reduceLT, Int.reduceLE, Int.reduceNeg, Nat.reduceLT, Nat.reduceLeDiff, hx, f1, f2, f3, f4, f5, f6, hb2]); try clear hb2))
      | ((with_reducible refine AWP_c ?_); refine cond_nb (by simp (maxSteps := 500000) (disch := omega) only [go_sem, Bool.not_not, List.mem_singleton, forall_eq, ↓reduceIte, if_pos, rowsAt_map, wrap64, wrapu8, List.getElem?_cons_zero, List.getElem?_cons_succ, Int.reduceToNat, Nat.reduceAdd, Nat.reduceBEq, Bool.or_false, Bool.false_or, Bool.true_or, Nat.reduceSub, Nat.reduceMul, Int.reduceAdd, Int.reduceEq, Int.reduceLT, Int.reduceLE, Int.reduceNeg, Nat.reduceLT, Nat.reduceLeDiff, hx, f1, f2, f3, f4, f5, f6]; first | done | rfl) ?_ ?_ <;> intro hb <;> first | contradiction | (try simp (maxSteps := 500000) (disch := omega) only [go_sem, Bool.not_not, List.mem_singleton, forall_eq, ↓reduceIte, if_pos, rowsAt_map, wrap64, wrapu8, List.getElem?_cons_zero, List.getElem?_cons_succ, Int.reduceToNat, Nat.reduceAdd, Nat.reduceBEq, Bool.or_false, Bool.false_or, Bool.true_or, Nat.reduceSub, Nat.reduceMul, Int.reduceAdd, Int.reduceEq, Int.reduceLT, Int.reduceLE, Int.reduceNeg, Nat.reduceLT, Nat.reduceLeDiff, hx, f1, f2, f3, f4, f5, f6, hb]))
      | ((with_reducible refine AWP_c ?_); refine awp_cond (by simp (maxSteps := 500000) (disch := omega) only [go_sem, Bool.not_not, List.mem_singleton, forall_eq, ↓reduceIte, if_pos, rowsAt_map, wrap64, wrapu8, List.getElem?_cons_zero, List.getElem?_cons_succ, Int.reduceToNat, Nat.reduceAdd, Nat.reduceBEq, Bool.or_false, Bool.false_or, Bool.true_or, Nat.reduceSub, Nat.reduceMul, Int.reduceAdd, Int.reduceEq, Int.reduceLT, Int.reduceLE, Int.reduceNeg, Nat.reduceLT, Nat.reduceLeDiff, hx, f1, f2, f3, f4, f5, f6]; first | done | rfl) ?_ ?_ <;> intro hb <;> first | contradiction | (try simp (maxSteps := 500000) (disch := omega) only [go_sem, Bool.not_not, List.mem_singleton, forall_eq, ↓reduceIte, if_pos, rowsAt_map, wrap64, wrapu8, List.getElem?_cons_zero, List.getElem?_cons_succ, Int.reduceToNat, Nat.reduceAdd, Nat.reduceBEq, Bool.or_false, Bool.false_or, Bool.true_or, Nat.reduceSub, Nat.reduceMul, Int.reduceAdd, Int.reduceEq, Int.reduceLT, Int.reduceLE, Int.reduceNeg, Nat.reduceLT, Nat.reduceLeDiff, hx, f1, f2, f3, f4, f5, f6, hb]))
      | ((with_reducible refine awp_ret ?_); refine fin_r ?_)
      | ((with_reducible refine awp_ret ?_); refine fin_q ?_ ?_)
      | with_reducible refine fin_qn ?_ ?_
      | ((with_reducible refine awp_skip ?_); simp (maxSteps := 500000) (disch := omega) only [go_sem, Bool.not_not, List.mem_singleton, forall_eq, ↓reduceIte, if_pos, rowsAt_map, wrap64, wrapu8, List.getElem?_cons_zero, List.getElem?_cons_succ, Int.reduceToNat, Nat.reduceAdd, Nat.reduceBEq, Bool.or_false, Bool.false_or, Bool.true_or, Nat.reduceSub, Nat.reduceMul, Int.reduceAdd, Int.reduceEq, Int.reduceLT, Int.reduceLE, Int.reduceNeg, Nat.reduceLT, Nat.reduceLeDiff, hx, f1, f2, f3, f4, f5, f6])
      | with_reducible refine awp_block ?_
      | ((with_reducible refine awp_exit ?_); simp (maxSteps := 500000) (disch := omega) only [go_sem, Bool.not_not, List.mem_singleton, forall_eq, ↓reduceIte, if_pos, rowsAt_map, wrap64, wrapu8, List.getElem?_cons_zero, List.getElem?_cons_succ, Int.reduceToNat, Nat.reduceAdd, Nat.reduceBEq, Bool.or_false, Bool.false_or, Bool.true_or, Nat.reduceSub, Nat.reduceMul, Int.reduceAdd, Int.reduceEq, Int.reduceLT, Int.reduceLE, Int.reduceNeg, Nat.reduceLT, Nat.reduceLeDiff, hx, f1, f2, f3, f4, f5, f6])
      | ((with_reducible refine CallK_id ?_); refine callF ⟨_, rfl⟩ rfl (by simp (maxSteps := 500000) (disch := omega) only [go_sem, Bool.not_not, List.mem_singleton, forall_eq, ↓reduceIte, if_pos, rowsAt_map, wrap64, wrapu8, List.getElem?_cons_zero, List.getElem?_cons_succ, Int.reduceToNat, Nat.reduceAdd, Nat.reduceBEq, Bool.or_false, Bool.false_or, Bool.true_or, Nat.reduceSub, Nat.reduceMul, Int.reduceAdd, Int.reduceEq, Int.reduceLT, Int.reduceLE, Int.reduceNeg, Nat.reduceLT, Nat.reduceLeDiff, hx, f1, f2, f3, f4, f5, f6]; first | done | rfl | fail) ?_; refine ⟨_, by first | exact ihG i _ 5 rfl hi (by omega) (by omega) (by omega) | exact ihG ((rowG n l i 5).nx + 1) _ 5 (by omega) (by omega) (by omega) (by omega) (by omega) | exact two_ok _ _ _ | fail, ?_⟩; refine ⟨fun _ => rfl, fun _ => rfl, rfl, ?_⟩; try simp (maxSteps := 500000) (disch := omega) only [go_sem, Bool.not_not, List.mem_singleton, forall_eq, ↓reduceIte, if_pos, rowsAt_map, wrap64, wrapu8, List.getElem?_cons_zero, List.getElem?_cons_succ, Int.reduceToNat, Nat.reduceAdd, Nat.reduceBEq, Bool.or_false, Bool.false_or, Bool.true_or, Nat.reduceSub, Nat.reduceMul, Int.reduceAdd, Int.reduceEq, Int.reduceLT, Int.reduceLE, Int.reduceNeg, Nat.reduceLT, Nat.reduceLeDiff, hx, f1, f2, f3, f4, f5, f6])
      | fail
      all_goals (repeat' split) <;> first | contradiction | (exfalso; omega) | (simp [go_sem, cmpT, T.op, T.n, T.kids, f1, f2, f3, f4, f5, f6]; done) | trace_state
    · have f1 : (x = [61]) = False := by rw [e]; simp
      have f2 : (x = [33, 61]) = True := by rw [e]; simp
      have f3 : (x = [60]) = False := by rw [e]; simp
      have f4 : (x = [60, 61]) = False := by rw [e]; simp
      have f5 : (x = [62]) = False := by rw [e]; simp
      have f6 : (x = [62, 61]) = False := by rw [e]; simp
      refine afn_body Tryd.func49 rfl (by decide) ?_
      simp only [Tryd.ntmps49, Tryd.results49, List.length_cons, List.length_nil, List.cons_append, List.nil_append, Nat.reduceAdd, Nat.reduceSub, List.replicate]
      repeat' first
      | with_reducible refine awp_seq ?_
      | ((with_reducible refine awp_region ?_); simp (maxSteps := 500000) (disch := omega) only [go_sem, Bool.not_not, List.mem_singleton, forall_eq, ↓reduceIte, if_pos, rowsAt_map, wrap64, wrapu8, List.getElem?_cons_zero, List.getElem?_cons_succ, Int.reduceToNat, Nat.reduceAdd, Nat.reduceBEq, Bool.or_false, Bool.false_or, Bool.true_or, Nat.reduceSub, Nat.reduceMul, Int.reduceAdd, Int.reduceEq, Int.reduceLT, Int.reduceLE, Int.reduceNeg, Nat.reduceLT, Nat.reduceLeDiff, hx, f1, f2, f3, f4, f5, f6])
      | ((with_reducible refine Gd_nd ?_ ?_) <;> intro hb hb2 <;> first | contradiction | (exfalso; omega) | (simp (maxSteps := 500000) (disch := omega) only [go_sem, Bool.not_not, List.mem_singleton, forall_eq, ↓reduceIte, if_pos, rowsAt_map, wrap64, wrapu8, List.getElem?_cons_zero, List.getElem?_cons_succ, Int.reduceToNat, Nat.reduceAdd, Nat.reduceBEq, Bool.or_false, Bool.false_or, Bool.true_or, Nat.reduceSub, Nat.reduceMul, Int.reduceAdd, Int.reduceEq, Int.reduceLT, Int.reduceLE, Int.reduceNeg, Nat.reduceLT, Nat.reduceLeDiff, hx, f1, f2, f3, f4, f5, f6, hb2]; try clear hb2))
      | ((with_reducible refine Gd_nb ?_ ?_) <;> intro hb <;> first | contradiction | simp (maxSteps := 500000) (disch := omega) only [go_sem, Bool.not_not, List.mem_singleton, forall_eq, ↓reduceIte, if_pos, rowsAt_map, wrap64, wrapu8, List.getElem?_cons_zero, List.getElem?_cons_succ, Int.reduceToNat, Nat.reduceAdd, Nat.reduceBEq, Bool.or_false, Bool.false_or, Bool.true_or, Nat.reduceSub, Nat.reduceMul, Int.reduceAdd, Int.reduceEq, Int.reduceLT, Int.reduceLE, Int.reduceNeg, Nat.reduceLT, Nat.reduceLeDiff, hx, f1, f2, f3, f4, f5, f6, hb])
      | ((with_reducible refine Gd_d ?_ ?_) <;> intro hb hb2 <;> first | contradiction | (exfalso; omega) | (simp (maxSteps := 500000) (disch := omega) only [go_sem, Bool.not_not, List.mem_singleton, forall_eq, ↓reduceIte, if_pos, rowsAt_map, wrap64, wrapu8, List.getElem?_cons_zero, List.getElem?_cons_succ, Int.reduceToNat, Nat.reduceAdd, Nat.reduceBEq, Bool.or_false, Bool.false_or, Bool.true_or, Nat.reduceSub, Nat.reduceMul, Int.reduceAdd, Int.reduceEq, Int.reduceLT, Int.reduceLE, Int.reduceNeg, Nat.reduceLT, Nat.reduceLeDiff, hx, f1, f2, f3, f4, f5, f6, hb2]; try clear hb2))
      | ((with_reducible refine Gd_b ?_ ?_) <;> intro hb <;> first | contradiction | simp (maxSteps := 500000) (disch := omega) only [go_sem, Bool.not_not, List.mem_singleton, forall_eq, ↓reduceIte, if_pos, rowsAt_map, wrap64, wrapu8, List.getElem?_cons_zero, List.getElem?_cons_succ, Int.reduceToNat, Nat.reduceAdd, Nat.reduceBEq, Bool.or_false, Bool.false_or, Bool.true_or, Nat.reduceSub, Nat.reduceMul, Int.reduceAdd, Int.reduceEq, Int.reduceLT, Int.reduceLE, Int.reduceNeg, Nat.reduceLT, Nat.reduceLeDiff, hx, f1, f2, f3, f4, f5, f6, hb])
      | ((with_reducible refine Res_id ?_); simp (maxSteps := 500000) (disch := omega) only [go_sem, Bool.not_not, List.mem_singleton, forall_eq, ↓reduceIte, if_pos, rowsAt_map, wrap64, wrapu8, List.getElem?_cons_zero, List.getElem?_cons_succ, Int.reduceToNat, Nat.reduceAdd, Nat.reduceBEq, Bool.or_false, Bool.false_or, Bool.true_or, Nat.reduceSub, Nat.reduceMul, Int.reduceAdd, Int.reduceEq, Int.reduceLT, Int.reduceLE, Int.reduceNeg, Nat.reduceLT, Nat.reduceLeDiff, hx, f1, f2, f3, f4, f5, f6])
      | ((with_reducible refine awp_drawnC ?_ ?_); rfl; simp (maxSteps := 500000) (disch := omega) only [go_sem, Bool.not_not, List.mem_singleton, forall_eq, ↓reduceIte, if_pos, rowsAt_map, wrap64, wrapu8, List.getElem?_cons_zero, List.getElem?_cons_succ, Int.reduceToNat, Nat.reduceAdd, Nat.reduceBEq, Bool.or_false, Bool.false_or, Bool.true_or, Nat.reduceSub, Nat.reduceMul, Int.reduceAdd, Int.reduceEq, Int.reduceLT, Int.reduceLE, Int.reduceNeg, Nat.reduceLT, Nat.reduceLeDiff, hx, f1, f2, f3, f4, f5, f6])
      | ((with_reducible refine awp_drawnA ?_ ?_); rfl; simp (maxSteps := 500000) (disch := omega) only [go_sem, Bool.not_not, List.mem_singleton, forall_eq, ↓reduceIte, if_pos, rowsAt_map, wrap64, wrapu8, List.getElem?_cons_zero, List.getElem?_cons_succ, Int.reduceToNat, Nat.reduceAdd, Nat.reduceBEq, Bool.or_false, Bool.false_or, Bool.true_or, Nat.reduceSub, Nat.reduceMul, Int.reduceAdd, Int.reduceEq, Int.reduceLT, Int.reduceLE, Int.reduceNeg, Nat.reduceLT, Nat.reduceLeDiff, hx, f1, f2, f3, f4, f5, f6])
      | ((with_reducible refine CGd_nd ?_ ?_) <;> intro hb hb2 <;> first | contradiction | (exfalso; omega) | (simp (maxSteps := 500000) (disch := omega) only [go_sem, Bool.not_not, List.mem_singleton, forall_eq, ↓reduceIte, if_pos, rowsAt_map, wrap64, wrapu8, List.getElem?_cons_zero, List.getElem?_cons_succ, Int.reduceToNat, Nat.reduceAdd, Nat.reduceBEq, Bool.or_false, Bool.false_or, Bool.true_or, Nat.reduceSub, Nat.reduceMul, Int.reduceAdd, Int.reduceEq, Int.reduceLT, Int.reduceLE, Int.reduceNeg, Nat.reduceLT, Nat.reduceLeDiff, hx, f1, f2, f3, f4, f5, f6, hb2]; try clear hb2))
      | ((with_reducible refine CGd_nb ?_ ?_) <;> intro hb <;> first | contradiction | simp (maxSteps := 500000) (disch := omega) only [go_sem, Bool.not_not, List.mem_singleton, forall_eq, ↓reduceIte, if_pos, rowsAt_map, wrap64, wrapu8, List.getElem?_cons_zero, List.getElem?_cons_succ, Int.reduceToNat, Nat.reduceAdd, Nat.reduceBEq, Bool.or_false, Bool.false_or, Bool.true_or, Nat.reduceSub, Nat.reduceMul, Int.reduceAdd, Int.reduceEq, Int.reduceLT, Int.reduceLE, Int.reduceNeg, Nat.reduceLT, Nat.reduceLeDiff, hx, f1, f2, f3, f4, f5, f6, hb])
      | ((with_reducible refine CGd_d ?_ ?_) <;> intro hb hb2 <;> first | contradiction | (exfalso; omega) | (simp (maxSteps := 500000) (disch := omega) only [go_sem, Bool.not_not, List.mem_singleton, forall_eq, ↓reduceIte, if_pos, rowsAt_map, wrap64, wrapu8, List.getElem?_cons_zero, List.getElem?_cons_succ, Int.reduceToNat, Nat.reduceAdd, Nat.reduceBEq, Bool.or_false, Bool.false_or, Bool.true_or, Nat.reduceSub, Nat.reduceMul, Int.reduceAdd, Int.reduceEq, Int.reduceLT, Int.reduceLE, Int.reduceNeg, Nat.reduceLT, Nat.reduceLeDiff, hx, f1, f2, f3, f4, f5, f6, hb2]; try clear hb2))
      | ((with_reducible refine CGd_b ?_ ?_) <;> intro hb <;> first | contradiction | simp (maxSteps := 500000) (disch := omega) only [go_sem, Bool.not_not, List.mem_singleton, forall_eq, ↓reduceIte, if_pos, rowsAt_map, wrap64, wrapu8, List.getElem?_cons_zero, List.getElem?_cons_succ, Int.reduceToNat, Nat.reduceAdd, Nat.reduceBEq, Bool.or_false, Bool.false_or, Bool.true_or, Nat.reduceSub, Nat.reduceMul, Int.reduceAdd, Int.reduceEq, Int.reduceLT, Int.reduceLE, Int.reduceNeg, Nat.reduceLT, Nat.reduceLeDiff, hx, f1, f2, f3, f4, f5, f6, hb])
      | ((with_reducible refine CRes_id ?_); simp (maxSteps := 500000) (disch := omega) only [go_sem, Bool.not_not, List.mem_singleton, forall_eq, ↓reduceIte, if_pos, rowsAt_map, wrap64, wrapu8, List.getElem?_cons_zero, List.getElem?_cons_succ, Int.reduceToNat, Nat.reduceAdd, Nat.reduceBEq, Bool.or_false, Bool.false_or, Bool.true_or, Nat.reduceSub, Nat.reduceMul, Int.reduceAdd, Int.reduceEq, Int.reduceLT, Int.reduceLE, Int.reduceNeg, Nat.reduceLT, Nat.reduceLeDiff, hx, f1, f2, f3, f4, f5, f6])
      | ((with_reducible refine DStep_id ?_); refine dcallP ⟨_, rfl⟩ rfl (by simp (maxSteps := 500000) (disch := omega) only [go_sem, Bool.not_not, List.mem_singleton, forall_eq, ↓reduceIte, if_pos, rowsAt_map, wrap64, wrapu8, List.getElem?_cons_zero, List.getElem?_cons_succ, Int.reduceToNat, Nat.reduceAdd, Nat.reduceBEq, Bool.or_false, Bool.false_or, Bool.true_or, Nat.reduceSub, Nat.reduceMul, Int.reduceAdd, Int.reduceEq, Int.reduceLT, Int.reduceLE, Int.reduceNeg, Nat.reduceLT, Nat.reduceLeDiff, hx, f1, f2, f3, f4, f5, f6]; first | done | rfl | fail) ?_; refine ⟨_, by first | exact ihG i _ 5 rfl hi (by omega) (by omega) (by omega) | exact ihG ((rowG n l i 5).nx + 1) _ 5 (by omega) (by omega) (by omega) (by omega) (by omega) | exact two_ok _ _ _ | fail, ?_⟩; refine ⟨fun _ => rfl, fun _ => rfl, rfl, (fun h => by first | cases h | fail), ?_⟩; try simp (maxSteps := 500000) (disch := omega) only [go_sem, Bool.not_not, List.mem_singleton, forall_eq, ↓reduceIte, if_pos, rowsAt_map, wrap64, wrapu8, List.getElem?_cons_zero, List.getElem?_cons_succ, Int.reduceToNat, Nat.reduceAdd, Nat.reduceBEq, Bool.or_false, Bool.false_or, Bool.true_or, Nat.reduceSub, Nat.reduceMul, Int.reduceAdd, Int.reduceEq, Int.reduceLT, Int.reduceLE, Int.reduceNeg, Nat.reduceLT, Nat.reduceLeDiff, hx, f1, f2, f3, f4, f5, f6])
      | ((with_reducible refine DStep_id ?_); refine dcallPw ⟨_, rfl⟩ rfl (by simp (maxSteps := 500000) (disch := omega) only [go_sem, Bool.not_not, List.mem_singleton, forall_eq, ↓reduceIte, if_pos, rowsAt_map, wrap64, wrapu8, List.getElem?_cons_zero, List.getElem?_cons_succ, Int.reduceToNat, Nat.reduceAdd, Nat.reduceBEq, Bool.or_false, Bool.false_or, Bool.true_or, Nat.reduceSub, Nat.reduceMul, Int.reduceAdd, Int.reduceEq, Int.reduceLT, Int.reduceLE, Int.reduceNeg, Nat.reduceLT, Nat.reduceLeDiff, hx, f1, f2, f3, f4, f5, f6]; first | done | rfl | fail) ?_; refine ⟨_, by first | exact ihG i _ 5 rfl hi (by omega) (by omega) (by omega) | exact ihG ((rowG n l i 5).nx + 1) _ 5 (by omega) (by omega) (by omega) (by omega) (by omega) | exact two_ok _ _ _ | fail, ?_⟩; refine ⟨fun _ => rfl, fun _ => rfl, rfl, ?_⟩; try simp (maxSteps := 500000) (disch := omega) only [go_sem, Bool.not_not, List.mem_singleton, forall_eq, ↓reduceIte, if_pos, rowsAt_map, wrap64, wrapu8, List.getElem?_cons_zero, List.getElem?_cons_succ, Int.reduceToNat, Nat.reduceAdd, Nat.reduceBEq, Bool.or_false, Bool.false_or, Bool.true_or, Nat.reduceSub, Nat.reduceMul, Int.reduceAdd, Int.reduceEq, Int.reduceLT, Int.reduceLE, Int.reduceNeg, Nat.reduceLT, Nat.reduceLeDiff, hx, f1, f2, f3, f4, f5, f6])
      | ((with_reducible refine AWP_c ?_); refine awp_cond_t (by simp (maxSteps := 500000) (disch := omega) only [go_sem, Bool.not_not, List.mem_singleton, forall_eq, ↓reduceIte, if_pos, rowsAt_map, wrap64, wrapu8, List.getElem?_cons_zero, List.getElem?_cons_succ, Int.reduceToNat, Nat.reduceAdd, Nat.reduceBEq, Bool.or_false, Bool.false_or, Bool.true_or, Nat.reduceSub, Nat.reduceMul, Int.reduceAdd, Int.reduceEq, Int.reduceLT, Int.reduceLE, Int.reduceNeg, Nat.reduceLT, Nat.reduceLeDiff, hx, f1, f2, f3, f4, f5, f6]; first | done | fail) ?_)
      | ((with_reducible refine AWP_c ?_); refine awp_cond_f (by simp (maxSteps := 500000) (disch := omega) only [go_sem, Bool.not_not, List.mem_singleton, forall_eq, ↓reduceIte, if_pos, rowsAt_map, wrap64, wrapu8, List.getElem?_cons_zero, List.getElem?_cons_succ, Int.reduceToNat, Nat.reduceAdd, Nat.reduceBEq, Bool.or_false, Bool.false_or, Bool.true_or, Nat.reduceSub, Nat.reduceMul, Int.reduceAdd, Int.reduceEq, Int.reduceLT, Int.reduceLE, Int.reduceNeg, Nat.reduceLT, Nat.reduceLeDiff, hx, f1, f2, f3, f4, f5, f6]; first | done | fail) ?_)
      | ((with_reducible refine AWP_c ?_); refine cond_nd (by simp (maxSteps := 500000) (disch := omega) only [go_sem, Bool.not_not, List.mem_singleton, forall_eq, ↓reduceIte, if_pos, rowsAt_map, wrap64, wrapu8, List.getElem?_cons_zero, List.getElem?_cons_succ, Int.reduceToNat, Nat.reduceAdd, Nat.reduceBEq, Bool.or_false, Bool.false_or, Bool.true_or, Nat.reduceSub, Nat.reduceMul, Int.reduceAdd, Int.reduceEq, Int.reduceLT, Int.reduceLE, Int.reduceNeg, Nat.reduceLT, Nat.reduceLeDiff, hx, f1, f2, f3, f4, f5, f6]; first | done | rfl) ?_ ?_ <;> intro hb hb2 <;> first | contradiction | (exfalso; omega) | ((try simp (maxSteps := 500000) (disch := omega) only [go_sem, Bool.not_not, List.mem_singleton, forall_eq, ↓reduceIte, if_pos, rowsAt_map, wrap64, wrapu8, List.getElem?_cons_zero, List.getElem?_cons_succ, Int.reduceToNat, Nat.reduceAdd, Nat.reduceBEq, Bool.or_false, Bool.false_or, Bool.true_or, Nat.reduceSub, Nat.reduceMul, Int.reduceAdd, Int.reduceEq, Int.reduceLT, Int.reduceLE, Int.reduceNeg, Nat.reduceLT, Nat.reduceLeDiff, hx, f1, f2, f3, f4, f5, f6, hb2]); try clear hb2))
      | ((with_reducible refine AWP_c ?_); refine cond_d (by simp (maxSteps := 500000) (disch := omega) only [go_sem, Bool.not_not, List.mem_singleton, forall_eq, ↓reduceIte, if_pos, rowsAt_map, wrap64, wrapu8, List.getElem?_cons_zero, List.getElem?_cons_succ, Int.reduceToNat, Nat.reduceAdd, Nat.reduceBEq, Bool.or_false, Bool.false_or, Bool.true_or, Nat.reduceSub, Nat.reduceMul, Int.reduceAdd, Int.reduceEq, Int.reduceLT, Int.reduceLE, Int.reduceNeg, Nat.reduceLT, Nat.reduceLeDiff, hx, f1, f2, f3, f4, f5, f6]; first | done | rfl) ?_ ?_ <;> intro hb hb2 <;> first | contradiction | (exfalso; omega) | ((try simp (maxSteps := 500000) (disch := omega) only [go_sem, Bool.not_not, List.mem_singleton, forall_eq, ↓reduceIte, if_pos, rowsAt_map, wrap64, wrapu8, List.getElem?_cons_zero, List.getElem?_cons_succ, Int.reduceToNat, Nat.reduceAdd, Nat.reduceBEq, Bool.or_false, Bool.false_or, Bool.true_or, Nat.reduceSub, Nat.reduceMul, Int.reduceAdd, Int.reduceEq, Int.reduceLT, Int.reduceLE, Int.reduceNeg, Nat.reduceLT, Nat.reduceLeDiff, hx, f1, f2, f3, f4, f5, f6, hb2]); try clear hb2))
      | ((with_reducible refine AWP_c ?_); refine cond_nb (by simp (maxSteps := 500000) (disch := omega) only [go_sem, Bool.not_not, List.mem_singleton, forall_eq, ↓reduceIte, if_pos, rowsAt_map, wrap64, wrapu8, List.getElem?_cons_zero, List.getElem?_cons_succ, Int.reduceToNat, Nat.reduceAdd, Nat.reduceBEq, Bool.or_false, Bool.false_or, Bool.true_or, Nat.reduceSub, Nat.reduceMul, Int.reduceAdd, Int.reduceEq, Int.reduceLT, Int.reduceLE, Int.reduceNeg, Nat.reduceLT, Nat.reduceLeDiff, hx, f1, f2, f3, f4, f5, f6]; first | done | rfl) ?_ ?_ <;> intro hb <;> first | contradiction | (try simp (maxSteps := 500000) (disch := omega) only [go_sem, Bool.not_not, List.mem_singleton, forall_eq, ↓reduceIte, if_pos, rowsAt_map, wrap64, wrapu8, List.getElem?_cons_zero, List.getElem?_cons_succ, Int.reduceToNat, Nat.reduceAdd, Nat.reduceBEq, Bool.or_false, Bool.false_or, Bool.true_or, Nat.reduceSub, Nat.reduceMul, Int.reduceAdd, Int.reduceEq, Int.reduceLT, Int.reduceLE, Int.reduceNeg, Nat.reduceLT, Nat.reduceLeDiff, hx, f1, f2, f3, f4, f5, f6, hb]))
      | ((with_reducible refine AWP_c ?_); refine awp_cond (by simp (maxSteps := 500000) (disch := omega) only [go_sem, Bool.not_not, List.mem_singleton, forall_eq, ↓reduceIte, if_pos, rowsAt_map, wrap64, wrapu8, List.getElem?_cons_zero, List.getElem?_cons_succ, Int.reduceToNat, Nat.reduceAdd, Nat.reduceBEq, Bool.or_false, Bool.false_or, Bool.true_or, Nat.reduceSub, Nat.reduceMul, Int.reduceAdd, Int.reduceEq, Int.reduceLT, Int.reduceLE, Int.reduceNeg, Nat.reduceLT, Nat.reduceLeDiff, hx, f1, f2, f3, f4, f5, f6]; first | done | rfl) ?_ ?_ <;> intro hb <;> first | contradiction | (try simp (maxSteps := 500000) (disch := omega) only [go_sem, Bool.not_not, List.mem_singleton, forall_eq, ↓reduceIte, if_pos, rowsAt_map, wrap64, wrapu8, List.getElem?_cons_zero, List.getElem?_cons_succ, Int.reduceToNat, Nat.reduceAdd, Nat.reduceBEq, Bool.or_false, Bool.false_or, Bool.true_or, Nat.reduceSub, Nat.reduceMul, Int.reduceAdd, Int.reduceEq, Int.reduceLT, Int.reduceLE, Int.reduceNeg, Nat.reduceLT, Nat.reduceLeDiff, hx, f1, f2, f3, f4, f5, f6, hb]))
      | ((with_reducible refine awp_ret ?_); refine fin_r ?_)
      | ((with_reducible refine awp_ret ?_); refine fin_q ?_ ?_)
      | with_reducible refine fin_qn ?_ ?_
      | ((with_reducible refine awp_skip ?_); simp (maxSteps := 500000) (disch := omega) only [go_sem, Bool.not_not, List.mem_singleton, forall_eq, ↓reduceIte, if_pos, rowsAt_map, wrap64, wrapu8, List.getElem?_cons_zero, List.getElem?_cons_succ, Int.reduceToNat, Nat.reduceAdd, Nat.reduceBEq, Bool.or_false, Bool.false_or, Bool.true_or, Nat.reduceSub, Nat.reduceMul, Int.reduceAdd, Int.reduceEq, Int.reduceLT, Int.reduceLE, Int.reduceNeg, Nat.reduceLT, Nat.reduceLeDiff, hx, f1, f2, f3, f4, f5, f6])
      | with_reducible refine awp_block ?_
      | ((with_reducible refine awp_exit ?_); simp (maxSteps := 500000) (disch := omega) only [go_sem, Bool.not_not, List.mem_singleton, forall_eq, ↓reduceIte, if_pos, rowsAt_map, wrap64, wrapu8, List.getElem?_cons_zero, List.getElem?_cons_succ, Int.reduceToNat, Nat.reduceAdd, Nat.reduceBEq, Bool.or_false, Bool.false_or, Bool.true_or, Nat.reduceSub, Nat.reduceMul, Int.reduceAdd, Int.reduceEq, Int.reduceLT, Int.reduceLE, Int.reduceNeg, Nat.reduceLT, Nat.reduceLeDiff, hx, f1, f2, f3, f4, f5, f6])
      | ((with_reducible refine CallK_id ?_); refine callF ⟨_, rfl⟩ rfl (by simp (maxSteps := 500000) (disch := omega) only [go_sem, Bool.not_not, List.mem_singleton, forall_eq, ↓reduceIte, if_pos, rowsAt_map, wrap64, wrapu8, List.getElem?_cons_zero, List.getElem?_cons_succ, Int.reduceToNat, Nat.reduceAdd, Nat.reduceBEq, Bool.or_false, Bool.false_or, Bool.true_or, Nat.reduceSub, Nat.reduceMul, Int.reduceAdd, Int.reduceEq, Int.reduceLT, Int.reduceLE, Int.reduceNeg, Nat.reduceLT, Nat.reduceLeDiff, hx, f1, f2, f3, f4, f5, f6]; first | done | rfl | fail) ?_; refine ⟨_, by first | exact ihG i _ 5 rfl hi (by omega) (by omega) (by omega) | exact ihG ((rowG n l i 5).nx + 1) _ 5 (by omega) (by omega) (by omega) (by omega) (by omega) | exact two_ok _ _ _ | fail, ?_⟩; refine ⟨fun _ => rfl, fun _ => rfl, rfl, ?_⟩; try simp (maxSteps := 500000) (disch := omega) only [go_sem, Bool.not_not, List.mem_singleton, forall_eq, ↓reduceIte, if_pos, rowsAt_map, wrap64, wrapu8, List.getElem?_cons_zero, List.getElem?_cons_succ, Int.reduceToNat, Nat.reduceAdd, Nat.reduceBEq, Bool.or_false, Bool.false_or, Bool.true_or, Nat.reduceSub, Nat.reduceMul, Int.reduceAdd, Int.reduceEq, Int.reduceLT, Int.reduceLE, Int.reduceNeg, Nat.reduceLT, Nat.reduceLeDiff, hx, f1, f2, f3, f4, f5, f6])
      | fail
      all_goals (repeat' split) <;> first | contradiction | (exfalso; omega) | (simp [go_sem, cmpT, T.op, T.n, T.kids, f1, f2, f3, f4, f5, f6]; done) | trace_state
    · have f1 : (x = [61]) = False := by rw [e]; simp
      have f2 : (x = [33, 61]) = False := by rw [e]; simp
      have f3 : (x = [60]) = True := by rw [e]; simp
      have f4 : (x = [60, 61]) = False := by rw [e]; simp
      have f5 : (x = [62]) = False := by rw [e]; simp
      have f6 : (x = [62, 61]) = False := by rw [e]; simp
      refine afn_body Tryd.func49 rfl (by decide) ?_
      simp only [Tryd.ntmps49, Tryd.results49, List.length_cons, List.length_nil, List.cons_append, List.nil_append, Nat.reduceAdd, Nat.reduceSub, List.replicate]
      repeat' first
      | with_reducible refine awp_seq ?_
      | ((with_reducible refine awp_region ?_); simp (maxSteps := 500000) (disch := omega) only [go_sem, Bool.not_not, List.mem_singleton, forall_eq, ↓reduceIte, if_pos, rowsAt_map, wrap64, wrapu8, List.getElem?_cons_zero, List.getElem?_cons_succ, Int.reduceToNat, Nat.reduceAdd, Nat.reduceBEq, Bool.or_false, Bool.false_or, Bool.true_or, Nat.reduceSub, Nat.reduceMul, Int.reduceAdd, Int.reduceEq, Int.reduceLT, Int.reduceLE, Int.reduceNeg, Nat.reduceLT, Nat.reduceLeDiff, hx, f1, f2, f3, f4, f5, f6])
      | ((with_reducible refine Gd_nd ?_ ?_) <;> intro hb hb2 <;> first | contradiction | (exfalso; omega) | (simp (maxSteps := 500000) (disch := omega) only [go_sem, Bool.not_not, List.mem_singleton, forall_eq, ↓reduceIte, if_pos, rowsAt_map, wrap64, wrapu8, List.getElem?_cons_zero, List.getElem?_cons_succ, Int.reduceToNat, Nat.reduceAdd, Nat.reduceBEq, Bool.or_false, Bool.false_or, Bool.true_or, Nat.reduceSub, Nat.reduceMul, Int.reduceAdd, Int.reduceEq, Int.reduceLT, Int.reduceLE, Int.reduceNeg, Nat.reduceLT, Nat.reduceLeDiff, hx, f1, f2, f3, f4, f5, f6, hb2]; try clear hb2))
      | ((with_reducible refine Gd_nb ?_ ?_) <;> intro hb <;> first | contradiction | simp (maxSteps := 500000) (disch := omega) only [go_sem, Bool.not_not, List.mem_singleton, forall_eq, ↓reduceIte, if_pos, rowsAt_map, wrap64, wrapu8, List.getElem?_cons_zero, List.getElem?_cons_succ, Int.reduceToNat, Nat.reduceAdd, Nat.reduceBEq, Bool.or_false, Bool.false_or, Bool.true_or, Nat.reduceSub, Nat.reduceMul, Int.reduceAdd, Int.reduceEq, Int.reduceLT, Int.reduceLE, Int.reduceNeg, Nat.reduceLT, Nat.reduceLeDiff, hx, f1, f2, f3, f4, f5, f6, hb])
      | ((with_reducible refine Gd_d ?_ ?_) <;> intro hb hb2 <;> first | contradiction | (exfalso; omega) | (simp (maxSteps := 500000) (disch := omega) only [go_sem, Bool.not_not, List.mem_singleton, forall_eq, ↓reduceIte, if_pos, rowsAt_map, wrap64, wrapu8, List.getElem?_cons_zero, List.getElem?_cons_succ, Int.reduceToNat, Nat.reduceAdd, Nat.reduceBEq, Bool.or_false, Bool.false_or, Bool.true_or, Nat.reduceSub, Nat.reduceMul, Int.reduceAdd, Int.reduceEq, Int.reduceLT, Int.reduceLE, Int.reduceNeg, Nat.reduceLT, Nat.reduceLeDiff, hx, f1, f2, f3, f4, f5, f6, hb2]; try clear hb2))
      | ((with_reducible refine Gd_b ?_ ?_) <;> intro hb <;> first | contradiction | simp (maxSteps := 500000) (disch := omega) only [go_sem, Bool.not_not, List.mem_singleton, forall_eq, ↓reduceIte, if_pos, rowsAt_map, wrap64, wrapu8, List.getElem?_cons_zero, List.getElem?_cons_succ, Int.reduceToNat, Nat.reduceAdd, Nat.reduceBEq, Bool.or_false, Bool.false_or, Bool.true_or, Nat.reduceSub, Nat.reduceMul, Int.reduceAdd, Int.reduceEq, Int.reduceLT, Int.reduceLE, Int.reduceNeg, Nat.reduceLT, Nat.reduceLeDiff, hx, f1, f2, f3, f4, f5, f6, hb])
      | ((with_reducible refine Res_id ?_); simp (maxSteps := 500000) (disch := omega) only [go_sem, Bool.not_not, List.mem_singleton, forall_eq, ↓reduceIte, if_pos, rowsAt_map, wrap64, wrapu8, List.getElem?_cons_zero, List.getElem?_cons_succ, Int.reduceToNat, Nat.reduceAdd, Nat.reduceBEq, Bool.or_false, Bool.false_or, Bool.true_or, Nat.reduceSub, Nat.reduceMul, Int.reduceAdd, Int.reduceEq, Int.reduceLT, Int.reduceLE, Int.reduceNeg, Nat.reduceLT, Nat.reduceLeDiff, hx, f1, f2, f3, f4, f5, f6])
      | ((with_reducible refine awp_drawnC ?_ ?_); rfl; simp (maxSteps := 500000) (disch := omega) only [go_sem, Bool.not_not, List.mem_singleton, forall_eq, ↓reduceIte, if_pos, rowsAt_map, wrap64, wrapu8, List.getElem?_cons_zero, List.getElem?_cons_succ, Int.reduceToNat, Nat.reduceAdd, Nat.reduceBEq, Bool.or_false, Bool.false_or, Bool.true_or, Nat.reduceSub, Nat.reduceMul, Int.reduceAdd, Int.reduceEq, Int.reduceLT, Int.reduceLE, Int.reduceNeg, Nat.reduceLT, Nat.reduceLeDiff, hx, f1, f2, f3, f4, f5, f6])
      | ((with_reducible refine awp_drawnA ?_ ?_); rfl; simp (maxSteps := 500000) (disch := omega) only [go_sem, Bool.not_not, List.mem_singleton, forall_eq, ↓reduceIte, if_pos, rowsAt_map, wrap64, wrapu8, List.getElem?_cons_zero, List.getElem?_cons_succ, Int.reduceToNat, Nat.reduceAdd, Nat.reduceBEq, Bool.or_false, Bool.false_or, Bool.true_or, Nat.reduceSub, Nat.reduceMul, Int.reduceAdd, Int.reduceEq, Int.reduceLT, Int.reduceLE, Int.reduceNeg, Nat.reduceLT, Nat.reduceLeDiff, hx, f1, f2, f3, f4, f5, f6])
      | ((with_reducible refine CGd_nd ?_ ?_) <;> intro hb hb2 <;> first | contradiction | (exfalso; omega) | (simp (maxSteps := 500000) (disch := omega) only [go_sem, Bool.not_not, List.mem_singleton, forall_eq, ↓reduceIte, if_pos, rowsAt_map, wrap64, wrapu8, List.getElem?_cons_zero, List.getElem?_cons_succ, Int.reduceToNat, Nat.reduceAdd, Nat.reduceBEq, Bool.or_false, Bool.false_or, Bool.true_or, Nat.reduceSub, Nat.reduceMul, Int.reduceAdd, Int.reduceEq, Int.reduceLT, Int.reduceLE, Int.reduceNeg, Nat.reduceLT, Nat.reduceLeDiff, hx, f1, f2, f3, f4, f5, f6, hb2]; try clear hb2))
      | ((with_reducible refine CGd_nb ?_ ?_) <;> intro hb <;> first | contradiction | simp (maxSteps := 500000) (disch := omega) only [go_sem, Bool.not_not, List.mem_singleton, forall_eq, ↓reduceIte, if_pos, rowsAt_map, wrap64, wrapu8, List.getElem?_cons_zero, List.getElem?_cons_succ, Int.reduceToNat, Nat.reduceAdd, Nat.reduceBEq, Bool.or_false, Bool.false_or, Bool.true_or, Nat.reduceSub, Nat.reduceMul, Int.reduceAdd, Int.reduceEq, Int.reduceLT, Int.reduceLE, Int.reduceNeg, Nat.reduceLT, Nat.reduceLeDiff, hx, f1, f2, f3, f4, f5, f6, hb])
      | ((with_reducible refine CGd_d ?_ ?_) <;> intro hb hb2 <;> first | contradiction | (exfalso; omega) | (simp (maxSteps := 500000) (disch := omega) only [go_sem, Bool.not_not, List.mem_singleton, forall_eq, ↓reduceIte, if_pos, rowsAt_map, wrap64, wrapu8, List.getElem?_cons_zero, List.getElem?_cons_succ, Int.reduceToNat, Nat.reduceAdd, Nat.reduceBEq, Bool.or_false, Bool.false_or, Bool.true_or, Nat.reduceSub, Nat.reduceMul, Int.reduceAdd, Int.reduceEq, Int.reduceLT, Int.reduceLE, Int.reduceNeg, Nat.reduceLT, Nat.reduceLeDiff, hx, f1, f2, f3, f4, f5, f6, hb2]; try clear hb2))
      | ((with_reducible refine CGd_b ?_ ?_) <;> intro hb <;> first | contradiction | simp (maxSteps := 500000) (disch := omega) only [go_sem, Bool.not_not, List.mem_singleton, forall_eq, ↓reduceIte, if_pos, rowsAt_map, wrap64, wrapu8, List.getElem?_cons_zero, List.getElem?_cons_succ, Int.reduceToNat, Nat.reduceAdd, Nat.reduceBEq, Bool.or_false, Bool.false_or, Bool.true_or, Nat.reduceSub, Nat.reduceMul, Int.reduceAdd, Int.reduceEq, Int.reduceLT, Int.reduceLE, Int.reduceNeg, Nat.reduceLT, Nat.reduceLeDiff, hx, f1, f2, f3, f4, f5, f6, hb])
      | ((with_reducible refine CRes_id ?_); simp (maxSteps := 500000) (disch := omega) only [go_sem, Bool.not_not, List.mem_singleton, forall_eq, ↓reduceIte, if_pos, rowsAt_map, wrap64, wrapu8, List.getElem?_cons_zero, List.getElem?_cons_succ, Int.reduceToNat, Nat.reduceAdd, Nat.reduceBEq, Bool.or_false, Bool.false_or, Bool.true_or, Nat.reduceSub, Nat.reduceMul, Int.reduceAdd, Int.reduceEq, Int.reduceLT, Int.reduceLE, Int.reduceNeg, Nat.reduceLT, Nat.reduceLeDiff, hx, f1, f2, f3, f4, f5, f6])
      | ((with_reducible refine DStep_id ?_); refine dcallP ⟨_, rfl⟩ rfl (by simp (maxSteps := 500000) (disch := omega) only [go_sem, Bool.not_not, List.mem_singleton, forall_eq, ↓reduceIte, if_pos, rowsAt_map, wrap64, wrapu8, List.getElem?_cons_zero, List.getElem?_cons_succ, Int.reduceToNat, Nat.reduceAdd, Nat.reduceBEq, Bool.or_false, Bool.false_or, Bool.true_or, Nat.reduceSub, Nat.reduceMul, Int.reduceAdd, Int.reduceEq, Int.reduceLT, Int.reduceLE, Int.reduceNeg, Nat.reduceLT, Nat.reduceLeDiff, hx, f1, f2, f3, f4, f5, f6]; first | done | rfl | fail) ?_; refine ⟨_, by first | exact ihG i _ 5 rfl hi (by omega) (by omega) (by omega) | exact ihG ((rowG n l i 5).nx + 1) _ 5 (by omega) (by omega) (by omega) (by omega) (by omega) | exact two_ok _ _ _ | fail, ?_⟩; refine ⟨fun _ => rfl, fun _ => rfl, rfl, (fun h => by first | cases h | fail), ?_⟩; try simp (maxSteps := 500000) (disch := omega) only [go_sem, Bool.not_not, List.mem_singleton, forall_eq, ↓reduceIte, if_pos, rowsAt_map, wrap64, wrapu8, List.getElem?_cons_zero, List.getElem?_cons_succ, Int.reduceToNat, Nat.reduceAdd, Nat.reduceBEq, Bool.or_false, Bool.false_or, Bool.true_or, Nat.reduceSub, Nat.reduceMul, Int.reduceAdd, Int.reduceEq, Int.reduceLT, Int.reduceLE, Int.reduceNeg, Nat.reduceLT, Nat.reduceLeDiff, hx, f1, f2, f3, f4, f5, f6])
      | ((with_reducible refine DStep_id ?_); refine dcallPw ⟨_, rfl⟩ rfl (by simp (maxSteps := 500000) (disch := omega) only [go_sem, Bool.not_not, List.mem_singleton, forall_eq, ↓reduceIte, if_pos, rowsAt_map, wrap64, wrapu8, List.getElem?_cons_zero, List.getElem?_cons_succ, Int.reduceToNat, Nat.reduceAdd, Nat.reduceBEq, Bool.or_false, Bool.false_or, Bool.true_or, Nat.reduceSub, Nat.reduceMul, Int.reduceAdd, Int.reduceEq, Int.reduceLT, Int.reduceLE, Int.reduceNeg, Nat.reduceLT, Nat.reduceLeDiff, hx, f1, f2, f3, f4, f5, f6]; first | done | rfl | fail) ?_; refine ⟨_, by first | exact ihG i _ 5 rfl hi (by omega) (by omega) (by omega) | exact ihG ((rowG n l i 5).nx + 1) _ 5 (by omega) (by omega) (by omega) (by omega) (by omega) | exact two_ok _ _ _ | fail, ?_⟩; refine ⟨fun _ => rfl, fun _ => rfl, rfl, ?_⟩; try simp (maxSteps := 500000) (disch := omega) only [go_sem, Bool.not_not, List.mem_singleton, forall_eq, ↓reduceIte, if_pos, rowsAt_map, wrap64, wrapu8, List.getElem?_cons_zero, List.getElem?_cons_succ, Int.reduceToNat, Nat.reduceAdd, Nat.reduceBEq, Bool.or_false, Bool.false_or, Bool.true_or, Nat.reduceSub, Nat.reduceMul, Int.reduceAdd, Int.reduceEq, Int.reduceLT, Int.reduceLE, Int.reduceNeg, Nat.reduceLT, Nat.reduceLeDiff, hx, f1, f2, f3, f4, f5, f6])
      | ((with_reducible refine AWP_c ?_); refine awp_cond_t (by simp (maxSteps := 500000) (disch := omega) only [go_sem, Bool.not_not, List.mem_singleton, forall_eq, ↓reduceIte, if_pos, rowsAt_map, wrap64, wrapu8, List.getElem?_cons_zero, List.getElem?_cons_succ, Int.reduceToNat, Nat.reduceAdd, Nat.reduceBEq, Bool.or_false, Bool.false_or, Bool.true_or, Nat.reduceSub, Nat.reduceMul, Int.reduceAdd, Int.reduceEq, Int.reduceLT, Int.reduceLE, Int.reduceNeg, Nat.reduceLT, Nat.reduceLeDiff, hx, f1, f2, f3, f4, f5, f6]; first | done | fail) ?_)
      | ((with_reducible refine AWP_c ?_); refine awp_cond_f (by simp (maxSteps := 500000) (disch := omega) only [go_sem, Bool.not_not, List.mem_singleton, forall_eq, ↓reduceIte, if_pos, rowsAt_map, wrap64, wrapu8, List.getElem?_cons_zero, List.getElem?_cons_succ, Int.reduceToNat, Nat.reduceAdd, Nat.reduceBEq, Bool.or_false, Bool.false_or, Bool.true_or, Nat.reduceSub, Nat.reduceMul, Int.reduceAdd, Int.reduceEq, Int.reduceLT, Int.reduceLE, Int.reduceNeg, Nat.reduceLT, Nat.reduceLeDiff, hx, f1, f2, f3, f4, f5, f6]; first | done | fail) ?_)
      | ((with_reducible refine AWP_c ?_); refine cond_nd (by simp (maxSteps := 500000) (disch := omega) only [go_sem, Bool.not_not, List.mem_singleton, forall_eq, ↓reduceIte, if_pos, rowsAt_map, wrap64, wrapu8, List.getElem?_cons_zero, List.getElem?_cons_succ, Int.reduceToNat, Nat.reduceAdd, Nat.reduceBEq, Bool.or_false, Bool.false_or, Bool.true_or, Nat.reduceSub, Nat.reduceMul, Int.reduceAdd, Int.reduceEq, Int.reduceLT, Int.reduceLE, Int.reduceNeg, Nat.reduceLT, Nat.reduceLeDiff, hx, f1, f2, f3, f4, f5, f6]; first | done | rfl) ?_ ?_ <;> intro hb hb2 <;> first | contradiction | (exfalso; omega) | ((try simp (maxSteps := 500000) (disch := omega) only [go_sem, Bool.not_not, List.mem_singleton, forall_eq, ↓reduceIte, if_pos, rowsAt_map, wrap64, wrapu8, List.getElem?_cons_zero, List.getElem?_cons_succ, Int.reduceToNat, Nat.reduceAdd, Nat.reduceBEq, Bool.or_false, Bool.false_or, Bool.true_or, Nat.reduceSub, Nat.reduceMul, Int.reduceAdd, Int.reduceEq, Int.reduceLT, Int.reduceLE, Int.reduceNeg, Nat.reduceLT, Nat.reduceLeDiff, hx, f1, f2, f3, f4, f5, f6, hb2]); try clear hb2))
      | ((with_reducible refine AWP_c ?_); refine cond_d (by simp (maxSteps := 500000) (disch := omega) only [go_sem, Bool.not_not, List.mem_singleton, forall_eq, ↓reduceIte, if_pos, rowsAt_map, wrap64, wrapu8, List.getElem?_cons_zero, List.getElem?_cons_succ, Int.reduceToNat, Nat.reduceAdd, Nat.reduceBEq, Bool.or_false, Bool.false_or, Bool.true_or, Nat.reduceSub, Nat.reduceMul, Int.reduceAdd, Int.reduceEq, Int.reduceLT, Int.reduceLE, Int.reduceNeg, Nat.reduceLT, Nat.reduceLeDiff, hx, f1, f2, f3, f4, f5, f6]; first | done | rfl) ?_ ?_ <;> intro hb hb2 <;> first | contradiction | (exfalso; omega) | ((try simp (maxSteps := 500000) (disch := omega) only [go_sem, Bool.not_not, List.mem_singleton, forall_eq, ↓reduceIte, if_pos, rowsAt_map, wrap64, wrapu8, List.getElem?_cons_zero, List.getElem?_cons_succ, Int.reduceToNat, Nat.reduceAdd, Nat.reduceBEq, Bool.or_false, Bool.false_or, Bool.true_or, Nat.reduceSub, Nat.reduceMul, Int.reduceAdd, Int.reduceEq, Int.reduceLT, Int.reduceLE, Int.reduceNeg, Nat.reduceLT, Nat.reduceLeDiff, hx, f1, f2, f3, f4, f5, f6, hb2]); try clear hb2))
      | ((with_reducible refine AWP_c ?_); refine cond_nb (by simp (maxSteps := 500000) (disch := omega) only [go_sem, Bool.not_not, List.mem_singleton, forall_eq, ↓reduceIte, if_pos, rowsAt_map, wrap64, wrapu8, List.getElem?_cons_zero, List.getElem?_cons_succ, Int.reduceToNat, Nat.reduceAdd, Nat.reduceBEq, Bool.or_false, Bool.false_or, Bool.true_or, Nat.reduceSub, Nat.reduceMul, Int.reduceAdd, Int.reduceEq, Int.reduceLT, Int.reduceLE, Int.reduceNeg, Nat.reduceLT, Nat.reduceLeDiff, hx, f1, f2, f3, f4, f5, f6]; first | done | rfl) ?_ ?_ <;> intro hb <;> first | contradiction | (try simp (maxSteps := 500000) (disch := omega) only [go_sem, Bool.not_not, List.mem_singleton, forall_eq, ↓reduceIte, if_pos, rowsAt_map, wrap64, wrapu8, List.getElem?_cons_zero, List.getElem?_cons_succ, Int.reduceToNat, Nat.reduceAdd, Nat.reduceBEq, Bool.or_false, Bool.false_or, Bool.true_or, Nat.reduceSub, Nat.reduceMul, Int.reduceAdd, Int.reduceEq, Int.reduceLT, Int.reduceLE, Int.reduceNeg, Nat.reduceLT, Nat.reduceLeDiff, hx, f1, f2, f3, f4, f5, f6, hb]))
      | ((with_reducible refine AWP_c ?_); refine awp_cond (by simp (maxSteps := 500000) (disch := omega) only [go_sem, Bool.not_not, List.mem_singleton, forall_eq, ↓reduceIte, if_pos, rowsAt_map, wrap64, wrapu8, List.getElem?_cons_zero, List.getElem?_cons_succ, Int.reduceToNat, Nat.reduceAdd, Nat.reduceBEq, Bool.or_false, Bool.false_or, Bool.true_or, Nat.reduceSub, Nat.reduceMul, Int.reduceAdd, Int.reduceEq, Int.reduceLT, Int.reduceLE, Int.reduceNeg, Nat.reduceLT, Nat.reduceLeDiff, hx, f1, f2, f3, f4, f5, f6]; first | done | rfl) ?_ ?_ <;> intro hb <;> first | contradiction | (try simp (maxSteps := 500000) (disch := omega) only [go_sem, Bool.not_not, List.mem_singleton, forall_eq, ↓reduceIte, if_pos, rowsAt_map, wrap64, wrapu8, List.getElem?_cons_zero, List.getElem?_cons_succ, Int.reduceToNat, Nat.reduceAdd, Nat.reduceBEq, Bool.or_false, Bool.false_or, Bool.true_or, Nat.reduceSub, Nat.reduceMul, Int.reduceAdd, Int.reduceEq, Int.reduceLT, Int.reduceLE, Int.reduceNeg, Nat.reduceLT, Nat.reduceLeDiff, hx, f1, f2, f3, f4, f5, f6, hb]))
      | ((with_reducible refine awp_ret ?_); refine fin_r ?_)
      | ((with_reducible refine awp_ret ?_); refine fin_q ?_ ?_)
      | with_reducible refine fin_qn ?_ ?_
      | ((with_reducible refine awp_skip ?_); simp (maxSteps := 500000) (disch := omega) only [go_sem, Bool.not_not, List.mem_singleton, forall_eq, ↓reduceIte, if_pos, rowsAt_map, wrap64, wrapu8, List.getElem?_cons_zero, List.getElem?_cons_succ, Int.reduceToNat, Nat.reduceAdd, Nat.reduceBEq, Bool.or_false, Bool.false_or, Bool.true_or, Nat.reduceSub, Nat.reduceMul, Int.reduceAdd, Int.reduceEq, Int.reduceLT, Int.reduceLE, Int.reduceNeg, Nat.reduceLT, Nat.reduceLeDiff, hx, f1, f2, f3, f4, f5, f6])
      | with_reducible refine awp_block ?_
      | ((with_reducible refine awp_exit ?_); simp (maxSteps := 500000) (disch := omega) only [go_sem, Bool.not_not, List.mem_singleton, forall_eq, ↓reduceIte, if_pos, rowsAt_map, wrap64, wrapu8, List.getElem?_cons_zero, List.getElem?_cons_succ, Int.reduceToNat, Nat.reduceAdd, Nat.reduceBEq, Bool.or_false, Bool.false_or, Bool.true_or, Nat.reduceSub, Nat.reduceMul, Int.reduceAdd, Int.reduceEq, Int.reduceLT, Int.reduceLE, Int.reduceNeg, Nat.reduceLT, Nat.reduceLeDiff, hx, f1, f2, f3, f4, f5, f6])
      | ((with_reducible refine CallK_id ?_); refine callF ⟨_, rfl⟩ rfl (by simp (maxSteps := 500000) (disch := omega) only [go_sem, Bool.not_not, List.mem_singleton, forall_eq, ↓reduceIte, if_pos, rowsAt_map, wrap64, wrapu8, List.getElem?_cons_zero, List.getElem?_cons_succ, Int.reduceToNat, Nat.reduceAdd, Nat.reduceBEq, Bool.or_false, Bool.false_or, Bool.true_or, Nat.reduceSub, Nat.reduceMul, Int.reduceAdd, Int.reduceEq, Int.reduceLT, Int.reduceLE, Int.reduceNeg, Nat.reduceLT, Nat.reduceLeDiff, hx, f1, f2, f3, f4, f5, f6]; first | done | rfl | fail) ?_; refine ⟨_, by first | exact ihG i _ 5 rfl hi (by omega) (by omega) (by omega) | exact ihG ((rowG n l i 5).nx + 1) _ 5 (by omega) (by omega) (by omega) (by omega) (by omega) | exact two_ok _ _ _ | fail, ?_⟩; refine ⟨fun _ => rfl, fun _ => rfl, rfl, ?_⟩; try simp (maxSteps := 500000) (disch := omega) only [go_sem, Bool.not_not, List.mem_singleton, forall_eq, ↓reduceIte, if_pos, rowsAt_map, wrap64, wrapu8, List.getElem?_cons_zero, List.getElem?_cons_succ, Int.reduceToNat, Nat.reduceAdd, Nat.reduceBEq, Bool.or_false, Bool.false_or, Bool.true_or, Nat.reduceSub, Nat.reduceMul, Int.reduceAdd, Int.reduceEq, Int.reduceLT, Int.reduceLE, Int.reduceNeg, Nat.reduceLT, Nat.reduceLeDiff, hx, f1, f2, f3, f4, f5, f6])
      | fail
      all_goals (repeat' split) <;> first | contradiction | (exfalso; omega) | (simp [go_sem, cmpT, T.op, T.n, T.kids, f1, f2, f3, f4, f5, f6]; done) | trace_state
    · have f1 : (x = [61]) = False := by rw [e]; simp
      have f2 : (x = [33, 61]) = False := by rw [e]; simp
      have f3 : (x = [60]) = False := by rw [e]; simp
      have f4 : (x = [60, 61]) = True := by rw [e]; simp
      have f5 : (x = [62]) = False := by rw [e]; simp
      have f6 : (x = [62, 61]) = False := by rw [e]; simp
      refine afn_body Tryd.func49 rfl (by decide) ?_
      simp only [Tryd.ntmps49, Tryd.results49, List.length_cons, List.length_nil, List.cons_append, List.nil_append, Nat.reduceAdd, Nat.reduceSub, List.replicate]
      repeat' first
      | with_reducible refine awp_seq ?_
      | ((with_reducible refine awp_region ?_); simp (maxSteps := 500000) (disch := omega) only [go_sem, Bool.not_not, List.mem_singleton, forall_eq, ↓reduceIte, if_pos, rowsAt_map, wrap64, wrapu8, List.getElem?_cons_zero, List.getElem?_cons_succ, Int.reduceToNat, Nat.reduceAdd, Nat.reduceBEq, Bool.or_false, Bool.false_or, Bool.true_or, Nat.reduceSub, Nat.reduceMul, Int.reduceAdd, Int.reduceEq, Int.reduceLT, Int.reduceLE, Int.reduceNeg, Nat.reduceLT, Nat.reduceLeDiff, hx, f1, f2, f3, f4, f5, f6])
      | ((with_reducible refine Gd_nd ?_ ?_) <;> intro hb hb2 <;> first | contradiction | (exfalso; omega) | (simp (maxSteps := 500000) (disch := omega) only [go_sem, Bool.not_not, List.mem_singleton, forall_eq, ↓reduceIte, if_pos, rowsAt_map, wrap64, wrapu8, List.getElem?_cons_zero, List.getElem?_cons_succ, Int.reduceToNat, Nat.reduceAdd, Nat.reduceBEq, Bool.or_false, Bool.false_or, Bool.true_or, Nat.reduceSub, Nat.reduceMul, Int.reduceAdd, Int.reduceEq, Int.reduceLT, Int.reduceLE, Int.reduceNeg, Nat.reduceLT, Nat.reduceLeDiff, hx, f1, f2, f3, f4, f5, f6, hb2]; try clear hb2))
      | ((with_reducible refine Gd_nb ?_ ?_) <;> intro hb <;> first | contradiction | simp (maxSteps := 500000) (disch := omega) only [go_sem, Bool.not_not, List.mem_singleton, forall_eq, ↓reduceIte, if_pos, rowsAt_map, wrap64, wrapu8, List.getElem?_cons_zero, List.getElem?_cons_succ, Int.reduceToNat, Nat.reduceAdd, Nat.reduceBEq, Bool.or_false, Bool.false_or, Bool.true_or, Nat.reduceSub, Nat.reduceMul, Int.reduceAdd, Int.reduceEq, Int.reduceLT, Int.reduceLE, Int.reduceNeg, Nat.reduceLT, Nat.reduceLeDiff, hx, f1, f2, f3, f4, f5, f6, hb])
      | ((with_reducible refine Gd_d ?_ ?_) <;> intro hb hb2 <;> first | contradiction | (exfalso; omega) | (simp (maxSteps := 500000) (disch := omega) only [go_sem, Bool.not_not, List.mem_singleton, forall_eq, ↓reduceIte, if_pos, rowsAt_map, wrap64, wrapu8, List.getElem?_cons_zero, List.getElem?_cons_succ, Int.reduceToNat, Nat.reduceAdd, Nat.reduceBEq, Bool.or_false, Bool.false_or, Bool.true_or, Nat.reduceSub, Nat.reduceMul, Int.reduceAdd, Int.reduceEq, Int.reduceLT, Int.reduceLE, Int.reduceNeg, Nat.reduceLT, Nat.reduceLeDiff, hx, f1, f2, f3, f4, f5, f6, hb2]; try clear hb2))
      | ((with_reducible refine Gd_b ?_ ?_) <;> intro hb <;> first | contradiction | simp (maxSteps := 500000) (disch := omega) only [go_sem, Bool.not_not, List.mem_singleton, forall_eq, ↓reduceIte, if_pos, rowsAt_map, wrap64, wrapu8, List.getElem?_cons_zero, List.getElem?_cons_succ, Int.reduceToNat, Nat.reduceAdd, Nat.reduceBEq, Bool.or_false, Bool.false_or, Bool.true_or, Nat.reduceSub, Nat.reduceMul, Int.reduceAdd, Int.reduceEq, Int.reduceLT, Int.reduceLE, Int.reduceNeg, Nat.reduceLT, Nat.reduceLeDiff, hx, f1, f2, f3, f4, f5, f6, hb])
      | ((with_reducible refine Res_id ?_); simp (maxSteps := 500000) (disch := omega) only [go_sem, Bool.not_not, List.mem_singleton, forall_eq, ↓reduceIte, if_pos, rowsAt_map, wrap64, wrapu8, List.getElem?_cons_zero, List.getElem?_cons_succ, Int.reduceToNat, Nat.reduceAdd, Nat.reduceBEq, Bool.or_false, Bool.false_or, Bool.true_or, Nat.reduceSub, Nat.reduceMul, Int.reduceAdd, Int.reduceEq, Int.reduceLT, Int.reduceLE, Int.reduceNeg, Nat.reduceLT, Nat.reduceLeDiff, hx, f1, f2, f3, f4, f5, f6])
      | ((with_reducible refine awp_drawnC ?_ ?_); rfl; simp (maxSteps := 500000) (disch := omega) only [go_sem, Bool.not_not, List.mem_singleton, forall_eq, ↓reduceIte, if_pos, rowsAt_map, wrap64, wrapu8, List.getElem?_cons_zero, List.getElem?_cons_succ, Int.reduceToNat, Nat.reduceAdd, Nat.reduceBEq, Bool.or_false, Bool.false_or, Bool.true_or, Nat.reduceSub, Nat.reduceMul, Int.reduceAdd, Int.reduceEq, Int.reduceLT, Int.reduceLE, Int.reduceNeg, Nat.reduceLT, Nat.reduceLeDiff, hx, f1, f2, f3, f4, f5, f6])
      | ((with_reducible refine awp_drawnA ?_ ?_); rfl; simp (maxSteps := 500000) (disch := omega) only [go_sem, Bool.not_not, List.mem_singleton, forall_eq, ↓reduceIte, if_pos, rowsAt_map, wrap64, wrapu8, List.getElem?_cons_zero, List.getElem?_cons_succ, Int.reduceToNat, Nat.reduceAdd, Nat.reduceBEq, Bool.or_false, Bool.false_or, Bool.true_or, Nat.reduceSub, Nat.reduceMul, Int.reduceAdd, Int.reduceEq, Int.reduceLT, Int.reduceLE, Int.reduceNeg, Nat.reduceLT, Nat.reduceLeDiff, hx, f1, f2, f3, f4, f5, f6])
      | ((with_reducible refine CGd_nd ?_ ?_) <;> intro hb hb2 <;> first | contradiction | (exfalso; omega) | (simp (maxSteps := 500000) (disch := omega) only [go_sem, Bool.not_not, List.mem_singleton, forall_eq, ↓reduceIte, if_pos, rowsAt_map, wrap64, wrapu8, List.getElem?_cons_zero, List.getElem?_cons_succ, Int.reduceToNat, Nat.reduceAdd, Nat.reduceBEq, Bool.or_false, Bool.false_or, Bool.true_or, Nat.reduceSub, Nat.reduceMul, Int.reduceAdd, Int.reduceEq, Int.reduceLT, Int.reduceLE, Int.reduceNeg, Nat.reduceLT, Nat.reduceLeDiff, hx, f1, f2, f3, f4, f5, f6, hb2]; try clear hb2))
      | ((with_reducible refine CGd_nb ?_ ?_) <;> intro hb <;> first | contradiction | simp (maxSteps := 500000) (disch := omega) only [go_sem, Bool.not_not, List.mem_singleton, forall_eq, ↓reduceIte, if_pos, rowsAt_map, wrap64, wrapu8, List.getElem?_cons_zero, List.getElem?_cons_succ, Int.reduceToNat, Nat.reduceAdd, Nat.reduceBEq, Bool.or_false, Bool.false_or, Bool.true_or, Nat.reduceSub, Nat.reduceMul, Int.reduceAdd, Int.reduceEq, Int.reduceLT, Int.reduceLE, Int.reduceNeg, Nat.reduceLT, Nat.reduceLeDiff, hx, f1, f2, f3, f4, f5, f6, hb])
      | ((with_reducible refine CGd_d ?_ ?_) <;> intro hb hb2 <;> first | contradiction | (exfalso; omega) | (simp (maxSteps := 500000) (disch := omega) only [go_sem, Bool.not_not, List.mem_singleton, forall_eq, ↓reduceIte, if_pos, rowsAt_map, wrap64, wrapu8, List.getElem?_cons_zero, List.getElem?_cons_succ, Int.reduceToNat, Nat.reduceAdd, Nat.reduceBEq, Bool.or_false, Bool.false_or, Bool.true_or, Nat.reduceSub, Nat.reduceMul, Int.reduceAdd, Int.reduceEq, Int.reduceLT, Int.reduceLE, Int.reduceNeg, Nat.reduceLT, Nat.reduceLeDiff, hx, f1, f2, f3, f4, f5, f6, hb2]; try clear hb2))
      | ((with_reducible refine CGd_b ?_ ?_) <;> intro hb <;> first | contradiction | simp (maxSteps := 500000) (disch := omega) only [go_sem, Bool.not_not, List.mem_singleton, forall_eq, ↓reduceIte, if_pos, rowsAt_map, wrap64, wrapu8, List.getElem?_cons_zero, List.getElem?_cons_succ, Int.reduceToNat, Nat.reduceAdd, Nat.reduceBEq, Bool.or_false, Bool.false_or, Bool.true_or, Nat.reduceSub, Nat.reduceMul, Int.reduceAdd, Int.reduceEq, Int.reduceLT, Int.reduceLE, Int.reduceNeg, Nat.reduceLT, Nat.reduceLeDiff, hx, f1, f2, f3, f4, f5, f6, hb])
      | ((with_reducible refine CRes_id ?_); simp (maxSteps := 500000) (disch := omega) only [go_sem, Bool.not_not, List.mem_singleton, forall_eq, ↓reduceIte, if_pos, rowsAt_map, wrap64, wrapu8, List.getElem?_cons_zero, List.getElem?_cons_succ, Int.reduceToNat, Nat.reduceAdd, Nat.reduceBEq, Bool.or_false, Bool.false_or, Bool.true_or, Nat.reduceSub, Nat.reduceMul, Int.reduceAdd, Int.reduceEq, Int.reduceLT, Int.reduceLE, Int.reduceNeg, Nat.reduceLT, Nat.reduceLeDiff, hx, f1, f2, f3, f4, f5, f6])
      | ((with_reducible refine DStep_id ?_); refine dcallP ⟨_, rfl⟩ rfl (by simp (maxSteps := 500000) (disch := omega) only [go_sem, Bool.not_not, List.mem_singleton, forall_eq, ↓reduceIte, if_pos, rowsAt_map, wrap64, wrapu8, List.getElem?_cons_zero, List.getElem?_cons_succ, Int.reduceToNat, Nat.reduceAdd, Nat.reduceBEq, Bool.or_false, Bool.false_or, Bool.true_or, Nat.reduceSub, Nat.reduceMul, Int.reduceAdd, Int.reduceEq, Int.reduceLT, Int.reduceLE, Int.reduceNeg, Nat.reduceLT, Nat.reduceLeDiff, hx, f1, f2, f3, f4, f5, f6]; first | done | rfl | fail) ?_; refine ⟨_, by first | exact ihG i _ 5 rfl hi (by omega) (by omega) (by omega) | exact ihG ((rowG n l i 5).nx + 1) _ 5 (by omega) (by omega) (by omega) (by omega) (by omega) | exact two_ok _ _ _ | fail, ?_⟩; refine ⟨fun _ => rfl, fun _ => rfl, rfl, (fun h => by first | cases h | fail), ?_⟩; try simp (maxSteps := 500000) (disch := omega) only [go_sem, Bool.not_not, List.mem_singleton, forall_eq, ↓reduceIte, if_pos, rowsAt_map, wrap64, wrapu8, List.getElem?_cons_zero, List.getElem?_cons_succ, Int.reduceToNat, Nat.reduceAdd, Nat.reduceBEq, Bool.or_false, Bool.false_or, Bool.true_or, Nat.reduceSub, Nat.reduceMul, Int.reduceAdd, Int.reduceEq, Int.reduceLT, Int.reduceLE, Int.reduceNeg, Nat.reduceLT, Nat.reduceLeDiff, hx, f1, f2, f3, f4, f5, f6])
      | ((with_reducible refine DStep_id ?_); refine dcallPw ⟨_, rfl⟩ rfl (by simp (maxSteps := 500000) (disch := omega) only [go_sem, Bool.not_not, List.mem_singleton, forall_eq, ↓reduceIte, if_pos, rowsAt_map, wrap64, wrapu8, List.getElem?_cons_zero, List.getElem?_cons_succ, Int.reduceToNat, Nat.reduceAdd, Nat.reduceBEq, Bool.or_false, Bool.false_or, Bool.true_or, Nat.reduceSub, Nat.reduceMul, Int.reduceAdd, Int.reduceEq, Int.reduceLT, Int.reduceLE, Int.reduceNeg, Nat.reduceLT, Nat.reduceLeDiff, hx, f1, f2, f3, f4, f5, f6]; first | done | rfl | fail) ?_; refine ⟨_, by first | exact ihG i _ 5 rfl hi (by omega) (by omega) (by omega) | exact ihG ((rowG n l i 5).nx + 1) _ 5 (by omega) (by omega) (by omega) (by omega) (by omega) | exact two_ok _ _ _ | fail, ?_⟩; refine ⟨fun _ => rfl, fun _ => rfl, rfl, ?_⟩; try simp (maxSteps := 500000) (disch := omega) only [go_sem, Bool.not_not, List.mem_singleton, forall_eq, ↓reduceIte, if_pos, rowsAt_map, wrap64, wrapu8, List.getElem?_cons_zero, List.getElem?_cons_succ, Int.reduceToNat, Nat.reduceAdd, Nat.reduceBEq, Bool.or_false, Bool.false_or, Bool.true_or, Nat.reduceSub, Nat.reduceMul, Int.reduceAdd, Int.reduceEq, Int.reduceLT, Int.reduceLE, Int.reduceNeg, Nat.reduceLT, Nat.reduceLeDiff, hx, f1, f2, f3, f4, f5, f6])
      | ((with_reducible refine AWP_c ?_); refine awp_cond_t (by simp (maxSteps := 500000) (disch := omega) only [go_sem, Bool.not_not, List.mem_singleton, forall_eq, ↓reduceIte, if_pos, rowsAt_map, wrap64, wrapu8, List.getElem?_cons_zero, List.getElem?_cons_succ, Int.reduceToNat, Nat.reduceAdd, Nat.reduceBEq, Bool.or_false, Bool.false_or, Bool.true_or, Nat.reduceSub, Nat.reduceMul, Int.reduceAdd, Int.reduceEq, Int.reduceLT, Int.reduceLE, Int.reduceNeg, Nat.reduceLT, Nat.reduceLeDiff, hx, f1, f2, f3, f4, f5, f6]; first | done | fail) ?_)
      | ((with_reducible refine AWP_c ?_); refine awp_cond_f (by simp (maxSteps := 500000) (disch := omega) only [go_sem, Bool.not_not, List.mem_singleton, forall_eq, ↓reduceIte, if_pos, rowsAt_map, wrap64, wrapu8, List.getElem?_cons_zero, List.getElem?_cons_succ, Int.reduceToNat, Nat.reduceAdd, Nat.reduceBEq, Bool.or_false, Bool.false_or, Bool.true_or, Nat.reduceSub, Nat.reduceMul, Int.reduceAdd, Int.reduceEq, Int.reduceLT, Int.reduceLE, Int.reduceNeg, Nat.reduceLT, Nat.reduceLeDiff, hx, f1, f2, f3, f4, f5, f6]; first | done | fail) ?_)
      | ((with_reducible refine AWP_c ?_); refine cond_nd (by simp (maxSteps := 500000) (disch := omega) only [go_sem, Bool.not_not, List.mem_singleton, forall_eq, ↓reduceIte, if_pos, rowsAt_map, wrap64, wrapu8, List.getElem?_cons_zero, List.getElem?_cons_succ, Int.reduceToNat, Nat.reduceAdd, Nat.reduceBEq, Bool.or_false, Bool.false_or, Bool.true_or, Nat.reduceSub, Nat.reduceMul, Int.reduceAdd, Int.reduceEq, Int.reduceLT, Int.reduceLE, Int.reduceNeg, Nat.reduceLT, Nat.reduceLeDiff, hx, f1, f2, f3, f4, f5, f6]; first | done | rfl) ?_ ?_ <;> intro hb hb2 <;> first | contradiction | (exfalso; omega) | ((try simp (maxSteps := 500000) (disch := omega) only [go_sem, Bool.not_not, List.mem_singleton, forall_eq, ↓reduceIte, if_pos, rowsAt_map, wrap64, wrapu8, List.getElem?_cons_zero, List.getElem?_cons_succ, Int.reduceToNat, Nat.reduceAdd, Nat.reduceBEq, Bool.or_false, Bool.false_or, Bool.true_or, Nat.reduceSub, Nat.reduceMul, Int.reduceAdd, Int.reduceEq, Int.reduceLT, Int.reduceLE, Int.reduceNeg, Nat.reduceLT, Nat.reduceLeDiff, hx, f1, f2, f3, f4, f5, f6, hb2]); try clear hb2))
      | ((with_reducible refine AWP_c ?_); refine cond_d (by simp (maxSteps := 500000) (disch := omega) only [go_sem, Bool.not_not, List.mem_singleton, forall_eq, ↓reduceIte, if_pos, rowsAt_map, wrap64, wrapu8, List.getElem?_cons_zero, List.getElem?_cons_succ, Int.reduceToNat, Nat.reduceAdd, Nat.reduceBEq, Bool.or_false, Bool.false_or, Bool.true_or, Nat.reduceSub, Nat.reduceMul, Int.reduceAdd, Int.reduceEq, Int.reduceLT, Int.reduceLE, Int.reduceNeg, Nat.reduceLT, Nat.reduceLeDiff, hx, f1, f2, f3, f4, f5, f6]; first | done | rfl) ?_ ?_ <;> intro hb hb2 <;> first | contradiction | (exfalso; omega) | ((try simp (maxSteps := 500000) (disch := omega) only [go_sem, Bool.not_not, List.mem_singleton, forall_eq, ↓reduceIte, if_pos, rowsAt_map, wrap64, wrapu8, List.getElem?_cons_zero, List.getElem?_cons_succ, Int.reduceToNat, Nat.reduceAdd, Nat.reduceBEq, Bool.or_false, Bool.false_or, Bool.true_or, Nat.reduceSub, Nat.reduceMul, Int.reduceAdd, Int.reduceEq, Int.reduceLT, Int.reduceLE, Int.reduceNeg, Nat.reduceLT, Nat.reduceLeDiff, hx, f1, f2, f3, f4, f5, f6, hb2]); try clear hb2))
      | ((with_reducible refine AWP_c ?_); refine cond_nb (by simp (maxSteps := 500000) (disch := omega) only [go_sem, Bool.not_not, List.mem_singleton, forall_eq, ↓reduceIte, if_pos, rowsAt_map, wrap64, wrapu8, List.getElem?_cons_zero, List.getElem?_cons_succ, Int.reduceToNat, Nat.reduceAdd, Nat.reduceBEq, Bool.or_false, Bool.false_or, Bool.true_or, Nat.reduceSub, Nat.reduceMul, Int.reduceAdd, Int.reduceEq, Int.reduceLT, Int.reduceLE, Int.reduceNeg, Nat.reduceLT, Nat.reduceLeDiff, hx, f1, f2, f3, f4, f5, f6]; first | done | rfl) ?_ ?_ <;> intro hb <;> first | contradiction | (try simp (maxSteps := 500000) (disch := omega) only [go_sem, Bool.not_not, List.mem_singleton, forall_eq, ↓reduceIte, if_pos, rowsAt_map, wrap64, wrapu8, List.getElem?_cons_zero, List.getElem?_cons_succ, Int.reduceToNat, Nat.reduceAdd, Nat.reduceBEq, Bool.or_false, Bool.false_or, Bool.true_or, Nat.reduceSub, Nat.reduceMul, Int.reduceAdd, Int.reduceEq, Int.reduceLT, Int.reduceLE, Int.reduceNeg, Nat.reduceLT, Nat.reduceLeDiff, hx, f1, f2, f3, f4, f5, f6, hb]))
      | ((with_reducible refine AWP_c ?_); refine awp_cond (by simp (maxSteps := 500000) (disch := omega) only [go_sem, Bool.not_not, List.mem_singleton, forall_eq, ↓reduceIte, if_pos, rowsAt_map, wrap64, wrapu8, List.getElem?_cons_zero, List.getElem?_cons_succ, Int.reduceToNat, Nat.reduceAdd, Nat.reduceBEq, Bool.or_false, Bool.false_or, Bool.true_or, Nat.reduceSub, Nat.reduceMul, Int.reduceAdd, Int.reduceEq, Int.reduceLT, Int.reduceLE, Int.reduceNeg, Nat.reduceLT, Nat.reduceLeDiff, hx, f1, f2, f3, f4, f5, f6]; first | done | rfl) ?_ ?_ <;> intro hb <;> first | contradiction | (try simp (maxSteps := 500000) (disch := omega) only [go_sem, Bool.not_not, List.mem_singleton, forall_eq, ↓reduceIte, if_pos, rowsAt_map, wrap64, wrapu8, List.getElem?_cons_zero, List.getElem?_cons_succ, Int.reduceToNat, Nat.reduceAdd, Nat.reduceBEq, Bool.or_false, Bool.false_or, Bool.true_or, Nat.reduceSub, Nat.reduceMul, Int.reduceAdd, Int.reduceEq, Int.reduceLT, Int.reduceLE, Int.reduceNeg, Nat.reduceLT, Nat.reduceLeDiff, hx, f1, f2, f3, f4, f5, f6, hb]))
      | ((with_reducible refine awp_ret ?_); refine fin_r ?_)
      | ((with_reducible refine awp_ret ?_); refine fin_q ?_ ?_)
      | with_reducible refine fin_qn ?_ ?_
      | ((with_reducible refine awp_skip ?_); simp (maxSteps := 500000) (disch := omega) only [go_sem, Bool.not_not, List.mem_singleton, forall_eq, ↓reduceIte, if_pos, rowsAt_map, wrap64, wrapu8, List.getElem?_cons_zero, List.getElem?_cons_succ, Int.reduceToNat, Nat.reduceAdd, Nat.reduceBEq, Bool.or_false, Bool.false_or, Bool.true_or, Nat.reduceSub, Nat.reduceMul, Int.reduceAdd, Int.reduceEq, Int.reduceLT, Int.reduceLE, Int.reduceNeg, Nat.reduceLT, Nat.reduceLeDiff, hx, f1, f2, f3, f4, f5, f6])
      | with_reducible refine awp_block ?_
      | ((with_reducible refine awp_exit ?_); simp (maxSteps := 500000) (disch := omega) only [go_sem, Bool.not_not, List.mem_singleton, forall_eq, ↓reduceIte, if_pos, rowsAt_map, wrap64, wrapu8, List.getElem?_cons_zero, List.getElem?_cons_succ, Int.reduceToNat, Nat.reduceAdd, Nat.reduceBEq, Bool.or_false, Bool.false_or, Bool.true_or, Nat.reduceSub, Nat.reduceMul, Int.reduceAdd, Int.reduceEq, Int.reduceLT, Int.reduceLE, Int.reduceNeg, Nat.reduceLT, Nat.reduceLeDiff, hx, f1, f2, f3, f4, f5, f6])
      | ((with_reducible refine CallK_id ?_); refine callF ⟨_, rfl⟩ rfl (by simp (maxSteps := 500000) (disch := omega) only [go_sem, Bool.not_not, List.mem_singleton, forall_eq, ↓reduceIte, if_pos, rowsAt_map, wrap64, wrapu8, List.getElem?_cons_zero, List.getElem?_cons_succ, Int.reduceToNat, Nat.reduceAdd, Nat.reduceBEq, Bool.or_false, Bool.false_or, Bool.true_or, Nat.reduceSub, Nat.reduceMul, Int.reduceAdd, Int.reduceEq, Int.reduceLT, Int.reduceLE, Int.reduceNeg, Nat.reduceLT, Nat.reduceLeDiff, hx, f1, f2, f3, f4, f5, f6]; first | done | rfl | fail) ?_; refine ⟨_, by first | exact ihG i _ 5 rfl hi (by omega) (by omega) (by omega) | exact ihG ((rowG n l i 5).nx + 1) _ 5 (by omega) (by omega) (by omega) (by omega) (by omega) | exact two_ok _ _ _ | fail, ?_⟩; refine ⟨fun _ => rfl, fun _ => rfl, rfl, ?_⟩; try simp (maxSteps := 500000) (disch := omega) only [go_sem, Bool.not_not, List.mem_singleton, forall_eq, ↓reduceIte, if_pos, rowsAt_map, wrap64, wrapu8, List.getElem?_cons_zero, List.getElem?_cons_succ, Int.reduceToNat, Nat.reduceAdd, Nat.reduceBEq, Bool.or_false, Bool.false_or, Bool.true_or, Nat.reduceSub, Nat.reduceMul, Int.reduceAdd, Int.reduceEq, Int.reduceLT, Int.reduceLE, Int.reduceNeg, Nat.reduceLT, Nat.reduceLeDiff, hx, f1, f2, f3, f4, f5, f6])
      | fail
      all_goals (repeat' split) <;> first | contradiction | (exfalso; omega) | (simp [go_sem, cmpT, T.op, T.n, T.kids, f1, f2, f3, f4, f5, f6]; done) | trace_state
    · have f1 : (x = [61]) = False := by rw [e]; simp
      have f2 : (x = [33, 61]) = False := by rw [e]; simp
      have f3 : (x = [60]) = False := by rw [e]; simp
      have f4 : (x = [60, 61]) = False := by rw [e]; simp
      have f5 : (x = [62]) = True := by rw [e]; simp
      have f6 : (x = [62, 61]) = False := by rw [e]; simp
      refine afn_body Tryd.func49 rfl (by decide) ?_
      simp only [Tryd.ntmps49, Tryd.results49, List.length_cons, List.length_nil, List.cons_append, List.nil_append, Nat.reduceAdd, Nat.reduceSub, List.replicate]
      repeat' first
      | with_reducible refine awp_seq ?_
      | ((with_reducible refine awp_region ?_); simp (maxSteps := 500000) (disch := omega) only [go_sem, Bool.not_not, List.mem_singleton, forall_eq, ↓reduceIte, if_pos, rowsAt_map, wrap64, wrapu8, List.getElem?_cons_zero, List.getElem?_cons_succ, Int.reduceToNat, Nat.reduceAdd, Nat.reduceBEq, Bool.or_false, Bool.false_or, Bool.true_or, Nat.reduceSub, Nat.reduceMul, Int.reduceAdd, Int.reduceEq, Int.reduceLT, Int.reduceLE, Int.reduceNeg, Nat.reduceLT, Nat.reduceLeDiff, hx, f1, f2, f3, f4, f5, f6])
      | ((with_reducible refine Gd_nd ?_ ?_) <;> intro hb hb2 <;> first | contradiction | (exfalso; omega) | (simp (maxSteps := 500000) (disch := omega) only [go_sem, Bool.not_not, List.mem_singleton, forall_eq, ↓reduceIte, if_pos, rowsAt_map, wrap64, wrapu8, List.getElem?_cons_zero, List.getElem?_cons_succ, Int.reduceToNat, Nat.reduceAdd, Nat.reduceBEq, Bool.or_false, Bool.false_or, Bool.true_or, Nat.reduceSub, Nat.reduceMul, Int.reduceAdd, Int.reduceEq, Int.reduceLT, Int.reduceLE, Int.reduceNeg, Nat.reduceLT, Nat.reduceLeDiff, hx, f1, f2, f3, f4, f5, f6, hb2]; try clear hb2))
      | ((with_reducible refine Gd_nb ?_ ?_) <;> intro hb <;> first | contradiction | simp (maxSteps := 500000) (disch := omega) only [go_sem, Bool.not_not, List.mem_singleton, forall_eq, ↓reduceIte, if_pos, rowsAt_map, wrap64, wrapu8, List.getElem?_cons_zero, List.getElem?_cons_succ, Int.reduceToNat, Nat.reduceAdd, Nat.reduceBEq, Bool.or_false, Bool.false_or, Bool.true_or, Nat.reduceSub, Nat.reduceMul, Int.reduceAdd, Int.reduceEq, Int.reduceLT, Int.reduceLE, Int.reduceNeg, Nat.reduceLT, Nat.reduceLeDiff, hx, f1, f2, f3, f4, f5, f6, hb])
      | ((with_reducible refine Gd_d ?_ ?_) <;> intro hb hb2 <;> first | contradiction | (exfalso; omega) | (simp (maxSteps := 500000) (disch := omega) only [go_sem, Bool.not_not, List.mem_singleton, forall_eq, ↓reduceIte, if_pos, rowsAt_map, wrap64, wrapu8, List.getElem?_cons_zero, List.getElem?_cons_succ, Int.reduceToNat, Nat.reduceAdd, Nat.reduceBEq, Bool.or_false, Bool.false_or, Bool.true_or, Nat.reduceSub, Nat.reduceMul, Int.reduceAdd, Int.reduceEq, Int.reduceLT, Int.reduceLE, Int.reduceNeg, Nat.reduceLT, Nat.reduceLeDiff, hx, f1, f2, f3, f4, f5, f6, hb2]; try clear hb2))
      | ((with_reducible refine Gd_b ?_ ?_) <;> intro hb <;> first | contradiction | simp (maxSteps := 500000) (disch := omega) only [go_sem, Bool.not_not, List.mem_singleton, forall_eq, ↓reduceIte, if_pos, rowsAt_map, wrap64, wrapu8, List.getElem?_cons_zero, List.getElem?_cons_succ, Int.reduceToNat, Nat.reduceAdd, Nat.reduceBEq, Bool.or_false, Bool.false_or, Bool.true_or, Nat.reduceSub, Nat.reduceMul, Int.reduceAdd, Int.reduceEq, Int.reduceLT, Int.reduceLE, Int.reduceNeg, Nat.reduceLT, Nat.reduceLeDiff, hx, f1, f2, f3, f4, f5, f6, hb])
      | ((with_reducible refine Res_id ?_); simp (maxSteps := 500000) (disch := omega) only [go_sem, Bool.not_not, List.mem_singleton, forall_eq, ↓reduceIte, if_pos, rowsAt_map, wrap64, wrapu8, List.getElem?_cons_zero, List.getElem?_cons_succ, Int.reduceToNat, Nat.reduceAdd, Nat.reduceBEq, Bool.or_false, Bool.false_or, Bool.true_or, Nat.reduceSub, Nat.reduceMul, Int.reduceAdd, Int.reduceEq, Int.reduceLT, Int.reduceLE, Int.reduceNeg, Nat.reduceLT, Nat.reduceLeDiff, hx, f1, f2, f3, f4, f5, f6])
      | ((with_reducible refine awp_drawnC ?_ ?_); rfl; simp (maxSteps := 500000) (disch := omega) only [go_sem, Bool.not_not, List.mem_singleton, forall_eq, ↓reduceIte, if_pos, rowsAt_map, wrap64, wrapu8, List.getElem?_cons_zero, List.getElem?_cons_succ, Int.reduceToNat, Nat.reduceAdd, Nat.reduceBEq, Bool.or_false, Bool.false_or, Bool.true_or, Nat.reduceSub, Nat.reduceMul, Int.reduceAdd, Int.reduceEq, Int.reduceLT, Int.reduceLE, Int.reduceNeg, Nat.reduceLT, Nat.reduceLeDiff, hx, f1, f2, f3, f4, f5, f6])
      | ((with_reducible refine awp_drawnA ?_ ?_); rfl; simp (maxSteps := 500000) (disch := omega) only [go_sem, Bool.not_not, List.mem_singleton, forall_eq, ↓reduceIte, if_pos, rowsAt_map, wrap64, wrapu8, List.getElem?_cons_zero, List.getElem?_cons_succ, Int.reduceToNat, Nat.reduceAdd, Nat.reduceBEq, Bool.or_false, Bool.false_or, Bool.true_or, Nat.reduceSub, Nat.reduceMul, Int.reduceAdd, Int.reduceEq, Int.reduceLT, Int.reduceLE, Int.reduceNeg, Nat.reduceLT, Nat.reduceLeDiff, hx, f1, f2, f3, f4, f5, f6])
      | ((with_reducible refine CGd_nd ?_ ?_) <;> intro hb hb2 <;> first | contradiction | (exfalso; omega) | (simp (maxSteps := 500000) (disch := omega) only [go_sem, Bool.not_not, List.mem_singleton, forall_eq, ↓reduceIte, if_pos, rowsAt_map, wrap64, wrapu8, List.getElem?_cons_zero, List.getElem?_cons_succ, Int.reduceToNat, Nat.reduceAdd, Nat.reduceBEq, Bool.or_false, Bool.false_or, Bool.true_or, Nat.reduceSub, Nat.reduceMul, Int.reduceAdd, Int.reduceEq, Int.reduceLT, Int.reduceLE, Int.reduceNeg, Nat.reduceLT, Nat.reduceLeDiff, hx, f1, f2, f3, f4, f5, f6, hb2]; try clear hb2))
      | ((with_reducible refine CGd_nb ?_ ?_) <;> intro hb <;> first | contradiction | simp (maxSteps := 500000) (disch := omega) only [go_sem, Bool.not_not, List.mem_singleton, forall_eq, ↓reduceIte, if_pos, rowsAt_map, wrap64, wrapu8, List.getElem?_cons_zero, List.getElem?_cons_succ, Int.reduceToNat, Nat.reduceAdd, Nat.reduceBEq, Bool.or_false, Bool.false_or, Bool.true_or, Nat.reduceSub, Nat.reduceMul, Int.reduceAdd, Int.reduceEq, Int.reduceLT, Int.reduceLE, Int.reduceNeg, Nat.reduceLT, Nat.reduceLeDiff, hx, f1, f2, f3, f4, f5, f6, hb])
      | ((with_reducible refine CGd_d ?_ ?_) <;> intro hb hb2 <;> first | contradiction | (exfalso; omega) | (simp (maxSteps := 500000) (disch := omega) only [go_sem, Bool.not_not, List.mem_singleton, forall_eq, ↓reduceIte, if_pos, rowsAt_map, wrap64, wrapu8, List.getElem?_cons_zero, List.getElem?_cons_succ, Int.reduceToNat, Nat.reduceAdd, Nat.reduceBEq, Bool.or_false, Bool.false_or, Bool.true_or, Nat.reduceSub, Nat.reduceMul, Int.reduceAdd, Int.reduceEq, Int.reduceLT, Int.reduceLE, Int.reduceNeg, Nat.reduceLT, Nat.reduceLeDiff, hx, f1, f2, f3, f4, f5, f6, hb2]; try clear hb2))
      | ((with_reducible refine CGd_b ?_ ?_) <;> intro hb <;> first | contradiction | simp (maxSteps := 500000) (disch := omega) only [go_sem, Bool.not_not, List.mem_singleton, forall_eq, ↓reduceIte, if_pos, rowsAt_map, wrap64, wrapu8, List.getElem?_cons_zero, List.getElem?_cons_succ, Int.reduceToNat, Nat.reduceAdd, Nat.reduceBEq, Bool.or_false, Bool.false_or, Bool.true_or, Nat.reduceSub, Nat.reduceMul, Int.reduceAdd, Int.reduceEq, Int.reduceLT, Int.reduceLE, Int.reduceNeg, Nat.reduceLT, Nat.reduceLeDiff, hx, f1, f2, f3, f4, f5, f6, hb])
      | ((with_reducible refine CRes_id ?_); simp (maxSteps := 500000) (disch := omega) only [go_sem, Bool.not_not, List.mem_singleton, forall_eq, ↓reduceIte, if_pos, rowsAt_map, wrap64, wrapu8, List.getElem?_cons_zero, List.getElem?_cons_succ, Int.reduceToNat, Nat.reduceAdd, Nat.reduceBEq, Bool.or_false, Bool.false_or, Bool.true_or, Nat.reduceSub, Nat.reduceMul, Int.reduceAdd, Int.reduceEq, Int.reduceLT, Int.reduceLE, Int.reduceNeg, Nat.reduceLT, Nat.reduceLeDiff, hx, f1, f2, f3, f4, f5, f6])
      | ((with_reducible refine DStep_id ?_); refine dcallP ⟨_, rfl⟩ rfl (by simp (maxSteps := 500000) (disch := omega) only [go_sem, Bool.not_not, List.mem_singleton, forall_eq, ↓reduceIte, if_pos, rowsAt_map, wrap64, wrapu8, List.getElem?_cons_zero, List.getElem?_cons_succ, Int.reduceToNat, Nat.reduceAdd, Nat.reduceBEq, Bool.or_false, Bool.false_or, Bool.true_or, Nat.reduceSub, Nat.reduceMul, Int.reduceAdd, Int.reduceEq, Int.reduceLT, Int.reduceLE, Int.reduceNeg, Nat.reduceLT, Nat.reduceLeDiff, hx, f1, f2, f3, f4, f5, f6]; first | done | rfl | fail) ?_; refine ⟨_, by first | exact ihG i _ 5 rfl hi (by omega) (by omega) (by omega) | exact ihG ((rowG n l i 5).nx + 1) _ 5 (by omega) (by omega) (by omega) (by omega) (by omega) | exact two_ok _ _ _ | fail, ?_⟩; refine ⟨fun _ => rfl, fun _ => rfl, rfl, (fun h => by first | cases h | fail), ?_⟩; try simp (maxSteps := 500000) (disch := omega) only [go_sem, Bool.not_not, List.mem_singleton, forall_eq, ↓reduceIte, if_pos, rowsAt_map, wrap64, wrapu8, List.getElem?_cons_zero, List.getElem?_cons_succ, Int.reduceToNat, Nat.reduceAdd, Nat.reduceBEq, Bool.or_false, Bool.false_or, Bool.true_or, Nat.reduceSub, Nat.reduceMul, Int.reduceAdd, Int.reduceEq, Int.reduceLT, Int.reduceLE, Int.reduceNeg, Nat.reduceLT, Nat.reduceLeDiff, hx, f1, f2, f3, f4, f5, f6])
      | ((with_reducible refine DStep_id ?_); refine dcallPw ⟨_, rfl⟩ rfl (by simp (maxSteps := 500000) (disch := omega) only [go_sem, Bool.not_not, List.mem_singleton, forall_eq, ↓reduceIte, if_pos, rowsAt_map, wrap64, wrapu8, List.getElem?_cons_zero, List.getElem?_cons_succ, Int.reduceToNat, Nat.reduceAdd, Nat.reduceBEq, Bool.or_false, Bool.false_or, Bool.true_or, Nat.reduceSub, Nat.reduceMul, Int.reduceAdd, Int.reduceEq, Int.reduceLT, Int.reduceLE, Int.reduceNeg, Nat.reduceLT, Nat.reduceLeDiff, hx, f1, f2, f3, f4, f5, f6]; first | done | rfl | fail) ?_; refine ⟨_, by first | exact ihG i _ 5 rfl hi (by omega) (by omega) (by omega) | exact ihG ((rowG n l i 5).nx + 1) _ 5 (by omega) (by omega) (by omega) (by omega) (by omega) | exact two_ok _ _ _ | fail, ?_⟩; refine ⟨fun _ => rfl, fun _ => rfl, rfl, ?_⟩; try simp (maxSteps := 500000) (disch := omega) only [go_sem, Bool.not_not, List.mem_singleton, forall_eq, ↓reduceIte, if_pos, rowsAt_map, wrap64, wrapu8, List.getElem?_cons_zero, List.getElem?_cons_succ, Int.reduceToNat, Nat.reduceAdd, Nat.reduceBEq, Bool.or_false, Bool.false_or, Bool.true_or, Nat.reduceSub, Nat.reduceMul, Int.reduceAdd, Int.reduceEq, Int.reduceLT, Int.reduceLE, Int.reduceNeg, Nat.reduceLT, Nat.reduceLeDiff, hx, f1, f2, f3, f4, f5, f6])
      | ((with_reducible refine AWP_c ?_); refine awp_cond_t (by simp (maxSteps := 500000) (disch := omega) only [go_sem, Bool.not_not, List.mem_singleton, forall_eq, ↓reduceIte, if_pos, rowsAt_map, wrap64, wrapu8, List.getElem?_cons_zero, List.getElem?_cons_succ, Int.reduceToNat, Nat.reduceAdd, Nat.reduceBEq, Bool.or_false, Bool.false_or, Bool.true_or, Nat.reduceSub, Nat.reduceMul, Int.reduceAdd, Int.reduceEq, Int.reduceLT, Int.reduceLE, Int.reduceNeg, Nat.reduceLT, Nat.reduceLeDiff, hx, f1, f2, f3, f4, f5, f6]; first | done | fail) ?_)
      | ((with_reducible refine AWP_c ?_); refine awp_cond_f (by simp (maxSteps := 500000) (disch := omega) only [go_sem, Bool.not_not, List.mem_singleton, forall_eq, ↓reduceIte, if_pos, rowsAt_map, wrap64, wrapu8, List.getElem?_cons_zero, List.getElem?_cons_succ, Int.reduceToNat, Nat.reduceAdd, Nat.reduceBEq, Bool.or_false, Bool.false_or, Bool.true_or, Nat.reduceSub, Nat.reduceMul, Int.reduceAdd, Int.reduceEq, Int.reduceLT, Int.reduceLE, Int.reduceNeg, Nat.reduceLT, Nat.reduceLeDiff, hx, f1, f2, f3, f4, f5, f6]; first | done | fail) ?_)
      | ((with_reducible refine AWP_c ?_); refine cond_nd (by simp (maxSteps := 500000) (disch := omega) only [go_sem, Bool.not_not, List.mem_singleton, forall_eq, ↓reduceIte, if_pos, rowsAt_map, wrap64, wrapu8, List.getElem?_cons_zero, List.getElem?_cons_succ, Int.reduceToNat, Nat.reduceAdd, Nat.reduceBEq, Bool.or_false, Bool.false_or, Bool.true_or, Nat.reduceSub, Nat.reduceMul, Int.reduceAdd, Int.reduceEq, Int.reduceLT, Int.reduceLE, Int.reduceNeg, Nat.reduceLT, Nat.reduceLeDiff, hx, f1, f2, f3, f4, f5, f6]; first | done | rfl) ?_ ?_ <;> intro hb hb2 <;> first | contradiction | (exfalso; omega) | ((try simp (maxSteps := 500000) (disch := omega) only [go_sem, Bool.not_not, List.mem_singleton, forall_eq, ↓reduceIte, if_pos, rowsAt_map, wrap64, wrapu8, List.getElem?_cons_zero, List.getElem?_cons_succ, Int.reduceToNat, Nat.reduceAdd, Nat.reduceBEq, Bool.or_false, Bool.false_or, Bool.true_or, Nat.reduceSub, Nat.reduceMul, Int.reduceAdd, Int.reduceEq, Int.reduceLT, Int.reduceLE, Int.reduceNeg, Nat.reduceLT, Nat.reduceLeDiff, hx, f1, f2, f3, f4, f5, f6, hb2]); try clear hb2))
      | ((with_reducible refine AWP_c ?_); refine cond_d (by simp (maxSteps := 500000) (disch := omega) only [go_sem, Bool.not_not, List.mem_singleton, forall_eq, ↓reduceIte, if_pos, rowsAt_map, wrap64, wrapu8, List.getElem?_cons_zero, List.getElem?_cons_succ, Int.reduceToNat, Nat.reduceAdd, Nat.reduceBEq, Bool.or_false, Bool.false_or, Bool.true_or, Nat.reduceSub, Nat.reduceMul, Int.reduceAdd, Int.reduceEq, Int.reduceLT, Int.reduceLE, Int.reduceNeg, Nat.reduceLT, Nat.reduceLeDiff, hx, f1, f2, f3, f4, f5, f6]; first | done | rfl) ?_ ?_ <;> intro hb hb2 <;> first | contradiction | (exfalso; omega) | ((try simp (maxSteps := 500000) (disch := omega) only [go_sem, Bool.not_not, List.mem_singleton, forall_eq, ↓reduceIte, if_pos, rowsAt_map, wrap64, wrapu8, List.getElem?_cons_zero, List.getElem?_cons_succ, Int.reduceToNat, Nat.reduceAdd, Nat.reduceBEq, Bool.or_false, Bool.false_or, Bool.true_or, Nat.reduceSub, Nat.reduceMul, Int.reduceAdd, Int.reduceEq, Int.reduceLT, Int.reduceLE, Int.reduceNeg, Nat.reduceLT, Nat.reduceLeDiff, hx, f1, f2, f3, f4, f5, f6, hb2]); try clear hb2))
      | ((with_reducible refine AWP_c ?_); refine cond_nb (by simp (maxSteps := 500000) (disch := omega) only [go_sem, Bool.not_not, List.mem_singleton, forall_eq, ↓reduceIte, if_pos, rowsAt_map, wrap64, wrapu8, List.getElem?_cons_zero, List.getElem?_cons_succ, Int.reduceToNat, Nat.reduceAdd, Nat.reduceBEq, Bool.or_false, Bool.false_or, Bool.true_or, Nat.reduceSub, Nat.reduceMul, Int.reduceAdd, Int.reduceEq, Int.reduceLT, Int.reduceLE, Int.reduceNeg, Nat.reduceLT, Nat.reduceLeDiff, hx, f1, f2, f3, f4, f5, f6]; first | done | rfl) ?_ ?_ <;> intro hb <;> first | contradiction | (try simp (maxSteps := 500000) (disch := omega) only [go_sem, Bool.not_not, List.mem_singleton, forall_eq, ↓reduceIte, if_pos, rowsAt_map, wrap64, wrapu8, List.getElem?_cons_zero, List.getElem?_cons_succ, Int.reduceToNat, Nat.reduceAdd, Nat.reduceBEq, Bool.or_false, Bool.false_or, Bool.true_or, Nat.reduceSub, Nat.reduceMul, Int.reduceAdd, Int.reduceEq, Int.reduceLT, Int.reduceLE, Int.reduceNeg, Nat.reduceLT, Nat.reduceLeDiff, hx, f1, f2, f3, f4, f5, f6, hb]))
      | ((with_reducible refine AWP_c ?_); refine awp_cond (by simp (maxSteps := 500000) (disch := omega) only [go_sem, Bool.not_not, List.mem_singleton, forall_eq, ↓reduceIte, if_pos, rowsAt_map, wrap64, wrapu8, List.getElem?_cons_zero, List.getElem?_cons_succ, Int.reduceToNat, Nat.reduceAdd, Nat.reduceBEq, Bool.or_false, Bool.false_or, Bool.true_or, Nat.reduceSub, Nat.reduceMul, Int.reduceAdd, Int.reduceEq, Int.reduceLT, Int.reduceLE, Int.reduceNeg, Nat.reduceLT, Nat.reduceLeDiff, hx, f1, f2, f3, f4, f5, f6]; first | done | rfl) ?_ ?_ <;> intro hb <;> first | contradiction | (try simp (maxSteps := 500000) (disch := omega) only [go_sem, Bool.not_not, List.mem_singleton, forall_eq, ↓reduceIte, if_pos, rowsAt_map, wrap64, wrapu8, List.getElem?_cons_zero, List.getElem?_cons_succ, Int.reduceToNat, Nat.reduceAdd, Nat.reduceBEq, Bool.or_false, Bool.false_or, Bool.true_or, Nat.reduceSub, Nat.reduceMul, Int.reduceAdd, Int.reduceEq, Int.reduceLT, Int.reduceLE, Int.reduceNeg, Nat.reduceLT, Nat.reduceLeDiff, hx, f1, f2, f3, f4, f5, f6, hb]))
      | ((with_reducible refine awp_ret ?_); refine fin_r ?_)
      | ((with_reducible refine awp_ret ?_); refine fin_q ?_ ?_)
      | with_reducible refine fin_qn ?_ ?_
      | ((with_reducible refine awp_skip ?_); simp (maxSteps := 500000) (disch := omega) only [go_sem, Bool.not_not, List.mem_singleton, forall_eq, ↓reduceIte, if_pos, rowsAt_map, wrap64, wrapu8, List.getElem?_cons_zero, List.getElem?_cons_succ, Int.reduceToNat, Nat.reduceAdd, Nat.reduceBEq, Bool.or_false, Bool.false_or, Bool.true_or, Nat.reduceSub, Nat.reduceMul, Int.reduceAdd, Int.reduceEq, Int.reduceLT, Int.reduceLE, Int.reduceNeg, Nat.reduceLT, Nat.reduceLeDiff, hx, f1, f2, f3, f4, f5, f6])
      | with_reducible refine awp_block ?_
      | ((with_reducible refine awp_exit ?_); simp (maxSteps := 500000) (disch := omega) only [go_sem, Bool.not_not, List.mem_singleton, forall_eq, ↓reduceIte, if_pos, rowsAt_map, wrap64, wrapu8, List.getElem?_cons_zero, List.getElem?_cons_succ, Int.reduceToNat, Nat.reduceAdd, Nat.reduceBEq, Bool.or_false, Bool.false_or, Bool.true_or, Nat.reduceSub, Nat.reduceMul, Int.reduceAdd, Int.reduceEq, Int.reduceLT, Int.reduceLE, Int.reduceNeg, Nat.reduceLT, Nat.reduceLeDiff, hx, f1, f2, f3, f4, f5, f6])
      | ((with_reducible refine CallK_id ?_); refine callF ⟨_, rfl⟩ rfl (by simp (maxSteps := 500000) (disch := omega) only [go_sem, Bool.not_not, List.mem_singleton, forall_eq, ↓reduceIte, if_pos, rowsAt_map, wrap64, wrapu8, List.getElem?_cons_zero, List.getElem?_cons_succ, Int.reduceToNat, Nat.reduceAdd, Nat.reduceBEq, Bool.or_false, Bool.false_or, Bool.true_or, Nat.reduceSub, Nat.reduceMul, Int.reduceAdd, Int.reduceEq, Int.reduceLT, Int.reduceLE, Int.reduceNeg, Nat.reduceLT, Nat.reduceLeDiff, hx, f1, f2, f3, f4, f5, f6]; first | done | rfl | fail) ?_; refine ⟨_, by first | exact ihG i _ 5 rfl hi (by omega) (by omega) (by omega) | exact ihG ((rowG n l i 5).nx + 1) _ 5 (by omega) (by omega) (by omega) (by omega) (by omega) | exact two_ok _ _ _ | fail, ?_⟩; refine ⟨fun _ => rfl, fun _ => rfl, rfl, ?_⟩; try simp (maxSteps := 500000) (disch := omega) only [go_sem, Bool.not_not, List.mem_singleton, forall_eq, ↓reduceIte, if_pos, rowsAt_map, wrap64, wrapu8, List.getElem?_cons_zero, List.getElem?_cons_succ, Int.reduceToNat, Nat.reduceAdd, Nat.reduceBEq, Bool.or_false, Bool.false_or, Bool.true_or, Nat.reduceSub, Nat.reduceMul, Int.reduceAdd, Int.reduceEq, Int.reduceLT, Int.reduceLE, Int.reduceNeg, Nat.reduceLT, Nat.reduceLeDiff, hx, f1, f2, f3, f4, f5, f6])
      | fail
      all_goals (repeat' split) <;> first | contradiction | (exfalso; omega) | (simp [go_sem, cmpT, T.op, T.n, T.kids, f1, f2, f3, f4, f5, f6]; done) | trace_state
    · have f1 : (x = [61]) = False := by rw [e]; simp
      have f2 : (x = [33, 61]) = False := by rw [e]; simp
      have f3 : (x = [60]) = False := by rw [e]; simp
      have f4 : (x = [60, 61]) = False := by rw [e]; simp
      have f5 : (x = [62]) = False := by rw [e]; simp
      have f6 : (x = [62, 61]) = True := by rw [e]; simp
      refine afn_body Tryd.func49 rfl (by decide) ?_
      simp only [Tryd.ntmps49, Tryd.results49, List.length_cons, List.length_nil, List.cons_append, List.nil_append, Nat.reduceAdd, Nat.reduceSub, List.replicate]
      repeat' first
      | with_reducible refine awp_seq ?_
      | ((with_reducible refine awp_region ?_); simp (maxSteps := 500000) (disch := omega) only [go_sem, Bool.not_not, List.mem_singleton, forall_eq, ↓reduceIte, if_pos, rowsAt_map, wrap64, wrapu8, List.getElem?_cons_zero, List.getElem?_cons_succ, Int.reduceToNat, Nat.reduceAdd, Nat.reduceBEq, Bool.or_false, Bool.false_or, Bool.true_or, Nat.reduceSub, Nat.reduceMul, Int.reduceAdd, Int.reduceEq, Int.reduceLT, Int.reduceLE, Int.reduceNeg, Nat.reduceLT, Nat.reduceLeDiff, hx, f1, f2, f3, f4, f5, f6])
      | ((with_reducible refine Gd_nd ?_ ?_) <;> intro hb hb2 <;> first | contradiction | (exfalso; omega) | (simp (maxSteps := 500000) (disch := omega) only [go_sem, Bool.not_not, List.mem_singleton, forall_eq, ↓reduceIte, if_pos, rowsAt_map, wrap64, wrapu8, List.getElem?_cons_zero, List.getElem?_cons_succ, Int.reduceToNat, Nat.reduceAdd, Nat.reduceBEq, Bool.or_false, Bool.false_or, Bool.true_or, Nat.reduceSub, Nat.reduceMul, Int.reduceAdd, Int.reduceEq, Int.reduceLT, Int.reduceLE, Int.reduceNeg, Nat.reduceLT, Nat.reduceLeDiff, hx, f1, f2, f3, f4, f5, f6, hb2]; try clear hb2))
      | ((with_reducible refine Gd_nb ?_ ?_) <;> intro hb <;> first | contradiction | simp (maxSteps := 500000) (disch := omega) only [go_sem, Bool.not_not, List.mem_singleton, forall_eq, ↓reduceIte, if_pos, rowsAt_map, wrap64, wrapu8, List.getElem?_cons_zero, List.getElem?_cons_succ, Int.reduceToNat, Nat.reduceAdd, Nat.reduceBEq, Bool.or_false, Bool.false_or, Bool.true_or, Nat.reduceSub, Nat.reduceMul, Int.reduceAdd, Int.reduceEq, Int.reduceLT, Int.reduceLE, Int.reduceNeg, Nat.reduceLT, Nat.reduceLeDiff, hx, f1, f2, f3, f4, f5, f6, hb])
      | ((with_reducible refine Gd_d ?_ ?_) <;> intro hb hb2 <;> first | contradiction | (exfalso; omega) | (simp (maxSteps := 500000) (disch := omega) only [go_sem, Bool.not_not, List.mem_singleton, forall_eq, ↓reduceIte, if_pos, rowsAt_map, wrap64, wrapu8, List.getElem?_cons_zero, List.getElem?_cons_succ, Int.reduceToNat, Nat.reduceAdd, Nat.reduceBEq, Bool.or_false, Bool.false_or, Bool.true_or, Nat.reduceSub, Nat.reduceMul, Int.reduceAdd, Int.reduceEq, Int.reduceLT, Int.reduceLE, Int.reduceNeg, Nat.reduceLT, Nat.reduceLeDiff, hx, f1, f2, f3, f4, f5, f6, hb2]; try clear hb2))
      | ((with_reducible refine Gd_b ?_ ?_) <;> intro hb <;> first | contradiction | simp (maxSteps := 500000) (disch := omega) only [go_sem, Bool.not_not, List.mem_singleton, forall_eq, ↓reduceIte, if_pos, rowsAt_map, wrap64, wrapu8, List.getElem?_cons_zero, List.getElem?_cons_succ, Int.reduceToNat, Nat.reduceAdd, Nat.reduceBEq, Bool.or_false, Bool.false_or, Bool.true_or, Nat.reduceSub, Nat.reduceMul, Int.reduceAdd, Int.reduceEq, Int.reduceLT, Int.reduceLE, Int.reduceNeg, Nat.reduceLT, Nat.reduceLeDiff, hx, f1, f2, f3, f4, f5, f6, hb])
      | ((with_reducible refine Res_id ?_); simp (maxSteps := 500000) (disch := omega) only [go_sem, Bool.not_not, List.mem_singleton, forall_eq, ↓reduceIte, if_pos, rowsAt_map, wrap64, wrapu8, List.getElem?_cons_zero, List.getElem?_cons_succ, Int.reduceToNat, Nat.reduceAdd, Nat.reduceBEq, Bool.or_false, Bool.false_or, Bool.true_or, Nat.reduceSub, Nat.reduceMul, Int.reduceAdd, Int.reduceEq, Int.reduceLT, Int.reduceLE, Int.reduceNeg, Nat.reduceLT, Nat.reduceLeDiff, hx, f1, f2, f3, f4, f5, f6])
      | ((with_reducible refine awp_drawnC ?_ ?_); rfl; simp (maxSteps := 500000) (disch := omega) only [go_sem, Bool.not_not, List.mem_singleton, forall_eq, ↓reduceIte, if_pos, rowsAt_map, wrap64, wrapu8, List.getElem?_cons_zero, List.getElem?_cons_succ, Int.reduceToNat, Nat.reduceAdd, Nat.reduceBEq, Bool.or_false, Bool.false_or, Bool.true_or, Nat.reduceSub, Nat.reduceMul, Int.reduceAdd, Int.reduceEq, Int.reduceLT, Int.reduceLE, Int.reduceNeg, Nat.reduceLT, Nat.reduceLeDiff, hx, f1, f2, f3, f4, f5, f6])
      | ((with_reducible refine awp_drawnA ?_ ?_); rfl; simp (maxSteps := 500000) (disch := omega) only [go_sem, Bool.not_not, List.mem_singleton, forall_eq, ↓reduceIte, if_pos, rowsAt_map, wrap64, wrapu8, List.getElem?_cons_zero, List.getElem?_cons_succ, Int.reduceToNat, Nat.reduceAdd, Nat.reduceBEq, Bool.or_false, Bool.false_or, Bool.true_or, Nat.reduceSub, Nat.reduceMul, Int.reduceAdd, Int.reduceEq, Int.reduceLT, Int.reduceLE, Int.reduceNeg, Nat.reduceLT, Nat.reduceLeDiff, hx, f1, f2, f3, f4, f5, f6])
      | ((with_reducible refine CGd_nd ?_ ?_) <;> intro hb hb2 <;> first | contradiction | (exfalso; omega) | (simp (maxSteps := 500000) (disch := omega) only [go_sem, Bool.not_not, List.mem_singleton, forall_eq, ↓reduceIte, if_pos, rowsAt_map, wrap64, wrapu8, List.getElem?_cons_zero, List.getElem?_cons_succ, Int.reduceToNat, Nat.reduceAdd, Nat.reduceBEq, Bool.or_false, Bool.false_or, Bool.true_or, Nat.reduceSub, Nat.reduceMul, Int.reduceAdd, Int.reduceEq, Int.reduceLT, Int.reduceLE, Int.reduceNeg, Nat.reduceLT, Nat.reduceLeDiff, hx, f1, f2, f3, f4, f5, f6, hb2]; try clear hb2))
      | ((with_reducible refine CGd_nb ?_ ?_) <;> intro hb <;> first | contradiction | simp (maxSteps := 500000) (disch := omega) only [go_sem, Bool.not_not, List.mem_singleton, forall_eq, ↓reduceIte, if_pos, rowsAt_map, wrap64, wrapu8, List.getElem?_cons_zero, List.getElem?_cons_succ, Int.reduceToNat, Nat.reduceAdd, Nat.reduceBEq, Bool.or_false, Bool.false_or, Bool.true_or, Nat.reduceSub, Nat.reduceMul, Int.reduceAdd, Int.reduceEq, Int.reduceLT, Int.reduceLE, Int.reduceNeg, Nat.reduceLT, Nat.reduceLeDiff, hx, f1, f2, f3, f4, f5, f6, hb])
      | ((with_reducible refine CGd_d ?_ ?_) <;> intro hb hb2 <;> first | contradiction | (exfalso; omega) | (simp (maxSteps := 500000) (disch := omega) only [go_sem, Bool.not_not, List.mem_singleton, forall_eq, ↓reduceIte, if_pos, rowsAt_map, wrap64, wrapu8, List.getElem?_cons_zero, List.getElem?_cons_succ, Int.reduceToNat, Nat.reduceAdd, Nat.reduceBEq, Bool.or_false, Bool.false_or, Bool.true_or, Nat.reduceSub, Nat.reduceMul, Int.reduceAdd, Int.reduceEq, Int.reduceLT, Int.reduceLE, Int.reduceNeg, Nat.reduceLT, Nat.reduceLeDiff, hx, f1, f2, f3, f4, f5, f6, hb2]; try clear hb2))
      | ((with_reducible refine CGd_b ?_ ?_) <;> intro hb <;> first | contradiction | simp (maxSteps := 500000) (disch := omega) only [go_sem, Bool.not_not, List.mem_singleton, forall_eq, ↓reduceIte, if_pos, rowsAt_map, wrap64, wrapu8, List.getElem?_cons_zero, List.getElem?_cons_succ, Int.reduceToNat, Nat.reduceAdd, Nat.reduceBEq, Bool.or_false, Bool.false_or, Bool.true_or, Nat.reduceSub, Nat.reduceMul, Int.reduceAdd, Int.reduceEq, Int.reduceLT, Int.reduceLE, Int.reduceNeg, Nat.reduceLT, Nat.reduceLeDiff, hx, f1, f2, f3, f4, f5, f6, hb])
      | ((with_reducible refine CRes_id ?_); simp (maxSteps := 500000) (disch := omega) only [go_sem, Bool.not_not, List.mem_singleton, forall_eq, ↓reduceIte, if_pos, rowsAt_map, wrap64, wrapu8, List.getElem?_cons_zero, List.getElem?_cons_succ, Int.reduceToNat, Nat.reduceAdd, Nat.reduceBEq, Bool.or_false, Bool.false_or, Bool.true_or, Nat.reduceSub, Nat.reduceMul, Int.reduceAdd, Int.reduceEq, Int.reduceLT, Int.reduceLE, Int.reduceNeg, Nat.reduceLT, Nat.reduceLeDiff, hx, f1, f2, f3, f4, f5, f6])
      | ((with_reducible refine DStep_id ?_); refine dcallP ⟨_, rfl⟩ rfl (by simp (maxSteps := 500000) (disch := omega) only [go_sem, Bool.not_not, List.mem_singleton, forall_eq, ↓reduceIte, if_pos, rowsAt_map, wrap64, wrapu8, List.getElem?_cons_zero, List.getElem?_cons_succ, Int.reduceToNat, Nat.reduceAdd, Nat.reduceBEq, Bool.or_false, Bool.false_or, Bool.true_or, Nat.reduceSub, Nat.reduceMul, Int.reduceAdd, Int.reduceEq, Int.reduceLT, Int.reduceLE, Int.reduceNeg, Nat.reduceLT, Nat.reduceLeDiff, hx, f1, f2, f3, f4, f5, f6]; first | done | rfl | fail) ?_; refine ⟨_, by first | exact ihG i _ 5 rfl hi (by omega) (by omega) (by omega) | exact ihG ((rowG n l i 5).nx + 1) _ 5 (by omega) (by omega) (by omega) (by omega) (by omega) | exact two_ok _ _ _ | fail, ?_⟩; refine ⟨fun _ => rfl, fun _ => rfl, rfl, (fun h => by first | cases h | fail), ?_⟩; try simp (maxSteps := 500000) (disch := omega) only [go_sem, Bool.not_not, List.mem_singleton, forall_eq, ↓reduceIte, if_pos, rowsAt_map, wrap64, wrapu8, List.getElem?_cons_zero, List.getElem?_cons_succ, Int.reduceToNat, Nat.reduceAdd, Nat.reduceBEq, Bool.or_false, Bool.false_or, Bool.true_or, Nat.reduceSub, Nat.reduceMul, Int.reduceAdd, Int.reduceEq, Int.reduceLT, Int.reduceLE, Int.reduceNeg, Nat.reduceLT, Nat.reduceLeDiff, hx, f1, f2, f3, f4, f5, f6])
      | ((with_reducible refine DStep_id ?_); refine dcallPw ⟨_, rfl⟩ rfl (by simp (maxSteps := 500000) (disch := omega) only [go_sem, Bool.not_not, List.mem_singleton, forall_eq, ↓reduceIte, if_pos, rowsAt_map, wrap64, wrapu8, List.getElem?_cons_zero, List.getElem?_cons_succ, Int.reduceToNat, Nat.reduceAdd, Nat.reduceBEq, Bool.or_false, Bool.false_or, Bool.true_or, Nat.reduceSub, Nat.reduceMul, Int.reduceAdd, Int.reduceEq, Int.reduceLT, Int.reduceLE, Int.reduceNeg, Nat.reduceLT, Nat.reduceLeDiff, hx, f1, f2, f3, f4, f5, f6]; first | done | rfl | fail) ?_; refine ⟨_, by first | exact ihG i _ 5 rfl hi (by omega) (by omega) (by omega) | exact ihG ((rowG n l i 5).nx + 1) _ 5 (by omega) (by omega) (by omega) (by omega) (by omega) | exact two_ok _ _ _ | fail, ?_⟩; refine ⟨fun _ => rfl, fun _ => rfl, rfl, ?_⟩; try simp (maxSteps := 500000) (disch := omega) only [go_sem, Bool.not_not, List.mem_singleton, forall_eq, ↓reduceIte, if_pos, rowsAt_map, wrap64, wrapu8, List.getElem?_cons_zero, List.getElem?_cons_succ, Int.reduceToNat, Nat.reduceAdd, Nat.reduceBEq, Bool.or_false, Bool.false_or, Bool.true_or, Nat.reduceSub, Nat.reduceMul, Int.reduceAdd, Int.reduceEq, Int.reduceLT, Int.reduceLE, Int.reduceNeg, Nat.reduceLT, Nat.reduceLeDiff, hx, f1, f2, f3, f4, f5, f6])
      | ((with_reducible refine AWP_c ?_); refine awp_cond_t (by simp (maxSteps := 500000) (disch := omega) only [go_sem, Bool.not_not, List.mem_singleton, forall_eq, ↓reduceIte, if_pos, rowsAt_map, wrap64, wrapu8, List.getElem?_cons_zero, List.getElem?_cons_succ, Int.reduceToNat, Nat.reduceAdd, Nat.reduceBEq, Bool.or_false, Bool.false_or, Bool.true_or, Nat.reduceSub, Nat.reduceMul, Int.reduceAdd, Int.reduceEq, Int.reduceLT, Int.reduceLE, Int.reduceNeg, Nat.reduceLT, Nat.reduceLeDiff, hx, f1, f2, f3, f4, f5, f6]; first | done | fail) ?_)
      | ((with_reducible refine AWP_c ?_); refine awp_cond_f (by simp (maxSteps := 500000) (disch := omega) only [go_sem, Bool.not_not, List.mem_singleton, forall_eq, ↓reduceIte, if_pos, rowsAt_map, wrap64, wrapu8, List.getElem?_cons_zero, List.getElem?_cons_succ, Int.reduceToNat, Nat.reduceAdd, Nat.reduceBEq, Bool.or_false, Bool.false_or, Bool.true_or, Nat.reduceSub, Nat.reduceMul, Int.reduceAdd, Int.reduceEq, Int.reduceLT, Int.reduceLE, Int.reduceNeg, Nat.reduceLT, Nat.reduceLeDiff, hx, f1, f2, f3, f4, f5, f6]; first | done | fail) ?_)
      | ((with_reducible refine AWP_c ?_); refine cond_nd (by simp (maxSteps := 500000) (disch := omega) only [go_sem, Bool.not_not, List.mem_singleton, forall_eq, ↓reduceIte, if_pos, rowsAt_map, wrap64, wrapu8, List.getElem?_cons_zero, List.getElem?_cons_succ, Int.reduceToNat, Nat.reduceAdd, Nat.reduceBEq, Bool.or_false, Bool.false_or, Bool.true_or, Nat.reduceSub, Nat.reduceMul, Int.reduceAdd, Int.reduceEq, Int.reduceLT, Int.reduceLE, Int.reduceNeg, Nat.reduceLT, Nat.reduceLeDiff, hx, f1, f2, f3, f4, f5, f6]; first | done | rfl) ?_ ?_ <;> intro hb hb2 <;> first | contradiction | (exfalso; omega) | ((try simp (maxSteps := 500000) (disch := omega) only [go_sem, Bool.not_not, List.mem_singleton, forall_eq, ↓reduceIte, if_pos, rowsAt_map, wrap64, wrapu8, List.getElem?_cons_zero, List.getElem?_cons_succ, Int.reduceToNat, Nat.reduceAdd, Nat.reduceBEq, Bool.or_false, Bool.false_or, Bool.true_or, Nat.reduceSub, Nat.reduceMul, Int.reduceAdd, Int.reduceEq, Int.reduceLT, Int.reduceLE, Int.reduceNeg, Nat.reduceLT, Nat.reduceLeDiff, hx, f1, f2, f3, f4, f5, f6, hb2]); try clear hb2))
      | ((with_reducible refine AWP_c ?_); refine cond_d (by simp (maxSteps := 500000) (disch := omega) only [go_sem, Bool.not_not, List.mem_singleton, forall_eq, ↓reduceIte, if_pos, rowsAt_map, wrap64, wrapu8, List.getElem?_cons_zero, List.getElem?_cons_succ, Int.reduceToNat, Nat.reduceAdd, Nat.reduceBEq, Bool.or_false, Bool.false_or, Bool.true_or, Nat.reduceSub, Nat.reduceMul, Int.reduceAdd, Int.reduceEq, Int.reduceLT, Int.reduceLE, Int.reduceNeg, Nat.reduceLT, Nat.reduceLeDiff, hx, f1, f2, f3, f4, f5, f6]; first | done | rfl) ?_ ?_ <;> intro hb hb2 <;> first | contradiction | (exfalso; omega) | ((try simp (maxSteps := 500000) (disch := omega) only [go_sem, Bool.not_not, List.mem_singleton, forall_eq, ↓reduceIte, if_pos, rowsAt_map, wrap64, wrapu8, List.getElem?_cons_zero, List.getElem?_cons_succ, Int.reduceToNat, Nat.reduceAdd, Nat.reduceBEq, Bool.or_false, Bool.false_or, Bool.true_or, Nat.reduceSub, Nat.reduceMul, Int.reduceAdd, Int.reduceEq, Int.reduceLT, Int.reduceLE, Int.reduceNeg, Nat.reduceLT, Nat.reduceLeDiff, hx, f1, f2, f3, f4, f5, f6, hb2]); try clear hb2))
      | ((with_reducible refine AWP_c ?_); refine cond_nb (by simp (maxSteps := 500000) (disch := omega) only [go_sem, Bool.not_not, List.mem_singleton, forall_eq, ↓reduceIte, if_pos, rowsAt_map, wrap64, wrapu8, List.getElem?_cons_zero, List.getElem?_cons_succ, Int.reduceToNat, Nat.reduceAdd, Nat.reduceBEq, Bool.or_false, Bool.false_or, Bool.true_or, Nat.reduceSub, Nat.reduceMul, Int.reduceAdd, Int.reduceEq, Int.reduceLT, Int.reduceLE, Int.reduceNeg, Nat.reduceLT, Nat.reduceLeDiff, hx, f1, f2, f3, f4, f5, f6]; first | done | rfl) ?_ ?_ <;> intro hb <;> first | contradiction | (try simp (maxSteps := 500000) (disch := omega) only [go_sem, Bool.not_not, List.mem_singleton, forall_eq, ↓reduceIte, if_pos, rowsAt_map, wrap64, wrapu8, List.getElem?_cons_zero, List.getElem?_cons_succ, Int.reduceToNat, Nat.reduceAdd, Nat.reduceBEq, Bool.or_false, Bool.false_or, Bool.true_or, Nat.reduceSub, Nat.reduceMul, Int.reduceAdd, Int.reduceEq, Int.reduceLT, Int.reduceLE, Int.reduceNeg, Nat.reduceLT, Nat.reduceLeDiff, hx, f1, f2, f3, f4, f5, f6, hb]))
      | ((with_reducible refine AWP_c ?_); refine awp_cond (by simp (maxSteps := 500000) (disch := omega) only [go_sem, Bool.not_not, List.mem_singleton, forall_eq, ↓reduceIte, if_pos, rowsAt_map, wrap64, wrapu8, List.getElem?_cons_zero, List.getElem?_cons_succ, Int.reduceToNat, Nat.reduceAdd, Nat.reduceBEq, Bool.or_false, Bool.false_or, Bool.true_or, Nat.reduceSub, Nat.reduceMul, Int.reduceAdd, Int.reduceEq, Int.reduceLT, Int.reduceLE, Int.reduceNeg, Nat.reduceLT, Nat.reduceLeDiff, hx, f1, f2, f3, f4, f5, f6]; first | done | rfl) ?_ ?_ <;> intro hb <;> first | contradiction | (try simp (maxSteps := 500000) (disch := omega) only [go_sem, Bool.not_not, List.mem_singleton, forall_eq, ↓reduceIte, if_pos, rowsAt_map, wrap64, wrapu8, List.getElem?_cons_zero, List.getElem?_cons_succ, Int.reduceToNat, Nat.reduceAdd, Nat.reduceBEq, Bool.or_false, Bool.false_or, Bool.true_or, Nat.reduceSub, Nat.reduceMul, Int.reduceAdd, Int.reduceEq, Int.reduceLT, Int.reduceLE, Int.reduceNeg, Nat.reduceLT, Nat.reduceLeDiff, hx, f1, f2, f3, f4, f5, f6, hb]))
      | ((with_reducible refine awp_ret ?_); refine fin_r ?_)
      | ((with_reducible refine awp_ret ?_); refine fin_q ?_ ?_)
      | with_reducible refine fin_qn ?_ ?_
      | ((with_reducible refine awp_skip ?_); simp (maxSteps := 500000) (disch := omega) only [go_sem, Bool.not_not, List.mem_singleton, forall_eq, ↓reduceIte, if_pos, rowsAt_map, wrap64, wrapu8, List.getElem?_cons_zero, List.getElem?_cons_succ, Int.reduceToNat, Nat.reduceAdd, Nat.reduceBEq, Bool.or_false, Bool.false_or, Bool.true_or, Nat.reduceSub, Nat.reduceMul, Int.reduceAdd, Int.reduceEq, Int.reduceLT, Int.reduceLE, Int.reduceNeg, Nat.reduceLT, Nat.reduceLeDiff, hx, f1, f2, f3, f4, f5, f6])
      | with_reducible refine awp_block ?_
      | ((with_reducible refine awp_exit ?_); simp (maxSteps := 500000) (disch := omega) only [go_sem, Bool.not_not, List.mem_singleton, forall_eq, ↓reduceIte, if_pos, rowsAt_map, wrap64, wrapu8, List.getElem?_cons_zero, List.getElem?_cons_succ, Int.reduceToNat, Nat.reduceAdd, Nat.reduceBEq, Bool.or_false, Bool.false_or, Bool.true_or, Nat.reduceSub, Nat.reduceMul, Int.reduceAdd, Int.reduceEq, Int.reduceLT, Int.reduceLE, Int.reduceNeg, Nat.reduceLT, Nat.reduceLeDiff, hx, f1, f2, f3, f4, f5, f6])
      | ((with_reducible refine CallK_id ?_); refine callF ⟨_, rfl⟩ rfl (by simp (maxSteps := 500000) (disch := omega) only [go_sem, Bool.not_not, List.mem_singleton, forall_eq, ↓reduceIte, if_pos, rowsAt_map, wrap64, wrapu8, List.getElem?_cons_zero, List.getElem?_cons_succ, Int.reduceToNat, Nat.reduceAdd, Nat.reduceBEq, Bool.or_false, Bool.false_or, Bool.true_or, Nat.reduceSub, Nat.reduceMul, Int.reduceAdd, Int.reduceEq, Int.reduceLT, Int.reduceLE, Int.reduceNeg, Nat.reduceLT, Nat.reduceLeDiff, hx, f1, f2, f3, f4, f5, f6]; first | done | rfl | fail) ?_; refine ⟨_, by first | exact ihG i _ 5 rfl hi (by omega) (by omega) (by omega) | exact ihG ((rowG n l i 5).nx + 1) _ 5 (by omega) (by omega) (by omega) (by omega) (by omega) | exact two_ok _ _ _ | fail, ?_⟩; refine ⟨fun _ => rfl, fun _ => rfl, rfl, ?_⟩; try simp (maxSteps := 500000) (disch := omega) only [go_sem, Bool.not_not, List.mem_singleton, forall_eq, ↓reduceIte, if_pos, rowsAt_map, wrap64, wrapu8, List.getElem?_cons_zero, List.getElem?_cons_succ, Int.reduceToNat, Nat.reduceAdd, Nat.reduceBEq, Bool.or_false, Bool.false_or, Bool.true_or, Nat.reduceSub, Nat.reduceMul, Int.reduceAdd, Int.reduceEq, Int.reduceLT, Int.reduceLE, Int.reduceNeg, Nat.reduceLT, Nat.reduceLeDiff, hx, f1, f2, f3, f4, f5, f6])
      | fail
      all_goals (repeat' split) <;> first | contradiction | (exfalso; omega) | (simp [go_sem, cmpT, T.op, T.n, T.kids, f1, f2, f3, f4, f5, f6]; done) | trace_state
end
end Go.Eng
open Go Go.Proofs
namespace Go.Eng
set_option linter.unusedSimpArgs false
set_option linter.unusedVariables false
set_option maxRecDepth 100000
set_option maxHeartbeats 8000000

section
variable (l : List Tok) (hl : l.length ≤ 100000000) (hp : okP l)
theorem loopG_stop {l : List Tok} {g : Gt} {r : Int} (m : Nat) (h : ¬ (g.bd < 0 ∧ g.nx < l.length ∧ opF (gt l g.nx).text r ≠ 0)) : loopG m l g r = g := by
  cases m with
  | zero => rw [loopG]
  | succ m => rw [loopG, if_neg h]
include hl in
theorem rowG_ok (n : Nat) (ihG : ∀ m, m ≤ n → PG l m) (ihC : PC l n) (ihO : PO l n) : PG l (n + 1) := by
  intro i j r hj hi h1 h7 hn
  subst hj
  by_cases h3 : r = 3
  · subst h3
    rw [rowG, if_pos rfl]
    by_cases hi2 : i < l.length
    · have hb := (rowG_in n l (i + 1) 3 hi2).1
      refine afn_body Tryd.func27 rfl (by decide) ?_
      simp only [Tryd.ntmps27, Tryd.results27, List.length_cons, List.length_nil, List.cons_append, List.nil_append, Nat.reduceAdd, Nat.reduceSub, List.replicate]
      repeat' first
      | with_reducible refine awp_seq ?_
      | ((with_reducible refine awp_region ?_); refine zS ?_)
      | ((with_reducible refine Gd_nd ?_ ?_) <;> intro hb hb2 <;> first | contradiction | (exfalso; omega) | (refine zH hb2 ?_; try clear hb2))
      | ((with_reducible refine Gd_nb ?_ ?_) <;> intro hb <;> first | contradiction | refine zH hb ?_)
      | ((with_reducible refine Gd_d ?_ ?_) <;> intro hb hb2 <;> first | contradiction | (exfalso; omega) | (refine zH hb2 ?_; try clear hb2))
      | ((with_reducible refine Gd_b ?_ ?_) <;> intro hb <;> first | contradiction | refine zH hb ?_)
      | ((with_reducible refine Res_id ?_); refine zS ?_)
      | ((with_reducible refine awp_drawnC ?_ ?_); rfl; refine zS ?_)
      | ((with_reducible refine awp_drawnA ?_ ?_); rfl; refine zS ?_)
      | ((with_reducible refine CGd_nd ?_ ?_) <;> intro hb hb2 <;> first | contradiction | (exfalso; omega) | (refine zH hb2 ?_; try clear hb2))
      | ((with_reducible refine CGd_nb ?_ ?_) <;> intro hb <;> first | contradiction | refine zH hb ?_)
      | ((with_reducible refine CGd_d ?_ ?_) <;> intro hb hb2 <;> first | contradiction | (exfalso; omega) | (refine zH hb2 ?_; try clear hb2))
      | ((with_reducible refine CGd_b ?_ ?_) <;> intro hb <;> first | contradiction | refine zH hb ?_)
      | ((with_reducible refine CRes_id ?_); refine zS ?_)
      | ((with_reducible refine DStep_id ?_); refine zdP ?_; refine ⟨_, by first | exact isI_ok l i _ rfl [110, 111, 116] | exact ihC i _ rfl hi (by omega) | exact ihG n (Nat.le_refl _) (i + 1) _ 3 (by omega) hi2 (by omega) (by omega) (by omega) | fail, fun _ => rfl, fun _ => rfl, rfl, (fun h => by first | cases h | fail), ?_⟩; try refine zS ?_)
      | ((with_reducible refine DStep_id ?_); refine zdW ?_; refine ⟨_, by first | exact isI_ok l i _ rfl [110, 111, 116] | exact ihC i _ rfl hi (by omega) | exact ihG n (Nat.le_refl _) (i + 1) _ 3 (by omega) hi2 (by omega) (by omega) (by omega) | fail, fun _ => rfl, fun _ => rfl, rfl, ?_⟩; try refine zS ?_)
      | ((with_reducible refine AWP_c ?_); refine zcdT ?_)
      | ((with_reducible refine AWP_c ?_); refine zcdF ?_)
      | ((with_reducible refine AWP_c ?_); refine zcdN ?_ ?_ <;> intro hb hb2 <;> first | contradiction | (exfalso; omega) | ((try refine zH hb2 ?_); try clear hb2))
      | ((with_reducible refine AWP_c ?_); refine zcdD ?_ ?_ <;> intro hb hb2 <;> first | contradiction | (exfalso; omega) | ((try refine zH hb2 ?_); try clear hb2))
      | ((with_reducible refine AWP_c ?_); refine zcdM ?_ ?_ <;> intro hb <;> first | contradiction | (try refine zH hb ?_))
      | ((with_reducible refine AWP_c ?_); refine zcdB ?_ ?_ <;> intro hb <;> first | contradiction | (try refine zH hb ?_))
      | ((with_reducible refine awp_ret ?_); refine fin_r ?_)
      | ((with_reducible refine awp_ret ?_); refine fin_q ?_ ?_)
      | with_reducible refine fin_qn ?_ ?_
      | ((with_reducible refine awp_skip ?_); refine zS ?_)
      | with_reducible refine awp_block ?_
      | ((with_reducible refine awp_exit ?_); refine zS ?_)
      | ((with_reducible refine CallK_id ?_); refine zcF ?_; refine ⟨_, by first | exact isI_ok l i _ rfl [110, 111, 116] | exact ihC i _ rfl hi (by omega) | exact ihG n (Nat.le_refl _) (i + 1) _ 3 (by omega) hi2 (by omega) (by omega) (by omega) | fail, fun _ => rfl, fun _ => rfl, rfl, ?_⟩; try refine zS ?_)
      | exact True.intro
      | fail
      all_goals (repeat' split) <;> first | contradiction | (exfalso; omega) | (exfalso; simp_all; done) | (simp [go_sem, T.op, T.n, T.kids]; done) | trace_state
    · have hg := isI_ok l i _ rfl [110, 111, 116]
      rw [isG_ge hi2] at hg
      rw [isG_ge hi2, if_neg (by decide)]
      refine afn_body Tryd.func27 rfl (by decide) ?_
      simp only [Tryd.ntmps27, Tryd.results27, List.length_cons, List.length_nil, List.cons_append, List.nil_append, Nat.reduceAdd, Nat.reduceSub, List.replicate]
      repeat' first
      | with_reducible refine awp_seq ?_
      | ((with_reducible refine awp_region ?_); refine zS ?_)
      | ((with_reducible refine Gd_nd ?_ ?_) <;> intro hb hb2 <;> first | contradiction | (exfalso; omega) | (refine zH hb2 ?_; try clear hb2))
      | ((with_reducible refine Gd_nb ?_ ?_) <;> intro hb <;> first | contradiction | refine zH hb ?_)
      | ((with_reducible refine Gd_d ?_ ?_) <;> intro hb hb2 <;> first | contradiction | (exfalso; omega) | (refine zH hb2 ?_; try clear hb2))
      | ((with_reducible refine Gd_b ?_ ?_) <;> intro hb <;> first | contradiction | refine zH hb ?_)
      | ((with_reducible refine Res_id ?_); refine zS ?_)
      | ((with_reducible refine awp_drawnC ?_ ?_); rfl; refine zS ?_)
      | ((with_reducible refine awp_drawnA ?_ ?_); rfl; refine zS ?_)
      | ((with_reducible refine CGd_nd ?_ ?_) <;> intro hb hb2 <;> first | contradiction | (exfalso; omega) | (refine zH hb2 ?_; try clear hb2))
      | ((with_reducible refine CGd_nb ?_ ?_) <;> intro hb <;> first | contradiction | refine zH hb ?_)
      | ((with_reducible refine CGd_d ?_ ?_) <;> intro hb hb2 <;> first | contradiction | (exfalso; omega) | (refine zH hb2 ?_; try clear hb2))
      | ((with_reducible refine CGd_b ?_ ?_) <;> intro hb <;> first | contradiction | refine zH hb ?_)
      | ((with_reducible refine CRes_id ?_); refine zS ?_)
      | ((with_reducible refine DStep_id ?_); refine zdP ?_; refine ⟨_, by first | exact hg | exact ihC i _ rfl hi (by omega) | fail, fun _ => rfl, fun _ => rfl, rfl, (fun h => by first | cases h | fail), ?_⟩; try refine zS ?_)
      | ((with_reducible refine DStep_id ?_); refine zdW ?_; refine ⟨_, by first | exact hg | exact ihC i _ rfl hi (by omega) | fail, fun _ => rfl, fun _ => rfl, rfl, ?_⟩; try refine zS ?_)
      | ((with_reducible refine AWP_c ?_); refine zcdT ?_)
      | ((with_reducible refine AWP_c ?_); refine zcdF ?_)
      | ((with_reducible refine AWP_c ?_); refine zcdN ?_ ?_ <;> intro hb hb2 <;> first | contradiction | (exfalso; omega) | ((try refine zH hb2 ?_); try clear hb2))
      | ((with_reducible refine AWP_c ?_); refine zcdD ?_ ?_ <;> intro hb hb2 <;> first | contradiction | (exfalso; omega) | ((try refine zH hb2 ?_); try clear hb2))
      | ((with_reducible refine AWP_c ?_); refine zcdM ?_ ?_ <;> intro hb <;> first | contradiction | (try refine zH hb ?_))
      | ((with_reducible refine AWP_c ?_); refine zcdB ?_ ?_ <;> intro hb <;> first | contradiction | (try refine zH hb ?_))
      | ((with_reducible refine awp_ret ?_); refine fin_r ?_)
      | ((with_reducible refine awp_ret ?_); refine fin_q ?_ ?_)
      | with_reducible refine fin_qn ?_ ?_
      | ((with_reducible refine awp_skip ?_); refine zS ?_)
      | with_reducible refine awp_block ?_
      | ((with_reducible refine awp_exit ?_); refine zS ?_)
      | ((with_reducible refine CallK_id ?_); refine zcF ?_; refine ⟨_, by first | exact hg | exact ihC i _ rfl hi (by omega) | fail, fun _ => rfl, fun _ => rfl, rfl, ?_⟩; try refine zS ?_)
      | exact True.intro
      | fail
      all_goals (simp [go_sem]; done)
  by_cases h77 : r = 7
  · subst h77
    rw [rowG, if_neg h3, if_pos rfl]
    refine afn_body Tryd.func27 rfl (by decide) ?_
    simp only [Tryd.ntmps27, Tryd.results27, List.length_cons, List.length_nil, List.cons_append, List.nil_append, Nat.reduceAdd, Nat.reduceSub, List.replicate]
    repeat' first
    | with_reducible refine awp_seq ?_
    | ((with_reducible refine awp_region ?_); refine zS ?_)
    | ((with_reducible refine Gd_nd ?_ ?_) <;> intro hb hb2 <;> first | contradiction | (exfalso; omega) | (refine zH hb2 ?_; try clear hb2))
    | ((with_reducible refine Gd_nb ?_ ?_) <;> intro hb <;> first | contradiction | refine zH hb ?_)
    | ((with_reducible refine Gd_d ?_ ?_) <;> intro hb hb2 <;> first | contradiction | (exfalso; omega) | (refine zH hb2 ?_; try clear hb2))
    | ((with_reducible refine Gd_b ?_ ?_) <;> intro hb <;> first | contradiction | refine zH hb ?_)
    | ((with_reducible refine Res_id ?_); refine zS ?_)
    | ((with_reducible refine awp_drawnC ?_ ?_); rfl; refine zS ?_)
    | ((with_reducible refine awp_drawnA ?_ ?_); rfl; refine zS ?_)
    | ((with_reducible refine CGd_nd ?_ ?_) <;> intro hb hb2 <;> first | contradiction | (exfalso; omega) | (refine zH hb2 ?_; try clear hb2))
    | ((with_reducible refine CGd_nb ?_ ?_) <;> intro hb <;> first | contradiction | refine zH hb ?_)
    | ((with_reducible refine CGd_d ?_ ?_) <;> intro hb hb2 <;> first | contradiction | (exfalso; omega) | (refine zH hb2 ?_; try clear hb2))
    | ((with_reducible refine CGd_b ?_ ?_) <;> intro hb <;> first | contradiction | refine zH hb ?_)
    | ((with_reducible refine CRes_id ?_); refine zS ?_)
    | ((with_reducible refine DStep_id ?_); refine zdP ?_; refine ⟨_, by first | exact ihO i _ rfl hi (by omega) | fail, fun _ => rfl, fun _ => rfl, rfl, (fun h => by first | cases h | fail), ?_⟩; try refine zS ?_)
    | ((with_reducible refine DStep_id ?_); refine zdW ?_; refine ⟨_, by first | exact ihO i _ rfl hi (by omega) | fail, fun _ => rfl, fun _ => rfl, rfl, ?_⟩; try refine zS ?_)
    | ((with_reducible refine AWP_c ?_); refine zcdT ?_)
    | ((with_reducible refine AWP_c ?_); refine zcdF ?_)
    | ((with_reducible refine AWP_c ?_); refine zcdN ?_ ?_ <;> intro hb hb2 <;> first | contradiction | (exfalso; omega) | ((try refine zH hb2 ?_); try clear hb2))
    | ((with_reducible refine AWP_c ?_); refine zcdD ?_ ?_ <;> intro hb hb2 <;> first | contradiction | (exfalso; omega) | ((try refine zH hb2 ?_); try clear hb2))
    | ((with_reducible refine AWP_c ?_); refine zcdM ?_ ?_ <;> intro hb <;> first | contradiction | (try refine zH hb ?_))
    | ((with_reducible refine AWP_c ?_); refine zcdB ?_ ?_ <;> intro hb <;> first | contradiction | (try refine zH hb ?_))
    | ((with_reducible refine awp_ret ?_); refine fin_r ?_)
    | ((with_reducible refine awp_ret ?_); refine fin_q ?_ ?_)
    | with_reducible refine fin_qn ?_ ?_
    | ((with_reducible refine awp_skip ?_); refine zS ?_)
    | with_reducible refine awp_block ?_
    | ((with_reducible refine awp_exit ?_); refine zS ?_)
    | ((with_reducible refine CallK_id ?_); refine zcF ?_; refine ⟨_, by first | exact ihO i _ rfl hi (by omega) | fail, fun _ => rfl, fun _ => rfl, rfl, ?_⟩; try refine zS ?_)
    | exact True.intro
    | fail
    all_goals (simp [go_sem]; done)
  have e0 : rowG (n + 1) l i r = loopG n l (rowG n l i (r + 1)) r := by rw [rowG, if_neg h3, if_neg h77]
  have hin := rowG_in n l i (r + 1) hi
  refine afn_body Tryd.func27 rfl (by decide) ?_
  simp only [Tryd.ntmps27, Tryd.results27, List.length_cons, List.length_nil, List.cons_append, List.nil_append, Nat.reduceAdd, Nat.reduceSub, List.replicate]
  repeat' first
  | with_reducible refine awp_seq ?_
  | ((with_reducible refine awp_region ?_); refine zS ?_)
  | ((with_reducible refine Gd_nd ?_ ?_) <;> intro hb hb2 <;> first | contradiction | (exfalso; omega) | (refine zH hb2 ?_; try clear hb2))
  | ((with_reducible refine Gd_nb ?_ ?_) <;> intro hb <;> first | contradiction | refine zH hb ?_)
  | ((with_reducible refine Gd_d ?_ ?_) <;> intro hb hb2 <;> first | contradiction | (exfalso; omega) | (refine zH hb2 ?_; try clear hb2))
  | ((with_reducible refine Gd_b ?_ ?_) <;> intro hb <;> first | contradiction | refine zH hb ?_)
  | ((with_reducible refine Res_id ?_); refine zS ?_)
  | ((with_reducible refine awp_drawnC ?_ ?_); rfl; refine zS ?_)
  | ((with_reducible refine awp_drawnA ?_ ?_); rfl; refine zS ?_)
  | ((with_reducible refine CGd_nd ?_ ?_) <;> intro hb hb2 <;> first | contradiction | (exfalso; omega) | (refine zH hb2 ?_; try clear hb2))
  | ((with_reducible refine CGd_nb ?_ ?_) <;> intro hb <;> first | contradiction | refine zH hb ?_)
  | ((with_reducible refine CGd_d ?_ ?_) <;> intro hb hb2 <;> first | contradiction | (exfalso; omega) | (refine zH hb2 ?_; try clear hb2))
  | ((with_reducible refine CGd_b ?_ ?_) <;> intro hb <;> first | contradiction | refine zH hb ?_)
  | ((with_reducible refine CRes_id ?_); refine zS ?_)
  | ((with_reducible refine DStep_id ?_); refine zdP ?_; refine ⟨_, by first | exact ihG n (Nat.le_refl _) i _ (r + 1) rfl hi (by omega) (by omega) (by omega) | fail, fun _ => rfl, fun _ => rfl, rfl, (fun h => by first | cases h | fail), ?_⟩; try refine zS ?_)
  | ((with_reducible refine DStep_id ?_); refine zdW ?_; refine ⟨_, by first | exact ihG n (Nat.le_refl _) i _ (r + 1) rfl hi (by omega) (by omega) (by omega) | fail, fun _ => rfl, fun _ => rfl, rfl, ?_⟩; try refine zS ?_)
  | ((with_reducible refine AWP_c ?_); refine zcdT ?_)
  | ((with_reducible refine AWP_c ?_); refine zcdF ?_)
  | ((with_reducible refine AWP_c ?_); refine zcdN ?_ ?_ <;> intro hb hb2 <;> first | contradiction | (exfalso; omega) | ((try refine zH hb2 ?_); try clear hb2))
  | ((with_reducible refine AWP_c ?_); refine zcdD ?_ ?_ <;> intro hb hb2 <;> first | contradiction | (exfalso; omega) | ((try refine zH hb2 ?_); try clear hb2))
  | ((with_reducible refine AWP_c ?_); refine zcdM ?_ ?_ <;> intro hb <;> first | contradiction | (try refine zH hb ?_))
  | ((with_reducible refine AWP_c ?_); refine zcdB ?_ ?_ <;> intro hb <;> first | contradiction | (try refine zH hb ?_))
  | ((with_reducible refine awp_ret ?_); refine fin_r ?_)
  | ((with_reducible refine awp_ret ?_); refine fin_q ?_ ?_)
  | with_reducible refine fin_qn ?_ ?_
  | ((with_reducible refine awp_skip ?_); refine zS ?_)
  | with_reducible refine awp_block ?_
  | ((with_reducible refine awp_exit ?_); refine zS ?_)
  | ((with_reducible refine CallK_id ?_); refine zcF ?_; refine ⟨_, by first | exact ihG n (Nat.le_refl _) i _ (r + 1) rfl hi (by omega) (by omega) (by omega) | fail, fun _ => rfl, fun _ => rfl, rfl, ?_⟩; try refine zS ?_)
  | exact True.intro
  | fail
  refine awp_loopT (fun st : Nat × Gt => st.1 ≤ n ∧ InG l i st.2 ∧ (st.2.bd < 0 → 20 * ((l.length : Int) - st.2.nx) + 2 * (9 - r) - 2 ≤ st.1) ∧ rowG (n + 1) l i r = loopG st.1 l st.2 r) (fun st => st.1) (fun _ => [])
    (fun st => [some (.box [.d (dI 0), .d (dI 0), .nils, .d (dI 0), .d (dI 0)]), some (.box [.d (dI st.2.t.op), .d (dI st.2.t.n), .d (.fz (st.2.t.kids.map T.row)), .d (dI st.2.nx), .d (dI st.2.bd)])])
    (n, rowG n l i (r + 1)) ⟨by simp, hin, fun h => by have := hin.2.2.2 h; simp only; omega, e0⟩ (wk_le (by simp only [go_sem, Bool.not_not, List.mem_singleton, forall_eq, ↓reduceIte, if_pos, rowsAt_map, wrap64, wrapu8, List.getElem?_cons_zero, List.getElem?_cons_succ, Int.reduceToNat, Nat.reduceAdd, Nat.reduceBEq, Bool.or_false, Bool.false_or, Bool.true_or, Nat.reduceSub, Nat.reduceMul, Int.reduceAdd, Int.reduceEq, Int.reduceLT, Int.reduceLE, Int.reduceNeg, Nat.reduceLT, Nat.reduceLeDiff]; try simp) (by simp only [go_sem, Bool.not_not, List.mem_singleton, forall_eq, ↓reduceIte, if_pos, rowsAt_map, wrap64, wrapu8, List.getElem?_cons_zero, List.getElem?_cons_succ, Int.reduceToNat, Nat.reduceAdd, Nat.reduceBEq, Bool.or_false, Bool.false_or, Bool.true_or, Nat.reduceSub, Nat.reduceMul, Int.reduceAdd, Int.reduceEq, Int.reduceLT, Int.reduceLE, Int.reduceNeg, Nat.reduceLT, Nat.reduceLeDiff]; first | done | rfl)) ?_
  rintro ⟨m, ⟨t1, nx, bd⟩⟩ ⟨i1, i2, i3, i4⟩
  simp only at i1 i3 i4
  have i21 : nx ≤ l.length := i2.1
  have i22 : -1 ≤ bd := i2.2.1
  have i24 : bd < 0 → i ≤ nx := i2.2.2.2
  clear e0 hin
  by_cases hc : bd < 0 ∧ nx < l.length ∧ opF (gt l nx).text r ≠ 0
  · obtain ⟨m, rfl⟩ : ∃ m', m = m' + 1 := ⟨m - 1, by have := i3 hc.1; omega⟩
    have hb := rowG_in m l (nx + 1) (r + 1) hc.2.1
    have hb1 := hb.1
    have hb4 := hb.2.2.2
    obtain ⟨c1, c2, c3⟩ := hc
    rw [loopG, if_pos ⟨c1, c2, c3⟩] at i4
    simp only at i4
    have i5 := i3 c1
    refine zT ?_
    repeat' first
    | with_reducible refine awp_seq ?_
    | ((with_reducible refine awp_region ?_); refine zS ?_)
    | ((with_reducible refine Gd_nd ?_ ?_) <;> intro hb hb2 <;> first | contradiction | (exfalso; omega) | (refine zH hb2 ?_; try clear hb2))
    | ((with_reducible refine Gd_nb ?_ ?_) <;> intro hb <;> first | contradiction | refine zH hb ?_)
    | ((with_reducible refine Gd_d ?_ ?_) <;> intro hb hb2 <;> first | contradiction | (exfalso; omega) | (refine zH hb2 ?_; try clear hb2))
    | ((with_reducible refine Gd_b ?_ ?_) <;> intro hb <;> first | contradiction | refine zH hb ?_)
    | ((with_reducible refine Res_id ?_); refine zS ?_)
    | ((with_reducible refine awp_drawnC ?_ ?_); rfl; refine zS ?_)
    | ((with_reducible refine awp_drawnA ?_ ?_); rfl; refine zS ?_)
    | ((with_reducible refine CGd_nd ?_ ?_) <;> intro hb hb2 <;> first | contradiction | (exfalso; omega) | (refine zH hb2 ?_; try clear hb2))
    | ((with_reducible refine CGd_nb ?_ ?_) <;> intro hb <;> first | contradiction | refine zH hb ?_)
    | ((with_reducible refine CGd_d ?_ ?_) <;> intro hb hb2 <;> first | contradiction | (exfalso; omega) | (refine zH hb2 ?_; try clear hb2))
    | ((with_reducible refine CGd_b ?_ ?_) <;> intro hb <;> first | contradiction | refine zH hb ?_)
    | ((with_reducible refine CRes_id ?_); refine zS ?_)
    | ((with_reducible refine DStep_id ?_); refine zdP ?_; refine ⟨_, by first | exact op_ok _ _ | exact ihG m (by omega) (nx + 1) _ (r + 1) (by omega) c2 (by omega) (by omega) (by omega) | exact two_ok _ _ _ | fail, fun _ => rfl, fun _ => rfl, rfl, (fun h => by first | cases h | fail), ?_⟩; try refine zS ?_)
    | ((with_reducible refine DStep_id ?_); refine zdW ?_; refine ⟨_, by first | exact op_ok _ _ | exact ihG m (by omega) (nx + 1) _ (r + 1) (by omega) c2 (by omega) (by omega) (by omega) | exact two_ok _ _ _ | fail, fun _ => rfl, fun _ => rfl, rfl, ?_⟩; try refine zS ?_)
    | ((with_reducible refine AWP_c ?_); refine zcdT ?_)
    | ((with_reducible refine AWP_c ?_); refine zcdF ?_)
    | ((with_reducible refine AWP_c ?_); refine zcdN ?_ ?_ <;> intro hb hb2 <;> first | contradiction | (exfalso; omega) | ((try refine zH hb2 ?_); try clear hb2))
    | ((with_reducible refine AWP_c ?_); refine zcdD ?_ ?_ <;> intro hb hb2 <;> first | contradiction | (exfalso; omega) | ((try refine zH hb2 ?_); try clear hb2))
    | ((with_reducible refine AWP_c ?_); refine zcdM ?_ ?_ <;> intro hb <;> first | contradiction | (try refine zH hb ?_))
    | ((with_reducible refine AWP_c ?_); refine zcdB ?_ ?_ <;> intro hb <;> first | contradiction | (try refine zH hb ?_))
    | ((with_reducible refine awp_ret ?_); refine fin_r ?_)
    | ((with_reducible refine awp_ret ?_); refine fin_q ?_ ?_)
    | with_reducible refine fin_qn ?_ ?_
    | ((with_reducible refine awp_skip ?_); refine zS ?_)
    | with_reducible refine awp_block ?_
    | ((with_reducible refine awp_exit ?_); refine zS ?_)
    | ((with_reducible refine CallK_id ?_); refine zcF ?_; refine ⟨_, by first | exact op_ok _ _ | exact ihG m (by omega) (nx + 1) _ (r + 1) (by omega) c2 (by omega) (by omega) (by omega) | exact two_ok _ _ _ | fail, fun _ => rfl, fun _ => rfl, rfl, ?_⟩; try refine zS ?_)
    | exact True.intro
    | fail
    · rw [i4, if_pos (by omega)]
    · have hbb := hb4 (by omega)
      rw [if_neg (by omega)] at i4
      exact ⟨(m, ⟨.mk (opF (gt l nx).text r) 0 [t1, (rowG m l (nx + 1) (r + 1)).t], (rowG m l (nx + 1) (r + 1)).nx, -1⟩), ⟨by simp only; omega, ⟨hb1, by simp only; omega, by simp only; omega, fun _ => by simp only; omega⟩, fun _ => by simp only; omega, i4⟩, by simp only; omega,
        wk_cl 2 (by decide) (by simp) (by simp only [go_sem, Bool.not_not, List.mem_singleton, forall_eq, ↓reduceIte, if_pos, rowsAt_map, wrap64, wrapu8, List.getElem?_cons_zero, List.getElem?_cons_succ, Int.reduceToNat, Nat.reduceAdd, Nat.reduceBEq, Bool.or_false, Bool.false_or, Bool.true_or, Nat.reduceSub, Nat.reduceMul, Int.reduceAdd, Int.reduceEq, Int.reduceLT, Int.reduceLE, Int.reduceNeg, Nat.reduceLT, Nat.reduceLeDiff]; try simp) (by simp [go_sem, Bool.not_not, List.mem_singleton, forall_eq, ↓reduceIte, if_pos, rowsAt_map, wrap64, wrapu8, List.getElem?_cons_zero, List.getElem?_cons_succ, Int.reduceToNat, Nat.reduceAdd, Nat.reduceBEq, Bool.or_false, Bool.false_or, Bool.true_or, Nat.reduceSub, Nat.reduceMul, Int.reduceAdd, Int.reduceEq, Int.reduceLT, Int.reduceLE, Int.reduceNeg, Nat.reduceLT, Nat.reduceLeDiff, T.op, T.n, T.kids])⟩
  · rw [loopG_stop (g := ⟨t1, nx, bd⟩) m hc] at i4
    refine zT ?_
    repeat' first
    | with_reducible refine awp_seq ?_
    | ((with_reducible refine awp_region ?_); refine zS ?_)
    | ((with_reducible refine Gd_nd ?_ ?_) <;> intro hb hb2 <;> first | contradiction | (exfalso; omega) | (refine zH hb2 ?_; try clear hb2))
    | ((with_reducible refine Gd_nb ?_ ?_) <;> intro hb <;> first | contradiction | refine zH hb ?_)
    | ((with_reducible refine Gd_d ?_ ?_) <;> intro hb hb2 <;> first | contradiction | (exfalso; omega) | (refine zH hb2 ?_; try clear hb2))
    | ((with_reducible refine Gd_b ?_ ?_) <;> intro hb <;> first | contradiction | refine zH hb ?_)
    | ((with_reducible refine Res_id ?_); refine zS ?_)
    | ((with_reducible refine awp_drawnC ?_ ?_); rfl; refine zS ?_)
    | ((with_reducible refine awp_drawnA ?_ ?_); rfl; refine zS ?_)
    | ((with_reducible refine CGd_nd ?_ ?_) <;> intro hb hb2 <;> first | contradiction | (exfalso; omega) | (refine zH hb2 ?_; try clear hb2))
    | ((with_reducible refine CGd_nb ?_ ?_) <;> intro hb <;> first | contradiction | refine zH hb ?_)
    | ((with_reducible refine CGd_d ?_ ?_) <;> intro hb hb2 <;> first | contradiction | (exfalso; omega) | (refine zH hb2 ?_; try clear hb2))
    | ((with_reducible refine CGd_b ?_ ?_) <;> intro hb <;> first | contradiction | refine zH hb ?_)
    | ((with_reducible refine CRes_id ?_); refine zS ?_)
    | ((with_reducible refine DStep_id ?_); refine zdP ?_; refine ⟨_, by first | exact op_ok _ _ | fail, fun _ => rfl, fun _ => rfl, rfl, (fun h => by first | cases h | fail), ?_⟩; try refine zS ?_)
    | ((with_reducible refine DStep_id ?_); refine zdW ?_; refine ⟨_, by first | exact op_ok _ _ | fail, fun _ => rfl, fun _ => rfl, rfl, ?_⟩; try refine zS ?_)
    | ((with_reducible refine AWP_c ?_); refine zcdT ?_)
    | ((with_reducible refine AWP_c ?_); refine zcdF ?_)
    | ((with_reducible refine AWP_c ?_); refine zcdN ?_ ?_ <;> intro hb hb2 <;> first | contradiction | (exfalso; omega) | ((try refine zH hb2 ?_); try clear hb2))
    | ((with_reducible refine AWP_c ?_); refine zcdD ?_ ?_ <;> intro hb hb2 <;> first | contradiction | (exfalso; omega) | ((try refine zH hb2 ?_); try clear hb2))
    | ((with_reducible refine AWP_c ?_); refine zcdM ?_ ?_ <;> intro hb <;> first | contradiction | (try refine zH hb ?_))
    | ((with_reducible refine AWP_c ?_); refine zcdB ?_ ?_ <;> intro hb <;> first | contradiction | (try refine zH hb ?_))
    | ((with_reducible refine awp_ret ?_); refine fin_r ?_)
    | ((with_reducible refine awp_ret ?_); refine fin_q ?_ ?_)
    | with_reducible refine fin_qn ?_ ?_
    | ((with_reducible refine awp_skip ?_); refine zS ?_)
    | with_reducible refine awp_block ?_
    | ((with_reducible refine awp_exit ?_); refine zS ?_)
    | ((with_reducible refine CallK_id ?_); refine zcF ?_; refine ⟨_, by first | exact op_ok _ _ | fail, fun _ => rfl, fun _ => rfl, rfl, ?_⟩; try refine zS ?_)
    | exact True.intro
    | fail
    all_goals first | (exfalso; omega) | (rw [i4]; done) | trace_state
include hl hp in
theorem poG (n : Nat) : PO l n ∧ PC l n ∧ PG l n := by
  induction n using Nat.strongRecOn with
  | _ n ih =>
    cases n with
    | zero => exact ⟨fun i j hj hi hn => by omega, fun i j hj hi hn => by omega, fun i j r hj hi h1 h7 hn => by omega⟩
    | succ n =>
      obtain ⟨a, b, c⟩ := ih n (by omega)
      exact ⟨oneG_ok l hl hp n a c, cmpG_ok l hl n c, rowG_ok l hl n (fun m hm => (ih m (by omega)).2.2) b a⟩
end
theorem parse3_size (s : Str) : (parse3F s).1.size = 1 := by
  unfold parse3F readF numR
  repeat' split
  all_goals rfl
mutual
theorem rowG_sz : ∀ (n : Nat) (l : List Tok) (i : Nat) (r : Int), i ≤ l.length → (rowG n l i r).bd < 0 → (rowG n l i r).t.size + 3 * i ≤ 1 + 3 * (rowG n l i r).nx
  | 0, l, i, r, h, hb => by rw [rowG] at hb; simp only [badG] at hb; omega
  | n + 1, l, i, r, h, hb => by
    rw [rowG] at hb ⊢
    split
    · rename_i h3
      rw [if_pos h3] at hb
      split
      · rename_i hg
        rw [if_pos hg] at hb
        split
        · rename_i h0; rw [if_pos h0] at hb; omega
        · have := rowG_sz n l (i + 1) 3 (isG_lt hg) (by omega)
          simp only [T.size, T.sizes]; omega
      · rename_i hg
        rw [if_neg hg] at hb
        exact cmpG_sz n l i h hb
    · rename_i h3
      rw [if_neg h3] at hb
      split
      · rename_i h7; rw [if_pos h7] at hb; exact oneG_sz n l i h hb
      · rename_i h7
        rw [if_neg h7] at hb
        exact loopG_sz n l _ r i (rowG_in n l i (r + 1) h) (rowG_sz n l i (r + 1) h) hb
theorem loopG_sz : ∀ (n : Nat) (l : List Tok) (g : Gt) (r : Int) (i : Nat), InG l i g → (g.bd < 0 → g.t.size + 3 * i ≤ 1 + 3 * g.nx) → (loopG n l g r).bd < 0 → (loopG n l g r).t.size + 3 * i ≤ 1 + 3 * (loopG n l g r).nx
  | 0, l, g, r, i, hi, h, hb => by rw [loopG] at hb ⊢; exact h hb
  | n + 1, l, g, r, i, hi, h, hb => by
    rw [loopG] at hb ⊢
    split
    · rename_i hc
      rw [if_pos hc] at hb
      have h1 := rowG_in n l (g.nx + 1) (r + 1) hc.2.1
      split
      · rename_i h0; rw [if_pos h0] at hb; omega
      · rename_i h0
        rw [if_neg h0] at hb
        have h2 := rowG_sz n l (g.nx + 1) (r + 1) hc.2.1 (by omega)
        have h3 := h hc.1
        have h4 := hi.2.2.2 hc.1
        have h5 := h1.2.2.2 (by omega)
        refine loopG_sz n l _ r i ⟨h1.1, by simp only; omega, by simp only; omega, fun _ => by simp only; omega⟩ (fun _ => ?_) hb
        simp only [T.size, T.sizes]; omega
    · rename_i hc
      rw [if_neg hc] at hb
      exact h hb
theorem cmpG_sz : ∀ (n : Nat) (l : List Tok) (i : Nat), i ≤ l.length → (cmpG n l i).bd < 0 → (cmpG n l i).t.size + 3 * i ≤ 1 + 3 * (cmpG n l i).nx
  | 0, l, i, h, hb => by rw [cmpG] at hb; simp only [badG] at hb; omega
  | n + 1, l, i, h, hb => by
    rw [cmpG] at hb ⊢
    split
    · rename_i hc; rw [if_pos hc] at hb; exact rowG_sz n l i 5 h hb
    · rename_i hc
      rw [if_neg hc] at hb
      have h0 := rowG_sz n l i 5 h (by omega)
      split
      · exact h0
      · rename_i hx
        rw [if_neg hx] at hb
        split
        · rename_i h5; rw [if_pos h5] at hb; omega
        · have h1 := rowG_sz n l ((rowG n l i 5).nx + 1) 5 (by omega) (by omega)
          have hcs : ∀ x a b, (cmpT x a b).size ≤ a.size + b.size + 2 := fun x a b => by
            unfold cmpT
            repeat' split
            all_goals (simp only [T.size, T.sizes]; omega)
          have := hcs (gt l (rowG n l i 5).nx).text (rowG n l i 5).t (rowG n l ((rowG n l i 5).nx + 1) 5).t
          simp only; omega
theorem oneG_sz : ∀ (n : Nat) (l : List Tok) (i : Nat), i ≤ l.length → (oneG n l i).bd < 0 → (oneG n l i).t.size + 3 * i ≤ 1 + 3 * (oneG n l i).nx
  | 0, l, i, h, hb => by rw [oneG] at hb; simp only [badG] at hb; omega
  | n + 1, l, i, h, hb => by
    rw [oneG] at hb ⊢
    split
    · rename_i hg
      rw [if_pos hg] at hb
      split
      · rename_i h0; rw [if_pos h0] at hb; omega
      · have := oneG_sz n l (i + 1) (isG_lt hg) (by omega)
        simp only [T.size, T.sizes]; omega
    · rename_i hg
      rw [if_neg hg] at hb
      split
      · rename_i hg2
        rw [if_pos hg2] at hb
        split
        · rename_i h0; rw [if_pos h0] at hb; omega
        · have := rowG_sz n l (i + 1) 1 (isG_lt hg2) (by omega)
          rename_i h0
          rw [if_neg h0] at hb
          split
          · rename_i h5; rw [if_pos h5] at hb; simp only [badG] at hb; omega
          · simp only; omega
      · rename_i hg2
        rw [if_neg hg2] at hb
        split
        · rename_i h5; rw [if_pos h5] at hb; simp only [badG] at hb; omega
        · simp only [parse3_size]; omega
end
theorem readL_okP : ∀ (n : Nat) (s : Str) (i : Nat), s.length ≤ n → (∀ t ∈ (readL s i).1, t.kind ≤ 2 → pfxAt t.text 0 [40] = false) ∧ (readL s i).1.length ≤ s.length
  | n, [], i, _ => by simp [readL]
  | 0, c :: r, i, h => by simp at h
  | n + 1, c :: r, i, h => by
    simp only [List.length_cons] at h
    rw [readL]
    split
    · have := readL_okP n r (i + 1) (by omega)
      exact ⟨this.1, by simp only [List.length_cons]; omega⟩
    · split
      · exact ⟨by simp, by simp⟩
      · have := readL_okP n (r.drop ((rfirst (c :: r)).text.length - 1)) (i + (rfirst (c :: r)).text.length) (by simp; omega)
        refine ⟨fun t ht hk => ?_, by have := this.2; simp at this ⊢; omega⟩
        simp only [List.mem_cons] at ht
        rcases ht with rfl | ht
        · simp only at hk ⊢
          unfold rfirst at hk ⊢
          split
          · exact pfx_join _
          · rename_i h0; rw [if_neg h0] at hk; simp at hk
        · exact this.1 t ht hk
theorem readR_okP (s : Str) : okP (readR s).1 ∧ (readR s).1.length ≤ s.length := by
  have := readL_okP s.length s 0 (Nat.le_refl _)
  unfold readR
  split
  · rename_i l h; rw [h] at this; exact this
  · exact ⟨fun t ht => by simp at ht, by simp⟩
end Go.Eng
open Go Go.Proofs
namespace Go.Eng
set_option linter.unusedSimpArgs false
set_option linter.unusedVariables false
set_option maxRecDepth 100000
set_option maxHeartbeats 8000000

structure Pd where
  t : T
  err : Int
  at_ : Int
def Pd.a (g : Pd) : A := .agg [.d (dI g.t.op), .d (dI g.t.n), .d (.fz (g.t.kids.map T.row)), .d (dI g.err), .d (dI g.at_)]
attribute [go_sem] Pd.a
def topG (s : Str) : Gt := rowG (20 * (readR s).1.length + 16) (readR s).1 0 1
def endG (s : Str) : Gt := if (topG s).bd < 0 ∧ (topG s).nx < (readR s).1.length then badG (topG s).nx else topG s
def parseRF (s : Str) : Pd := if 20000 < s.length then ⟨t0, 2, 0⟩ else if 0 ≤ (readR s).2 then ⟨t0, 4, (readR s).2⟩ else if 2000 < (readR s).1.length then ⟨t0, 5, 0⟩
  else if ((readR s).1.length : Int) ≤ (endG s).bd then ⟨t0, 4, s.length⟩ else if 0 ≤ (endG s).bd then ⟨t0, 4, (gt (readR s).1 (endG s).bd.toNat).pos⟩
  else if (text3F (endG s).t).2 ≠ 0 then ⟨t0, (text3F (endG s).t).2, 0⟩ else ⟨(endG s).t, 0, 0⟩
theorem read_tup (s : Str) (hs : s.length ≤ 20000) : AFn env 11 [aS s] [] (.agg [.d (.fz ((readR s).1.map Tok.row)), .d (dI (readR s).2)]) [] := read_all_ok s hs
theorem parseR_ok (s : Str) (hs : s.length < 4611686018427387904) : AFn env 13 [aS s] [] (parseRF s).a [] := by
  have hread := readR_okP s
  have hin := rowG_in (20 * (readR s).1.length + 16) (readR s).1 0 1 (Nat.zero_le _)
  rw [show rowG (20 * (readR s).1.length + 16) (readR s).1 0 1 = topG s from rfl] at hin
  have hi1 := hin.1
  have hi2 := hin.2.1
  have hi3 := hin.2.2.1
  have hsz' := rowG_sz (20 * (readR s).1.length + 16) (readR s).1 0 1 (Nat.zero_le _)
  rw [show rowG (20 * (readR s).1.length + 16) (readR s).1 0 1 = topG s from rfl] at hsz'
  have hll := hread.2
  by_cases h20 : 20000 < s.length
  · rw [parseRF, if_pos h20]
    refine afn_body Tryd.func13 rfl (by decide) ?_
    simp only [Tryd.ntmps13, Tryd.results13, List.length_cons, List.length_nil, List.cons_append, List.nil_append, Nat.reduceAdd, Nat.reduceSub, List.replicate]
    repeat' first
    | with_reducible refine awp_seq ?_
    | ((with_reducible refine awp_region ?_); refine zS ?_)
    | ((with_reducible refine Gd_nd ?_ ?_) <;> intro hb hb2 <;> first | contradiction | (exfalso; omega) | (refine zH hb2 ?_; try clear hb2))
    | ((with_reducible refine Gd_nb ?_ ?_) <;> intro hb <;> first | contradiction | refine zH hb ?_)
    | ((with_reducible refine Gd_d ?_ ?_) <;> intro hb hb2 <;> first | contradiction | (exfalso; omega) | (refine zH hb2 ?_; try clear hb2))
    | ((with_reducible refine Gd_b ?_ ?_) <;> intro hb <;> first | contradiction | refine zH hb ?_)
    | ((with_reducible refine Res_id ?_); refine zS ?_)
    | ((with_reducible refine awp_drawnC ?_ ?_); rfl; refine zS ?_)
    | ((with_reducible refine awp_drawnA ?_ ?_); rfl; refine zS ?_)
    | ((with_reducible refine CGd_nd ?_ ?_) <;> intro hb hb2 <;> first | contradiction | (exfalso; omega) | (refine zH hb2 ?_; try clear hb2))
    | ((with_reducible refine CGd_nb ?_ ?_) <;> intro hb <;> first | contradiction | refine zH hb ?_)
    | ((with_reducible refine CGd_d ?_ ?_) <;> intro hb hb2 <;> first | contradiction | (exfalso; omega) | (refine zH hb2 ?_; try clear hb2))
    | ((with_reducible refine CGd_b ?_ ?_) <;> intro hb <;> first | contradiction | refine zH hb ?_)
    | ((with_reducible refine CRes_id ?_); refine zS ?_)
    | ((with_reducible refine DStep_id ?_); refine zdP ?_; refine ⟨_, by first | exact read_tup s (by omega) | exact hG | exact bad_ok _ | exact text3R_ok _ hsz | fail, fun _ => rfl, fun _ => rfl, rfl, (fun h => by first | cases h | fail), ?_⟩; try refine zS ?_)
    | ((with_reducible refine DStep_id ?_); refine zdW ?_; refine ⟨_, by first | exact read_tup s (by omega) | exact hG | exact bad_ok _ | exact text3R_ok _ hsz | fail, fun _ => rfl, fun _ => rfl, rfl, ?_⟩; try refine zS ?_)
    | ((with_reducible refine AWP_c ?_); refine zcdT ?_)
    | ((with_reducible refine AWP_c ?_); refine zcdF ?_)
    | ((with_reducible refine AWP_c ?_); refine zcdN ?_ ?_ <;> intro hb hb2 <;> first | contradiction | (exfalso; omega) | ((try refine zH hb2 ?_); try clear hb2))
    | ((with_reducible refine AWP_c ?_); refine zcdD ?_ ?_ <;> intro hb hb2 <;> first | contradiction | (exfalso; omega) | ((try refine zH hb2 ?_); try clear hb2))
    | ((with_reducible refine AWP_c ?_); refine zcdM ?_ ?_ <;> intro hb <;> first | contradiction | (try refine zH hb ?_))
    | ((with_reducible refine AWP_c ?_); refine zcdB ?_ ?_ <;> intro hb <;> first | contradiction | (try refine zH hb ?_))
    | ((with_reducible refine awp_ret ?_); refine fin_r ?_)
    | ((with_reducible refine awp_ret ?_); refine fin_q ?_ ?_)
    | with_reducible refine fin_qn ?_ ?_
    | ((with_reducible refine awp_skip ?_); refine zS ?_)
    | with_reducible refine awp_block ?_
    | ((with_reducible refine awp_exit ?_); refine zS ?_)
    | ((with_reducible refine CallK_id ?_); refine zcF ?_; refine ⟨_, by first | exact read_tup s (by omega) | exact hG | exact bad_ok _ | exact text3R_ok _ hsz | fail, fun _ => rfl, fun _ => rfl, rfl, ?_⟩; try refine zS ?_)
    | exact True.intro
    | fail
    all_goals rfl
  have hG : AFn env 27 [aF ((readR s).1.map Tok.row), aI 0, aI 1] [] (topG s).a [] := (poG (readR s).1 (by omega) hread.1 (20 * (readR s).1.length + 16)).2.2 0 0 1 rfl (Nat.zero_le _) (by omega) (by omega) (by omega)
  rw [parseRF, if_neg h20]
  by_cases hlt : (topG s).bd < 0
  · have hsz : (topG s).t.size < 4611686018427387904 := by have := hsz' hlt; omega
    have hc2 : (topG s).nx < (readR s).1.length → endG s = badG (topG s).nx := fun h => if_pos ⟨hlt, h⟩
    have hc3 : ¬ (topG s).nx < (readR s).1.length → endG s = topG s := fun h => if_neg (fun h2 => h h2.2)
    clear hsz' hin hread
    by_cases hnx : (topG s).nx < (readR s).1.length
    · rw [hc2 hnx, show (badG (topG s).nx).bd = ((topG s).nx : Int) from rfl, if_neg (show ¬ ((readR s).1.length : Int) ≤ ((topG s).nx : Int) by omega), if_pos (show (0 : Int) ≤ ((topG s).nx : Int) by omega)]
      clear hc2 hc3
      refine afn_body Tryd.func13 rfl (by decide) ?_
      simp only [Tryd.ntmps13, Tryd.results13, List.length_cons, List.length_nil, List.cons_append, List.nil_append, Nat.reduceAdd, Nat.reduceSub, List.replicate]
      repeat' first
      | with_reducible refine awp_seq ?_
      | ((with_reducible refine awp_region ?_); refine zS ?_)
      | ((with_reducible refine Gd_nd ?_ ?_) <;> intro hb hb2 <;> first | contradiction | (exfalso; omega) | (refine zH hb2 ?_; try clear hb2))
      | ((with_reducible refine Gd_nb ?_ ?_) <;> intro hb <;> first | contradiction | refine zH hb ?_)
      | ((with_reducible refine Gd_d ?_ ?_) <;> intro hb hb2 <;> first | contradiction | (exfalso; omega) | (refine zH hb2 ?_; try clear hb2))
      | ((with_reducible refine Gd_b ?_ ?_) <;> intro hb <;> first | contradiction | refine zH hb ?_)
      | ((with_reducible refine Res_id ?_); refine zS ?_)
      | ((with_reducible refine awp_drawnC ?_ ?_); rfl; refine zS ?_)
      | ((with_reducible refine awp_drawnA ?_ ?_); rfl; refine zS ?_)
      | ((with_reducible refine CGd_nd ?_ ?_) <;> intro hb hb2 <;> first | contradiction | (exfalso; omega) | (refine zH hb2 ?_; try clear hb2))
      | ((with_reducible refine CGd_nb ?_ ?_) <;> intro hb <;> first | contradiction | refine zH hb ?_)
      | ((with_reducible refine CGd_d ?_ ?_) <;> intro hb hb2 <;> first | contradiction | (exfalso; omega) | (refine zH hb2 ?_; try clear hb2))
      | ((with_reducible refine CGd_b ?_ ?_) <;> intro hb <;> first | contradiction | refine zH hb ?_)
      | ((with_reducible refine CRes_id ?_); refine zS ?_)
      | ((with_reducible refine DStep_id ?_); refine zdP ?_; refine ⟨_, by first | exact read_tup s (by omega) | exact hG | exact bad_ok _ | exact text3R_ok _ hsz | fail, fun _ => rfl, fun _ => rfl, rfl, (fun h => by first | cases h | fail), ?_⟩; try refine zS ?_)
      | ((with_reducible refine DStep_id ?_); refine zdW ?_; refine ⟨_, by first | exact read_tup s (by omega) | exact hG | exact bad_ok _ | exact text3R_ok _ hsz | fail, fun _ => rfl, fun _ => rfl, rfl, ?_⟩; try refine zS ?_)
      | ((with_reducible refine AWP_c ?_); refine zcdT ?_)
      | ((with_reducible refine AWP_c ?_); refine zcdF ?_)
      | ((with_reducible refine AWP_c ?_); refine zcdN ?_ ?_ <;> intro hb hb2 <;> first | contradiction | (exfalso; omega) | ((try refine zH hb2 ?_); try clear hb2))
      | ((with_reducible refine AWP_c ?_); refine zcdD ?_ ?_ <;> intro hb hb2 <;> first | contradiction | (exfalso; omega) | ((try refine zH hb2 ?_); try clear hb2))
      | ((with_reducible refine AWP_c ?_); refine zcdM ?_ ?_ <;> intro hb <;> first | contradiction | (try refine zH hb ?_))
      | ((with_reducible refine AWP_c ?_); refine zcdB ?_ ?_ <;> intro hb <;> first | contradiction | (try refine zH hb ?_))
      | ((with_reducible refine awp_ret ?_); refine fin_r ?_)
      | ((with_reducible refine awp_ret ?_); refine fin_q ?_ ?_)
      | with_reducible refine fin_qn ?_ ?_
      | ((with_reducible refine awp_skip ?_); refine zS ?_)
      | with_reducible refine awp_block ?_
      | ((with_reducible refine awp_exit ?_); refine zS ?_)
      | ((with_reducible refine CallK_id ?_); refine zcF ?_; refine ⟨_, by first | exact read_tup s (by omega) | exact hG | exact bad_ok _ | exact text3R_ok _ hsz | fail, fun _ => rfl, fun _ => rfl, rfl, ?_⟩; try refine zS ?_)
      | exact True.intro
      | fail
      all_goals ((repeat' split) <;> first | (exfalso; omega) | (simp [go_sem, t0, T.op, T.n, T.kids]; done) | trace_state)
    · rw [hc3 hnx]
      clear hc2 hc3
      refine afn_body Tryd.func13 rfl (by decide) ?_
      simp only [Tryd.ntmps13, Tryd.results13, List.length_cons, List.length_nil, List.cons_append, List.nil_append, Nat.reduceAdd, Nat.reduceSub, List.replicate]
      repeat' first
      | with_reducible refine awp_seq ?_
      | ((with_reducible refine awp_region ?_); refine zS ?_)
      | ((with_reducible refine Gd_nd ?_ ?_) <;> intro hb hb2 <;> first | contradiction | (exfalso; omega) | (refine zH hb2 ?_; try clear hb2))
      | ((with_reducible refine Gd_nb ?_ ?_) <;> intro hb <;> first | contradiction | refine zH hb ?_)
      | ((with_reducible refine Gd_d ?_ ?_) <;> intro hb hb2 <;> first | contradiction | (exfalso; omega) | (refine zH hb2 ?_; try clear hb2))
      | ((with_reducible refine Gd_b ?_ ?_) <;> intro hb <;> first | contradiction | refine zH hb ?_)
      | ((with_reducible refine Res_id ?_); refine zS ?_)
      | ((with_reducible refine awp_drawnC ?_ ?_); rfl; refine zS ?_)
      | ((with_reducible refine awp_drawnA ?_ ?_); rfl; refine zS ?_)
      | ((with_reducible refine CGd_nd ?_ ?_) <;> intro hb hb2 <;> first | contradiction | (exfalso; omega) | (refine zH hb2 ?_; try clear hb2))
      | ((with_reducible refine CGd_nb ?_ ?_) <;> intro hb <;> first | contradiction | refine zH hb ?_)
      | ((with_reducible refine CGd_d ?_ ?_) <;> intro hb hb2 <;> first | contradiction | (exfalso; omega) | (refine zH hb2 ?_; try clear hb2))
      | ((with_reducible refine CGd_b ?_ ?_) <;> intro hb <;> first | contradiction | refine zH hb ?_)
      | ((with_reducible refine CRes_id ?_); refine zS ?_)
      | ((with_reducible refine DStep_id ?_); refine zdP ?_; refine ⟨_, by first | exact read_tup s (by omega) | exact hG | exact bad_ok _ | exact text3R_ok _ hsz | fail, fun _ => rfl, fun _ => rfl, rfl, (fun h => by first | cases h | fail), ?_⟩; try refine zS ?_)
      | ((with_reducible refine DStep_id ?_); refine zdW ?_; refine ⟨_, by first | exact read_tup s (by omega) | exact hG | exact bad_ok _ | exact text3R_ok _ hsz | fail, fun _ => rfl, fun _ => rfl, rfl, ?_⟩; try refine zS ?_)
      | ((with_reducible refine AWP_c ?_); refine zcdT ?_)
      | ((with_reducible refine AWP_c ?_); refine zcdF ?_)
      | ((with_reducible refine AWP_c ?_); refine zcdN ?_ ?_ <;> intro hb hb2 <;> first | contradiction | (exfalso; omega) | ((try refine zH hb2 ?_); try clear hb2))
      | ((with_reducible refine AWP_c ?_); refine zcdD ?_ ?_ <;> intro hb hb2 <;> first | contradiction | (exfalso; omega) | ((try refine zH hb2 ?_); try clear hb2))
      | ((with_reducible refine AWP_c ?_); refine zcdM ?_ ?_ <;> intro hb <;> first | contradiction | (try refine zH hb ?_))
      | ((with_reducible refine AWP_c ?_); refine zcdB ?_ ?_ <;> intro hb <;> first | contradiction | (try refine zH hb ?_))
      | ((with_reducible refine awp_ret ?_); refine fin_r ?_)
      | ((with_reducible refine awp_ret ?_); refine fin_q ?_ ?_)
      | with_reducible refine fin_qn ?_ ?_
      | ((with_reducible refine awp_skip ?_); refine zS ?_)
      | with_reducible refine awp_block ?_
      | ((with_reducible refine awp_exit ?_); refine zS ?_)
      | ((with_reducible refine CallK_id ?_); refine zcF ?_; refine ⟨_, by first | exact read_tup s (by omega) | exact hG | exact bad_ok _ | exact text3R_ok _ hsz | fail, fun _ => rfl, fun _ => rfl, rfl, ?_⟩; try refine zS ?_)
      | exact True.intro
      | fail
      all_goals ((repeat' split) <;> first | (exfalso; omega) | (simp [go_sem, t0, T.op, T.n, T.kids]; done) | trace_state)
  · have hc4 : endG s = topG s := if_neg (fun h2 => hlt h2.1)
    rw [hc4]
    clear hsz' hin hread hc4
    refine afn_body Tryd.func13 rfl (by decide) ?_
    simp only [Tryd.ntmps13, Tryd.results13, List.length_cons, List.length_nil, List.cons_append, List.nil_append, Nat.reduceAdd, Nat.reduceSub, List.replicate]
    repeat' first
    | with_reducible refine awp_seq ?_
    | ((with_reducible refine awp_region ?_); refine zS ?_)
    | ((with_reducible refine Gd_nd ?_ ?_) <;> intro hb hb2 <;> first | contradiction | (exfalso; omega) | (refine zH hb2 ?_; try clear hb2))
    | ((with_reducible refine Gd_nb ?_ ?_) <;> intro hb <;> first | contradiction | refine zH hb ?_)
    | ((with_reducible refine Gd_d ?_ ?_) <;> intro hb hb2 <;> first | contradiction | (exfalso; omega) | (refine zH hb2 ?_; try clear hb2))
    | ((with_reducible refine Gd_b ?_ ?_) <;> intro hb <;> first | contradiction | refine zH hb ?_)
    | ((with_reducible refine Res_id ?_); refine zS ?_)
    | ((with_reducible refine awp_drawnC ?_ ?_); rfl; refine zS ?_)
    | ((with_reducible refine awp_drawnA ?_ ?_); rfl; refine zS ?_)
    | ((with_reducible refine CGd_nd ?_ ?_) <;> intro hb hb2 <;> first | contradiction | (exfalso; omega) | (refine zH hb2 ?_; try clear hb2))
    | ((with_reducible refine CGd_nb ?_ ?_) <;> intro hb <;> first | contradiction | refine zH hb ?_)
    | ((with_reducible refine CGd_d ?_ ?_) <;> intro hb hb2 <;> first | contradiction | (exfalso; omega) | (refine zH hb2 ?_; try clear hb2))
    | ((with_reducible refine CGd_b ?_ ?_) <;> intro hb <;> first | contradiction | refine zH hb ?_)
    | ((with_reducible refine CRes_id ?_); refine zS ?_)
    | ((with_reducible refine DStep_id ?_); refine zdP ?_; refine ⟨_, by first | exact read_tup s (by omega) | exact hG | exact bad_ok _ | exact text3R_ok _ hsz | fail, fun _ => rfl, fun _ => rfl, rfl, (fun h => by first | cases h | fail), ?_⟩; try refine zS ?_)
    | ((with_reducible refine DStep_id ?_); refine zdW ?_; refine ⟨_, by first | exact read_tup s (by omega) | exact hG | exact bad_ok _ | exact text3R_ok _ hsz | fail, fun _ => rfl, fun _ => rfl, rfl, ?_⟩; try refine zS ?_)
    | ((with_reducible refine AWP_c ?_); refine zcdT ?_)
    | ((with_reducible refine AWP_c ?_); refine zcdF ?_)
    | ((with_reducible refine AWP_c ?_); refine zcdN ?_ ?_ <;> intro hb hb2 <;> first | contradiction | (exfalso; omega) | ((try refine zH hb2 ?_); try clear hb2))
    | ((with_reducible refine AWP_c ?_); refine zcdD ?_ ?_ <;> intro hb hb2 <;> first | contradiction | (exfalso; omega) | ((try refine zH hb2 ?_); try clear hb2))
    | ((with_reducible refine AWP_c ?_); refine zcdM ?_ ?_ <;> intro hb <;> first | contradiction | (try refine zH hb ?_))
    | ((with_reducible refine AWP_c ?_); refine zcdB ?_ ?_ <;> intro hb <;> first | contradiction | (try refine zH hb ?_))
    | ((with_reducible refine awp_ret ?_); refine fin_r ?_)
    | ((with_reducible refine awp_ret ?_); refine fin_q ?_ ?_)
    | with_reducible refine fin_qn ?_ ?_
    | ((with_reducible refine awp_skip ?_); refine zS ?_)
    | with_reducible refine awp_block ?_
    | ((with_reducible refine awp_exit ?_); refine zS ?_)
    | ((with_reducible refine CallK_id ?_); refine zcF ?_; refine ⟨_, by first | exact read_tup s (by omega) | exact hG | exact bad_ok _ | exact text3R_ok _ hsz | fail, fun _ => rfl, fun _ => rfl, rfl, ?_⟩; try refine zS ?_)
    | exact True.intro
    | fail
    all_goals ((repeat' split) <;> first | (exfalso; omega) | (simp [go_sem, t0, T.op, T.n, T.kids]; done) | trace_state)
end Go.Eng
open Go Go.Proofs
namespace Go.Eng
set_option linter.unusedSimpArgs false
set_option linter.unusedVariables false
set_option maxRecDepth 100000
set_option maxHeartbeats 8000000

def mixS : Str := [110, 111, 116, 32, 36, 48, 32, 43, 32, 49, 32, 61, 32, 50, 32, 111, 114, 32, 36, 49, 32, 60, 32, 51]
def mixT : T := .mk 14 0 [.mk 4 0 [.mk 10 0 [.mk 5 0 [.mk 2 0 [], .mk 1 1 []], .mk 1 2 []]], .mk 11 0 [.mk 2 1 [], .mk 1 3 []]]
def mixL : List Tok := [⟨3, 0, [110, 111, 116]⟩, ⟨2, 4, [36, 48]⟩, ⟨4, 7, [43]⟩, ⟨1, 9, [49]⟩, ⟨4, 11, [61]⟩, ⟨1, 13, [50]⟩, ⟨3, 15, [111, 114]⟩, ⟨2, 18, [36, 49]⟩, ⟨4, 21, [60]⟩, ⟨1, 23, [51]⟩]
theorem mix_tok : tokL mixS 0 = (mixL, none) := by kernel_rfl
theorem mix_row : rowF 216 24 1 mixL (-1) = (mixT, [], -1) := by kernel_rfl
theorem mix_wr : wrF mixT.size mixT = [36, 48, 32, 43, 32, 49, 32, 33, 61, 32, 50, 32, 111, 114, 32, 36, 49, 32, 60, 32, 51] := by
  simp [mixT, T.size, T.sizes, wrF, kidF, ofF_val, ofX, T.op, T.kids, T.n, gt_cons0, gt, digS]
theorem mix_wrong : wrongF mixT = 0 := by kernel_rfl
theorem mix_len : (plain3 mixT).length = 38 := by kernel_rfl
theorem mix_parse : parseF mixS = (mixT, 0, 0) := by
  have h1 : tokensF mixS = (mixL, 0, 0) := by
    unfold tokensF
    rw [mix_tok, if_neg (by decide)]
  have h2 : rowTop mixS = (mixT, [], -1) := by
    unfold rowTop
    rw [h1]
    exact mix_row
  have h3 : badTop mixS = -1 := by
    unfold badTop
    rw [h2]; simp
  have h4 : text3F mixT = (plain3 mixT, 0) := by
    unfold text3F
    rw [mix_wrong, mix_len, if_neg (by decide), if_neg (by decide)]
  unfold parseF
  rw [h1, h2, h3, h4]
  simp [mixL]
theorem mix_text : textIF mixT = ([36, 48, 32, 43, 32, 49, 32, 33, 61, 32, 50, 32, 111, 114, 32, 36, 49, 32, 60, 32, 51], 0) := by
  unfold textIF text3F
  rw [mix_wrong, mix_len, mix_wr]
  simp
theorem mixed_ok : AFn env 10 [] [] (aB true) [] := by
  have hp := parse_ok mixS (by decide)
  have ht := textI_ok mixT (by decide)
  rw [mix_parse] at hp
  rw [mix_text] at ht
  unfold mixS at hp
  refine afn_body Tryd.func10 rfl (by decide) ?_
  simp only [Tryd.ntmps10, Tryd.results10, List.length_cons, List.length_nil, List.cons_append, List.nil_append, Nat.reduceAdd, Nat.reduceSub, List.replicate]
  repeat' first
  | with_reducible refine awp_seq ?_
  | ((with_reducible refine awp_region ?_); refine zS ?_)
  | ((with_reducible refine Gd_nd ?_ ?_) <;> intro hb hb2 <;> first | contradiction | (exfalso; omega) | (refine zH hb2 ?_; try clear hb2))
  | ((with_reducible refine Gd_nb ?_ ?_) <;> intro hb <;> first | contradiction | refine zH hb ?_)
  | ((with_reducible refine Gd_d ?_ ?_) <;> intro hb hb2 <;> first | contradiction | (exfalso; omega) | (refine zH hb2 ?_; try clear hb2))
  | ((with_reducible refine Gd_b ?_ ?_) <;> intro hb <;> first | contradiction | refine zH hb ?_)
  | ((with_reducible refine Res_id ?_); refine zS ?_)
  | ((with_reducible refine awp_drawnC ?_ ?_); rfl; refine zS ?_)
  | ((with_reducible refine awp_drawnA ?_ ?_); rfl; refine zS ?_)
  | ((with_reducible refine CGd_nd ?_ ?_) <;> intro hb hb2 <;> first | contradiction | (exfalso; omega) | (refine zH hb2 ?_; try clear hb2))
  | ((with_reducible refine CGd_nb ?_ ?_) <;> intro hb <;> first | contradiction | refine zH hb ?_)
  | ((with_reducible refine CGd_d ?_ ?_) <;> intro hb hb2 <;> first | contradiction | (exfalso; omega) | (refine zH hb2 ?_; try clear hb2))
  | ((with_reducible refine CGd_b ?_ ?_) <;> intro hb <;> first | contradiction | refine zH hb ?_)
  | ((with_reducible refine CRes_id ?_); refine zS ?_)
  | ((with_reducible refine DStep_id ?_); refine zdP ?_; refine ⟨_, by first | exact hp | exact ht | fail, fun _ => rfl, fun _ => rfl, rfl, (fun h => by first | cases h | fail), ?_⟩; try refine zS ?_)
  | ((with_reducible refine DStep_id ?_); refine zdW ?_; refine ⟨_, by first | exact hp | exact ht | fail, fun _ => rfl, fun _ => rfl, rfl, ?_⟩; try refine zS ?_)
  | ((with_reducible refine AWP_c ?_); refine zcdT ?_)
  | ((with_reducible refine AWP_c ?_); refine zcdF ?_)
  | ((with_reducible refine AWP_c ?_); refine zcdN ?_ ?_ <;> intro hb hb2 <;> first | contradiction | (exfalso; omega) | ((try refine zH hb2 ?_); try clear hb2))
  | ((with_reducible refine AWP_c ?_); refine zcdD ?_ ?_ <;> intro hb hb2 <;> first | contradiction | (exfalso; omega) | ((try refine zH hb2 ?_); try clear hb2))
  | ((with_reducible refine AWP_c ?_); refine zcdM ?_ ?_ <;> intro hb <;> first | contradiction | (try refine zH hb ?_))
  | ((with_reducible refine AWP_c ?_); refine zcdB ?_ ?_ <;> intro hb <;> first | contradiction | (try refine zH hb ?_))
  | ((with_reducible refine awp_ret ?_); refine fin_r ?_)
  | ((with_reducible refine awp_ret ?_); refine fin_q ?_ ?_)
  | with_reducible refine fin_qn ?_ ?_
  | ((with_reducible refine awp_skip ?_); refine zS ?_)
  | with_reducible refine awp_block ?_
  | ((with_reducible refine awp_exit ?_); refine zS ?_)
  | ((with_reducible refine CallK_id ?_); refine zcF ?_; refine ⟨_, by first | exact hp | exact ht | fail, fun _ => rfl, fun _ => rfl, rfl, ?_⟩; try refine zS ?_)
  | exact True.intro
  | fail
  all_goals rfl
end Go.Eng
open Go Go.Proofs
namespace Go.Eng
set_option linter.unusedSimpArgs false
set_option linter.unusedVariables false
set_option maxRecDepth 100000
set_option maxHeartbeats 8000000

theorem law5_ok (t : T) : AFn env 5 [t.a] [] (aB true) [] := by
  have hz : (largeF t 1500 1).1 = false → (t.size : Int) ≤ 1500 := fun h => by have := (largeF_le t 1500 1).2 h; omega
  refine afn_body Tryd.func5 rfl (by decide) ?_
  simp only [Tryd.ntmps5, Tryd.results5, List.length_cons, List.length_nil, List.cons_append, List.nil_append, Nat.reduceAdd, Nat.reduceSub, List.replicate]
  repeat' first
  | with_reducible refine awp_seq ?_
  | ((with_reducible refine awp_region ?_); refine zS ?_)
  | ((with_reducible refine Gd_nd ?_ ?_) <;> intro hb hb2 <;> first | contradiction | (exfalso; omega) | (refine zH hb2 ?_; try clear hb2))
  | ((with_reducible refine Gd_nb ?_ ?_) <;> intro hb <;> first | contradiction | refine zH hb ?_)
  | ((with_reducible refine Gd_d ?_ ?_) <;> intro hb hb2 <;> first | contradiction | (exfalso; omega) | (refine zH hb2 ?_; try clear hb2))
  | ((with_reducible refine Gd_b ?_ ?_) <;> intro hb <;> first | contradiction | refine zH hb ?_)
  | ((with_reducible refine Res_id ?_); refine zS ?_)
  | ((with_reducible refine awp_drawnC ?_ ?_); rfl; refine zS ?_)
  | ((with_reducible refine awp_drawnA ?_ ?_); rfl; refine zS ?_)
  | ((with_reducible refine CGd_nd ?_ ?_) <;> intro hb hb2 <;> first | contradiction | (exfalso; omega) | (refine zH hb2 ?_; try clear hb2))
  | ((with_reducible refine CGd_nb ?_ ?_) <;> intro hb <;> first | contradiction | refine zH hb ?_)
  | ((with_reducible refine CGd_d ?_ ?_) <;> intro hb hb2 <;> first | contradiction | (exfalso; omega) | (refine zH hb2 ?_; try clear hb2))
  | ((with_reducible refine CGd_b ?_ ?_) <;> intro hb <;> first | contradiction | refine zH hb ?_)
  | ((with_reducible refine CRes_id ?_); refine zS ?_)
  | ((with_reducible refine DStep_id ?_); refine zdP ?_; refine ⟨_, by first | exact mixed_ok | exact textI_ok t (by have := hz ‹_›; omega) | exact textR_ok t (by have := hz ‹_›; omega) | fail, fun _ => rfl, fun _ => rfl, rfl, (fun h => by first | cases h | fail), ?_⟩; try refine zS ?_)
  | ((with_reducible refine DStep_id ?_); refine zdW ?_; refine ⟨_, by first | exact mixed_ok | exact textI_ok t (by have := hz ‹_›; omega) | exact textR_ok t (by have := hz ‹_›; omega) | fail, fun _ => rfl, fun _ => rfl, rfl, ?_⟩; try refine zS ?_)
  | ((with_reducible refine DStep_id ?_); refine zdT [1] ?_; refine ⟨_, _, by first | exact large_ok t 1500 1 (by omega) (by omega) (by omega) (by omega) | fail, ?_⟩; try refine zS ?_)
  | ((with_reducible refine AWP_c ?_); refine zcdT ?_)
  | ((with_reducible refine AWP_c ?_); refine zcdF ?_)
  | ((with_reducible refine AWP_c ?_); refine zcdN ?_ ?_ <;> intro hb hb2 <;> first | contradiction | (exfalso; omega) | ((try refine zH hb2 ?_); try clear hb2))
  | ((with_reducible refine AWP_c ?_); refine zcdD ?_ ?_ <;> intro hb hb2 <;> first | contradiction | (exfalso; omega) | ((try refine zH hb2 ?_); try clear hb2))
  | ((with_reducible refine AWP_c ?_); refine zcdM ?_ ?_ <;> intro hb <;> first | contradiction | (try refine zH hb ?_))
  | ((with_reducible refine AWP_c ?_); refine zcdB ?_ ?_ <;> intro hb <;> first | contradiction | (try refine zH hb ?_))
  | ((with_reducible refine awp_ret ?_); refine fin_r ?_)
  | ((with_reducible refine awp_ret ?_); refine fin_q ?_ ?_)
  | with_reducible refine fin_qn ?_ ?_
  | ((with_reducible refine awp_skip ?_); refine zS ?_)
  | with_reducible refine awp_block ?_
  | ((with_reducible refine awp_exit ?_); refine zS ?_)
  | ((with_reducible refine CallK_id ?_); refine zcF ?_; refine ⟨_, by first | exact mixed_ok | exact textI_ok t (by have := hz ‹_›; omega) | exact textR_ok t (by have := hz ‹_›; omega) | fail, fun _ => rfl, fun _ => rfl, rfl, ?_⟩; try refine zS ?_)
  | ((with_reducible refine CallK_id ?_); refine zcT [1] ?_; refine ⟨_, _, by first | exact large_ok t 1500 1 (by omega) (by omega) (by omega) (by omega) | fail, ?_⟩; try refine zS ?_)
  | exact True.intro
  | fail
  all_goals rfl
end Go.Eng
open Go Go.Proofs Go.RowKit
namespace Go.Eng
set_option linter.unusedSimpArgs false
set_option linter.unusedVariables false
set_option maxRecDepth 100000

section
variable {H : Type} {enc : TypeId × Value → H} {W : World} {F : Nat → Prop} {base : Nat} {spare : Nat → Bool} {held : Bool}
theorem opD_T (hF : ∀ a u, W.cell? a = some u → F a.block) : ∀ n, OpD enc Tryd.prog W F base spare held 37 T.row (fun _ => True) n := by
  refine opD_fix (fun n ih => ?_)
  have hk : ∀ m, m < n → OpD enc Tryd.prog W F base spare held 35 (fun xs : List T => [.fz (xs.map T.row)]) _ m := fun m hm => opD_slice (s := 3) (B := 40) hF Tryd.underlying35 (by kernel_rfl) (by kernel_rfl) (by decide) (fun a => by cases a; rfl) (fun m' hm' => ih m' (by omega))
  refine opD_imp (opD_struct (β := T) (g := fun x : Int × Int × List T × Unit => .mk x.1 x.2.1 x.2.2.1) (f := fun t => (t.op, t.n, t.kids, ())) Tryd.underlying37 (by kernel_rfl) (fun a => rfl) (fun m hm => opDF_cons (s := 1) rfl (by kernel_rfl) (opD_int Tryd.underlying3) (opDF_cons (s := 1) rfl (by kernel_rfl) (opD_int Tryd.underlying3) (opDF_cons (s := 1) rfl (by kernel_rfl) (hk m hm) opDF_nil)))) (fun t => ?_) (fun _ _ => trivial)
  rw [T.row_eq]; rfl
end
def laid3 : List (String × DataW Unit) := [("treenail/term.words", Go.Proofs.YtnfkbkomkkjphaaDoor.Rows.laid_treenail_term_words), ("treenail/infix.signs", Go.Proofs.YtnfkbkomkkjphaaDoor.Rows.laid_treenail_infix_signs), ("treenail/infix.betweens", Go.Proofs.YtnfkbkomkkjphaaDoor.Rows.laid_treenail_infix_betweens)]
def signVals : List Value := signs.map fun s => .string (st s)
def btwVals : List Value := betweens.flatMap fun b => [.string (st b.text), .int .i64 b.row, .int .i64 b.op, .bool b.turned, .bool b.deny]
def wordVals : List Value := words.flatMap fun b => [.string (st b.text), .int .i64 b.kids, .int .i64 b.of, .int .i64 b.out]
theorem base_ok {W : World} (h : laidMetH Tryd.prog laid3 W) : (B0 W).ok env := by
  intro g
  match g with
  | 0 =>
    have hc := cells_of_laid rfl h (.tail _ (.head _)) (g := 0) (by kernel_rfl) (t := 84) (by kernel_rfl) 8 signVals (by kernel_rfl)
    exact vr_pa (s := 1) (by decide) (by kernel_rfl) (by kernel_rfl) (by decide) hc
  | 1 =>
    have hc := cells_of_laid rfl h (.tail _ (.tail _ (.head _))) (g := 1) (by kernel_rfl) (t := 117) (by kernel_rfl) 8 btwVals (by kernel_rfl)
    exact vr_pf (by kernel_rfl) (by kernel_rfl) hc
  | 2 =>
    have hc := cells_of_laid rfl h (.head _) (g := 2) (by kernel_rfl) (t := 120) (by kernel_rfl) 8 wordVals (by kernel_rfl)
    exact vr_pa (s := 4) (by decide) (by kernel_rfl) (by kernel_rfl) (by decide) hc
  | g + 3 => exact .any _ rfl
end Go.Eng
