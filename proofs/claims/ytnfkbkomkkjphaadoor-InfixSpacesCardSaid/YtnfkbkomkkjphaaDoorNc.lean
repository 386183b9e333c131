/- Each function of the program, walked over plain data: what it comes to, at all arguments. -/
import Derived.Test.YtnfkbkomkkjphaaDoorNb
open Go Go.Proofs
namespace Go.Eng
set_option linter.unusedSimpArgs false
set_option linter.unusedVariables false
set_option maxRecDepth 100000
set_option maxHeartbeats 8000000

theorem op14 {t : T} (h : 1 ≤ t.op ∧ t.op ≤ 14) : t.op = 1 ∨ t.op = 2 ∨ t.op = 3 ∨ t.op = 4 ∨ t.op = 5 ∨ t.op = 6 ∨ t.op = 7 ∨ t.op = 8 ∨ t.op = 9 ∨ t.op = 10 ∨ t.op = 11 ∨ t.op = 12 ∨ t.op = 13 ∨ t.op = 14 := by omega
def ofX (t : T) : Btw := if t.op = 4 then (if (gt t.kids 0).op = 10 then ⟨[33, 61], 4, 10, false, true⟩ else ⟨[], 3, 0, false, false⟩) else if t.op = 3 then ⟨[], 7, 0, false, false⟩
  else if t.op = 5 then ⟨[43], 5, 5, false, false⟩ else if t.op = 6 then ⟨[45], 5, 6, false, false⟩ else if t.op = 7 then ⟨[42], 6, 7, false, false⟩ else if t.op = 8 then ⟨[47], 6, 8, false, false⟩
  else if t.op = 9 then ⟨[37], 6, 9, false, false⟩ else if t.op = 10 then ⟨[61], 4, 10, false, false⟩ else if t.op = 11 then ⟨[60], 4, 11, false, false⟩ else if t.op = 12 then ⟨[60, 61], 4, 12, false, false⟩
  else if t.op = 13 then ⟨[97, 110, 100], 2, 13, false, false⟩ else if t.op = 14 then ⟨[111, 114], 1, 14, false, false⟩ else ⟨[], 8, 0, false, false⟩
theorem ofF_val {t : T} (h : 1 ≤ t.op ∧ t.op ≤ 14) : ofF t = ofX t := by
  rcases op14 h with e | e | e | e | e | e | e | e | e | e | e | e | e | e
  all_goals simp [ofF, ofX, ofB, betweens, deniedF, e]
  by_cases h10 : (gt t.kids 0).op = 10 <;> simp [h10]
structure Of (t : T) (b : Btw) : Prop where
  r8 : b.row = 8 → 0 ≤ t.n ∧ t.n ≤ 1099511627776
  r3 : b.row = 3 ∨ b.row = 7 → 1 ≤ t.kids.length
  dn : b.deny = true → b.row = 4 ∧ 1 ≤ t.kids.length ∧ 2 ≤ (gt t.kids 0).kids.length
  nd : b.deny = false → b.row ≠ 8 → b.row ≠ 3 → b.row ≠ 7 → 2 ≤ t.kids.length
  row : 1 ≤ b.row ∧ b.row ≤ 8
  txt : b.text.length ≤ 3
theorem words_kids : ∀ i : Nat, 5 ≤ i → i ≤ 14 → (gt words i).kids = 2
  | 0, h, _ | 1, h, _ | 2, h, _ | 3, h, _ | 4, h, _ => by omega
  | 5, _, _ | 6, _, _ | 7, _, _ | 8, _, _ | 9, _, _ | 10, _, _ | 11, _, _ | 12, _, _ | 13, _, _ | 14, _, _ => rfl
  | n + 15, _, h => by omega
theorem sh_len {t : T} (hs : shapedF t = true) : (t.op = 1 ∨ t.op = 2 → t.kids.length = 0) ∧ (t.op = 3 ∨ t.op = 4 → t.kids.length = 1) ∧ (5 ≤ t.op → t.kids.length = 2) := by
  have h := sh_of hs
  refine ⟨fun e => ?_, fun e => ?_, fun e => ?_⟩
  · rw [shapedF_eq] at hs
    rcases e with e | e <;> simp [e] at hs <;> simp [hs]
  · have := h.len (by omega) (by omega)
    rcases e with e | e
    · rw [e, show (gt words (3 : Int).toNat).kids = 1 from rfl] at this; omega
    · rw [e, show (gt words (4 : Int).toNat).kids = 1 from rfl] at this; omega
  · have := h.len (by omega) (by omega)
    rw [words_kids _ (by omega) (by have := h.op; omega)] at this; omega
theorem of_facts {t : T} (hs : shapedF t = true) : Of t (ofF t) := by
  have h := sh_of hs
  obtain ⟨l1, l2, l3⟩ := sh_len hs
  have hkid : 1 ≤ t.kids.length → (gt t.kids 0).op = 10 → (gt t.kids 0).kids.length = 2 := fun hl e => (sh_len (h.kids _ (gt_mem (by omega)))).2.2 (by omega)
  have hn := h.n
  rw [ofF_val h.op]
  rcases op14 h.op with e | e | e | e | e | e | e | e | e | e | e | e | e | e
  all_goals (try by_cases h10 : (gt t.kids 0).op = 10)
  all_goals (constructor <;> simp [ofX, *] <;> omega)
mutual
def wrF : Nat → T → Str
  | 0, _ => []
  | n + 1, t => if (ofF t).row = 8 then (if t.op = 2 then 36 :: digS t.n.toNat else digS t.n.toNat) else if (ofF t).row = 3 then [110, 111, 116, 32] ++ kidF n (gt t.kids 0) 3
    else if (ofF t).row = 7 then 45 :: kidF n (gt t.kids 0) 7
    else if (ofF t).deny = true then kidF n (gt (gt t.kids 0).kids 0) 5 ++ (32 :: ((ofF t).text ++ [32]) ++ kidF n (gt (gt t.kids 0).kids 1) 5)
    else kidF n (gt t.kids 0) (if (ofF t).row = 4 then 5 else (ofF t).row) ++ (32 :: ((ofF t).text ++ [32]) ++ kidF n (gt t.kids 1) ((ofF t).row + 1))
def kidF : Nat → T → Int → Str
  | n, k, r => if (ofF k).row ≥ r then wrF n k else 40 :: (wrF n k ++ [41])
end
def Pwr (n : Nat) : Prop := ∀ (t : T) (fr : Bool) (s : Str), shapedF t = true → t.size ≤ n → t.size < 4611686018427387904 → s.length + (wrF n t).length < 10000000000 → AFn env 30 [P0, t.a] (BS 77 fr s) (.tup []) (BS 77 false (s ++ wrF n t))
theorem kid_ok (n : Nat) (ih : Pwr n) (t : T) (r : Int) (fr : Bool) (s : Str) (hs : shapedF t = true) (hn : t.size ≤ n) (hz : t.size < 4611686018427387904) (hb : s.length + (kidF n t r).length < 10000000000) :
    AFn env 59 [P0, t.a, aI r] (BS 77 fr s) (.tup []) (BS 77 false (s ++ kidF n t r)) := by
  rw [kidF] at hb ⊢
  have hb1 : s.length + (wrF n t).length < 10000000000 ∧ ((ofF t).row < r → s.length + (wrF n t).length + 2 < 10000000000) := by
    split at hb
    · exact ⟨by omega, fun h => by omega⟩
    · simp at hb; exact ⟨by omega, fun h => by omega⟩
  clear hb
  obtain ⟨hb1, hb2⟩ := hb1
  refine afn_body Tryd.func59 rfl (by decide) ?_
  simp only [Tryd.ntmps59, Tryd.results59, List.length_cons, List.length_nil, List.cons_append, List.nil_append, Nat.reduceAdd, Nat.reduceSub, List.replicate]
  repeat' first
  | with_reducible refine awp_seq ?_
  | ((with_reducible refine awp_region ?_); refine zS ?_)
  | ((with_reducible refine Gd_nd ?_ ?_) <;> intro hb hb2 <;> first | contradiction | (exfalso; omega) | (refine zH hb2 ?_; try clear hb2))
  | ((with_reducible refine Gd_nb ?_ ?_) <;> intro hb <;> first | contradiction | refine zH hb ?_)
  | ((with_reducible refine Gd_d ?_ ?_) <;> intro hb hb2 <;> first | contradiction | (exfalso; omega) | (refine zH hb2 ?_; try clear hb2))
  | ((with_reducible refine Gd_b ?_ ?_) <;> intro hb <;> first | contradiction | refine zH hb ?_)
  | ((with_reducible refine Res_id ?_); refine zS ?_)
  | ((with_reducible refine awp_drawnC ?_ ?_); rfl; refine zS ?_)
  | ((with_reducible refine awp_drawnA ?_ ?_); rfl; refine zS ?_)
  | ((with_reducible refine CGd_nd ?_ ?_) <;> intro hb hb2 <;> first | contradiction | (exfalso; omega) | (refine zH hb2 ?_; try clear hb2))
  | ((with_reducible refine CGd_nb ?_ ?_) <;> intro hb <;> first | contradiction | refine zH hb ?_)
  | ((with_reducible refine CGd_d ?_ ?_) <;> intro hb hb2 <;> first | contradiction | (exfalso; omega) | (refine zH hb2 ?_; try clear hb2))
  | ((with_reducible refine CGd_b ?_ ?_) <;> intro hb <;> first | contradiction | refine zH hb ?_)
  | ((with_reducible refine CRes_id ?_); refine zS ?_)
  | ((with_reducible refine DStep_id ?_); refine zdP ?_; refine ⟨_, by first | exact of_ok t (fun h => by have := (sh_len hs).2.1 (.inr h); omega) | fail, fun _ => rfl, fun _ => rfl, rfl, (fun h => by first | cases h | fail), ?_⟩; try refine zS ?_)
  | ((with_reducible refine DStep_id ?_); refine zdW ?_; refine ⟨_, by first | exact of_ok t (fun h => by have := (sh_len hs).2.1 (.inr h); omega) | fail, fun _ => rfl, fun _ => rfl, rfl, ?_⟩; try refine zS ?_)
  | ((with_reducible refine DStep_id ?_); refine zdT [0, 1] ?_; refine ⟨_, _, by first | exact ih t fr s hs hn hz (by omega) | exact ih t false (s ++ [40]) hs hn hz (by simp; omega) | exact wb_ok 77 (.inr rfl) fr s 40 (by omega) | exact wb_ok 77 (.inr rfl) false (s ++ [40] ++ wrF n t) 41 (by simp; omega) | fail, ?_⟩; try refine zS ?_)
  | ((with_reducible refine AWP_c ?_); refine zcdT ?_)
  | ((with_reducible refine AWP_c ?_); refine zcdF ?_)
  | ((with_reducible refine AWP_c ?_); refine zcdN ?_ ?_ <;> intro hb hb2 <;> first | contradiction | (exfalso; omega) | ((try refine zH hb2 ?_); try clear hb2))
  | ((with_reducible refine AWP_c ?_); refine zcdD ?_ ?_ <;> intro hb hb2 <;> first | contradiction | (exfalso; omega) | ((try refine zH hb2 ?_); try clear hb2))
  | ((with_reducible refine AWP_c ?_); refine zcdM ?_ ?_ <;> intro hb <;> first | contradiction | (try refine zH hb ?_))
  | ((with_reducible refine AWP_c ?_); refine zcdB ?_ ?_ <;> intro hb <;> first | contradiction | (try refine zH hb ?_))
  | ((with_reducible refine awp_ret ?_); refine fin_r ?_)
  | ((with_reducible refine awp_ret ?_); refine fin_q ?_ ?_)
  | with_reducible refine fin_qn ?_ ?_
  | ((with_reducible refine awp_skip ?_); refine zS ?_)
  | with_reducible refine awp_block ?_
  | ((with_reducible refine awp_exit ?_); refine zS ?_)
  | ((with_reducible refine CallK_id ?_); refine zcF ?_; refine ⟨_, by first | exact of_ok t (fun h => by have := (sh_len hs).2.1 (.inr h); omega) | fail, fun _ => rfl, fun _ => rfl, rfl, ?_⟩; try refine zS ?_)
  | ((with_reducible refine CallK_id ?_); refine zcT [0, 1] ?_; refine ⟨_, _, by first | exact ih t fr s hs hn hz (by omega) | exact ih t false (s ++ [40]) hs hn hz (by simp; omega) | exact wb_ok 77 (.inr rfl) fr s 40 (by omega) | exact wb_ok 77 (.inr rfl) false (s ++ [40] ++ wrF n t) 41 (by simp; omega) | fail, ?_⟩; try refine zS ?_)
  | exact True.intro
  | fail
  all_goals first | rfl | (simp [go_sem, *]; done) | trace_state


section
variable (t : T) (fr : Bool) (s : Str) (tx : Str) (row op : Int) (tu dn : Bool) (hl0 : t.kids.length < 4611686018427387904) (hs : s.length < 10000000000)
include hs in
theorem wr8 (hof : AFn env 55 [t.a] [] (Btw.a ⟨tx, 8, op, tu, dn⟩) []) (h : 0 ≤ t.n ∧ t.n ≤ 1099511627776) (hd : (digS t.n.toNat).length ≤ 20) :
    AFn env 30 [P0, t.a] (BS 77 fr s) (.tup []) (BS 77 false (s ++ if t.op = 2 then 36 :: digS t.n.toNat else digS t.n.toNat)) := by
  refine afn_body Tryd.func30 rfl (by decide) ?_
  simp only [Tryd.ntmps30, Tryd.results30, List.length_cons, List.length_nil, List.cons_append, List.nil_append, Nat.reduceAdd, Nat.reduceSub, List.replicate]
  repeat' first
  | with_reducible refine awp_seq ?_
  | ((with_reducible refine awp_region ?_); refine zS ?_)
  | ((with_reducible refine Gd_nd ?_ ?_) <;> intro hb hb2 <;> first | contradiction | (exfalso; omega) | (refine zH hb2 ?_; try clear hb2))
  | ((with_reducible refine Gd_nb ?_ ?_) <;> intro hb <;> first | contradiction | refine zH hb ?_)
  | ((with_reducible refine Gd_d ?_ ?_) <;> intro hb hb2 <;> first | contradiction | (exfalso; omega) | (refine zH hb2 ?_; try clear hb2))
  | ((with_reducible refine Gd_b ?_ ?_) <;> intro hb <;> first | contradiction | refine zH hb ?_)
  | ((with_reducible refine Res_id ?_); refine zS ?_)
  | ((with_reducible refine awp_drawnW [56, 57, 59] ?_ ?_); rfl; refine zS ?_)
  | ((with_reducible refine awp_drawnA ?_ ?_); rfl; refine zS ?_)
  | ((with_reducible refine CGd_nd ?_ ?_) <;> intro hb hb2 <;> first | contradiction | (exfalso; omega) | (refine zH hb2 ?_; try clear hb2))
  | ((with_reducible refine CGd_nb ?_ ?_) <;> intro hb <;> first | contradiction | refine zH hb ?_)
  | ((with_reducible refine CGd_d ?_ ?_) <;> intro hb hb2 <;> first | contradiction | (exfalso; omega) | (refine zH hb2 ?_; try clear hb2))
  | ((with_reducible refine CGd_b ?_ ?_) <;> intro hb <;> first | contradiction | refine zH hb ?_)
  | ((with_reducible refine CRes_id ?_); refine zS ?_)
  | ((with_reducible refine DStep_id ?_); refine zdP ?_; refine ⟨_, by first | exact hof | exact digI2_ok _ (by omega) (by omega) | fail, fun _ => rfl, fun _ => rfl, rfl, (fun h => by first | cases h | fail), ?_⟩; try refine zS ?_)
  | ((with_reducible refine DStep_id ?_); refine zdW ?_; refine ⟨_, by first | exact hof | exact digI2_ok _ (by omega) (by omega) | fail, fun _ => rfl, fun _ => rfl, rfl, ?_⟩; try refine zS ?_)
  | ((with_reducible refine DStep_id ?_); refine zdT [0, 1] ?_; refine ⟨_, _, by first | exact wb_ok 77 (.inr rfl) fr s 36 (by omega) | exact ws_ok 77 (.inr rfl) fr s _ (by omega) (by omega) | exact ws_ok 77 (.inr rfl) false (s ++ [36]) _ (by simp; omega) (by omega) | fail, ?_⟩; try refine zS ?_)
  | ((with_reducible refine AWP_c ?_); refine zcdT ?_)
  | ((with_reducible refine AWP_c ?_); refine zcdF ?_)
  | ((with_reducible refine AWP_c ?_); refine zcdN ?_ ?_ <;> intro hb hb2 <;> first | contradiction | (exfalso; omega) | ((try refine zH hb2 ?_); try clear hb2))
  | ((with_reducible refine AWP_c ?_); refine zcdD ?_ ?_ <;> intro hb hb2 <;> first | contradiction | (exfalso; omega) | ((try refine zH hb2 ?_); try clear hb2))
  | ((with_reducible refine AWP_c ?_); refine zcdM ?_ ?_ <;> intro hb <;> first | contradiction | (try refine zH hb ?_))
  | ((with_reducible refine AWP_c ?_); refine zcdB ?_ ?_ <;> intro hb <;> first | contradiction | (try refine zH hb ?_))
  | ((with_reducible refine awp_ret ?_); refine fin_r ?_)
  | ((with_reducible refine awp_ret ?_); refine fin_q ?_ ?_)
  | with_reducible refine fin_qn ?_ ?_
  | ((with_reducible refine awp_skip ?_); refine zS ?_)
  | with_reducible refine awp_block ?_
  | ((with_reducible refine awp_exit ?_); refine zS ?_)
  | ((with_reducible refine CallK_id ?_); refine zcF ?_; refine ⟨_, by first | exact hof | exact digI2_ok _ (by omega) (by omega) | fail, fun _ => rfl, fun _ => rfl, rfl, ?_⟩; try refine zS ?_)
  | ((with_reducible refine CallK_id ?_); refine zcT [0, 1] ?_; refine ⟨_, _, by first | exact wb_ok 77 (.inr rfl) fr s 36 (by omega) | exact ws_ok 77 (.inr rfl) fr s _ (by omega) (by omega) | exact ws_ok 77 (.inr rfl) false (s ++ [36]) _ (by simp; omega) (by omega) | fail, ?_⟩; try refine zS ?_)
  | exact True.intro
  | fail
  all_goals first | rfl | (simp [go_sem, *]; done) | trace_state
include hs hl0 in
theorem wr3 (hof : AFn env 55 [t.a] [] (Btw.a ⟨tx, 3, op, tu, dn⟩) []) (hl : 1 ≤ t.kids.length) (w : Str) (hk : AFn env 59 [P0, (gt t.kids 0).a, aI 3] (BS 77 false (s ++ [110, 111, 116, 32])) (.tup []) (BS 77 false w)) :
    AFn env 30 [P0, t.a] (BS 77 fr s) (.tup []) (BS 77 false w) := by
  refine afn_body Tryd.func30 rfl (by decide) ?_
  simp only [Tryd.ntmps30, Tryd.results30, List.length_cons, List.length_nil, List.cons_append, List.nil_append, Nat.reduceAdd, Nat.reduceSub, List.replicate]
  repeat' first
  | with_reducible refine awp_seq ?_
  | ((with_reducible refine awp_region ?_); refine zS ?_)
  | ((with_reducible refine Gd_nd ?_ ?_) <;> intro hb hb2 <;> first | contradiction | (exfalso; omega) | (refine zH hb2 ?_; try clear hb2))
  | ((with_reducible refine Gd_nb ?_ ?_) <;> intro hb <;> first | contradiction | refine zH hb ?_)
  | ((with_reducible refine Gd_d ?_ ?_) <;> intro hb hb2 <;> first | contradiction | (exfalso; omega) | (refine zH hb2 ?_; try clear hb2))
  | ((with_reducible refine Gd_b ?_ ?_) <;> intro hb <;> first | contradiction | refine zH hb ?_)
  | ((with_reducible refine Res_id ?_); refine zS ?_)
  | ((with_reducible refine awp_drawnW [56, 57, 59] ?_ ?_); rfl; refine zS ?_)
  | ((with_reducible refine awp_drawnA ?_ ?_); rfl; refine zS ?_)
  | ((with_reducible refine CGd_nd ?_ ?_) <;> intro hb hb2 <;> first | contradiction | (exfalso; omega) | (refine zH hb2 ?_; try clear hb2))
  | ((with_reducible refine CGd_nb ?_ ?_) <;> intro hb <;> first | contradiction | refine zH hb ?_)
  | ((with_reducible refine CGd_d ?_ ?_) <;> intro hb hb2 <;> first | contradiction | (exfalso; omega) | (refine zH hb2 ?_; try clear hb2))
  | ((with_reducible refine CGd_b ?_ ?_) <;> intro hb <;> first | contradiction | refine zH hb ?_)
  | ((with_reducible refine CRes_id ?_); refine zS ?_)
  | ((with_reducible refine DStep_id ?_); refine zdP ?_; refine ⟨_, by first | exact hof | fail, fun _ => rfl, fun _ => rfl, rfl, (fun h => by first | cases h | fail), ?_⟩; try refine zS ?_)
  | ((with_reducible refine DStep_id ?_); refine zdW ?_; refine ⟨_, by first | exact hof | fail, fun _ => rfl, fun _ => rfl, rfl, ?_⟩; try refine zS ?_)
  | ((with_reducible refine DStep_id ?_); refine zdT [0, 1] ?_; refine ⟨_, _, by first | exact ws_ok 77 (.inr rfl) fr s [110, 111, 116, 32] (by omega) (by decide) | exact hk | fail, ?_⟩; try refine zS ?_)
  | ((with_reducible refine AWP_c ?_); refine zcdT ?_)
  | ((with_reducible refine AWP_c ?_); refine zcdF ?_)
  | ((with_reducible refine AWP_c ?_); refine zcdN ?_ ?_ <;> intro hb hb2 <;> first | contradiction | (exfalso; omega) | ((try refine zH hb2 ?_); try clear hb2))
  | ((with_reducible refine AWP_c ?_); refine zcdD ?_ ?_ <;> intro hb hb2 <;> first | contradiction | (exfalso; omega) | ((try refine zH hb2 ?_); try clear hb2))
  | ((with_reducible refine AWP_c ?_); refine zcdM ?_ ?_ <;> intro hb <;> first | contradiction | (try refine zH hb ?_))
  | ((with_reducible refine AWP_c ?_); refine zcdB ?_ ?_ <;> intro hb <;> first | contradiction | (try refine zH hb ?_))
  | ((with_reducible refine awp_ret ?_); refine fin_r ?_)
  | ((with_reducible refine awp_ret ?_); refine fin_q ?_ ?_)
  | with_reducible refine fin_qn ?_ ?_
  | ((with_reducible refine awp_skip ?_); refine zS ?_)
  | with_reducible refine awp_block ?_
  | ((with_reducible refine awp_exit ?_); refine zS ?_)
  | ((with_reducible refine CallK_id ?_); refine zcF ?_; refine ⟨_, by first | exact hof | fail, fun _ => rfl, fun _ => rfl, rfl, ?_⟩; try refine zS ?_)
  | ((with_reducible refine CallK_id ?_); refine zcT [0, 1] ?_; refine ⟨_, _, by first | exact ws_ok 77 (.inr rfl) fr s [110, 111, 116, 32] (by omega) (by decide) | exact hk | fail, ?_⟩; try refine zS ?_)
  | exact True.intro
  | fail
  all_goals first | rfl | (simp [go_sem, *]; done) | trace_state
include hs hl0 in
theorem wr7 (hof : AFn env 55 [t.a] [] (Btw.a ⟨tx, 7, op, tu, dn⟩) []) (hl : 1 ≤ t.kids.length) (w : Str) (hk : AFn env 59 [P0, (gt t.kids 0).a, aI 7] (BS 77 false (s ++ [45])) (.tup []) (BS 77 false w)) :
    AFn env 30 [P0, t.a] (BS 77 fr s) (.tup []) (BS 77 false w) := by
  refine afn_body Tryd.func30 rfl (by decide) ?_
  simp only [Tryd.ntmps30, Tryd.results30, List.length_cons, List.length_nil, List.cons_append, List.nil_append, Nat.reduceAdd, Nat.reduceSub, List.replicate]
  repeat' first
  | with_reducible refine awp_seq ?_
  | ((with_reducible refine awp_region ?_); refine zS ?_)
  | ((with_reducible refine Gd_nd ?_ ?_) <;> intro hb hb2 <;> first | contradiction | (exfalso; omega) | (refine zH hb2 ?_; try clear hb2))
  | ((with_reducible refine Gd_nb ?_ ?_) <;> intro hb <;> first | contradiction | refine zH hb ?_)
  | ((with_reducible refine Gd_d ?_ ?_) <;> intro hb hb2 <;> first | contradiction | (exfalso; omega) | (refine zH hb2 ?_; try clear hb2))
  | ((with_reducible refine Gd_b ?_ ?_) <;> intro hb <;> first | contradiction | refine zH hb ?_)
  | ((with_reducible refine Res_id ?_); refine zS ?_)
  | ((with_reducible refine awp_drawnW [56, 57, 59] ?_ ?_); rfl; refine zS ?_)
  | ((with_reducible refine awp_drawnA ?_ ?_); rfl; refine zS ?_)
  | ((with_reducible refine CGd_nd ?_ ?_) <;> intro hb hb2 <;> first | contradiction | (exfalso; omega) | (refine zH hb2 ?_; try clear hb2))
  | ((with_reducible refine CGd_nb ?_ ?_) <;> intro hb <;> first | contradiction | refine zH hb ?_)
  | ((with_reducible refine CGd_d ?_ ?_) <;> intro hb hb2 <;> first | contradiction | (exfalso; omega) | (refine zH hb2 ?_; try clear hb2))
  | ((with_reducible refine CGd_b ?_ ?_) <;> intro hb <;> first | contradiction | refine zH hb ?_)
  | ((with_reducible refine CRes_id ?_); refine zS ?_)
  | ((with_reducible refine DStep_id ?_); refine zdP ?_; refine ⟨_, by first | exact hof | fail, fun _ => rfl, fun _ => rfl, rfl, (fun h => by first | cases h | fail), ?_⟩; try refine zS ?_)
  | ((with_reducible refine DStep_id ?_); refine zdW ?_; refine ⟨_, by first | exact hof | fail, fun _ => rfl, fun _ => rfl, rfl, ?_⟩; try refine zS ?_)
  | ((with_reducible refine DStep_id ?_); refine zdT [0, 1] ?_; refine ⟨_, _, by first | exact wb_ok 77 (.inr rfl) fr s 45 (by omega) | exact hk | fail, ?_⟩; try refine zS ?_)
  | ((with_reducible refine AWP_c ?_); refine zcdT ?_)
  | ((with_reducible refine AWP_c ?_); refine zcdF ?_)
  | ((with_reducible refine AWP_c ?_); refine zcdN ?_ ?_ <;> intro hb hb2 <;> first | contradiction | (exfalso; omega) | ((try refine zH hb2 ?_); try clear hb2))
  | ((with_reducible refine AWP_c ?_); refine zcdD ?_ ?_ <;> intro hb hb2 <;> first | contradiction | (exfalso; omega) | ((try refine zH hb2 ?_); try clear hb2))
  | ((with_reducible refine AWP_c ?_); refine zcdM ?_ ?_ <;> intro hb <;> first | contradiction | (try refine zH hb ?_))
  | ((with_reducible refine AWP_c ?_); refine zcdB ?_ ?_ <;> intro hb <;> first | contradiction | (try refine zH hb ?_))
  | ((with_reducible refine awp_ret ?_); refine fin_r ?_)
  | ((with_reducible refine awp_ret ?_); refine fin_q ?_ ?_)
  | with_reducible refine fin_qn ?_ ?_
  | ((with_reducible refine awp_skip ?_); refine zS ?_)
  | with_reducible refine awp_block ?_
  | ((with_reducible refine awp_exit ?_); refine zS ?_)
  | ((with_reducible refine CallK_id ?_); refine zcF ?_; refine ⟨_, by first | exact hof | fail, fun _ => rfl, fun _ => rfl, rfl, ?_⟩; try refine zS ?_)
  | ((with_reducible refine CallK_id ?_); refine zcT [0, 1] ?_; refine ⟨_, _, by first | exact wb_ok 77 (.inr rfl) fr s 45 (by omega) | exact hk | fail, ?_⟩; try refine zS ?_)
  | exact True.intro
  | fail
  all_goals first | rfl | (simp [go_sem, *]; done) | trace_state
variable (s1 w : Str) (hs1 : s1.length < 10000000000) (htx : tx.length ≤ 3)
include hs1 htx in
theorem wrD (hof : AFn env 55 [t.a] [] (Btw.a ⟨tx, 4, op, tu, true⟩) []) (hl0 : t.kids.length < 4611686018427387904) (hl1 : (gt t.kids 0).kids.length < 4611686018427387904) (hl : 1 ≤ t.kids.length) (hl2 : 2 ≤ (gt t.kids 0).kids.length)
    (hk0 : AFn env 59 [P0, (gt (gt t.kids 0).kids 0).a, aI 5] (BS 77 fr s) (.tup []) (BS 77 false s1)) (hk1 : AFn env 59 [P0, (gt (gt t.kids 0).kids 1).a, aI 5] (BS 77 false (s1 ++ (32 :: (tx ++ [32])))) (.tup []) (BS 77 false w)) :
    AFn env 30 [P0, t.a] (BS 77 fr s) (.tup []) (BS 77 false w) := by
  refine afn_body Tryd.func30 rfl (by decide) ?_
  simp only [Tryd.ntmps30, Tryd.results30, List.length_cons, List.length_nil, List.cons_append, List.nil_append, Nat.reduceAdd, Nat.reduceSub, List.replicate]
  repeat' first
  | with_reducible refine awp_seq ?_
  | ((with_reducible refine awp_region ?_); refine zS ?_)
  | ((with_reducible refine Gd_nd ?_ ?_) <;> intro hb hb2 <;> first | contradiction | (exfalso; omega) | (refine zH hb2 ?_; try clear hb2))
  | ((with_reducible refine Gd_nb ?_ ?_) <;> intro hb <;> first | contradiction | refine zH hb ?_)
  | ((with_reducible refine Gd_d ?_ ?_) <;> intro hb hb2 <;> first | contradiction | (exfalso; omega) | (refine zH hb2 ?_; try clear hb2))
  | ((with_reducible refine Gd_b ?_ ?_) <;> intro hb <;> first | contradiction | refine zH hb ?_)
  | ((with_reducible refine Res_id ?_); refine zS ?_)
  | ((with_reducible refine awp_drawnW [56, 57, 59] ?_ ?_); rfl; refine zS ?_)
  | ((with_reducible refine awp_drawnA ?_ ?_); rfl; refine zS ?_)
  | ((with_reducible refine CGd_nd ?_ ?_) <;> intro hb hb2 <;> first | contradiction | (exfalso; omega) | (refine zH hb2 ?_; try clear hb2))
  | ((with_reducible refine CGd_nb ?_ ?_) <;> intro hb <;> first | contradiction | refine zH hb ?_)
  | ((with_reducible refine CGd_d ?_ ?_) <;> intro hb hb2 <;> first | contradiction | (exfalso; omega) | (refine zH hb2 ?_; try clear hb2))
  | ((with_reducible refine CGd_b ?_ ?_) <;> intro hb <;> first | contradiction | refine zH hb ?_)
  | ((with_reducible refine CRes_id ?_); refine zS ?_)
  | ((with_reducible refine DStep_id ?_); refine zdP ?_; refine ⟨_, by first | exact hof | fail, fun _ => rfl, fun _ => rfl, rfl, (fun h => by first | cases h | fail), ?_⟩; try refine zS ?_)
  | ((with_reducible refine DStep_id ?_); refine zdW ?_; refine ⟨_, by first | exact hof | fail, fun _ => rfl, fun _ => rfl, rfl, ?_⟩; try refine zS ?_)
  | ((with_reducible refine AWP_c ?_); refine zcdT ?_)
  | ((with_reducible refine AWP_c ?_); refine zcdF ?_)
  | ((with_reducible refine AWP_c ?_); refine zcdN ?_ ?_ <;> intro hb hb2 <;> first | contradiction | (exfalso; omega) | ((try refine zH hb2 ?_); try clear hb2))
  | ((with_reducible refine AWP_c ?_); refine zcdD ?_ ?_ <;> intro hb hb2 <;> first | contradiction | (exfalso; omega) | ((try refine zH hb2 ?_); try clear hb2))
  | ((with_reducible refine AWP_c ?_); refine zcdM ?_ ?_ <;> intro hb <;> first | contradiction | (try refine zH hb ?_))
  | ((with_reducible refine AWP_c ?_); refine zcdB ?_ ?_ <;> intro hb <;> first | contradiction | (try refine zH hb ?_))
  | ((with_reducible refine awp_ret ?_); refine fin_r ?_)
  | ((with_reducible refine awp_ret ?_); refine fin_q ?_ ?_)
  | with_reducible refine fin_qn ?_ ?_
  | ((with_reducible refine awp_skip ?_); refine zS ?_)
  | with_reducible refine awp_block ?_
  | ((with_reducible refine awp_exit ?_); refine zS ?_)
  | ((with_reducible refine CallK_id ?_); refine zcF ?_; refine ⟨_, by first | exact hof | fail, fun _ => rfl, fun _ => rfl, rfl, ?_⟩; try refine zS ?_)
  | exact True.intro
  | fail
  all_goals as_aux_lemma =>
    repeat' first
    | with_reducible refine awp_seq ?_
    | ((with_reducible refine awp_region ?_); refine zS ?_)
    | ((with_reducible refine Gd_nd ?_ ?_) <;> intro hb hb2 <;> first | contradiction | (exfalso; omega) | (refine zH hb2 ?_; try clear hb2))
    | ((with_reducible refine Gd_nb ?_ ?_) <;> intro hb <;> first | contradiction | refine zH hb ?_)
    | ((with_reducible refine Gd_d ?_ ?_) <;> intro hb hb2 <;> first | contradiction | (exfalso; omega) | (refine zH hb2 ?_; try clear hb2))
    | ((with_reducible refine Gd_b ?_ ?_) <;> intro hb <;> first | contradiction | refine zH hb ?_)
    | ((with_reducible refine Res_id ?_); refine zS ?_)
    | ((with_reducible refine awp_drawnW [56, 57, 59] ?_ ?_); rfl; refine zS ?_)
    | ((with_reducible refine awp_drawnA ?_ ?_); rfl; refine zS ?_)
    | ((with_reducible refine CGd_nd ?_ ?_) <;> intro hb hb2 <;> first | contradiction | (exfalso; omega) | (refine zH hb2 ?_; try clear hb2))
    | ((with_reducible refine CGd_nb ?_ ?_) <;> intro hb <;> first | contradiction | refine zH hb ?_)
    | ((with_reducible refine CGd_d ?_ ?_) <;> intro hb hb2 <;> first | contradiction | (exfalso; omega) | (refine zH hb2 ?_; try clear hb2))
    | ((with_reducible refine CGd_b ?_ ?_) <;> intro hb <;> first | contradiction | refine zH hb ?_)
    | ((with_reducible refine CRes_id ?_); refine zS ?_)
    | ((with_reducible refine DStep_id ?_); refine zdP ?_; refine ⟨_, by first  | fail, fun _ => rfl, fun _ => rfl, rfl, (fun h => by first | cases h | fail), ?_⟩; try refine zS ?_)
    | ((with_reducible refine DStep_id ?_); refine zdW ?_; refine ⟨_, by first  | fail, fun _ => rfl, fun _ => rfl, rfl, ?_⟩; try refine zS ?_)
    | ((with_reducible refine DStep_id ?_); refine zdT [0, 1] ?_; refine ⟨_, _, by first | exact hk0 | fail, ?_⟩; try refine zS ?_)
    | ((with_reducible refine AWP_c ?_); refine zcdT ?_)
    | ((with_reducible refine AWP_c ?_); refine zcdF ?_)
    | ((with_reducible refine AWP_c ?_); refine zcdN ?_ ?_ <;> intro hb hb2 <;> first | contradiction | (exfalso; omega) | ((try refine zH hb2 ?_); try clear hb2))
    | ((with_reducible refine AWP_c ?_); refine zcdD ?_ ?_ <;> intro hb hb2 <;> first | contradiction | (exfalso; omega) | ((try refine zH hb2 ?_); try clear hb2))
    | ((with_reducible refine AWP_c ?_); refine zcdM ?_ ?_ <;> intro hb <;> first | contradiction | (try refine zH hb ?_))
    | ((with_reducible refine AWP_c ?_); refine zcdB ?_ ?_ <;> intro hb <;> first | contradiction | (try refine zH hb ?_))
    | ((with_reducible refine awp_ret ?_); refine fin_r ?_)
    | ((with_reducible refine awp_ret ?_); refine fin_q ?_ ?_)
    | with_reducible refine fin_qn ?_ ?_
    | ((with_reducible refine awp_skip ?_); refine zS ?_)
    | with_reducible refine awp_block ?_
    | ((with_reducible refine awp_exit ?_); refine zS ?_)
    | ((with_reducible refine CallK_id ?_); refine zcF ?_; refine ⟨_, by first  | fail, fun _ => rfl, fun _ => rfl, rfl, ?_⟩; try refine zS ?_)
    | ((with_reducible refine CallK_id ?_); refine zcT [0, 1] ?_; refine ⟨_, _, by first | exact hk0 | fail, ?_⟩; try refine zS ?_)
    | exact True.intro
    | fail
    all_goals as_aux_lemma =>
      repeat' first
      | with_reducible refine awp_seq ?_
      | ((with_reducible refine awp_region ?_); refine zS ?_)
      | ((with_reducible refine Gd_nd ?_ ?_) <;> intro hb hb2 <;> first | contradiction | (exfalso; omega) | (refine zH hb2 ?_; try clear hb2))
      | ((with_reducible refine Gd_nb ?_ ?_) <;> intro hb <;> first | contradiction | refine zH hb ?_)
      | ((with_reducible refine Gd_d ?_ ?_) <;> intro hb hb2 <;> first | contradiction | (exfalso; omega) | (refine zH hb2 ?_; try clear hb2))
      | ((with_reducible refine Gd_b ?_ ?_) <;> intro hb <;> first | contradiction | refine zH hb ?_)
      | ((with_reducible refine Res_id ?_); refine zS ?_)
      | ((with_reducible refine awp_drawnW [56, 57, 59] ?_ ?_); rfl; refine zS ?_)
      | ((with_reducible refine awp_drawnA ?_ ?_); rfl; refine zS ?_)
      | ((with_reducible refine CGd_nd ?_ ?_) <;> intro hb hb2 <;> first | contradiction | (exfalso; omega) | (refine zH hb2 ?_; try clear hb2))
      | ((with_reducible refine CGd_nb ?_ ?_) <;> intro hb <;> first | contradiction | refine zH hb ?_)
      | ((with_reducible refine CGd_d ?_ ?_) <;> intro hb hb2 <;> first | contradiction | (exfalso; omega) | (refine zH hb2 ?_; try clear hb2))
      | ((with_reducible refine CGd_b ?_ ?_) <;> intro hb <;> first | contradiction | refine zH hb ?_)
      | ((with_reducible refine CRes_id ?_); refine zS ?_)
      | ((with_reducible refine DStep_id ?_); refine zdP ?_; refine ⟨_, by first | exact hof | fail, fun _ => rfl, fun _ => rfl, rfl, (fun h => by first | cases h | fail), ?_⟩; try refine zS ?_)
      | ((with_reducible refine DStep_id ?_); refine zdW ?_; refine ⟨_, by first | exact hof | fail, fun _ => rfl, fun _ => rfl, rfl, ?_⟩; try refine zS ?_)
      | ((with_reducible refine DStep_id ?_); refine zdT [0, 1] ?_; refine ⟨_, _, by first | exact ws_ok 77 (.inr rfl) false s1 _ (by omega) (by first | omega | (simp; omega)) | exact hk1 | fail, ?_⟩; try refine zS ?_)
      | ((with_reducible refine AWP_c ?_); refine zcdT ?_)
      | ((with_reducible refine AWP_c ?_); refine zcdF ?_)
      | ((with_reducible refine AWP_c ?_); refine zcdN ?_ ?_ <;> intro hb hb2 <;> first | contradiction | (exfalso; omega) | ((try refine zH hb2 ?_); try clear hb2))
      | ((with_reducible refine AWP_c ?_); refine zcdD ?_ ?_ <;> intro hb hb2 <;> first | contradiction | (exfalso; omega) | ((try refine zH hb2 ?_); try clear hb2))
      | ((with_reducible refine AWP_c ?_); refine zcdM ?_ ?_ <;> intro hb <;> first | contradiction | (try refine zH hb ?_))
      | ((with_reducible refine AWP_c ?_); refine zcdB ?_ ?_ <;> intro hb <;> first | contradiction | (try refine zH hb ?_))
      | ((with_reducible refine awp_ret ?_); refine fin_r ?_)
      | ((with_reducible refine awp_ret ?_); refine fin_q ?_ ?_)
      | with_reducible refine fin_qn ?_ ?_
      | ((with_reducible refine awp_skip ?_); refine zS ?_)
      | with_reducible refine awp_block ?_
      | ((with_reducible refine awp_exit ?_); refine zS ?_)
      | ((with_reducible refine CallK_id ?_); refine zcF ?_; refine ⟨_, by first | exact hof | fail, fun _ => rfl, fun _ => rfl, rfl, ?_⟩; try refine zS ?_)
      | ((with_reducible refine CallK_id ?_); refine zcT [0, 1] ?_; refine ⟨_, _, by first | exact ws_ok 77 (.inr rfl) false s1 _ (by omega) (by first | omega | (simp; omega)) | exact hk1 | fail, ?_⟩; try refine zS ?_)
      | exact True.intro
      | fail
      all_goals first | rfl | (simp [go_sem, *]; done) | trace_state
include hs1 htx hl0 in
theorem wr4 (hof : AFn env 55 [t.a] [] (Btw.a ⟨tx, 4, op, tu, false⟩) []) (hl : 2 ≤ t.kids.length)
    (hk0 : AFn env 59 [P0, (gt t.kids 0).a, aI 5] (BS 77 fr s) (.tup []) (BS 77 false s1)) (hk1 : AFn env 59 [P0, (gt t.kids 1).a, aI 5] (BS 77 false (s1 ++ (32 :: (tx ++ [32])))) (.tup []) (BS 77 false w)) :
    AFn env 30 [P0, t.a] (BS 77 fr s) (.tup []) (BS 77 false w) := by
  refine afn_body Tryd.func30 rfl (by decide) ?_
  simp only [Tryd.ntmps30, Tryd.results30, List.length_cons, List.length_nil, List.cons_append, List.nil_append, Nat.reduceAdd, Nat.reduceSub, List.replicate]
  repeat' first
  | with_reducible refine awp_seq ?_
  | ((with_reducible refine awp_region ?_); refine zS ?_)
  | ((with_reducible refine Gd_nd ?_ ?_) <;> intro hb hb2 <;> first | contradiction | (exfalso; omega) | (refine zH hb2 ?_; try clear hb2))
  | ((with_reducible refine Gd_nb ?_ ?_) <;> intro hb <;> first | contradiction | refine zH hb ?_)
  | ((with_reducible refine Gd_d ?_ ?_) <;> intro hb hb2 <;> first | contradiction | (exfalso; omega) | (refine zH hb2 ?_; try clear hb2))
  | ((with_reducible refine Gd_b ?_ ?_) <;> intro hb <;> first | contradiction | refine zH hb ?_)
  | ((with_reducible refine Res_id ?_); refine zS ?_)
  | ((with_reducible refine awp_drawnW [56, 57, 59] ?_ ?_); rfl; refine zS ?_)
  | ((with_reducible refine awp_drawnA ?_ ?_); rfl; refine zS ?_)
  | ((with_reducible refine CGd_nd ?_ ?_) <;> intro hb hb2 <;> first | contradiction | (exfalso; omega) | (refine zH hb2 ?_; try clear hb2))
  | ((with_reducible refine CGd_nb ?_ ?_) <;> intro hb <;> first | contradiction | refine zH hb ?_)
  | ((with_reducible refine CGd_d ?_ ?_) <;> intro hb hb2 <;> first | contradiction | (exfalso; omega) | (refine zH hb2 ?_; try clear hb2))
  | ((with_reducible refine CGd_b ?_ ?_) <;> intro hb <;> first | contradiction | refine zH hb ?_)
  | ((with_reducible refine CRes_id ?_); refine zS ?_)
  | ((with_reducible refine DStep_id ?_); refine zdP ?_; refine ⟨_, by first | exact hof | fail, fun _ => rfl, fun _ => rfl, rfl, (fun h => by first | cases h | fail), ?_⟩; try refine zS ?_)
  | ((with_reducible refine DStep_id ?_); refine zdW ?_; refine ⟨_, by first | exact hof | fail, fun _ => rfl, fun _ => rfl, rfl, ?_⟩; try refine zS ?_)
  | ((with_reducible refine AWP_c ?_); refine zcdT ?_)
  | ((with_reducible refine AWP_c ?_); refine zcdF ?_)
  | ((with_reducible refine AWP_c ?_); refine zcdN ?_ ?_ <;> intro hb hb2 <;> first | contradiction | (exfalso; omega) | ((try refine zH hb2 ?_); try clear hb2))
  | ((with_reducible refine AWP_c ?_); refine zcdD ?_ ?_ <;> intro hb hb2 <;> first | contradiction | (exfalso; omega) | ((try refine zH hb2 ?_); try clear hb2))
  | ((with_reducible refine AWP_c ?_); refine zcdM ?_ ?_ <;> intro hb <;> first | contradiction | (try refine zH hb ?_))
  | ((with_reducible refine AWP_c ?_); refine zcdB ?_ ?_ <;> intro hb <;> first | contradiction | (try refine zH hb ?_))
  | ((with_reducible refine awp_ret ?_); refine fin_r ?_)
  | ((with_reducible refine awp_ret ?_); refine fin_q ?_ ?_)
  | with_reducible refine fin_qn ?_ ?_
  | ((with_reducible refine awp_skip ?_); refine zS ?_)
  | with_reducible refine awp_block ?_
  | ((with_reducible refine awp_exit ?_); refine zS ?_)
  | ((with_reducible refine CallK_id ?_); refine zcF ?_; refine ⟨_, by first | exact hof | fail, fun _ => rfl, fun _ => rfl, rfl, ?_⟩; try refine zS ?_)
  | exact True.intro
  | fail
  all_goals as_aux_lemma =>
    repeat' first
    | with_reducible refine awp_seq ?_
    | ((with_reducible refine awp_region ?_); refine zS ?_)
    | ((with_reducible refine Gd_nd ?_ ?_) <;> intro hb hb2 <;> first | contradiction | (exfalso; omega) | (refine zH hb2 ?_; try clear hb2))
    | ((with_reducible refine Gd_nb ?_ ?_) <;> intro hb <;> first | contradiction | refine zH hb ?_)
    | ((with_reducible refine Gd_d ?_ ?_) <;> intro hb hb2 <;> first | contradiction | (exfalso; omega) | (refine zH hb2 ?_; try clear hb2))
    | ((with_reducible refine Gd_b ?_ ?_) <;> intro hb <;> first | contradiction | refine zH hb ?_)
    | ((with_reducible refine Res_id ?_); refine zS ?_)
    | ((with_reducible refine awp_drawnW [56, 57, 59] ?_ ?_); rfl; refine zS ?_)
    | ((with_reducible refine awp_drawnA ?_ ?_); rfl; refine zS ?_)
    | ((with_reducible refine CGd_nd ?_ ?_) <;> intro hb hb2 <;> first | contradiction | (exfalso; omega) | (refine zH hb2 ?_; try clear hb2))
    | ((with_reducible refine CGd_nb ?_ ?_) <;> intro hb <;> first | contradiction | refine zH hb ?_)
    | ((with_reducible refine CGd_d ?_ ?_) <;> intro hb hb2 <;> first | contradiction | (exfalso; omega) | (refine zH hb2 ?_; try clear hb2))
    | ((with_reducible refine CGd_b ?_ ?_) <;> intro hb <;> first | contradiction | refine zH hb ?_)
    | ((with_reducible refine CRes_id ?_); refine zS ?_)
    | ((with_reducible refine DStep_id ?_); refine zdP ?_; refine ⟨_, by first  | fail, fun _ => rfl, fun _ => rfl, rfl, (fun h => by first | cases h | fail), ?_⟩; try refine zS ?_)
    | ((with_reducible refine DStep_id ?_); refine zdW ?_; refine ⟨_, by first  | fail, fun _ => rfl, fun _ => rfl, rfl, ?_⟩; try refine zS ?_)
    | ((with_reducible refine DStep_id ?_); refine zdT [0, 1] ?_; refine ⟨_, _, by first | exact hk0 | fail, ?_⟩; try refine zS ?_)
    | ((with_reducible refine AWP_c ?_); refine zcdT ?_)
    | ((with_reducible refine AWP_c ?_); refine zcdF ?_)
    | ((with_reducible refine AWP_c ?_); refine zcdN ?_ ?_ <;> intro hb hb2 <;> first | contradiction | (exfalso; omega) | ((try refine zH hb2 ?_); try clear hb2))
    | ((with_reducible refine AWP_c ?_); refine zcdD ?_ ?_ <;> intro hb hb2 <;> first | contradiction | (exfalso; omega) | ((try refine zH hb2 ?_); try clear hb2))
    | ((with_reducible refine AWP_c ?_); refine zcdM ?_ ?_ <;> intro hb <;> first | contradiction | (try refine zH hb ?_))
    | ((with_reducible refine AWP_c ?_); refine zcdB ?_ ?_ <;> intro hb <;> first | contradiction | (try refine zH hb ?_))
    | ((with_reducible refine awp_ret ?_); refine fin_r ?_)
    | ((with_reducible refine awp_ret ?_); refine fin_q ?_ ?_)
    | with_reducible refine fin_qn ?_ ?_
    | ((with_reducible refine awp_skip ?_); refine zS ?_)
    | with_reducible refine awp_block ?_
    | ((with_reducible refine awp_exit ?_); refine zS ?_)
    | ((with_reducible refine CallK_id ?_); refine zcF ?_; refine ⟨_, by first  | fail, fun _ => rfl, fun _ => rfl, rfl, ?_⟩; try refine zS ?_)
    | ((with_reducible refine CallK_id ?_); refine zcT [0, 1] ?_; refine ⟨_, _, by first | exact hk0 | fail, ?_⟩; try refine zS ?_)
    | exact True.intro
    | fail
    all_goals as_aux_lemma =>
      repeat' first
      | with_reducible refine awp_seq ?_
      | ((with_reducible refine awp_region ?_); refine zS ?_)
      | ((with_reducible refine Gd_nd ?_ ?_) <;> intro hb hb2 <;> first | contradiction | (exfalso; omega) | (refine zH hb2 ?_; try clear hb2))
      | ((with_reducible refine Gd_nb ?_ ?_) <;> intro hb <;> first | contradiction | refine zH hb ?_)
      | ((with_reducible refine Gd_d ?_ ?_) <;> intro hb hb2 <;> first | contradiction | (exfalso; omega) | (refine zH hb2 ?_; try clear hb2))
      | ((with_reducible refine Gd_b ?_ ?_) <;> intro hb <;> first | contradiction | refine zH hb ?_)
      | ((with_reducible refine Res_id ?_); refine zS ?_)
      | ((with_reducible refine awp_drawnW [56, 57, 59] ?_ ?_); rfl; refine zS ?_)
      | ((with_reducible refine awp_drawnA ?_ ?_); rfl; refine zS ?_)
      | ((with_reducible refine CGd_nd ?_ ?_) <;> intro hb hb2 <;> first | contradiction | (exfalso; omega) | (refine zH hb2 ?_; try clear hb2))
      | ((with_reducible refine CGd_nb ?_ ?_) <;> intro hb <;> first | contradiction | refine zH hb ?_)
      | ((with_reducible refine CGd_d ?_ ?_) <;> intro hb hb2 <;> first | contradiction | (exfalso; omega) | (refine zH hb2 ?_; try clear hb2))
      | ((with_reducible refine CGd_b ?_ ?_) <;> intro hb <;> first | contradiction | refine zH hb ?_)
      | ((with_reducible refine CRes_id ?_); refine zS ?_)
      | ((with_reducible refine DStep_id ?_); refine zdP ?_; refine ⟨_, by first | exact hof | fail, fun _ => rfl, fun _ => rfl, rfl, (fun h => by first | cases h | fail), ?_⟩; try refine zS ?_)
      | ((with_reducible refine DStep_id ?_); refine zdW ?_; refine ⟨_, by first | exact hof | fail, fun _ => rfl, fun _ => rfl, rfl, ?_⟩; try refine zS ?_)
      | ((with_reducible refine DStep_id ?_); refine zdT [0, 1] ?_; refine ⟨_, _, by first | exact ws_ok 77 (.inr rfl) false s1 _ (by omega) (by first | omega | (simp; omega)) | exact hk1 | fail, ?_⟩; try refine zS ?_)
      | ((with_reducible refine AWP_c ?_); refine zcdT ?_)
      | ((with_reducible refine AWP_c ?_); refine zcdF ?_)
      | ((with_reducible refine AWP_c ?_); refine zcdN ?_ ?_ <;> intro hb hb2 <;> first | contradiction | (exfalso; omega) | ((try refine zH hb2 ?_); try clear hb2))
      | ((with_reducible refine AWP_c ?_); refine zcdD ?_ ?_ <;> intro hb hb2 <;> first | contradiction | (exfalso; omega) | ((try refine zH hb2 ?_); try clear hb2))
      | ((with_reducible refine AWP_c ?_); refine zcdM ?_ ?_ <;> intro hb <;> first | contradiction | (try refine zH hb ?_))
      | ((with_reducible refine AWP_c ?_); refine zcdB ?_ ?_ <;> intro hb <;> first | contradiction | (try refine zH hb ?_))
      | ((with_reducible refine awp_ret ?_); refine fin_r ?_)
      | ((with_reducible refine awp_ret ?_); refine fin_q ?_ ?_)
      | with_reducible refine fin_qn ?_ ?_
      | ((with_reducible refine awp_skip ?_); refine zS ?_)
      | with_reducible refine awp_block ?_
      | ((with_reducible refine awp_exit ?_); refine zS ?_)
      | ((with_reducible refine CallK_id ?_); refine zcF ?_; refine ⟨_, by first | exact hof | fail, fun _ => rfl, fun _ => rfl, rfl, ?_⟩; try refine zS ?_)
      | ((with_reducible refine CallK_id ?_); refine zcT [0, 1] ?_; refine ⟨_, _, by first | exact ws_ok 77 (.inr rfl) false s1 _ (by omega) (by first | omega | (simp; omega)) | exact hk1 | fail, ?_⟩; try refine zS ?_)
      | exact True.intro
      | fail
      all_goals first | rfl | (simp [go_sem, *]; done) | trace_state
include hs1 htx hl0 in
theorem wrN (hof : AFn env 55 [t.a] [] (Btw.a ⟨tx, row, op, tu, false⟩) []) (h8 : row ≠ 8) (h3 : row ≠ 3) (h7 : row ≠ 7) (h4 : row ≠ 4) (hr : 1 ≤ row ∧ row ≤ 8) (hl : 2 ≤ t.kids.length)
    (hk0 : AFn env 59 [P0, (gt t.kids 0).a, aI row] (BS 77 fr s) (.tup []) (BS 77 false s1)) (hk1 : AFn env 59 [P0, (gt t.kids 1).a, aI (row + 1)] (BS 77 false (s1 ++ (32 :: (tx ++ [32])))) (.tup []) (BS 77 false w)) :
    AFn env 30 [P0, t.a] (BS 77 fr s) (.tup []) (BS 77 false w) := by
  refine afn_body Tryd.func30 rfl (by decide) ?_
  simp only [Tryd.ntmps30, Tryd.results30, List.length_cons, List.length_nil, List.cons_append, List.nil_append, Nat.reduceAdd, Nat.reduceSub, List.replicate]
  repeat' first
  | with_reducible refine awp_seq ?_
  | ((with_reducible refine awp_region ?_); refine zS ?_)
  | ((with_reducible refine Gd_nd ?_ ?_) <;> intro hb hb2 <;> first | contradiction | (exfalso; omega) | (refine zH hb2 ?_; try clear hb2))
  | ((with_reducible refine Gd_nb ?_ ?_) <;> intro hb <;> first | contradiction | refine zH hb ?_)
  | ((with_reducible refine Gd_d ?_ ?_) <;> intro hb hb2 <;> first | contradiction | (exfalso; omega) | (refine zH hb2 ?_; try clear hb2))
  | ((with_reducible refine Gd_b ?_ ?_) <;> intro hb <;> first | contradiction | refine zH hb ?_)
  | ((with_reducible refine Res_id ?_); refine zS ?_)
  | ((with_reducible refine awp_drawnW [56, 57, 59] ?_ ?_); rfl; refine zS ?_)
  | ((with_reducible refine awp_drawnA ?_ ?_); rfl; refine zS ?_)
  | ((with_reducible refine CGd_nd ?_ ?_) <;> intro hb hb2 <;> first | contradiction | (exfalso; omega) | (refine zH hb2 ?_; try clear hb2))
  | ((with_reducible refine CGd_nb ?_ ?_) <;> intro hb <;> first | contradiction | refine zH hb ?_)
  | ((with_reducible refine CGd_d ?_ ?_) <;> intro hb hb2 <;> first | contradiction | (exfalso; omega) | (refine zH hb2 ?_; try clear hb2))
  | ((with_reducible refine CGd_b ?_ ?_) <;> intro hb <;> first | contradiction | refine zH hb ?_)
  | ((with_reducible refine CRes_id ?_); refine zS ?_)
  | ((with_reducible refine DStep_id ?_); refine zdP ?_; refine ⟨_, by first | exact hof | fail, fun _ => rfl, fun _ => rfl, rfl, (fun h => by first | cases h | fail), ?_⟩; try refine zS ?_)
  | ((with_reducible refine DStep_id ?_); refine zdW ?_; refine ⟨_, by first | exact hof | fail, fun _ => rfl, fun _ => rfl, rfl, ?_⟩; try refine zS ?_)
  | ((with_reducible refine AWP_c ?_); refine zcdT ?_)
  | ((with_reducible refine AWP_c ?_); refine zcdF ?_)
  | ((with_reducible refine AWP_c ?_); refine zcdN ?_ ?_ <;> intro hb hb2 <;> first | contradiction | (exfalso; omega) | ((try refine zH hb2 ?_); try clear hb2))
  | ((with_reducible refine AWP_c ?_); refine zcdD ?_ ?_ <;> intro hb hb2 <;> first | contradiction | (exfalso; omega) | ((try refine zH hb2 ?_); try clear hb2))
  | ((with_reducible refine AWP_c ?_); refine zcdM ?_ ?_ <;> intro hb <;> first | contradiction | (try refine zH hb ?_))
  | ((with_reducible refine AWP_c ?_); refine zcdB ?_ ?_ <;> intro hb <;> first | contradiction | (try refine zH hb ?_))
  | ((with_reducible refine awp_ret ?_); refine fin_r ?_)
  | ((with_reducible refine awp_ret ?_); refine fin_q ?_ ?_)
  | with_reducible refine fin_qn ?_ ?_
  | ((with_reducible refine awp_skip ?_); refine zS ?_)
  | with_reducible refine awp_block ?_
  | ((with_reducible refine awp_exit ?_); refine zS ?_)
  | ((with_reducible refine CallK_id ?_); refine zcF ?_; refine ⟨_, by first | exact hof | fail, fun _ => rfl, fun _ => rfl, rfl, ?_⟩; try refine zS ?_)
  | exact True.intro
  | fail
  all_goals as_aux_lemma =>
    repeat' first
    | with_reducible refine awp_seq ?_
    | ((with_reducible refine awp_region ?_); refine zS ?_)
    | ((with_reducible refine Gd_nd ?_ ?_) <;> intro hb hb2 <;> first | contradiction | (exfalso; omega) | (refine zH hb2 ?_; try clear hb2))
    | ((with_reducible refine Gd_nb ?_ ?_) <;> intro hb <;> first | contradiction | refine zH hb ?_)
    | ((with_reducible refine Gd_d ?_ ?_) <;> intro hb hb2 <;> first | contradiction | (exfalso; omega) | (refine zH hb2 ?_; try clear hb2))
    | ((with_reducible refine Gd_b ?_ ?_) <;> intro hb <;> first | contradiction | refine zH hb ?_)
    | ((with_reducible refine Res_id ?_); refine zS ?_)
    | ((with_reducible refine awp_drawnW [56, 57, 59] ?_ ?_); rfl; refine zS ?_)
    | ((with_reducible refine awp_drawnA ?_ ?_); rfl; refine zS ?_)
    | ((with_reducible refine CGd_nd ?_ ?_) <;> intro hb hb2 <;> first | contradiction | (exfalso; omega) | (refine zH hb2 ?_; try clear hb2))
    | ((with_reducible refine CGd_nb ?_ ?_) <;> intro hb <;> first | contradiction | refine zH hb ?_)
    | ((with_reducible refine CGd_d ?_ ?_) <;> intro hb hb2 <;> first | contradiction | (exfalso; omega) | (refine zH hb2 ?_; try clear hb2))
    | ((with_reducible refine CGd_b ?_ ?_) <;> intro hb <;> first | contradiction | refine zH hb ?_)
    | ((with_reducible refine CRes_id ?_); refine zS ?_)
    | ((with_reducible refine DStep_id ?_); refine zdP ?_; refine ⟨_, by first  | fail, fun _ => rfl, fun _ => rfl, rfl, (fun h => by first | cases h | fail), ?_⟩; try refine zS ?_)
    | ((with_reducible refine DStep_id ?_); refine zdW ?_; refine ⟨_, by first  | fail, fun _ => rfl, fun _ => rfl, rfl, ?_⟩; try refine zS ?_)
    | ((with_reducible refine DStep_id ?_); refine zdT [0, 1] ?_; refine ⟨_, _, by first | exact hk0 | fail, ?_⟩; try refine zS ?_)
    | ((with_reducible refine AWP_c ?_); refine zcdT ?_)
    | ((with_reducible refine AWP_c ?_); refine zcdF ?_)
    | ((with_reducible refine AWP_c ?_); refine zcdN ?_ ?_ <;> intro hb hb2 <;> first | contradiction | (exfalso; omega) | ((try refine zH hb2 ?_); try clear hb2))
    | ((with_reducible refine AWP_c ?_); refine zcdD ?_ ?_ <;> intro hb hb2 <;> first | contradiction | (exfalso; omega) | ((try refine zH hb2 ?_); try clear hb2))
    | ((with_reducible refine AWP_c ?_); refine zcdM ?_ ?_ <;> intro hb <;> first | contradiction | (try refine zH hb ?_))
    | ((with_reducible refine AWP_c ?_); refine zcdB ?_ ?_ <;> intro hb <;> first | contradiction | (try refine zH hb ?_))
    | ((with_reducible refine awp_ret ?_); refine fin_r ?_)
    | ((with_reducible refine awp_ret ?_); refine fin_q ?_ ?_)
    | with_reducible refine fin_qn ?_ ?_
    | ((with_reducible refine awp_skip ?_); refine zS ?_)
    | with_reducible refine awp_block ?_
    | ((with_reducible refine awp_exit ?_); refine zS ?_)
    | ((with_reducible refine CallK_id ?_); refine zcF ?_; refine ⟨_, by first  | fail, fun _ => rfl, fun _ => rfl, rfl, ?_⟩; try refine zS ?_)
    | ((with_reducible refine CallK_id ?_); refine zcT [0, 1] ?_; refine ⟨_, _, by first | exact hk0 | fail, ?_⟩; try refine zS ?_)
    | exact True.intro
    | fail
    all_goals as_aux_lemma =>
      repeat' first
      | with_reducible refine awp_seq ?_
      | ((with_reducible refine awp_region ?_); refine zS ?_)
      | ((with_reducible refine Gd_nd ?_ ?_) <;> intro hb hb2 <;> first | contradiction | (exfalso; omega) | (refine zH hb2 ?_; try clear hb2))
      | ((with_reducible refine Gd_nb ?_ ?_) <;> intro hb <;> first | contradiction | refine zH hb ?_)
      | ((with_reducible refine Gd_d ?_ ?_) <;> intro hb hb2 <;> first | contradiction | (exfalso; omega) | (refine zH hb2 ?_; try clear hb2))
      | ((with_reducible refine Gd_b ?_ ?_) <;> intro hb <;> first | contradiction | refine zH hb ?_)
      | ((with_reducible refine Res_id ?_); refine zS ?_)
      | ((with_reducible refine awp_drawnW [56, 57, 59] ?_ ?_); rfl; refine zS ?_)
      | ((with_reducible refine awp_drawnA ?_ ?_); rfl; refine zS ?_)
      | ((with_reducible refine CGd_nd ?_ ?_) <;> intro hb hb2 <;> first | contradiction | (exfalso; omega) | (refine zH hb2 ?_; try clear hb2))
      | ((with_reducible refine CGd_nb ?_ ?_) <;> intro hb <;> first | contradiction | refine zH hb ?_)
      | ((with_reducible refine CGd_d ?_ ?_) <;> intro hb hb2 <;> first | contradiction | (exfalso; omega) | (refine zH hb2 ?_; try clear hb2))
      | ((with_reducible refine CGd_b ?_ ?_) <;> intro hb <;> first | contradiction | refine zH hb ?_)
      | ((with_reducible refine CRes_id ?_); refine zS ?_)
      | ((with_reducible refine DStep_id ?_); refine zdP ?_; refine ⟨_, by first | exact hof | fail, fun _ => rfl, fun _ => rfl, rfl, (fun h => by first | cases h | fail), ?_⟩; try refine zS ?_)
      | ((with_reducible refine DStep_id ?_); refine zdW ?_; refine ⟨_, by first | exact hof | fail, fun _ => rfl, fun _ => rfl, rfl, ?_⟩; try refine zS ?_)
      | ((with_reducible refine DStep_id ?_); refine zdT [0, 1] ?_; refine ⟨_, _, by first | exact ws_ok 77 (.inr rfl) false s1 _ (by omega) (by first | omega | (simp; omega)) | exact hk1 | fail, ?_⟩; try refine zS ?_)
      | ((with_reducible refine AWP_c ?_); refine zcdT ?_)
      | ((with_reducible refine AWP_c ?_); refine zcdF ?_)
      | ((with_reducible refine AWP_c ?_); refine zcdN ?_ ?_ <;> intro hb hb2 <;> first | contradiction | (exfalso; omega) | ((try refine zH hb2 ?_); try clear hb2))
      | ((with_reducible refine AWP_c ?_); refine zcdD ?_ ?_ <;> intro hb hb2 <;> first | contradiction | (exfalso; omega) | ((try refine zH hb2 ?_); try clear hb2))
      | ((with_reducible refine AWP_c ?_); refine zcdM ?_ ?_ <;> intro hb <;> first | contradiction | (try refine zH hb ?_))
      | ((with_reducible refine AWP_c ?_); refine zcdB ?_ ?_ <;> intro hb <;> first | contradiction | (try refine zH hb ?_))
      | ((with_reducible refine awp_ret ?_); refine fin_r ?_)
      | ((with_reducible refine awp_ret ?_); refine fin_q ?_ ?_)
      | with_reducible refine fin_qn ?_ ?_
      | ((with_reducible refine awp_skip ?_); refine zS ?_)
      | with_reducible refine awp_block ?_
      | ((with_reducible refine awp_exit ?_); refine zS ?_)
      | ((with_reducible refine CallK_id ?_); refine zcF ?_; refine ⟨_, by first | exact hof | fail, fun _ => rfl, fun _ => rfl, rfl, ?_⟩; try refine zS ?_)
      | ((with_reducible refine CallK_id ?_); refine zcT [0, 1] ?_; refine ⟨_, _, by first | exact ws_ok 77 (.inr rfl) false s1 _ (by omega) (by first | omega | (simp; omega)) | exact hk1 | fail, ?_⟩; try refine zS ?_)
      | exact True.intro
      | fail
      all_goals first | rfl | (simp [go_sem, *]; done) | trace_state
end
end Go.Eng
open Go Go.Proofs
namespace Go.Eng
set_option linter.unusedSimpArgs false
set_option linter.unusedVariables false
set_option maxRecDepth 100000
set_option maxHeartbeats 8000000

theorem wr_ok (n : Nat) (ih : Pwr n) : Pwr (n + 1) := by
  intro t fr s hs hn hz hb
  have hf := of_facts hs
  have hof := of_ok t (fun h => by have := (sh_len hs).2.1 (.inr h); omega)
  have hop := (sh_of hs).op
  have hl0 := t.kids_len
  have hl1 := (gt t.kids 0).kids_len
  have hd : (ofF t).row = 8 → (digS t.n.toNat).length ≤ 20 := fun h => by have := digS_len 20 t.n.toNat (by have := hf.r8 h; omega); omega
  rw [wrF] at hb ⊢
  have hkk : ∀ k, k ∈ t.kids → ∀ r fr s, s.length + (kidF n k r).length < 10000000000 → AFn env 59 [P0, k.a, aI r] (BS 77 fr s) (.tup []) (BS 77 false (s ++ kidF n k r)) := fun k hk r fr s h =>
    kid_ok n ih k r fr s ((sh_of hs).kids k hk) (by have := T.size_lt hk; omega) (by have := T.size_lt hk; omega) h
  have hgg : ∀ k, k ∈ (gt t.kids 0).kids → 1 ≤ t.kids.length → ∀ r fr s, s.length + (kidF n k r).length < 10000000000 → AFn env 59 [P0, k.a, aI r] (BS 77 fr s) (.tup []) (BS 77 false (s ++ kidF n k r)) := fun k hk h1 r fr s h =>
    kid_ok n ih k r fr s ((sh_of ((sh_of hs).kids _ (gt_mem (by omega)))).kids k hk) (by have := T.size_lt hk; have := T.size_lt (gt_mem (l := t.kids) (i := 0) (by omega)); omega) (by have := T.size_lt hk; have := T.size_lt (gt_mem (l := t.kids) (i := 0) (by omega)); omega) h
  have hg1 : 1 ≤ t.kids.length → (gt t.kids 0).size < t.size := fun h => T.size_lt (gt_mem (by omega))
  generalize ofF t = b at *
  obtain ⟨tx, row, op, tu, dn⟩ := b
  obtain ⟨f1, f2, f3, f4, f5, f6⟩ := hf
  simp only at hb hd f1 f2 f3 f4 f5 f6 ⊢
  by_cases h8 : row = 8
  · subst h8
    rw [if_pos rfl]
    exact wr8 t fr s tx op tu dn (by omega) hof (f1 rfl) (hd rfl)
  rw [if_neg h8] at hb ⊢
  by_cases h3 : row = 3
  · subst h3
    rw [if_pos rfl] at hb ⊢
    have hl := f2 (.inl rfl)
    have hk := hkk (gt t.kids 0) (gt_mem (by omega)) 3 false (s ++ [110, 111, 116, 32]) (by simp only [List.length_append] at hb ⊢; omega)
    have := wr3 t fr s tx op tu dn (by omega) (by simp only [List.length_append] at hb; omega) hof hl _ hk
    simpa only [List.append_assoc] using this
  rw [if_neg h3] at hb ⊢
  by_cases h7 : row = 7
  · subst h7
    rw [if_pos rfl] at hb ⊢
    have hl := f2 (.inr rfl)
    have hk := hkk (gt t.kids 0) (gt_mem (by omega)) 7 false (s ++ [45]) (by simp only [List.length_append, List.length_cons, List.length_nil] at hb ⊢; omega)
    have := wr7 t fr s tx op tu dn (by omega) (by simp only [List.length_cons] at hb; omega) hof hl _ hk
    simpa only [List.append_assoc, List.cons_append, List.nil_append] using this
  rw [if_neg h7] at hb ⊢
  cases dn with
  | true =>
    obtain ⟨rfl, g2, g3⟩ := f3 rfl
    rw [if_pos rfl] at hb ⊢
    simp only [List.length_append, List.length_cons, List.length_nil] at hb
    have hk0 := hgg (gt (gt t.kids 0).kids 0) (gt_mem (by omega)) g2 5 fr s (by omega)
    have hk1 := hgg (gt (gt t.kids 0).kids 1) (gt_mem (by omega)) g2 5 false (s ++ kidF n (gt (gt t.kids 0).kids 0) 5 ++ (32 :: (tx ++ [32]))) (by simp only [List.length_append, List.length_cons, List.length_nil]; omega)
    have := wrD t fr s tx op tu _ _ (by simp only [List.length_append]; omega) f6 hof (by omega) (by have := hg1 g2; omega) g2 g3 hk0 hk1
    simpa only [List.append_assoc, List.cons_append, List.nil_append] using this
  | false =>
    rw [if_neg (by decide)] at hb ⊢
    have hl := f4 rfl h8 h3 h7
    simp only [List.length_append, List.length_cons, List.length_nil] at hb
    by_cases h4 : row = 4
    · subst h4
      simp only [↓reduceIte, Int.reduceAdd] at hb ⊢
      have hk0 := hkk (gt t.kids 0) (gt_mem (by omega)) 5 fr s (by omega)
      have hk1 := hkk (gt t.kids 1) (gt_mem (by omega)) 5 false (s ++ kidF n (gt t.kids 0) 5 ++ (32 :: (tx ++ [32]))) (by simp only [List.length_append, List.length_cons, List.length_nil]; omega)
      have := wr4 t fr s tx op tu (by omega) _ _ (by simp only [List.length_append]; omega) f6 hof hl hk0 hk1
      simpa only [List.append_assoc, List.cons_append, List.nil_append] using this
    · rw [if_neg h4] at hb ⊢
      have hk0 := hkk (gt t.kids 0) (gt_mem (by omega)) row fr s (by omega)
      have hk1 := hkk (gt t.kids 1) (gt_mem (by omega)) (row + 1) false (s ++ kidF n (gt t.kids 0) row ++ (32 :: (tx ++ [32]))) (by simp only [List.length_append, List.length_cons, List.length_nil]; omega)
      have := wrN t fr s tx row op tu (by omega) _ _ (by simp only [List.length_append]; omega) f6 hof h8 h3 h7 h4 f5 hl hk0 hk1
      simpa only [List.append_assoc, List.cons_append, List.nil_append] using this
theorem pwr (n : Nat) : Pwr n := by
  induction n with
  | zero => intro t fr s hs hn; have := t.size_eq; omega
  | succ n ih => exact wr_ok n ih

mutual
theorem wrF_len : ∀ (n : Nat) (t : T) (d : Nat) (e : Int), shapedF t = true → deepF t e = false → e + d = 25 → (wrF n t).length + 20 ≤ 60 * 2 ^ d
  | 0, t, d, e, hs, hd, he => by
    rw [wrF]
    have : 1 ≤ 2 ^ d := Nat.one_le_two_pow
    simp only [List.length_nil]; omega
  | n + 1, t, d, e, hs, hd, he => by
    have hf := of_facts hs
    have hk := (sh_of hs).kids
    rw [deepF_eq, Bool.or_eq_false_iff, decide_eq_false_iff_not, List.any_eq_false] at hd
    obtain ⟨d, rfl⟩ : ∃ d', d = d' + 1 := ⟨d - 1, by omega⟩
    have hp : 1 ≤ 2 ^ d := Nat.one_le_two_pow
    have hdg : (ofF t).row = 8 → (digS t.n.toNat).length ≤ 20 := fun h => by have := digS_len 20 t.n.toNat (by have := hf.r8 h; omega); omega
    have hkid : ∀ k ∈ t.kids, ∀ r, (kidF n k r).length + 18 ≤ 60 * 2 ^ d := fun k hkm r => kidF_len n k r d (e + 1) (hk k hkm) (by simpa using hd.2 k hkm) (by omega)
    rw [wrF, Nat.pow_succ]
    split
    · have := hdg ‹_›
      split <;> (try simp only [List.length_cons]) <;> omega
    · split
      · have hl := hf.r3 (.inl ‹_›)
        have := hkid _ (gt_mem (l := t.kids) (i := 0) (by omega)) 3
        simp only [List.length_append, List.length_cons, List.length_nil]; omega
      · split
        · have hl := hf.r3 (.inr ‹_›)
          have := hkid _ (gt_mem (l := t.kids) (i := 0) (by omega)) 7
          simp only [List.length_cons]; omega
        · have htx := hf.txt
          split
          · obtain ⟨h4, h1, h2⟩ := hf.dn ‹_›
            have hm := gt_mem (l := t.kids) (i := 0) (by omega)
            have hs2 := hk _ hm
            have hd2 : deepF (gt t.kids 0) (e + 1) = false := by simpa using hd.2 _ hm
            rw [deepF_eq, Bool.or_eq_false_iff, decide_eq_false_iff_not, List.any_eq_false] at hd2
            obtain ⟨d, rfl⟩ : ∃ d', d = d' + 1 := ⟨d - 1, by omega⟩
            have hp : 1 ≤ 2 ^ d := Nat.one_le_two_pow
            have hg : ∀ k ∈ (gt t.kids 0).kids, ∀ r, (kidF n k r).length + 18 ≤ 60 * 2 ^ d := fun k hkm r => kidF_len n k r d (e + 2) ((sh_of hs2).kids k hkm) (by have := hd2.2 k hkm; rw [show e + 1 + 1 = e + 2 by omega] at this; simpa using this) (by omega)
            have h5 := hg _ (gt_mem (l := (gt t.kids 0).kids) (i := 0) (by omega)) 5
            have h6 := hg _ (gt_mem (l := (gt t.kids 0).kids) (i := 1) (by omega)) 5
            simp only [List.length_append, List.length_cons, List.length_nil]
            rw [Nat.pow_succ]; omega
          · have hl := hf.nd (by simpa using ‹¬ (ofF t).deny = true›) ‹_› ‹_› ‹_›
            have h5 := hkid _ (gt_mem (l := t.kids) (i := 0) (by omega)) (if (ofF t).row = 4 then 5 else (ofF t).row)
            have h6 := hkid _ (gt_mem (l := t.kids) (i := 1) (by omega)) ((ofF t).row + 1)
            simp only [List.length_append, List.length_cons, List.length_nil]
            omega
theorem kidF_len : ∀ (n : Nat) (t : T) (r : Int) (d : Nat) (e : Int), shapedF t = true → deepF t e = false → e + d = 25 → (kidF n t r).length + 18 ≤ 60 * 2 ^ d
  | n, t, r, d, e, hs, hd, he => by
    have := wrF_len n t d e hs hd he
    rw [kidF]
    split <;> (try simp only [List.length_append, List.length_cons, List.length_nil]) <;> omega
end
theorem wr_top {t : T} (n : Nat) (h : wrongF t = 0) : (wrF n t).length < 3000000000 := by
  unfold wrongF at h
  split at h
  · cases h
  · split at h
    · rename_i hd hs
      have := wrF_len n t 24 1 hs (by simpa using hd) (by decide)
      omega
    · cases h
theorem text3_0 {t : T} (h : (text3F t).2 = 0) : wrongF t = 0 := by
  unfold text3F at h
  split at h
  · exact h
  · rename_i hw; exact Decidable.of_not_not hw
def textIF (t : T) : Str × Int := if (text3F t).2 ≠ 0 then ([], (text3F t).2) else (wrF t.size t, 0)
theorem wr_ne {t : T} (hs : shapedF t = true) : wrF t.size t ≠ [] := by
  rw [T.size_eq, wrF]
  split
  · split
    · simp
    · rw [digS]; split <;> simp
  · split
    · simp
    · split
      · simp
      · split <;> simp
theorem textI_ok (t : T) (hz : t.size < 4611686018427387904) : AFn env 16 [t.a] [] (.tup [aS (textIF t).1, aI (textIF t).2]) [] := by
  by_cases h0 : (text3F t).2 = 0
  · have hw := text3_0 h0
    refine afn_body Tryd.func16 rfl (by decide) ?_
    simp only [Tryd.ntmps16, Tryd.results16, List.length_cons, List.length_nil, List.cons_append, List.nil_append, Nat.reduceAdd, Nat.reduceSub, List.replicate]
    repeat' first
    | with_reducible refine awp_seq ?_
    | ((with_reducible refine awp_region ?_); refine zS ?_)
    | ((with_reducible refine Gd_nd ?_ ?_) <;> intro hb hb2 <;> first | contradiction | (exfalso; omega) | (refine zH hb2 ?_; try clear hb2))
    | ((with_reducible refine Gd_nb ?_ ?_) <;> intro hb <;> first | contradiction | refine zH hb ?_)
    | ((with_reducible refine Gd_d ?_ ?_) <;> intro hb hb2 <;> first | contradiction | (exfalso; omega) | (refine zH hb2 ?_; try clear hb2))
    | ((with_reducible refine Gd_b ?_ ?_) <;> intro hb <;> first | contradiction | refine zH hb ?_)
    | ((with_reducible refine Res_id ?_); refine zS ?_)
    | ((with_reducible refine awp_drawnC ?_ ?_); rfl; refine zS ?_)
    | ((with_reducible refine awp_drawnA ?_ ?_); rfl; refine zS ?_)
    | ((with_reducible refine CGd_nd ?_ ?_) <;> intro hb hb2 <;> first | contradiction | (exfalso; omega) | (refine zH hb2 ?_; try clear hb2))
    | ((with_reducible refine CGd_nb ?_ ?_) <;> intro hb <;> first | contradiction | refine zH hb ?_)
    | ((with_reducible refine CGd_d ?_ ?_) <;> intro hb hb2 <;> first | contradiction | (exfalso; omega) | (refine zH hb2 ?_; try clear hb2))
    | ((with_reducible refine CGd_b ?_ ?_) <;> intro hb <;> first | contradiction | refine zH hb ?_)
    | ((with_reducible refine CRes_id ?_); refine zS ?_)
    | ((with_reducible refine DStep_id ?_); refine zdP ?_; refine ⟨_, by first | exact text3_ok t hz | fail, fun _ => rfl, fun _ => rfl, rfl, (fun h => by first | cases h | fail), ?_⟩; try refine zS ?_)
    | ((with_reducible refine DStep_id ?_); refine zdW ?_; refine ⟨_, by first | exact text3_ok t hz | fail, fun _ => rfl, fun _ => rfl, rfl, ?_⟩; try refine zS ?_)
    | ((with_reducible refine DStep_id ?_); refine zdT [1, 2] ?_; refine ⟨_, _, by first | exact pwr t.size t true [] (plain3_top hw).1 (by omega) hz (by have := wr_top t.size hw; simp; omega) | exact str_ok 77 false _ (wr_ne (plain3_top hw).1) (by have := wr_top t.size hw; omega) | fail, ?_⟩; try refine zS ?_)
    | ((with_reducible refine AWP_c ?_); refine zcdT ?_)
    | ((with_reducible refine AWP_c ?_); refine zcdF ?_)
    | ((with_reducible refine AWP_c ?_); refine zcdN ?_ ?_ <;> intro hb hb2 <;> first | contradiction | (exfalso; omega) | ((try refine zH hb2 ?_); try clear hb2))
    | ((with_reducible refine AWP_c ?_); refine zcdD ?_ ?_ <;> intro hb hb2 <;> first | contradiction | (exfalso; omega) | ((try refine zH hb2 ?_); try clear hb2))
    | ((with_reducible refine AWP_c ?_); refine zcdM ?_ ?_ <;> intro hb <;> first | contradiction | (try refine zH hb ?_))
    | ((with_reducible refine AWP_c ?_); refine zcdB ?_ ?_ <;> intro hb <;> first | contradiction | (try refine zH hb ?_))
    | ((with_reducible refine awp_ret ?_); refine fin_r ?_)
    | ((with_reducible refine awp_ret ?_); refine fin_q ?_ ?_)
    | with_reducible refine fin_qn ?_ ?_
    | ((with_reducible refine awp_skip ?_); refine zS ?_)
    | with_reducible refine awp_block ?_
    | ((with_reducible refine awp_exit ?_); refine zS ?_)
    | ((with_reducible refine CallK_id ?_); refine zcF ?_; refine ⟨_, by first | exact text3_ok t hz | fail, fun _ => rfl, fun _ => rfl, rfl, ?_⟩; try refine zS ?_)
    | ((with_reducible refine CallK_id ?_); refine zcT [1, 2] ?_; refine ⟨_, _, by first | exact pwr t.size t true [] (plain3_top hw).1 (by omega) hz (by have := wr_top t.size hw; simp; omega) | exact str_ok 77 false _ (wr_ne (plain3_top hw).1) (by have := wr_top t.size hw; omega) | fail, ?_⟩; try refine zS ?_)
    | exact True.intro
    | fail
    refine callK_wk (fun m => wk_virtB (some 5) (i := 1) (j := 1) (s := 1) (by decide) rfl rfl) ?_
    refine zT ?_
    repeat' first
    | with_reducible refine awp_seq ?_
    | ((with_reducible refine awp_region ?_); refine zS ?_)
    | ((with_reducible refine Gd_nd ?_ ?_) <;> intro hb hb2 <;> first | contradiction | (exfalso; omega) | (refine zH hb2 ?_; try clear hb2))
    | ((with_reducible refine Gd_nb ?_ ?_) <;> intro hb <;> first | contradiction | refine zH hb ?_)
    | ((with_reducible refine Gd_d ?_ ?_) <;> intro hb hb2 <;> first | contradiction | (exfalso; omega) | (refine zH hb2 ?_; try clear hb2))
    | ((with_reducible refine Gd_b ?_ ?_) <;> intro hb <;> first | contradiction | refine zH hb ?_)
    | ((with_reducible refine Res_id ?_); refine zS ?_)
    | ((with_reducible refine awp_drawnC ?_ ?_); rfl; refine zS ?_)
    | ((with_reducible refine awp_drawnA ?_ ?_); rfl; refine zS ?_)
    | ((with_reducible refine CGd_nd ?_ ?_) <;> intro hb hb2 <;> first | contradiction | (exfalso; omega) | (refine zH hb2 ?_; try clear hb2))
    | ((with_reducible refine CGd_nb ?_ ?_) <;> intro hb <;> first | contradiction | refine zH hb ?_)
    | ((with_reducible refine CGd_d ?_ ?_) <;> intro hb hb2 <;> first | contradiction | (exfalso; omega) | (refine zH hb2 ?_; try clear hb2))
    | ((with_reducible refine CGd_b ?_ ?_) <;> intro hb <;> first | contradiction | refine zH hb ?_)
    | ((with_reducible refine CRes_id ?_); refine zS ?_)
    | ((with_reducible refine DStep_id ?_); refine zdP ?_; refine ⟨_, by first | exact text3_ok t hz | fail, fun _ => rfl, fun _ => rfl, rfl, (fun h => by first | cases h | fail), ?_⟩; try refine zS ?_)
    | ((with_reducible refine DStep_id ?_); refine zdW ?_; refine ⟨_, by first | exact text3_ok t hz | fail, fun _ => rfl, fun _ => rfl, rfl, ?_⟩; try refine zS ?_)
    | ((with_reducible refine DStep_id ?_); refine zdT [1, 2] ?_; refine ⟨_, _, by first | exact pwr t.size t true [] (plain3_top hw).1 (by omega) hz (by have := wr_top t.size hw; simp; omega) | exact str_ok 77 false _ (wr_ne (plain3_top hw).1) (by have := wr_top t.size hw; omega) | fail, ?_⟩; try refine zS ?_)
    | ((with_reducible refine AWP_c ?_); refine zcdT ?_)
    | ((with_reducible refine AWP_c ?_); refine zcdF ?_)
    | ((with_reducible refine AWP_c ?_); refine zcdN ?_ ?_ <;> intro hb hb2 <;> first | contradiction | (exfalso; omega) | ((try refine zH hb2 ?_); try clear hb2))
    | ((with_reducible refine AWP_c ?_); refine zcdD ?_ ?_ <;> intro hb hb2 <;> first | contradiction | (exfalso; omega) | ((try refine zH hb2 ?_); try clear hb2))
    | ((with_reducible refine AWP_c ?_); refine zcdM ?_ ?_ <;> intro hb <;> first | contradiction | (try refine zH hb ?_))
    | ((with_reducible refine AWP_c ?_); refine zcdB ?_ ?_ <;> intro hb <;> first | contradiction | (try refine zH hb ?_))
    | ((with_reducible refine awp_ret ?_); refine fin_r ?_)
    | ((with_reducible refine awp_ret ?_); refine fin_q ?_ ?_)
    | with_reducible refine fin_qn ?_ ?_
    | ((with_reducible refine awp_skip ?_); refine zS ?_)
    | with_reducible refine awp_block ?_
    | ((with_reducible refine awp_exit ?_); refine zS ?_)
    | ((with_reducible refine CallK_id ?_); refine zcF ?_; refine ⟨_, by first | exact text3_ok t hz | fail, fun _ => rfl, fun _ => rfl, rfl, ?_⟩; try refine zS ?_)
    | ((with_reducible refine CallK_id ?_); refine zcT [1, 2] ?_; refine ⟨_, _, by first | exact pwr t.size t true [] (plain3_top hw).1 (by omega) hz (by have := wr_top t.size hw; simp; omega) | exact str_ok 77 false _ (wr_ne (plain3_top hw).1) (by have := wr_top t.size hw; omega) | fail, ?_⟩; try refine zS ?_)
    | exact True.intro
    | fail
    all_goals simp [go_sem, textIF, h0]
  · skip
    refine afn_body Tryd.func16 rfl (by decide) ?_
    simp only [Tryd.ntmps16, Tryd.results16, List.length_cons, List.length_nil, List.cons_append, List.nil_append, Nat.reduceAdd, Nat.reduceSub, List.replicate]
    repeat' first
    | with_reducible refine awp_seq ?_
    | ((with_reducible refine awp_region ?_); refine zS ?_)
    | ((with_reducible refine Gd_nd ?_ ?_) <;> intro hb hb2 <;> first | contradiction | (exfalso; omega) | (refine zH hb2 ?_; try clear hb2))
    | ((with_reducible refine Gd_nb ?_ ?_) <;> intro hb <;> first | contradiction | refine zH hb ?_)
    | ((with_reducible refine Gd_d ?_ ?_) <;> intro hb hb2 <;> first | contradiction | (exfalso; omega) | (refine zH hb2 ?_; try clear hb2))
    | ((with_reducible refine Gd_b ?_ ?_) <;> intro hb <;> first | contradiction | refine zH hb ?_)
    | ((with_reducible refine Res_id ?_); refine zS ?_)
    | ((with_reducible refine awp_drawnC ?_ ?_); rfl; refine zS ?_)
    | ((with_reducible refine awp_drawnA ?_ ?_); rfl; refine zS ?_)
    | ((with_reducible refine CGd_nd ?_ ?_) <;> intro hb hb2 <;> first | contradiction | (exfalso; omega) | (refine zH hb2 ?_; try clear hb2))
    | ((with_reducible refine CGd_nb ?_ ?_) <;> intro hb <;> first | contradiction | refine zH hb ?_)
    | ((with_reducible refine CGd_d ?_ ?_) <;> intro hb hb2 <;> first | contradiction | (exfalso; omega) | (refine zH hb2 ?_; try clear hb2))
    | ((with_reducible refine CGd_b ?_ ?_) <;> intro hb <;> first | contradiction | refine zH hb ?_)
    | ((with_reducible refine CRes_id ?_); refine zS ?_)
    | ((with_reducible refine DStep_id ?_); refine zdP ?_; refine ⟨_, by first | exact text3_ok t hz | fail, fun _ => rfl, fun _ => rfl, rfl, (fun h => by first | cases h | fail), ?_⟩; try refine zS ?_)
    | ((with_reducible refine DStep_id ?_); refine zdW ?_; refine ⟨_, by first | exact text3_ok t hz | fail, fun _ => rfl, fun _ => rfl, rfl, ?_⟩; try refine zS ?_)
    | ((with_reducible refine DStep_id ?_); refine zdT [1, 2] ?_; refine ⟨_, _, by first | exact pwr t.size t true [] (plain3_top hw).1 (by omega) hz (by have := wr_top t.size hw; simp; omega) | exact str_ok 77 false _ (wr_ne (plain3_top hw).1) (by have := wr_top t.size hw; omega) | fail, ?_⟩; try refine zS ?_)
    | ((with_reducible refine AWP_c ?_); refine zcdT ?_)
    | ((with_reducible refine AWP_c ?_); refine zcdF ?_)
    | ((with_reducible refine AWP_c ?_); refine zcdN ?_ ?_ <;> intro hb hb2 <;> first | contradiction | (exfalso; omega) | ((try refine zH hb2 ?_); try clear hb2))
    | ((with_reducible refine AWP_c ?_); refine zcdD ?_ ?_ <;> intro hb hb2 <;> first | contradiction | (exfalso; omega) | ((try refine zH hb2 ?_); try clear hb2))
    | ((with_reducible refine AWP_c ?_); refine zcdM ?_ ?_ <;> intro hb <;> first | contradiction | (try refine zH hb ?_))
    | ((with_reducible refine AWP_c ?_); refine zcdB ?_ ?_ <;> intro hb <;> first | contradiction | (try refine zH hb ?_))
    | ((with_reducible refine awp_ret ?_); refine fin_r ?_)
    | ((with_reducible refine awp_ret ?_); refine fin_q ?_ ?_)
    | with_reducible refine fin_qn ?_ ?_
    | ((with_reducible refine awp_skip ?_); refine zS ?_)
    | with_reducible refine awp_block ?_
    | ((with_reducible refine awp_exit ?_); refine zS ?_)
    | ((with_reducible refine CallK_id ?_); refine zcF ?_; refine ⟨_, by first | exact text3_ok t hz | fail, fun _ => rfl, fun _ => rfl, rfl, ?_⟩; try refine zS ?_)
    | ((with_reducible refine CallK_id ?_); refine zcT [1, 2] ?_; refine ⟨_, _, by first | exact pwr t.size t true [] (plain3_top hw).1 (by omega) hz (by have := wr_top t.size hw; simp; omega) | exact str_ok 77 false _ (wr_ne (plain3_top hw).1) (by have := wr_top t.size hw; omega) | fail, ?_⟩; try refine zS ?_)
    | exact True.intro
    | fail
    all_goals simp [go_sem, textIF, h0]
    all_goals rfl
end Go.Eng
open Go Go.Proofs
namespace Go.Eng
set_option linter.unusedSimpArgs false
set_option linter.unusedVariables false
set_option maxRecDepth 100000
set_option maxHeartbeats 8000000

mutual
def depthF : T → Int
  | .mk _ _ k => depthFs k 0 + 1
def depthFs : List T → Int → Int
  | [], m => m
  | t :: l, m => depthFs l (if depthF t > m then depthF t else m)
end
theorem depthF_eq (t : T) : depthF t = depthFs t.kids 0 + 1 := by cases t; rw [depthF]; rfl
mutual
theorem depthF_le : ∀ t : T, 1 ≤ depthF t ∧ depthF t ≤ t.size
  | .mk o n k => by
    have := depthFs_le k 0 (by omega)
    rw [depthF, T.size]
    omega
theorem depthFs_le : ∀ (l : List T) (m : Int), 0 ≤ m → m ≤ depthFs l m ∧ (depthFs l m ≤ m ∨ depthFs l m ≤ T.sizes l)
  | [], m, h => by simp [depthFs]
  | t :: l, m, h => by
    have h1 := depthF_le t
    rw [depthFs, T.sizes]
    have h2 := depthFs_le l (if depthF t > m then depthF t else m) (by split <;> omega)
    split at h2 <;> split <;> omega
end
theorem T.sizes_gt {k : T} {l : List T} (h : k ∈ l) : k.size ≤ T.sizes l := T.size_kid h
theorem depth_ok (t : T) (hz : t.size < 4611686018427387904) : AFn env 73 [t.a] [] (aI (depthF t)) [] := by
  generalize hn : t.size = n
  induction n using Nat.strongRecOn generalizing t with
  | _ n ih0 =>
    have hl := t.kids_len
    have ih : ∀ k : T, k.size < t.size → AFn env 73 [k.a] [] (aI (depthF k)) [] := fun k h => ih0 k.size (by omega) k (by omega) rfl
    clear ih0
    refine afn_body Tryd.func73 rfl (by decide) ?_
    simp only [Tryd.ntmps73, Tryd.results73, List.length_cons, List.length_nil, List.cons_append, List.nil_append, Nat.reduceAdd, Nat.reduceSub, List.replicate]
    repeat' first
    | with_reducible refine awp_seq ?_
    | ((with_reducible refine awp_region ?_); refine zS ?_)
    | ((with_reducible refine Gd_nd ?_ ?_) <;> intro hb hb2 <;> first | contradiction | (exfalso; omega) | (refine zH hb2 ?_; try clear hb2))
    | ((with_reducible refine Gd_nb ?_ ?_) <;> intro hb <;> first | contradiction | refine zH hb ?_)
    | ((with_reducible refine Gd_d ?_ ?_) <;> intro hb hb2 <;> first | contradiction | (exfalso; omega) | (refine zH hb2 ?_; try clear hb2))
    | ((with_reducible refine Gd_b ?_ ?_) <;> intro hb <;> first | contradiction | refine zH hb ?_)
    | ((with_reducible refine Res_id ?_); refine zS ?_)
    | ((with_reducible refine awp_drawnC ?_ ?_); rfl; refine zS ?_)
    | ((with_reducible refine awp_drawnA ?_ ?_); rfl; refine zS ?_)
    | ((with_reducible refine CGd_nd ?_ ?_) <;> intro hb hb2 <;> first | contradiction | (exfalso; omega) | (refine zH hb2 ?_; try clear hb2))
    | ((with_reducible refine CGd_nb ?_ ?_) <;> intro hb <;> first | contradiction | refine zH hb ?_)
    | ((with_reducible refine CGd_d ?_ ?_) <;> intro hb hb2 <;> first | contradiction | (exfalso; omega) | (refine zH hb2 ?_; try clear hb2))
    | ((with_reducible refine CGd_b ?_ ?_) <;> intro hb <;> first | contradiction | refine zH hb ?_)
    | ((with_reducible refine CRes_id ?_); refine zS ?_)
    | ((with_reducible refine DStep_id ?_); refine zdP ?_; refine ⟨_, by first | exact ih (gt t.kids i) (T.size_lt (gt_mem (by omega))) | fail, fun _ => rfl, fun _ => rfl, rfl, (fun h => by first | cases h | fail), ?_⟩; try refine zS ?_)
    | ((with_reducible refine DStep_id ?_); refine zdW ?_; refine ⟨_, by first | exact ih (gt t.kids i) (T.size_lt (gt_mem (by omega))) | fail, fun _ => rfl, fun _ => rfl, rfl, ?_⟩; try refine zS ?_)
    | ((with_reducible refine AWP_c ?_); refine zcdT ?_)
    | ((with_reducible refine AWP_c ?_); refine zcdF ?_)
    | ((with_reducible refine AWP_c ?_); refine zcdN ?_ ?_ <;> intro hb hb2 <;> first | contradiction | (exfalso; omega) | ((try refine zH hb2 ?_); try clear hb2))
    | ((with_reducible refine AWP_c ?_); refine zcdD ?_ ?_ <;> intro hb hb2 <;> first | contradiction | (exfalso; omega) | ((try refine zH hb2 ?_); try clear hb2))
    | ((with_reducible refine AWP_c ?_); refine zcdM ?_ ?_ <;> intro hb <;> first | contradiction | (try refine zH hb ?_))
    | ((with_reducible refine AWP_c ?_); refine zcdB ?_ ?_ <;> intro hb <;> first | contradiction | (try refine zH hb ?_))
    | ((with_reducible refine awp_ret ?_); refine fin_r ?_)
    | ((with_reducible refine awp_ret ?_); refine fin_q ?_ ?_)
    | with_reducible refine fin_qn ?_ ?_
    | ((with_reducible refine awp_skip ?_); refine zS ?_)
    | with_reducible refine awp_block ?_
    | ((with_reducible refine awp_exit ?_); refine zS ?_)
    | ((with_reducible refine CallK_id ?_); refine zcF ?_; refine ⟨_, by first | exact ih (gt t.kids i) (T.size_lt (gt_mem (by omega))) | fail, fun _ => rfl, fun _ => rfl, rfl, ?_⟩; try refine zS ?_)
    | exact True.intro
    | fail
    refine awp_loopT (fun st : Nat × Int => st.1 ≤ t.kids.length ∧ 0 ≤ st.2 ∧ st.2 ≤ t.size ∧ depthFs (t.kids.drop st.1) st.2 = depthFs t.kids 0) (fun st => t.kids.length - st.1) (fun st => [(3, aI st.2), (10, aI st.1)])
      (fun st => [some (.box [.d (dI t.op), .d (dI t.n), .d (.fz (t.kids.map T.row))])]) (0, 0) ⟨by simp, by simp, by simp, by simp⟩ (wk_le (by simp only [go_sem, Bool.not_not, List.mem_singleton, forall_eq, ↓reduceIte, if_pos, rowsAt_map, wrap64, wrapu8, List.getElem?_cons_zero, List.getElem?_cons_succ, Int.reduceToNat, Nat.reduceAdd, Nat.reduceBEq, Bool.or_false, Bool.false_or, Bool.true_or, Nat.reduceSub, Nat.reduceMul, Int.reduceAdd, Int.reduceEq, Int.reduceLT, Int.reduceLE, Int.reduceNeg, Nat.reduceLT, Nat.reduceLeDiff]; try simp) (by simp only [go_sem, Bool.not_not, List.mem_singleton, forall_eq, ↓reduceIte, if_pos, rowsAt_map, wrap64, wrapu8, List.getElem?_cons_zero, List.getElem?_cons_succ, Int.reduceToNat, Nat.reduceAdd, Nat.reduceBEq, Bool.or_false, Bool.false_or, Bool.true_or, Nat.reduceSub, Nat.reduceMul, Int.reduceAdd, Int.reduceEq, Int.reduceLT, Int.reduceLE, Int.reduceNeg, Nat.reduceLT, Nat.reduceLeDiff]; try simp)) ?_
    rintro ⟨i, m⟩ ⟨i1, i2, i3, i4⟩
    simp only at i1 i2 i3 i4
    have hdk : i < t.kids.length → 1 ≤ depthF (gt t.kids i) ∧ depthF (gt t.kids i) ≤ t.size := fun h => by
      have h1 := depthF_le (gt t.kids i)
      have h2 := T.size_lt (gt_mem (l := t.kids) (i := i) h)
      omega
    have hstep : i < t.kids.length → depthFs (t.kids.drop i) m = depthFs (t.kids.drop (i + 1)) (if depthF (gt t.kids i) > m then depthF (gt t.kids i) else m) := fun h => by rw [drop_gt h, depthFs]
    have hend : i = t.kids.length → m = depthFs t.kids 0 := fun h => by rw [← i4, h, List.drop_length, depthFs]
    have hm : depthFs t.kids 0 < t.size := by have := depthF_le t; rw [depthF_eq] at this; omega
    refine zT ?_
    repeat' first
    | with_reducible refine awp_seq ?_
    | ((with_reducible refine awp_region ?_); refine zS ?_)
    | ((with_reducible refine Gd_nd ?_ ?_) <;> intro hb hb2 <;> first | contradiction | (exfalso; omega) | (refine zH hb2 ?_; try clear hb2))
    | ((with_reducible refine Gd_nb ?_ ?_) <;> intro hb <;> first | contradiction | refine zH hb ?_)
    | ((with_reducible refine Gd_d ?_ ?_) <;> intro hb hb2 <;> first | contradiction | (exfalso; omega) | (refine zH hb2 ?_; try clear hb2))
    | ((with_reducible refine Gd_b ?_ ?_) <;> intro hb <;> first | contradiction | refine zH hb ?_)
    | ((with_reducible refine Res_id ?_); refine zS ?_)
    | ((with_reducible refine awp_drawnC ?_ ?_); rfl; refine zS ?_)
    | ((with_reducible refine awp_drawnA ?_ ?_); rfl; refine zS ?_)
    | ((with_reducible refine CGd_nd ?_ ?_) <;> intro hb hb2 <;> first | contradiction | (exfalso; omega) | (refine zH hb2 ?_; try clear hb2))
    | ((with_reducible refine CGd_nb ?_ ?_) <;> intro hb <;> first | contradiction | refine zH hb ?_)
    | ((with_reducible refine CGd_d ?_ ?_) <;> intro hb hb2 <;> first | contradiction | (exfalso; omega) | (refine zH hb2 ?_; try clear hb2))
    | ((with_reducible refine CGd_b ?_ ?_) <;> intro hb <;> first | contradiction | refine zH hb ?_)
    | ((with_reducible refine CRes_id ?_); refine zS ?_)
    | ((with_reducible refine DStep_id ?_); refine zdP ?_; refine ⟨_, by first | exact ih (gt t.kids i) (T.size_lt (gt_mem (by omega))) | fail, fun _ => rfl, fun _ => rfl, rfl, (fun h => by first | cases h | fail), ?_⟩; try refine zS ?_)
    | ((with_reducible refine DStep_id ?_); refine zdW ?_; refine ⟨_, by first | exact ih (gt t.kids i) (T.size_lt (gt_mem (by omega))) | fail, fun _ => rfl, fun _ => rfl, rfl, ?_⟩; try refine zS ?_)
    | ((with_reducible refine AWP_c ?_); refine zcdT ?_)
    | ((with_reducible refine AWP_c ?_); refine zcdF ?_)
    | ((with_reducible refine AWP_c ?_); refine zcdN ?_ ?_ <;> intro hb hb2 <;> first | contradiction | (exfalso; omega) | ((try refine zH hb2 ?_); try clear hb2))
    | ((with_reducible refine AWP_c ?_); refine zcdD ?_ ?_ <;> intro hb hb2 <;> first | contradiction | (exfalso; omega) | ((try refine zH hb2 ?_); try clear hb2))
    | ((with_reducible refine AWP_c ?_); refine zcdM ?_ ?_ <;> intro hb <;> first | contradiction | (try refine zH hb ?_))
    | ((with_reducible refine AWP_c ?_); refine zcdB ?_ ?_ <;> intro hb <;> first | contradiction | (try refine zH hb ?_))
    | ((with_reducible refine awp_ret ?_); refine fin_r ?_)
    | ((with_reducible refine awp_ret ?_); refine fin_q ?_ ?_)
    | with_reducible refine fin_qn ?_ ?_
    | ((with_reducible refine awp_skip ?_); refine zS ?_)
    | with_reducible refine awp_block ?_
    | ((with_reducible refine awp_exit ?_); refine zS ?_)
    | ((with_reducible refine CallK_id ?_); refine zcF ?_; refine ⟨_, by first | exact ih (gt t.kids i) (T.size_lt (gt_mem (by omega))) | fail, fun _ => rfl, fun _ => rfl, rfl, ?_⟩; try refine zS ?_)
    | exact True.intro
    | fail
    · exact ⟨(i + 1, depthF (gt t.kids i)), ⟨by simp only; omega, by have := hdk (by omega); simp only; omega, by have := hdk (by omega); simp only; omega, by rw [← i4, hstep (by omega), if_pos ‹_›]⟩, by simp only; omega, wk_cl 1 (by decide) (by simp) (by simp only [go_sem, Bool.not_not, List.mem_singleton, forall_eq, ↓reduceIte, if_pos, rowsAt_map, wrap64, wrapu8, List.getElem?_cons_zero, List.getElem?_cons_succ, Int.reduceToNat, Nat.reduceAdd, Nat.reduceBEq, Bool.or_false, Bool.false_or, Bool.true_or, Nat.reduceSub, Nat.reduceMul, Int.reduceAdd, Int.reduceEq, Int.reduceLT, Int.reduceLE, Int.reduceNeg, Nat.reduceLT, Nat.reduceLeDiff]; try simp) (by simp only [go_sem, Bool.not_not, List.mem_singleton, forall_eq, ↓reduceIte, if_pos, rowsAt_map, wrap64, wrapu8, List.getElem?_cons_zero, List.getElem?_cons_succ, Int.reduceToNat, Nat.reduceAdd, Nat.reduceBEq, Bool.or_false, Bool.false_or, Bool.true_or, Nat.reduceSub, Nat.reduceMul, Int.reduceAdd, Int.reduceEq, Int.reduceLT, Int.reduceLE, Int.reduceNeg, Nat.reduceLT, Nat.reduceLeDiff]; try simp)⟩
    · exact ⟨(i + 1, m), ⟨by simp only; omega, by simp only; omega, by simp only; omega, by rw [← i4, hstep (by omega), if_neg ‹_›]⟩, by simp only; omega, wk_cl 1 (by decide) (by simp) (by simp only [go_sem, Bool.not_not, List.mem_singleton, forall_eq, ↓reduceIte, if_pos, rowsAt_map, wrap64, wrapu8, List.getElem?_cons_zero, List.getElem?_cons_succ, Int.reduceToNat, Nat.reduceAdd, Nat.reduceBEq, Bool.or_false, Bool.false_or, Bool.true_or, Nat.reduceSub, Nat.reduceMul, Int.reduceAdd, Int.reduceEq, Int.reduceLT, Int.reduceLE, Int.reduceNeg, Nat.reduceLT, Nat.reduceLeDiff]; try simp) (by simp only [go_sem, Bool.not_not, List.mem_singleton, forall_eq, ↓reduceIte, if_pos, rowsAt_map, wrap64, wrapu8, List.getElem?_cons_zero, List.getElem?_cons_succ, Int.reduceToNat, Nat.reduceAdd, Nat.reduceBEq, Bool.or_false, Bool.false_or, Bool.true_or, Nat.reduceSub, Nat.reduceMul, Int.reduceAdd, Int.reduceEq, Int.reduceLT, Int.reduceLE, Int.reduceNeg, Nat.reduceLT, Nat.reduceLeDiff]; try simp)⟩
    · rw [depthF_eq, ← hend (by omega)]

def kidsN (o : Int) : Int := if o < 3 then 0 else if o < 5 then 1 else 2
theorem words_kidsN {o : Int} (h1 : 3 ≤ o) (h2 : o ≤ 14) : (gt words o.toNat).kids = kidsN o := by
  unfold kidsN
  have : o = 3 ∨ o = 4 ∨ o = 5 ∨ o = 6 ∨ o = 7 ∨ o = 8 ∨ o = 9 ∨ o = 10 ∨ o = 11 ∨ o = 12 ∨ o = 13 ∨ o = 14 := by omega
  rcases this with e | e | e | e | e | e | e | e | e | e | e | e <;> subst e <;> rfl
theorem shaped_R (t : T) : shapedF t = if t.op < 1 ∨ t.op > 14 ∨ (t.kids.length : Int) ≠ kidsN t.op ∨ t.n < 0 then false else if (t.op = 1 ∧ t.n > 1099511627776) ∨ (t.op = 2 ∧ t.n > 3) ∨ (t.op > 2 ∧ t.n ≠ 0) then false else !(t.kids.any fun t => !shapedF t) := by
  rw [shapedF_eq]
  by_cases h1 : t.op = 1
  · rw [if_pos h1]
    by_cases hl : t.kids.length = 0
    · have hk : t.kids = [] := List.length_eq_zero_iff.1 hl
      by_cases c1 : t.n < 0
      · rw [if_pos (by omega)]; simp [hl]; omega
      · rw [if_neg (by unfold kidsN; omega)]
        by_cases c2 : t.n > 1099511627776
        · rw [if_pos (by omega)]; simp [hl]; omega
        · rw [if_neg (by omega)]; simp [hk]; omega
    · rw [if_pos (by unfold kidsN; omega)]; simp [hl]
  rw [if_neg h1]
  by_cases h2 : t.op = 2
  · rw [if_pos h2]
    by_cases hl : t.kids.length = 0
    · have hk : t.kids = [] := List.length_eq_zero_iff.1 hl
      by_cases c1 : t.n < 0
      · rw [if_pos (by omega)]; simp [hl]; omega
      · rw [if_neg (by unfold kidsN; omega)]
        by_cases c2 : t.n > 3
        · rw [if_pos (by omega)]; simp [hl]; omega
        · rw [if_neg (by omega)]; simp [hk]; omega
    · rw [if_pos (by unfold kidsN; omega)]; simp [hl]
  rw [if_neg h2]
  by_cases h3 : t.op < 3 ∨ t.op > 14
  · rw [if_pos (by omega), if_pos (by omega)]
  have hw := words_kidsN (o := t.op) (by omega) (by omega)
  by_cases hl : (t.kids.length : Int) = kidsN t.op
  · by_cases hn : t.n = 0
    · rw [if_neg (by omega), if_neg (by omega), if_neg (by omega)]
    · rw [if_pos (by omega)]
      by_cases c : t.n < 0
      · rw [if_pos (by omega)]
      · rw [if_neg (by omega), if_pos (by omega)]
  · rw [if_pos (by omega), if_pos (by omega)]
theorem form_ok (t : T) (hz : t.size < 4611686018427387904) : AFn env 74 [t.a] [] (aB (shapedF t)) [] := by
  generalize hn : t.size = n
  induction n using Nat.strongRecOn generalizing t with
  | _ n ih0 =>
    have hl := t.kids_len
    have ih : ∀ k : T, k.size < t.size → AFn env 74 [k.a] [] (aB (shapedF k)) [] := fun k h => ih0 k.size (by omega) k (by omega) rfl
    clear ih0
    have hR := shaped_R t
    unfold kidsN at hR
    refine afn_body Tryd.func74 rfl (by decide) ?_
    simp only [Tryd.ntmps74, Tryd.results74, List.length_cons, List.length_nil, List.cons_append, List.nil_append, Nat.reduceAdd, Nat.reduceSub, List.replicate]
    repeat' first
    | with_reducible refine awp_seq ?_
    | ((with_reducible refine awp_region ?_); refine zS ?_)
    | ((with_reducible refine Gd_nd ?_ ?_) <;> intro hb hb2 <;> first | contradiction | (exfalso; omega) | (refine zH hb2 ?_; try clear hb2))
    | ((with_reducible refine Gd_nb ?_ ?_) <;> intro hb <;> first | contradiction | refine zH hb ?_)
    | ((with_reducible refine Gd_d ?_ ?_) <;> intro hb hb2 <;> first | contradiction | (exfalso; omega) | (refine zH hb2 ?_; try clear hb2))
    | ((with_reducible refine Gd_b ?_ ?_) <;> intro hb <;> first | contradiction | refine zH hb ?_)
    | ((with_reducible refine Res_id ?_); refine zS ?_)
    | ((with_reducible refine awp_drawnC ?_ ?_); rfl; refine zS ?_)
    | ((with_reducible refine awp_drawnA ?_ ?_); rfl; refine zS ?_)
    | ((with_reducible refine CGd_nd ?_ ?_) <;> intro hb hb2 <;> first | contradiction | (exfalso; omega) | (refine zH hb2 ?_; try clear hb2))
    | ((with_reducible refine CGd_nb ?_ ?_) <;> intro hb <;> first | contradiction | refine zH hb ?_)
    | ((with_reducible refine CGd_d ?_ ?_) <;> intro hb hb2 <;> first | contradiction | (exfalso; omega) | (refine zH hb2 ?_; try clear hb2))
    | ((with_reducible refine CGd_b ?_ ?_) <;> intro hb <;> first | contradiction | refine zH hb ?_)
    | ((with_reducible refine CRes_id ?_); refine zS ?_)
    | ((with_reducible refine DStep_id ?_); refine zdP ?_; refine ⟨_, by first | exact kids_ok _ | exact ih (gt t.kids i) (T.size_lt (gt_mem (by omega))) | fail, fun _ => rfl, fun _ => rfl, rfl, (fun h => by first | cases h | fail), ?_⟩; try refine zS ?_)
    | ((with_reducible refine DStep_id ?_); refine zdW ?_; refine ⟨_, by first | exact kids_ok _ | exact ih (gt t.kids i) (T.size_lt (gt_mem (by omega))) | fail, fun _ => rfl, fun _ => rfl, rfl, ?_⟩; try refine zS ?_)
    | ((with_reducible refine AWP_c ?_); refine zcdT ?_)
    | ((with_reducible refine AWP_c ?_); refine zcdF ?_)
    | ((with_reducible refine AWP_c ?_); refine zcdN ?_ ?_ <;> intro hb hb2 <;> first | contradiction | (exfalso; omega) | ((try refine zH hb2 ?_); try clear hb2))
    | ((with_reducible refine AWP_c ?_); refine zcdD ?_ ?_ <;> intro hb hb2 <;> first | contradiction | (exfalso; omega) | ((try refine zH hb2 ?_); try clear hb2))
    | ((with_reducible refine AWP_c ?_); refine zcdM ?_ ?_ <;> intro hb <;> first | contradiction | (try refine zH hb ?_))
    | ((with_reducible refine AWP_c ?_); refine zcdB ?_ ?_ <;> intro hb <;> first | contradiction | (try refine zH hb ?_))
    | ((with_reducible refine awp_ret ?_); refine fin_r ?_)
    | ((with_reducible refine awp_ret ?_); refine fin_q ?_ ?_)
    | with_reducible refine fin_qn ?_ ?_
    | ((with_reducible refine awp_skip ?_); refine zS ?_)
    | with_reducible refine awp_block ?_
    | ((with_reducible refine awp_exit ?_); refine zS ?_)
    | ((with_reducible refine CallK_id ?_); refine zcF ?_; refine ⟨_, by first | exact kids_ok _ | exact ih (gt t.kids i) (T.size_lt (gt_mem (by omega))) | fail, fun _ => rfl, fun _ => rfl, rfl, ?_⟩; try refine zS ?_)
    | exact True.intro
    | fail
    all_goals try (rw [hR, if_pos (by omega)]; done)
    all_goals try (rw [hR, if_neg (by omega), if_pos (by omega)]; done)
    all_goals have hR2 : shapedF t = !(t.kids.any fun t => !shapedF t) := by rw [hR, if_neg (by omega), if_neg (by omega)]
    all_goals clear hR
    all_goals refine awp_loopT (fun i : Nat => i ≤ t.kids.length ∧ ((t.kids.drop i).any fun t => !shapedF t) = (t.kids.any fun t => !shapedF t)) (fun i => t.kids.length - i) (fun i => [(58, aI i)]) (fun i => [some (.box [.d (dI t.op), .d (dI t.n), .d (.fz (t.kids.map T.row))])]) 0 ⟨by simp, by simp⟩ (wk_le (by simp only [go_sem, Bool.not_not, List.mem_singleton, forall_eq, ↓reduceIte, if_pos, rowsAt_map, wrap64, wrapu8, List.getElem?_cons_zero, List.getElem?_cons_succ, Int.reduceToNat, Nat.reduceAdd, Nat.reduceBEq, Bool.or_false, Bool.false_or, Bool.true_or, Nat.reduceSub, Nat.reduceMul, Int.reduceAdd, Int.reduceEq, Int.reduceLT, Int.reduceLE, Int.reduceNeg, Nat.reduceLT, Nat.reduceLeDiff]; try simp) (by simp only [go_sem, Bool.not_not, List.mem_singleton, forall_eq, ↓reduceIte, if_pos, rowsAt_map, wrap64, wrapu8, List.getElem?_cons_zero, List.getElem?_cons_succ, Int.reduceToNat, Nat.reduceAdd, Nat.reduceBEq, Bool.or_false, Bool.false_or, Bool.true_or, Nat.reduceSub, Nat.reduceMul, Int.reduceAdd, Int.reduceEq, Int.reduceLT, Int.reduceLE, Int.reduceNeg, Nat.reduceLT, Nat.reduceLeDiff]; try simp)) ?_
    all_goals rintro i ⟨i1, i2⟩
    all_goals refine zT ?_
    all_goals repeat' first
              | with_reducible refine awp_seq ?_
              | ((with_reducible refine awp_region ?_); refine zS ?_)
              | ((with_reducible refine Gd_nd ?_ ?_) <;> intro hb hb2 <;> first | contradiction | (exfalso; omega) | (refine zH hb2 ?_; try clear hb2))
              | ((with_reducible refine Gd_nb ?_ ?_) <;> intro hb <;> first | contradiction | refine zH hb ?_)
              | ((with_reducible refine Gd_d ?_ ?_) <;> intro hb hb2 <;> first | contradiction | (exfalso; omega) | (refine zH hb2 ?_; try clear hb2))
              | ((with_reducible refine Gd_b ?_ ?_) <;> intro hb <;> first | contradiction | refine zH hb ?_)
              | ((with_reducible refine Res_id ?_); refine zS ?_)
              | ((with_reducible refine awp_drawnC ?_ ?_); rfl; refine zS ?_)
              | ((with_reducible refine awp_drawnA ?_ ?_); rfl; refine zS ?_)
              | ((with_reducible refine CGd_nd ?_ ?_) <;> intro hb hb2 <;> first | contradiction | (exfalso; omega) | (refine zH hb2 ?_; try clear hb2))
              | ((with_reducible refine CGd_nb ?_ ?_) <;> intro hb <;> first | contradiction | refine zH hb ?_)
              | ((with_reducible refine CGd_d ?_ ?_) <;> intro hb hb2 <;> first | contradiction | (exfalso; omega) | (refine zH hb2 ?_; try clear hb2))
              | ((with_reducible refine CGd_b ?_ ?_) <;> intro hb <;> first | contradiction | refine zH hb ?_)
              | ((with_reducible refine CRes_id ?_); refine zS ?_)
              | ((with_reducible refine DStep_id ?_); refine zdP ?_; refine ⟨_, by first | exact kids_ok _ | exact ih (gt t.kids i) (T.size_lt (gt_mem (by omega))) | fail, fun _ => rfl, fun _ => rfl, rfl, (fun h => by first | cases h | fail), ?_⟩; try refine zS ?_)
              | ((with_reducible refine DStep_id ?_); refine zdW ?_; refine ⟨_, by first | exact kids_ok _ | exact ih (gt t.kids i) (T.size_lt (gt_mem (by omega))) | fail, fun _ => rfl, fun _ => rfl, rfl, ?_⟩; try refine zS ?_)
              | ((with_reducible refine AWP_c ?_); refine zcdT ?_)
              | ((with_reducible refine AWP_c ?_); refine zcdF ?_)
              | ((with_reducible refine AWP_c ?_); refine zcdN ?_ ?_ <;> intro hb hb2 <;> first | contradiction | (exfalso; omega) | ((try refine zH hb2 ?_); try clear hb2))
              | ((with_reducible refine AWP_c ?_); refine zcdD ?_ ?_ <;> intro hb hb2 <;> first | contradiction | (exfalso; omega) | ((try refine zH hb2 ?_); try clear hb2))
              | ((with_reducible refine AWP_c ?_); refine zcdM ?_ ?_ <;> intro hb <;> first | contradiction | (try refine zH hb ?_))
              | ((with_reducible refine AWP_c ?_); refine zcdB ?_ ?_ <;> intro hb <;> first | contradiction | (try refine zH hb ?_))
              | ((with_reducible refine awp_ret ?_); refine fin_r ?_)
              | ((with_reducible refine awp_ret ?_); refine fin_q ?_ ?_)
              | with_reducible refine fin_qn ?_ ?_
              | ((with_reducible refine awp_skip ?_); refine zS ?_)
              | with_reducible refine awp_block ?_
              | ((with_reducible refine awp_exit ?_); refine zS ?_)
              | ((with_reducible refine CallK_id ?_); refine zcF ?_; refine ⟨_, by first | exact kids_ok _ | exact ih (gt t.kids i) (T.size_lt (gt_mem (by omega))) | fail, fun _ => rfl, fun _ => rfl, rfl, ?_⟩; try refine zS ?_)
              | exact True.intro
              | fail
    all_goals first
      | (have hi : i < t.kids.length := by omega
         rw [hR2, ← i2, drop_gt hi, List.any_cons, ‹shapedF (gt t.kids i) = false›]; rfl)
      | (have hi : i < t.kids.length := by omega
         exact ⟨i + 1, ⟨by omega, by rw [← i2, drop_gt hi, List.any_cons, ‹shapedF (gt t.kids i) = true›]; simp⟩, by omega, wk_cl 1 (by decide) (by simp) (by simp only [go_sem, Bool.not_not, List.mem_singleton, forall_eq, ↓reduceIte, if_pos, rowsAt_map, wrap64, wrapu8, List.getElem?_cons_zero, List.getElem?_cons_succ, Int.reduceToNat, Nat.reduceAdd, Nat.reduceBEq, Bool.or_false, Bool.false_or, Bool.true_or, Nat.reduceSub, Nat.reduceMul, Int.reduceAdd, Int.reduceEq, Int.reduceLT, Int.reduceLE, Int.reduceNeg, Nat.reduceLT, Nat.reduceLeDiff]; try simp) (by simp only [go_sem, Bool.not_not, List.mem_singleton, forall_eq, ↓reduceIte, if_pos, rowsAt_map, wrap64, wrapu8, List.getElem?_cons_zero, List.getElem?_cons_succ, Int.reduceToNat, Nat.reduceAdd, Nat.reduceBEq, Bool.or_false, Bool.false_or, Bool.true_or, Nat.reduceSub, Nat.reduceMul, Int.reduceAdd, Int.reduceEq, Int.reduceLT, Int.reduceLE, Int.reduceNeg, Nat.reduceLT, Nat.reduceLeDiff]; try simp)⟩)
      | (have hi : i = t.kids.length := by omega
         subst hi
         rw [hR2, ← i2, List.drop_length]; rfl)
      | trace_state
end Go.Eng
open Go Go.Proofs
namespace Go.Eng
set_option linter.unusedSimpArgs false
set_option linter.unusedVariables false
set_option maxRecDepth 100000
set_option maxHeartbeats 8000000

theorem depthFs_gt : ∀ (l : List T) (m c : Int), depthFs l m > c ↔ m > c ∨ ∃ k ∈ l, depthF k > c
  | [], m, c => by simp [depthFs]
  | t :: l, m, c => by
    rw [depthFs, depthFs_gt l]
    simp only [List.mem_cons, exists_eq_or_imp]
    by_cases h : ∃ k ∈ l, depthF k > c
    · simp [h]
    · simp only [h, or_false]
      split <;> omega
theorem deepF_depth (n : Nat) : ∀ (t : T) (d : Int), t.size ≤ n → deepF t d = decide (depthF t + d > 25) := by
  induction n with
  | zero => intro t d h; have := t.size_eq; omega
  | succ n ih =>
    intro t d h
    rw [deepF_eq, depthF_eq]
    rw [Bool.eq_iff_iff, Bool.or_eq_true, decide_eq_true_eq, decide_eq_true_eq, List.any_eq_true]
    have h1 : (∃ k, k ∈ t.kids ∧ deepF k (d + 1) = true) ↔ ∃ k ∈ t.kids, depthF k > 24 - d := by
      constructor
      · rintro ⟨k, hk, hd⟩
        rw [ih k (d + 1) (by have := T.size_lt hk; omega), decide_eq_true_eq] at hd
        exact ⟨k, hk, by omega⟩
      · rintro ⟨k, hk, hd⟩
        exact ⟨k, hk, by rw [ih k (d + 1) (by have := T.size_lt hk; omega), decide_eq_true_eq]; omega⟩
    rw [h1]
    have h2 := depthFs_gt t.kids 0 (24 - d)
    constructor
    · intro h3
      have := h2.2 (h3.imp (by omega) id)
      omega
    · intro h3
      exact (h2.1 (by omega)).imp (by omega) id
theorem wrong3_ok (t : T) (hz : t.size < 4611686018427387904) : AFn env 53 [t.a] [] (aI (wrongF t)) [] := by
  have hw : wrongF t = if depthF t > 24 then 2 else if shapedF t = true then 0 else 4 := by
    unfold wrongF
    rw [deepF_depth _ t 1 (Nat.le_refl _)]
    by_cases h : depthF t > 24
    · rw [if_pos h, if_pos (by simpa using by omega)]
    · rw [if_neg h, if_neg (by simpa using by omega)]
  refine afn_body Tryd.func53 rfl (by decide) ?_
  simp only [Tryd.ntmps53, Tryd.results53, List.length_cons, List.length_nil, List.cons_append, List.nil_append, Nat.reduceAdd, Nat.reduceSub, List.replicate]
  repeat' first
  | with_reducible refine awp_seq ?_
  | ((with_reducible refine awp_region ?_); refine zS ?_)
  | ((with_reducible refine Gd_nd ?_ ?_) <;> intro hb hb2 <;> first | contradiction | (exfalso; omega) | (refine zH hb2 ?_; try clear hb2))
  | ((with_reducible refine Gd_nb ?_ ?_) <;> intro hb <;> first | contradiction | refine zH hb ?_)
  | ((with_reducible refine Gd_d ?_ ?_) <;> intro hb hb2 <;> first | contradiction | (exfalso; omega) | (refine zH hb2 ?_; try clear hb2))
  | ((with_reducible refine Gd_b ?_ ?_) <;> intro hb <;> first | contradiction | refine zH hb ?_)
  | ((with_reducible refine Res_id ?_); refine zS ?_)
  | ((with_reducible refine awp_drawnC ?_ ?_); rfl; refine zS ?_)
  | ((with_reducible refine awp_drawnA ?_ ?_); rfl; refine zS ?_)
  | ((with_reducible refine CGd_nd ?_ ?_) <;> intro hb hb2 <;> first | contradiction | (exfalso; omega) | (refine zH hb2 ?_; try clear hb2))
  | ((with_reducible refine CGd_nb ?_ ?_) <;> intro hb <;> first | contradiction | refine zH hb ?_)
  | ((with_reducible refine CGd_d ?_ ?_) <;> intro hb hb2 <;> first | contradiction | (exfalso; omega) | (refine zH hb2 ?_; try clear hb2))
  | ((with_reducible refine CGd_b ?_ ?_) <;> intro hb <;> first | contradiction | refine zH hb ?_)
  | ((with_reducible refine CRes_id ?_); refine zS ?_)
  | ((with_reducible refine DStep_id ?_); refine zdP ?_; refine ⟨_, by first | exact depth_ok _ hz | exact form_ok _ hz | fail, fun _ => rfl, fun _ => rfl, rfl, (fun h => by first | cases h | fail), ?_⟩; try refine zS ?_)
  | ((with_reducible refine DStep_id ?_); refine zdW ?_; refine ⟨_, by first | exact depth_ok _ hz | exact form_ok _ hz | fail, fun _ => rfl, fun _ => rfl, rfl, ?_⟩; try refine zS ?_)
  | ((with_reducible refine AWP_c ?_); refine zcdT ?_)
  | ((with_reducible refine AWP_c ?_); refine zcdF ?_)
  | ((with_reducible refine AWP_c ?_); refine zcdN ?_ ?_ <;> intro hb hb2 <;> first | contradiction | (exfalso; omega) | ((try refine zH hb2 ?_); try clear hb2))
  | ((with_reducible refine AWP_c ?_); refine zcdD ?_ ?_ <;> intro hb hb2 <;> first | contradiction | (exfalso; omega) | ((try refine zH hb2 ?_); try clear hb2))
  | ((with_reducible refine AWP_c ?_); refine zcdM ?_ ?_ <;> intro hb <;> first | contradiction | (try refine zH hb ?_))
  | ((with_reducible refine AWP_c ?_); refine zcdB ?_ ?_ <;> intro hb <;> first | contradiction | (try refine zH hb ?_))
  | ((with_reducible refine awp_ret ?_); refine fin_r ?_)
  | ((with_reducible refine awp_ret ?_); refine fin_q ?_ ?_)
  | with_reducible refine fin_qn ?_ ?_
  | ((with_reducible refine awp_skip ?_); refine zS ?_)
  | with_reducible refine awp_block ?_
  | ((with_reducible refine awp_exit ?_); refine zS ?_)
  | ((with_reducible refine CallK_id ?_); refine zcF ?_; refine ⟨_, by first | exact depth_ok _ hz | exact form_ok _ hz | fail, fun _ => rfl, fun _ => rfl, rfl, ?_⟩; try refine zS ?_)
  | exact True.intro
  | fail
  all_goals simp [go_sem, hw, *]
def digLit : Str := [48, 49, 50, 51, 52, 53, 54, 55, 56, 57]
theorem digLit_cut : ∀ k : Nat, k < 10 → List.drop k (List.take ((k : Int) + 1).toNat [48, 49, 50, 51, 52, 53, 54, 55, 56, 57]) = [UInt8.ofNat (48 + k)]
  | 0, _ | 1, _ | 2, _ | 3, _ | 4, _ | 5, _ | 6, _ | 7, _ | 8, _ | 9, _ => rfl
  | n + 10, h => by omega
theorem dig3_ok (n0 : Nat) (hn0 : n0 < 4611686018427387904) : AFn env 75 [aI n0] [] (aS (digS n0)) [] := by
  have hl0 := digS_len 20 n0 (by have : (10 : Nat) ^ 20 = 100000000000000000000 := rfl; omega)
  refine afn_body Tryd.func75 rfl (by decide) ?_
  simp only [Tryd.ntmps75, Tryd.results75, List.length_cons, List.length_nil, List.cons_append, List.nil_append, Nat.reduceAdd, Nat.reduceSub, List.replicate]
  repeat' first
  | with_reducible refine awp_seq ?_
  | ((with_reducible refine awp_region ?_); refine zS ?_)
  | ((with_reducible refine Gd_nd ?_ ?_) <;> intro hb hb2 <;> first | contradiction | (exfalso; omega) | (refine zH hb2 ?_; try clear hb2))
  | ((with_reducible refine Gd_nb ?_ ?_) <;> intro hb <;> first | contradiction | refine zH hb ?_)
  | ((with_reducible refine Gd_d ?_ ?_) <;> intro hb hb2 <;> first | contradiction | (exfalso; omega) | (refine zH hb2 ?_; try clear hb2))
  | ((with_reducible refine Gd_b ?_ ?_) <;> intro hb <;> first | contradiction | refine zH hb ?_)
  | ((with_reducible refine Res_id ?_); refine zS ?_)
  | ((with_reducible refine awp_drawnC ?_ ?_); rfl; refine zS ?_)
  | ((with_reducible refine awp_drawnA ?_ ?_); rfl; refine zS ?_)
  | ((with_reducible refine CGd_nd ?_ ?_) <;> intro hb hb2 <;> first | contradiction | (exfalso; omega) | (refine zH hb2 ?_; try clear hb2))
  | ((with_reducible refine CGd_nb ?_ ?_) <;> intro hb <;> first | contradiction | refine zH hb ?_)
  | ((with_reducible refine CGd_d ?_ ?_) <;> intro hb hb2 <;> first | contradiction | (exfalso; omega) | (refine zH hb2 ?_; try clear hb2))
  | ((with_reducible refine CGd_b ?_ ?_) <;> intro hb <;> first | contradiction | refine zH hb ?_)
  | ((with_reducible refine CRes_id ?_); refine zS ?_)
  | ((with_reducible refine DStep_id ?_); refine zdP ?_; refine ⟨_, by first | exact depth_ok _ hz | exact form_ok _ hz | fail, fun _ => rfl, fun _ => rfl, rfl, (fun h => by first | cases h | fail), ?_⟩; try refine zS ?_)
  | ((with_reducible refine DStep_id ?_); refine zdW ?_; refine ⟨_, by first | exact depth_ok _ hz | exact form_ok _ hz | fail, fun _ => rfl, fun _ => rfl, rfl, ?_⟩; try refine zS ?_)
  | ((with_reducible refine AWP_c ?_); refine zcdT ?_)
  | ((with_reducible refine AWP_c ?_); refine zcdF ?_)
  | ((with_reducible refine AWP_c ?_); refine zcdN ?_ ?_ <;> intro hb hb2 <;> first | contradiction | (exfalso; omega) | ((try refine zH hb2 ?_); try clear hb2))
  | ((with_reducible refine AWP_c ?_); refine zcdD ?_ ?_ <;> intro hb hb2 <;> first | contradiction | (exfalso; omega) | ((try refine zH hb2 ?_); try clear hb2))
  | ((with_reducible refine AWP_c ?_); refine zcdM ?_ ?_ <;> intro hb <;> first | contradiction | (try refine zH hb ?_))
  | ((with_reducible refine AWP_c ?_); refine zcdB ?_ ?_ <;> intro hb <;> first | contradiction | (try refine zH hb ?_))
  | ((with_reducible refine awp_ret ?_); refine fin_r ?_)
  | ((with_reducible refine awp_ret ?_); refine fin_q ?_ ?_)
  | with_reducible refine fin_qn ?_ ?_
  | ((with_reducible refine awp_skip ?_); refine zS ?_)
  | with_reducible refine awp_block ?_
  | ((with_reducible refine awp_exit ?_); refine zS ?_)
  | ((with_reducible refine CallK_id ?_); refine zcF ?_; refine ⟨_, by first | exact depth_ok _ hz | exact form_ok _ hz | fail, fun _ => rfl, fun _ => rfl, rfl, ?_⟩; try refine zS ?_)
  | exact True.intro
  | fail
  refine awp_loopT (fun st : Nat × Str => st.1 ≤ n0 ∧ digS st.1 ++ st.2 = digS n0) (fun st => st.1) (fun st => [(0, aI st.1), (3, aS st.2)])
    (fun st => []) (n0, []) ⟨by simp, by simp⟩ (wk_le (by simp only [go_sem, Bool.not_not, List.mem_singleton, forall_eq, ↓reduceIte, if_pos, rowsAt_map, wrap64, wrapu8, List.getElem?_cons_zero, List.getElem?_cons_succ, Int.reduceToNat, Nat.reduceAdd, Nat.reduceBEq, Bool.or_false, Bool.false_or, Bool.true_or, Nat.reduceSub, Nat.reduceMul, Int.reduceAdd, Int.reduceEq, Int.reduceLT, Int.reduceLE, Int.reduceNeg, Nat.reduceLT, Nat.reduceLeDiff]; try simp; try rfl) (by simp only [go_sem, Bool.not_not, List.mem_singleton, forall_eq, ↓reduceIte, if_pos, rowsAt_map, wrap64, wrapu8, List.getElem?_cons_zero, List.getElem?_cons_succ, Int.reduceToNat, Nat.reduceAdd, Nat.reduceBEq, Bool.or_false, Bool.false_or, Bool.true_or, Nat.reduceSub, Nat.reduceMul, Int.reduceAdd, Int.reduceEq, Int.reduceLT, Int.reduceLE, Int.reduceNeg, Nat.reduceLT, Nat.reduceLeDiff]; try simp)) ?_
  rintro ⟨n, s⟩ ⟨i1, i2⟩
  simp only at i1 i2
  have hlen := congrArg List.length i2
  simp only [List.length_append] at hlen
  have hcut := digLit_cut (n % 10) (by omega)
  refine zT ?_
  repeat' first
  | with_reducible refine awp_seq ?_
  | ((with_reducible refine awp_region ?_); refine zS ?_)
  | ((with_reducible refine Gd_nd ?_ ?_) <;> intro hb hb2 <;> first | contradiction | (exfalso; omega) | (refine zH hb2 ?_; try clear hb2))
  | ((with_reducible refine Gd_nb ?_ ?_) <;> intro hb <;> first | contradiction | refine zH hb ?_)
  | ((with_reducible refine Gd_d ?_ ?_) <;> intro hb hb2 <;> first | contradiction | (exfalso; omega) | (refine zH hb2 ?_; try clear hb2))
  | ((with_reducible refine Gd_b ?_ ?_) <;> intro hb <;> first | contradiction | refine zH hb ?_)
  | ((with_reducible refine Res_id ?_); refine zS ?_)
  | ((with_reducible refine awp_drawnC ?_ ?_); rfl; refine zS ?_)
  | ((with_reducible refine awp_drawnA ?_ ?_); rfl; refine zS ?_)
  | ((with_reducible refine CGd_nd ?_ ?_) <;> intro hb hb2 <;> first | contradiction | (exfalso; omega) | (refine zH hb2 ?_; try clear hb2))
  | ((with_reducible refine CGd_nb ?_ ?_) <;> intro hb <;> first | contradiction | refine zH hb ?_)
  | ((with_reducible refine CGd_d ?_ ?_) <;> intro hb hb2 <;> first | contradiction | (exfalso; omega) | (refine zH hb2 ?_; try clear hb2))
  | ((with_reducible refine CGd_b ?_ ?_) <;> intro hb <;> first | contradiction | refine zH hb ?_)
  | ((with_reducible refine CRes_id ?_); refine zS ?_)
  | ((with_reducible refine DStep_id ?_); refine zdP ?_; refine ⟨_, by first | exact depth_ok _ hz | exact form_ok _ hz | fail, fun _ => rfl, fun _ => rfl, rfl, (fun h => by first | cases h | fail), ?_⟩; try refine zS ?_)
  | ((with_reducible refine DStep_id ?_); refine zdW ?_; refine ⟨_, by first | exact depth_ok _ hz | exact form_ok _ hz | fail, fun _ => rfl, fun _ => rfl, rfl, ?_⟩; try refine zS ?_)
  | ((with_reducible refine AWP_c ?_); refine zcdT ?_)
  | ((with_reducible refine AWP_c ?_); refine zcdF ?_)
  | ((with_reducible refine AWP_c ?_); refine zcdN ?_ ?_ <;> intro hb hb2 <;> first | contradiction | (exfalso; omega) | ((try refine zH hb2 ?_); try clear hb2))
  | ((with_reducible refine AWP_c ?_); refine zcdD ?_ ?_ <;> intro hb hb2 <;> first | contradiction | (exfalso; omega) | ((try refine zH hb2 ?_); try clear hb2))
  | ((with_reducible refine AWP_c ?_); refine zcdM ?_ ?_ <;> intro hb <;> first | contradiction | (try refine zH hb ?_))
  | ((with_reducible refine AWP_c ?_); refine zcdB ?_ ?_ <;> intro hb <;> first | contradiction | (try refine zH hb ?_))
  | ((with_reducible refine awp_ret ?_); refine fin_r ?_)
  | ((with_reducible refine awp_ret ?_); refine fin_q ?_ ?_)
  | with_reducible refine fin_qn ?_ ?_
  | ((with_reducible refine awp_skip ?_); refine zS ?_)
  | with_reducible refine awp_block ?_
  | ((with_reducible refine awp_exit ?_); refine zS ?_)
  | ((with_reducible refine CallK_id ?_); refine zcF ?_; refine ⟨_, by first | exact depth_ok _ hz | exact form_ok _ hz | fail, fun _ => rfl, fun _ => rfl, rfl, ?_⟩; try refine zS ?_)
  | exact True.intro
  | fail
  · simp only [hcut, List.length_cons, List.length_nil]
    refine zS ?_
    repeat' first
    | with_reducible refine awp_seq ?_
    | ((with_reducible refine awp_region ?_); refine zS ?_)
    | ((with_reducible refine Gd_nd ?_ ?_) <;> intro hb hb2 <;> first | contradiction | (exfalso; omega) | (refine zH hb2 ?_; try clear hb2))
    | ((with_reducible refine Gd_nb ?_ ?_) <;> intro hb <;> first | contradiction | refine zH hb ?_)
    | ((with_reducible refine Gd_d ?_ ?_) <;> intro hb hb2 <;> first | contradiction | (exfalso; omega) | (refine zH hb2 ?_; try clear hb2))
    | ((with_reducible refine Gd_b ?_ ?_) <;> intro hb <;> first | contradiction | refine zH hb ?_)
    | ((with_reducible refine Res_id ?_); refine zS ?_)
    | ((with_reducible refine awp_drawnC ?_ ?_); rfl; refine zS ?_)
    | ((with_reducible refine awp_drawnA ?_ ?_); rfl; refine zS ?_)
    | ((with_reducible refine CGd_nd ?_ ?_) <;> intro hb hb2 <;> first | contradiction | (exfalso; omega) | (refine zH hb2 ?_; try clear hb2))
    | ((with_reducible refine CGd_nb ?_ ?_) <;> intro hb <;> first | contradiction | refine zH hb ?_)
    | ((with_reducible refine CGd_d ?_ ?_) <;> intro hb hb2 <;> first | contradiction | (exfalso; omega) | (refine zH hb2 ?_; try clear hb2))
    | ((with_reducible refine CGd_b ?_ ?_) <;> intro hb <;> first | contradiction | refine zH hb ?_)
    | ((with_reducible refine CRes_id ?_); refine zS ?_)
    | ((with_reducible refine DStep_id ?_); refine zdP ?_; refine ⟨_, by first | exact depth_ok _ hz | exact form_ok _ hz | fail, fun _ => rfl, fun _ => rfl, rfl, (fun h => by first | cases h | fail), ?_⟩; try refine zS ?_)
    | ((with_reducible refine DStep_id ?_); refine zdW ?_; refine ⟨_, by first | exact depth_ok _ hz | exact form_ok _ hz | fail, fun _ => rfl, fun _ => rfl, rfl, ?_⟩; try refine zS ?_)
    | ((with_reducible refine AWP_c ?_); refine zcdT ?_)
    | ((with_reducible refine AWP_c ?_); refine zcdF ?_)
    | ((with_reducible refine AWP_c ?_); refine zcdN ?_ ?_ <;> intro hb hb2 <;> first | contradiction | (exfalso; omega) | ((try refine zH hb2 ?_); try clear hb2))
    | ((with_reducible refine AWP_c ?_); refine zcdD ?_ ?_ <;> intro hb hb2 <;> first | contradiction | (exfalso; omega) | ((try refine zH hb2 ?_); try clear hb2))
    | ((with_reducible refine AWP_c ?_); refine zcdM ?_ ?_ <;> intro hb <;> first | contradiction | (try refine zH hb ?_))
    | ((with_reducible refine AWP_c ?_); refine zcdB ?_ ?_ <;> intro hb <;> first | contradiction | (try refine zH hb ?_))
    | ((with_reducible refine awp_ret ?_); refine fin_r ?_)
    | ((with_reducible refine awp_ret ?_); refine fin_q ?_ ?_)
    | with_reducible refine fin_qn ?_ ?_
    | ((with_reducible refine awp_skip ?_); refine zS ?_)
    | with_reducible refine awp_block ?_
    | ((with_reducible refine awp_exit ?_); refine zS ?_)
    | ((with_reducible refine CallK_id ?_); refine zcF ?_; refine ⟨_, by first | exact depth_ok _ hz | exact form_ok _ hz | fail, fun _ => rfl, fun _ => rfl, rfl, ?_⟩; try refine zS ?_)
    | exact True.intro
    | fail
    exact ⟨(n / 10, UInt8.ofNat (48 + n % 10) :: s), ⟨by simp only; omega, by rw [← i2, digS.eq_1 n, if_neg (by omega)]; simp⟩, by simp only; omega, wk_le (by simp only [go_sem, Bool.not_not, List.mem_singleton, forall_eq, ↓reduceIte, if_pos, rowsAt_map, wrap64, wrapu8, List.getElem?_cons_zero, List.getElem?_cons_succ, Int.reduceToNat, Nat.reduceAdd, Nat.reduceBEq, Bool.or_false, Bool.false_or, Bool.true_or, Nat.reduceSub, Nat.reduceMul, Int.reduceAdd, Int.reduceEq, Int.reduceLT, Int.reduceLE, Int.reduceNeg, Nat.reduceLT, Nat.reduceLeDiff]; try simp) (by simp only [go_sem, Bool.not_not, List.mem_singleton, forall_eq, ↓reduceIte, if_pos, rowsAt_map, wrap64, wrapu8, List.getElem?_cons_zero, List.getElem?_cons_succ, Int.reduceToNat, Nat.reduceAdd, Nat.reduceBEq, Bool.or_false, Bool.false_or, Bool.true_or, Nat.reduceSub, Nat.reduceMul, Int.reduceAdd, Int.reduceEq, Int.reduceLT, Int.reduceLE, Int.reduceNeg, Nat.reduceLT, Nat.reduceLeDiff]; try simp)⟩
  · simp only [digLit_cut n (by omega), List.length_cons, List.length_nil]
    refine zS ?_
    repeat' first
    | with_reducible refine awp_seq ?_
    | ((with_reducible refine awp_region ?_); refine zS ?_)
    | ((with_reducible refine Gd_nd ?_ ?_) <;> intro hb hb2 <;> first | contradiction | (exfalso; omega) | (refine zH hb2 ?_; try clear hb2))
    | ((with_reducible refine Gd_nb ?_ ?_) <;> intro hb <;> first | contradiction | refine zH hb ?_)
    | ((with_reducible refine Gd_d ?_ ?_) <;> intro hb hb2 <;> first | contradiction | (exfalso; omega) | (refine zH hb2 ?_; try clear hb2))
    | ((with_reducible refine Gd_b ?_ ?_) <;> intro hb <;> first | contradiction | refine zH hb ?_)
    | ((with_reducible refine Res_id ?_); refine zS ?_)
    | ((with_reducible refine awp_drawnC ?_ ?_); rfl; refine zS ?_)
    | ((with_reducible refine awp_drawnA ?_ ?_); rfl; refine zS ?_)
    | ((with_reducible refine CGd_nd ?_ ?_) <;> intro hb hb2 <;> first | contradiction | (exfalso; omega) | (refine zH hb2 ?_; try clear hb2))
    | ((with_reducible refine CGd_nb ?_ ?_) <;> intro hb <;> first | contradiction | refine zH hb ?_)
    | ((with_reducible refine CGd_d ?_ ?_) <;> intro hb hb2 <;> first | contradiction | (exfalso; omega) | (refine zH hb2 ?_; try clear hb2))
    | ((with_reducible refine CGd_b ?_ ?_) <;> intro hb <;> first | contradiction | refine zH hb ?_)
    | ((with_reducible refine CRes_id ?_); refine zS ?_)
    | ((with_reducible refine DStep_id ?_); refine zdP ?_; refine ⟨_, by first | exact depth_ok _ hz | exact form_ok _ hz | fail, fun _ => rfl, fun _ => rfl, rfl, (fun h => by first | cases h | fail), ?_⟩; try refine zS ?_)
    | ((with_reducible refine DStep_id ?_); refine zdW ?_; refine ⟨_, by first | exact depth_ok _ hz | exact form_ok _ hz | fail, fun _ => rfl, fun _ => rfl, rfl, ?_⟩; try refine zS ?_)
    | ((with_reducible refine AWP_c ?_); refine zcdT ?_)
    | ((with_reducible refine AWP_c ?_); refine zcdF ?_)
    | ((with_reducible refine AWP_c ?_); refine zcdN ?_ ?_ <;> intro hb hb2 <;> first | contradiction | (exfalso; omega) | ((try refine zH hb2 ?_); try clear hb2))
    | ((with_reducible refine AWP_c ?_); refine zcdD ?_ ?_ <;> intro hb hb2 <;> first | contradiction | (exfalso; omega) | ((try refine zH hb2 ?_); try clear hb2))
    | ((with_reducible refine AWP_c ?_); refine zcdM ?_ ?_ <;> intro hb <;> first | contradiction | (try refine zH hb ?_))
    | ((with_reducible refine AWP_c ?_); refine zcdB ?_ ?_ <;> intro hb <;> first | contradiction | (try refine zH hb ?_))
    | ((with_reducible refine awp_ret ?_); refine fin_r ?_)
    | ((with_reducible refine awp_ret ?_); refine fin_q ?_ ?_)
    | with_reducible refine fin_qn ?_ ?_
    | ((with_reducible refine awp_skip ?_); refine zS ?_)
    | with_reducible refine awp_block ?_
    | ((with_reducible refine awp_exit ?_); refine zS ?_)
    | ((with_reducible refine CallK_id ?_); refine zcF ?_; refine ⟨_, by first | exact depth_ok _ hz | exact form_ok _ hz | fail, fun _ => rfl, fun _ => rfl, rfl, ?_⟩; try refine zS ?_)
    | exact True.intro
    | fail
    rw [← i2, digS, if_pos (by omega)]; rfl
theorem dig3I_ok (n : Int) (h0 : 0 ≤ n) (hn : n < 4611686018427387904) : AFn env 75 [aI n] [] (aS (digS n.toNat)) [] := by
  have := dig3_ok n.toNat (by omega)
  rwa [show ((n.toNat : Nat) : Int) = n by omega] at this
theorem wordF_val {o : Int} (h1 : 3 ≤ o) (h2 : o ≤ 14) : wordF o = (gt words o.toNat).text := by
  have : o = 3 ∨ o = 4 ∨ o = 5 ∨ o = 6 ∨ o = 7 ∨ o = 8 ∨ o = 9 ∨ o = 10 ∨ o = 11 ∨ o = 12 ∨ o = 13 ∨ o = 14 := by omega
  rcases this with e | e | e | e | e | e | e | e | e | e | e | e <;> subst e <;> rfl
theorem plain3R_ok (t : T) (hsh : shapedF t = true) (hz : t.size < 4611686018427387904) (hb : (plain3 t).length < 10000000000) : AFn env 54 [t.a] [] (aS (plain3 t)) [] := by
  generalize hn : t.size = n
  induction n using Nat.strongRecOn generalizing t with
  | _ n ih0 =>
    have hl := t.kids_len
    have ih : ∀ k, k ∈ t.kids → (plain3 k).length < 10000000000 → AFn env 54 [k.a] [] (aS (plain3 k)) [] := fun k h hb => ih0 k.size (by have := T.size_lt h; omega) k ((sh_of hsh).kids k h) (by have := T.size_lt h; omega) hb rfl
    have hw := wordText_len t.op.toNat
    have hn12 := (sh_of hsh).n
    have hop := (sh_of hsh).op
    have hd : t.op = 1 ∨ t.op = 2 → (digS t.n.toNat).length ≤ 20 := fun h => by have := digS_len 20 t.n.toNat (by have := hn12 h; omega); omega
    have hword : t.op ≠ 1 → t.op ≠ 2 → AFn env 76 [aI t.op] [] (aS (gt words t.op.toNat).text) [] := fun h1 h2 => by have := word_ok t.op; rwa [wordF_val (by omega) (by omega)] at this
    rw [plain3_eq] at hb ⊢
    clear hsh ih0
    have hb' := hb
    clear hb
    refine afn_body Tryd.func54 rfl (by decide) ?_
    simp only [Tryd.ntmps54, Tryd.results54, List.length_cons, List.length_nil, List.cons_append, List.nil_append, Nat.reduceAdd, Nat.reduceSub, List.replicate]
    repeat' first
    | with_reducible refine awp_seq ?_
    | ((with_reducible refine awp_region ?_); refine zS ?_)
    | ((with_reducible refine Gd_nd ?_ ?_) <;> intro hb hb2 <;> first | contradiction | (exfalso; omega) | (refine zH hb2 ?_; try clear hb2))
    | ((with_reducible refine Gd_nb ?_ ?_) <;> intro hb <;> first | contradiction | refine zH hb ?_)
    | ((with_reducible refine Gd_d ?_ ?_) <;> intro hb hb2 <;> first | contradiction | (exfalso; omega) | (refine zH hb2 ?_; try clear hb2))
    | ((with_reducible refine Gd_b ?_ ?_) <;> intro hb <;> first | contradiction | refine zH hb ?_)
    | ((with_reducible refine Res_id ?_); refine zS ?_)
    | ((with_reducible refine awp_drawnC ?_ ?_); rfl; refine zS ?_)
    | ((with_reducible refine awp_drawnA ?_ ?_); rfl; refine zS ?_)
    | ((with_reducible refine CGd_nd ?_ ?_) <;> intro hb hb2 <;> first | contradiction | (exfalso; omega) | (refine zH hb2 ?_; try clear hb2))
    | ((with_reducible refine CGd_nb ?_ ?_) <;> intro hb <;> first | contradiction | refine zH hb ?_)
    | ((with_reducible refine CGd_d ?_ ?_) <;> intro hb hb2 <;> first | contradiction | (exfalso; omega) | (refine zH hb2 ?_; try clear hb2))
    | ((with_reducible refine CGd_b ?_ ?_) <;> intro hb <;> first | contradiction | refine zH hb ?_)
    | ((with_reducible refine CRes_id ?_); refine zS ?_)
    | ((with_reducible refine DStep_id ?_); refine zdP ?_; refine ⟨_, by first | exact dig3I_ok _ (by omega) (by omega) | exact hword (by omega) (by omega) | fail, fun _ => rfl, fun _ => rfl, rfl, (fun h => by first | cases h | fail), ?_⟩; try refine zS ?_)
    | ((with_reducible refine DStep_id ?_); refine zdW ?_; refine ⟨_, by first | exact dig3I_ok _ (by omega) (by omega) | exact hword (by omega) (by omega) | fail, fun _ => rfl, fun _ => rfl, rfl, ?_⟩; try refine zS ?_)
    | ((with_reducible refine AWP_c ?_); refine zcdT ?_)
    | ((with_reducible refine AWP_c ?_); refine zcdF ?_)
    | ((with_reducible refine AWP_c ?_); refine zcdN ?_ ?_ <;> intro hb hb2 <;> first | contradiction | (exfalso; omega) | ((try refine zH hb2 ?_); try clear hb2))
    | ((with_reducible refine AWP_c ?_); refine zcdD ?_ ?_ <;> intro hb hb2 <;> first | contradiction | (exfalso; omega) | ((try refine zH hb2 ?_); try clear hb2))
    | ((with_reducible refine AWP_c ?_); refine zcdM ?_ ?_ <;> intro hb <;> first | contradiction | (try refine zH hb ?_))
    | ((with_reducible refine AWP_c ?_); refine zcdB ?_ ?_ <;> intro hb <;> first | contradiction | (try refine zH hb ?_))
    | ((with_reducible refine awp_ret ?_); refine fin_r ?_)
    | ((with_reducible refine awp_ret ?_); refine fin_q ?_ ?_)
    | with_reducible refine fin_qn ?_ ?_
    | ((with_reducible refine awp_skip ?_); refine zS ?_)
    | with_reducible refine awp_block ?_
    | ((with_reducible refine awp_exit ?_); refine zS ?_)
    | ((with_reducible refine CallK_id ?_); refine zcF ?_; refine ⟨_, by first | exact dig3I_ok _ (by omega) (by omega) | exact hword (by omega) (by omega) | fail, fun _ => rfl, fun _ => rfl, rfl, ?_⟩; try refine zS ?_)
    | exact True.intro
    | fail
    · rfl
    · rw [if_neg ‹¬ t.op = 1›]
    rw [if_neg ‹¬ t.op = 1›, if_neg ‹¬ t.op = 2›] at *
    have hb0 := hb'
    simp only [List.length_cons, List.length_append, List.length_nil] at hb0
    refine awp_loopT (fun st : Nat × Str => st.1 ≤ t.kids.length ∧ st.2 ++ plain3s (t.kids.drop st.1) = 40 :: (gt words t.op.toNat).text ++ plain3s t.kids) (fun st => t.kids.length - st.1) (fun st => [(3, aS st.2), (26, aI st.1)])
      (fun st => [some (.box [.d (dI t.op), .d (dI t.n), .d (.fz (t.kids.map T.row))])]) (0, 40 :: (gt words t.op.toNat).text) ⟨by simp, by simp⟩ (wk_le (by simp only [go_sem, Bool.not_not, List.mem_singleton, forall_eq, ↓reduceIte, if_pos, rowsAt_map, wrap64, wrapu8, List.getElem?_cons_zero, List.getElem?_cons_succ, Int.reduceToNat, Nat.reduceAdd, Nat.reduceBEq, Bool.or_false, Bool.false_or, Bool.true_or, Nat.reduceSub, Nat.reduceMul, Int.reduceAdd, Int.reduceEq, Int.reduceLT, Int.reduceLE, Int.reduceNeg, Nat.reduceLT, Nat.reduceLeDiff]; try simp) (by simp only [go_sem, Bool.not_not, List.mem_singleton, forall_eq, ↓reduceIte, if_pos, rowsAt_map, wrap64, wrapu8, List.getElem?_cons_zero, List.getElem?_cons_succ, Int.reduceToNat, Nat.reduceAdd, Nat.reduceBEq, Bool.or_false, Bool.false_or, Bool.true_or, Nat.reduceSub, Nat.reduceMul, Int.reduceAdd, Int.reduceEq, Int.reduceLT, Int.reduceLE, Int.reduceNeg, Nat.reduceLT, Nat.reduceLeDiff]; try simp)) ?_
    rintro ⟨i, o⟩ ⟨i1, i2⟩
    simp only at i1 i2
    have hlen := congrArg List.length i2
    simp only [List.length_cons, List.length_append, List.length_nil] at hlen
    have hstep : i < t.kids.length → plain3s (t.kids.drop i) = 32 :: (plain3 (gt t.kids i) ++ plain3s (t.kids.drop (i + 1))) := fun h => by rw [drop_gt h, plain3s]
    have hl2 : i < t.kids.length → o.length + 1 + (plain3 (gt t.kids i)).length < 10000000000 := fun h => by
      have := congrArg List.length (hstep h)
      simp only [List.length_cons, List.length_append] at this
      omega
    have hl3 : i < t.kids.length → (o ++ [32]).length + (plain3 (gt t.kids i)).length ≤ 9223372036854775807 := fun h => by have := hl2 h; simp; omega
    refine zT ?_
    repeat' first
    | with_reducible refine awp_seq ?_
    | ((with_reducible refine awp_region ?_); refine zS ?_)
    | ((with_reducible refine Gd_nd ?_ ?_) <;> intro hb hb2 <;> first | contradiction | (exfalso; omega) | (refine zH hb2 ?_; try clear hb2))
    | ((with_reducible refine Gd_nb ?_ ?_) <;> intro hb <;> first | contradiction | refine zH hb ?_)
    | ((with_reducible refine Gd_d ?_ ?_) <;> intro hb hb2 <;> first | contradiction | (exfalso; omega) | (refine zH hb2 ?_; try clear hb2))
    | ((with_reducible refine Gd_b ?_ ?_) <;> intro hb <;> first | contradiction | refine zH hb ?_)
    | ((with_reducible refine Res_id ?_); refine zS ?_)
    | ((with_reducible refine awp_drawnC ?_ ?_); rfl; refine zS ?_)
    | ((with_reducible refine awp_drawnA ?_ ?_); rfl; refine zS ?_)
    | ((with_reducible refine CGd_nd ?_ ?_) <;> intro hb hb2 <;> first | contradiction | (exfalso; omega) | (refine zH hb2 ?_; try clear hb2))
    | ((with_reducible refine CGd_nb ?_ ?_) <;> intro hb <;> first | contradiction | refine zH hb ?_)
    | ((with_reducible refine CGd_d ?_ ?_) <;> intro hb hb2 <;> first | contradiction | (exfalso; omega) | (refine zH hb2 ?_; try clear hb2))
    | ((with_reducible refine CGd_b ?_ ?_) <;> intro hb <;> first | contradiction | refine zH hb ?_)
    | ((with_reducible refine CRes_id ?_); refine zS ?_)
    | ((with_reducible refine DStep_id ?_); refine zdP ?_; refine ⟨_, by first | exact ih _ (gt_mem (by omega)) (by have := hl2 (by omega); omega) | fail, fun _ => rfl, fun _ => rfl, rfl, (fun h => by first | cases h | fail), ?_⟩; try refine zS ?_)
    | ((with_reducible refine DStep_id ?_); refine zdW ?_; refine ⟨_, by first | exact ih _ (gt_mem (by omega)) (by have := hl2 (by omega); omega) | fail, fun _ => rfl, fun _ => rfl, rfl, ?_⟩; try refine zS ?_)
    | ((with_reducible refine AWP_c ?_); refine zcdT ?_)
    | ((with_reducible refine AWP_c ?_); refine zcdF ?_)
    | ((with_reducible refine AWP_c ?_); refine zcdN ?_ ?_ <;> intro hb hb2 <;> first | contradiction | (exfalso; omega) | ((try refine zH hb2 ?_); try clear hb2))
    | ((with_reducible refine AWP_c ?_); refine zcdD ?_ ?_ <;> intro hb hb2 <;> first | contradiction | (exfalso; omega) | ((try refine zH hb2 ?_); try clear hb2))
    | ((with_reducible refine AWP_c ?_); refine zcdM ?_ ?_ <;> intro hb <;> first | contradiction | (try refine zH hb ?_))
    | ((with_reducible refine AWP_c ?_); refine zcdB ?_ ?_ <;> intro hb <;> first | contradiction | (try refine zH hb ?_))
    | ((with_reducible refine awp_ret ?_); refine fin_r ?_)
    | ((with_reducible refine awp_ret ?_); refine fin_q ?_ ?_)
    | with_reducible refine fin_qn ?_ ?_
    | ((with_reducible refine awp_skip ?_); refine zS ?_)
    | with_reducible refine awp_block ?_
    | ((with_reducible refine awp_exit ?_); refine zS ?_)
    | ((with_reducible refine CallK_id ?_); refine zcF ?_; refine ⟨_, by first | exact ih _ (gt_mem (by omega)) (by have := hl2 (by omega); omega) | fail, fun _ => rfl, fun _ => rfl, rfl, ?_⟩; try refine zS ?_)
    | exact True.intro
    | fail
    · exact ⟨(i + 1, o ++ 32 :: plain3 (gt t.kids i)), ⟨by simp only; omega, by rw [← List.cons_append, ← i2, hstep (by omega)]; simp⟩, by simp only; omega, wk_cl 1 (by decide) (by simp) (by simp only [go_sem, Bool.not_not, List.mem_singleton, forall_eq, ↓reduceIte, if_pos, rowsAt_map, wrap64, wrapu8, List.getElem?_cons_zero, List.getElem?_cons_succ, Int.reduceToNat, Nat.reduceAdd, Nat.reduceBEq, Bool.or_false, Bool.false_or, Bool.true_or, Nat.reduceSub, Nat.reduceMul, Int.reduceAdd, Int.reduceEq, Int.reduceLT, Int.reduceLE, Int.reduceNeg, Nat.reduceLT, Nat.reduceLeDiff]; try simp) (by simp only [go_sem, Bool.not_not, List.mem_singleton, forall_eq, ↓reduceIte, if_pos, rowsAt_map, wrap64, wrapu8, List.getElem?_cons_zero, List.getElem?_cons_succ, Int.reduceToNat, Nat.reduceAdd, Nat.reduceBEq, Bool.or_false, Bool.false_or, Bool.true_or, Nat.reduceSub, Nat.reduceMul, Int.reduceAdd, Int.reduceEq, Int.reduceLT, Int.reduceLE, Int.reduceNeg, Nat.reduceLT, Nat.reduceLeDiff]; try simp)⟩
    · have hi : i = t.kids.length := by omega
      subst hi
      rw [List.drop_length, plain3s, List.append_nil] at i2
      rw [i2]; simp
theorem text3R_ok (t : T) (hz : t.size < 4611686018427387904) : AFn env 29 [t.a] [] (.tup [aS (text3F t).1, aI (text3F t).2]) [] := by
  by_cases hw : wrongF t = 0
  · have hlp := (plain3_top hw).2
    refine afn_body Tryd.func29 rfl (by decide) ?_
    simp only [Tryd.ntmps29, Tryd.results29, List.length_cons, List.length_nil, List.cons_append, List.nil_append, Nat.reduceAdd, Nat.reduceSub, List.replicate]
    repeat' first
    | with_reducible refine awp_seq ?_
    | ((with_reducible refine awp_region ?_); refine zS ?_)
    | ((with_reducible refine Gd_nd ?_ ?_) <;> intro hb hb2 <;> first | contradiction | (exfalso; omega) | (refine zH hb2 ?_; try clear hb2))
    | ((with_reducible refine Gd_nb ?_ ?_) <;> intro hb <;> first | contradiction | refine zH hb ?_)
    | ((with_reducible refine Gd_d ?_ ?_) <;> intro hb hb2 <;> first | contradiction | (exfalso; omega) | (refine zH hb2 ?_; try clear hb2))
    | ((with_reducible refine Gd_b ?_ ?_) <;> intro hb <;> first | contradiction | refine zH hb ?_)
    | ((with_reducible refine Res_id ?_); refine zS ?_)
    | ((with_reducible refine awp_drawnC ?_ ?_); rfl; refine zS ?_)
    | ((with_reducible refine awp_drawnA ?_ ?_); rfl; refine zS ?_)
    | ((with_reducible refine CGd_nd ?_ ?_) <;> intro hb hb2 <;> first | contradiction | (exfalso; omega) | (refine zH hb2 ?_; try clear hb2))
    | ((with_reducible refine CGd_nb ?_ ?_) <;> intro hb <;> first | contradiction | refine zH hb ?_)
    | ((with_reducible refine CGd_d ?_ ?_) <;> intro hb hb2 <;> first | contradiction | (exfalso; omega) | (refine zH hb2 ?_; try clear hb2))
    | ((with_reducible refine CGd_b ?_ ?_) <;> intro hb <;> first | contradiction | refine zH hb ?_)
    | ((with_reducible refine CRes_id ?_); refine zS ?_)
    | ((with_reducible refine DStep_id ?_); refine zdP ?_; refine ⟨_, by first | exact wrong3_ok _ hz | exact plain3R_ok t (plain3_top hw).1 hz (by omega) | fail, fun _ => rfl, fun _ => rfl, rfl, (fun h => by first | cases h | fail), ?_⟩; try refine zS ?_)
    | ((with_reducible refine DStep_id ?_); refine zdW ?_; refine ⟨_, by first | exact wrong3_ok _ hz | exact plain3R_ok t (plain3_top hw).1 hz (by omega) | fail, fun _ => rfl, fun _ => rfl, rfl, ?_⟩; try refine zS ?_)
    | ((with_reducible refine AWP_c ?_); refine zcdT ?_)
    | ((with_reducible refine AWP_c ?_); refine zcdF ?_)
    | ((with_reducible refine AWP_c ?_); refine zcdN ?_ ?_ <;> intro hb hb2 <;> first | contradiction | (exfalso; omega) | ((try refine zH hb2 ?_); try clear hb2))
    | ((with_reducible refine AWP_c ?_); refine zcdD ?_ ?_ <;> intro hb hb2 <;> first | contradiction | (exfalso; omega) | ((try refine zH hb2 ?_); try clear hb2))
    | ((with_reducible refine AWP_c ?_); refine zcdM ?_ ?_ <;> intro hb <;> first | contradiction | (try refine zH hb ?_))
    | ((with_reducible refine AWP_c ?_); refine zcdB ?_ ?_ <;> intro hb <;> first | contradiction | (try refine zH hb ?_))
    | ((with_reducible refine awp_ret ?_); refine fin_r ?_)
    | ((with_reducible refine awp_ret ?_); refine fin_q ?_ ?_)
    | with_reducible refine fin_qn ?_ ?_
    | ((with_reducible refine awp_skip ?_); refine zS ?_)
    | with_reducible refine awp_block ?_
    | ((with_reducible refine awp_exit ?_); refine zS ?_)
    | ((with_reducible refine CallK_id ?_); refine zcF ?_; refine ⟨_, by first | exact wrong3_ok _ hz | exact plain3R_ok t (plain3_top hw).1 hz (by omega) | fail, fun _ => rfl, fun _ => rfl, rfl, ?_⟩; try refine zS ?_)
    | exact True.intro
    | fail
    all_goals simp [go_sem, text3F, hw]
    · have h : 20000 < (plain3 t).length := by omega
      simp [h]; rfl
    · have h : ¬ 20000 < (plain3 t).length := by omega
      simp [h]
  · skip
    refine afn_body Tryd.func29 rfl (by decide) ?_
    simp only [Tryd.ntmps29, Tryd.results29, List.length_cons, List.length_nil, List.cons_append, List.nil_append, Nat.reduceAdd, Nat.reduceSub, List.replicate]
    repeat' first
    | with_reducible refine awp_seq ?_
    | ((with_reducible refine awp_region ?_); refine zS ?_)
    | ((with_reducible refine Gd_nd ?_ ?_) <;> intro hb hb2 <;> first | contradiction | (exfalso; omega) | (refine zH hb2 ?_; try clear hb2))
    | ((with_reducible refine Gd_nb ?_ ?_) <;> intro hb <;> first | contradiction | refine zH hb ?_)
    | ((with_reducible refine Gd_d ?_ ?_) <;> intro hb hb2 <;> first | contradiction | (exfalso; omega) | (refine zH hb2 ?_; try clear hb2))
    | ((with_reducible refine Gd_b ?_ ?_) <;> intro hb <;> first | contradiction | refine zH hb ?_)
    | ((with_reducible refine Res_id ?_); refine zS ?_)
    | ((with_reducible refine awp_drawnC ?_ ?_); rfl; refine zS ?_)
    | ((with_reducible refine awp_drawnA ?_ ?_); rfl; refine zS ?_)
    | ((with_reducible refine CGd_nd ?_ ?_) <;> intro hb hb2 <;> first | contradiction | (exfalso; omega) | (refine zH hb2 ?_; try clear hb2))
    | ((with_reducible refine CGd_nb ?_ ?_) <;> intro hb <;> first | contradiction | refine zH hb ?_)
    | ((with_reducible refine CGd_d ?_ ?_) <;> intro hb hb2 <;> first | contradiction | (exfalso; omega) | (refine zH hb2 ?_; try clear hb2))
    | ((with_reducible refine CGd_b ?_ ?_) <;> intro hb <;> first | contradiction | refine zH hb ?_)
    | ((with_reducible refine CRes_id ?_); refine zS ?_)
    | ((with_reducible refine DStep_id ?_); refine zdP ?_; refine ⟨_, by first | exact wrong3_ok _ hz | exact plain3R_ok t (plain3_top hw).1 hz (by omega) | fail, fun _ => rfl, fun _ => rfl, rfl, (fun h => by first | cases h | fail), ?_⟩; try refine zS ?_)
    | ((with_reducible refine DStep_id ?_); refine zdW ?_; refine ⟨_, by first | exact wrong3_ok _ hz | exact plain3R_ok t (plain3_top hw).1 hz (by omega) | fail, fun _ => rfl, fun _ => rfl, rfl, ?_⟩; try refine zS ?_)
    | ((with_reducible refine AWP_c ?_); refine zcdT ?_)
    | ((with_reducible refine AWP_c ?_); refine zcdF ?_)
    | ((with_reducible refine AWP_c ?_); refine zcdN ?_ ?_ <;> intro hb hb2 <;> first | contradiction | (exfalso; omega) | ((try refine zH hb2 ?_); try clear hb2))
    | ((with_reducible refine AWP_c ?_); refine zcdD ?_ ?_ <;> intro hb hb2 <;> first | contradiction | (exfalso; omega) | ((try refine zH hb2 ?_); try clear hb2))
    | ((with_reducible refine AWP_c ?_); refine zcdM ?_ ?_ <;> intro hb <;> first | contradiction | (try refine zH hb ?_))
    | ((with_reducible refine AWP_c ?_); refine zcdB ?_ ?_ <;> intro hb <;> first | contradiction | (try refine zH hb ?_))
    | ((with_reducible refine awp_ret ?_); refine fin_r ?_)
    | ((with_reducible refine awp_ret ?_); refine fin_q ?_ ?_)
    | with_reducible refine fin_qn ?_ ?_
    | ((with_reducible refine awp_skip ?_); refine zS ?_)
    | with_reducible refine awp_block ?_
    | ((with_reducible refine awp_exit ?_); refine zS ?_)
    | ((with_reducible refine CallK_id ?_); refine zcF ?_; refine ⟨_, by first | exact wrong3_ok _ hz | exact plain3R_ok t (plain3_top hw).1 hz (by omega) | fail, fun _ => rfl, fun _ => rfl, rfl, ?_⟩; try refine zS ?_)
    | exact True.intro
    | fail
    all_goals simp [go_sem, text3F, hw]
    all_goals rfl
theorem size_ok (t : T) (hz : t.size < 4611686018427387904) : AFn env 19 [t.a] [] (aI t.size) [] := by
  generalize hn : t.size = n
  induction n using Nat.strongRecOn generalizing t with
  | _ n ih0 =>
    have hl := t.kids_len
    have ih : ∀ k : T, k.size < t.size → AFn env 19 [k.a] [] (aI k.size) [] := fun k h => ih0 k.size (by omega) k (by omega) rfl
    clear ih0
    have hse := t.size_eq
    refine afn_body Tryd.func19 rfl (by decide) ?_
    simp only [Tryd.ntmps19, Tryd.results19, List.length_cons, List.length_nil, List.cons_append, List.nil_append, Nat.reduceAdd, Nat.reduceSub, List.replicate]
    repeat' first
    | with_reducible refine awp_seq ?_
    | ((with_reducible refine awp_region ?_); refine zS ?_)
    | ((with_reducible refine Gd_nd ?_ ?_) <;> intro hb hb2 <;> first | contradiction | (exfalso; omega) | (refine zH hb2 ?_; try clear hb2))
    | ((with_reducible refine Gd_nb ?_ ?_) <;> intro hb <;> first | contradiction | refine zH hb ?_)
    | ((with_reducible refine Gd_d ?_ ?_) <;> intro hb hb2 <;> first | contradiction | (exfalso; omega) | (refine zH hb2 ?_; try clear hb2))
    | ((with_reducible refine Gd_b ?_ ?_) <;> intro hb <;> first | contradiction | refine zH hb ?_)
    | ((with_reducible refine Res_id ?_); refine zS ?_)
    | ((with_reducible refine awp_drawnC ?_ ?_); rfl; refine zS ?_)
    | ((with_reducible refine awp_drawnA ?_ ?_); rfl; refine zS ?_)
    | ((with_reducible refine CGd_nd ?_ ?_) <;> intro hb hb2 <;> first | contradiction | (exfalso; omega) | (refine zH hb2 ?_; try clear hb2))
    | ((with_reducible refine CGd_nb ?_ ?_) <;> intro hb <;> first | contradiction | refine zH hb ?_)
    | ((with_reducible refine CGd_d ?_ ?_) <;> intro hb hb2 <;> first | contradiction | (exfalso; omega) | (refine zH hb2 ?_; try clear hb2))
    | ((with_reducible refine CGd_b ?_ ?_) <;> intro hb <;> first | contradiction | refine zH hb ?_)
    | ((with_reducible refine CRes_id ?_); refine zS ?_)
    | ((with_reducible refine DStep_id ?_); refine zdP ?_; refine ⟨_, by first | exact ih (gt t.kids i) (T.size_lt (gt_mem (by omega))) | fail, fun _ => rfl, fun _ => rfl, rfl, (fun h => by first | cases h | fail), ?_⟩; try refine zS ?_)
    | ((with_reducible refine DStep_id ?_); refine zdW ?_; refine ⟨_, by first | exact ih (gt t.kids i) (T.size_lt (gt_mem (by omega))) | fail, fun _ => rfl, fun _ => rfl, rfl, ?_⟩; try refine zS ?_)
    | ((with_reducible refine AWP_c ?_); refine zcdT ?_)
    | ((with_reducible refine AWP_c ?_); refine zcdF ?_)
    | ((with_reducible refine AWP_c ?_); refine zcdN ?_ ?_ <;> intro hb hb2 <;> first | contradiction | (exfalso; omega) | ((try refine zH hb2 ?_); try clear hb2))
    | ((with_reducible refine AWP_c ?_); refine zcdD ?_ ?_ <;> intro hb hb2 <;> first | contradiction | (exfalso; omega) | ((try refine zH hb2 ?_); try clear hb2))
    | ((with_reducible refine AWP_c ?_); refine zcdM ?_ ?_ <;> intro hb <;> first | contradiction | (try refine zH hb ?_))
    | ((with_reducible refine AWP_c ?_); refine zcdB ?_ ?_ <;> intro hb <;> first | contradiction | (try refine zH hb ?_))
    | ((with_reducible refine awp_ret ?_); refine fin_r ?_)
    | ((with_reducible refine awp_ret ?_); refine fin_q ?_ ?_)
    | with_reducible refine fin_qn ?_ ?_
    | ((with_reducible refine awp_skip ?_); refine zS ?_)
    | with_reducible refine awp_block ?_
    | ((with_reducible refine awp_exit ?_); refine zS ?_)
    | ((with_reducible refine CallK_id ?_); refine zcF ?_; refine ⟨_, by first | exact ih (gt t.kids i) (T.size_lt (gt_mem (by omega))) | fail, fun _ => rfl, fun _ => rfl, rfl, ?_⟩; try refine zS ?_)
    | exact True.intro
    | fail
    refine awp_loopT (fun st : Nat × Nat => st.1 ≤ t.kids.length ∧ st.2 + T.sizes (t.kids.drop st.1) = t.size) (fun st => t.kids.length - st.1) (fun st => [(3, aI st.2), (9, aI st.1)])
      (fun st => [some (.box [.d (dI t.op), .d (dI t.n), .d (.fz (t.kids.map T.row))])]) (0, 1) ⟨by simp, by simp; omega⟩ (wk_le (by simp only [go_sem, Bool.not_not, List.mem_singleton, forall_eq, ↓reduceIte, if_pos, rowsAt_map, wrap64, wrapu8, List.getElem?_cons_zero, List.getElem?_cons_succ, Int.reduceToNat, Nat.reduceAdd, Nat.reduceBEq, Bool.or_false, Bool.false_or, Bool.true_or, Nat.reduceSub, Nat.reduceMul, Int.reduceAdd, Int.reduceEq, Int.reduceLT, Int.reduceLE, Int.reduceNeg, Nat.reduceLT, Nat.reduceLeDiff]; try simp) (by simp only [go_sem, Bool.not_not, List.mem_singleton, forall_eq, ↓reduceIte, if_pos, rowsAt_map, wrap64, wrapu8, List.getElem?_cons_zero, List.getElem?_cons_succ, Int.reduceToNat, Nat.reduceAdd, Nat.reduceBEq, Bool.or_false, Bool.false_or, Bool.true_or, Nat.reduceSub, Nat.reduceMul, Int.reduceAdd, Int.reduceEq, Int.reduceLT, Int.reduceLE, Int.reduceNeg, Nat.reduceLT, Nat.reduceLeDiff]; try simp)) ?_
    rintro ⟨i, m⟩ ⟨i1, i2⟩
    simp only at i1 i2
    have hstep : i < t.kids.length → T.sizes (t.kids.drop i) = (gt t.kids i).size + T.sizes (t.kids.drop (i + 1)) := fun h => by rw [drop_gt h, T.sizes]
    have hst2 : i < t.kids.length → m + (gt t.kids i).size ≤ t.size := fun h => by have := hstep h; omega
    refine zT ?_
    repeat' first
    | with_reducible refine awp_seq ?_
    | ((with_reducible refine awp_region ?_); refine zS ?_)
    | ((with_reducible refine Gd_nd ?_ ?_) <;> intro hb hb2 <;> first | contradiction | (exfalso; omega) | (refine zH hb2 ?_; try clear hb2))
    | ((with_reducible refine Gd_nb ?_ ?_) <;> intro hb <;> first | contradiction | refine zH hb ?_)
    | ((with_reducible refine Gd_d ?_ ?_) <;> intro hb hb2 <;> first | contradiction | (exfalso; omega) | (refine zH hb2 ?_; try clear hb2))
    | ((with_reducible refine Gd_b ?_ ?_) <;> intro hb <;> first | contradiction | refine zH hb ?_)
    | ((with_reducible refine Res_id ?_); refine zS ?_)
    | ((with_reducible refine awp_drawnC ?_ ?_); rfl; refine zS ?_)
    | ((with_reducible refine awp_drawnA ?_ ?_); rfl; refine zS ?_)
    | ((with_reducible refine CGd_nd ?_ ?_) <;> intro hb hb2 <;> first | contradiction | (exfalso; omega) | (refine zH hb2 ?_; try clear hb2))
    | ((with_reducible refine CGd_nb ?_ ?_) <;> intro hb <;> first | contradiction | refine zH hb ?_)
    | ((with_reducible refine CGd_d ?_ ?_) <;> intro hb hb2 <;> first | contradiction | (exfalso; omega) | (refine zH hb2 ?_; try clear hb2))
    | ((with_reducible refine CGd_b ?_ ?_) <;> intro hb <;> first | contradiction | refine zH hb ?_)
    | ((with_reducible refine CRes_id ?_); refine zS ?_)
    | ((with_reducible refine DStep_id ?_); refine zdP ?_; refine ⟨_, by first | exact ih (gt t.kids i) (T.size_lt (gt_mem (by omega))) | fail, fun _ => rfl, fun _ => rfl, rfl, (fun h => by first | cases h | fail), ?_⟩; try refine zS ?_)
    | ((with_reducible refine DStep_id ?_); refine zdW ?_; refine ⟨_, by first | exact ih (gt t.kids i) (T.size_lt (gt_mem (by omega))) | fail, fun _ => rfl, fun _ => rfl, rfl, ?_⟩; try refine zS ?_)
    | ((with_reducible refine AWP_c ?_); refine zcdT ?_)
    | ((with_reducible refine AWP_c ?_); refine zcdF ?_)
    | ((with_reducible refine AWP_c ?_); refine zcdN ?_ ?_ <;> intro hb hb2 <;> first | contradiction | (exfalso; omega) | ((try refine zH hb2 ?_); try clear hb2))
    | ((with_reducible refine AWP_c ?_); refine zcdD ?_ ?_ <;> intro hb hb2 <;> first | contradiction | (exfalso; omega) | ((try refine zH hb2 ?_); try clear hb2))
    | ((with_reducible refine AWP_c ?_); refine zcdM ?_ ?_ <;> intro hb <;> first | contradiction | (try refine zH hb ?_))
    | ((with_reducible refine AWP_c ?_); refine zcdB ?_ ?_ <;> intro hb <;> first | contradiction | (try refine zH hb ?_))
    | ((with_reducible refine awp_ret ?_); refine fin_r ?_)
    | ((with_reducible refine awp_ret ?_); refine fin_q ?_ ?_)
    | with_reducible refine fin_qn ?_ ?_
    | ((with_reducible refine awp_skip ?_); refine zS ?_)
    | with_reducible refine awp_block ?_
    | ((with_reducible refine awp_exit ?_); refine zS ?_)
    | ((with_reducible refine CallK_id ?_); refine zcF ?_; refine ⟨_, by first | exact ih (gt t.kids i) (T.size_lt (gt_mem (by omega))) | fail, fun _ => rfl, fun _ => rfl, rfl, ?_⟩; try refine zS ?_)
    | exact True.intro
    | fail
    · exact ⟨(i + 1, m + (gt t.kids i).size), ⟨by simp only; omega, by have := hstep (by omega); simp only; omega⟩, by simp only; omega, wk_cl 1 (by decide) (by simp) (by simp only [go_sem, Bool.not_not, List.mem_singleton, forall_eq, ↓reduceIte, if_pos, rowsAt_map, wrap64, wrapu8, List.getElem?_cons_zero, List.getElem?_cons_succ, Int.reduceToNat, Nat.reduceAdd, Nat.reduceBEq, Bool.or_false, Bool.false_or, Bool.true_or, Nat.reduceSub, Nat.reduceMul, Int.reduceAdd, Int.reduceEq, Int.reduceLT, Int.reduceLE, Int.reduceNeg, Nat.reduceLT, Nat.reduceLeDiff]; try simp) (by simp only [go_sem, Bool.not_not, List.mem_singleton, forall_eq, ↓reduceIte, if_pos, rowsAt_map, wrap64, wrapu8, List.getElem?_cons_zero, List.getElem?_cons_succ, Int.reduceToNat, Nat.reduceAdd, Nat.reduceBEq, Bool.or_false, Bool.false_or, Bool.true_or, Nat.reduceSub, Nat.reduceMul, Int.reduceAdd, Int.reduceEq, Int.reduceLT, Int.reduceLE, Int.reduceNeg, Nat.reduceLT, Nat.reduceLeDiff]; try simp)⟩
    · have hi : i = t.kids.length := by omega
      rw [hi, List.drop_length, T.sizes] at i2
      rw [show m = n by omega]
end Go.Eng
open Go Go.Proofs
namespace Go.Eng
set_option linter.unusedSimpArgs false
set_option linter.unusedVariables false
set_option maxRecDepth 100000
set_option maxHeartbeats 8000000

def signTab : List Str := [[], [], [], [], [], [43], [45], [42], [47], [37], [61], [60], [60, 61], [97, 110, 100], [111, 114]]
theorem signT_ok (op : Int) (h0 : 0 ≤ op) (h1 : op ≤ 14) : AFn env 62 [aI op] [] (aS (gt signTab op.toNat)) [] := by
  refine afn_body Tryd.func62 rfl (by decide) ?_
  simp only [Tryd.ntmps62, Tryd.results62, List.length_cons, List.length_nil, List.cons_append, List.nil_append, Nat.reduceAdd, Nat.reduceSub, List.replicate]
  repeat' first
  | with_reducible refine awp_seq ?_
  | ((with_reducible refine awp_region ?_); refine zS ?_)
  | ((with_reducible refine Gd_nd ?_ ?_) <;> intro hb hb2 <;> first | contradiction | (exfalso; omega) | (refine zH hb2 ?_; try clear hb2))
  | ((with_reducible refine Gd_nb ?_ ?_) <;> intro hb <;> first | contradiction | refine zH hb ?_)
  | ((with_reducible refine Gd_d ?_ ?_) <;> intro hb hb2 <;> first | contradiction | (exfalso; omega) | (refine zH hb2 ?_; try clear hb2))
  | ((with_reducible refine Gd_b ?_ ?_) <;> intro hb <;> first | contradiction | refine zH hb ?_)
  | ((with_reducible refine Res_id ?_); refine zS ?_)
  | ((with_reducible refine awp_drawnC ?_ ?_); rfl; refine zS ?_)
  | ((with_reducible refine awp_drawnA ?_ ?_); rfl; refine zS ?_)
  | ((with_reducible refine CGd_nd ?_ ?_) <;> intro hb hb2 <;> first | contradiction | (exfalso; omega) | (refine zH hb2 ?_; try clear hb2))
  | ((with_reducible refine CGd_nb ?_ ?_) <;> intro hb <;> first | contradiction | refine zH hb ?_)
  | ((with_reducible refine CGd_d ?_ ?_) <;> intro hb hb2 <;> first | contradiction | (exfalso; omega) | (refine zH hb2 ?_; try clear hb2))
  | ((with_reducible refine CGd_b ?_ ?_) <;> intro hb <;> first | contradiction | refine zH hb ?_)
  | ((with_reducible refine CRes_id ?_); refine zS ?_)
  | ((with_reducible refine DStep_id ?_); refine zdP ?_; refine ⟨_, by first | fail | fail, fun _ => rfl, fun _ => rfl, rfl, (fun h => by first | cases h | fail), ?_⟩; try refine zS ?_)
  | ((with_reducible refine DStep_id ?_); refine zdW ?_; refine ⟨_, by first | fail | fail, fun _ => rfl, fun _ => rfl, rfl, ?_⟩; try refine zS ?_)
  | ((with_reducible refine AWP_c ?_); refine zcdT ?_)
  | ((with_reducible refine AWP_c ?_); refine zcdF ?_)
  | ((with_reducible refine AWP_c ?_); refine zcdN ?_ ?_ <;> intro hb hb2 <;> first | contradiction | (exfalso; omega) | ((try refine zH hb2 ?_); try clear hb2))
  | ((with_reducible refine AWP_c ?_); refine zcdD ?_ ?_ <;> intro hb hb2 <;> first | contradiction | (exfalso; omega) | ((try refine zH hb2 ?_); try clear hb2))
  | ((with_reducible refine AWP_c ?_); refine zcdM ?_ ?_ <;> intro hb <;> first | contradiction | (try refine zH hb ?_))
  | ((with_reducible refine AWP_c ?_); refine zcdB ?_ ?_ <;> intro hb <;> first | contradiction | (try refine zH hb ?_))
  | ((with_reducible refine awp_ret ?_); refine fin_r ?_)
  | ((with_reducible refine awp_ret ?_); refine fin_q ?_ ?_)
  | with_reducible refine fin_qn ?_ ?_
  | ((with_reducible refine awp_skip ?_); refine zS ?_)
  | with_reducible refine awp_block ?_
  | ((with_reducible refine awp_exit ?_); refine zS ?_)
  | ((with_reducible refine CallK_id ?_); refine zcF ?_; refine ⟨_, by first | fail | fail, fun _ => rfl, fun _ => rfl, rfl, ?_⟩; try refine zS ?_)
  | exact True.intro
  | fail
  obtain ⟨w, hw⟩ : ∃ w, w = gt signTab op.toNat := ⟨_, rfl⟩
  have lit : rowsAt (signTab.map sRow) op.toNat = [dS w] := by rw [hw]; exact rowsAt_map sRow signTab _ (by show _ < 15; omega)
  simp only [signTab, List.map_cons, List.map_nil, sRow, dS, st] at lit
  simp (maxSteps := 500000) (disch := omega) only [go_sem, Bool.not_not, List.mem_singleton, forall_eq, ↓reduceIte, if_pos, rowsAt_map, wrap64, wrapu8, List.getElem?_cons_zero, List.getElem?_cons_succ, Int.reduceToNat, Nat.reduceAdd, Nat.reduceBEq, Bool.or_false, Bool.false_or, Bool.true_or, Nat.reduceSub, Nat.reduceMul, Int.reduceAdd, Int.reduceEq, Int.reduceLT, Int.reduceLE, Int.reduceNeg, Nat.reduceLT, Nat.reduceLeDiff, lit]
  repeat' first
  | with_reducible refine awp_seq ?_
  | ((with_reducible refine awp_region ?_); refine zS ?_)
  | ((with_reducible refine Gd_nd ?_ ?_) <;> intro hb hb2 <;> first | contradiction | (exfalso; omega) | (refine zH hb2 ?_; try clear hb2))
  | ((with_reducible refine Gd_nb ?_ ?_) <;> intro hb <;> first | contradiction | refine zH hb ?_)
  | ((with_reducible refine Gd_d ?_ ?_) <;> intro hb hb2 <;> first | contradiction | (exfalso; omega) | (refine zH hb2 ?_; try clear hb2))
  | ((with_reducible refine Gd_b ?_ ?_) <;> intro hb <;> first | contradiction | refine zH hb ?_)
  | ((with_reducible refine Res_id ?_); refine zS ?_)
  | ((with_reducible refine awp_drawnC ?_ ?_); rfl; refine zS ?_)
  | ((with_reducible refine awp_drawnA ?_ ?_); rfl; refine zS ?_)
  | ((with_reducible refine CGd_nd ?_ ?_) <;> intro hb hb2 <;> first | contradiction | (exfalso; omega) | (refine zH hb2 ?_; try clear hb2))
  | ((with_reducible refine CGd_nb ?_ ?_) <;> intro hb <;> first | contradiction | refine zH hb ?_)
  | ((with_reducible refine CGd_d ?_ ?_) <;> intro hb hb2 <;> first | contradiction | (exfalso; omega) | (refine zH hb2 ?_; try clear hb2))
  | ((with_reducible refine CGd_b ?_ ?_) <;> intro hb <;> first | contradiction | refine zH hb ?_)
  | ((with_reducible refine CRes_id ?_); refine zS ?_)
  | ((with_reducible refine DStep_id ?_); refine zdP ?_; refine ⟨_, by first | fail | fail, fun _ => rfl, fun _ => rfl, rfl, (fun h => by first | cases h | fail), ?_⟩; try refine zS ?_)
  | ((with_reducible refine DStep_id ?_); refine zdW ?_; refine ⟨_, by first | fail | fail, fun _ => rfl, fun _ => rfl, rfl, ?_⟩; try refine zS ?_)
  | ((with_reducible refine AWP_c ?_); refine zcdT ?_)
  | ((with_reducible refine AWP_c ?_); refine zcdF ?_)
  | ((with_reducible refine AWP_c ?_); refine zcdN ?_ ?_ <;> intro hb hb2 <;> first | contradiction | (exfalso; omega) | ((try refine zH hb2 ?_); try clear hb2))
  | ((with_reducible refine AWP_c ?_); refine zcdD ?_ ?_ <;> intro hb hb2 <;> first | contradiction | (exfalso; omega) | ((try refine zH hb2 ?_); try clear hb2))
  | ((with_reducible refine AWP_c ?_); refine zcdM ?_ ?_ <;> intro hb <;> first | contradiction | (try refine zH hb ?_))
  | ((with_reducible refine AWP_c ?_); refine zcdB ?_ ?_ <;> intro hb <;> first | contradiction | (try refine zH hb ?_))
  | ((with_reducible refine awp_ret ?_); refine fin_r ?_)
  | ((with_reducible refine awp_ret ?_); refine fin_q ?_ ?_)
  | with_reducible refine fin_qn ?_ ?_
  | ((with_reducible refine awp_skip ?_); refine zS ?_)
  | with_reducible refine awp_block ?_
  | ((with_reducible refine awp_exit ?_); refine zS ?_)
  | ((with_reducible refine CallK_id ?_); refine zcF ?_; refine ⟨_, by first | fail | fail, fun _ => rfl, fun _ => rfl, rfl, ?_⟩; try refine zS ?_)
  | exact True.intro
  | fail
  rw [← hw]; rfl
theorem rowOf_val {t : T} (h : 1 ≤ t.op ∧ t.op ≤ 14) : rowOf t = (ofF t).row := by
  rw [ofF_val h]
  rcases op14 h with e | e | e | e | e | e | e | e | e | e | e | e | e | e
  all_goals simp [rowOf, ofX, e]
  by_cases h10 : (gt t.kids 0).op = 10 <;> simp [h10]
theorem signT_val {t : T} (h : 5 ≤ t.op ∧ t.op ≤ 14) : gt signTab t.op.toNat = (ofF t).text := by
  rw [ofF_val (by omega)]
  have : t.op = 5 ∨ t.op = 6 ∨ t.op = 7 ∨ t.op = 8 ∨ t.op = 9 ∨ t.op = 10 ∨ t.op = 11 ∨ t.op = 12 ∨ t.op = 13 ∨ t.op = 14 := by omega
  rcases this with e | e | e | e | e | e | e | e | e | e <;> (simp only [ofX, e]; rfl)

section
variable (t : T) (hl0 : t.kids.length < 4611686018427387904) (x y tx : Str) (hx : x.length < 10000000000) (hy : y.length < 10000000000) (htx : tx.length ≤ 3)
theorem px8 (hr : AFn env 60 [t.a] [] (aI 8) []) (h54 : AFn env 54 [t.a] [] (aS x) []) : AFn env 32 [t.a] [] (aS x) [] := by
  refine afn_body Tryd.func32 rfl (by decide) ?_
  simp only [Tryd.ntmps32, Tryd.results32, List.length_cons, List.length_nil, List.cons_append, List.nil_append, Nat.reduceAdd, Nat.reduceSub, List.replicate]
  repeat' first
  | with_reducible refine awp_seq ?_
  | ((with_reducible refine awp_region ?_); refine zS ?_)
  | ((with_reducible refine Gd_nd ?_ ?_) <;> intro hb hb2 <;> first | contradiction | (exfalso; omega) | (refine zH hb2 ?_; try clear hb2))
  | ((with_reducible refine Gd_nb ?_ ?_) <;> intro hb <;> first | contradiction | refine zH hb ?_)
  | ((with_reducible refine Gd_d ?_ ?_) <;> intro hb hb2 <;> first | contradiction | (exfalso; omega) | (refine zH hb2 ?_; try clear hb2))
  | ((with_reducible refine Gd_b ?_ ?_) <;> intro hb <;> first | contradiction | refine zH hb ?_)
  | ((with_reducible refine Res_id ?_); refine zS ?_)
  | ((with_reducible refine awp_drawnC ?_ ?_); rfl; refine zS ?_)
  | ((with_reducible refine awp_drawnA ?_ ?_); rfl; refine zS ?_)
  | ((with_reducible refine CGd_nd ?_ ?_) <;> intro hb hb2 <;> first | contradiction | (exfalso; omega) | (refine zH hb2 ?_; try clear hb2))
  | ((with_reducible refine CGd_nb ?_ ?_) <;> intro hb <;> first | contradiction | refine zH hb ?_)
  | ((with_reducible refine CGd_d ?_ ?_) <;> intro hb hb2 <;> first | contradiction | (exfalso; omega) | (refine zH hb2 ?_; try clear hb2))
  | ((with_reducible refine CGd_b ?_ ?_) <;> intro hb <;> first | contradiction | refine zH hb ?_)
  | ((with_reducible refine CRes_id ?_); refine zS ?_)
  | ((with_reducible refine DStep_id ?_); refine zdP ?_; refine ⟨_, by first | exact hr | exact h54 | fail, fun _ => rfl, fun _ => rfl, rfl, (fun h => by first | cases h | fail), ?_⟩; try refine zS ?_)
  | ((with_reducible refine DStep_id ?_); refine zdW ?_; refine ⟨_, by first | exact hr | exact h54 | fail, fun _ => rfl, fun _ => rfl, rfl, ?_⟩; try refine zS ?_)
  | ((with_reducible refine AWP_c ?_); refine zcdT ?_)
  | ((with_reducible refine AWP_c ?_); refine zcdF ?_)
  | ((with_reducible refine AWP_c ?_); refine zcdN ?_ ?_ <;> intro hb hb2 <;> first | contradiction | (exfalso; omega) | ((try refine zH hb2 ?_); try clear hb2))
  | ((with_reducible refine AWP_c ?_); refine zcdD ?_ ?_ <;> intro hb hb2 <;> first | contradiction | (exfalso; omega) | ((try refine zH hb2 ?_); try clear hb2))
  | ((with_reducible refine AWP_c ?_); refine zcdM ?_ ?_ <;> intro hb <;> first | contradiction | (try refine zH hb ?_))
  | ((with_reducible refine AWP_c ?_); refine zcdB ?_ ?_ <;> intro hb <;> first | contradiction | (try refine zH hb ?_))
  | ((with_reducible refine awp_ret ?_); refine fin_r ?_)
  | ((with_reducible refine awp_ret ?_); refine fin_q ?_ ?_)
  | with_reducible refine fin_qn ?_ ?_
  | ((with_reducible refine awp_skip ?_); refine zS ?_)
  | with_reducible refine awp_block ?_
  | ((with_reducible refine awp_exit ?_); refine zS ?_)
  | ((with_reducible refine CallK_id ?_); refine zcF ?_; refine ⟨_, by first | exact hr | exact h54 | fail, fun _ => rfl, fun _ => rfl, rfl, ?_⟩; try refine zS ?_)
  | exact True.intro
  | fail
  all_goals rfl
include hl0 hx in
theorem px7 (hr : AFn env 60 [t.a] [] (aI 7) []) (hl : 1 ≤ t.kids.length) (hk : AFn env 61 [(gt t.kids 0).a, aI 7] [] (aS x) []) : AFn env 32 [t.a] [] (aS (45 :: x)) [] := by
  refine afn_body Tryd.func32 rfl (by decide) ?_
  simp only [Tryd.ntmps32, Tryd.results32, List.length_cons, List.length_nil, List.cons_append, List.nil_append, Nat.reduceAdd, Nat.reduceSub, List.replicate]
  repeat' first
  | with_reducible refine awp_seq ?_
  | ((with_reducible refine awp_region ?_); refine zS ?_)
  | ((with_reducible refine Gd_nd ?_ ?_) <;> intro hb hb2 <;> first | contradiction | (exfalso; omega) | (refine zH hb2 ?_; try clear hb2))
  | ((with_reducible refine Gd_nb ?_ ?_) <;> intro hb <;> first | contradiction | refine zH hb ?_)
  | ((with_reducible refine Gd_d ?_ ?_) <;> intro hb hb2 <;> first | contradiction | (exfalso; omega) | (refine zH hb2 ?_; try clear hb2))
  | ((with_reducible refine Gd_b ?_ ?_) <;> intro hb <;> first | contradiction | refine zH hb ?_)
  | ((with_reducible refine Res_id ?_); refine zS ?_)
  | ((with_reducible refine awp_drawnC ?_ ?_); rfl; refine zS ?_)
  | ((with_reducible refine awp_drawnA ?_ ?_); rfl; refine zS ?_)
  | ((with_reducible refine CGd_nd ?_ ?_) <;> intro hb hb2 <;> first | contradiction | (exfalso; omega) | (refine zH hb2 ?_; try clear hb2))
  | ((with_reducible refine CGd_nb ?_ ?_) <;> intro hb <;> first | contradiction | refine zH hb ?_)
  | ((with_reducible refine CGd_d ?_ ?_) <;> intro hb hb2 <;> first | contradiction | (exfalso; omega) | (refine zH hb2 ?_; try clear hb2))
  | ((with_reducible refine CGd_b ?_ ?_) <;> intro hb <;> first | contradiction | refine zH hb ?_)
  | ((with_reducible refine CRes_id ?_); refine zS ?_)
  | ((with_reducible refine DStep_id ?_); refine zdP ?_; refine ⟨_, by first | exact hr | exact hk | fail, fun _ => rfl, fun _ => rfl, rfl, (fun h => by first | cases h | fail), ?_⟩; try refine zS ?_)
  | ((with_reducible refine DStep_id ?_); refine zdW ?_; refine ⟨_, by first | exact hr | exact hk | fail, fun _ => rfl, fun _ => rfl, rfl, ?_⟩; try refine zS ?_)
  | ((with_reducible refine AWP_c ?_); refine zcdT ?_)
  | ((with_reducible refine AWP_c ?_); refine zcdF ?_)
  | ((with_reducible refine AWP_c ?_); refine zcdN ?_ ?_ <;> intro hb hb2 <;> first | contradiction | (exfalso; omega) | ((try refine zH hb2 ?_); try clear hb2))
  | ((with_reducible refine AWP_c ?_); refine zcdD ?_ ?_ <;> intro hb hb2 <;> first | contradiction | (exfalso; omega) | ((try refine zH hb2 ?_); try clear hb2))
  | ((with_reducible refine AWP_c ?_); refine zcdM ?_ ?_ <;> intro hb <;> first | contradiction | (try refine zH hb ?_))
  | ((with_reducible refine AWP_c ?_); refine zcdB ?_ ?_ <;> intro hb <;> first | contradiction | (try refine zH hb ?_))
  | ((with_reducible refine awp_ret ?_); refine fin_r ?_)
  | ((with_reducible refine awp_ret ?_); refine fin_q ?_ ?_)
  | with_reducible refine fin_qn ?_ ?_
  | ((with_reducible refine awp_skip ?_); refine zS ?_)
  | with_reducible refine awp_block ?_
  | ((with_reducible refine awp_exit ?_); refine zS ?_)
  | ((with_reducible refine CallK_id ?_); refine zcF ?_; refine ⟨_, by first | exact hr | exact hk | fail, fun _ => rfl, fun _ => rfl, rfl, ?_⟩; try refine zS ?_)
  | exact True.intro
  | fail
  all_goals rfl
include hl0 hx in
theorem px3 (hr : AFn env 60 [t.a] [] (aI 3) []) (hl : 1 ≤ t.kids.length) (hk : AFn env 61 [(gt t.kids 0).a, aI 3] [] (aS x) []) : AFn env 32 [t.a] [] (aS ([110, 111, 116, 32] ++ x)) [] := by
  refine afn_body Tryd.func32 rfl (by decide) ?_
  simp only [Tryd.ntmps32, Tryd.results32, List.length_cons, List.length_nil, List.cons_append, List.nil_append, Nat.reduceAdd, Nat.reduceSub, List.replicate]
  repeat' first
  | with_reducible refine awp_seq ?_
  | ((with_reducible refine awp_region ?_); refine zS ?_)
  | ((with_reducible refine Gd_nd ?_ ?_) <;> intro hb hb2 <;> first | contradiction | (exfalso; omega) | (refine zH hb2 ?_; try clear hb2))
  | ((with_reducible refine Gd_nb ?_ ?_) <;> intro hb <;> first | contradiction | refine zH hb ?_)
  | ((with_reducible refine Gd_d ?_ ?_) <;> intro hb hb2 <;> first | contradiction | (exfalso; omega) | (refine zH hb2 ?_; try clear hb2))
  | ((with_reducible refine Gd_b ?_ ?_) <;> intro hb <;> first | contradiction | refine zH hb ?_)
  | ((with_reducible refine Res_id ?_); refine zS ?_)
  | ((with_reducible refine awp_drawnC ?_ ?_); rfl; refine zS ?_)
  | ((with_reducible refine awp_drawnA ?_ ?_); rfl; refine zS ?_)
  | ((with_reducible refine CGd_nd ?_ ?_) <;> intro hb hb2 <;> first | contradiction | (exfalso; omega) | (refine zH hb2 ?_; try clear hb2))
  | ((with_reducible refine CGd_nb ?_ ?_) <;> intro hb <;> first | contradiction | refine zH hb ?_)
  | ((with_reducible refine CGd_d ?_ ?_) <;> intro hb hb2 <;> first | contradiction | (exfalso; omega) | (refine zH hb2 ?_; try clear hb2))
  | ((with_reducible refine CGd_b ?_ ?_) <;> intro hb <;> first | contradiction | refine zH hb ?_)
  | ((with_reducible refine CRes_id ?_); refine zS ?_)
  | ((with_reducible refine DStep_id ?_); refine zdP ?_; refine ⟨_, by first | exact hr | exact hk | fail, fun _ => rfl, fun _ => rfl, rfl, (fun h => by first | cases h | fail), ?_⟩; try refine zS ?_)
  | ((with_reducible refine DStep_id ?_); refine zdW ?_; refine ⟨_, by first | exact hr | exact hk | fail, fun _ => rfl, fun _ => rfl, rfl, ?_⟩; try refine zS ?_)
  | ((with_reducible refine AWP_c ?_); refine zcdT ?_)
  | ((with_reducible refine AWP_c ?_); refine zcdF ?_)
  | ((with_reducible refine AWP_c ?_); refine zcdN ?_ ?_ <;> intro hb hb2 <;> first | contradiction | (exfalso; omega) | ((try refine zH hb2 ?_); try clear hb2))
  | ((with_reducible refine AWP_c ?_); refine zcdD ?_ ?_ <;> intro hb hb2 <;> first | contradiction | (exfalso; omega) | ((try refine zH hb2 ?_); try clear hb2))
  | ((with_reducible refine AWP_c ?_); refine zcdM ?_ ?_ <;> intro hb <;> first | contradiction | (try refine zH hb ?_))
  | ((with_reducible refine AWP_c ?_); refine zcdB ?_ ?_ <;> intro hb <;> first | contradiction | (try refine zH hb ?_))
  | ((with_reducible refine awp_ret ?_); refine fin_r ?_)
  | ((with_reducible refine awp_ret ?_); refine fin_q ?_ ?_)
  | with_reducible refine fin_qn ?_ ?_
  | ((with_reducible refine awp_skip ?_); refine zS ?_)
  | with_reducible refine awp_block ?_
  | ((with_reducible refine awp_exit ?_); refine zS ?_)
  | ((with_reducible refine CallK_id ?_); refine zcF ?_; refine ⟨_, by first | exact hr | exact hk | fail, fun _ => rfl, fun _ => rfl, rfl, ?_⟩; try refine zS ?_)
  | exact True.intro
  | fail
  all_goals rfl
include hl0 hx hy in
theorem pxD (hr : AFn env 60 [t.a] [] (aI 4) []) (ho : t.op = 4) (hl : 1 ≤ t.kids.length) (hl1 : (gt t.kids 0).kids.length < 4611686018427387904) (hl2 : 2 ≤ (gt t.kids 0).kids.length)
    (hk0 : AFn env 61 [(gt (gt t.kids 0).kids 0).a, aI 5] [] (aS x) []) (hk1 : AFn env 61 [(gt (gt t.kids 0).kids 1).a, aI 5] [] (aS y) []) : AFn env 32 [t.a] [] (aS (x ++ ([32, 33, 61, 32] ++ y))) [] := by
  have hxl : (x ++ [32, 33, 61, 32]).length < 20000000000 := by simp; omega
  refine afn_body Tryd.func32 rfl (by decide) ?_
  simp only [Tryd.ntmps32, Tryd.results32, List.length_cons, List.length_nil, List.cons_append, List.nil_append, Nat.reduceAdd, Nat.reduceSub, List.replicate]
  repeat' first
  | with_reducible refine awp_seq ?_
  | ((with_reducible refine awp_region ?_); refine zS ?_)
  | ((with_reducible refine Gd_nd ?_ ?_) <;> intro hb hb2 <;> first | contradiction | (exfalso; omega) | (refine zH hb2 ?_; try clear hb2))
  | ((with_reducible refine Gd_nb ?_ ?_) <;> intro hb <;> first | contradiction | refine zH hb ?_)
  | ((with_reducible refine Gd_d ?_ ?_) <;> intro hb hb2 <;> first | contradiction | (exfalso; omega) | (refine zH hb2 ?_; try clear hb2))
  | ((with_reducible refine Gd_b ?_ ?_) <;> intro hb <;> first | contradiction | refine zH hb ?_)
  | ((with_reducible refine Res_id ?_); refine zS ?_)
  | ((with_reducible refine awp_drawnC ?_ ?_); rfl; refine zS ?_)
  | ((with_reducible refine awp_drawnA ?_ ?_); rfl; refine zS ?_)
  | ((with_reducible refine CGd_nd ?_ ?_) <;> intro hb hb2 <;> first | contradiction | (exfalso; omega) | (refine zH hb2 ?_; try clear hb2))
  | ((with_reducible refine CGd_nb ?_ ?_) <;> intro hb <;> first | contradiction | refine zH hb ?_)
  | ((with_reducible refine CGd_d ?_ ?_) <;> intro hb hb2 <;> first | contradiction | (exfalso; omega) | (refine zH hb2 ?_; try clear hb2))
  | ((with_reducible refine CGd_b ?_ ?_) <;> intro hb <;> first | contradiction | refine zH hb ?_)
  | ((with_reducible refine CRes_id ?_); refine zS ?_)
  | ((with_reducible refine DStep_id ?_); refine zdP ?_; refine ⟨_, by first | exact hr | exact hk0 | exact hk1 | fail, fun _ => rfl, fun _ => rfl, rfl, (fun h => by first | cases h | fail), ?_⟩; try refine zS ?_)
  | ((with_reducible refine DStep_id ?_); refine zdW ?_; refine ⟨_, by first | exact hr | exact hk0 | exact hk1 | fail, fun _ => rfl, fun _ => rfl, rfl, ?_⟩; try refine zS ?_)
  | ((with_reducible refine AWP_c ?_); refine zcdT ?_)
  | ((with_reducible refine AWP_c ?_); refine zcdF ?_)
  | ((with_reducible refine AWP_c ?_); refine zcdN ?_ ?_ <;> intro hb hb2 <;> first | contradiction | (exfalso; omega) | ((try refine zH hb2 ?_); try clear hb2))
  | ((with_reducible refine AWP_c ?_); refine zcdD ?_ ?_ <;> intro hb hb2 <;> first | contradiction | (exfalso; omega) | ((try refine zH hb2 ?_); try clear hb2))
  | ((with_reducible refine AWP_c ?_); refine zcdM ?_ ?_ <;> intro hb <;> first | contradiction | (try refine zH hb ?_))
  | ((with_reducible refine AWP_c ?_); refine zcdB ?_ ?_ <;> intro hb <;> first | contradiction | (try refine zH hb ?_))
  | ((with_reducible refine awp_ret ?_); refine fin_r ?_)
  | ((with_reducible refine awp_ret ?_); refine fin_q ?_ ?_)
  | with_reducible refine fin_qn ?_ ?_
  | ((with_reducible refine awp_skip ?_); refine zS ?_)
  | with_reducible refine awp_block ?_
  | ((with_reducible refine awp_exit ?_); refine zS ?_)
  | ((with_reducible refine CallK_id ?_); refine zcF ?_; refine ⟨_, by first | exact hr | exact hk0 | exact hk1 | fail, fun _ => rfl, fun _ => rfl, rfl, ?_⟩; try refine zS ?_)
  | exact True.intro
  | fail
  all_goals first | rfl | (simp [go_sem]; done) | trace_state
include hl0 hx hy htx in
theorem px4 (hr : AFn env 60 [t.a] [] (aI 4) []) (ho : t.op ≠ 4) (hl : 2 ≤ t.kids.length) (hsg : AFn env 62 [aI t.op] [] (aS tx) [])
    (hk0 : AFn env 61 [(gt t.kids 0).a, aI 5] [] (aS x) []) (hk1 : AFn env 61 [(gt t.kids 1).a, aI 5] [] (aS y) []) : AFn env 32 [t.a] [] (aS (x ++ (32 :: (tx ++ (32 :: y))))) [] := by
  have e1 : (x ++ [32]).length < 20000000000 := by simp; omega
  have e2 : (x ++ [32] ++ tx).length < 20000000000 := by simp; omega
  have e3 : (x ++ [32] ++ tx ++ [32]).length < 20000000000 := by simp; omega
  refine afn_body Tryd.func32 rfl (by decide) ?_
  simp only [Tryd.ntmps32, Tryd.results32, List.length_cons, List.length_nil, List.cons_append, List.nil_append, Nat.reduceAdd, Nat.reduceSub, List.replicate]
  repeat' first
  | with_reducible refine awp_seq ?_
  | ((with_reducible refine awp_region ?_); refine zS ?_)
  | ((with_reducible refine Gd_nd ?_ ?_) <;> intro hb hb2 <;> first | contradiction | (exfalso; omega) | (refine zH hb2 ?_; try clear hb2))
  | ((with_reducible refine Gd_nb ?_ ?_) <;> intro hb <;> first | contradiction | refine zH hb ?_)
  | ((with_reducible refine Gd_d ?_ ?_) <;> intro hb hb2 <;> first | contradiction | (exfalso; omega) | (refine zH hb2 ?_; try clear hb2))
  | ((with_reducible refine Gd_b ?_ ?_) <;> intro hb <;> first | contradiction | refine zH hb ?_)
  | ((with_reducible refine Res_id ?_); refine zS ?_)
  | ((with_reducible refine awp_drawnC ?_ ?_); rfl; refine zS ?_)
  | ((with_reducible refine awp_drawnA ?_ ?_); rfl; refine zS ?_)
  | ((with_reducible refine CGd_nd ?_ ?_) <;> intro hb hb2 <;> first | contradiction | (exfalso; omega) | (refine zH hb2 ?_; try clear hb2))
  | ((with_reducible refine CGd_nb ?_ ?_) <;> intro hb <;> first | contradiction | refine zH hb ?_)
  | ((with_reducible refine CGd_d ?_ ?_) <;> intro hb hb2 <;> first | contradiction | (exfalso; omega) | (refine zH hb2 ?_; try clear hb2))
  | ((with_reducible refine CGd_b ?_ ?_) <;> intro hb <;> first | contradiction | refine zH hb ?_)
  | ((with_reducible refine CRes_id ?_); refine zS ?_)
  | ((with_reducible refine DStep_id ?_); refine zdP ?_; refine ⟨_, by first | exact hr | exact hk0 | exact hsg | exact hk1 | fail, fun _ => rfl, fun _ => rfl, rfl, (fun h => by first | cases h | fail), ?_⟩; try refine zS ?_)
  | ((with_reducible refine DStep_id ?_); refine zdW ?_; refine ⟨_, by first | exact hr | exact hk0 | exact hsg | exact hk1 | fail, fun _ => rfl, fun _ => rfl, rfl, ?_⟩; try refine zS ?_)
  | ((with_reducible refine AWP_c ?_); refine zcdT ?_)
  | ((with_reducible refine AWP_c ?_); refine zcdF ?_)
  | ((with_reducible refine AWP_c ?_); refine zcdN ?_ ?_ <;> intro hb hb2 <;> first | contradiction | (exfalso; omega) | ((try refine zH hb2 ?_); try clear hb2))
  | ((with_reducible refine AWP_c ?_); refine zcdD ?_ ?_ <;> intro hb hb2 <;> first | contradiction | (exfalso; omega) | ((try refine zH hb2 ?_); try clear hb2))
  | ((with_reducible refine AWP_c ?_); refine zcdM ?_ ?_ <;> intro hb <;> first | contradiction | (try refine zH hb ?_))
  | ((with_reducible refine AWP_c ?_); refine zcdB ?_ ?_ <;> intro hb <;> first | contradiction | (try refine zH hb ?_))
  | ((with_reducible refine awp_ret ?_); refine fin_r ?_)
  | ((with_reducible refine awp_ret ?_); refine fin_q ?_ ?_)
  | with_reducible refine fin_qn ?_ ?_
  | ((with_reducible refine awp_skip ?_); refine zS ?_)
  | with_reducible refine awp_block ?_
  | ((with_reducible refine awp_exit ?_); refine zS ?_)
  | ((with_reducible refine CallK_id ?_); refine zcF ?_; refine ⟨_, by first | exact hr | exact hk0 | exact hsg | exact hk1 | fail, fun _ => rfl, fun _ => rfl, rfl, ?_⟩; try refine zS ?_)
  | exact True.intro
  | fail
  all_goals first | rfl | (simp [go_sem]; done) | trace_state
include hl0 hx hy htx in
theorem pxN (row : Int) (hr : AFn env 60 [t.a] [] (aI row) []) (h8 : row ≠ 8) (h3 : row ≠ 3) (h7 : row ≠ 7) (h4 : row ≠ 4) (hrow : 1 ≤ row ∧ row ≤ 8) (ho : t.op ≠ 4) (hl : 2 ≤ t.kids.length) (hsg : AFn env 62 [aI t.op] [] (aS tx) [])
    (hk0 : AFn env 61 [(gt t.kids 0).a, aI row] [] (aS x) []) (hk1 : AFn env 61 [(gt t.kids 1).a, aI (row + 1)] [] (aS y) []) : AFn env 32 [t.a] [] (aS (x ++ (32 :: (tx ++ (32 :: y))))) [] := by
  have e1 : (x ++ [32]).length < 20000000000 := by simp; omega
  have e2 : (x ++ [32] ++ tx).length < 20000000000 := by simp; omega
  have e3 : (x ++ [32] ++ tx ++ [32]).length < 20000000000 := by simp; omega
  refine afn_body Tryd.func32 rfl (by decide) ?_
  simp only [Tryd.ntmps32, Tryd.results32, List.length_cons, List.length_nil, List.cons_append, List.nil_append, Nat.reduceAdd, Nat.reduceSub, List.replicate]
  repeat' first
  | with_reducible refine awp_seq ?_
  | ((with_reducible refine awp_region ?_); refine zS ?_)
  | ((with_reducible refine Gd_nd ?_ ?_) <;> intro hb hb2 <;> first | contradiction | (exfalso; omega) | (refine zH hb2 ?_; try clear hb2))
  | ((with_reducible refine Gd_nb ?_ ?_) <;> intro hb <;> first | contradiction | refine zH hb ?_)
  | ((with_reducible refine Gd_d ?_ ?_) <;> intro hb hb2 <;> first | contradiction | (exfalso; omega) | (refine zH hb2 ?_; try clear hb2))
  | ((with_reducible refine Gd_b ?_ ?_) <;> intro hb <;> first | contradiction | refine zH hb ?_)
  | ((with_reducible refine Res_id ?_); refine zS ?_)
  | ((with_reducible refine awp_drawnC ?_ ?_); rfl; refine zS ?_)
  | ((with_reducible refine awp_drawnA ?_ ?_); rfl; refine zS ?_)
  | ((with_reducible refine CGd_nd ?_ ?_) <;> intro hb hb2 <;> first | contradiction | (exfalso; omega) | (refine zH hb2 ?_; try clear hb2))
  | ((with_reducible refine CGd_nb ?_ ?_) <;> intro hb <;> first | contradiction | refine zH hb ?_)
  | ((with_reducible refine CGd_d ?_ ?_) <;> intro hb hb2 <;> first | contradiction | (exfalso; omega) | (refine zH hb2 ?_; try clear hb2))
  | ((with_reducible refine CGd_b ?_ ?_) <;> intro hb <;> first | contradiction | refine zH hb ?_)
  | ((with_reducible refine CRes_id ?_); refine zS ?_)
  | ((with_reducible refine DStep_id ?_); refine zdP ?_; refine ⟨_, by first | exact hr | exact hk0 | exact hsg | exact hk1 | fail, fun _ => rfl, fun _ => rfl, rfl, (fun h => by first | cases h | fail), ?_⟩; try refine zS ?_)
  | ((with_reducible refine DStep_id ?_); refine zdW ?_; refine ⟨_, by first | exact hr | exact hk0 | exact hsg | exact hk1 | fail, fun _ => rfl, fun _ => rfl, rfl, ?_⟩; try refine zS ?_)
  | ((with_reducible refine AWP_c ?_); refine zcdT ?_)
  | ((with_reducible refine AWP_c ?_); refine zcdF ?_)
  | ((with_reducible refine AWP_c ?_); refine zcdN ?_ ?_ <;> intro hb hb2 <;> first | contradiction | (exfalso; omega) | ((try refine zH hb2 ?_); try clear hb2))
  | ((with_reducible refine AWP_c ?_); refine zcdD ?_ ?_ <;> intro hb hb2 <;> first | contradiction | (exfalso; omega) | ((try refine zH hb2 ?_); try clear hb2))
  | ((with_reducible refine AWP_c ?_); refine zcdM ?_ ?_ <;> intro hb <;> first | contradiction | (try refine zH hb ?_))
  | ((with_reducible refine AWP_c ?_); refine zcdB ?_ ?_ <;> intro hb <;> first | contradiction | (try refine zH hb ?_))
  | ((with_reducible refine awp_ret ?_); refine fin_r ?_)
  | ((with_reducible refine awp_ret ?_); refine fin_q ?_ ?_)
  | with_reducible refine fin_qn ?_ ?_
  | ((with_reducible refine awp_skip ?_); refine zS ?_)
  | with_reducible refine awp_block ?_
  | ((with_reducible refine awp_exit ?_); refine zS ?_)
  | ((with_reducible refine CallK_id ?_); refine zcF ?_; refine ⟨_, by first | exact hr | exact hk0 | exact hsg | exact hk1 | fail, fun _ => rfl, fun _ => rfl, rfl, ?_⟩; try refine zS ?_)
  | exact True.intro
  | fail
  all_goals first | rfl | (simp [go_sem]; done) | trace_state
end
def P32 (n : Nat) : Prop := ∀ t : T, shapedF t = true → t.size ≤ n → t.size < 4611686018427387904 → (wrF n t).length < 10000000000 → AFn env 32 [t.a] [] (aS (wrF n t)) []
theorem kidR_ok (t : T) (row r : Int) (x : Str) (hx : x.length < 10000000000) (hr : AFn env 60 [t.a] [] (aI row) []) (hp : AFn env 32 [t.a] [] (aS x) []) : AFn env 61 [t.a, aI r] [] (aS (if row ≥ r then x else 40 :: (x ++ [41]))) [] := by
  refine afn_body Tryd.func61 rfl (by decide) ?_
  simp only [Tryd.ntmps61, Tryd.results61, List.length_cons, List.length_nil, List.cons_append, List.nil_append, Nat.reduceAdd, Nat.reduceSub, List.replicate]
  repeat' first
  | with_reducible refine awp_seq ?_
  | ((with_reducible refine awp_region ?_); refine zS ?_)
  | ((with_reducible refine Gd_nd ?_ ?_) <;> intro hb hb2 <;> first | contradiction | (exfalso; omega) | (refine zH hb2 ?_; try clear hb2))
  | ((with_reducible refine Gd_nb ?_ ?_) <;> intro hb <;> first | contradiction | refine zH hb ?_)
  | ((with_reducible refine Gd_d ?_ ?_) <;> intro hb hb2 <;> first | contradiction | (exfalso; omega) | (refine zH hb2 ?_; try clear hb2))
  | ((with_reducible refine Gd_b ?_ ?_) <;> intro hb <;> first | contradiction | refine zH hb ?_)
  | ((with_reducible refine Res_id ?_); refine zS ?_)
  | ((with_reducible refine awp_drawnC ?_ ?_); rfl; refine zS ?_)
  | ((with_reducible refine awp_drawnA ?_ ?_); rfl; refine zS ?_)
  | ((with_reducible refine CGd_nd ?_ ?_) <;> intro hb hb2 <;> first | contradiction | (exfalso; omega) | (refine zH hb2 ?_; try clear hb2))
  | ((with_reducible refine CGd_nb ?_ ?_) <;> intro hb <;> first | contradiction | refine zH hb ?_)
  | ((with_reducible refine CGd_d ?_ ?_) <;> intro hb hb2 <;> first | contradiction | (exfalso; omega) | (refine zH hb2 ?_; try clear hb2))
  | ((with_reducible refine CGd_b ?_ ?_) <;> intro hb <;> first | contradiction | refine zH hb ?_)
  | ((with_reducible refine CRes_id ?_); refine zS ?_)
  | ((with_reducible refine DStep_id ?_); refine zdP ?_; refine ⟨_, by first | exact hr | exact hp | fail, fun _ => rfl, fun _ => rfl, rfl, (fun h => by first | cases h | fail), ?_⟩; try refine zS ?_)
  | ((with_reducible refine DStep_id ?_); refine zdW ?_; refine ⟨_, by first | exact hr | exact hp | fail, fun _ => rfl, fun _ => rfl, rfl, ?_⟩; try refine zS ?_)
  | ((with_reducible refine AWP_c ?_); refine zcdT ?_)
  | ((with_reducible refine AWP_c ?_); refine zcdF ?_)
  | ((with_reducible refine AWP_c ?_); refine zcdN ?_ ?_ <;> intro hb hb2 <;> first | contradiction | (exfalso; omega) | ((try refine zH hb2 ?_); try clear hb2))
  | ((with_reducible refine AWP_c ?_); refine zcdD ?_ ?_ <;> intro hb hb2 <;> first | contradiction | (exfalso; omega) | ((try refine zH hb2 ?_); try clear hb2))
  | ((with_reducible refine AWP_c ?_); refine zcdM ?_ ?_ <;> intro hb <;> first | contradiction | (try refine zH hb ?_))
  | ((with_reducible refine AWP_c ?_); refine zcdB ?_ ?_ <;> intro hb <;> first | contradiction | (try refine zH hb ?_))
  | ((with_reducible refine awp_ret ?_); refine fin_r ?_)
  | ((with_reducible refine awp_ret ?_); refine fin_q ?_ ?_)
  | with_reducible refine fin_qn ?_ ?_
  | ((with_reducible refine awp_skip ?_); refine zS ?_)
  | with_reducible refine awp_block ?_
  | ((with_reducible refine awp_exit ?_); refine zS ?_)
  | ((with_reducible refine CallK_id ?_); refine zcF ?_; refine ⟨_, by first | exact hr | exact hp | fail, fun _ => rfl, fun _ => rfl, rfl, ?_⟩; try refine zS ?_)
  | exact True.intro
  | fail
  all_goals first | rfl | (rw [if_neg (by omega)]; done) | (rw [if_pos (by omega)]; done) | trace_state
theorem plainR_ok (n : Nat) : P32 n := by
  induction n with
  | zero => intro t hs hn; have := t.size_eq; omega
  | succ n ih =>
    intro t hs hn hz hb
    have hf := of_facts hs
    have hop := (sh_of hs).op
    have hr := rowOf_ok t (fun h => by have := (sh_len hs).2.1 (.inr h); omega)
    rw [rowOf_val hop] at hr
    have hl0 := t.kids_len
    have hl1 := (gt t.kids 0).kids_len
    have hkid : ∀ k, shapedF k = true → k.size < t.size → ∀ r, (kidF n k r).length < 10000000000 → AFn env 61 [k.a, aI r] [] (aS (kidF n k r)) [] := fun k hs hlt r hb => by
      have hrk := rowOf_ok k (fun h => by have := (sh_len hs).2.1 (.inr h); omega)
      rw [rowOf_val (sh_of hs).op] at hrk
      have hlen : (wrF n k).length ≤ (kidF n k r).length := by rw [kidF]; split <;> simp; omega
      have := kidR_ok k _ r _ (by omega) hrk (ih k hs (by omega) (by omega) (by omega))
      rw [kidF]; exact this
    have hkk : ∀ k, k ∈ t.kids → ∀ r, (kidF n k r).length < 10000000000 → AFn env 61 [k.a, aI r] [] (aS (kidF n k r)) [] := fun k hk => hkid k ((sh_of hs).kids k hk) (T.size_lt hk)
    have hgg : ∀ k, k ∈ (gt t.kids 0).kids → 1 ≤ t.kids.length → ∀ r, (kidF n k r).length < 10000000000 → AFn env 61 [k.a, aI r] [] (aS (kidF n k r)) [] := fun k hk h1 =>
      hkid k ((sh_of ((sh_of hs).kids _ (gt_mem (by omega)))).kids k hk) (by have := T.size_lt hk; have := T.size_lt (gt_mem (l := t.kids) (i := 0) (by omega)); omega)
    have hg1 : 1 ≤ t.kids.length → (gt t.kids 0).size < t.size := fun h => T.size_lt (gt_mem (by omega))
    have hsg : 5 ≤ t.op → AFn env 62 [aI t.op] [] (aS (ofF t).text) [] := fun h => by have := signT_ok t.op (by omega) (by omega); rwa [signT_val (by omega)] at this
    have ho4 : t.op = 4 → (ofF t).row ≠ 3 → (ofF t).deny = true ∧ (ofF t).text = [33, 61] := fun e h => by
      rw [ofF_val hop] at h ⊢
      by_cases h10 : (gt t.kids 0).op = 10 <;> simp [ofX, e, h10] at h ⊢
    have hd4 : (ofF t).deny = true → t.op = 4 := fun h => by
      rw [ofF_val hop] at h
      rcases op14 hop with e | e | e | e | e | e | e | e | e | e | e | e | e | e <;> simp [ofX, e] at h ⊢
    have ho3 : t.op ≤ 3 → (ofF t).row = 8 ∨ (ofF t).row = 7 := fun h => by
      rw [ofF_val hop]
      have : t.op = 1 ∨ t.op = 2 ∨ t.op = 3 := by omega
      rcases this with e | e | e <;> simp [ofX, e]
    have hx8 : (ofF t).row = 8 → t.op = 1 ∨ t.op = 2 := fun h => by
      rw [ofF_val hop] at h
      rcases op14 hop with e | e | e | e | e | e | e | e | e | e | e | e | e | e <;> simp [ofX, e] at h ⊢
      split at h <;> simp at h
    rw [wrF] at hb ⊢
    by_cases h8 : (ofF t).row = 8
    · rw [if_pos h8] at hb ⊢
      have hp3 : plain3 t = (if t.op = 2 then 36 :: digS t.n.toNat else digS t.n.toNat) := by
        rw [plain3_eq]
        rcases hx8 h8 with e | e <;> simp [e]
      rw [← hp3] at hb ⊢
      exact px8 t _ (by rwa [h8] at hr) (plain3R_ok t hs hz hb)
    rw [if_neg h8] at hb ⊢
    by_cases h3 : (ofF t).row = 3
    · rw [if_pos h3] at hb ⊢
      have hl := hf.r3 (.inl h3)
      simp only [List.length_append, List.length_cons, List.length_nil] at hb
      exact px3 t (by omega) _ (by omega) (by rwa [h3] at hr) hl (hkk _ (gt_mem (by omega)) 3 (by omega))
    rw [if_neg h3] at hb ⊢
    by_cases h7 : (ofF t).row = 7
    · rw [if_pos h7] at hb ⊢
      have hl := hf.r3 (.inr h7)
      simp only [List.length_cons] at hb
      exact px7 t (by omega) _ (by omega) (by rwa [h7] at hr) hl (hkk _ (gt_mem (by omega)) 7 (by omega))
    rw [if_neg h7] at hb ⊢
    by_cases hdn : (ofF t).deny = true
    · rw [if_pos hdn] at hb ⊢
      obtain ⟨h4, g2, g3⟩ := hf.dn hdn
      have e4 := hd4 hdn
      simp only [List.length_append, List.length_cons, List.length_nil] at hb
      have hk0 := hgg (gt (gt t.kids 0).kids 0) (gt_mem (by omega)) g2 5 (by omega)
      have hk1 := hgg (gt (gt t.kids 0).kids 1) (gt_mem (by omega)) g2 5 (by omega)
      have := pxD t (by omega) _ _ (by omega) (by omega) (by rwa [h4] at hr) e4 g2 (by have := hg1 g2; omega) g3 hk0 hk1
      rw [(ho4 e4 h3).2]
      simpa only [List.append_assoc, List.cons_append, List.nil_append] using this
    · rw [if_neg hdn] at hb ⊢
      have hl := hf.nd (by simpa using hdn) h8 h3 h7
      have e4 : t.op ≠ 4 := fun e => hdn (ho4 e h3).1
      have e5 : 5 ≤ t.op := by
        rcases Int.lt_or_le t.op 4 with h | h
        · rcases ho3 (by omega) with h | h
          · exact absurd h h8
          · exact absurd h h7
        · omega
      simp only [List.length_append, List.length_cons, List.length_nil] at hb
      by_cases h4 : (ofF t).row = 4
      · simp only [h4, ↓reduceIte, Int.reduceAdd] at hb ⊢
        have := px4 t (by omega) _ _ (ofF t).text (by omega) (by omega) hf.txt (by rwa [h4] at hr) e4 hl (hsg e5) (hkk (gt t.kids 0) (gt_mem (by omega)) 5 (by omega)) (hkk (gt t.kids 1) (gt_mem (by omega)) 5 (by omega))
        simpa only [List.append_assoc, List.cons_append, List.nil_append] using this
      · rw [if_neg h4] at hb ⊢
        have := pxN t (by omega) _ _ (ofF t).text (by omega) (by omega) hf.txt (ofF t).row hr h8 h3 h7 h4 hf.row e4 hl (hsg e5) (hkk (gt t.kids 0) (gt_mem (by omega)) _ (by omega)) (hkk (gt t.kids 1) (gt_mem (by omega)) _ (by omega))
        simpa only [List.append_assoc, List.cons_append, List.nil_append] using this
theorem textR_ok (t : T) (hz : t.size < 4611686018427387904) : AFn env 17 [t.a] [] (.tup [aS (textIF t).1, aI (textIF t).2]) [] := by
  by_cases h0 : (text3F t).2 = 0
  · have hw := text3_0 h0
    refine afn_body Tryd.func17 rfl (by decide) ?_
    simp only [Tryd.ntmps17, Tryd.results17, List.length_cons, List.length_nil, List.cons_append, List.nil_append, Nat.reduceAdd, Nat.reduceSub, List.replicate]
    repeat' first
    | with_reducible refine awp_seq ?_
    | ((with_reducible refine awp_region ?_); refine zS ?_)
    | ((with_reducible refine Gd_nd ?_ ?_) <;> intro hb hb2 <;> first | contradiction | (exfalso; omega) | (refine zH hb2 ?_; try clear hb2))
    | ((with_reducible refine Gd_nb ?_ ?_) <;> intro hb <;> first | contradiction | refine zH hb ?_)
    | ((with_reducible refine Gd_d ?_ ?_) <;> intro hb hb2 <;> first | contradiction | (exfalso; omega) | (refine zH hb2 ?_; try clear hb2))
    | ((with_reducible refine Gd_b ?_ ?_) <;> intro hb <;> first | contradiction | refine zH hb ?_)
    | ((with_reducible refine Res_id ?_); refine zS ?_)
    | ((with_reducible refine awp_drawnC ?_ ?_); rfl; refine zS ?_)
    | ((with_reducible refine awp_drawnA ?_ ?_); rfl; refine zS ?_)
    | ((with_reducible refine CGd_nd ?_ ?_) <;> intro hb hb2 <;> first | contradiction | (exfalso; omega) | (refine zH hb2 ?_; try clear hb2))
    | ((with_reducible refine CGd_nb ?_ ?_) <;> intro hb <;> first | contradiction | refine zH hb ?_)
    | ((with_reducible refine CGd_d ?_ ?_) <;> intro hb hb2 <;> first | contradiction | (exfalso; omega) | (refine zH hb2 ?_; try clear hb2))
    | ((with_reducible refine CGd_b ?_ ?_) <;> intro hb <;> first | contradiction | refine zH hb ?_)
    | ((with_reducible refine CRes_id ?_); refine zS ?_)
    | ((with_reducible refine DStep_id ?_); refine zdP ?_; refine ⟨_, by first | exact text3R_ok t hz | exact plainR_ok t.size t (plain3_top hw).1 (Nat.le_refl _) hz (by have := wr_top t.size hw; omega) | fail, fun _ => rfl, fun _ => rfl, rfl, (fun h => by first | cases h | fail), ?_⟩; try refine zS ?_)
    | ((with_reducible refine DStep_id ?_); refine zdW ?_; refine ⟨_, by first | exact text3R_ok t hz | exact plainR_ok t.size t (plain3_top hw).1 (Nat.le_refl _) hz (by have := wr_top t.size hw; omega) | fail, fun _ => rfl, fun _ => rfl, rfl, ?_⟩; try refine zS ?_)
    | ((with_reducible refine AWP_c ?_); refine zcdT ?_)
    | ((with_reducible refine AWP_c ?_); refine zcdF ?_)
    | ((with_reducible refine AWP_c ?_); refine zcdN ?_ ?_ <;> intro hb hb2 <;> first | contradiction | (exfalso; omega) | ((try refine zH hb2 ?_); try clear hb2))
    | ((with_reducible refine AWP_c ?_); refine zcdD ?_ ?_ <;> intro hb hb2 <;> first | contradiction | (exfalso; omega) | ((try refine zH hb2 ?_); try clear hb2))
    | ((with_reducible refine AWP_c ?_); refine zcdM ?_ ?_ <;> intro hb <;> first | contradiction | (try refine zH hb ?_))
    | ((with_reducible refine AWP_c ?_); refine zcdB ?_ ?_ <;> intro hb <;> first | contradiction | (try refine zH hb ?_))
    | ((with_reducible refine awp_ret ?_); refine fin_r ?_)
    | ((with_reducible refine awp_ret ?_); refine fin_q ?_ ?_)
    | with_reducible refine fin_qn ?_ ?_
    | ((with_reducible refine awp_skip ?_); refine zS ?_)
    | with_reducible refine awp_block ?_
    | ((with_reducible refine awp_exit ?_); refine zS ?_)
    | ((with_reducible refine CallK_id ?_); refine zcF ?_; refine ⟨_, by first | exact text3R_ok t hz | exact plainR_ok t.size t (plain3_top hw).1 (Nat.le_refl _) hz (by have := wr_top t.size hw; omega) | fail, fun _ => rfl, fun _ => rfl, rfl, ?_⟩; try refine zS ?_)
    | exact True.intro
    | fail
    all_goals simp [go_sem, textIF, h0]
  · skip
    refine afn_body Tryd.func17 rfl (by decide) ?_
    simp only [Tryd.ntmps17, Tryd.results17, List.length_cons, List.length_nil, List.cons_append, List.nil_append, Nat.reduceAdd, Nat.reduceSub, List.replicate]
    repeat' first
    | with_reducible refine awp_seq ?_
    | ((with_reducible refine awp_region ?_); refine zS ?_)
    | ((with_reducible refine Gd_nd ?_ ?_) <;> intro hb hb2 <;> first | contradiction | (exfalso; omega) | (refine zH hb2 ?_; try clear hb2))
    | ((with_reducible refine Gd_nb ?_ ?_) <;> intro hb <;> first | contradiction | refine zH hb ?_)
    | ((with_reducible refine Gd_d ?_ ?_) <;> intro hb hb2 <;> first | contradiction | (exfalso; omega) | (refine zH hb2 ?_; try clear hb2))
    | ((with_reducible refine Gd_b ?_ ?_) <;> intro hb <;> first | contradiction | refine zH hb ?_)
    | ((with_reducible refine Res_id ?_); refine zS ?_)
    | ((with_reducible refine awp_drawnC ?_ ?_); rfl; refine zS ?_)
    | ((with_reducible refine awp_drawnA ?_ ?_); rfl; refine zS ?_)
    | ((with_reducible refine CGd_nd ?_ ?_) <;> intro hb hb2 <;> first | contradiction | (exfalso; omega) | (refine zH hb2 ?_; try clear hb2))
    | ((with_reducible refine CGd_nb ?_ ?_) <;> intro hb <;> first | contradiction | refine zH hb ?_)
    | ((with_reducible refine CGd_d ?_ ?_) <;> intro hb hb2 <;> first | contradiction | (exfalso; omega) | (refine zH hb2 ?_; try clear hb2))
    | ((with_reducible refine CGd_b ?_ ?_) <;> intro hb <;> first | contradiction | refine zH hb ?_)
    | ((with_reducible refine CRes_id ?_); refine zS ?_)
    | ((with_reducible refine DStep_id ?_); refine zdP ?_; refine ⟨_, by first | exact text3R_ok t hz | exact plainR_ok t.size t (plain3_top hw).1 (Nat.le_refl _) hz (by have := wr_top t.size hw; omega) | fail, fun _ => rfl, fun _ => rfl, rfl, (fun h => by first | cases h | fail), ?_⟩; try refine zS ?_)
    | ((with_reducible refine DStep_id ?_); refine zdW ?_; refine ⟨_, by first | exact text3R_ok t hz | exact plainR_ok t.size t (plain3_top hw).1 (Nat.le_refl _) hz (by have := wr_top t.size hw; omega) | fail, fun _ => rfl, fun _ => rfl, rfl, ?_⟩; try refine zS ?_)
    | ((with_reducible refine AWP_c ?_); refine zcdT ?_)
    | ((with_reducible refine AWP_c ?_); refine zcdF ?_)
    | ((with_reducible refine AWP_c ?_); refine zcdN ?_ ?_ <;> intro hb hb2 <;> first | contradiction | (exfalso; omega) | ((try refine zH hb2 ?_); try clear hb2))
    | ((with_reducible refine AWP_c ?_); refine zcdD ?_ ?_ <;> intro hb hb2 <;> first | contradiction | (exfalso; omega) | ((try refine zH hb2 ?_); try clear hb2))
    | ((with_reducible refine AWP_c ?_); refine zcdM ?_ ?_ <;> intro hb <;> first | contradiction | (try refine zH hb ?_))
    | ((with_reducible refine AWP_c ?_); refine zcdB ?_ ?_ <;> intro hb <;> first | contradiction | (try refine zH hb ?_))
    | ((with_reducible refine awp_ret ?_); refine fin_r ?_)
    | ((with_reducible refine awp_ret ?_); refine fin_q ?_ ?_)
    | with_reducible refine fin_qn ?_ ?_
    | ((with_reducible refine awp_skip ?_); refine zS ?_)
    | with_reducible refine awp_block ?_
    | ((with_reducible refine awp_exit ?_); refine zS ?_)
    | ((with_reducible refine CallK_id ?_); refine zcF ?_; refine ⟨_, by first | exact text3R_ok t hz | exact plainR_ok t.size t (plain3_top hw).1 (Nat.le_refl _) hz (by have := wr_top t.size hw; omega) | fail, fun _ => rfl, fun _ => rfl, rfl, ?_⟩; try refine zS ?_)
    | exact True.intro
    | fail
    all_goals simp [go_sem, textIF, h0]
    all_goals rfl
end Go.Eng
open Go Go.Proofs
namespace Go.Eng
set_option linter.unusedSimpArgs false
set_option linter.unusedVariables false
set_option maxRecDepth 100000
set_option maxHeartbeats 8000000

structure Gt where
  t : T
  nx : Nat
  bd : Int
def Gt.a (g : Gt) : A := .agg [.d (dI g.t.op), .d (dI g.t.n), .d (.fz (g.t.kids.map T.row)), .d (dI g.nx), .d (dI g.bd)]
attribute [go_sem] Gt.a
def badG (i : Nat) : Gt := ⟨t0, 0, i⟩
def isG (l : List Tok) (i : Nat) (x : Str) : Bool := decide (i < l.length) && decide ((gt l i).text = x)
def cmpB (x : Str) : Bool := decide (x = [61] ∨ x = [33, 61] ∨ x = [60] ∨ x = [60, 61] ∨ x = [62] ∨ x = [62, 61])
def cmpT (x : Str) (a b : T) : T := if x = [33, 61] then .mk 4 0 [.mk 10 0 [a, b]] else if x = [60] then .mk 11 0 [a, b] else if x = [60, 61] then .mk 12 0 [a, b]
  else if x = [62] then .mk 11 0 [b, a] else if x = [62, 61] then .mk 12 0 [b, a] else .mk 10 0 [a, b]
mutual
def rowG : Nat → List Tok → Nat → Int → Gt
  | 0, _, i, _ => badG i
  | n + 1, l, i, r => if r = 3 then (if isG l i [110, 111, 116] = true then (if 0 ≤ (rowG n l (i + 1) 3).bd then rowG n l (i + 1) 3 else ⟨.mk 4 0 [(rowG n l (i + 1) 3).t], (rowG n l (i + 1) 3).nx, -1⟩) else cmpG n l i)
    else if r = 7 then oneG n l i else loopG n l (rowG n l i (r + 1)) r
def loopG : Nat → List Tok → Gt → Int → Gt
  | 0, _, g, _ => g
  | n + 1, l, g, r => if g.bd < 0 ∧ g.nx < l.length ∧ opF (gt l g.nx).text r ≠ 0 then
      (if 0 ≤ (rowG n l (g.nx + 1) (r + 1)).bd then rowG n l (g.nx + 1) (r + 1) else loopG n l ⟨.mk (opF (gt l g.nx).text r) 0 [g.t, (rowG n l (g.nx + 1) (r + 1)).t], (rowG n l (g.nx + 1) (r + 1)).nx, -1⟩ r)
    else g
def cmpG : Nat → List Tok → Nat → Gt
  | 0, _, i => badG i
  | n + 1, l, i => if 0 ≤ (rowG n l i 5).bd ∨ l.length ≤ (rowG n l i 5).nx then rowG n l i 5 else if cmpB (gt l (rowG n l i 5).nx).text = false then rowG n l i 5
    else if 0 ≤ (rowG n l ((rowG n l i 5).nx + 1) 5).bd then rowG n l ((rowG n l i 5).nx + 1) 5
    else ⟨cmpT (gt l (rowG n l i 5).nx).text (rowG n l i 5).t (rowG n l ((rowG n l i 5).nx + 1) 5).t, (rowG n l ((rowG n l i 5).nx + 1) 5).nx, -1⟩
def oneG : Nat → List Tok → Nat → Gt
  | 0, _, i => badG i
  | n + 1, l, i => if isG l i [45] = true then (if 0 ≤ (oneG n l (i + 1)).bd then oneG n l (i + 1) else ⟨.mk 3 0 [(oneG n l (i + 1)).t], (oneG n l (i + 1)).nx, -1⟩)
    else if isG l i [40] = true then (if 0 ≤ (rowG n l (i + 1) 1).bd then rowG n l (i + 1) 1 else if isG l (rowG n l (i + 1) 1).nx [41] = false then badG (rowG n l (i + 1) 1).nx else ⟨(rowG n l (i + 1) 1).t, (rowG n l (i + 1) 1).nx + 1, -1⟩)
    else if l.length ≤ i ∨ (gt l i).kind > 2 then badG i else ⟨(parse3F (gt l i).text).1, i + 1, -1⟩
end
def InG (l : List Tok) (i : Nat) (g : Gt) : Prop := g.nx ≤ l.length ∧ -1 ≤ g.bd ∧ g.bd ≤ l.length ∧ (g.bd < 0 → i ≤ g.nx)
theorem InG.mono {l : List Tok} {i k : Nat} {g : Gt} (h : InG l i g) (hk : k ≤ i) : InG l k g := ⟨h.1, h.2.1, h.2.2.1, fun e => Nat.le_trans hk (h.2.2.2 e)⟩
theorem inG_bad {l : List Tok} {i k : Nat} (h : i ≤ l.length) : InG l k (badG i) := ⟨Nat.zero_le _, by simp only [badG]; omega, by simp only [badG]; omega, fun e => by simp only [badG] at e; omega⟩
theorem isG_lt {l : List Tok} {i : Nat} {x : Str} (h : isG l i x = true) : i < l.length := by
  simp only [isG, Bool.and_eq_true, decide_eq_true_eq] at h; exact h.1
mutual
theorem rowG_in : ∀ (n : Nat) (l : List Tok) (i : Nat) (r : Int), i ≤ l.length → InG l i (rowG n l i r)
  | 0, l, i, r, h => by rw [rowG]; exact inG_bad h
  | n + 1, l, i, r, h => by
    rw [rowG]
    split
    · split
      · have hi := isG_lt ‹_›
        have h1 := rowG_in n l (i + 1) 3 hi
        split
        · exact h1.mono (by omega)
        · obtain ⟨a, b, c, d⟩ := h1
          exact ⟨a, by simp only; omega, by simp only; omega, fun _ => by have := d (by omega); simp only; omega⟩
      · exact cmpG_in n l i h
    · split
      · exact oneG_in n l i h
      · exact loopG_in n l _ r i (rowG_in n l i (r + 1) h)
theorem loopG_in : ∀ (n : Nat) (l : List Tok) (g : Gt) (r : Int) (i : Nat), InG l i g → InG l i (loopG n l g r)
  | 0, l, g, r, i, h => by rw [loopG]; exact h
  | n + 1, l, g, r, i, h => by
    rw [loopG]
    split
    · rename_i hc
      have h1 := rowG_in n l (g.nx + 1) (r + 1) hc.2.1
      have hi := h.2.2.2 hc.1
      split
      · exact h1.mono (by omega)
      · obtain ⟨a, b, c, d⟩ := h1
        refine loopG_in n l _ r i ⟨a, by simp only; omega, by simp only; omega, fun _ => by have := d (by omega); simp only; omega⟩
    · exact h
theorem cmpG_in : ∀ (n : Nat) (l : List Tok) (i : Nat), i ≤ l.length → InG l i (cmpG n l i)
  | 0, l, i, h => by rw [cmpG]; exact inG_bad h
  | n + 1, l, i, h => by
    rw [cmpG]
    have h0 := rowG_in n l i 5 h
    split
    · exact h0
    · rename_i hc
      split
      · exact h0
      · have hi := h0.2.2.2 (by omega)
        have h1 := rowG_in n l ((rowG n l i 5).nx + 1) 5 (by omega)
        split
        · exact h1.mono (by omega)
        · obtain ⟨a, b, c, d⟩ := h1
          exact ⟨a, by simp only; omega, by simp only; omega, fun _ => by have := d (by omega); simp only; omega⟩
theorem oneG_in : ∀ (n : Nat) (l : List Tok) (i : Nat), i ≤ l.length → InG l i (oneG n l i)
  | 0, l, i, h => by rw [oneG]; exact inG_bad h
  | n + 1, l, i, h => by
    rw [oneG]
    split
    · have hi := isG_lt ‹_›
      have h1 := oneG_in n l (i + 1) hi
      split
      · exact h1.mono (by omega)
      · obtain ⟨a, b, c, d⟩ := h1
        exact ⟨a, by simp only; omega, by simp only; omega, fun _ => by have := d (by omega); simp only; omega⟩
    · split
      · have hi := isG_lt ‹isG l i [40] = true›
        have h1 := rowG_in n l (i + 1) 1 hi
        split
        · exact h1.mono (by omega)
        · obtain ⟨a, b, c, d⟩ := h1
          split
          · exact inG_bad a
          · rename_i hg
            have hg2 := isG_lt (Bool.not_eq_false _ ▸ hg)
            exact ⟨hg2, by simp only; omega, by simp only; omega, fun _ => by have := d (by omega); simp only; omega⟩
      · split
        · exact inG_bad h
        · exact ⟨by simp only; omega, by simp only; omega, by simp only; omega, fun _ => by simp only; omega⟩
end
end Go.Eng
