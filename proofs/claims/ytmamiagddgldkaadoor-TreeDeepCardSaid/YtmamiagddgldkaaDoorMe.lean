/- Each function of the program, walked over plain data: what it comes to, at all arguments. -/
import Derived.Test.YtmamiagddgldkaaDoorMa
import Derived.Test.YtmamiagddgldkaaDoorMd
import Derived.Test.YtmamiagddgldkaaDoorEe
open Go Go.Proofs
namespace Go.Eng
set_option linter.unusedSimpArgs false
set_option linter.unusedVariables false
set_option maxRecDepth 100000
set_option maxHeartbeats 8000000
mutual
def longE : El → Int → Bool
  | .mk _ _ k _, d => if d > 24 ∨ k.length > 64 then true else longEs k (d + 1)
def longEs : List El → Int → Bool
  | [], _ => false
  | t :: l, d => if longE t d = true then true else longEs l d
end
theorem longE_eq (e : El) (d : Int) : longE e d = if d > 24 ∨ e.kids.length > 64 then true else longEs e.kids (d + 1) := by cases e with | mk => rw [longE]; rfl
theorem long_ok (e : El) (d : Int) (hd : 0 ≤ d) (hd2 : d ≤ 25) : AFn env 21 [e.a, aI d] [] (aB (longE e d)) [] := by
  generalize hn : e.size = n
  induction n using Nat.strongRecOn generalizing e d with
  | _ n ih0 =>
    have ih : ∀ k d, k.size < e.size → 0 ≤ d → d ≤ 25 → AFn env 21 [k.a, aI d] [] (aB (longE k d)) [] := fun k d h h2 h3 => ih0 k.size (by omega) k d h2 h3 rfl
    refine afn_body Tryd.func21 rfl (by decide) ?_
    simp only [Tryd.ntmps21, Tryd.results21, List.length_cons, List.length_nil, List.cons_append, List.nil_append, Nat.reduceAdd, Nat.reduceSub, List.replicate]
    repeat' first
    | with_reducible refine awp_seq ?_
    | ((with_reducible refine awp_region ?_); refine zS ?_)
    | ((with_reducible refine Gd_nd ?_ ?_) <;> intro hb hb2 <;> first | contradiction | (exfalso; omega) | (refine zH hb2 ?_; try clear hb2))
    | ((with_reducible refine Gd_nb ?_ ?_) <;> intro hb <;> first | contradiction | refine zH hb ?_)
    | ((with_reducible refine Gd_d ?_ ?_) <;> intro hb hb2 <;> first | contradiction | (exfalso; omega) | (refine zH hb2 ?_; try clear hb2))
    | ((with_reducible refine Gd_b ?_ ?_) <;> intro hb <;> first | contradiction | refine zH hb ?_)
    | ((with_reducible refine Res_id ?_); refine zS ?_)
    | ((with_reducible refine awp_drawnC ?_ ?_); rfl; refine zS ?_)
    | ((with_reducible refine awp_drawnA ?_ ?_); rfl; refine zS ?_)
    | ((with_reducible refine CGd_nd ?_ ?_) <;> intro hb hb2 <;> first | contradiction | (exfalso; omega) | (refine zH hb2 ?_; try clear hb2))
    | ((with_reducible refine CGd_nb ?_ ?_) <;> intro hb <;> first | contradiction | refine zH hb ?_)
    | ((with_reducible refine CGd_d ?_ ?_) <;> intro hb hb2 <;> first | contradiction | (exfalso; omega) | (refine zH hb2 ?_; try clear hb2))
    | ((with_reducible refine CGd_b ?_ ?_) <;> intro hb <;> first | contradiction | refine zH hb ?_)
    | ((with_reducible refine CRes_id ?_); refine zS ?_)
    | ((with_reducible refine DStep_id ?_); refine zdP ?_; refine ⟨_, by first | exact ih (gt e.kids i) _ (El.size_lt (gt_memE (by omega))) (by omega) (by omega) | fail, fun _ => rfl, fun _ => rfl, rfl, (fun h => by first | cases h | fail), ?_⟩; try refine zS ?_)
    | ((with_reducible refine DStep_id ?_); refine zdW ?_; refine ⟨_, by first | exact ih (gt e.kids i) _ (El.size_lt (gt_memE (by omega))) (by omega) (by omega) | fail, fun _ => rfl, fun _ => rfl, rfl, ?_⟩; try refine zS ?_)
    | ((with_reducible refine AWP_c ?_); refine zcdT ?_)
    | ((with_reducible refine AWP_c ?_); refine zcdF ?_)
    | ((with_reducible refine AWP_c ?_); refine zcdN ?_ ?_ <;> intro hb hb2 <;> first | contradiction | (exfalso; omega) | ((try refine zH hb2 ?_); try clear hb2))
    | ((with_reducible refine AWP_c ?_); refine zcdD ?_ ?_ <;> intro hb hb2 <;> first | contradiction | (exfalso; omega) | ((try refine zH hb2 ?_); try clear hb2))
    | ((with_reducible refine AWP_c ?_); refine zcdM ?_ ?_ <;> intro hb <;> first | contradiction | (try refine zH hb ?_))
    | ((with_reducible refine AWP_c ?_); refine zcdB ?_ ?_ <;> intro hb <;> first | contradiction | (try refine zH hb ?_))
    | ((with_reducible refine awp_ret ?_); refine fin_r ?_)
    | ((with_reducible refine awp_ret ?_); refine fin_q ?_ ?_)
    | with_reducible refine fin_qn ?_ ?_
    | ((with_reducible refine awp_skip ?_); refine zS ?_)
    | ((with_reducible refine awp_exit ?_); refine zS ?_)
    | ((with_reducible refine CallK_id ?_); refine zcF ?_; refine ⟨_, by first | exact ih (gt e.kids i) _ (El.size_lt (gt_memE (by omega))) (by omega) (by omega) | fail, fun _ => rfl, fun _ => rfl, rfl, ?_⟩; try refine zS ?_)
    | ((with_reducible refine awp_label ?_); try refine zS ?_)
    | ((with_reducible refine awp_goto ?_); try refine zS ?_)
    | ((with_reducible refine awp_scope0 ?_); try refine zS ?_)
    | exact True.intro
    | fail
    all_goals first
      | (rw [longE_eq, if_pos (by omega)]; done)
      | skip
    refine awp_block ?_
    refine awp_loopT (fun i : Nat => i ≤ e.kids.length ∧ longE e d = longEs (e.kids.drop i) (d + 1)) (fun i => e.kids.length - i) (fun i => [(18, aI i)]) (fun i => [some (.box e.bs)]) 0 ⟨by omega, by rw [longE_eq, if_neg (by omega)]; rfl⟩ (by exact zwl) ?_
    rintro i ⟨h1, h2⟩
    refine zT ?_
    repeat' first
    | with_reducible refine awp_seq ?_
    | ((with_reducible refine awp_region ?_); refine zS ?_)
    | ((with_reducible refine Gd_nd ?_ ?_) <;> intro hb hb2 <;> first | contradiction | (exfalso; omega) | (refine zH hb2 ?_; try clear hb2))
    | ((with_reducible refine Gd_nb ?_ ?_) <;> intro hb <;> first | contradiction | refine zH hb ?_)
    | ((with_reducible refine Gd_d ?_ ?_) <;> intro hb hb2 <;> first | contradiction | (exfalso; omega) | (refine zH hb2 ?_; try clear hb2))
    | ((with_reducible refine Gd_b ?_ ?_) <;> intro hb <;> first | contradiction | refine zH hb ?_)
    | ((with_reducible refine Res_id ?_); refine zS ?_)
    | ((with_reducible refine awp_drawnC ?_ ?_); rfl; refine zS ?_)
    | ((with_reducible refine awp_drawnA ?_ ?_); rfl; refine zS ?_)
    | ((with_reducible refine CGd_nd ?_ ?_) <;> intro hb hb2 <;> first | contradiction | (exfalso; omega) | (refine zH hb2 ?_; try clear hb2))
    | ((with_reducible refine CGd_nb ?_ ?_) <;> intro hb <;> first | contradiction | refine zH hb ?_)
    | ((with_reducible refine CGd_d ?_ ?_) <;> intro hb hb2 <;> first | contradiction | (exfalso; omega) | (refine zH hb2 ?_; try clear hb2))
    | ((with_reducible refine CGd_b ?_ ?_) <;> intro hb <;> first | contradiction | refine zH hb ?_)
    | ((with_reducible refine CRes_id ?_); refine zS ?_)
    | ((with_reducible refine DStep_id ?_); refine zdP ?_; refine ⟨_, by first | exact ih (gt e.kids i) _ (El.size_lt (gt_memE (by omega))) (by omega) (by omega) | fail, fun _ => rfl, fun _ => rfl, rfl, (fun h => by first | cases h | fail), ?_⟩; try refine zS ?_)
    | ((with_reducible refine DStep_id ?_); refine zdW ?_; refine ⟨_, by first | exact ih (gt e.kids i) _ (El.size_lt (gt_memE (by omega))) (by omega) (by omega) | fail, fun _ => rfl, fun _ => rfl, rfl, ?_⟩; try refine zS ?_)
    | ((with_reducible refine AWP_c ?_); refine zcdT ?_)
    | ((with_reducible refine AWP_c ?_); refine zcdF ?_)
    | ((with_reducible refine AWP_c ?_); refine zcdN ?_ ?_ <;> intro hb hb2 <;> first | contradiction | (exfalso; omega) | ((try refine zH hb2 ?_); try clear hb2))
    | ((with_reducible refine AWP_c ?_); refine zcdD ?_ ?_ <;> intro hb hb2 <;> first | contradiction | (exfalso; omega) | ((try refine zH hb2 ?_); try clear hb2))
    | ((with_reducible refine AWP_c ?_); refine zcdM ?_ ?_ <;> intro hb <;> first | contradiction | (try refine zH hb ?_))
    | ((with_reducible refine AWP_c ?_); refine zcdB ?_ ?_ <;> intro hb <;> first | contradiction | (try refine zH hb ?_))
    | ((with_reducible refine awp_ret ?_); refine fin_r ?_)
    | ((with_reducible refine awp_ret ?_); refine fin_q ?_ ?_)
    | with_reducible refine fin_qn ?_ ?_
    | ((with_reducible refine awp_skip ?_); refine zS ?_)
    | with_reducible refine awp_block ?_
    | ((with_reducible refine awp_exit ?_); refine zS ?_)
    | ((with_reducible refine CallK_id ?_); refine zcF ?_; refine ⟨_, by first | exact ih (gt e.kids i) _ (El.size_lt (gt_memE (by omega))) (by omega) (by omega) | fail, fun _ => rfl, fun _ => rfl, rfl, ?_⟩; try refine zS ?_)
    | ((with_reducible refine awp_label ?_); try refine zS ?_)
    | ((with_reducible refine awp_goto ?_); try refine zS ?_)
    | ((with_reducible refine awp_scope0 ?_); try refine zS ?_)
    | exact True.intro
    | fail
    · have hi : i < e.kids.length := by omega
      rw [h2, drop_gtE hi, longEs, if_pos (by assumption)]
    · have hi : i < e.kids.length := by omega
      have hf := ‹longE (gt e.kids i) (d + 1) = false›
      exact ⟨i + 1, ⟨by omega, by rw [h2, drop_gtE hi, longEs, if_neg (by simp [hf])]⟩, by omega, (by exact zwc 1)⟩
    · have hi : i = e.kids.length := by omega
      subst hi
      rw [h2, List.drop_length, longEs]
def Sg := Bool × Str
def addS (z : Bool × Str) (t : Str) : Bool × Str := (true, z.2 ++ t)
mutual
def wrE : El → Bool × Str → Bool × Bool × Str
  | .mk n a k t, z =>
    if (wrM n a).2 ≠ 0 ∨ (t ≠ [] ∧ 0 < k.length) then (false, z)
    else if t = [] ∧ k.length = 0 then (true, addS z (trimS (wrM n a).1 [62] ++ [47, 62]))
    else if (escR t).2 ≠ 0 then (false, z)
    else if (wrEs k (addS z ((wrM n a).1 ++ (escR t).1))).1 = true then (true, addS (wrEs k (addS z ((wrM n a).1 ++ (escR t).1))).2 ([60, 47] ++ n ++ [62])) else (false, (wrEs k (addS z ((wrM n a).1 ++ (escR t).1))).2)
def wrEs : List El → Bool × Str → Bool × Bool × Str
  | [], z => (true, z)
  | t :: l, z => if (wrE t z).1 = true then wrEs l (wrE t z).2 else (false, (wrE t z).2)
end
theorem wrE_eq (e : El) (z : Bool × Str) : wrE e z =
    if (wrM e.name e.ats).2 ≠ 0 ∨ (e.text ≠ [] ∧ 0 < e.kids.length) then (false, z)
    else if e.text = [] ∧ e.kids.length = 0 then (true, addS z (trimS (wrM e.name e.ats).1 [62] ++ [47, 62]))
    else if (escR e.text).2 ≠ 0 then (false, z)
    else if (wrEs e.kids (addS z ((wrM e.name e.ats).1 ++ (escR e.text).1))).1 = true then (true, addS (wrEs e.kids (addS z ((wrM e.name e.ats).1 ++ (escR e.text).1))).2 ([60, 47] ++ e.name ++ [62])) else (false, (wrEs e.kids (addS z ((wrM e.name e.ats).1 ++ (escR e.text).1))).2) := by
  cases e with | mk => rw [wrE]; rfl
theorem isName_len {n : Str} (h : isName n = true) : n.length ≤ 24 := by
  simp only [isName, Bool.and_eq_true, decide_eq_true_eq] at h
  exact h.1.1.2
theorem attsP_len2 : ∀ (ats : List At) (s : Str), (∀ x ∈ ats, x.name.length ≤ 24) → attsP ats = some s → s.length ≤ 28 * At.wts ats
  | [], s, _, h => by simp [attsP] at h; subst h; simp
  | x :: r, s, hn, h => by
    rw [attsP] at h
    cases h1 : escP x.val with
    | none => rw [h1] at h; cases h
    | some e =>
      rw [h1] at h
      cases h2 : attsP r with
      | none => rw [h2] at h; cases h
      | some m =>
        rw [h2] at h
        have h3 := attsP_len2 r m (fun y hy => hn y (by simp [hy])) h2
        have h4 := escP_len _ _ h1
        have h5 := hn x (by simp)
        simp only [Option.map_some, Option.some.injEq] at h
        subst h
        rw [At.wts]
        simp only [List.length_append, List.length_cons, List.length_nil]
        omega
theorem wrM_len (n : Str) (a : List At) : (wrM n a).1.length ≤ 26 + 28 * At.wts a ∧ ((wrM n a).2 = 0 → n.length ≤ 24) := by
  unfold wrM
  split
  · rename_i h
    have hn := isName_len h.1
    have hf := h.2
    simp only [fineAtts, Bool.and_eq_true, List.all_eq_true] at hf
    cases h1 : attsP a with
    | none => simp
    | some s =>
      have := attsP_len2 a s (fun x hx => isName_len (hf.2 x hx)) h1
      simp only [List.length_append, List.length_cons, List.length_nil]
      refine ⟨by omega, fun _ => hn⟩
  · simp
theorem escR_len (t : Str) : (escR t).1.length ≤ 6 * t.length := by
  unfold escR
  cases h : escP t with
  | none => simp
  | some o => exact escP_len _ _ h
theorem trimS_len (s p : Str) : (trimS s p).length ≤ s.length := by
  unfold trimS
  split
  · rw [List.length_take]; omega
  · omega
theorem addS_len (z : Bool × Str) (t : Str) : (addS z t).2.length = z.2.length + t.length := by simp [addS]
mutual
theorem wrE_len : ∀ (e : El) (z : Bool × Str), (wrE e z).2.2.length ≤ z.2.length + 100 * e.wt
  | .mk n a k t, z => by
    rw [wrE, El.wt]
    have h1 := wrM_len n a
    have h2 := escR_len t
    have h3 := trimS_len (wrM n a).1 [62]
    split
    · simp only; omega
    · rename_i hc
      have hn : n.length ≤ 24 := h1.2 (by omega)
      split
      · simp only [addS_len, List.length_append, List.length_cons, List.length_nil]; omega
      · split
        · simp only; omega
        · have h4 := wrEs_len k (addS z ((wrM n a).1 ++ (escR t).1))
          rw [addS_len, List.length_append] at h4
          split
          · simp only [addS_len, List.length_append, List.length_cons, List.length_nil]; omega
          · simp only; omega
theorem wrEs_len : ∀ (l : List El) (z : Bool × Str), (wrEs l z).2.2.length ≤ z.2.length + 100 * El.wts l
  | [], z => by simp [wrEs, El.wts]
  | t :: l, z => by
    rw [wrEs, El.wts]
    have h1 := wrE_len t z
    split
    · have h2 := wrEs_len l (wrE t z).2
      omega
    · simp only; omega
end
theorem escape_all (s : Str) (hs : s.length ≤ 1000000000000) : AFn env 33 [aS s] [] (.tup [aS (escR s).1, aI (escR s).2]) [] := by
  by_cases h : s = []
  · subst h; exact escape0_ok
  · exact escape_ok s hs h
end Go.Eng
open Go Go.Proofs
namespace Go.Eng
set_option linter.unusedSimpArgs false
set_option linter.unusedVariables false
set_option maxRecDepth 100000
set_option maxHeartbeats 8000000
def zE : Option Blk := some (.box [.d (.sc (.string ⟨#[]⟩)), .nils, .nils, .d (.sc (.string ⟨#[]⟩))])
def outE (e : El) (k l : Nat) : Option Blk := some (.box [.d (dS e.name), .own 3 0 k k, .own 4 0 l l, .d (dS e.text)])
def RwA (l : List At) : Option Blk := some (.rows 2 (l.map At.row))
def RwE (l : List El) : Option Blk := some (.rows 4 (l.map El.row))
attribute [go_sem] zE outE RwA RwE
theorem El.wt_eq (e : El) : e.wt = 1 + e.text.length + At.wts e.ats + El.wts e.kids := by cases e with | mk => rw [El.wt]; rfl
theorem El.wts_mem : ∀ {l : List El} {k : El}, k ∈ l → k.wt ≤ El.wts l
  | [], k, h => by simp at h
  | a :: l, k, h => by
    rw [El.wts]
    rcases List.mem_cons.1 h with rfl | h
    · omega
    · have := El.wts_mem h; omega
theorem El.wts_len : ∀ l : List El, l.length ≤ El.wts l
  | [] => by simp
  | a :: l => by rw [El.wts]; have := El.wts_len l; have := a.wt_eq; simp only [List.length_cons]; omega
theorem At.wts_len : ∀ l : List At, l.length ≤ At.wts l
  | [] => by simp
  | a :: l => by rw [At.wts]; have := At.wts_len l; simp only [List.length_cons]; omega
theorem ref_ok (e : El) (hs : e.wt ≤ 1000000) : AFn env 12 [e.a] [] e.a [] := by
  generalize hn : e.size = n
  induction n using Nat.strongRecOn generalizing e with
  | _ n ih0 =>
    have ih : ∀ (k : El), k.size < e.size → k.wt ≤ 1000000 → AFn env 12 [k.a] [] k.a [] := fun k h h2 => ih0 k.size (by omega) k h2 rfl
    have hw := e.wt_eq
    have hkl := El.wts_len e.kids
    have hal := At.wts_len e.ats
    refine afn_body Tryd.func12 rfl (by decide) ?_
    simp only [Tryd.ntmps12, Tryd.results12, List.length_cons, List.length_nil, List.cons_append, List.nil_append, Nat.reduceAdd, Nat.reduceSub, List.replicate]
    repeat' first
    | with_reducible refine awp_seq ?_
    | ((with_reducible refine awp_region ?_); refine zS ?_)
    | ((with_reducible refine Gd_nd ?_ ?_) <;> intro hb hb2 <;> first | contradiction | (exfalso; omega) | (refine zH hb2 ?_; try clear hb2))
    | ((with_reducible refine Gd_nb ?_ ?_) <;> intro hb <;> first | contradiction | refine zH hb ?_)
    | ((with_reducible refine Gd_d ?_ ?_) <;> intro hb hb2 <;> first | contradiction | (exfalso; omega) | (refine zH hb2 ?_; try clear hb2))
    | ((with_reducible refine Gd_b ?_ ?_) <;> intro hb <;> first | contradiction | refine zH hb ?_)
    | ((with_reducible refine Res_id ?_); refine zS ?_)
    | ((with_reducible refine awp_drawnC ?_ ?_); rfl; refine zS ?_)
    | ((with_reducible refine awp_drawnA ?_ ?_); rfl; refine zS ?_)
    | ((with_reducible refine CGd_nd ?_ ?_) <;> intro hb hb2 <;> first | contradiction | (exfalso; omega) | (refine zH hb2 ?_; try clear hb2))
    | ((with_reducible refine CGd_nb ?_ ?_) <;> intro hb <;> first | contradiction | refine zH hb ?_)
    | ((with_reducible refine CGd_d ?_ ?_) <;> intro hb hb2 <;> first | contradiction | (exfalso; omega) | (refine zH hb2 ?_; try clear hb2))
    | ((with_reducible refine CGd_b ?_ ?_) <;> intro hb <;> first | contradiction | refine zH hb ?_)
    | ((with_reducible refine CRes_id ?_); refine zS ?_)
    | ((with_reducible refine DStep_id ?_); refine zdP ?_; refine ⟨_, by first | exact ih (gt e.kids i) (El.size_lt (gt_memE (by omega))) (by have := El.wts_mem (gt_memE (l := e.kids) (i := i) (by omega)); omega) | fail, fun _ => rfl, fun _ => rfl, rfl, (fun h => by first | cases h | fail), ?_⟩; try refine zS ?_)
    | ((with_reducible refine DStep_id ?_); refine zdW ?_; refine ⟨_, by first | exact ih (gt e.kids i) (El.size_lt (gt_memE (by omega))) (by have := El.wts_mem (gt_memE (l := e.kids) (i := i) (by omega)); omega) | fail, fun _ => rfl, fun _ => rfl, rfl, ?_⟩; try refine zS ?_)
    | ((with_reducible refine AWP_c ?_); refine zcdT ?_)
    | ((with_reducible refine AWP_c ?_); refine zcdF ?_)
    | ((with_reducible refine AWP_c ?_); refine zcdN ?_ ?_ <;> intro hb hb2 <;> first | contradiction | (exfalso; omega) | ((try refine zH hb2 ?_); try clear hb2))
    | ((with_reducible refine AWP_c ?_); refine zcdD ?_ ?_ <;> intro hb hb2 <;> first | contradiction | (exfalso; omega) | ((try refine zH hb2 ?_); try clear hb2))
    | ((with_reducible refine AWP_c ?_); refine zcdM ?_ ?_ <;> intro hb <;> first | contradiction | (try refine zH hb ?_))
    | ((with_reducible refine AWP_c ?_); refine zcdB ?_ ?_ <;> intro hb <;> first | contradiction | (try refine zH hb ?_))
    | ((with_reducible refine awp_ret ?_); refine fin_r ?_)
    | ((with_reducible refine awp_ret ?_); refine fin_q ?_ ?_)
    | with_reducible refine fin_qn ?_ ?_
    | ((with_reducible refine awp_skip ?_); refine zS ?_)
    | ((with_reducible refine awp_exit ?_); refine zS ?_)
    | ((with_reducible refine CallK_id ?_); refine zcF ?_; refine ⟨_, by first | exact ih (gt e.kids i) (El.size_lt (gt_memE (by omega))) (by have := El.wts_mem (gt_memE (l := e.kids) (i := i) (by omega)); omega) | fail, fun _ => rfl, fun _ => rfl, rfl, ?_⟩; try refine zS ?_)
    | ((with_reducible refine awp_label ?_); try refine zS ?_)
    | ((with_reducible refine awp_goto ?_); try refine zS ?_)
    | ((with_reducible refine awp_scope0 ?_); try refine zS ?_)
    | exact True.intro
    | fail
    refine awp_wk (wk_virtB none (i := 2) (j := 1) (s := 2) (by decide) rfl rfl) ?_
    refine awp_wk (wk_virtB none (i := 2) (j := 2) (s := 4) (by decide) rfl rfl) ?_
    refine awp_block ?_
    refine awp_loopT (fun i : Nat => i ≤ e.ats.length) (fun i => e.ats.length - i) (fun i => [(16, aI i)]) (fun i => [some (.box e.bs), zE, outE e i 0, RwA (e.ats.take i), RwE []]) 0 (by omega)
      (wk_le (by simp only [go_sem, Bool.not_not, List.mem_singleton, forall_eq, ↓reduceIte, if_pos, rowsAt_map, wrap64, wrapu8, List.getElem?_cons_zero, List.getElem?_cons_succ, Int.reduceToNat, Nat.reduceAdd, Nat.reduceBEq, Bool.or_false, Bool.false_or, Bool.true_or, Nat.reduceSub, Nat.reduceMul, Int.reduceAdd, Int.reduceEq, Int.reduceLT, Int.reduceLE, Int.reduceNeg, Nat.reduceLT, Nat.reduceLeDiff, Nat.reduceEqDiff]; try simp) (by simp only [go_sem, Bool.not_not, List.mem_singleton, forall_eq, ↓reduceIte, if_pos, rowsAt_map, wrap64, wrapu8, List.getElem?_cons_zero, List.getElem?_cons_succ, Int.reduceToNat, Nat.reduceAdd, Nat.reduceBEq, Bool.or_false, Bool.false_or, Bool.true_or, Nat.reduceSub, Nat.reduceMul, Int.reduceAdd, Int.reduceEq, Int.reduceLT, Int.reduceLE, Int.reduceNeg, Nat.reduceLT, Nat.reduceLeDiff, Nat.reduceEqDiff]; simp [go_sem])) ?_
    rintro i h1
    have hlen : (List.take i e.ats).length = i := by simp; omega
    refine zT ?_
    repeat' first
    | with_reducible refine awp_seq ?_
    | ((with_reducible refine awp_region ?_); simp (maxSteps := 500000) (disch := omega) only [go_sem, Bool.not_not, List.mem_singleton, forall_eq, ↓reduceIte, if_pos, rowsAt_map, wrap64, wrapu8, List.getElem?_cons_zero, List.getElem?_cons_succ, Int.reduceToNat, Nat.reduceAdd, Nat.reduceBEq, Bool.or_false, Bool.false_or, Bool.true_or, Nat.reduceSub, Nat.reduceMul, Int.reduceAdd, Int.reduceEq, Int.reduceLT, Int.reduceLE, Int.reduceNeg, Nat.reduceLT, Nat.reduceLeDiff, Nat.reduceEqDiff, hlen])
    | ((with_reducible refine Gd_nd ?_ ?_) <;> intro hb hb2 <;> first | contradiction | (exfalso; omega) | (simp (maxSteps := 500000) (disch := omega) only [go_sem, Bool.not_not, List.mem_singleton, forall_eq, ↓reduceIte, if_pos, rowsAt_map, wrap64, wrapu8, List.getElem?_cons_zero, List.getElem?_cons_succ, Int.reduceToNat, Nat.reduceAdd, Nat.reduceBEq, Bool.or_false, Bool.false_or, Bool.true_or, Nat.reduceSub, Nat.reduceMul, Int.reduceAdd, Int.reduceEq, Int.reduceLT, Int.reduceLE, Int.reduceNeg, Nat.reduceLT, Nat.reduceLeDiff, Nat.reduceEqDiff, hlen, hb2]; try clear hb2))
    | ((with_reducible refine Gd_nb ?_ ?_) <;> intro hb <;> first | contradiction | simp (maxSteps := 500000) (disch := omega) only [go_sem, Bool.not_not, List.mem_singleton, forall_eq, ↓reduceIte, if_pos, rowsAt_map, wrap64, wrapu8, List.getElem?_cons_zero, List.getElem?_cons_succ, Int.reduceToNat, Nat.reduceAdd, Nat.reduceBEq, Bool.or_false, Bool.false_or, Bool.true_or, Nat.reduceSub, Nat.reduceMul, Int.reduceAdd, Int.reduceEq, Int.reduceLT, Int.reduceLE, Int.reduceNeg, Nat.reduceLT, Nat.reduceLeDiff, Nat.reduceEqDiff, hlen, hb])
    | ((with_reducible refine Gd_d ?_ ?_) <;> intro hb hb2 <;> first | contradiction | (exfalso; omega) | (simp (maxSteps := 500000) (disch := omega) only [go_sem, Bool.not_not, List.mem_singleton, forall_eq, ↓reduceIte, if_pos, rowsAt_map, wrap64, wrapu8, List.getElem?_cons_zero, List.getElem?_cons_succ, Int.reduceToNat, Nat.reduceAdd, Nat.reduceBEq, Bool.or_false, Bool.false_or, Bool.true_or, Nat.reduceSub, Nat.reduceMul, Int.reduceAdd, Int.reduceEq, Int.reduceLT, Int.reduceLE, Int.reduceNeg, Nat.reduceLT, Nat.reduceLeDiff, Nat.reduceEqDiff, hlen, hb2]; try clear hb2))
    | ((with_reducible refine Gd_b ?_ ?_) <;> intro hb <;> first | contradiction | simp (maxSteps := 500000) (disch := omega) only [go_sem, Bool.not_not, List.mem_singleton, forall_eq, ↓reduceIte, if_pos, rowsAt_map, wrap64, wrapu8, List.getElem?_cons_zero, List.getElem?_cons_succ, Int.reduceToNat, Nat.reduceAdd, Nat.reduceBEq, Bool.or_false, Bool.false_or, Bool.true_or, Nat.reduceSub, Nat.reduceMul, Int.reduceAdd, Int.reduceEq, Int.reduceLT, Int.reduceLE, Int.reduceNeg, Nat.reduceLT, Nat.reduceLeDiff, Nat.reduceEqDiff, hlen, hb])
    | ((with_reducible refine Res_id ?_); simp (maxSteps := 500000) (disch := omega) only [go_sem, Bool.not_not, List.mem_singleton, forall_eq, ↓reduceIte, if_pos, rowsAt_map, wrap64, wrapu8, List.getElem?_cons_zero, List.getElem?_cons_succ, Int.reduceToNat, Nat.reduceAdd, Nat.reduceBEq, Bool.or_false, Bool.false_or, Bool.true_or, Nat.reduceSub, Nat.reduceMul, Int.reduceAdd, Int.reduceEq, Int.reduceLT, Int.reduceLE, Int.reduceNeg, Nat.reduceLT, Nat.reduceLeDiff, Nat.reduceEqDiff, hlen])
    | ((with_reducible refine awp_drawnC ?_ ?_); rfl; simp (maxSteps := 500000) (disch := omega) only [go_sem, Bool.not_not, List.mem_singleton, forall_eq, ↓reduceIte, if_pos, rowsAt_map, wrap64, wrapu8, List.getElem?_cons_zero, List.getElem?_cons_succ, Int.reduceToNat, Nat.reduceAdd, Nat.reduceBEq, Bool.or_false, Bool.false_or, Bool.true_or, Nat.reduceSub, Nat.reduceMul, Int.reduceAdd, Int.reduceEq, Int.reduceLT, Int.reduceLE, Int.reduceNeg, Nat.reduceLT, Nat.reduceLeDiff, Nat.reduceEqDiff, hlen])
    | ((with_reducible refine awp_drawnA ?_ ?_); rfl; simp (maxSteps := 500000) (disch := omega) only [go_sem, Bool.not_not, List.mem_singleton, forall_eq, ↓reduceIte, if_pos, rowsAt_map, wrap64, wrapu8, List.getElem?_cons_zero, List.getElem?_cons_succ, Int.reduceToNat, Nat.reduceAdd, Nat.reduceBEq, Bool.or_false, Bool.false_or, Bool.true_or, Nat.reduceSub, Nat.reduceMul, Int.reduceAdd, Int.reduceEq, Int.reduceLT, Int.reduceLE, Int.reduceNeg, Nat.reduceLT, Nat.reduceLeDiff, Nat.reduceEqDiff, hlen])
    | ((with_reducible refine CGd_nd ?_ ?_) <;> intro hb hb2 <;> first | contradiction | (exfalso; omega) | (simp (maxSteps := 500000) (disch := omega) only [go_sem, Bool.not_not, List.mem_singleton, forall_eq, ↓reduceIte, if_pos, rowsAt_map, wrap64, wrapu8, List.getElem?_cons_zero, List.getElem?_cons_succ, Int.reduceToNat, Nat.reduceAdd, Nat.reduceBEq, Bool.or_false, Bool.false_or, Bool.true_or, Nat.reduceSub, Nat.reduceMul, Int.reduceAdd, Int.reduceEq, Int.reduceLT, Int.reduceLE, Int.reduceNeg, Nat.reduceLT, Nat.reduceLeDiff, Nat.reduceEqDiff, hlen, hb2]; try clear hb2))
    | ((with_reducible refine CGd_nb ?_ ?_) <;> intro hb <;> first | contradiction | simp (maxSteps := 500000) (disch := omega) only [go_sem, Bool.not_not, List.mem_singleton, forall_eq, ↓reduceIte, if_pos, rowsAt_map, wrap64, wrapu8, List.getElem?_cons_zero, List.getElem?_cons_succ, Int.reduceToNat, Nat.reduceAdd, Nat.reduceBEq, Bool.or_false, Bool.false_or, Bool.true_or, Nat.reduceSub, Nat.reduceMul, Int.reduceAdd, Int.reduceEq, Int.reduceLT, Int.reduceLE, Int.reduceNeg, Nat.reduceLT, Nat.reduceLeDiff, Nat.reduceEqDiff, hlen, hb])
    | ((with_reducible refine CGd_d ?_ ?_) <;> intro hb hb2 <;> first | contradiction | (exfalso; omega) | (simp (maxSteps := 500000) (disch := omega) only [go_sem, Bool.not_not, List.mem_singleton, forall_eq, ↓reduceIte, if_pos, rowsAt_map, wrap64, wrapu8, List.getElem?_cons_zero, List.getElem?_cons_succ, Int.reduceToNat, Nat.reduceAdd, Nat.reduceBEq, Bool.or_false, Bool.false_or, Bool.true_or, Nat.reduceSub, Nat.reduceMul, Int.reduceAdd, Int.reduceEq, Int.reduceLT, Int.reduceLE, Int.reduceNeg, Nat.reduceLT, Nat.reduceLeDiff, Nat.reduceEqDiff, hlen, hb2]; try clear hb2))
    | ((with_reducible refine CGd_b ?_ ?_) <;> intro hb <;> first | contradiction | simp (maxSteps := 500000) (disch := omega) only [go_sem, Bool.not_not, List.mem_singleton, forall_eq, ↓reduceIte, if_pos, rowsAt_map, wrap64, wrapu8, List.getElem?_cons_zero, List.getElem?_cons_succ, Int.reduceToNat, Nat.reduceAdd, Nat.reduceBEq, Bool.or_false, Bool.false_or, Bool.true_or, Nat.reduceSub, Nat.reduceMul, Int.reduceAdd, Int.reduceEq, Int.reduceLT, Int.reduceLE, Int.reduceNeg, Nat.reduceLT, Nat.reduceLeDiff, Nat.reduceEqDiff, hlen, hb])
    | ((with_reducible refine CRes_id ?_); simp (maxSteps := 500000) (disch := omega) only [go_sem, Bool.not_not, List.mem_singleton, forall_eq, ↓reduceIte, if_pos, rowsAt_map, wrap64, wrapu8, List.getElem?_cons_zero, List.getElem?_cons_succ, Int.reduceToNat, Nat.reduceAdd, Nat.reduceBEq, Bool.or_false, Bool.false_or, Bool.true_or, Nat.reduceSub, Nat.reduceMul, Int.reduceAdd, Int.reduceEq, Int.reduceLT, Int.reduceLE, Int.reduceNeg, Nat.reduceLT, Nat.reduceLeDiff, Nat.reduceEqDiff, hlen])
    | ((with_reducible refine DStep_id ?_); refine dcallP ⟨_, rfl⟩ rfl (by simp (maxSteps := 500000) (disch := omega) only [go_sem, Bool.not_not, List.mem_singleton, forall_eq, ↓reduceIte, if_pos, rowsAt_map, wrap64, wrapu8, List.getElem?_cons_zero, List.getElem?_cons_succ, Int.reduceToNat, Nat.reduceAdd, Nat.reduceBEq, Bool.or_false, Bool.false_or, Bool.true_or, Nat.reduceSub, Nat.reduceMul, Int.reduceAdd, Int.reduceEq, Int.reduceLT, Int.reduceLE, Int.reduceNeg, Nat.reduceLT, Nat.reduceLeDiff, Nat.reduceEqDiff, hlen]; first | done | rfl | fail) ?_; refine ⟨_, by first | exact ih (gt e.kids i) (El.size_lt (gt_memE (by omega))) (by have := El.wts_mem (gt_memE (l := e.kids) (i := i) (by omega)); omega) | fail, ?_⟩; refine ⟨fun _ => rfl, fun _ => rfl, rfl, (fun h => by first | cases h | fail), ?_⟩; try simp (maxSteps := 500000) (disch := omega) only [go_sem, Bool.not_not, List.mem_singleton, forall_eq, ↓reduceIte, if_pos, rowsAt_map, wrap64, wrapu8, List.getElem?_cons_zero, List.getElem?_cons_succ, Int.reduceToNat, Nat.reduceAdd, Nat.reduceBEq, Bool.or_false, Bool.false_or, Bool.true_or, Nat.reduceSub, Nat.reduceMul, Int.reduceAdd, Int.reduceEq, Int.reduceLT, Int.reduceLE, Int.reduceNeg, Nat.reduceLT, Nat.reduceLeDiff, Nat.reduceEqDiff, hlen])
    | ((with_reducible refine DStep_id ?_); refine dcallPw ⟨_, rfl⟩ rfl (by simp (maxSteps := 500000) (disch := omega) only [go_sem, Bool.not_not, List.mem_singleton, forall_eq, ↓reduceIte, if_pos, rowsAt_map, wrap64, wrapu8, List.getElem?_cons_zero, List.getElem?_cons_succ, Int.reduceToNat, Nat.reduceAdd, Nat.reduceBEq, Bool.or_false, Bool.false_or, Bool.true_or, Nat.reduceSub, Nat.reduceMul, Int.reduceAdd, Int.reduceEq, Int.reduceLT, Int.reduceLE, Int.reduceNeg, Nat.reduceLT, Nat.reduceLeDiff, Nat.reduceEqDiff, hlen]; first | done | rfl | fail) ?_; refine ⟨_, by first | exact ih (gt e.kids i) (El.size_lt (gt_memE (by omega))) (by have := El.wts_mem (gt_memE (l := e.kids) (i := i) (by omega)); omega) | fail, ?_⟩; refine ⟨fun _ => rfl, fun _ => rfl, rfl, ?_⟩; try simp (maxSteps := 500000) (disch := omega) only [go_sem, Bool.not_not, List.mem_singleton, forall_eq, ↓reduceIte, if_pos, rowsAt_map, wrap64, wrapu8, List.getElem?_cons_zero, List.getElem?_cons_succ, Int.reduceToNat, Nat.reduceAdd, Nat.reduceBEq, Bool.or_false, Bool.false_or, Bool.true_or, Nat.reduceSub, Nat.reduceMul, Int.reduceAdd, Int.reduceEq, Int.reduceLT, Int.reduceLE, Int.reduceNeg, Nat.reduceLT, Nat.reduceLeDiff, Nat.reduceEqDiff, hlen])
    | ((with_reducible refine AWP_c ?_); refine awp_cond_t (by simp (maxSteps := 500000) (disch := omega) only [go_sem, Bool.not_not, List.mem_singleton, forall_eq, ↓reduceIte, if_pos, rowsAt_map, wrap64, wrapu8, List.getElem?_cons_zero, List.getElem?_cons_succ, Int.reduceToNat, Nat.reduceAdd, Nat.reduceBEq, Bool.or_false, Bool.false_or, Bool.true_or, Nat.reduceSub, Nat.reduceMul, Int.reduceAdd, Int.reduceEq, Int.reduceLT, Int.reduceLE, Int.reduceNeg, Nat.reduceLT, Nat.reduceLeDiff, Nat.reduceEqDiff, hlen]; first | done | fail) ?_)
    | ((with_reducible refine AWP_c ?_); refine awp_cond_f (by simp (maxSteps := 500000) (disch := omega) only [go_sem, Bool.not_not, List.mem_singleton, forall_eq, ↓reduceIte, if_pos, rowsAt_map, wrap64, wrapu8, List.getElem?_cons_zero, List.getElem?_cons_succ, Int.reduceToNat, Nat.reduceAdd, Nat.reduceBEq, Bool.or_false, Bool.false_or, Bool.true_or, Nat.reduceSub, Nat.reduceMul, Int.reduceAdd, Int.reduceEq, Int.reduceLT, Int.reduceLE, Int.reduceNeg, Nat.reduceLT, Nat.reduceLeDiff, Nat.reduceEqDiff, hlen]; first | done | fail) ?_)
    | ((with_reducible refine AWP_c ?_); refine cond_nd (by simp (maxSteps := 500000) (disch := omega) only [go_sem, Bool.not_not, List.mem_singleton, forall_eq, ↓reduceIte, if_pos, rowsAt_map, wrap64, wrapu8, List.getElem?_cons_zero, List.getElem?_cons_succ, Int.reduceToNat, Nat.reduceAdd, Nat.reduceBEq, Bool.or_false, Bool.false_or, Bool.true_or, Nat.reduceSub, Nat.reduceMul, Int.reduceAdd, Int.reduceEq, Int.reduceLT, Int.reduceLE, Int.reduceNeg, Nat.reduceLT, Nat.reduceLeDiff, Nat.reduceEqDiff, hlen]; first | done | rfl) ?_ ?_ <;> intro hb hb2 <;> first | contradiction | (exfalso; omega) | ((try simp (maxSteps := 500000) (disch := omega) only [go_sem, Bool.not_not, List.mem_singleton, forall_eq, ↓reduceIte, if_pos, rowsAt_map, wrap64, wrapu8, List.getElem?_cons_zero, List.getElem?_cons_succ, Int.reduceToNat, Nat.reduceAdd, Nat.reduceBEq, Bool.or_false, Bool.false_or, Bool.true_or, Nat.reduceSub, Nat.reduceMul, Int.reduceAdd, Int.reduceEq, Int.reduceLT, Int.reduceLE, Int.reduceNeg, Nat.reduceLT, Nat.reduceLeDiff, Nat.reduceEqDiff, hlen, hb2]); try clear hb2))
    | ((with_reducible refine AWP_c ?_); refine cond_d (by simp (maxSteps := 500000) (disch := omega) only [go_sem, Bool.not_not, List.mem_singleton, forall_eq, ↓reduceIte, if_pos, rowsAt_map, wrap64, wrapu8, List.getElem?_cons_zero, List.getElem?_cons_succ, Int.reduceToNat, Nat.reduceAdd, Nat.reduceBEq, Bool.or_false, Bool.false_or, Bool.true_or, Nat.reduceSub, Nat.reduceMul, Int.reduceAdd, Int.reduceEq, Int.reduceLT, Int.reduceLE, Int.reduceNeg, Nat.reduceLT, Nat.reduceLeDiff, Nat.reduceEqDiff, hlen]; first | done | rfl) ?_ ?_ <;> intro hb hb2 <;> first | contradiction | (exfalso; omega) | ((try simp (maxSteps := 500000) (disch := omega) only [go_sem, Bool.not_not, List.mem_singleton, forall_eq, ↓reduceIte, if_pos, rowsAt_map, wrap64, wrapu8, List.getElem?_cons_zero, List.getElem?_cons_succ, Int.reduceToNat, Nat.reduceAdd, Nat.reduceBEq, Bool.or_false, Bool.false_or, Bool.true_or, Nat.reduceSub, Nat.reduceMul, Int.reduceAdd, Int.reduceEq, Int.reduceLT, Int.reduceLE, Int.reduceNeg, Nat.reduceLT, Nat.reduceLeDiff, Nat.reduceEqDiff, hlen, hb2]); try clear hb2))
    | ((with_reducible refine AWP_c ?_); refine cond_nb (by simp (maxSteps := 500000) (disch := omega) only [go_sem, Bool.not_not, List.mem_singleton, forall_eq, ↓reduceIte, if_pos, rowsAt_map, wrap64, wrapu8, List.getElem?_cons_zero, List.getElem?_cons_succ, Int.reduceToNat, Nat.reduceAdd, Nat.reduceBEq, Bool.or_false, Bool.false_or, Bool.true_or, Nat.reduceSub, Nat.reduceMul, Int.reduceAdd, Int.reduceEq, Int.reduceLT, Int.reduceLE, Int.reduceNeg, Nat.reduceLT, Nat.reduceLeDiff, Nat.reduceEqDiff, hlen]; first | done | rfl) ?_ ?_ <;> intro hb <;> first | contradiction | (try simp (maxSteps := 500000) (disch := omega) only [go_sem, Bool.not_not, List.mem_singleton, forall_eq, ↓reduceIte, if_pos, rowsAt_map, wrap64, wrapu8, List.getElem?_cons_zero, List.getElem?_cons_succ, Int.reduceToNat, Nat.reduceAdd, Nat.reduceBEq, Bool.or_false, Bool.false_or, Bool.true_or, Nat.reduceSub, Nat.reduceMul, Int.reduceAdd, Int.reduceEq, Int.reduceLT, Int.reduceLE, Int.reduceNeg, Nat.reduceLT, Nat.reduceLeDiff, Nat.reduceEqDiff, hlen, hb]))
    | ((with_reducible refine AWP_c ?_); refine awp_cond (by simp (maxSteps := 500000) (disch := omega) only [go_sem, Bool.not_not, List.mem_singleton, forall_eq, ↓reduceIte, if_pos, rowsAt_map, wrap64, wrapu8, List.getElem?_cons_zero, List.getElem?_cons_succ, Int.reduceToNat, Nat.reduceAdd, Nat.reduceBEq, Bool.or_false, Bool.false_or, Bool.true_or, Nat.reduceSub, Nat.reduceMul, Int.reduceAdd, Int.reduceEq, Int.reduceLT, Int.reduceLE, Int.reduceNeg, Nat.reduceLT, Nat.reduceLeDiff, Nat.reduceEqDiff, hlen]; first | done | rfl) ?_ ?_ <;> intro hb <;> first | contradiction | (try simp (maxSteps := 500000) (disch := omega) only [go_sem, Bool.not_not, List.mem_singleton, forall_eq, ↓reduceIte, if_pos, rowsAt_map, wrap64, wrapu8, List.getElem?_cons_zero, List.getElem?_cons_succ, Int.reduceToNat, Nat.reduceAdd, Nat.reduceBEq, Bool.or_false, Bool.false_or, Bool.true_or, Nat.reduceSub, Nat.reduceMul, Int.reduceAdd, Int.reduceEq, Int.reduceLT, Int.reduceLE, Int.reduceNeg, Nat.reduceLT, Nat.reduceLeDiff, Nat.reduceEqDiff, hlen, hb]))
    | ((with_reducible refine awp_ret ?_); refine fin_r ?_)
    | ((with_reducible refine awp_ret ?_); refine fin_q ?_ ?_)
    | with_reducible refine fin_qn ?_ ?_
    | ((with_reducible refine awp_skip ?_); simp (maxSteps := 500000) (disch := omega) only [go_sem, Bool.not_not, List.mem_singleton, forall_eq, ↓reduceIte, if_pos, rowsAt_map, wrap64, wrapu8, List.getElem?_cons_zero, List.getElem?_cons_succ, Int.reduceToNat, Nat.reduceAdd, Nat.reduceBEq, Bool.or_false, Bool.false_or, Bool.true_or, Nat.reduceSub, Nat.reduceMul, Int.reduceAdd, Int.reduceEq, Int.reduceLT, Int.reduceLE, Int.reduceNeg, Nat.reduceLT, Nat.reduceLeDiff, Nat.reduceEqDiff, hlen])
    | with_reducible refine awp_block ?_
    | ((with_reducible refine awp_exit ?_); simp (maxSteps := 500000) (disch := omega) only [go_sem, Bool.not_not, List.mem_singleton, forall_eq, ↓reduceIte, if_pos, rowsAt_map, wrap64, wrapu8, List.getElem?_cons_zero, List.getElem?_cons_succ, Int.reduceToNat, Nat.reduceAdd, Nat.reduceBEq, Bool.or_false, Bool.false_or, Bool.true_or, Nat.reduceSub, Nat.reduceMul, Int.reduceAdd, Int.reduceEq, Int.reduceLT, Int.reduceLE, Int.reduceNeg, Nat.reduceLT, Nat.reduceLeDiff, Nat.reduceEqDiff, hlen])
    | ((with_reducible refine CallK_id ?_); refine callF ⟨_, rfl⟩ rfl (by simp (maxSteps := 500000) (disch := omega) only [go_sem, Bool.not_not, List.mem_singleton, forall_eq, ↓reduceIte, if_pos, rowsAt_map, wrap64, wrapu8, List.getElem?_cons_zero, List.getElem?_cons_succ, Int.reduceToNat, Nat.reduceAdd, Nat.reduceBEq, Bool.or_false, Bool.false_or, Bool.true_or, Nat.reduceSub, Nat.reduceMul, Int.reduceAdd, Int.reduceEq, Int.reduceLT, Int.reduceLE, Int.reduceNeg, Nat.reduceLT, Nat.reduceLeDiff, Nat.reduceEqDiff, hlen]; first | done | rfl | fail) ?_; refine ⟨_, by first | exact ih (gt e.kids i) (El.size_lt (gt_memE (by omega))) (by have := El.wts_mem (gt_memE (l := e.kids) (i := i) (by omega)); omega) | fail, ?_⟩; refine ⟨fun _ => rfl, fun _ => rfl, rfl, ?_⟩; try simp (maxSteps := 500000) (disch := omega) only [go_sem, Bool.not_not, List.mem_singleton, forall_eq, ↓reduceIte, if_pos, rowsAt_map, wrap64, wrapu8, List.getElem?_cons_zero, List.getElem?_cons_succ, Int.reduceToNat, Nat.reduceAdd, Nat.reduceBEq, Bool.or_false, Bool.false_or, Bool.true_or, Nat.reduceSub, Nat.reduceMul, Int.reduceAdd, Int.reduceEq, Int.reduceLT, Int.reduceLE, Int.reduceNeg, Nat.reduceLT, Nat.reduceLeDiff, Nat.reduceEqDiff, hlen])
    | fail
    · have hi : i < e.ats.length := by omega
      have htk : e.ats.take (i + 1) = e.ats.take i ++ [gt e.ats i] := take_gtE hi
      exact ⟨i + 1, by omega, by omega, wk_cl 5 (by decide) (by simp) (by simp only [go_sem, Bool.not_not, List.mem_singleton, forall_eq, ↓reduceIte, if_pos, rowsAt_map, wrap64, wrapu8, List.getElem?_cons_zero, List.getElem?_cons_succ, Int.reduceToNat, Nat.reduceAdd, Nat.reduceBEq, Bool.or_false, Bool.false_or, Bool.true_or, Nat.reduceSub, Nat.reduceMul, Int.reduceAdd, Int.reduceEq, Int.reduceLT, Int.reduceLE, Int.reduceNeg, Nat.reduceLT, Nat.reduceLeDiff, Nat.reduceEqDiff]; simp) (by simp only [go_sem, Bool.not_not, List.mem_singleton, forall_eq, ↓reduceIte, if_pos, rowsAt_map, wrap64, wrapu8, List.getElem?_cons_zero, List.getElem?_cons_succ, Int.reduceToNat, Nat.reduceAdd, Nat.reduceBEq, Bool.or_false, Bool.false_or, Bool.true_or, Nat.reduceSub, Nat.reduceMul, Int.reduceAdd, Int.reduceEq, Int.reduceLT, Int.reduceLE, Int.reduceNeg, Nat.reduceLT, Nat.reduceLeDiff, Nat.reduceEqDiff, htk, List.map_append])⟩
    have hi : i = e.ats.length := by omega
    subst hi
    simp only [List.take_length]
    refine awp_loopT (fun i : Nat => i ≤ e.kids.length) (fun i => e.kids.length - i) (fun i => [(34, aI i)]) (fun i => [some (.box e.bs), zE, outE e e.ats.length i, RwA e.ats, RwE (e.kids.take i)]) 0 (by omega)
      (wk_le (by simp only [go_sem, Bool.not_not, List.mem_singleton, forall_eq, ↓reduceIte, if_pos, rowsAt_map, wrap64, wrapu8, List.getElem?_cons_zero, List.getElem?_cons_succ, Int.reduceToNat, Nat.reduceAdd, Nat.reduceBEq, Bool.or_false, Bool.false_or, Bool.true_or, Nat.reduceSub, Nat.reduceMul, Int.reduceAdd, Int.reduceEq, Int.reduceLT, Int.reduceLE, Int.reduceNeg, Nat.reduceLT, Nat.reduceLeDiff, Nat.reduceEqDiff]; try simp) (by simp only [go_sem, Bool.not_not, List.mem_singleton, forall_eq, ↓reduceIte, if_pos, rowsAt_map, wrap64, wrapu8, List.getElem?_cons_zero, List.getElem?_cons_succ, Int.reduceToNat, Nat.reduceAdd, Nat.reduceBEq, Bool.or_false, Bool.false_or, Bool.true_or, Nat.reduceSub, Nat.reduceMul, Int.reduceAdd, Int.reduceEq, Int.reduceLT, Int.reduceLE, Int.reduceNeg, Nat.reduceLT, Nat.reduceLeDiff, Nat.reduceEqDiff]; simp [go_sem])) ?_
    rintro i h1
    have hlen : (List.take i e.kids).length = i := by simp; omega
    refine zT ?_
    repeat' first
    | with_reducible refine awp_seq ?_
    | ((with_reducible refine awp_region ?_); simp (maxSteps := 500000) (disch := omega) only [go_sem, Bool.not_not, List.mem_singleton, forall_eq, ↓reduceIte, if_pos, rowsAt_map, wrap64, wrapu8, List.getElem?_cons_zero, List.getElem?_cons_succ, Int.reduceToNat, Nat.reduceAdd, Nat.reduceBEq, Bool.or_false, Bool.false_or, Bool.true_or, Nat.reduceSub, Nat.reduceMul, Int.reduceAdd, Int.reduceEq, Int.reduceLT, Int.reduceLE, Int.reduceNeg, Nat.reduceLT, Nat.reduceLeDiff, Nat.reduceEqDiff, hlen])
    | ((with_reducible refine Gd_nd ?_ ?_) <;> intro hb hb2 <;> first | contradiction | (exfalso; omega) | (simp (maxSteps := 500000) (disch := omega) only [go_sem, Bool.not_not, List.mem_singleton, forall_eq, ↓reduceIte, if_pos, rowsAt_map, wrap64, wrapu8, List.getElem?_cons_zero, List.getElem?_cons_succ, Int.reduceToNat, Nat.reduceAdd, Nat.reduceBEq, Bool.or_false, Bool.false_or, Bool.true_or, Nat.reduceSub, Nat.reduceMul, Int.reduceAdd, Int.reduceEq, Int.reduceLT, Int.reduceLE, Int.reduceNeg, Nat.reduceLT, Nat.reduceLeDiff, Nat.reduceEqDiff, hlen, hb2]; try clear hb2))
    | ((with_reducible refine Gd_nb ?_ ?_) <;> intro hb <;> first | contradiction | simp (maxSteps := 500000) (disch := omega) only [go_sem, Bool.not_not, List.mem_singleton, forall_eq, ↓reduceIte, if_pos, rowsAt_map, wrap64, wrapu8, List.getElem?_cons_zero, List.getElem?_cons_succ, Int.reduceToNat, Nat.reduceAdd, Nat.reduceBEq, Bool.or_false, Bool.false_or, Bool.true_or, Nat.reduceSub, Nat.reduceMul, Int.reduceAdd, Int.reduceEq, Int.reduceLT, Int.reduceLE, Int.reduceNeg, Nat.reduceLT, Nat.reduceLeDiff, Nat.reduceEqDiff, hlen, hb])
    | ((with_reducible refine Gd_d ?_ ?_) <;> intro hb hb2 <;> first | contradiction | (exfalso; omega) | (simp (maxSteps := 500000) (disch := omega) only [go_sem, Bool.not_not, List.mem_singleton, forall_eq, ↓reduceIte, if_pos, rowsAt_map, wrap64, wrapu8, List.getElem?_cons_zero, List.getElem?_cons_succ, Int.reduceToNat, Nat.reduceAdd, Nat.reduceBEq, Bool.or_false, Bool.false_or, Bool.true_or, Nat.reduceSub, Nat.reduceMul, Int.reduceAdd, Int.reduceEq, Int.reduceLT, Int.reduceLE, Int.reduceNeg, Nat.reduceLT, Nat.reduceLeDiff, Nat.reduceEqDiff, hlen, hb2]; try clear hb2))
    | ((with_reducible refine Gd_b ?_ ?_) <;> intro hb <;> first | contradiction | simp (maxSteps := 500000) (disch := omega) only [go_sem, Bool.not_not, List.mem_singleton, forall_eq, ↓reduceIte, if_pos, rowsAt_map, wrap64, wrapu8, List.getElem?_cons_zero, List.getElem?_cons_succ, Int.reduceToNat, Nat.reduceAdd, Nat.reduceBEq, Bool.or_false, Bool.false_or, Bool.true_or, Nat.reduceSub, Nat.reduceMul, Int.reduceAdd, Int.reduceEq, Int.reduceLT, Int.reduceLE, Int.reduceNeg, Nat.reduceLT, Nat.reduceLeDiff, Nat.reduceEqDiff, hlen, hb])
    | ((with_reducible refine Res_id ?_); simp (maxSteps := 500000) (disch := omega) only [go_sem, Bool.not_not, List.mem_singleton, forall_eq, ↓reduceIte, if_pos, rowsAt_map, wrap64, wrapu8, List.getElem?_cons_zero, List.getElem?_cons_succ, Int.reduceToNat, Nat.reduceAdd, Nat.reduceBEq, Bool.or_false, Bool.false_or, Bool.true_or, Nat.reduceSub, Nat.reduceMul, Int.reduceAdd, Int.reduceEq, Int.reduceLT, Int.reduceLE, Int.reduceNeg, Nat.reduceLT, Nat.reduceLeDiff, Nat.reduceEqDiff, hlen])
    | ((with_reducible refine awp_drawnC ?_ ?_); rfl; simp (maxSteps := 500000) (disch := omega) only [go_sem, Bool.not_not, List.mem_singleton, forall_eq, ↓reduceIte, if_pos, rowsAt_map, wrap64, wrapu8, List.getElem?_cons_zero, List.getElem?_cons_succ, Int.reduceToNat, Nat.reduceAdd, Nat.reduceBEq, Bool.or_false, Bool.false_or, Bool.true_or, Nat.reduceSub, Nat.reduceMul, Int.reduceAdd, Int.reduceEq, Int.reduceLT, Int.reduceLE, Int.reduceNeg, Nat.reduceLT, Nat.reduceLeDiff, Nat.reduceEqDiff, hlen])
    | ((with_reducible refine awp_drawnA ?_ ?_); rfl; simp (maxSteps := 500000) (disch := omega) only [go_sem, Bool.not_not, List.mem_singleton, forall_eq, ↓reduceIte, if_pos, rowsAt_map, wrap64, wrapu8, List.getElem?_cons_zero, List.getElem?_cons_succ, Int.reduceToNat, Nat.reduceAdd, Nat.reduceBEq, Bool.or_false, Bool.false_or, Bool.true_or, Nat.reduceSub, Nat.reduceMul, Int.reduceAdd, Int.reduceEq, Int.reduceLT, Int.reduceLE, Int.reduceNeg, Nat.reduceLT, Nat.reduceLeDiff, Nat.reduceEqDiff, hlen])
    | ((with_reducible refine CGd_nd ?_ ?_) <;> intro hb hb2 <;> first | contradiction | (exfalso; omega) | (simp (maxSteps := 500000) (disch := omega) only [go_sem, Bool.not_not, List.mem_singleton, forall_eq, ↓reduceIte, if_pos, rowsAt_map, wrap64, wrapu8, List.getElem?_cons_zero, List.getElem?_cons_succ, Int.reduceToNat, Nat.reduceAdd, Nat.reduceBEq, Bool.or_false, Bool.false_or, Bool.true_or, Nat.reduceSub, Nat.reduceMul, Int.reduceAdd, Int.reduceEq, Int.reduceLT, Int.reduceLE, Int.reduceNeg, Nat.reduceLT, Nat.reduceLeDiff, Nat.reduceEqDiff, hlen, hb2]; try clear hb2))
    | ((with_reducible refine CGd_nb ?_ ?_) <;> intro hb <;> first | contradiction | simp (maxSteps := 500000) (disch := omega) only [go_sem, Bool.not_not, List.mem_singleton, forall_eq, ↓reduceIte, if_pos, rowsAt_map, wrap64, wrapu8, List.getElem?_cons_zero, List.getElem?_cons_succ, Int.reduceToNat, Nat.reduceAdd, Nat.reduceBEq, Bool.or_false, Bool.false_or, Bool.true_or, Nat.reduceSub, Nat.reduceMul, Int.reduceAdd, Int.reduceEq, Int.reduceLT, Int.reduceLE, Int.reduceNeg, Nat.reduceLT, Nat.reduceLeDiff, Nat.reduceEqDiff, hlen, hb])
    | ((with_reducible refine CGd_d ?_ ?_) <;> intro hb hb2 <;> first | contradiction | (exfalso; omega) | (simp (maxSteps := 500000) (disch := omega) only [go_sem, Bool.not_not, List.mem_singleton, forall_eq, ↓reduceIte, if_pos, rowsAt_map, wrap64, wrapu8, List.getElem?_cons_zero, List.getElem?_cons_succ, Int.reduceToNat, Nat.reduceAdd, Nat.reduceBEq, Bool.or_false, Bool.false_or, Bool.true_or, Nat.reduceSub, Nat.reduceMul, Int.reduceAdd, Int.reduceEq, Int.reduceLT, Int.reduceLE, Int.reduceNeg, Nat.reduceLT, Nat.reduceLeDiff, Nat.reduceEqDiff, hlen, hb2]; try clear hb2))
    | ((with_reducible refine CGd_b ?_ ?_) <;> intro hb <;> first | contradiction | simp (maxSteps := 500000) (disch := omega) only [go_sem, Bool.not_not, List.mem_singleton, forall_eq, ↓reduceIte, if_pos, rowsAt_map, wrap64, wrapu8, List.getElem?_cons_zero, List.getElem?_cons_succ, Int.reduceToNat, Nat.reduceAdd, Nat.reduceBEq, Bool.or_false, Bool.false_or, Bool.true_or, Nat.reduceSub, Nat.reduceMul, Int.reduceAdd, Int.reduceEq, Int.reduceLT, Int.reduceLE, Int.reduceNeg, Nat.reduceLT, Nat.reduceLeDiff, Nat.reduceEqDiff, hlen, hb])
    | ((with_reducible refine CRes_id ?_); simp (maxSteps := 500000) (disch := omega) only [go_sem, Bool.not_not, List.mem_singleton, forall_eq, ↓reduceIte, if_pos, rowsAt_map, wrap64, wrapu8, List.getElem?_cons_zero, List.getElem?_cons_succ, Int.reduceToNat, Nat.reduceAdd, Nat.reduceBEq, Bool.or_false, Bool.false_or, Bool.true_or, Nat.reduceSub, Nat.reduceMul, Int.reduceAdd, Int.reduceEq, Int.reduceLT, Int.reduceLE, Int.reduceNeg, Nat.reduceLT, Nat.reduceLeDiff, Nat.reduceEqDiff, hlen])
    | ((with_reducible refine DStep_id ?_); refine dcallP ⟨_, rfl⟩ rfl (by simp (maxSteps := 500000) (disch := omega) only [go_sem, Bool.not_not, List.mem_singleton, forall_eq, ↓reduceIte, if_pos, rowsAt_map, wrap64, wrapu8, List.getElem?_cons_zero, List.getElem?_cons_succ, Int.reduceToNat, Nat.reduceAdd, Nat.reduceBEq, Bool.or_false, Bool.false_or, Bool.true_or, Nat.reduceSub, Nat.reduceMul, Int.reduceAdd, Int.reduceEq, Int.reduceLT, Int.reduceLE, Int.reduceNeg, Nat.reduceLT, Nat.reduceLeDiff, Nat.reduceEqDiff, hlen]; first | done | rfl | fail) ?_; refine ⟨_, by first | exact ih (gt e.kids i) (El.size_lt (gt_memE (by omega))) (by have := El.wts_mem (gt_memE (l := e.kids) (i := i) (by omega)); omega) | fail, ?_⟩; refine ⟨fun _ => rfl, fun _ => rfl, rfl, (fun h => by first | cases h | fail), ?_⟩; try simp (maxSteps := 500000) (disch := omega) only [go_sem, Bool.not_not, List.mem_singleton, forall_eq, ↓reduceIte, if_pos, rowsAt_map, wrap64, wrapu8, List.getElem?_cons_zero, List.getElem?_cons_succ, Int.reduceToNat, Nat.reduceAdd, Nat.reduceBEq, Bool.or_false, Bool.false_or, Bool.true_or, Nat.reduceSub, Nat.reduceMul, Int.reduceAdd, Int.reduceEq, Int.reduceLT, Int.reduceLE, Int.reduceNeg, Nat.reduceLT, Nat.reduceLeDiff, Nat.reduceEqDiff, hlen])
    | ((with_reducible refine DStep_id ?_); refine dcallPw ⟨_, rfl⟩ rfl (by simp (maxSteps := 500000) (disch := omega) only [go_sem, Bool.not_not, List.mem_singleton, forall_eq, ↓reduceIte, if_pos, rowsAt_map, wrap64, wrapu8, List.getElem?_cons_zero, List.getElem?_cons_succ, Int.reduceToNat, Nat.reduceAdd, Nat.reduceBEq, Bool.or_false, Bool.false_or, Bool.true_or, Nat.reduceSub, Nat.reduceMul, Int.reduceAdd, Int.reduceEq, Int.reduceLT, Int.reduceLE, Int.reduceNeg, Nat.reduceLT, Nat.reduceLeDiff, Nat.reduceEqDiff, hlen]; first | done | rfl | fail) ?_; refine ⟨_, by first | exact ih (gt e.kids i) (El.size_lt (gt_memE (by omega))) (by have := El.wts_mem (gt_memE (l := e.kids) (i := i) (by omega)); omega) | fail, ?_⟩; refine ⟨fun _ => rfl, fun _ => rfl, rfl, ?_⟩; try simp (maxSteps := 500000) (disch := omega) only [go_sem, Bool.not_not, List.mem_singleton, forall_eq, ↓reduceIte, if_pos, rowsAt_map, wrap64, wrapu8, List.getElem?_cons_zero, List.getElem?_cons_succ, Int.reduceToNat, Nat.reduceAdd, Nat.reduceBEq, Bool.or_false, Bool.false_or, Bool.true_or, Nat.reduceSub, Nat.reduceMul, Int.reduceAdd, Int.reduceEq, Int.reduceLT, Int.reduceLE, Int.reduceNeg, Nat.reduceLT, Nat.reduceLeDiff, Nat.reduceEqDiff, hlen])
    | ((with_reducible refine AWP_c ?_); refine awp_cond_t (by simp (maxSteps := 500000) (disch := omega) only [go_sem, Bool.not_not, List.mem_singleton, forall_eq, ↓reduceIte, if_pos, rowsAt_map, wrap64, wrapu8, List.getElem?_cons_zero, List.getElem?_cons_succ, Int.reduceToNat, Nat.reduceAdd, Nat.reduceBEq, Bool.or_false, Bool.false_or, Bool.true_or, Nat.reduceSub, Nat.reduceMul, Int.reduceAdd, Int.reduceEq, Int.reduceLT, Int.reduceLE, Int.reduceNeg, Nat.reduceLT, Nat.reduceLeDiff, Nat.reduceEqDiff, hlen]; first | done | fail) ?_)
    | ((with_reducible refine AWP_c ?_); refine awp_cond_f (by simp (maxSteps := 500000) (disch := omega) only [go_sem, Bool.not_not, List.mem_singleton, forall_eq, ↓reduceIte, if_pos, rowsAt_map, wrap64, wrapu8, List.getElem?_cons_zero, List.getElem?_cons_succ, Int.reduceToNat, Nat.reduceAdd, Nat.reduceBEq, Bool.or_false, Bool.false_or, Bool.true_or, Nat.reduceSub, Nat.reduceMul, Int.reduceAdd, Int.reduceEq, Int.reduceLT, Int.reduceLE, Int.reduceNeg, Nat.reduceLT, Nat.reduceLeDiff, Nat.reduceEqDiff, hlen]; first | done | fail) ?_)
    | ((with_reducible refine AWP_c ?_); refine cond_nd (by simp (maxSteps := 500000) (disch := omega) only [go_sem, Bool.not_not, List.mem_singleton, forall_eq, ↓reduceIte, if_pos, rowsAt_map, wrap64, wrapu8, List.getElem?_cons_zero, List.getElem?_cons_succ, Int.reduceToNat, Nat.reduceAdd, Nat.reduceBEq, Bool.or_false, Bool.false_or, Bool.true_or, Nat.reduceSub, Nat.reduceMul, Int.reduceAdd, Int.reduceEq, Int.reduceLT, Int.reduceLE, Int.reduceNeg, Nat.reduceLT, Nat.reduceLeDiff, Nat.reduceEqDiff, hlen]; first | done | rfl) ?_ ?_ <;> intro hb hb2 <;> first | contradiction | (exfalso; omega) | ((try simp (maxSteps := 500000) (disch := omega) only [go_sem, Bool.not_not, List.mem_singleton, forall_eq, ↓reduceIte, if_pos, rowsAt_map, wrap64, wrapu8, List.getElem?_cons_zero, List.getElem?_cons_succ, Int.reduceToNat, Nat.reduceAdd, Nat.reduceBEq, Bool.or_false, Bool.false_or, Bool.true_or, Nat.reduceSub, Nat.reduceMul, Int.reduceAdd, Int.reduceEq, Int.reduceLT, Int.reduceLE, Int.reduceNeg, Nat.reduceLT, Nat.reduceLeDiff, Nat.reduceEqDiff, hlen, hb2]); try clear hb2))
    | ((with_reducible refine AWP_c ?_); refine cond_d (by simp (maxSteps := 500000) (disch := omega) only [go_sem, Bool.not_not, List.mem_singleton, forall_eq, ↓reduceIte, if_pos, rowsAt_map, wrap64, wrapu8, List.getElem?_cons_zero, List.getElem?_cons_succ, Int.reduceToNat, Nat.reduceAdd, Nat.reduceBEq, Bool.or_false, Bool.false_or, Bool.true_or, Nat.reduceSub, Nat.reduceMul, Int.reduceAdd, Int.reduceEq, Int.reduceLT, Int.reduceLE, Int.reduceNeg, Nat.reduceLT, Nat.reduceLeDiff, Nat.reduceEqDiff, hlen]; first | done | rfl) ?_ ?_ <;> intro hb hb2 <;> first | contradiction | (exfalso; omega) | ((try simp (maxSteps := 500000) (disch := omega) only [go_sem, Bool.not_not, List.mem_singleton, forall_eq, ↓reduceIte, if_pos, rowsAt_map, wrap64, wrapu8, List.getElem?_cons_zero, List.getElem?_cons_succ, Int.reduceToNat, Nat.reduceAdd, Nat.reduceBEq, Bool.or_false, Bool.false_or, Bool.true_or, Nat.reduceSub, Nat.reduceMul, Int.reduceAdd, Int.reduceEq, Int.reduceLT, Int.reduceLE, Int.reduceNeg, Nat.reduceLT, Nat.reduceLeDiff, Nat.reduceEqDiff, hlen, hb2]); try clear hb2))
    | ((with_reducible refine AWP_c ?_); refine cond_nb (by simp (maxSteps := 500000) (disch := omega) only [go_sem, Bool.not_not, List.mem_singleton, forall_eq, ↓reduceIte, if_pos, rowsAt_map, wrap64, wrapu8, List.getElem?_cons_zero, List.getElem?_cons_succ, Int.reduceToNat, Nat.reduceAdd, Nat.reduceBEq, Bool.or_false, Bool.false_or, Bool.true_or, Nat.reduceSub, Nat.reduceMul, Int.reduceAdd, Int.reduceEq, Int.reduceLT, Int.reduceLE, Int.reduceNeg, Nat.reduceLT, Nat.reduceLeDiff, Nat.reduceEqDiff, hlen]; first | done | rfl) ?_ ?_ <;> intro hb <;> first | contradiction | (try simp (maxSteps := 500000) (disch := omega) only [go_sem, Bool.not_not, List.mem_singleton, forall_eq, ↓reduceIte, if_pos, rowsAt_map, wrap64, wrapu8, List.getElem?_cons_zero, List.getElem?_cons_succ, Int.reduceToNat, Nat.reduceAdd, Nat.reduceBEq, Bool.or_false, Bool.false_or, Bool.true_or, Nat.reduceSub, Nat.reduceMul, Int.reduceAdd, Int.reduceEq, Int.reduceLT, Int.reduceLE, Int.reduceNeg, Nat.reduceLT, Nat.reduceLeDiff, Nat.reduceEqDiff, hlen, hb]))
    | ((with_reducible refine AWP_c ?_); refine awp_cond (by simp (maxSteps := 500000) (disch := omega) only [go_sem, Bool.not_not, List.mem_singleton, forall_eq, ↓reduceIte, if_pos, rowsAt_map, wrap64, wrapu8, List.getElem?_cons_zero, List.getElem?_cons_succ, Int.reduceToNat, Nat.reduceAdd, Nat.reduceBEq, Bool.or_false, Bool.false_or, Bool.true_or, Nat.reduceSub, Nat.reduceMul, Int.reduceAdd, Int.reduceEq, Int.reduceLT, Int.reduceLE, Int.reduceNeg, Nat.reduceLT, Nat.reduceLeDiff, Nat.reduceEqDiff, hlen]; first | done | rfl) ?_ ?_ <;> intro hb <;> first | contradiction | (try simp (maxSteps := 500000) (disch := omega) only [go_sem, Bool.not_not, List.mem_singleton, forall_eq, ↓reduceIte, if_pos, rowsAt_map, wrap64, wrapu8, List.getElem?_cons_zero, List.getElem?_cons_succ, Int.reduceToNat, Nat.reduceAdd, Nat.reduceBEq, Bool.or_false, Bool.false_or, Bool.true_or, Nat.reduceSub, Nat.reduceMul, Int.reduceAdd, Int.reduceEq, Int.reduceLT, Int.reduceLE, Int.reduceNeg, Nat.reduceLT, Nat.reduceLeDiff, Nat.reduceEqDiff, hlen, hb]))
    | ((with_reducible refine awp_ret ?_); refine fin_r ?_)
    | ((with_reducible refine awp_ret ?_); refine fin_q ?_ ?_)
    | with_reducible refine fin_qn ?_ ?_
    | ((with_reducible refine awp_skip ?_); simp (maxSteps := 500000) (disch := omega) only [go_sem, Bool.not_not, List.mem_singleton, forall_eq, ↓reduceIte, if_pos, rowsAt_map, wrap64, wrapu8, List.getElem?_cons_zero, List.getElem?_cons_succ, Int.reduceToNat, Nat.reduceAdd, Nat.reduceBEq, Bool.or_false, Bool.false_or, Bool.true_or, Nat.reduceSub, Nat.reduceMul, Int.reduceAdd, Int.reduceEq, Int.reduceLT, Int.reduceLE, Int.reduceNeg, Nat.reduceLT, Nat.reduceLeDiff, Nat.reduceEqDiff, hlen])
    | with_reducible refine awp_block ?_
    | ((with_reducible refine awp_exit ?_); simp (maxSteps := 500000) (disch := omega) only [go_sem, Bool.not_not, List.mem_singleton, forall_eq, ↓reduceIte, if_pos, rowsAt_map, wrap64, wrapu8, List.getElem?_cons_zero, List.getElem?_cons_succ, Int.reduceToNat, Nat.reduceAdd, Nat.reduceBEq, Bool.or_false, Bool.false_or, Bool.true_or, Nat.reduceSub, Nat.reduceMul, Int.reduceAdd, Int.reduceEq, Int.reduceLT, Int.reduceLE, Int.reduceNeg, Nat.reduceLT, Nat.reduceLeDiff, Nat.reduceEqDiff, hlen])
    | ((with_reducible refine CallK_id ?_); refine callF ⟨_, rfl⟩ rfl (by simp (maxSteps := 500000) (disch := omega) only [go_sem, Bool.not_not, List.mem_singleton, forall_eq, ↓reduceIte, if_pos, rowsAt_map, wrap64, wrapu8, List.getElem?_cons_zero, List.getElem?_cons_succ, Int.reduceToNat, Nat.reduceAdd, Nat.reduceBEq, Bool.or_false, Bool.false_or, Bool.true_or, Nat.reduceSub, Nat.reduceMul, Int.reduceAdd, Int.reduceEq, Int.reduceLT, Int.reduceLE, Int.reduceNeg, Nat.reduceLT, Nat.reduceLeDiff, Nat.reduceEqDiff, hlen]; first | done | rfl | fail) ?_; refine ⟨_, by first | exact ih (gt e.kids i) (El.size_lt (gt_memE (by omega))) (by have := El.wts_mem (gt_memE (l := e.kids) (i := i) (by omega)); omega) | fail, ?_⟩; refine ⟨fun _ => rfl, fun _ => rfl, rfl, ?_⟩; try simp (maxSteps := 500000) (disch := omega) only [go_sem, Bool.not_not, List.mem_singleton, forall_eq, ↓reduceIte, if_pos, rowsAt_map, wrap64, wrapu8, List.getElem?_cons_zero, List.getElem?_cons_succ, Int.reduceToNat, Nat.reduceAdd, Nat.reduceBEq, Bool.or_false, Bool.false_or, Bool.true_or, Nat.reduceSub, Nat.reduceMul, Int.reduceAdd, Int.reduceEq, Int.reduceLT, Int.reduceLE, Int.reduceNeg, Nat.reduceLT, Nat.reduceLeDiff, Nat.reduceEqDiff, hlen])
    | fail
    · refine awp_drawF [false, false, false, false, true] [] rfl ?_
      refine zT ?_
      repeat' first
      | with_reducible refine awp_seq ?_
      | ((with_reducible refine awp_region ?_); simp (maxSteps := 500000) (disch := omega) only [go_sem, Bool.not_not, List.mem_singleton, forall_eq, ↓reduceIte, if_pos, rowsAt_map, wrap64, wrapu8, List.getElem?_cons_zero, List.getElem?_cons_succ, Int.reduceToNat, Nat.reduceAdd, Nat.reduceBEq, Bool.or_false, Bool.false_or, Bool.true_or, Nat.reduceSub, Nat.reduceMul, Int.reduceAdd, Int.reduceEq, Int.reduceLT, Int.reduceLE, Int.reduceNeg, Nat.reduceLT, Nat.reduceLeDiff, Nat.reduceEqDiff, hlen])
      | ((with_reducible refine Gd_nd ?_ ?_) <;> intro hb hb2 <;> first | contradiction | (exfalso; omega) | (simp (maxSteps := 500000) (disch := omega) only [go_sem, Bool.not_not, List.mem_singleton, forall_eq, ↓reduceIte, if_pos, rowsAt_map, wrap64, wrapu8, List.getElem?_cons_zero, List.getElem?_cons_succ, Int.reduceToNat, Nat.reduceAdd, Nat.reduceBEq, Bool.or_false, Bool.false_or, Bool.true_or, Nat.reduceSub, Nat.reduceMul, Int.reduceAdd, Int.reduceEq, Int.reduceLT, Int.reduceLE, Int.reduceNeg, Nat.reduceLT, Nat.reduceLeDiff, Nat.reduceEqDiff, hlen, hb2]; try clear hb2))
      | ((with_reducible refine Gd_nb ?_ ?_) <;> intro hb <;> first | contradiction | simp (maxSteps := 500000) (disch := omega) only [go_sem, Bool.not_not, List.mem_singleton, forall_eq, ↓reduceIte, if_pos, rowsAt_map, wrap64, wrapu8, List.getElem?_cons_zero, List.getElem?_cons_succ, Int.reduceToNat, Nat.reduceAdd, Nat.reduceBEq, Bool.or_false, Bool.false_or, Bool.true_or, Nat.reduceSub, Nat.reduceMul, Int.reduceAdd, Int.reduceEq, Int.reduceLT, Int.reduceLE, Int.reduceNeg, Nat.reduceLT, Nat.reduceLeDiff, Nat.reduceEqDiff, hlen, hb])
      | ((with_reducible refine Gd_d ?_ ?_) <;> intro hb hb2 <;> first | contradiction | (exfalso; omega) | (simp (maxSteps := 500000) (disch := omega) only [go_sem, Bool.not_not, List.mem_singleton, forall_eq, ↓reduceIte, if_pos, rowsAt_map, wrap64, wrapu8, List.getElem?_cons_zero, List.getElem?_cons_succ, Int.reduceToNat, Nat.reduceAdd, Nat.reduceBEq, Bool.or_false, Bool.false_or, Bool.true_or, Nat.reduceSub, Nat.reduceMul, Int.reduceAdd, Int.reduceEq, Int.reduceLT, Int.reduceLE, Int.reduceNeg, Nat.reduceLT, Nat.reduceLeDiff, Nat.reduceEqDiff, hlen, hb2]; try clear hb2))
      | ((with_reducible refine Gd_b ?_ ?_) <;> intro hb <;> first | contradiction | simp (maxSteps := 500000) (disch := omega) only [go_sem, Bool.not_not, List.mem_singleton, forall_eq, ↓reduceIte, if_pos, rowsAt_map, wrap64, wrapu8, List.getElem?_cons_zero, List.getElem?_cons_succ, Int.reduceToNat, Nat.reduceAdd, Nat.reduceBEq, Bool.or_false, Bool.false_or, Bool.true_or, Nat.reduceSub, Nat.reduceMul, Int.reduceAdd, Int.reduceEq, Int.reduceLT, Int.reduceLE, Int.reduceNeg, Nat.reduceLT, Nat.reduceLeDiff, Nat.reduceEqDiff, hlen, hb])
      | ((with_reducible refine Res_id ?_); simp (maxSteps := 500000) (disch := omega) only [go_sem, Bool.not_not, List.mem_singleton, forall_eq, ↓reduceIte, if_pos, rowsAt_map, wrap64, wrapu8, List.getElem?_cons_zero, List.getElem?_cons_succ, Int.reduceToNat, Nat.reduceAdd, Nat.reduceBEq, Bool.or_false, Bool.false_or, Bool.true_or, Nat.reduceSub, Nat.reduceMul, Int.reduceAdd, Int.reduceEq, Int.reduceLT, Int.reduceLE, Int.reduceNeg, Nat.reduceLT, Nat.reduceLeDiff, Nat.reduceEqDiff, hlen])
      | ((with_reducible refine awp_drawnC ?_ ?_); rfl; simp (maxSteps := 500000) (disch := omega) only [go_sem, Bool.not_not, List.mem_singleton, forall_eq, ↓reduceIte, if_pos, rowsAt_map, wrap64, wrapu8, List.getElem?_cons_zero, List.getElem?_cons_succ, Int.reduceToNat, Nat.reduceAdd, Nat.reduceBEq, Bool.or_false, Bool.false_or, Bool.true_or, Nat.reduceSub, Nat.reduceMul, Int.reduceAdd, Int.reduceEq, Int.reduceLT, Int.reduceLE, Int.reduceNeg, Nat.reduceLT, Nat.reduceLeDiff, Nat.reduceEqDiff, hlen])
      | ((with_reducible refine awp_drawnA ?_ ?_); rfl; simp (maxSteps := 500000) (disch := omega) only [go_sem, Bool.not_not, List.mem_singleton, forall_eq, ↓reduceIte, if_pos, rowsAt_map, wrap64, wrapu8, List.getElem?_cons_zero, List.getElem?_cons_succ, Int.reduceToNat, Nat.reduceAdd, Nat.reduceBEq, Bool.or_false, Bool.false_or, Bool.true_or, Nat.reduceSub, Nat.reduceMul, Int.reduceAdd, Int.reduceEq, Int.reduceLT, Int.reduceLE, Int.reduceNeg, Nat.reduceLT, Nat.reduceLeDiff, Nat.reduceEqDiff, hlen])
      | ((with_reducible refine CGd_nd ?_ ?_) <;> intro hb hb2 <;> first | contradiction | (exfalso; omega) | (simp (maxSteps := 500000) (disch := omega) only [go_sem, Bool.not_not, List.mem_singleton, forall_eq, ↓reduceIte, if_pos, rowsAt_map, wrap64, wrapu8, List.getElem?_cons_zero, List.getElem?_cons_succ, Int.reduceToNat, Nat.reduceAdd, Nat.reduceBEq, Bool.or_false, Bool.false_or, Bool.true_or, Nat.reduceSub, Nat.reduceMul, Int.reduceAdd, Int.reduceEq, Int.reduceLT, Int.reduceLE, Int.reduceNeg, Nat.reduceLT, Nat.reduceLeDiff, Nat.reduceEqDiff, hlen, hb2]; try clear hb2))
      | ((with_reducible refine CGd_nb ?_ ?_) <;> intro hb <;> first | contradiction | simp (maxSteps := 500000) (disch := omega) only [go_sem, Bool.not_not, List.mem_singleton, forall_eq, ↓reduceIte, if_pos, rowsAt_map, wrap64, wrapu8, List.getElem?_cons_zero, List.getElem?_cons_succ, Int.reduceToNat, Nat.reduceAdd, Nat.reduceBEq, Bool.or_false, Bool.false_or, Bool.true_or, Nat.reduceSub, Nat.reduceMul, Int.reduceAdd, Int.reduceEq, Int.reduceLT, Int.reduceLE, Int.reduceNeg, Nat.reduceLT, Nat.reduceLeDiff, Nat.reduceEqDiff, hlen, hb])
      | ((with_reducible refine CGd_d ?_ ?_) <;> intro hb hb2 <;> first | contradiction | (exfalso; omega) | (simp (maxSteps := 500000) (disch := omega) only [go_sem, Bool.not_not, List.mem_singleton, forall_eq, ↓reduceIte, if_pos, rowsAt_map, wrap64, wrapu8, List.getElem?_cons_zero, List.getElem?_cons_succ, Int.reduceToNat, Nat.reduceAdd, Nat.reduceBEq, Bool.or_false, Bool.false_or, Bool.true_or, Nat.reduceSub, Nat.reduceMul, Int.reduceAdd, Int.reduceEq, Int.reduceLT, Int.reduceLE, Int.reduceNeg, Nat.reduceLT, Nat.reduceLeDiff, Nat.reduceEqDiff, hlen, hb2]; try clear hb2))
      | ((with_reducible refine CGd_b ?_ ?_) <;> intro hb <;> first | contradiction | simp (maxSteps := 500000) (disch := omega) only [go_sem, Bool.not_not, List.mem_singleton, forall_eq, ↓reduceIte, if_pos, rowsAt_map, wrap64, wrapu8, List.getElem?_cons_zero, List.getElem?_cons_succ, Int.reduceToNat, Nat.reduceAdd, Nat.reduceBEq, Bool.or_false, Bool.false_or, Bool.true_or, Nat.reduceSub, Nat.reduceMul, Int.reduceAdd, Int.reduceEq, Int.reduceLT, Int.reduceLE, Int.reduceNeg, Nat.reduceLT, Nat.reduceLeDiff, Nat.reduceEqDiff, hlen, hb])
      | ((with_reducible refine CRes_id ?_); simp (maxSteps := 500000) (disch := omega) only [go_sem, Bool.not_not, List.mem_singleton, forall_eq, ↓reduceIte, if_pos, rowsAt_map, wrap64, wrapu8, List.getElem?_cons_zero, List.getElem?_cons_succ, Int.reduceToNat, Nat.reduceAdd, Nat.reduceBEq, Bool.or_false, Bool.false_or, Bool.true_or, Nat.reduceSub, Nat.reduceMul, Int.reduceAdd, Int.reduceEq, Int.reduceLT, Int.reduceLE, Int.reduceNeg, Nat.reduceLT, Nat.reduceLeDiff, Nat.reduceEqDiff, hlen])
      | ((with_reducible refine DStep_id ?_); refine dcallP ⟨_, rfl⟩ rfl (by simp (maxSteps := 500000) (disch := omega) only [go_sem, Bool.not_not, List.mem_singleton, forall_eq, ↓reduceIte, if_pos, rowsAt_map, wrap64, wrapu8, List.getElem?_cons_zero, List.getElem?_cons_succ, Int.reduceToNat, Nat.reduceAdd, Nat.reduceBEq, Bool.or_false, Bool.false_or, Bool.true_or, Nat.reduceSub, Nat.reduceMul, Int.reduceAdd, Int.reduceEq, Int.reduceLT, Int.reduceLE, Int.reduceNeg, Nat.reduceLT, Nat.reduceLeDiff, Nat.reduceEqDiff, hlen]; first | done | rfl | fail) ?_; refine ⟨_, by first | exact ih (gt e.kids i) (El.size_lt (gt_memE (by omega))) (by have := El.wts_mem (gt_memE (l := e.kids) (i := i) (by omega)); omega) | fail, ?_⟩; refine ⟨fun _ => rfl, fun _ => rfl, rfl, (fun h => by first | cases h | fail), ?_⟩; try simp (maxSteps := 500000) (disch := omega) only [go_sem, Bool.not_not, List.mem_singleton, forall_eq, ↓reduceIte, if_pos, rowsAt_map, wrap64, wrapu8, List.getElem?_cons_zero, List.getElem?_cons_succ, Int.reduceToNat, Nat.reduceAdd, Nat.reduceBEq, Bool.or_false, Bool.false_or, Bool.true_or, Nat.reduceSub, Nat.reduceMul, Int.reduceAdd, Int.reduceEq, Int.reduceLT, Int.reduceLE, Int.reduceNeg, Nat.reduceLT, Nat.reduceLeDiff, Nat.reduceEqDiff, hlen])
      | ((with_reducible refine DStep_id ?_); refine dcallPw ⟨_, rfl⟩ rfl (by simp (maxSteps := 500000) (disch := omega) only [go_sem, Bool.not_not, List.mem_singleton, forall_eq, ↓reduceIte, if_pos, rowsAt_map, wrap64, wrapu8, List.getElem?_cons_zero, List.getElem?_cons_succ, Int.reduceToNat, Nat.reduceAdd, Nat.reduceBEq, Bool.or_false, Bool.false_or, Bool.true_or, Nat.reduceSub, Nat.reduceMul, Int.reduceAdd, Int.reduceEq, Int.reduceLT, Int.reduceLE, Int.reduceNeg, Nat.reduceLT, Nat.reduceLeDiff, Nat.reduceEqDiff, hlen]; first | done | rfl | fail) ?_; refine ⟨_, by first | exact ih (gt e.kids i) (El.size_lt (gt_memE (by omega))) (by have := El.wts_mem (gt_memE (l := e.kids) (i := i) (by omega)); omega) | fail, ?_⟩; refine ⟨fun _ => rfl, fun _ => rfl, rfl, ?_⟩; try simp (maxSteps := 500000) (disch := omega) only [go_sem, Bool.not_not, List.mem_singleton, forall_eq, ↓reduceIte, if_pos, rowsAt_map, wrap64, wrapu8, List.getElem?_cons_zero, List.getElem?_cons_succ, Int.reduceToNat, Nat.reduceAdd, Nat.reduceBEq, Bool.or_false, Bool.false_or, Bool.true_or, Nat.reduceSub, Nat.reduceMul, Int.reduceAdd, Int.reduceEq, Int.reduceLT, Int.reduceLE, Int.reduceNeg, Nat.reduceLT, Nat.reduceLeDiff, Nat.reduceEqDiff, hlen])
      | ((with_reducible refine AWP_c ?_); refine awp_cond_t (by simp (maxSteps := 500000) (disch := omega) only [go_sem, Bool.not_not, List.mem_singleton, forall_eq, ↓reduceIte, if_pos, rowsAt_map, wrap64, wrapu8, List.getElem?_cons_zero, List.getElem?_cons_succ, Int.reduceToNat, Nat.reduceAdd, Nat.reduceBEq, Bool.or_false, Bool.false_or, Bool.true_or, Nat.reduceSub, Nat.reduceMul, Int.reduceAdd, Int.reduceEq, Int.reduceLT, Int.reduceLE, Int.reduceNeg, Nat.reduceLT, Nat.reduceLeDiff, Nat.reduceEqDiff, hlen]; first | done | fail) ?_)
      | ((with_reducible refine AWP_c ?_); refine awp_cond_f (by simp (maxSteps := 500000) (disch := omega) only [go_sem, Bool.not_not, List.mem_singleton, forall_eq, ↓reduceIte, if_pos, rowsAt_map, wrap64, wrapu8, List.getElem?_cons_zero, List.getElem?_cons_succ, Int.reduceToNat, Nat.reduceAdd, Nat.reduceBEq, Bool.or_false, Bool.false_or, Bool.true_or, Nat.reduceSub, Nat.reduceMul, Int.reduceAdd, Int.reduceEq, Int.reduceLT, Int.reduceLE, Int.reduceNeg, Nat.reduceLT, Nat.reduceLeDiff, Nat.reduceEqDiff, hlen]; first | done | fail) ?_)
      | ((with_reducible refine AWP_c ?_); refine cond_nd (by simp (maxSteps := 500000) (disch := omega) only [go_sem, Bool.not_not, List.mem_singleton, forall_eq, ↓reduceIte, if_pos, rowsAt_map, wrap64, wrapu8, List.getElem?_cons_zero, List.getElem?_cons_succ, Int.reduceToNat, Nat.reduceAdd, Nat.reduceBEq, Bool.or_false, Bool.false_or, Bool.true_or, Nat.reduceSub, Nat.reduceMul, Int.reduceAdd, Int.reduceEq, Int.reduceLT, Int.reduceLE, Int.reduceNeg, Nat.reduceLT, Nat.reduceLeDiff, Nat.reduceEqDiff, hlen]; first | done | rfl) ?_ ?_ <;> intro hb hb2 <;> first | contradiction | (exfalso; omega) | ((try simp (maxSteps := 500000) (disch := omega) only [go_sem, Bool.not_not, List.mem_singleton, forall_eq, ↓reduceIte, if_pos, rowsAt_map, wrap64, wrapu8, List.getElem?_cons_zero, List.getElem?_cons_succ, Int.reduceToNat, Nat.reduceAdd, Nat.reduceBEq, Bool.or_false, Bool.false_or, Bool.true_or, Nat.reduceSub, Nat.reduceMul, Int.reduceAdd, Int.reduceEq, Int.reduceLT, Int.reduceLE, Int.reduceNeg, Nat.reduceLT, Nat.reduceLeDiff, Nat.reduceEqDiff, hlen, hb2]); try clear hb2))
      | ((with_reducible refine AWP_c ?_); refine cond_d (by simp (maxSteps := 500000) (disch := omega) only [go_sem, Bool.not_not, List.mem_singleton, forall_eq, ↓reduceIte, if_pos, rowsAt_map, wrap64, wrapu8, List.getElem?_cons_zero, List.getElem?_cons_succ, Int.reduceToNat, Nat.reduceAdd, Nat.reduceBEq, Bool.or_false, Bool.false_or, Bool.true_or, Nat.reduceSub, Nat.reduceMul, Int.reduceAdd, Int.reduceEq, Int.reduceLT, Int.reduceLE, Int.reduceNeg, Nat.reduceLT, Nat.reduceLeDiff, Nat.reduceEqDiff, hlen]; first | done | rfl) ?_ ?_ <;> intro hb hb2 <;> first | contradiction | (exfalso; omega) | ((try simp (maxSteps := 500000) (disch := omega) only [go_sem, Bool.not_not, List.mem_singleton, forall_eq, ↓reduceIte, if_pos, rowsAt_map, wrap64, wrapu8, List.getElem?_cons_zero, List.getElem?_cons_succ, Int.reduceToNat, Nat.reduceAdd, Nat.reduceBEq, Bool.or_false, Bool.false_or, Bool.true_or, Nat.reduceSub, Nat.reduceMul, Int.reduceAdd, Int.reduceEq, Int.reduceLT, Int.reduceLE, Int.reduceNeg, Nat.reduceLT, Nat.reduceLeDiff, Nat.reduceEqDiff, hlen, hb2]); try clear hb2))
      | ((with_reducible refine AWP_c ?_); refine cond_nb (by simp (maxSteps := 500000) (disch := omega) only [go_sem, Bool.not_not, List.mem_singleton, forall_eq, ↓reduceIte, if_pos, rowsAt_map, wrap64, wrapu8, List.getElem?_cons_zero, List.getElem?_cons_succ, Int.reduceToNat, Nat.reduceAdd, Nat.reduceBEq, Bool.or_false, Bool.false_or, Bool.true_or, Nat.reduceSub, Nat.reduceMul, Int.reduceAdd, Int.reduceEq, Int.reduceLT, Int.reduceLE, Int.reduceNeg, Nat.reduceLT, Nat.reduceLeDiff, Nat.reduceEqDiff, hlen]; first | done | rfl) ?_ ?_ <;> intro hb <;> first | contradiction | (try simp (maxSteps := 500000) (disch := omega) only [go_sem, Bool.not_not, List.mem_singleton, forall_eq, ↓reduceIte, if_pos, rowsAt_map, wrap64, wrapu8, List.getElem?_cons_zero, List.getElem?_cons_succ, Int.reduceToNat, Nat.reduceAdd, Nat.reduceBEq, Bool.or_false, Bool.false_or, Bool.true_or, Nat.reduceSub, Nat.reduceMul, Int.reduceAdd, Int.reduceEq, Int.reduceLT, Int.reduceLE, Int.reduceNeg, Nat.reduceLT, Nat.reduceLeDiff, Nat.reduceEqDiff, hlen, hb]))
      | ((with_reducible refine AWP_c ?_); refine awp_cond (by simp (maxSteps := 500000) (disch := omega) only [go_sem, Bool.not_not, List.mem_singleton, forall_eq, ↓reduceIte, if_pos, rowsAt_map, wrap64, wrapu8, List.getElem?_cons_zero, List.getElem?_cons_succ, Int.reduceToNat, Nat.reduceAdd, Nat.reduceBEq, Bool.or_false, Bool.false_or, Bool.true_or, Nat.reduceSub, Nat.reduceMul, Int.reduceAdd, Int.reduceEq, Int.reduceLT, Int.reduceLE, Int.reduceNeg, Nat.reduceLT, Nat.reduceLeDiff, Nat.reduceEqDiff, hlen]; first | done | rfl) ?_ ?_ <;> intro hb <;> first | contradiction | (try simp (maxSteps := 500000) (disch := omega) only [go_sem, Bool.not_not, List.mem_singleton, forall_eq, ↓reduceIte, if_pos, rowsAt_map, wrap64, wrapu8, List.getElem?_cons_zero, List.getElem?_cons_succ, Int.reduceToNat, Nat.reduceAdd, Nat.reduceBEq, Bool.or_false, Bool.false_or, Bool.true_or, Nat.reduceSub, Nat.reduceMul, Int.reduceAdd, Int.reduceEq, Int.reduceLT, Int.reduceLE, Int.reduceNeg, Nat.reduceLT, Nat.reduceLeDiff, Nat.reduceEqDiff, hlen, hb]))
      | ((with_reducible refine awp_ret ?_); refine fin_r ?_)
      | ((with_reducible refine awp_ret ?_); refine fin_q ?_ ?_)
      | with_reducible refine fin_qn ?_ ?_
      | ((with_reducible refine awp_skip ?_); simp (maxSteps := 500000) (disch := omega) only [go_sem, Bool.not_not, List.mem_singleton, forall_eq, ↓reduceIte, if_pos, rowsAt_map, wrap64, wrapu8, List.getElem?_cons_zero, List.getElem?_cons_succ, Int.reduceToNat, Nat.reduceAdd, Nat.reduceBEq, Bool.or_false, Bool.false_or, Bool.true_or, Nat.reduceSub, Nat.reduceMul, Int.reduceAdd, Int.reduceEq, Int.reduceLT, Int.reduceLE, Int.reduceNeg, Nat.reduceLT, Nat.reduceLeDiff, Nat.reduceEqDiff, hlen])
      | with_reducible refine awp_block ?_
      | ((with_reducible refine awp_exit ?_); simp (maxSteps := 500000) (disch := omega) only [go_sem, Bool.not_not, List.mem_singleton, forall_eq, ↓reduceIte, if_pos, rowsAt_map, wrap64, wrapu8, List.getElem?_cons_zero, List.getElem?_cons_succ, Int.reduceToNat, Nat.reduceAdd, Nat.reduceBEq, Bool.or_false, Bool.false_or, Bool.true_or, Nat.reduceSub, Nat.reduceMul, Int.reduceAdd, Int.reduceEq, Int.reduceLT, Int.reduceLE, Int.reduceNeg, Nat.reduceLT, Nat.reduceLeDiff, Nat.reduceEqDiff, hlen])
      | ((with_reducible refine CallK_id ?_); refine callF ⟨_, rfl⟩ rfl (by simp (maxSteps := 500000) (disch := omega) only [go_sem, Bool.not_not, List.mem_singleton, forall_eq, ↓reduceIte, if_pos, rowsAt_map, wrap64, wrapu8, List.getElem?_cons_zero, List.getElem?_cons_succ, Int.reduceToNat, Nat.reduceAdd, Nat.reduceBEq, Bool.or_false, Bool.false_or, Bool.true_or, Nat.reduceSub, Nat.reduceMul, Int.reduceAdd, Int.reduceEq, Int.reduceLT, Int.reduceLE, Int.reduceNeg, Nat.reduceLT, Nat.reduceLeDiff, Nat.reduceEqDiff, hlen]; first | done | rfl | fail) ?_; refine ⟨_, by first | exact ih (gt e.kids i) (El.size_lt (gt_memE (by omega))) (by have := El.wts_mem (gt_memE (l := e.kids) (i := i) (by omega)); omega) | fail, ?_⟩; refine ⟨fun _ => rfl, fun _ => rfl, rfl, ?_⟩; try simp (maxSteps := 500000) (disch := omega) only [go_sem, Bool.not_not, List.mem_singleton, forall_eq, ↓reduceIte, if_pos, rowsAt_map, wrap64, wrapu8, List.getElem?_cons_zero, List.getElem?_cons_succ, Int.reduceToNat, Nat.reduceAdd, Nat.reduceBEq, Bool.or_false, Bool.false_or, Bool.true_or, Nat.reduceSub, Nat.reduceMul, Int.reduceAdd, Int.reduceEq, Int.reduceLT, Int.reduceLE, Int.reduceNeg, Nat.reduceLT, Nat.reduceLeDiff, Nat.reduceEqDiff, hlen])
      | fail
      have hi : i < e.kids.length := by omega
      have htk : e.kids.take (i + 1) = e.kids.take i ++ [gt e.kids i] := take_gtE hi
      exact ⟨i + 1, by omega, by omega, wk_cl 5 (by decide) (by simp) (by simp only [go_sem, Bool.not_not, List.mem_singleton, forall_eq, ↓reduceIte, if_pos, rowsAt_map, wrap64, wrapu8, List.getElem?_cons_zero, List.getElem?_cons_succ, Int.reduceToNat, Nat.reduceAdd, Nat.reduceBEq, Bool.or_false, Bool.false_or, Bool.true_or, Nat.reduceSub, Nat.reduceMul, Int.reduceAdd, Int.reduceEq, Int.reduceLT, Int.reduceLE, Int.reduceNeg, Nat.reduceLT, Nat.reduceLeDiff, Nat.reduceEqDiff]; simp) (by simp only [go_sem, Bool.not_not, List.mem_singleton, forall_eq, ↓reduceIte, if_pos, rowsAt_map, wrap64, wrapu8, List.getElem?_cons_zero, List.getElem?_cons_succ, Int.reduceToNat, Nat.reduceAdd, Nat.reduceBEq, Bool.or_false, Bool.false_or, Bool.true_or, Nat.reduceSub, Nat.reduceMul, Int.reduceAdd, Int.reduceEq, Int.reduceLT, Int.reduceLE, Int.reduceNeg, Nat.reduceLT, Nat.reduceLeDiff, Nat.reduceEqDiff, htk, List.map_append])⟩
    have hi : i = e.kids.length := by omega
    subst hi
    simp only [List.take_length]
    refine awp_ret ?_
    refine fin_r (r0 := e.a) (H1 := [some (.box e.bs), outE e e.ats.length e.kids.length, outE e e.ats.length e.kids.length, none, none]) rfl (h2 := by simp only [go_sem, Bool.not_not, List.mem_singleton, forall_eq, ↓reduceIte, if_pos, rowsAt_map, wrap64, wrapu8, List.getElem?_cons_zero, List.getElem?_cons_succ, Int.reduceToNat, Nat.reduceAdd, Nat.reduceBEq, Bool.or_false, Bool.false_or, Bool.true_or, Nat.reduceSub, Nat.reduceMul, Int.reduceAdd, Int.reduceEq, Int.reduceLT, Int.reduceLE, Int.reduceNeg, Nat.reduceLT, Nat.reduceLeDiff, Nat.reduceEqDiff, Nat.le_refl, and_self, subR]; done)
end Go.Eng
open Go Go.Proofs
namespace Go.Eng
set_option linter.unusedSimpArgs false
set_option linter.unusedVariables false
set_option maxRecDepth 100000
set_option maxHeartbeats 8000000
theorem At.wts_mem : ∀ {l : List At} {a : At}, a ∈ l → a.val.length ≤ At.wts l
  | [], a, h => by simp at h
  | b :: l, a, h => by
    rw [At.wts]
    rcases List.mem_cons.1 h with rfl | h
    · omega
    · have := At.wts_mem h; omega
def BdS (z : Bool × Str) : Heap := Bd z.1 z.2
theorem BdS_eq (z : Bool × Str) : BdS z = [some (.box [cBd z.1, .own 1 0 z.2.length z.2.length] (some 59)), some (.rows 1 (z.2.map rU8) (some 5))] := rfl
theorem okBd2 (u : Bool) : okC 2 (cBd u) = true := by cases u <;> rfl
theorem okBd3 (u : Bool) : okC 3 (cBd u) = true := by cases u <;> rfl
section
variable {e : El} {z : Bool × Str}
theorem wrE_a (h : (wrM e.name e.ats).2 ≠ 0 ∨ (e.text ≠ [] ∧ 0 < e.kids.length)) : wrE e z = (false, z) := by rw [wrE_eq, if_pos h]
theorem wrE_b (h1 : (wrM e.name e.ats).2 = 0) (h2 : e.text = []) (h3 : e.kids.length = 0) : wrE e z = (true, addS z (trimS (wrM e.name e.ats).1 [62] ++ [47, 62])) := by
  rw [wrE_eq, if_neg (by rintro (h | h); exact h h1; exact h.1 h2), if_pos ⟨h2, h3⟩]
theorem wrE_c (h1 : (wrM e.name e.ats).2 = 0) (h2 : ¬ (e.text ≠ [] ∧ 0 < e.kids.length)) (h3 : ¬ (e.text = [] ∧ e.kids.length = 0)) (h4 : ¬ (escR e.text).2 = 0) : wrE e z = (false, z) := by
  rw [wrE_eq, if_neg (by rintro (h | h); exact h h1; exact h2 h), if_neg h3, if_pos h4]
theorem wrE_d (h1 : (wrM e.name e.ats).2 = 0) (h2 : ¬ (e.text ≠ [] ∧ 0 < e.kids.length)) (h3 : ¬ (e.text = [] ∧ e.kids.length = 0)) (h4 : (escR e.text).2 = 0) : wrE e z = if (wrEs e.kids (addS z ((wrM e.name e.ats).1 ++ (escR e.text).1))).1 = true then (true, addS (wrEs e.kids (addS z ((wrM e.name e.ats).1 ++ (escR e.text).1))).2 ([60, 47] ++ e.name ++ [62])) else (false, (wrEs e.kids (addS z ((wrM e.name e.ats).1 ++ (escR e.text).1))).2) := by
  rw [wrE_eq, if_neg (by rintro (h | h); exact h h1; exact h2 h), if_neg h3, if_neg (fun h => h h4)]
end
theorem wrE_e {e : El} {s : Str} (h1 : (wrM e.name e.ats).2 = 0) (h2 : ¬ (e.text ≠ [] ∧ 0 < e.kids.length)) (h3 : ¬ (e.text = [] ∧ e.kids.length = 0)) (h4 : (escR e.text).2 = 0) :
    (∀ u s', wrEs e.kids (true, s ++ ((wrM e.name e.ats).1 ++ (escR e.text).1)) = (true, true, s') → wrE e (u, s) = (true, true, s' ++ ([60, 47] ++ e.name ++ [62]))) ∧ (∀ u z', wrEs e.kids (true, s ++ ((wrM e.name e.ats).1 ++ (escR e.text).1)) = (false, z') → wrE e (u, s) = (false, z')) := by
  have ha : ∀ u, addS (u, s) ((wrM e.name e.ats).1 ++ (escR e.text).1) = (true, s ++ ((wrM e.name e.ats).1 ++ (escR e.text).1)) := fun u => rfl
  refine ⟨fun u s' hx => ?_, fun u z' hx => ?_⟩
  · rw [wrE_d h1 h2 h3 h4, ha, hx]; rfl
  · rw [wrE_d h1 h2 h3 h4, ha, hx]; rfl
theorem wsT (s t : Str) (h : s.length + t.length ≤ 100000000000000) : AFn env 31 [P0, aS t] [some (.box [.ptr 0 0 0 0, .own 1 0 s.length s.length] (some 59)), some (.rows 1 (s.map rU8) (some 5))] (.tup [aI t.length, .c (.d (.sc .nilIface))]) [some (.box [.ptr 0 0 0 0, .own 1 0 (s ++ t).length (s ++ t).length] (some 59)), some (.rows 1 ((s ++ t).map rU8) (some 5))] := writeString_ok true s t h
theorem wsF (s t : Str) (h : s.length + t.length ≤ 100000000000000) : AFn env 31 [P0, aS t] [some (.box [.d (.sc (.pointer none)), .own 1 0 s.length s.length] (some 59)), some (.rows 1 (s.map rU8) (some 5))] (.tup [aI t.length, .c (.d (.sc .nilIface))]) [some (.box [.ptr 0 0 0 0, .own 1 0 (s ++ t).length (s ++ t).length] (some 59)), some (.rows 1 ((s ++ t).map rU8) (some 5))] := writeString_ok false s t h
mutual
theorem wrE_flag : ∀ (e : El) (s : Str), (wrE e (true, s)).2.1 = true
  | .mk n a k t, s => by
    rw [wrE]
    split
    · rfl
    · split
      · rfl
      · split
        · rfl
        · split
          · rfl
          · exact wrEs_flag k _
theorem wrEs_flag : ∀ (l : List El) (s : Str), (wrEs l (true, s)).2.1 = true
  | [], s => rfl
  | t :: l, s => by
    rw [wrEs]
    have h := wrE_flag t s
    split
    · have e : (wrE t (true, s)).2 = (true, (wrE t (true, s)).2.2) := Prod.ext h rfl
      rw [e]; exact wrEs_flag l _
    · exact h
end
theorem written_ok (e : El) (u : Bool) (s : Str) (hwt : e.wt ≤ 100000) (hs : s.length + 100 * e.wt ≤ 10000000000000) : AFn env 22 [P0, e.a] (Bd u s) (aB (wrE e (u, s)).1) (BdS (wrE e (u, s)).2) := by
  generalize hn : e.size = n
  induction n using Nat.strongRecOn generalizing e u s with
  | _ n ih0 =>
    have ih : ∀ k s, k.size < e.size → k.wt ≤ 100000 → s.length + 100 * k.wt ≤ 10000000000000 → AFn env 22 [P0, k.a] [some (.box [.ptr 0 0 0 0, .own 1 0 s.length s.length] (some 59)), some (.rows 1 (s.map rU8) (some 5))] (aB (wrE k (true, s)).1) [some (.box [.ptr 0 0 0 0, .own 1 0 (wrE k (true, s)).2.2.length (wrE k (true, s)).2.2.length] (some 59)), some (.rows 1 ((wrE k (true, s)).2.2.map rU8) (some 5))] := fun k s h h1 h2 => by
      have := ih0 k.size (by omega) k true s h1 h2 rfl
      have e2 : (wrE k (true, s)).2 = (true, (wrE k (true, s)).2.2) := Prod.ext (wrE_flag k s) rfl
      rw [e2] at this
      exact this
    have hw := e.wt_eq
    have hal := At.wts_len e.ats
    have hkl := El.wts_len e.kids
    have hml := wrM_len e.name e.ats
    have htl := trimS_len (wrM e.name e.ats).1 [62]
    have hel := escR_len e.text
    have hav : ∀ a ∈ e.ats, a.val.length ≤ 100000 := fun a ha => by have := At.wts_mem ha; omega
    cases u
    all_goals simp only [bdT, bdF]
    all_goals refine afn_body Tryd.func22 rfl (by decide) ?_
    all_goals simp only [Tryd.ntmps22, Tryd.results22, List.length_cons, List.length_nil, List.cons_append, List.nil_append, Nat.reduceAdd, Nat.reduceSub, List.replicate]
    all_goals repeat' first
              | with_reducible refine awp_seq ?_
              | ((with_reducible refine awp_region ?_); refine zS ?_)
              | ((with_reducible refine Gd_nd ?_ ?_) <;> intro hb hb2 <;> first | contradiction | (exfalso; omega) | (refine zH hb2 ?_; try clear hb2))
              | ((with_reducible refine Gd_nb ?_ ?_) <;> intro hb <;> first | contradiction | refine zH hb ?_)
              | ((with_reducible refine Gd_d ?_ ?_) <;> intro hb hb2 <;> first | contradiction | (exfalso; omega) | (refine zH hb2 ?_; try clear hb2))
              | ((with_reducible refine Gd_b ?_ ?_) <;> intro hb <;> first | contradiction | refine zH hb ?_)
              | ((with_reducible refine Res_id ?_); refine zS ?_)
              | ((with_reducible refine awp_drawnC ?_ ?_); rfl; refine zS ?_)
              | ((with_reducible refine awp_drawnA ?_ ?_); rfl; refine zS ?_)
              | ((with_reducible refine CGd_nd ?_ ?_) <;> intro hb hb2 <;> first | contradiction | (exfalso; omega) | (refine zH hb2 ?_; try clear hb2))
              | ((with_reducible refine CGd_nb ?_ ?_) <;> intro hb <;> first | contradiction | refine zH hb ?_)
              | ((with_reducible refine CGd_d ?_ ?_) <;> intro hb hb2 <;> first | contradiction | (exfalso; omega) | (refine zH hb2 ?_; try clear hb2))
              | ((with_reducible refine CGd_b ?_ ?_) <;> intro hb <;> first | contradiction | refine zH hb ?_)
              | ((with_reducible refine CRes_id ?_); refine zS ?_)
              | ((with_reducible refine DStep_id ?_); refine zdP ?_; refine ⟨_, by first | exact markWrite_ok e.name e.ats (by omega) hav | exact trimSuffix_ok _ _ (by omega) | exact escape_all e.text (by omega) | fail, fun _ => rfl, fun _ => rfl, rfl, (fun h => by first | cases h | fail), ?_⟩; try refine zS ?_)
              | ((with_reducible refine DStep_id ?_); refine zdW ?_; refine ⟨_, by first | exact markWrite_ok e.name e.ats (by omega) hav | exact trimSuffix_ok _ _ (by omega) | exact escape_all e.text (by omega) | fail, fun _ => rfl, fun _ => rfl, rfl, ?_⟩; try refine zS ?_)
              | ((with_reducible refine DStep_id ?_); refine zdT [0, 1] ?_; refine ⟨_, _, by first | exact wsT s _ (by simp only [List.length_append, List.length_cons, List.length_nil]; omega) | exact wsF s _ (by simp only [List.length_append, List.length_cons, List.length_nil]; omega) | fail, ?_⟩; try refine zS ?_)
              | ((with_reducible refine AWP_c ?_); refine zcdT ?_)
              | ((with_reducible refine AWP_c ?_); refine zcdF ?_)
              | ((with_reducible refine AWP_c ?_); refine zcdN ?_ ?_ <;> intro hb hb2 <;> first | contradiction | (exfalso; omega) | ((try refine zH hb2 ?_); try clear hb2))
              | ((with_reducible refine AWP_c ?_); refine zcdD ?_ ?_ <;> intro hb hb2 <;> first | contradiction | (exfalso; omega) | ((try refine zH hb2 ?_); try clear hb2))
              | ((with_reducible refine AWP_c ?_); refine zcdM ?_ ?_ <;> intro hb <;> first | contradiction | (try refine zH hb ?_))
              | ((with_reducible refine AWP_c ?_); refine zcdB ?_ ?_ <;> intro hb <;> first | contradiction | (try refine zH hb ?_))
              | ((with_reducible refine awp_ret ?_); refine fin_r ?_)
              | ((with_reducible refine awp_ret ?_); refine fin_q ?_ ?_)
              | with_reducible refine fin_qn ?_ ?_
              | ((with_reducible refine awp_skip ?_); refine zS ?_)
              | ((with_reducible refine awp_exit ?_); refine zS ?_)
              | ((with_reducible refine CallK_id ?_); refine zcF ?_; refine ⟨_, by first | exact markWrite_ok e.name e.ats (by omega) hav | exact trimSuffix_ok _ _ (by omega) | exact escape_all e.text (by omega) | fail, fun _ => rfl, fun _ => rfl, rfl, ?_⟩; try refine zS ?_)
              | ((with_reducible refine CallK_id ?_); refine zcT [0, 1] ?_; refine ⟨_, _, by first | exact wsT s _ (by simp only [List.length_append, List.length_cons, List.length_nil]; omega) | exact wsF s _ (by simp only [List.length_append, List.length_cons, List.length_nil]; omega) | fail, ?_⟩; try refine zS ?_)
              | ((with_reducible refine awp_label ?_); try refine zS ?_)
              | ((with_reducible refine awp_goto ?_); try refine zS ?_)
              | ((with_reducible refine awp_scope0 ?_); try refine zS ?_)
              | exact True.intro
              | fail
    all_goals first
      | (rw [wrE_a (by first | exact .inl (by assumption) | exact .inr ⟨by assumption, by omega⟩)]; first | done | rfl)
      | (rw [wrE_b (by assumption) (by assumption) (by omega)]; first | done | rfl | (simp [BdS, Bd, cBd, addS, rU8]; done) | (simp [BdS, Bd, cBd, addS]; done))
      | (rw [wrE_c (by assumption) (fun h => by have a := h.1; have b := h.2; first | omega | contradiction) (fun h => by have a := h.1; have b := h.2; first | omega | contradiction) (by assumption)]; first | done | rfl)
      | (exfalso; contradiction)
      | skip
    all_goals
      (have hd := wrE_e (s := s) (by assumption) (fun h => by have a := h.1; have b := h.2; first | omega | contradiction) (fun h => by have a := h.1; have b := h.2; first | omega | contradiction) ‹(escR e.text).2 = 0›
       have hnl := hml.2 (by assumption)
       have hz1l : (s ++ ((wrM e.name e.ats).1 ++ (escR e.text).1)).length ≤ s.length + 26 + 28 * At.wts e.ats + 6 * e.text.length := by rw [List.length_append, List.length_append]; omega
       refine awp_block ?_
       refine awp_loopT (fun q : Nat × Str => q.1 ≤ e.kids.length ∧ wrEs e.kids (true, s ++ ((wrM e.name e.ats).1 ++ (escR e.text).1)) = wrEs (e.kids.drop q.1) (true, q.2) ∧ q.2.length + 100 * El.wts (e.kids.drop q.1) ≤ (s ++ ((wrM e.name e.ats).1 ++ (escR e.text).1)).length + 100 * El.wts e.kids) (fun q => e.kids.length - q.1) (fun q => [(10, .any), (16, .any), (46, .any), (49, .any), (58, .any), (62, aI q.1)]) (fun q => [some (.box [.ptr 0 0 0 0, .own 1 0 q.2.length q.2.length] (some 59)), some (.rows 1 (q.2.map rU8) (some 5)), some (.box e.bs)]) (0, s ++ ((wrM e.name e.ats).1 ++ (escR e.text).1)) ⟨by omega, rfl, by simp⟩ (by exact zwl) ?_
       rintro ⟨i, s2⟩ ⟨h1, h2, h3⟩
       simp only at h1 h2 h3)
    all_goals
      (have hdw : i < e.kids.length → El.wts (e.kids.drop i) = (gt e.kids i).wt + El.wts (e.kids.drop (i + 1)) := fun h => by rw [drop_gtE h, El.wts]
       have hkw : i < e.kids.length → (gt e.kids i).wt ≤ El.wts e.kids := fun h => El.wts_mem (gt_memE h))
    all_goals refine zT ?_
    all_goals repeat' first
              | with_reducible refine awp_seq ?_
              | ((with_reducible refine awp_region ?_); refine zS ?_)
              | ((with_reducible refine Gd_nd ?_ ?_) <;> intro hb hb2 <;> first | contradiction | (exfalso; omega) | (refine zH hb2 ?_; try clear hb2))
              | ((with_reducible refine Gd_nb ?_ ?_) <;> intro hb <;> first | contradiction | refine zH hb ?_)
              | ((with_reducible refine Gd_d ?_ ?_) <;> intro hb hb2 <;> first | contradiction | (exfalso; omega) | (refine zH hb2 ?_; try clear hb2))
              | ((with_reducible refine Gd_b ?_ ?_) <;> intro hb <;> first | contradiction | refine zH hb ?_)
              | ((with_reducible refine Res_id ?_); refine zS ?_)
              | ((with_reducible refine awp_drawnC ?_ ?_); rfl; refine zS ?_)
              | ((with_reducible refine awp_drawnA ?_ ?_); rfl; refine zS ?_)
              | ((with_reducible refine CGd_nd ?_ ?_) <;> intro hb hb2 <;> first | contradiction | (exfalso; omega) | (refine zH hb2 ?_; try clear hb2))
              | ((with_reducible refine CGd_nb ?_ ?_) <;> intro hb <;> first | contradiction | refine zH hb ?_)
              | ((with_reducible refine CGd_d ?_ ?_) <;> intro hb hb2 <;> first | contradiction | (exfalso; omega) | (refine zH hb2 ?_; try clear hb2))
              | ((with_reducible refine CGd_b ?_ ?_) <;> intro hb <;> first | contradiction | refine zH hb ?_)
              | ((with_reducible refine CRes_id ?_); refine zS ?_)
              | ((with_reducible refine DStep_id ?_); refine zdP ?_; refine ⟨_, by first | fail | fail, fun _ => rfl, fun _ => rfl, rfl, (fun h => by first | cases h | fail), ?_⟩; try refine zS ?_)
              | ((with_reducible refine DStep_id ?_); refine zdW ?_; refine ⟨_, by first | fail | fail, fun _ => rfl, fun _ => rfl, rfl, ?_⟩; try refine zS ?_)
              | ((with_reducible refine DStep_id ?_); refine zdT [0, 1] ?_; refine ⟨_, _, by first | exact ih (gt e.kids i) s2 (El.size_lt (gt_memE (by omega))) (by have := hkw (by omega); omega) (by have := hdw (by omega); omega) | exact wsT s2 _ (by simp only [List.length_append, List.length_cons, List.length_nil]; omega) | fail, ?_⟩; try refine zS ?_)
              | ((with_reducible refine AWP_c ?_); refine zcdT ?_)
              | ((with_reducible refine AWP_c ?_); refine zcdF ?_)
              | ((with_reducible refine AWP_c ?_); refine zcdN ?_ ?_ <;> intro hb hb2 <;> first | contradiction | (exfalso; omega) | ((try refine zH hb2 ?_); try clear hb2))
              | ((with_reducible refine AWP_c ?_); refine zcdD ?_ ?_ <;> intro hb hb2 <;> first | contradiction | (exfalso; omega) | ((try refine zH hb2 ?_); try clear hb2))
              | ((with_reducible refine AWP_c ?_); refine zcdM ?_ ?_ <;> intro hb <;> first | contradiction | (try refine zH hb ?_))
              | ((with_reducible refine AWP_c ?_); refine zcdB ?_ ?_ <;> intro hb <;> first | contradiction | (try refine zH hb ?_))
              | ((with_reducible refine awp_ret ?_); refine fin_r ?_)
              | ((with_reducible refine awp_ret ?_); refine fin_q ?_ ?_)
              | with_reducible refine fin_qn ?_ ?_
              | ((with_reducible refine awp_skip ?_); refine zS ?_)
              | with_reducible refine awp_block ?_
              | ((with_reducible refine awp_exit ?_); refine zS ?_)
              | ((with_reducible refine CallK_id ?_); refine zcF ?_; refine ⟨_, by first | fail | fail, fun _ => rfl, fun _ => rfl, rfl, ?_⟩; try refine zS ?_)
              | ((with_reducible refine CallK_id ?_); refine zcT [0, 1] ?_; refine ⟨_, _, by first | exact ih (gt e.kids i) s2 (El.size_lt (gt_memE (by omega))) (by have := hkw (by omega); omega) (by have := hdw (by omega); omega) | exact wsT s2 _ (by simp only [List.length_append, List.length_cons, List.length_nil]; omega) | fail, ?_⟩; try refine zS ?_)
              | ((with_reducible refine awp_label ?_); try refine zS ?_)
              | ((with_reducible refine awp_goto ?_); try refine zS ?_)
              | ((with_reducible refine awp_scope0 ?_); try refine zS ?_)
              | exact True.intro
              | fail
    all_goals first
      | (have hi : i < e.kids.length := by omega
         have hf : (wrE (gt e.kids i) (true, s2)).1 = true := by assumption
         have e2 : (wrE (gt e.kids i) (true, s2)).2 = (true, (wrE (gt e.kids i) (true, s2)).2.2) := Prod.ext (wrE_flag _ _) rfl
         have hl := wrE_len (gt e.kids i) (true, s2)
         have hdw' := hdw hi
         refine ⟨(i + 1, (wrE (gt e.kids i) (true, s2)).2.2), ⟨by simp only; omega, ?_, by simp only [List.length_append] at h3 hl ⊢; omega⟩, by simp only; omega, (by exact zwc 3)⟩
         rw [h2, drop_gtE hi, wrEs, if_pos hf, e2]; done)
      | (have hi : i < e.kids.length := by omega
         have hf : (wrE (gt e.kids i) (true, s2)).1 = false := by assumption
         have e2 : (wrE (gt e.kids i) (true, s2)).2 = (true, (wrE (gt e.kids i) (true, s2)).2.2) := Prod.ext (wrE_flag _ _) rfl
         have hx := h2
         rw [drop_gtE hi, wrEs, if_neg (by simp [hf])] at hx
         have hw2 : ∀ u, wrE e (u, s) = (false, true, (wrE (gt e.kids i) (true, s2)).2.2) := fun u => hd.2 u _ (hx.trans (by rw [e2]))
         first
           | exact congrArg (fun q : Bool × Bool × Str => aB q.1) (hw2 _).symm
           | exact Eq.trans (by first | rfl | (simp [BdS, Bd, cBd]; done) | (simp [BdS, Bd, cBd]; omega)) (congrArg (fun q : Bool × Bool × Str => BdS q.2) (hw2 _).symm))
      | (have hi : i = e.kids.length := by omega
         have hx := h2
         rw [hi, List.drop_length, wrEs] at hx
         have hw2 : ∀ u, wrE e (u, s) = (true, true, s2 ++ ([60, 47] ++ e.name ++ [62])) := fun u => hd.1 u _ hx
         first
           | exact congrArg (fun q : Bool × Bool × Str => aB q.1) (hw2 _).symm
           | exact Eq.trans (by first | rfl | (simp [BdS, Bd, cBd]; done) | (simp [BdS, Bd, cBd]; omega)) (congrArg (fun q : Bool × Bool × Str => BdS q.2) (hw2 _).symm))
      | trace_state
end Go.Eng
open Go Go.Proofs
namespace Go.Eng
set_option linter.unusedSimpArgs false
set_option linter.unusedVariables false
set_option maxRecDepth 100000
set_option maxHeartbeats 8000000
def writeE (e : El) : Str × Int := if longE e 1 = true then ([], 2) else if (wrE e (false, [])).1 = true then (if 20000 < (wrE e (false, [])).2.2.length then ([], 5) else ((wrE e (false, [])).2.2, 0)) else ([], 4)
theorem wrE_ne (e : El) (z : Bool × Str) (h : (wrE e z).1 = true) : (wrE e z).2.1 = true ∧ (wrE e z).2.2 ≠ [] := by
  rw [wrE_eq] at h ⊢
  split
  · rename_i hc; rw [if_pos hc] at h; cases h
  · rename_i hc
    rw [if_neg hc] at h
    split
    · exact ⟨rfl, by simp [addS]⟩
    · rename_i hc2
      rw [if_neg hc2] at h
      split
      · rename_i hc3; rw [if_pos hc3] at h; cases h
      · rename_i hc3
        rw [if_neg hc3] at h
        split
        · exact ⟨rfl, by simp [addS]⟩
        · rename_i hc4; rw [if_neg hc4] at h; cases h
theorem len_okT (s : Str) : AFn env 23 [P0] [some (.box [.ptr 0 0 0 0, .own 1 0 s.length s.length] (some 59)), some (.rows 1 (s.map rU8) (some 5))] (aI s.length) [some (.box [.ptr 0 0 0 0, .own 1 0 s.length s.length] (some 59)), some (.rows 1 (s.map rU8) (some 5))] := len_ok true s
theorem text_okT (s : Str) (h0 : s ≠ []) (hs : s.length ≤ 9223372036854775807) : AFn env 24 [P0] [some (.box [.ptr 0 0 0 0, .own 1 0 s.length s.length] (some 59)), some (.rows 1 (s.map rU8) (some 5))] (aS s) [none, none] := text_ok true s h0 hs
theorem write_ok (e : El) (hwt : e.wt ≤ 100000) : AFn env 9 [e.a] [] (.tup [aS (writeE e).1, aI (writeE e).2]) [] := by
  have hW := written_ok e false [] hwt (by simp; omega)
  have hne := wrE_ne e (false, [])
  have hl := wrE_len e (false, [])
  have hE : writeE e = if longE e 1 = true then ([], 2) else if (wrE e (false, [])).1 = true then (if 20000 < (wrE e (false, [])).2.2.length then ([], 5) else ((wrE e (false, [])).2.2, 0)) else ([], 4) := rfl
  generalize wrE e (false, []) = q at hW hne hl hE
  obtain ⟨ok, u, s⟩ := q
  simp only [BdS] at hW hne hl hE
  refine afn_body Tryd.func9 rfl (by decide) ?_
  simp only [Tryd.ntmps9, Tryd.results9, List.length_cons, List.length_nil, List.cons_append, List.nil_append, Nat.reduceAdd, Nat.reduceSub, List.replicate]
  repeat' first
  | with_reducible refine awp_seq ?_
  | ((with_reducible refine awp_region ?_); refine zS ?_)
  | ((with_reducible refine Gd_nd ?_ ?_) <;> intro hb hb2 <;> first | contradiction | (exfalso; omega) | (refine zH hb2 ?_; try clear hb2))
  | ((with_reducible refine Gd_nb ?_ ?_) <;> intro hb <;> first | contradiction | refine zH hb ?_)
  | ((with_reducible refine Gd_d ?_ ?_) <;> intro hb hb2 <;> first | contradiction | (exfalso; omega) | (refine zH hb2 ?_; try clear hb2))
  | ((with_reducible refine Gd_b ?_ ?_) <;> intro hb <;> first | contradiction | refine zH hb ?_)
  | ((with_reducible refine Res_id ?_); refine zS ?_)
  | ((with_reducible refine awp_drawnC ?_ ?_); rfl; refine zS ?_)
  | ((with_reducible refine awp_drawnA ?_ ?_); rfl; refine zS ?_)
  | ((with_reducible refine CGd_nd ?_ ?_) <;> intro hb hb2 <;> first | contradiction | (exfalso; omega) | (refine zH hb2 ?_; try clear hb2))
  | ((with_reducible refine CGd_nb ?_ ?_) <;> intro hb <;> first | contradiction | refine zH hb ?_)
  | ((with_reducible refine CGd_d ?_ ?_) <;> intro hb hb2 <;> first | contradiction | (exfalso; omega) | (refine zH hb2 ?_; try clear hb2))
  | ((with_reducible refine CGd_b ?_ ?_) <;> intro hb <;> first | contradiction | refine zH hb ?_)
  | ((with_reducible refine CRes_id ?_); refine zS ?_)
  | ((with_reducible refine DStep_id ?_); refine zdP ?_; refine ⟨_, by first | exact long_ok e 1 (by omega) (by omega) | fail, fun _ => rfl, fun _ => rfl, rfl, (fun h => by first | cases h | fail), ?_⟩; try refine zS ?_)
  | ((with_reducible refine DStep_id ?_); refine zdW ?_; refine ⟨_, by first | exact long_ok e 1 (by omega) (by omega) | fail, fun _ => rfl, fun _ => rfl, rfl, ?_⟩; try refine zS ?_)
  | ((with_reducible refine AWP_c ?_); refine zcdT ?_)
  | ((with_reducible refine AWP_c ?_); refine zcdF ?_)
  | ((with_reducible refine AWP_c ?_); refine zcdN ?_ ?_ <;> intro hb hb2 <;> first | contradiction | (exfalso; omega) | ((try refine zH hb2 ?_); try clear hb2))
  | ((with_reducible refine AWP_c ?_); refine zcdD ?_ ?_ <;> intro hb hb2 <;> first | contradiction | (exfalso; omega) | ((try refine zH hb2 ?_); try clear hb2))
  | ((with_reducible refine AWP_c ?_); refine zcdM ?_ ?_ <;> intro hb <;> first | contradiction | (try refine zH hb ?_))
  | ((with_reducible refine AWP_c ?_); refine zcdB ?_ ?_ <;> intro hb <;> first | contradiction | (try refine zH hb ?_))
  | ((with_reducible refine awp_ret ?_); refine fin_r ?_)
  | ((with_reducible refine awp_ret ?_); refine fin_q ?_ ?_)
  | with_reducible refine fin_qn ?_ ?_
  | ((with_reducible refine awp_skip ?_); refine zS ?_)
  | ((with_reducible refine awp_exit ?_); refine zS ?_)
  | ((with_reducible refine CallK_id ?_); refine zcF ?_; refine ⟨_, by first | exact long_ok e 1 (by omega) (by omega) | fail, fun _ => rfl, fun _ => rfl, rfl, ?_⟩; try refine zS ?_)
  | ((with_reducible refine awp_label ?_); try refine zS ?_)
  | ((with_reducible refine awp_goto ?_); try refine zS ?_)
  | ((with_reducible refine awp_scope0 ?_); try refine zS ?_)
  | exact True.intro
  | fail
  · have : writeE e = ([], 2) := by rw [hE, if_pos (by assumption)]
    rw [this]; rfl
  refine awp_wk (wk_virtB (i := 1) (j := 1) (s := 1) (some 5) (by decide) rfl rfl) ?_
  refine zT ?_
  cases ok <;> cases u
  all_goals simp only [bdT, bdF, List.length_nil, List.map_nil] at hW
  all_goals try (exfalso; have := (hne rfl).1; cases this; done)
  all_goals repeat' first
            | with_reducible refine awp_seq ?_
            | ((with_reducible refine awp_region ?_); refine zS ?_)
            | ((with_reducible refine Gd_nd ?_ ?_) <;> intro hb hb2 <;> first | contradiction | (exfalso; omega) | (refine zH hb2 ?_; try clear hb2))
            | ((with_reducible refine Gd_nb ?_ ?_) <;> intro hb <;> first | contradiction | refine zH hb ?_)
            | ((with_reducible refine Gd_d ?_ ?_) <;> intro hb hb2 <;> first | contradiction | (exfalso; omega) | (refine zH hb2 ?_; try clear hb2))
            | ((with_reducible refine Gd_b ?_ ?_) <;> intro hb <;> first | contradiction | refine zH hb ?_)
            | ((with_reducible refine Res_id ?_); refine zS ?_)
            | ((with_reducible refine awp_drawnC ?_ ?_); rfl; refine zS ?_)
            | ((with_reducible refine awp_drawnA ?_ ?_); rfl; refine zS ?_)
            | ((with_reducible refine CGd_nd ?_ ?_) <;> intro hb hb2 <;> first | contradiction | (exfalso; omega) | (refine zH hb2 ?_; try clear hb2))
            | ((with_reducible refine CGd_nb ?_ ?_) <;> intro hb <;> first | contradiction | refine zH hb ?_)
            | ((with_reducible refine CGd_d ?_ ?_) <;> intro hb hb2 <;> first | contradiction | (exfalso; omega) | (refine zH hb2 ?_; try clear hb2))
            | ((with_reducible refine CGd_b ?_ ?_) <;> intro hb <;> first | contradiction | refine zH hb ?_)
            | ((with_reducible refine CRes_id ?_); refine zS ?_)
            | ((with_reducible refine DStep_id ?_); refine zdP ?_; refine ⟨_, by first | fail | fail, fun _ => rfl, fun _ => rfl, rfl, (fun h => by first | cases h | fail), ?_⟩; try refine zS ?_)
            | ((with_reducible refine DStep_id ?_); refine zdW ?_; refine ⟨_, by first | fail | fail, fun _ => rfl, fun _ => rfl, rfl, ?_⟩; try refine zS ?_)
            | ((with_reducible refine DStep_id ?_); refine zdT [1, 2] ?_; refine ⟨_, _, by first | exact hW | exact len_okT s | exact text_okT s (hne rfl).2 (by simp at hl; omega) | fail, ?_⟩; try refine zS ?_)
            | ((with_reducible refine AWP_c ?_); refine zcdT ?_)
            | ((with_reducible refine AWP_c ?_); refine zcdF ?_)
            | ((with_reducible refine AWP_c ?_); refine zcdN ?_ ?_ <;> intro hb hb2 <;> first | contradiction | (exfalso; omega) | ((try refine zH hb2 ?_); try clear hb2))
            | ((with_reducible refine AWP_c ?_); refine zcdD ?_ ?_ <;> intro hb hb2 <;> first | contradiction | (exfalso; omega) | ((try refine zH hb2 ?_); try clear hb2))
            | ((with_reducible refine AWP_c ?_); refine zcdM ?_ ?_ <;> intro hb <;> first | contradiction | (try refine zH hb ?_))
            | ((with_reducible refine AWP_c ?_); refine zcdB ?_ ?_ <;> intro hb <;> first | contradiction | (try refine zH hb ?_))
            | ((with_reducible refine awp_ret ?_); refine fin_r ?_)
            | ((with_reducible refine awp_ret ?_); refine fin_q ?_ ?_)
            | with_reducible refine fin_qn ?_ ?_
            | ((with_reducible refine awp_skip ?_); refine zS ?_)
            | with_reducible refine awp_block ?_
            | ((with_reducible refine awp_exit ?_); refine zS ?_)
            | ((with_reducible refine CallK_id ?_); refine zcF ?_; refine ⟨_, by first | fail | fail, fun _ => rfl, fun _ => rfl, rfl, ?_⟩; try refine zS ?_)
            | ((with_reducible refine CallK_id ?_); refine zcT [1, 2] ?_; refine ⟨_, _, by first | exact hW | exact len_okT s | exact text_okT s (hne rfl).2 (by simp at hl; omega) | fail, ?_⟩; try refine zS ?_)
            | ((with_reducible refine awp_label ?_); try refine zS ?_)
            | ((with_reducible refine awp_goto ?_); try refine zS ?_)
            | ((with_reducible refine awp_scope0 ?_); try refine zS ?_)
            | exact True.intro
            | fail
  all_goals
    (have hlf : longE e 1 = false := by assumption
     rw [if_neg (by rw [hlf]; simp)] at hE
     first
       | (rw [if_neg (by simp)] at hE; rw [hE]; first | done | rfl)
       | (rw [if_pos rfl, if_pos (by omega)] at hE; rw [hE]; first | done | rfl)
       | (rw [if_pos rfl, if_neg (by omega)] at hE; rw [hE]; first | done | rfl)
       | trace_state)
theorem check_ok' (e : El) (hwt : e.wt ≤ 100000) : AFn env 14 [e.a] [] (aI (writeE e).2) [] := by
  refine afn_body Tryd.func14 rfl (by decide) ?_
  simp only [Tryd.ntmps14, Tryd.results14, List.length_cons, List.length_nil, List.cons_append, List.nil_append, Nat.reduceAdd, Nat.reduceSub, List.replicate]
  repeat' first
  | with_reducible refine awp_seq ?_
  | ((with_reducible refine awp_region ?_); refine zS ?_)
  | ((with_reducible refine Gd_nd ?_ ?_) <;> intro hb hb2 <;> first | contradiction | (exfalso; omega) | (refine zH hb2 ?_; try clear hb2))
  | ((with_reducible refine Gd_nb ?_ ?_) <;> intro hb <;> first | contradiction | refine zH hb ?_)
  | ((with_reducible refine Gd_d ?_ ?_) <;> intro hb hb2 <;> first | contradiction | (exfalso; omega) | (refine zH hb2 ?_; try clear hb2))
  | ((with_reducible refine Gd_b ?_ ?_) <;> intro hb <;> first | contradiction | refine zH hb ?_)
  | ((with_reducible refine Res_id ?_); refine zS ?_)
  | ((with_reducible refine awp_drawnC ?_ ?_); rfl; refine zS ?_)
  | ((with_reducible refine awp_drawnA ?_ ?_); rfl; refine zS ?_)
  | ((with_reducible refine CGd_nd ?_ ?_) <;> intro hb hb2 <;> first | contradiction | (exfalso; omega) | (refine zH hb2 ?_; try clear hb2))
  | ((with_reducible refine CGd_nb ?_ ?_) <;> intro hb <;> first | contradiction | refine zH hb ?_)
  | ((with_reducible refine CGd_d ?_ ?_) <;> intro hb hb2 <;> first | contradiction | (exfalso; omega) | (refine zH hb2 ?_; try clear hb2))
  | ((with_reducible refine CGd_b ?_ ?_) <;> intro hb <;> first | contradiction | refine zH hb ?_)
  | ((with_reducible refine CRes_id ?_); refine zS ?_)
  | ((with_reducible refine DStep_id ?_); refine zdP ?_; refine ⟨_, by first | exact write_ok e hwt | fail, fun _ => rfl, fun _ => rfl, rfl, (fun h => by first | cases h | fail), ?_⟩; try refine zS ?_)
  | ((with_reducible refine DStep_id ?_); refine zdW ?_; refine ⟨_, by first | exact write_ok e hwt | fail, fun _ => rfl, fun _ => rfl, rfl, ?_⟩; try refine zS ?_)
  | ((with_reducible refine AWP_c ?_); refine zcdT ?_)
  | ((with_reducible refine AWP_c ?_); refine zcdF ?_)
  | ((with_reducible refine AWP_c ?_); refine zcdN ?_ ?_ <;> intro hb hb2 <;> first | contradiction | (exfalso; omega) | ((try refine zH hb2 ?_); try clear hb2))
  | ((with_reducible refine AWP_c ?_); refine zcdD ?_ ?_ <;> intro hb hb2 <;> first | contradiction | (exfalso; omega) | ((try refine zH hb2 ?_); try clear hb2))
  | ((with_reducible refine AWP_c ?_); refine zcdM ?_ ?_ <;> intro hb <;> first | contradiction | (try refine zH hb ?_))
  | ((with_reducible refine AWP_c ?_); refine zcdB ?_ ?_ <;> intro hb <;> first | contradiction | (try refine zH hb ?_))
  | ((with_reducible refine awp_ret ?_); refine fin_r ?_)
  | ((with_reducible refine awp_ret ?_); refine fin_q ?_ ?_)
  | with_reducible refine fin_qn ?_ ?_
  | ((with_reducible refine awp_skip ?_); refine zS ?_)
  | with_reducible refine awp_block ?_
  | ((with_reducible refine awp_exit ?_); refine zS ?_)
  | ((with_reducible refine CallK_id ?_); refine zcF ?_; refine ⟨_, by first | exact write_ok e hwt | fail, fun _ => rfl, fun _ => rfl, rfl, ?_⟩; try refine zS ?_)
  | ((with_reducible refine awp_label ?_); try refine zS ?_)
  | ((with_reducible refine awp_goto ?_); try refine zS ?_)
  | ((with_reducible refine awp_scope0 ?_); try refine zS ?_)
  | exact True.intro
  | fail
  all_goals first | rfl | trace_state
end Go.Eng
