/- Each function of the program, walked over plain data: what it comes to, at all arguments. -/
import Derived.Test.YthodghlpcklaeaaGreatDoorMc
import Derived.Test.YthodghlpcklaeaaGreatDoorEf
open Go Go.Proofs
namespace Go.Eng
set_option linter.unusedSimpArgs false
set_option linter.unusedVariables false
set_option maxRecDepth 10000
set_option maxHeartbeats 8000000
theorem in1_ok (n : Gr) (i : Int) (hl : n.ns.length < 1000000000000) : AFn env 122 [aI i, P0] [some (.box n.bs)] (aB (inR n.ns.length i)) [some (.box n.bs)] := by
  refine afn_body Tryz.func122 rfl (by decide) ?_
  simp only [Tryz.ntmps122, Tryz.results122, List.length_cons, List.length_nil, List.cons_append, List.nil_append, Nat.reduceAdd, Nat.reduceSub, List.replicate]
  repeat' first
  | ((with_reducible refine awp_seqQ ?_); intro _ _)
  | ((with_reducible refine awp_region ?_); refine zS ?_)
  | ((with_reducible refine Gd_d ?_ ?_) <;> intro hb hb2 <;> first | contradiction | (exfalso; omega) | (refine zH hb2 ?_; try clear hb2))
  | ((with_reducible refine awp_ret ?_); refine q_step (by assumption) ?_)
  | with_reducible refine fin_r ?_
  | ((with_reducible refine q_step (by assumption) ?_); try refine zS ?_)
  all_goals first | (simp [go_sem, inR, *]; done) | (simp [go_sem, inR, *]; omega)
def leadsF (n : Gr) (f : Fl) : Bool := (inR n.ns.length f.src && (inR n.ns.length f.dst && decide (f.src ≠ f.dst))) &&
  (if (gt n.ns f.src.toNat).kind ≠ 5 ∨ (outsF n f.src).length < 2 then !f.els && noneF f.t else if f.els = true then noneF f.t else ofF f.t 2)
theorem leads_ok (n : Gr) (f : Fl) (hs : f.t.size < 4611686018427387904) (hn : n.ns.length < 1000000000000) (hf : n.fs.length < 1000000000000) : AFn env 105 [n.a, f.a] [] (aB (leadsF n f)) [] := by
  have hol : (outsF n f.src).length ≤ n.fs.length := idxs_len _ n.fs 0
  have hin : inR n.ns.length f.src = true → 0 ≤ f.src ∧ f.src < n.ns.length := fun h => by simpa [inR] using h
  refine afn_body Tryz.func105 rfl (by decide) ?_
  simp only [Tryz.ntmps105, Tryz.results105, List.length_cons, List.length_nil, List.cons_append, List.nil_append, Nat.reduceAdd, Nat.reduceSub, List.replicate]
  repeat' first
  | ((with_reducible refine awp_seqQ ?_); intro _ _)
  | ((with_reducible refine awp_region ?_); refine zS ?_)
  | ((with_reducible refine Gd_b ?_ ?_) <;> intro hb <;> first | contradiction | refine zH hb ?_)
  | ((with_reducible refine AWP_c ?_); refine zcdT ?_)
  | ((with_reducible refine AWP_c ?_); refine zcdD ?_ ?_ <;> intro hb hb2 <;> first | contradiction | (exfalso; omega) | ((try refine zH hb2 ?_); try clear hb2))
  | with_reducible refine awp_block ?_
  | ((with_reducible refine CallK_id ?_); refine zcT [0] ?_; refine ⟨_, _, by first | exact in1_ok n _ (by omega) | fail, ?_⟩; try refine zS ?_)
  | ((with_reducible refine awp_ret ?_); refine q_step (by assumption) ?_)
  | with_reducible refine fin_r ?_
  | ((with_reducible refine q_step (by assumption) ?_); try refine zS ?_)
  all_goals try (simp [go_sem, leadsF, *]; done)
  have hin := hin ‹_›
  refine zS ?_
  repeat' first
  | ((with_reducible refine awp_seqQ ?_); intro _ _)
  | ((with_reducible refine awp_region ?_); refine zS ?_)
  | ((with_reducible refine Gd_nb ?_ ?_) <;> intro hb <;> first | contradiction | refine zH hb ?_)
  | ((with_reducible refine Gd_d ?_ ?_) <;> intro hb hb2 <;> first | contradiction | (exfalso; omega) | (refine zH hb2 ?_; try clear hb2))
  | ((with_reducible refine AWP_c ?_); refine zcdT ?_)
  | ((with_reducible refine AWP_c ?_); refine zcdD ?_ ?_ <;> intro hb hb2 <;> first | contradiction | (exfalso; omega) | ((try refine zH hb2 ?_); try clear hb2))
  | ((with_reducible refine AWP_c ?_); refine zcdB ?_ ?_ <;> intro hb <;> first | contradiction | (try refine zH hb ?_))
  | ((with_reducible refine awp_skip ?_); try refine zS ?_)
  | ((with_reducible refine CallK_id ?_); refine zcF ?_; refine ⟨_, by first | exact noneN_ok _ | exact ofN_ok _ 2 hs | exact outs_ok n f.src (by omega) | fail, fun _ => rfl, fun _ => rfl, rfl, ?_⟩; try refine zS ?_)
  | ((with_reducible refine awp_ret ?_); refine q_step (by assumption) ?_)
  | with_reducible refine fin_r ?_
  | ((with_reducible refine q_step (by assumption) ?_); try refine zS ?_)
  all_goals (clear hin hol hs hn hf; simp [go_sem, leadsF, *]; try omega)
def plc (r : Int) (p : Nat → Bool) (l : List Nat) : List Lk := (l.filter p).map fun (i : Nat) => (⟨r, i⟩ : Lk)
theorem plc_len (r : Int) (p : Nat → Bool) (l : List Nat) : (plc r p l).length ≤ l.length := by rw [plc, List.length_map]; exact List.length_filter_le _ _
theorem plc_t {r : Int} {p : Nat → Bool} {n j : Nat} (h : j < n) (hp : p j = true) : plc r p (List.range' j (n - j)) = ⟨r, j⟩ :: plc r p (List.range' (j + 1) (n - (j + 1))) := by
  rw [show n - j = (n - (j + 1)) + 1 by omega, List.range'_succ, plc, List.filter_cons, if_pos hp]; rfl
theorem plc_f {r : Int} {p : Nat → Bool} {n j : Nat} (h : j < n) (hp : p j = false) : plc r p (List.range' j (n - j)) = plc r p (List.range' (j + 1) (n - (j + 1))) := by
  rw [show n - j = (n - (j + 1)) + 1 by omega, List.range'_succ, plc, List.filter_cons, if_neg (by simp [hp])]; rfl
def plF (r : Int) (n : Nat) (p : Nat → Bool) : List Lk := plc r p (List.range' 0 n)
theorem places1_ok (n : Gr) (r : Int) (m : Nat) (F : FuncId) (p : Nat → Bool) (hm : m < 1000000000000) (h : ∀ j : Nat, j < m → AFn env F ([aI j] ++ [.ptr 0 0 0 0].map .c) [some (.box n.bs)] (aB (p j)) [some (.box n.bs)]) :
    AFn env 101 [aI r, aI m, .c (.clo (.func F) [.ptr 0 0 0 0])] [some (.box n.bs)] (OwnK 1 (plF r m p).length) [some (.box n.bs), RwK (plF r m p)] := by
  refine afn_body Tryz.func101 rfl (by decide) ?_
  simp only [Tryz.ntmps101, Tryz.results101, List.length_cons, List.length_nil, List.cons_append, List.nil_append, Nat.reduceAdd, Nat.reduceSub, List.replicate]
  iterate 2 (refine awp_seq ?_; refine awp_region ?_; refine zS ?_)
  refine awp_wk (wk_virt none (i := 7) (s := 2) (by decide) rfl) ?_
  refine zT ?_
  repeat' first
  | ((with_reducible refine awp_seqQ ?_); intro _ _)
  | ((with_reducible refine awp_region ?_); refine zS ?_)
  | with_reducible refine awp_block ?_
  refine awp_loopT (fun z : Nat × List Lk => z.1 ≤ m ∧ z.2 ++ plc r p (List.range' z.1 (m - z.1)) = plF r m p ∧ z.2.length ≤ z.1) (fun z => m - z.1) (fun z => [(7, OwnK 1 z.2.length), (10, aI z.1)]) (fun z => [some (.box n.bs), RwK z.2]) (0, []) ⟨by simp, by simp [plF], by simp⟩ (by exact zwl) ?_
  rintro ⟨j, o⟩ ⟨h1, h2, h3⟩
  simp only at h1 h2 h3
  simp only [List.map, List.cons_append, List.nil_append] at h
  refine zT ?_
  repeat' first
  | ((with_reducible refine awp_seqQ ?_); intro _ _)
  | ((with_reducible refine awp_region ?_); refine zS ?_)
  | ((with_reducible refine AWP_c ?_); refine zcdD ?_ ?_ <;> intro hb hb2 <;> first | contradiction | (exfalso; omega) | ((try refine zH hb2 ?_); try clear hb2))
  | ((with_reducible refine AWP_c ?_); refine zcdB ?_ ?_ <;> intro hb <;> first | contradiction | (try refine zH hb ?_))
  | ((with_reducible refine awp_skip ?_); try refine zS ?_)
  | with_reducible refine awp_block ?_
  | ((with_reducible refine awp_exit ?_); try refine zS ?_)
  | ((with_reducible refine CallK_id ?_); refine zcT [0] ?_; refine ⟨_, _, by first | exact h j (by omega) | fail, ?_⟩; try refine zS ?_)
  | ((with_reducible refine awp_ret ?_); refine q_step (by assumption) ?_)
  | ((with_reducible refine q_step (by assumption) ?_); try refine zS ?_)
  · exact ⟨(j + 1, o ++ [⟨r, (j : Int)⟩]), ⟨by simp only; omega, by rw [← h2, plc_t (j := j) (by omega) ‹_›]; simp, by simp; omega⟩, by simp only; omega, wk_cl 2 (by decide) (by simp) (by simp only [go_sem, Bool.not_not, List.mem_singleton, forall_eq, ↓reduceIte, if_pos, rowsAt_map, wrap64, wrapu8, List.getElem?_cons_zero, List.getElem?_cons_succ, Int.reduceToNat, Nat.reduceAdd, Nat.reduceBEq, Bool.or_false, Bool.false_or, Bool.true_or, Nat.reduceSub, Nat.reduceMul, Int.reduceAdd, Int.reduceEq, Int.reduceLT, Int.reduceLE, Int.reduceNeg, Nat.reduceLT, Nat.reduceLeDiff, Nat.reduceEqDiff]; try simp) (by simp only [go_sem, Bool.not_not, List.mem_singleton, forall_eq, ↓reduceIte, if_pos, rowsAt_map, wrap64, wrapu8, List.getElem?_cons_zero, List.getElem?_cons_succ, Int.reduceToNat, Nat.reduceAdd, Nat.reduceBEq, Bool.or_false, Bool.false_or, Bool.true_or, Nat.reduceSub, Nat.reduceMul, Int.reduceAdd, Int.reduceEq, Int.reduceLT, Int.reduceLE, Int.reduceNeg, Nat.reduceLT, Nat.reduceLeDiff, Nat.reduceEqDiff, List.map_append]; try simp [go_sem])⟩
  · exact ⟨(j + 1, o), ⟨by simp only; omega, by rw [← h2, plc_f (j := j) (by omega) ‹_›], by simp only; omega⟩, by simp only; omega, (by exact zwc 2)⟩
  rw [show m - j = 0 by omega, List.range'_zero, plc] at h2
  simp only [List.filter_nil, List.map_nil, List.append_nil] at h2
  subst h2
  exact fin_own rfl rfl
def Rd (d : D) : Option Blk := some (.rows 1 [[d]])
attribute [go_sem] Rd
theorem places2_ok (d e : D) (r : Int) (m : Nat) (F : FuncId) (p : Nat → Bool) (hm : m < 1000000000000) (h : ∀ j : Nat, j < m → AFn env F ([aI j] ++ [.ptr 0 0 0 1, .ptr 1 0 0 1].map .c) [Rd d, Rd e] (aB (p j)) [Rd d, Rd e]) :
    AFn env 101 [aI r, aI m, .c (.clo (.func F) [.ptr 0 0 0 1, .ptr 1 0 0 1])] [Rd d, Rd e] (OwnK 2 (plF r m p).length) [Rd d, Rd e, RwK (plF r m p)] := by
  refine afn_body Tryz.func101 rfl (by decide) ?_
  simp only [Tryz.ntmps101, Tryz.results101, List.length_cons, List.length_nil, List.cons_append, List.nil_append, Nat.reduceAdd, Nat.reduceSub, List.replicate]
  iterate 2 (refine awp_seq ?_; refine awp_region ?_; refine zS ?_)
  refine awp_wk (wk_virt none (i := 7) (s := 2) (by decide) rfl) ?_
  refine zT ?_
  repeat' first
  | ((with_reducible refine awp_seqQ ?_); intro _ _)
  | ((with_reducible refine awp_region ?_); refine zS ?_)
  | with_reducible refine awp_block ?_
  refine awp_loopT (fun z : Nat × List Lk => z.1 ≤ m ∧ z.2 ++ plc r p (List.range' z.1 (m - z.1)) = plF r m p ∧ z.2.length ≤ z.1) (fun z => m - z.1) (fun z => [(7, OwnK 2 z.2.length), (10, aI z.1)]) (fun z => [Rd d, Rd e, RwK z.2]) (0, []) ⟨by simp, by simp [plF], by simp⟩ (by exact zwl) ?_
  rintro ⟨j, o⟩ ⟨h1, h2, h3⟩
  simp only at h1 h2 h3
  simp only [List.map, List.cons_append, List.nil_append] at h
  refine zT ?_
  repeat' first
  | ((with_reducible refine awp_seqQ ?_); intro _ _)
  | ((with_reducible refine awp_region ?_); refine zS ?_)
  | ((with_reducible refine AWP_c ?_); refine zcdD ?_ ?_ <;> intro hb hb2 <;> first | contradiction | (exfalso; omega) | ((try refine zH hb2 ?_); try clear hb2))
  | ((with_reducible refine AWP_c ?_); refine zcdB ?_ ?_ <;> intro hb <;> first | contradiction | (try refine zH hb ?_))
  | ((with_reducible refine awp_skip ?_); try refine zS ?_)
  | with_reducible refine awp_block ?_
  | ((with_reducible refine awp_exit ?_); try refine zS ?_)
  | ((with_reducible refine CallK_id ?_); refine zcT [0, 1] ?_; refine ⟨_, _, by first | exact h j (by omega) | fail, ?_⟩; try refine zS ?_)
  | ((with_reducible refine awp_ret ?_); refine q_step (by assumption) ?_)
  | ((with_reducible refine q_step (by assumption) ?_); try refine zS ?_)
  · exact ⟨(j + 1, o ++ [⟨r, (j : Int)⟩]), ⟨by simp only; omega, by rw [← h2, plc_t (j := j) (by omega) ‹_›]; simp, by simp; omega⟩, by simp only; omega, wk_cl 3 (by decide) (by simp) (by simp only [go_sem, Bool.not_not, List.mem_singleton, forall_eq, ↓reduceIte, if_pos, rowsAt_map, wrap64, wrapu8, List.getElem?_cons_zero, List.getElem?_cons_succ, Int.reduceToNat, Nat.reduceAdd, Nat.reduceBEq, Bool.or_false, Bool.false_or, Bool.true_or, Nat.reduceSub, Nat.reduceMul, Int.reduceAdd, Int.reduceEq, Int.reduceLT, Int.reduceLE, Int.reduceNeg, Nat.reduceLT, Nat.reduceLeDiff, Nat.reduceEqDiff]; try simp) (by simp only [go_sem, Bool.not_not, List.mem_singleton, forall_eq, ↓reduceIte, if_pos, rowsAt_map, wrap64, wrapu8, List.getElem?_cons_zero, List.getElem?_cons_succ, Int.reduceToNat, Nat.reduceAdd, Nat.reduceBEq, Bool.or_false, Bool.false_or, Bool.true_or, Nat.reduceSub, Nat.reduceMul, Int.reduceAdd, Int.reduceEq, Int.reduceLT, Int.reduceLE, Int.reduceNeg, Nat.reduceLT, Nat.reduceLeDiff, Nat.reduceEqDiff, List.map_append]; try simp [go_sem])⟩
  · exact ⟨(j + 1, o), ⟨by simp only; omega, by rw [← h2, plc_f (j := j) (by omega) ‹_›], by simp only; omega⟩, by simp only; omega, (by exact zwc 3)⟩
  rw [show m - j = 0 by omega, List.range'_zero, plc] at h2
  simp only [List.filter_nil, List.map_nil, List.append_nil] at h2
  subst h2
  exact fin_own rfl rfl
theorem places3_ok (n : Gr) (d e : D) (r : Int) (m : Nat) (F : FuncId) (p : Nat → Bool) (hm : m < 1000000000000) (h : ∀ j : Nat, j < m → AFn env F ([aI j] ++ [.ptr 0 0 0 0, .ptr 1 0 0 1, .ptr 2 0 0 1].map .c) [some (.box n.bs), Rd d, Rd e] (aB (p j)) [some (.box n.bs), Rd d, Rd e]) :
    AFn env 101 [aI r, aI m, .c (.clo (.func F) [.ptr 0 0 0 0, .ptr 1 0 0 1, .ptr 2 0 0 1])] [some (.box n.bs), Rd d, Rd e] (OwnK 3 (plF r m p).length) [some (.box n.bs), Rd d, Rd e, RwK (plF r m p)] := by
  refine afn_body Tryz.func101 rfl (by decide) ?_
  simp only [Tryz.ntmps101, Tryz.results101, List.length_cons, List.length_nil, List.cons_append, List.nil_append, Nat.reduceAdd, Nat.reduceSub, List.replicate]
  iterate 2 (refine awp_seq ?_; refine awp_region ?_; refine zS ?_)
  refine awp_wk (wk_virt none (i := 7) (s := 2) (by decide) rfl) ?_
  refine zT ?_
  repeat' first
  | ((with_reducible refine awp_seqQ ?_); intro _ _)
  | ((with_reducible refine awp_region ?_); refine zS ?_)
  | with_reducible refine awp_block ?_
  refine awp_loopT (fun z : Nat × List Lk => z.1 ≤ m ∧ z.2 ++ plc r p (List.range' z.1 (m - z.1)) = plF r m p ∧ z.2.length ≤ z.1) (fun z => m - z.1) (fun z => [(7, OwnK 3 z.2.length), (10, aI z.1)]) (fun z => [some (.box n.bs), Rd d, Rd e, RwK z.2]) (0, []) ⟨by simp, by simp [plF], by simp⟩ (by exact zwl) ?_
  rintro ⟨j, o⟩ ⟨h1, h2, h3⟩
  simp only at h1 h2 h3
  simp only [List.map, List.cons_append, List.nil_append] at h
  refine zT ?_
  repeat' first
  | ((with_reducible refine awp_seqQ ?_); intro _ _)
  | ((with_reducible refine awp_region ?_); refine zS ?_)
  | ((with_reducible refine AWP_c ?_); refine zcdD ?_ ?_ <;> intro hb hb2 <;> first | contradiction | (exfalso; omega) | ((try refine zH hb2 ?_); try clear hb2))
  | ((with_reducible refine AWP_c ?_); refine zcdB ?_ ?_ <;> intro hb <;> first | contradiction | (try refine zH hb ?_))
  | ((with_reducible refine awp_skip ?_); try refine zS ?_)
  | with_reducible refine awp_block ?_
  | ((with_reducible refine awp_exit ?_); try refine zS ?_)
  | ((with_reducible refine CallK_id ?_); refine zcT [0, 1, 2] ?_; refine ⟨_, _, by first | exact h j (by omega) | fail, ?_⟩; try refine zS ?_)
  | ((with_reducible refine awp_ret ?_); refine q_step (by assumption) ?_)
  | ((with_reducible refine q_step (by assumption) ?_); try refine zS ?_)
  · exact ⟨(j + 1, o ++ [⟨r, (j : Int)⟩]), ⟨by simp only; omega, by rw [← h2, plc_t (j := j) (by omega) ‹_›]; simp, by simp; omega⟩, by simp only; omega, wk_cl 4 (by decide) (by simp) (by simp only [go_sem, Bool.not_not, List.mem_singleton, forall_eq, ↓reduceIte, if_pos, rowsAt_map, wrap64, wrapu8, List.getElem?_cons_zero, List.getElem?_cons_succ, Int.reduceToNat, Nat.reduceAdd, Nat.reduceBEq, Bool.or_false, Bool.false_or, Bool.true_or, Nat.reduceSub, Nat.reduceMul, Int.reduceAdd, Int.reduceEq, Int.reduceLT, Int.reduceLE, Int.reduceNeg, Nat.reduceLT, Nat.reduceLeDiff, Nat.reduceEqDiff]; try simp) (by simp only [go_sem, Bool.not_not, List.mem_singleton, forall_eq, ↓reduceIte, if_pos, rowsAt_map, wrap64, wrapu8, List.getElem?_cons_zero, List.getElem?_cons_succ, Int.reduceToNat, Nat.reduceAdd, Nat.reduceBEq, Bool.or_false, Bool.false_or, Bool.true_or, Nat.reduceSub, Nat.reduceMul, Int.reduceAdd, Int.reduceEq, Int.reduceLT, Int.reduceLE, Int.reduceNeg, Nat.reduceLT, Nat.reduceLeDiff, Nat.reduceEqDiff, List.map_append]; try simp [go_sem])⟩
  · exact ⟨(j + 1, o), ⟨by simp only; omega, by rw [← h2, plc_f (j := j) (by omega) ‹_›], by simp only; omega⟩, by simp only; omega, (by exact zwc 4)⟩
  rw [show m - j = 0 by omega, List.range'_zero, plc] at h2
  simp only [List.filter_nil, List.map_nil, List.append_nil] at h2
  subst h2
  exact fin_own rfl rfl
end Go.Eng
open Go Go.Proofs
namespace Go.Eng
set_option linter.unusedSimpArgs false
set_option linter.unusedVariables false
set_option maxRecDepth 10000
set_option maxHeartbeats 8000000
theorem rowsAt1 (r : List D) : rowsAt [r] 0 = r := rfl
theorem mapCd1 (d : D) : List.map C.d [d] = [C.d d] := rfl
attribute [go_sem] rowsAt1 mapCd1 List.getElem?_nil
theorem plF_len (r : Int) (m : Nat) (p : Nat → Bool) : (plF r m p).length ≤ m := by have := plc_len r p (List.range' 0 m); simpa [plF] using this
structure GrOk (n : Gr) : Prop where
  hn : n.ns.length ≤ 1000000
  hf : n.fs.length ≤ 1000000
  ns : ∀ d ∈ n.ns, d.t.size < 4611686018427387904
  fs : ∀ f ∈ n.fs, f.t.size < 4611686018427387904
theorem all1_ok (n : Gr) (hg : GrOk n) (j : Nat) (hj : j < n.ns.length) : AFn env 102 [aI j, P0] [some (.box n.bs)] (aB (!rightN (gt n.ns j))) [some (.box n.bs)] := by
  refine afn_body Tryz.func102 rfl (by decide) ?_
  simp only [Tryz.ntmps102, Tryz.results102, List.length_cons, List.length_nil, List.cons_append, List.nil_append, Nat.reduceAdd, Nat.reduceSub, List.replicate]
  repeat' first
  | ((with_reducible refine awp_seqQ ?_); intro _ _)
  | ((with_reducible refine awp_region ?_); refine zS ?_)
  | ((with_reducible refine CallK_id ?_); refine zcF ?_; refine ⟨_, by first | exact right_okN (gt n.ns j) (hg.ns _ (gt_mem hj)) | fail, fun _ => rfl, fun _ => rfl, rfl, ?_⟩; try refine zS ?_)
  | ((with_reducible refine awp_ret ?_); refine q_step (by assumption) ?_)
  | with_reducible refine fin_r ?_
  | ((with_reducible refine q_step (by assumption) ?_); try refine zS ?_)
  all_goals rfl
theorem all2_ok (n : Gr) (hg : GrOk n) (j : Nat) (hj : j < n.fs.length) : AFn env 104 [aI j, P0] [some (.box n.bs)] (aB (!leadsF n (gt n.fs j))) [some (.box n.bs)] := by
  refine afn_body Tryz.func104 rfl (by decide) ?_
  simp only [Tryz.ntmps104, Tryz.results104, List.length_cons, List.length_nil, List.cons_append, List.nil_append, Nat.reduceAdd, Nat.reduceSub, List.replicate]
  repeat' first
  | ((with_reducible refine awp_seqQ ?_); intro _ _)
  | ((with_reducible refine awp_region ?_); refine zS ?_)
  | ((with_reducible refine awp_drawnC ?_ ?_); rfl; refine zS ?_)
  | ((with_reducible refine DStep_id ?_); refine zdW ?_; refine ⟨_, by first | exact leads_ok n (gt n.fs j) (hg.fs _ (gt_mem hj)) (by have := hg.hn; omega) (by have := hg.hf; omega) | fail, fun _ => rfl, fun _ => rfl, rfl, ?_⟩; try refine zS ?_)
  | ((with_reducible refine awp_ret ?_); refine q_step (by assumption) ?_)
  | with_reducible refine fin_r ?_
  | ((with_reducible refine q_step (by assumption) ?_); try refine zS ?_)
  all_goals rfl
def PR (i : Nat) : A := .c (.ptr i 0 0 1)
attribute [go_sem] PR
def inG (n : Gr) : Prop := ∀ f ∈ n.fs, 0 ≤ f.src ∧ f.src < n.ns.length ∧ 0 ≤ f.dst ∧ f.dst < n.ns.length
def third1F (n : Gr) (s e : Int) (j : Nat) : Bool := (!fitsF n j || (decide ((gt n.ns j).kind = 1) && decide ((j : Int) ≠ s))) || (decide ((gt n.ns j).kind = 2) && decide ((j : Int) ≠ e))
theorem third1_ok (n : Gr) (hg : GrOk n) (hi : inG n) (s e : Int) (j : Nat) (hj : j < n.ns.length) : AFn env 124 [aI j, P0, PR 1, PR 2] [some (.box n.bs), Rd (dI s), Rd (dI e)] (aB (third1F n s e j)) [some (.box n.bs), Rd (dI s), Rd (dI e)] := by
  refine afn_body Tryz.func124 rfl (by decide) ?_
  simp only [Tryz.ntmps124, Tryz.results124, List.length_cons, List.length_nil, List.cons_append, List.nil_append, Nat.reduceAdd, Nat.reduceSub, List.replicate]
  repeat' first
  | ((with_reducible refine awp_seqQ ?_); intro _ _)
  | ((with_reducible refine awp_region ?_); refine zS ?_)
  | ((with_reducible refine Gd_d ?_ ?_) <;> intro hb hb2 <;> first | contradiction | (exfalso; omega) | (refine zH hb2 ?_; try clear hb2))
  | ((with_reducible refine Gd_b ?_ ?_) <;> intro hb <;> first | contradiction | refine zH hb ?_)
  | ((with_reducible refine CallK_id ?_); refine zcF ?_; refine ⟨_, by first | exact fits_ok n j (by have := hg.hf; omega) (by omega) (by omega) (fun f hf => (hi f hf).2.2) | fail, fun _ => rfl, fun _ => rfl, rfl, ?_⟩; try refine zS ?_)
  | ((with_reducible refine awp_ret ?_); refine q_step (by assumption) ?_)
  | with_reducible refine fin_r ?_
  | ((with_reducible refine q_step (by assumption) ?_); try refine zS ?_)
  all_goals first | (simp [go_sem, third1F, *]; done) | (simp only [third1F, ‹fitsF n _ = _›]; simp [go_sem]; omega) | trace_state
def thirdF (n : Gr) : List Lk := plF 3 n.ns.length (third1F n (startF n) (endF n)) ++ (if startF n < 0 ∨ endF n < 0 then [⟨3, n.ns.length⟩] else [])
theorem third_ok (n : Gr) (hg : GrOk n) (hi : inG n) : AFn env 106 [n.a] [] (aF ((thirdF n).map Lk.row)) [] := by
  have hn := hg.hn
  have hpl := plF_len 3 n.ns.length (third1F n (startF n) (endF n))
  refine afn_body Tryz.func106 rfl (by decide) ?_
  simp only [Tryz.ntmps106, Tryz.results106, List.length_cons, List.length_nil, List.cons_append, List.nil_append, Nat.reduceAdd, Nat.reduceSub, List.replicate]
  refine awp_seq ?_
  refine awp_region ?_
  refine zS ?_
  refine awp_wk (wk_vnew (s := 1) none (by decide)) ?_
  refine awp_wk (wk_vnew (s := 1) none (by decide)) ?_
  refine zT ?_
  refine awp_seq ?_
  refine awp_drawV ⟨4, 5, 6, 7, 1, 1, 2, 1⟩ (by decide) (by decide) rfl rfl (by decide) (by decide) (by decide) ?_
  simp only [List.set_cons_succ, List.set_cons_zero]
  refine go_p (by simp only [go_sem, Bool.not_not, List.mem_singleton, forall_eq, ↓reduceIte, if_pos, rowsAt_map, wrap64, wrapu8, List.getElem?_cons_zero, List.getElem?_cons_succ, Int.reduceToNat, Nat.reduceAdd, Nat.reduceBEq, Bool.or_false, Bool.false_or, Bool.true_or, Nat.reduceSub, Nat.reduceMul, Int.reduceAdd, Int.reduceEq, Int.reduceLT, Int.reduceLE, Int.reduceNeg, Nat.reduceLT, Nat.reduceLeDiff, Nat.reduceEqDiff]; rfl) rfl (by decide) rfl rfl ?_
  refine zT ?_
  refine go_c ⟨_, rfl⟩ rfl (by simp only [go_sem, Bool.not_not, List.mem_singleton, forall_eq, ↓reduceIte, if_pos, rowsAt_map, wrap64, wrapu8, List.getElem?_cons_zero, List.getElem?_cons_succ, Int.reduceToNat, Nat.reduceAdd, Nat.reduceBEq, Bool.or_false, Bool.false_or, Bool.true_or, Nat.reduceSub, Nat.reduceMul, Int.reduceAdd, Int.reduceEq, Int.reduceLT, Int.reduceLE, Int.reduceNeg, Nat.reduceLT, Nat.reduceLeDiff, Nat.reduceEqDiff]) rfl (by decide) (start_ok n (by omega)) (fun _ => rfl) (fun _ => rfl) rfl ?_
  refine zT ?_
  refine go_p (by simp only [go_sem, Bool.not_not, List.mem_singleton, forall_eq, ↓reduceIte, if_pos, rowsAt_map, wrap64, wrapu8, List.getElem?_cons_zero, List.getElem?_cons_succ, Int.reduceToNat, Nat.reduceAdd, Nat.reduceBEq, Bool.or_false, Bool.false_or, Bool.true_or, Nat.reduceSub, Nat.reduceMul, Int.reduceAdd, Int.reduceEq, Int.reduceLT, Int.reduceLE, Int.reduceNeg, Nat.reduceLT, Nat.reduceLeDiff, Nat.reduceEqDiff]; rfl) rfl (by decide) rfl rfl ?_
  refine zT ?_
  refine go_c ⟨_, rfl⟩ rfl (by simp only [go_sem, Bool.not_not, List.mem_singleton, forall_eq, ↓reduceIte, if_pos, rowsAt_map, wrap64, wrapu8, List.getElem?_cons_zero, List.getElem?_cons_succ, Int.reduceToNat, Nat.reduceAdd, Nat.reduceBEq, Bool.or_false, Bool.false_or, Bool.true_or, Nat.reduceSub, Nat.reduceMul, Int.reduceAdd, Int.reduceEq, Int.reduceLT, Int.reduceLE, Int.reduceNeg, Nat.reduceLT, Nat.reduceLeDiff, Nat.reduceEqDiff]) rfl (by decide) (end_ok n (by omega)) (fun _ => rfl) (fun _ => rfl) rfl ?_
  refine zT ?_
  refine go_1 rfl rfl (by simp only [go_sem, Bool.not_not, List.mem_singleton, forall_eq, ↓reduceIte, if_pos, rowsAt_map, wrap64, wrapu8, List.getElem?_cons_zero, List.getElem?_cons_succ, Int.reduceToNat, Nat.reduceAdd, Nat.reduceBEq, Bool.or_false, Bool.false_or, Bool.true_or, Nat.reduceSub, Nat.reduceMul, Int.reduceAdd, Int.reduceEq, Int.reduceLT, Int.reduceLE, Int.reduceNeg, Nat.reduceLT, Nat.reduceLeDiff, Nat.reduceEqDiff]; rfl) rfl ?_
  refine zT ?_
  refine go_2 rfl rfl (by simp only [go_sem, Bool.not_not, List.mem_singleton, forall_eq, ↓reduceIte, if_pos, rowsAt_map, wrap64, wrapu8, List.getElem?_cons_zero, List.getElem?_cons_succ, Int.reduceToNat, Nat.reduceAdd, Nat.reduceBEq, Bool.or_false, Bool.false_or, Bool.true_or, Nat.reduceSub, Nat.reduceMul, Int.reduceAdd, Int.reduceEq, Int.reduceLT, Int.reduceLE, Int.reduceNeg, Nat.reduceLT, Nat.reduceLeDiff, Nat.reduceEqDiff]; rfl) rfl ?_
  refine zT ?_
  refine go_s1 rfl rfl (by decide) rfl rfl rfl rfl ?_
  refine zT ?_
  refine go_s2 rfl rfl (by decide) rfl rfl rfl rfl ?_
  refine zT ?_
  refine go_e ?_
  repeat' first
  | ((with_reducible refine awp_seqQ ?_); intro _ _)
  | ((with_reducible refine awp_region ?_); refine zS ?_)
  | ((with_reducible refine Gd_nd ?_ ?_) <;> intro hb hb2 <;> first | contradiction | (exfalso; omega) | (refine zH hb2 ?_; try clear hb2))
  | ((with_reducible refine AWP_c ?_); refine zcdT ?_)
  | ((with_reducible refine AWP_c ?_); refine zcdD ?_ ?_ <;> intro hb hb2 <;> first | contradiction | (exfalso; omega) | ((try refine zH hb2 ?_); try clear hb2))
  | ((with_reducible refine awp_skip ?_); try refine zS ?_)
  | ((with_reducible refine CallK_id ?_); refine zcT [0, 1, 2] ?_; refine ⟨_, _, by first | exact places3_ok n (dI (startF n)) (dI (endF n)) 3 n.ns.length 124 (third1F n (startF n) (endF n)) (by have := hg.hn; omega) (fun j hj => third1_ok n hg hi _ _ j hj) | fail, ?_⟩; try refine zS ?_)
  | ((with_reducible refine awp_ret ?_); refine q_step (by assumption) ?_)
  | ((with_reducible refine q_step (by assumption) ?_); try refine zS ?_)
  all_goals first
    | (refine fin_r ?_; rw [thirdF, if_neg (by omega)]; simp [go_sem]; done)
    | (refine fin_r (r0 := aF ((plF 3 n.ns.length (third1F n (startF n) (endF n))).map Lk.row ++ [[dI 3, dI n.ns.length]])) (H1 := [_, _, _, none, _]) ?_ (h2 := by simp [go_sem, frA, subR, List.take_of_length_le]; exact ⟨rfl, rfl, rfl, rfl⟩); rw [thirdF, if_pos (by omega)]; simp [go_sem]; done)
    | trace_state
end Go.Eng
open Go Go.Proofs
namespace Go.Eng
set_option linter.unusedSimpArgs false
set_option linter.unusedVariables false
set_option maxRecDepth 10000
set_option maxHeartbeats 8000000
def nextF (i : Int) (back : Bool) (f : Fl) : Option Int := if back = true then (if f.dst = i then some f.src else none) else if f.src = i then some f.dst else none
def nexts (n : Gr) (i : Int) (back : Bool) : List Int := n.fs.filterMap (nextF i back)
def metN (n : Gr) (back : Bool) : Nat → List Bool → List Int → List Bool
  | 0, s, _ => s
  | _ + 1, s, [] => s
  | k + 1, s, i :: t => if s.length ≤ i.toNat ∨ gb s i = true then metN n back k s t else metN n back k (s.set i.toNat true) (t ++ nexts n i back)
def meas (n : Gr) (s : List Bool) (t : List Int) : Nat := cf s * (n.fs.length + 1) + t.length
def metF (n : Gr) (from_ : Int) (back : Bool) : List Bool := metN n back (n.ns.length * (n.fs.length + 1) + 1) (List.replicate n.ns.length false) [from_]
theorem nexts_len (n : Gr) (i : Int) (back : Bool) : (nexts n i back).length ≤ n.fs.length := List.length_filterMap_le _ _
theorem metN_nil (n : Gr) (back : Bool) (k : Nat) (s : List Bool) : metN n back k s [] = s := by cases k <;> rfl
theorem meas_step {n : Gr} {s : List Bool} {i : Int} {t : List Int} {back : Bool} (h : ¬ (s.length ≤ i.toNat ∨ gb s i = true)) : meas n (s.set i.toNat true) (t ++ nexts n i back) ≤ cf s * (n.fs.length + 1) + t.length := by
  have hc := cf_set (s := s) (j := i.toNat) (by omega) (by have : ¬ gb s i = true := fun h' => h (.inr h'); simpa [gb] using this)
  have := nexts_len n i back
  unfold meas
  rw [← hc, Nat.add_mul, Nat.one_mul, List.length_append]
  omega
theorem metN_ge (n : Gr) (back : Bool) : ∀ (k : Nat) (s : List Bool) (t : List Int), meas n s t ≤ k → metN n back k s t = metN n back (meas n s t) s t := by
  intro k
  induction k using Nat.strongRecOn with
  | _ k ih =>
    intro s t h
    cases t with
    | nil => rw [metN_nil, metN_nil]
    | cons i t =>
      have hm : meas n s (i :: t) = (cf s * (n.fs.length + 1) + t.length) + 1 := by simp [meas]; omega
      rw [hm] at h ⊢
      obtain ⟨k, rfl⟩ : ∃ j, k = j + 1 := ⟨k - 1, by omega⟩
      rw [metN, metN]
      split
      · exact ih k (by omega) s t (by simp only [meas]; omega)
      · rename_i hc
        have h2 := meas_step (n := n) (t := t) (back := back) hc
        rw [ih k (by omega) _ _ (by omega), ih (cf s * (n.fs.length + 1) + t.length) (by omega) _ _ h2]
theorem metN_go {n : Gr} {back : Bool} {s : List Bool} {i : Int} {t : List Int} (h : ¬ (s.length ≤ i.toNat ∨ gb s i = true)) : metN n back (meas n s (i :: t)) s (i :: t) = metN n back (meas n (s.set i.toNat true) (t ++ nexts n i back)) (s.set i.toNat true) (t ++ nexts n i back) := by
  rw [show meas n s (i :: t) = (cf s * (n.fs.length + 1) + t.length) + 1 by simp [meas]; omega, metN, if_neg h, metN_ge _ _ _ _ _ (meas_step h)]
theorem metN_no {n : Gr} {back : Bool} {s : List Bool} {i : Int} {t : List Int} (h : gb s i = true) : metN n back (meas n s (i :: t)) s (i :: t) = metN n back (meas n s t) s t := by
  rw [show meas n s (i :: t) = meas n s t + 1 by simp [meas]; omega, metN, if_pos (.inr h)]
theorem metN_len (n : Gr) (back : Bool) : ∀ (k : Nat) (s : List Bool) (t : List Int), (metN n back k s t).length = s.length
  | 0, s, _ => rfl
  | _ + 1, s, [] => rfl
  | k + 1, s, i :: t => by
    rw [metN]
    split
    · exact metN_len n back k s t
    · rw [metN_len n back k]; simp
def RwO1 (s : List Bool) : Option Blk := some (.rows 1 (s.map bRow))
def OwnT (off len n : Nat) : A := .c (.own 2 off len n)
attribute [go_sem] OwnT
structure MetI (n : Gr) (from_ : Int) (back : Bool) (s : List Bool) (off len : Nat) (rs : List Int) : Prop where
  sl : s.length = n.ns.length
  ol : off + len = rs.length
  bd : rs.length + cf s * n.fs.length ≤ 1 + n.ns.length * n.fs.length
  rg : ∀ i ∈ rs, 0 ≤ i ∧ i < n.ns.length
  eq : metN n back (meas n s (rs.drop off)) s (rs.drop off) = metF n from_ back
theorem met_ok (n : Gr) (from_ : Int) (back : Bool) (hg : GrOk n) (hi : inG n) (h0 : 0 ≤ from_ ∧ from_ < n.ns.length) : AFn env 107 [n.a, aI from_, aB back] [] (aF ((metF n from_ back).map bRow)) [] := by
  have hn := hg.hn
  have hf := hg.hf
  have hb : n.ns.length * n.fs.length ≤ 1000000 * 1000000 := Nat.mul_le_mul hn hf
  refine afn_body Tryz.func107 rfl (by decide) ?_
  simp only [Tryz.ntmps107, Tryz.results107, List.length_cons, List.length_nil, List.cons_append, List.nil_append, Nat.reduceAdd, Nat.reduceSub, List.replicate]
  repeat' first
  | ((with_reducible refine awp_seqQ ?_); intro _ _)
  | ((with_reducible refine awp_region ?_); refine zS ?_)
  | with_reducible refine awp_block ?_
  refine awp_loopT (fun z : List Bool × Nat × Nat × List Int => MetI n from_ back z.1 z.2.1 z.2.2.1 z.2.2.2) (fun z => cf z.1 * (n.fs.length + 1) + z.2.2.1) (fun z => [(8, OwnT z.2.1 z.2.2.1 z.2.2.2.length)]) (fun z => [some (.box n.bs), RwO z.1, RwG z.2.2.2]) (List.replicate n.ns.length false, 0, 1, [from_]) ⟨by simp, by simp, by simp [cf_rep], by simpa using h0, by simp [metF, meas, cf_rep]⟩ (by exact zwl) ?_
  rintro ⟨s, off, len, rs⟩ ⟨h1, h2, h3, h4, h5⟩
  simp only at h1 h2 h3 h4 h5
  have hR : off < rs.length → 0 ≤ gt rs off ∧ gt rs off < n.ns.length := fun h => h4 _ (gt_mem h)
  refine zT ?_
  repeat' first
  | ((with_reducible refine awp_seqQ ?_); intro _ _)
  | ((with_reducible refine awp_region ?_); refine zS ?_)
  | ((with_reducible refine AWP_c ?_); refine zcdD ?_ ?_ <;> intro hb hb2 <;> first | contradiction | (exfalso; omega) | ((try refine zH hb2 ?_); try clear hb2))
  | ((with_reducible refine AWP_c ?_); refine zcdB ?_ ?_ <;> intro hb <;> first | contradiction | (try refine zH hb ?_))
  | ((with_reducible refine awp_skip ?_); try refine zS ?_)
  | with_reducible refine awp_block ?_
  | ((with_reducible refine awp_exit ?_); try refine zS ?_)
  | ((with_reducible refine awp_ret ?_); refine q_step (by assumption) ?_)
  | ((with_reducible refine q_step (by assumption) ?_); try refine zS ?_)
  rotate_right
  · have hl0 : len = 0 := by omega
    rw [List.drop_eq_nil_of_le (by omega), metN_nil] at h5
    simp only [← h1]
    refine fin_r ?_
    rw [h5]
  · have hd : rs.drop off = gt rs off :: rs.drop (off + 1) := drop_gt (by omega)
    exact ⟨(s, off + 1, len - 1, rs), ⟨h1, by simp only; omega, h3, h4, by rw [← h5, hd, metN_no (by simpa [gb] using ‹gt s _ = true›)]⟩, by simp only; omega, (by exact zwc 3)⟩
  have hd : rs.drop off = gt rs off :: rs.drop (off + 1) := drop_gt (by omega)
  have hR := hR (by omega)
  have hgs : ¬ (s.length ≤ (gt rs off).toNat ∨ gb s (gt rs off) = true) := by
    rintro (h | h)
    · omega
    · rw [gb, ‹gt s _ = false›] at h; cases h
  have hcf := cf_set (s := s) (j := (gt rs off).toNat) (by omega) ‹_›
  have hmu : cf s * n.fs.length = cf (s.set (gt rs off).toNat true) * n.fs.length + n.fs.length := by rw [← hcf, Nat.add_mul, Nat.one_mul]
  have hmu2 : cf s * (n.fs.length + 1) = cf (s.set (gt rs off).toNat true) * (n.fs.length + 1) + (n.fs.length + 1) := by rw [← hcf, Nat.add_mul, Nat.one_mul]
  rw [hd, metN_go hgs] at h5
  generalize hi0 : gt rs off = i0 at *
  refine awp_loopT (fun z : Nat × Nat × List Int => z.1 ≤ n.fs.length ∧ z.2.2 ++ (n.fs.drop z.1).filterMap (nextF i0 back) = rs ++ nexts n i0 back ∧ off + 1 + z.2.1 = z.2.2.length ∧ z.2.2.length ≤ rs.length + z.1) (fun z => n.fs.length - z.1) (fun z => [(8, OwnT (off + 1) z.2.1 z.2.2.length), (36, aI z.1)]) (fun z => [some (.box n.bs), RwO (s.set i0.toNat true), RwG z.2.2]) (0, len - 1, rs) ⟨by simp, by simp [nexts], by simp only; omega, by simp⟩ (by exact zwl) ?_
  rintro ⟨j, len2, rs2⟩ ⟨g1, g2, g3, g4⟩
  simp only at g1 g2 g3 g4
  refine zT ?_
  repeat' first
  | ((with_reducible refine awp_seqQ ?_); intro _ _)
  | ((with_reducible refine awp_region ?_); refine zS ?_)
  | ((with_reducible refine Gd_b ?_ ?_) <;> intro hb <;> first | contradiction | refine zH hb ?_)
  | ((with_reducible refine AWP_c ?_); refine zcdF ?_)
  | ((with_reducible refine AWP_c ?_); refine zcdD ?_ ?_ <;> intro hb hb2 <;> first | contradiction | (exfalso; omega) | ((try refine zH hb2 ?_); try clear hb2))
  | ((with_reducible refine awp_skip ?_); try refine zS ?_)
  | with_reducible refine awp_block ?_
  | ((with_reducible refine awp_exit ?_); try refine zS ?_)
  | ((with_reducible refine q_step (by assumption) ?_); try refine zS ?_)
  all_goals try (
    have hj : j < n.fs.length := by omega
    rw [drop_gt hj, List.filterMap_cons] at g2
    first
    | (rename back = true => q1; rename (gt n.fs j).dst = i0 => q2; have e : nextF i0 back (gt n.fs j) = some (gt n.fs j).src := (by simp [nextF, q1, q2]); simp only [e] at g2; exact ⟨(j + 1, len2 + 1, rs2 ++ [(gt n.fs j).src]), ⟨by simp only; omega, by simp only [List.append_assoc, List.singleton_append]; exact g2, by simp only [List.length_append, List.length_singleton]; omega, by simp only [List.length_append, List.length_singleton]; omega⟩, by simp only; omega, wk_cl 3 (by decide) (by simp) (by simp only [go_sem, Bool.not_not, List.mem_singleton, forall_eq, ↓reduceIte, if_pos, rowsAt_map, wrap64, wrapu8, List.getElem?_cons_zero, List.getElem?_cons_succ, Int.reduceToNat, Nat.reduceAdd, Nat.reduceBEq, Bool.or_false, Bool.false_or, Bool.true_or, Nat.reduceSub, Nat.reduceMul, Int.reduceAdd, Int.reduceEq, Int.reduceLT, Int.reduceLE, Int.reduceNeg, Nat.reduceLT, Nat.reduceLeDiff, Nat.reduceEqDiff]; (try simp); (try exact q1)) (by simp only [go_sem, Bool.not_not, List.mem_singleton, forall_eq, ↓reduceIte, if_pos, rowsAt_map, wrap64, wrapu8, List.getElem?_cons_zero, List.getElem?_cons_succ, Int.reduceToNat, Nat.reduceAdd, Nat.reduceBEq, Bool.or_false, Bool.false_or, Bool.true_or, Nat.reduceSub, Nat.reduceMul, Int.reduceAdd, Int.reduceEq, Int.reduceLT, Int.reduceLE, Int.reduceNeg, Nat.reduceLT, Nat.reduceLeDiff, Nat.reduceEqDiff, List.map_append]; try simp [go_sem])⟩)
    | (rename back = true => q1; rename ¬ (gt n.fs j).dst = i0 => q2; have e : nextF i0 back (gt n.fs j) = none := (by simp [nextF, q1, q2]); simp only [e] at g2; exact ⟨(j + 1, len2, rs2), ⟨by simp only; omega, g2, by simp only; omega, by simp only; omega⟩, by simp only; omega, wk_cl 3 (by decide) (by simp) (by simp only [go_sem, Bool.not_not, List.mem_singleton, forall_eq, ↓reduceIte, if_pos, rowsAt_map, wrap64, wrapu8, List.getElem?_cons_zero, List.getElem?_cons_succ, Int.reduceToNat, Nat.reduceAdd, Nat.reduceBEq, Bool.or_false, Bool.false_or, Bool.true_or, Nat.reduceSub, Nat.reduceMul, Int.reduceAdd, Int.reduceEq, Int.reduceLT, Int.reduceLE, Int.reduceNeg, Nat.reduceLT, Nat.reduceLeDiff, Nat.reduceEqDiff]; (try simp); (try exact q1)) (by simp only [go_sem, Bool.not_not, List.mem_singleton, forall_eq, ↓reduceIte, if_pos, rowsAt_map, wrap64, wrapu8, List.getElem?_cons_zero, List.getElem?_cons_succ, Int.reduceToNat, Nat.reduceAdd, Nat.reduceBEq, Bool.or_false, Bool.false_or, Bool.true_or, Nat.reduceSub, Nat.reduceMul, Int.reduceAdd, Int.reduceEq, Int.reduceLT, Int.reduceLE, Int.reduceNeg, Nat.reduceLT, Nat.reduceLeDiff, Nat.reduceEqDiff])⟩)
    | (rename back = false => q1; rename (gt n.fs j).src = i0 => q2; have e : nextF i0 back (gt n.fs j) = some (gt n.fs j).dst := (by simp [nextF, q1, q2]); simp only [e] at g2; exact ⟨(j + 1, len2 + 1, rs2 ++ [(gt n.fs j).dst]), ⟨by simp only; omega, by simp only [List.append_assoc, List.singleton_append]; exact g2, by simp only [List.length_append, List.length_singleton]; omega, by simp only [List.length_append, List.length_singleton]; omega⟩, by simp only; omega, wk_cl 3 (by decide) (by simp) (by simp only [go_sem, Bool.not_not, List.mem_singleton, forall_eq, ↓reduceIte, if_pos, rowsAt_map, wrap64, wrapu8, List.getElem?_cons_zero, List.getElem?_cons_succ, Int.reduceToNat, Nat.reduceAdd, Nat.reduceBEq, Bool.or_false, Bool.false_or, Bool.true_or, Nat.reduceSub, Nat.reduceMul, Int.reduceAdd, Int.reduceEq, Int.reduceLT, Int.reduceLE, Int.reduceNeg, Nat.reduceLT, Nat.reduceLeDiff, Nat.reduceEqDiff]; (try simp); (try exact q1)) (by simp only [go_sem, Bool.not_not, List.mem_singleton, forall_eq, ↓reduceIte, if_pos, rowsAt_map, wrap64, wrapu8, List.getElem?_cons_zero, List.getElem?_cons_succ, Int.reduceToNat, Nat.reduceAdd, Nat.reduceBEq, Bool.or_false, Bool.false_or, Bool.true_or, Nat.reduceSub, Nat.reduceMul, Int.reduceAdd, Int.reduceEq, Int.reduceLT, Int.reduceLE, Int.reduceNeg, Nat.reduceLT, Nat.reduceLeDiff, Nat.reduceEqDiff, List.map_append]; try simp [go_sem])⟩)
    | (rename back = false => q1; rename ¬ (gt n.fs j).src = i0 => q2; have e : nextF i0 back (gt n.fs j) = none := (by simp [nextF, q1, q2]); simp only [e] at g2; exact ⟨(j + 1, len2, rs2), ⟨by simp only; omega, g2, by simp only; omega, by simp only; omega⟩, by simp only; omega, wk_cl 3 (by decide) (by simp) (by simp only [go_sem, Bool.not_not, List.mem_singleton, forall_eq, ↓reduceIte, if_pos, rowsAt_map, wrap64, wrapu8, List.getElem?_cons_zero, List.getElem?_cons_succ, Int.reduceToNat, Nat.reduceAdd, Nat.reduceBEq, Bool.or_false, Bool.false_or, Bool.true_or, Nat.reduceSub, Nat.reduceMul, Int.reduceAdd, Int.reduceEq, Int.reduceLT, Int.reduceLE, Int.reduceNeg, Nat.reduceLT, Nat.reduceLeDiff, Nat.reduceEqDiff]; (try simp); (try exact q1)) (by simp only [go_sem, Bool.not_not, List.mem_singleton, forall_eq, ↓reduceIte, if_pos, rowsAt_map, wrap64, wrapu8, List.getElem?_cons_zero, List.getElem?_cons_succ, Int.reduceToNat, Nat.reduceAdd, Nat.reduceBEq, Bool.or_false, Bool.false_or, Bool.true_or, Nat.reduceSub, Nat.reduceMul, Int.reduceAdd, Int.reduceEq, Int.reduceLT, Int.reduceLE, Int.reduceNeg, Nat.reduceLT, Nat.reduceLeDiff, Nat.reduceEqDiff])⟩)
    | skip)
  have hj : j = n.fs.length := by omega
  subst hj
  rw [List.drop_length, List.filterMap_nil, List.append_nil] at g2
  subst g2
  refine ⟨(s.set i0.toNat true, off + 1, len2, rs ++ nexts n i0 back), ⟨by simpa using h1, g3, by simp only; omega, fun k hk => ?_, ?_⟩, by simp only; simp only [List.length_append] at g3 g4; omega, (by exact zwc 3)⟩
  · rcases List.mem_append.1 hk with hk | hk
    · exact h4 k hk
    · obtain ⟨f, hf1, hf2⟩ := List.mem_filterMap.1 hk
      have := hi f hf1
      unfold nextF at hf2
      split at hf2 <;> split at hf2 <;> cases hf2 <;> omega
  · simp only
    rw [List.drop_append_of_le_length (by omega)]
    exact h5
end Go.Eng
open Go Go.Proofs
namespace Go.Eng
set_option linter.unusedSimpArgs false
set_option linter.unusedVariables false
set_option maxRecDepth 10000
set_option maxHeartbeats 8000000
def FB (l : List Bool) : D := .fz (l.map bRow)
attribute [go_sem] FB
theorem idxF_lt {α : Type} (p : α → Bool) : ∀ (l : List α) (i : Nat), idxF p l i < (i : Int) + l.length
  | [], i => by simp [idxF]; omega
  | x :: l, i => by
    have := idxF_lt p l (i + 1)
    rw [idxF]
    simp only [List.length_cons]
    split <;> omega
theorem plF_nil {r : Int} {m : Nat} {p : Nat → Bool} (h : (plF r m p).length = 0) : ∀ j, j < m → p j = false := fun j hj => by
  rw [plF, plc, List.length_map, List.length_eq_zero_iff, List.filter_eq_nil_iff] at h
  have := h j (List.mem_range'.2 ⟨j, hj, by omega⟩)
  simpa using this
def unmetF (n : Gr) (j : Nat) : Bool := !gt (metF n (startF n) false) j || !gt (metF n (endF n) true) j
def allF (n : Gr) : List Lk := if n.ns.length > 24 ∨ n.fs.length > 40 then [⟨1, 0⟩] else if (plF 1 n.ns.length fun j => !rightN (gt n.ns j)).length > 0 then plF 1 n.ns.length fun j => !rightN (gt n.ns j)
  else if (plF 2 n.fs.length fun j => !leadsF n (gt n.fs j)).length > 0 then plF 2 n.fs.length fun j => !leadsF n (gt n.fs j) else if (thirdF n).length > 0 then thirdF n else plF 4 n.ns.length (unmetF n)
def checkN (n : Gr) : Int × Int := match allF n with | [] => (0, 0) | e :: _ => (e.src, e.dst)
theorem metF_len (n : Gr) (i : Int) (b : Bool) : (metF n i b).length = n.ns.length := by rw [metF, metN_len]; simp
structure Gr0 (n : Gr) : Prop where
  hn : n.ns.length < 1000000000000
  hf : n.fs.length < 1000000000000
  ns : ∀ d ∈ n.ns, d.t.size < 4611686018427387904
  fs : ∀ f ∈ n.fs, f.t.size < 4611686018427387904
theorem all3_ok (a b : List Bool) (j : Nat) (h1 : j < a.length) (h2 : j < b.length) : AFn env 110 [aI j, PR 0, PR 1] [Rd (FB a), Rd (FB b)] (aB (!gt a j || !gt b j)) [Rd (FB a), Rd (FB b)] := by
  refine afn_body Tryz.func110 rfl (by decide) ?_
  simp only [Tryz.ntmps110, Tryz.results110, List.length_cons, List.length_nil, List.cons_append, List.nil_append, Nat.reduceAdd, Nat.reduceSub, List.replicate]
  repeat' first
  | ((with_reducible refine awp_seqQ ?_); intro _ _)
  | ((with_reducible refine awp_region ?_); refine zS ?_)
  | ((with_reducible refine Gd_b ?_ ?_) <;> intro hb <;> first | contradiction | refine zH hb ?_)
  | ((with_reducible refine awp_ret ?_); refine q_step (by assumption) ?_)
  | with_reducible refine fin_r ?_
  | ((with_reducible refine q_step (by assumption) ?_); try refine zS ?_)
  all_goals simp [go_sem, *]
theorem all_ok (n : Gr) (hg : Gr0 n) : AFn env 88 [n.a] [] (aF ((allF n).map Lk.row)) [] := by
  have hn := hg.hn
  have hf := hg.hf
  have hG : n.ns.length ≤ 24 → n.fs.length ≤ 40 → GrOk n := fun h1 h2 => ⟨by omega, by omega, hg.ns, hg.fs⟩
  have hI : (plF 2 n.fs.length fun j => !leadsF n (gt n.fs j)).length = 0 → inG n := fun h f hf => by
    obtain ⟨k, hk, rfl⟩ := List.getElem_of_mem hf
    have := plF_nil h k hk
    rw [show gt n.fs k = n.fs[k] by simp [gt, List.getD, hk]] at this
    simp only [Bool.not_eq_false', leadsF, Bool.and_eq_true, inR, decide_eq_true_eq] at this
    omega
  refine afn_body Tryz.func88 rfl (by decide) ?_
  simp only [Tryz.ntmps88, Tryz.results88, List.length_cons, List.length_nil, List.cons_append, List.nil_append, Nat.reduceAdd, Nat.reduceSub, List.replicate]
  repeat' first
  | ((with_reducible refine awp_seqQ ?_); intro _ _)
  | ((with_reducible refine awp_region ?_); refine zS ?_)
  | ((with_reducible refine Gd_nd ?_ ?_) <;> intro hb hb2 <;> first | contradiction | (exfalso; omega) | (refine zH hb2 ?_; try clear hb2))
  | ((with_reducible refine AWP_c ?_); refine zcdT ?_)
  | ((with_reducible refine AWP_c ?_); refine zcdD ?_ ?_ <;> intro hb hb2 <;> first | contradiction | (exfalso; omega) | ((try refine zH hb2 ?_); try clear hb2))
  | ((with_reducible refine awp_skip ?_); try refine zS ?_)
  | ((with_reducible refine CallK_id ?_); refine zcF ?_; refine ⟨_, by first | exact third_ok n (hG (by omega) (by omega)) (hI (by omega)) | fail, fun _ => rfl, fun _ => rfl, rfl, ?_⟩; try refine zS ?_)
  | ((with_reducible refine CallK_id ?_); refine zcT [0] ?_; refine ⟨_, _, by first | exact places1_ok n 1 n.ns.length 102 (fun j => !rightN (gt n.ns j)) (by omega) (fun j hj => all1_ok n (hG (by omega) (by omega)) j hj) | exact places1_ok n 2 n.fs.length 104 (fun j => !leadsF n (gt n.fs j)) (by omega) (fun j hj => all2_ok n (hG (by omega) (by omega)) j hj) | fail, ?_⟩; try refine zS ?_)
  | ((with_reducible refine awp_ret ?_); refine q_step (by assumption) ?_)
  | with_reducible refine fin_r ?_
  | ((with_reducible refine q_step (by assumption) ?_); try refine zS ?_)
  all_goals try (refine fin_r ?_)
  · rw [allF, if_pos (by omega)]; rfl
  · rw [allF, if_neg (by omega), if_pos (by omega)]
  · rw [allF, if_neg (by omega), if_neg (by omega), if_pos (by omega)]
  · rw [allF, if_neg (by omega), if_neg (by omega), if_neg (by omega), if_pos (by omega)]
  rotate_left
  · rw [allF, if_pos (by omega)]; rfl
  have hg2 := hG (by omega) (by omega)
  have hi := hI (by omega)
  have hpl := hg2.hn
  have h0 : ¬ (startF n < 0 ∨ endF n < 0) := fun h => by
    have : (thirdF n).length = 0 := by omega
    rw [thirdF, if_pos h, List.length_append, List.length_singleton] at this
    omega
  have hs1 := idxF_lt (fun d : Nd => decide (d.kind = 1)) n.ns 0
  have he1 := idxF_lt (fun d : Nd => decide (d.kind = 2)) n.ns 0
  have hs : 0 ≤ startF n ∧ startF n < n.ns.length := ⟨by omega, by unfold startF; omega⟩
  have he : 0 ≤ endF n ∧ endF n < n.ns.length := ⟨by omega, by unfold endF; omega⟩
  have hla := metF_len n (startF n) false
  have hlb := metF_len n (endF n) true
  have hfin : allF n = plF 4 n.ns.length (unmetF n) := by rw [allF, if_neg (by omega), if_neg (by omega), if_neg (by omega), if_neg (by omega)]
  refine awp_wk (wk_vnew (s := 1) none (by decide)) ?_
  refine awp_wk (wk_vnew (s := 1) none (by decide)) ?_
  refine zT ?_
  refine awp_drawV ⟨8, 9, 10, 11, 3, 1, 4, 1⟩ (by decide) (by decide) rfl rfl (by decide) (by decide) (by decide) ?_
  simp only [List.set_cons_succ, List.set_cons_zero]
  refine go_p (by simp only [go_sem, Bool.not_not, List.mem_singleton, forall_eq, ↓reduceIte, if_pos, rowsAt_map, wrap64, wrapu8, List.getElem?_cons_zero, List.getElem?_cons_succ, Int.reduceToNat, Nat.reduceAdd, Nat.reduceBEq, Bool.or_false, Bool.false_or, Bool.true_or, Nat.reduceSub, Nat.reduceMul, Int.reduceAdd, Int.reduceEq, Int.reduceLT, Int.reduceLE, Int.reduceNeg, Nat.reduceLT, Nat.reduceLeDiff, Nat.reduceEqDiff]; rfl) rfl (by decide) rfl rfl ?_
  refine zT ?_
  refine go_p (by simp only [go_sem, Bool.not_not, List.mem_singleton, forall_eq, ↓reduceIte, if_pos, rowsAt_map, wrap64, wrapu8, List.getElem?_cons_zero, List.getElem?_cons_succ, Int.reduceToNat, Nat.reduceAdd, Nat.reduceBEq, Bool.or_false, Bool.false_or, Bool.true_or, Nat.reduceSub, Nat.reduceMul, Int.reduceAdd, Int.reduceEq, Int.reduceLT, Int.reduceLE, Int.reduceNeg, Nat.reduceLT, Nat.reduceLeDiff, Nat.reduceEqDiff]; rfl) rfl (by decide) rfl rfl ?_
  refine zT ?_
  refine go_c ⟨_, rfl⟩ rfl (by simp only [go_sem, Bool.not_not, List.mem_singleton, forall_eq, ↓reduceIte, if_pos, rowsAt_map, wrap64, wrapu8, List.getElem?_cons_zero, List.getElem?_cons_succ, Int.reduceToNat, Nat.reduceAdd, Nat.reduceBEq, Bool.or_false, Bool.false_or, Bool.true_or, Nat.reduceSub, Nat.reduceMul, Int.reduceAdd, Int.reduceEq, Int.reduceLT, Int.reduceLE, Int.reduceNeg, Nat.reduceLT, Nat.reduceLeDiff, Nat.reduceEqDiff]) rfl (by decide) (start_ok n (by omega)) (fun _ => rfl) (fun _ => rfl) rfl ?_
  refine zT ?_
  refine go_c ⟨_, rfl⟩ rfl (by simp only [go_sem, Bool.not_not, List.mem_singleton, forall_eq, ↓reduceIte, if_pos, rowsAt_map, wrap64, wrapu8, List.getElem?_cons_zero, List.getElem?_cons_succ, Int.reduceToNat, Nat.reduceAdd, Nat.reduceBEq, Bool.or_false, Bool.false_or, Bool.true_or, Nat.reduceSub, Nat.reduceMul, Int.reduceAdd, Int.reduceEq, Int.reduceLT, Int.reduceLE, Int.reduceNeg, Nat.reduceLT, Nat.reduceLeDiff, Nat.reduceEqDiff]) rfl (by decide) (met_ok n (startF n) false hg2 hi hs) (fun _ => rfl) (fun _ => rfl) rfl ?_
  refine zT ?_
  refine go_p (by simp only [go_sem, Bool.not_not, List.mem_singleton, forall_eq, ↓reduceIte, if_pos, rowsAt_map, wrap64, wrapu8, List.getElem?_cons_zero, List.getElem?_cons_succ, Int.reduceToNat, Nat.reduceAdd, Nat.reduceBEq, Bool.or_false, Bool.false_or, Bool.true_or, Nat.reduceSub, Nat.reduceMul, Int.reduceAdd, Int.reduceEq, Int.reduceLT, Int.reduceLE, Int.reduceNeg, Nat.reduceLT, Nat.reduceLeDiff, Nat.reduceEqDiff]; rfl) rfl (by decide) rfl rfl ?_
  refine zT ?_
  refine go_p (by simp only [go_sem, Bool.not_not, List.mem_singleton, forall_eq, ↓reduceIte, if_pos, rowsAt_map, wrap64, wrapu8, List.getElem?_cons_zero, List.getElem?_cons_succ, Int.reduceToNat, Nat.reduceAdd, Nat.reduceBEq, Bool.or_false, Bool.false_or, Bool.true_or, Nat.reduceSub, Nat.reduceMul, Int.reduceAdd, Int.reduceEq, Int.reduceLT, Int.reduceLE, Int.reduceNeg, Nat.reduceLT, Nat.reduceLeDiff, Nat.reduceEqDiff]; rfl) rfl (by decide) rfl rfl ?_
  refine zT ?_
  refine go_c ⟨_, rfl⟩ rfl (by simp only [go_sem, Bool.not_not, List.mem_singleton, forall_eq, ↓reduceIte, if_pos, rowsAt_map, wrap64, wrapu8, List.getElem?_cons_zero, List.getElem?_cons_succ, Int.reduceToNat, Nat.reduceAdd, Nat.reduceBEq, Bool.or_false, Bool.false_or, Bool.true_or, Nat.reduceSub, Nat.reduceMul, Int.reduceAdd, Int.reduceEq, Int.reduceLT, Int.reduceLE, Int.reduceNeg, Nat.reduceLT, Nat.reduceLeDiff, Nat.reduceEqDiff]) rfl (by decide) (end_ok n (by omega)) (fun _ => rfl) (fun _ => rfl) rfl ?_
  refine zT ?_
  refine go_c ⟨_, rfl⟩ rfl (by simp only [go_sem, Bool.not_not, List.mem_singleton, forall_eq, ↓reduceIte, if_pos, rowsAt_map, wrap64, wrapu8, List.getElem?_cons_zero, List.getElem?_cons_succ, Int.reduceToNat, Nat.reduceAdd, Nat.reduceBEq, Bool.or_false, Bool.false_or, Bool.true_or, Nat.reduceSub, Nat.reduceMul, Int.reduceAdd, Int.reduceEq, Int.reduceLT, Int.reduceLE, Int.reduceNeg, Nat.reduceLT, Nat.reduceLeDiff, Nat.reduceEqDiff]) rfl (by decide) (met_ok n (endF n) true hg2 hi he) (fun _ => rfl) (fun _ => rfl) rfl ?_
  refine zT ?_
  refine go_1 rfl rfl (by simp only [go_sem, Bool.not_not, List.mem_singleton, forall_eq, ↓reduceIte, if_pos, rowsAt_map, wrap64, wrapu8, List.getElem?_cons_zero, List.getElem?_cons_succ, Int.reduceToNat, Nat.reduceAdd, Nat.reduceBEq, Bool.or_false, Bool.false_or, Bool.true_or, Nat.reduceSub, Nat.reduceMul, Int.reduceAdd, Int.reduceEq, Int.reduceLT, Int.reduceLE, Int.reduceNeg, Nat.reduceLT, Nat.reduceLeDiff, Nat.reduceEqDiff]; rfl) rfl ?_
  refine zT ?_
  refine go_2 rfl rfl (by simp only [go_sem, Bool.not_not, List.mem_singleton, forall_eq, ↓reduceIte, if_pos, rowsAt_map, wrap64, wrapu8, List.getElem?_cons_zero, List.getElem?_cons_succ, Int.reduceToNat, Nat.reduceAdd, Nat.reduceBEq, Bool.or_false, Bool.false_or, Bool.true_or, Nat.reduceSub, Nat.reduceMul, Int.reduceAdd, Int.reduceEq, Int.reduceLT, Int.reduceLE, Int.reduceNeg, Nat.reduceLT, Nat.reduceLeDiff, Nat.reduceEqDiff]; rfl) rfl ?_
  refine zT ?_
  refine go_s1 rfl rfl (by decide) rfl rfl rfl rfl ?_
  refine zT ?_
  refine go_s2 rfl rfl (by decide) rfl rfl rfl rfl ?_
  refine zT ?_
  refine go_e ?_
  repeat' first
  | ((with_reducible refine awp_seqQ ?_); intro _ _)
  | ((with_reducible refine awp_region ?_); refine zS ?_)
  | ((with_reducible refine CallK_id ?_); refine zcT [3, 4] ?_; refine ⟨_, _, by first | exact places2_ok (FB (metF n (startF n) false)) (FB (metF n (endF n) true)) 4 n.ns.length 110 (unmetF n) (by omega) (fun j hj => all3_ok _ _ j (by omega) (by omega)) | fail, ?_⟩; try refine zS ?_)
  | ((with_reducible refine awp_ret ?_); refine q_step (by assumption) ?_)
  | ((with_reducible refine q_step (by assumption) ?_); try refine zS ?_)
  refine fin_r ?_
  rw [hfin]
theorem checkN_ok (n : Gr) (hg : Gr0 n) : AFn env 68 [n.a] [] (.tup [aI (checkN n).1, aI (checkN n).2]) [] := by
  refine afn_body Tryz.func68 rfl (by decide) ?_
  simp only [Tryz.ntmps68, Tryz.results68, List.length_cons, List.length_nil, List.cons_append, List.nil_append, Nat.reduceAdd, Nat.reduceSub, List.replicate]
  repeat' first
  | ((with_reducible refine awp_seqQ ?_); intro _ _)
  | ((with_reducible refine awp_region ?_); refine zS ?_)
  | ((with_reducible refine awp_drawnC ?_ ?_); rfl; refine zS ?_)
  | ((with_reducible refine AWP_c ?_); refine zcdD ?_ ?_ <;> intro hb hb2 <;> first | contradiction | (exfalso; omega) | ((try refine zH hb2 ?_); try clear hb2))
  | ((with_reducible refine awp_skip ?_); try refine zS ?_)
  | ((with_reducible refine CallK_id ?_); refine zcF ?_; refine ⟨_, by first | exact all_ok n hg | fail, fun _ => rfl, fun _ => rfl, rfl, ?_⟩; try refine zS ?_)
  | ((with_reducible refine awp_ret ?_); refine q_step (by assumption) ?_)
  | with_reducible refine fin_r ?_
  | ((with_reducible refine q_step (by assumption) ?_); try refine zS ?_)
  all_goals (unfold checkN; cases h : allF n with | nil => (first | rfl | (rename ((allF n).length : Int) > 0 => hb; rw [h] at hb; simp at hb; done)) | cons => (first | (simp [go_sem, gt]; done) | (rename ¬ ((allF n).length : Int) > 0 => hb; rw [h] at hb; simp at hb)))
end Go.Eng
open Go Go.Proofs
namespace Go.Eng
set_option linter.unusedSimpArgs false
set_option linter.unusedVariables false
set_option maxRecDepth 10000
set_option maxHeartbeats 40000000
theorem bareK_ok (k : Int) (n x y : Int) (t : T) (c : List T) (ks : List B) (l : List Lk) (ns : List Nd) (fs : List Fl) (hk : k = 1 ∨ k = 2 ∨ k = 3 ∨ k = 4 ∨ k = 5 ∨ k = 6 ∨ k = 7 ∨ k = 8 ∨ k = 9 ∨ k = 10 ∨ k = 11 ∨ k = 12 ∨ k = 13 ∨ k = 14) : AFn env 51 [(B.mk k n x y t c ks l ns fs).a] [] (bareF (B.mk k n x y t c ks l ns fs)).a [] := by
  refine afn_body Tryz.func51 rfl (by decide) ?_
  simp only [Tryz.ntmps51, Tryz.results51, List.length_cons, List.length_nil, List.cons_append, List.nil_append, Nat.reduceAdd, Nat.reduceSub, List.replicate]
  rcases hk with rfl | rfl | rfl | rfl | rfl | rfl | rfl | rfl | rfl | rfl | rfl | rfl | rfl | rfl
  all_goals repeat' first
            | ((with_reducible refine awp_seqQ ?_); intro _ _)
            | ((with_reducible refine awp_region ?_); refine zS ?_)
            | ((with_reducible refine AWP_c ?_); refine zcdT ?_)
            | ((with_reducible refine AWP_c ?_); refine zcdF ?_)
            | ((with_reducible refine AWP_c ?_); refine zcdD ?_ ?_ <;> intro hb hb2 <;> first | contradiction | (exfalso; omega) | ((try refine zH hb2 ?_); try clear hb2))
            | ((with_reducible refine awp_skip ?_); try refine zS ?_)
            | with_reducible refine awp_block ?_
            | ((with_reducible refine awp_exit ?_); try refine zS ?_)
            | ((with_reducible refine awp_ret ?_); refine q_step (by assumption) ?_)
            | with_reducible refine fin_r ?_
            | ((with_reducible refine q_step (by assumption) ?_); try refine zS ?_)
  all_goals first | (simp [go_sem, bareF, *]; done) | (simp [go_sem, bareF, *]; exact ⟨rfl, rfl, rfl⟩)
theorem bare0_ok (k : Int) (n x y : Int) (t : T) (c : List T) (ks : List B) (l : List Lk) (ns : List Nd) (fs : List Fl) (hk : k < 1 ∨ 14 < k) : AFn env 51 [(B.mk k n x y t c ks l ns fs).a] [] (bareF (B.mk k n x y t c ks l ns fs)).a [] := by
  have e1 : ¬ k = 1 := by omega
  have e2 : ¬ k = 2 := by omega
  have e3 : ¬ k = 3 := by omega
  have e4 : ¬ k = 4 := by omega
  have e5 : ¬ k = 5 := by omega
  have e6 : ¬ k = 6 := by omega
  have e7 : ¬ k = 7 := by omega
  have e8 : ¬ k = 8 := by omega
  have e9 : ¬ k = 9 := by omega
  have e10 : ¬ k = 10 := by omega
  have e11 : ¬ k = 11 := by omega
  have e12 : ¬ k = 12 := by omega
  have e13 : ¬ k = 13 := by omega
  have e14 : ¬ k = 14 := by omega
  refine afn_body Tryz.func51 rfl (by decide) ?_
  simp only [Tryz.ntmps51, Tryz.results51, List.length_cons, List.length_nil, List.cons_append, List.nil_append, Nat.reduceAdd, Nat.reduceSub, List.replicate]
  repeat' first
  | ((with_reducible refine awp_seqQ ?_); intro _ _)
  | ((with_reducible refine awp_region ?_); refine zS ?_)
  | ((with_reducible refine AWP_c ?_); refine zcdD ?_ ?_ <;> intro hb hb2 <;> first | contradiction | (exfalso; omega) | ((try refine zH hb2 ?_); try clear hb2))
  | ((with_reducible refine awp_skip ?_); try refine zS ?_)
  | with_reducible refine awp_block ?_
  | ((with_reducible refine awp_exit ?_); try refine zS ?_)
  | ((with_reducible refine awp_ret ?_); refine q_step (by assumption) ?_)
  | with_reducible refine fin_r ?_
  | ((with_reducible refine q_step (by assumption) ?_); try refine zS ?_)
  all_goals simp [go_sem, bareF, e1, e2, e3, e4, e5, e6, e7, e8, e9, e10, e11, e12, e13, e14]
theorem bare_ok (b : B) : AFn env 51 [b.a] [] (bareF b).a [] := by
  cases b with | mk k n x y t c ks l ns fs =>
  by_cases h : k < 1 ∨ 14 < k
  · exact bare0_ok k n x y t c ks l ns fs h
  · exact bareK_ok k n x y t c ks l ns fs (by omega)
end Go.Eng
open Go Go.Proofs
namespace Go.Eng
set_option linter.unusedSimpArgs false
set_option linter.unusedVariables false
set_option maxRecDepth 10000
set_option maxHeartbeats 40000000
def grB (b : B) : Gr := ⟨b.nodes, b.flows⟩
def numF (b : B) : Bool :=
  let v := decide (0 ≤ b.x) && decide (b.x < 4)
  let k : Int := b.kids.length
  if b.kind = 1 ∨ b.kind = 5 then true else if b.kind = 2 ∨ b.kind = 4 then v else if b.kind = 3 then v && ofF b.t 1 else if b.kind = 6 ∨ b.kind = 7 ∨ b.kind = 9 then decide (k > 1)
  else if b.kind = 8 then decide (k > 1) && decide ((b.conds.length : Int) = k) && condsF b.conds b.x else if b.kind = 10 then decide (k = 1) && decide (b.x ≥ 0) && decide (b.x ≤ 4)
  else if b.kind = 11 then decide (k = 2) && decide ((b.conds.length : Int) = 2) && condsF b.conds b.x && decide (b.y ≥ 0) && decide (b.y < 2)
  else if b.kind = 12 then (decide (b.x = 3) && decide ((b.conds.length : Int) > 1) && condsF b.conds b.y) || decide (b.x = 1) || decide (b.x = 2) || decide (b.x = 4)
  else if b.kind = 13 then decide (k > 0) && linkedF b else if b.kind = 14 then decide ((checkN (grB b)).1 = 0) else false
theorem gr0_ok (b : B) (hs : b.size < 1000000000000) : Gr0 (grB b) := by
  have hz := B.size_eq b
  have h1 := Nd.len_le b.nodes
  have h2 := Fl.len_le b.flows
  exact ⟨by simp only [grB]; omega, by simp only [grB]; omega, fun d hd => by have := Nd.size_kid (l := b.nodes) hd; omega, fun d hd => by have := Fl.size_kid (l := b.flows) hd; omega⟩
attribute [go_sem] grB
theorem numK_ok (k : Int) (n x y : Int) (t : T) (c : List T) (ks : List B) (l : List Lk) (ns : List Nd) (fs : List Fl) (hs : (B.mk k n x y t c ks l ns fs).size < 1000000000000) (hk : k = 1 ∨ k = 2 ∨ k = 3 ∨ k = 4 ∨ k = 5 ∨ k = 6 ∨ k = 7 ∨ k = 8 ∨ k = 9 ∨ k = 10 ∨ k = 11 ∨ k = 12 ∨ k = 13 ∨ k = 14) : AFn env 52 [(B.mk k n x y t c ks l ns fs).a] [] (aB (numF (B.mk k n x y t c ks l ns fs))) [] := by
  have hz := B.size_eq (B.mk k n x y t c ks l ns fs)
  have l2 := B.len_le ks
  have l3 := T.len_le c
  simp only [mk_kids, mk_t, mk_conds] at hz
  refine afn_body Tryz.func52 rfl (by decide) ?_
  simp only [Tryz.ntmps52, Tryz.results52, List.length_cons, List.length_nil, List.cons_append, List.nil_append, Nat.reduceAdd, Nat.reduceSub, List.replicate]
  rcases hk with rfl | rfl | rfl | rfl | rfl | rfl | rfl | rfl | rfl | rfl | rfl | rfl | rfl | rfl
  all_goals repeat' first
            | ((with_reducible refine awp_seqQ ?_); intro _ _)
            | ((with_reducible refine awp_region ?_); refine zS ?_)
            | ((with_reducible refine Gd_nd ?_ ?_) <;> intro hb hb2 <;> first | contradiction | (exfalso; omega) | (refine zH hb2 ?_; try clear hb2))
            | ((with_reducible refine Gd_nb ?_ ?_) <;> intro hb <;> first | contradiction | refine zH hb ?_)
            | ((with_reducible refine Gd_d ?_ ?_) <;> intro hb hb2 <;> first | contradiction | (exfalso; omega) | (refine zH hb2 ?_; try clear hb2))
            | ((with_reducible refine Gd_b ?_ ?_) <;> intro hb <;> first | contradiction | refine zH hb ?_)
            | ((with_reducible refine AWP_c ?_); refine zcdT ?_)
            | ((with_reducible refine AWP_c ?_); refine zcdF ?_)
            | ((with_reducible refine awp_skip ?_); try refine zS ?_)
            | with_reducible refine awp_block ?_
            | ((with_reducible refine CallK_id ?_); refine zcF ?_; refine ⟨_, by first | exact of_ok t 1 (by omega) | exact conds_ok c x (by omega) | exact conds_ok c y (by omega) | exact linked_ok _ hs | exact checkN_ok _ (gr0_ok (B.mk 14 n x y t c ks l ns fs) hs) | fail, fun _ => rfl, fun _ => rfl, rfl, ?_⟩; try refine zS ?_)
            | ((with_reducible refine awp_ret ?_); refine q_step (by assumption) ?_)
            | with_reducible refine fin_r ?_
            | ((with_reducible refine q_step (by assumption) ?_); try refine zS ?_)
  all_goals (clear hs hz l2 l3; first | (simp [go_sem, numF, *]; done) | (simp [go_sem, numF, *]; omega) | (simp [go_sem, numF]; omega) | (simp [go_sem, numF, *]; first | rfl | exact decide_eq_decide.2 Iff.rfl))
theorem numk0_ok (k : Int) (n x y : Int) (t : T) (c : List T) (ks : List B) (l : List Lk) (ns : List Nd) (fs : List Fl) (hs : (B.mk k n x y t c ks l ns fs).size < 1000000000000) (hk : k < 1 ∨ 14 < k) : AFn env 52 [(B.mk k n x y t c ks l ns fs).a] [] (aB (numF (B.mk k n x y t c ks l ns fs))) [] := by
  have e1 : ¬ k = 1 := by omega
  have e2 : ¬ k = 2 := by omega
  have e3 : ¬ k = 3 := by omega
  have e4 : ¬ k = 4 := by omega
  have e5 : ¬ k = 5 := by omega
  have e6 : ¬ k = 6 := by omega
  have e7 : ¬ k = 7 := by omega
  have e8 : ¬ k = 8 := by omega
  have e9 : ¬ k = 9 := by omega
  have e10 : ¬ k = 10 := by omega
  have e11 : ¬ k = 11 := by omega
  have e12 : ¬ k = 12 := by omega
  have e13 : ¬ k = 13 := by omega
  have e14 : ¬ k = 14 := by omega
  have hz := B.size_eq (B.mk k n x y t c ks l ns fs)
  have l2 := B.len_le ks
  simp only [mk_kids, mk_t, mk_conds] at hz
  refine afn_body Tryz.func52 rfl (by decide) ?_
  simp only [Tryz.ntmps52, Tryz.results52, List.length_cons, List.length_nil, List.cons_append, List.nil_append, Nat.reduceAdd, Nat.reduceSub, List.replicate]
  repeat' first
  | ((with_reducible refine awp_seqQ ?_); intro _ _)
  | ((with_reducible refine awp_region ?_); refine zS ?_)
  | ((with_reducible refine Gd_d ?_ ?_) <;> intro hb hb2 <;> first | contradiction | (exfalso; omega) | (refine zH hb2 ?_; try clear hb2))
  | ((with_reducible refine AWP_c ?_); refine zcdD ?_ ?_ <;> intro hb hb2 <;> first | contradiction | (exfalso; omega) | ((try refine zH hb2 ?_); try clear hb2))
  | ((with_reducible refine awp_skip ?_); try refine zS ?_)
  | with_reducible refine awp_block ?_
  | ((with_reducible refine awp_ret ?_); refine q_step (by assumption) ?_)
  | with_reducible refine fin_r ?_
  | ((with_reducible refine q_step (by assumption) ?_); try refine zS ?_)
  all_goals simp [go_sem, numF, e1, e2, e3, e4, e5, e6, e7, e8, e9, e10, e11, e12, e13, e14]
theorem num_ok (b : B) (hs : b.size < 1000000000000) : AFn env 52 [b.a] [] (aB (numF b)) [] := by
  cases b with | mk k n x y t c ks l ns fs =>
  by_cases h : k < 1 ∨ 14 < k
  · exact numk0_ok k n x y t c ks l ns fs hs h
  · exact numK_ok k n x y t c ks l ns fs hs (by omega)
end Go.Eng
open Go Go.Proofs
namespace Go.Eng
set_option linter.unusedSimpArgs false
set_option linter.unusedVariables false
set_option maxRecDepth 10000
set_option maxHeartbeats 4000000
mutual
def pL : B → List B
  | .mk k n x y t c ks l ns fs => .mk k n x y t c ks l ns fs :: pLs ks
def pLs : List B → List B
  | [] => []
  | b :: l => pL b ++ pLs l
end
theorem pL_eq (b : B) : pL b = b :: pLs b.kids := by cases b; rw [pL]; rfl
mutual
theorem items_pL : ∀ (b : B) (p q : Int) (off : Nat), (itemsF b p q off).map It.b = pL b
  | .mk k n x y t c ks l ns fs, p, q, off => by rw [itemsF, pL, List.map_cons, itemsK_pL ks]
theorem itemsK_pL : ∀ (l : List B) (own off i : Nat), (itemsK l own off i).map It.b = pLs l
  | [], _, _, _ => by rw [itemsK, pLs]; rfl
  | b :: l, own, off, i => by rw [itemsK, pLs, List.map_append, items_pL b, itemsK_pL l]
end
mutual
theorem pL_sub : ∀ (b x : B), x ∈ pL b → (pL x).Sublist (pL b)
  | .mk k n x y t c ks l ns fs, z, h => by
    rw [pL] at h ⊢
    rcases List.mem_cons.1 h with rfl | h
    · rw [pL]; exact List.Sublist.refl _
    · exact (pLs_sub ks z h).cons _
theorem pLs_sub : ∀ (l : List B) (x : B), x ∈ pLs l → (pL x).Sublist (pLs l)
  | [], x, h => by simp [pLs] at h
  | b :: l, x, h => by
    rw [pLs] at h ⊢
    rcases List.mem_append.1 h with h | h
    · exact (pL_sub b x h).trans (List.sublist_append_left _ _)
    · exact (pLs_sub l x h).trans (List.sublist_append_right _ _)
end
mutual
theorem pL_deep : ∀ (b x : B), x ∈ pL b → deepF x ≤ deepF b
  | .mk k n x y t c ks l ns fs, z, h => by
    rw [pL] at h
    rcases List.mem_cons.1 h with rfl | h
    · exact Nat.le_refl _
    · have := pLs_deep ks z h
      rw [deepF_eq (.mk k n x y t c ks l ns fs)]; simp only [B.kids]; omega
theorem pLs_deep : ∀ (l : List B) (x : B), x ∈ pLs l → deepF x ≤ deeps l
  | [], x, h => by simp [pLs] at h
  | b :: l, x, h => by
    rw [pLs] at h
    rw [deeps]
    rcases List.mem_append.1 h with h | h
    · have := pL_deep b x h; omega
    · have := pLs_deep l x h; omega
end
mutual
theorem pL_right (N : B → Bool) : ∀ (b x : B), x ∈ pL b → rightF N b = true → rightF N x = true
  | .mk k n x y t c ks l ns fs, z, h, hr => by
    rw [pL] at h
    rcases List.mem_cons.1 h with rfl | h
    · exact hr
    · rw [rightF_eq] at hr
      simp only [Bool.and_eq_true, Bool.not_eq_true', B.kids] at hr
      exact pLs_right N k ks z h hr.2
theorem pLs_right (N : B → Bool) (k : Int) : ∀ (l : List B) (x : B), x ∈ pLs l → l.any (wrong1 N k) = false → rightF N x = true
  | [], x, h, _ => by simp [pLs] at h
  | b :: l, x, h, hr => by
    rw [pLs] at h
    rw [List.any_cons, Bool.or_eq_false_iff] at hr
    rcases List.mem_append.1 h with h | h
    · refine pL_right N b x h ?_
      have := hr.1
      simp only [wrong1, Bool.or_eq_false_iff, Bool.not_eq_false'] at this
      exact this.2
    · exact pLs_right N k l x h hr.2
end
def nodesL (l : List B) : List Int := l.filterMap fun b => if skips b.kind then none else some b.node
theorem nodesL_sub {l l' : List B} (h : l.Sublist l') : (nodesL l).Sublist (nodesL l') := h.filterMap _
theorem dupF_ok : ∀ (L : List It) (s : List Int), dupF L s = false ↔ (nodesL (L.map It.b)).Nodup ∧ ∀ n ∈ nodesL (L.map It.b), n ∉ s
  | [], s => by simp [dupF, nodesL]
  | x :: l, s => by
    rw [dupF]
    by_cases hk : skips x.b.kind
    · rw [if_pos hk, dupF_ok l s]
      simp [nodesL, hk]
    · have hn : nodesL ((x :: l).map It.b) = x.b.node :: nodesL (l.map It.b) := by simp [nodesL, hk]
      rw [if_neg hk, hn]
      by_cases hm : x.b.node ∈ s
      · rw [if_pos hm]
        constructor
        · intro h; cases h
        · rintro ⟨_, h⟩; exact absurd hm (h _ (by simp))
      · rw [if_neg hm, dupF_ok l]
        simp only [List.nodup_cons, List.mem_cons, ins, if_neg hm, List.mem_append, List.mem_singleton, not_or]
        constructor
        · rintro ⟨h1, h2⟩
          refine ⟨⟨fun h => ?_, h1⟩, ?_⟩
          · exact (h2 _ h).2.1 rfl
          · rintro n (rfl | h)
            · exact hm
            · exact (h2 n h).1
        · rintro ⟨⟨h1, h2⟩, h3⟩
          refine ⟨h2, fun n hn => ⟨h3 n (.inr hn), fun h => ?_, by simp⟩⟩
          subst h; exact h1 hn
theorem check_part {N : B → Bool} {b x : B} (h : checkF N b = 0) (hx : x ∈ pL b) (h1 : x.kind ≠ 12) (h2 : x.kind ≠ 10) : checkF N x = 0 := by
  unfold checkF at h ⊢
  split at h
  · cases h
  · split at h
    · cases h
    · split at h
      · cases h
      · rename_i q1 q2 q3
        have hs := pL_sub b x hx
        have hc : x.count ≤ b.count := by
          have := hs.length_le
          rwa [← items_pL b (-1) 0 0, ← items_pL x (-1) 0 0, List.length_map, List.length_map, itemsF_len, itemsF_len] at this
        have hd := pL_deep b x hx
        have hr : rightF N b = true := by
          cases hh : rightF N b with
          | true => rfl
          | false => exact absurd (.inr (.inr hh)) q2
        have hr2 := pL_right N b x hx hr
        have q3 : dupF (itemsF b (-1) 0 0) [] = false := by simpa using q3
        rw [dupF_ok, items_pL] at q3
        have q4 : dupF (itemsF x (-1) 0 0) [] = false := by
          rw [dupF_ok, items_pL]
          exact ⟨q3.1.sublist (nodesL_sub hs), fun n hn => by simp⟩
        rw [if_neg (by omega), if_neg (by rw [hr2]; simp; exact ⟨h2, h1⟩), if_neg (by rw [q4]; simp)]
theorem right_okA (b : B) (hs : b.size ≤ 100000) : AFn env 42 [b.a] [] (aB (rightF numF b)) [] :=
  right_ok numF (fun b => decide (b.size ≤ 100000)) (fun b h k hk => by have := B.size_lt hk; simp only [decide_eq_true_eq] at *; omega) (fun b _ => bare_ok b) (fun b h => num_ok b (by simp only [decide_eq_true_eq] at h; omega)) b (by simpa using hs) hs
theorem check_okA (b : B) (hs : b.size ≤ 100000) : AFn env 33 [b.a] [] (aI (checkF numF b)) [] := check_ok numF b hs (right_okA b hs)
end Go.Eng
open Go Go.Proofs
namespace Go.Eng
set_option linter.unusedSimpArgs false
set_option linter.unusedVariables false
set_option maxRecDepth 10000
set_option maxHeartbeats 16000000
def s00 : List Int := List.replicate 104 0
theorem s00_len : s00.length = 104 := by simp [s00]
theorem s00_eq : List.replicate 104 0 = s00 := rfl
attribute [go_sem] s00_eq
theorem spl_z {t : List Int} (h : t.length = 104) : splC 0 (stC t) (stC s00) = some (stC t) := spl_all (by rw [h, s00_len])
attribute [go_sem] spl_z
def rgtW (w : B) : Bool := decide (w.kind = 13) && decide (checkF numF w = 0)
theorem wb_of {w : B} (hs : w.size ≤ 100000) (h : rgtW w = true) : Wb w := by
  unfold rgtW at h
  simp only [Bool.and_eq_true, decide_eq_true_eq] at h
  obtain ⟨h1, h2⟩ := h
  have hr : rightF numF w = true := by
    unfold checkF at h2
    split at h2
    · cases h2
    · split at h2
      · cases h2
      · rename_i q
        cases hh : rightF numF w with
        | true => rfl
        | false => exact absurd (.inr (.inr hh)) q
  rw [rightF_eq] at hr
  simp only [Bool.and_eq_true] at hr
  have hn := hr.1.2
  unfold numF at hn
  simp [h1] at hn
  have hl := hn.2
  unfold linkedF at hl
  split at hl
  · cases hl
  · split at hl
    · cases hl
    · exact ⟨by omega, by omega, by omega⟩
theorem right19_ok (w : B) (hs : w.size ≤ 100000) : AFn env 24 [w.a] [] (aB (rgtW w)) [] := by
  refine afn_body Tryz.func24 rfl (by decide) ?_
  simp only [Tryz.ntmps24, Tryz.results24, List.length_cons, List.length_nil, List.cons_append, List.nil_append, Nat.reduceAdd, Nat.reduceSub, List.replicate]
  repeat' first
  | ((with_reducible refine awp_seqQ ?_); intro _ _)
  | ((with_reducible refine awp_region ?_); refine zS ?_)
  | ((with_reducible refine Gd_d ?_ ?_) <;> intro hb hb2 <;> first | contradiction | (exfalso; omega) | (refine zH hb2 ?_; try clear hb2))
  | ((with_reducible refine CallK_id ?_); refine zcF ?_; refine ⟨_, by first | exact check_okA w hs | fail, ?_⟩; refine ⟨fun _ => by (first | rfl | simp only [go_sem]; done), fun _ => by (first | rfl | simp only [go_sem]; done), by (first | rfl | (simp [okAs, okA, okCs, okC, okC_st, go_sem]; done)), ?_⟩; try refine zS ?_)
  | ((with_reducible refine awp_ret ?_); refine q_step (by assumption) ?_)
  | with_reducible refine fin_r ?_
  | ((with_reducible refine q_step (by assumption) ?_); try refine zS ?_)
  all_goals (simp [go_sem, rgtW, *])
def startS (w : B) : List Int := settleF (giveF (outsK w (-1)) 1 s00) w
def chkS (w : B) (s : List Int) : Int := if rgtW w = false then 4 else if ((List.range' 0 40).any fun k => decide (gt s k < 0 ∨ gt s k > 2) || (decide ((k : Int) ≥ w.links.length) && decide (gt s k ≠ 0))) = true then 1
  else if ((List.range' 0 64).any fun i => decide (gt s (40 + i) < 0 ∨ gt s (40 + i) > 3) || (decide ((i : Int) ≥ w.kids.length) && decide (gt s (40 + i) ≠ 0))) = true then 1 else 0
theorem start19_ok (w : B) (hs : w.size ≤ 100000) : AFn env 9 [w.a] [] (.tup [.agg (stC (if rgtW w = true then startS w else s00)), aI (if rgtW w = true then 0 else 4)]) [] := by
  have hW := wb_of hs
  have h0 := s00_len
  have h1 : (giveF (outsK w (-1)) 1 s00).length = 104 := by rw [giveF_len]; exact h0
  have h2 : (settleF (giveF (outsK w (-1)) 1 s00) w).length = 104 := by rw [settleF_len]; exact h1
  refine afn_body Tryz.func9 rfl (by decide) ?_
  simp only [Tryz.ntmps9, Tryz.results9, List.length_cons, List.length_nil, List.cons_append, List.nil_append, Nat.reduceAdd, Nat.reduceSub, List.replicate]
  repeat' first
  | ((with_reducible refine awp_seqQ ?_); intro _ _)
  | ((with_reducible refine awp_region ?_); refine zS ?_)
  | ((with_reducible refine AWP_c ?_); refine zcdM ?_ ?_ <;> intro hb <;> first | contradiction | (try refine zH hb ?_))
  | ((with_reducible refine awp_skip ?_); try refine zS ?_)
  | ((with_reducible refine CallK_id ?_); refine zcF ?_; refine ⟨_, by first | exact right19_ok w hs | fail, ?_⟩; refine ⟨fun _ => by (first | rfl | simp only [go_sem]; done), fun _ => by (first | rfl | simp only [go_sem]; done), by (first | rfl | (simp [okAs, okA, okCs, okC, okC_st, go_sem]; done)), ?_⟩; try refine zS ?_)
  | ((with_reducible refine CallK_id ?_); refine zcT [2] ?_; refine ⟨_, _, by first | exact give_ok w (-1) 1 s00 (hW ‹_›) s00_len | exact settle_ok w _ (hW ‹_›) (by rw [giveF_len]; exact s00_len) | fail, ?_⟩; try refine zS ?_)
  | ((with_reducible refine awp_ret ?_); refine q_step (by assumption) ?_)
  | with_reducible refine fin_r ?_
  | ((with_reducible refine q_step (by assumption) ?_); try refine zS ?_)
  all_goals first | (simp [go_sem, startS, *]; done) | trace_state
theorem chk_4 {w : B} {s : List Int} (h : rgtW w = false) : chkS w s = 4 := by rw [chkS, if_pos h]
def badL (w : B) (s : List Int) (k : Nat) : Bool := decide (gt s k < 0 ∨ gt s k > 2) || (decide ((k : Int) ≥ w.links.length) && decide (gt s k ≠ 0))
def badK2 (w : B) (s : List Int) (i : Nat) : Bool := decide (gt s (40 + i) < 0 ∨ gt s (40 + i) > 3) || (decide ((i : Int) ≥ w.kids.length) && decide (gt s (40 + i) ≠ 0))
theorem chk_eq {w : B} {s : List Int} (h : rgtW w = true) : chkS w s = if ((List.range' 0 40).any (badL w s)) = true then 1 else if ((List.range' 0 64).any (badK2 w s)) = true then 1 else 0 := by
  rw [chkS, if_neg (by simp [h])]; rfl
theorem anyR_t {p : Nat → Bool} {n j : Nat} (h : j < n) (hp : p j = true) : (List.range' j (n - j)).any p = true := by
  rw [show n - j = (n - (j + 1)) + 1 by omega, List.range'_succ, List.any_cons, hp, Bool.true_or]
theorem anyR_f {p : Nat → Bool} {n j : Nat} (h : j < n) (hp : p j = false) : (List.range' j (n - j)).any p = (List.range' (j + 1) (n - (j + 1))).any p := by
  rw [show n - j = (n - (j + 1)) + 1 by omega, List.range'_succ, List.any_cons, hp, Bool.false_or]
theorem badL_iff {w : B} {s : List Int} {k : Nat} : badL w s k = true ↔ gt s k < 0 ∨ gt s k > 2 ∨ ((k : Int) ≥ w.links.length ∧ gt s k ≠ 0) := by
  simp [badL]; omega
theorem badK2_iff {w : B} {s : List Int} {k : Nat} : badK2 w s k = true ↔ gt s (40 + k) < 0 ∨ gt s (40 + k) > 3 ∨ ((k : Int) ≥ w.kids.length ∧ gt s (40 + k) ≠ 0) := by
  simp [badK2]; omega
theorem check19_ok (w : B) (s : List Int) (hs : w.size ≤ 100000) (hl : s.length = 104) : AFn env 19 [w.a, .agg (stC s)] [] (aI (chkS w s)) [] := by
  have hW := wb_of hs
  refine afn_body Tryz.func19 rfl (by decide) ?_
  simp only [Tryz.ntmps19, Tryz.results19, List.length_cons, List.length_nil, List.cons_append, List.nil_append, Nat.reduceAdd, Nat.reduceSub, List.replicate]
  repeat' first
  | ((with_reducible refine awp_seqQ ?_); intro _ _)
  | ((with_reducible refine awp_region ?_); refine zS ?_)
  | ((with_reducible refine AWP_c ?_); refine zcdM ?_ ?_ <;> intro hb <;> first | contradiction | (try refine zH hb ?_))
  | ((with_reducible refine awp_skip ?_); try refine zS ?_)
  | with_reducible refine awp_block ?_
  | ((with_reducible refine CallK_id ?_); refine zcF ?_; refine ⟨_, by first | exact right19_ok w hs | fail, ?_⟩; refine ⟨fun _ => by (first | rfl | simp only [go_sem]; done), fun _ => by (first | rfl | simp only [go_sem]; done), by (first | rfl | (simp [okAs, okA, okCs, okC, okC_st, go_sem]; done)), ?_⟩; try refine zS ?_)
  | ((with_reducible refine awp_ret ?_); refine q_step (by assumption) ?_)
  | with_reducible refine fin_r ?_
  | ((with_reducible refine q_step (by assumption) ?_); try refine zS ?_)
  all_goals try (rw [chk_4 (by assumption)]; done)
  have h0 := chk_eq (s := s) ‹rgtW w = true›
  have hw := hW ‹_›
  have hwl := hw.hl
  have hwk := hw.hk
  refine awp_loopT (fun i : Nat => i ≤ 40 ∧ (List.range' 0 40).any (badL w s) = (List.range' i (40 - i)).any (badL w s)) (fun i => 40 - i) (fun i => [(14, aI i)]) (fun _ => [some (.box w.bs), Sb s]) 0 ⟨by omega, rfl⟩ (by exact zwl) ?_
  rintro k ⟨h1, h2⟩
  refine zT ?_
  repeat' first
  | ((with_reducible refine awp_seqQ ?_); intro _ _)
  | ((with_reducible refine awp_region ?_); refine zS ?_)
  | ((with_reducible refine Gd_nd ?_ ?_) <;> intro hb hb2 <;> first | contradiction | (exfalso; omega) | (refine zH hb2 ?_; try clear hb2))
  | ((with_reducible refine Gd_d ?_ ?_) <;> intro hb hb2 <;> first | contradiction | (exfalso; omega) | (refine zH hb2 ?_; try clear hb2))
  | ((with_reducible refine AWP_c ?_); refine zcdT ?_)
  | ((with_reducible refine AWP_c ?_); refine zcdF ?_)
  | ((with_reducible refine AWP_c ?_); refine zcdN ?_ ?_ <;> intro hb hb2 <;> first | contradiction | (exfalso; omega) | ((try refine zH hb2 ?_); try clear hb2))
  | ((with_reducible refine AWP_c ?_); refine zcdD ?_ ?_ <;> intro hb hb2 <;> first | contradiction | (exfalso; omega) | ((try refine zH hb2 ?_); try clear hb2))
  | ((with_reducible refine awp_skip ?_); try refine zS ?_)
  | with_reducible refine awp_block ?_
  | ((with_reducible refine awp_exit ?_); try refine zS ?_)
  | ((with_reducible refine awp_ret ?_); refine q_step (by assumption) ?_)
  | with_reducible refine fin_r ?_
  | ((with_reducible refine q_step (by assumption) ?_); try refine zS ?_)
  all_goals first
    | (rw [h0, h2, anyR_t (by omega) (badL_iff.2 (by omega)), if_pos rfl]; done)
    | exact ⟨k + 1, ⟨by omega, by rw [h2, anyR_f (by omega) (Bool.eq_false_iff.2 (fun h => by have := badL_iff.1 h; omega))]⟩, by omega, (by exact zwc 2)⟩
    | skip
  rw [show 40 - k = 0 by omega, List.range'_zero, List.any_nil] at h2
  rw [h2, if_neg (by simp)] at h0
  refine awp_loopT (fun i : Nat => i ≤ 64 ∧ (List.range' 0 64).any (badK2 w s) = (List.range' i (64 - i)).any (badK2 w s)) (fun i => 64 - i) (fun i => [(38, aI i)]) (fun _ => [some (.box w.bs), Sb s]) 0 ⟨by omega, rfl⟩ (by exact zwl) ?_
  rintro i ⟨h3, h4⟩
  refine zT ?_
  repeat' first
  | ((with_reducible refine awp_seqQ ?_); intro _ _)
  | ((with_reducible refine awp_region ?_); refine zS ?_)
  | ((with_reducible refine Gd_nd ?_ ?_) <;> intro hb hb2 <;> first | contradiction | (exfalso; omega) | (refine zH hb2 ?_; try clear hb2))
  | ((with_reducible refine Gd_d ?_ ?_) <;> intro hb hb2 <;> first | contradiction | (exfalso; omega) | (refine zH hb2 ?_; try clear hb2))
  | ((with_reducible refine AWP_c ?_); refine zcdT ?_)
  | ((with_reducible refine AWP_c ?_); refine zcdF ?_)
  | ((with_reducible refine AWP_c ?_); refine zcdN ?_ ?_ <;> intro hb hb2 <;> first | contradiction | (exfalso; omega) | ((try refine zH hb2 ?_); try clear hb2))
  | ((with_reducible refine AWP_c ?_); refine zcdD ?_ ?_ <;> intro hb hb2 <;> first | contradiction | (exfalso; omega) | ((try refine zH hb2 ?_); try clear hb2))
  | ((with_reducible refine awp_skip ?_); try refine zS ?_)
  | with_reducible refine awp_block ?_
  | ((with_reducible refine awp_exit ?_); try refine zS ?_)
  | ((with_reducible refine awp_ret ?_); refine q_step (by assumption) ?_)
  | with_reducible refine fin_r ?_
  | ((with_reducible refine q_step (by assumption) ?_); try refine zS ?_)
  all_goals first
    | (rw [h0, h4, anyR_t (by omega) (badK2_iff.2 (by omega)), if_pos rfl]; done)
    | exact ⟨i + 1, ⟨by omega, by rw [h4, anyR_f (by omega) (Bool.eq_false_iff.2 (fun h => by have := badK2_iff.1 h; omega))]⟩, by omega, (by exact zwc 2)⟩
    | (rw [h0, h4, show 64 - i = 0 by omega]; rfl)
    | trace_state
end Go.Eng
open Go Go.Proofs
namespace Go.Eng
set_option linter.unusedSimpArgs false
set_option linter.unusedVariables false
set_option maxRecDepth 10000
set_option maxHeartbeats 16000000
def runsF (w : B) (s : List Int) (kid : Int) : Bool := decide (0 ≤ kid) && decide (kid < w.kids.length) && decide (gt s (40 + kid.toNat) = 1)
theorem chk_rgt {w : B} {s : List Int} (h : chkS w s = 0) : rgtW w = true := by
  cases hr : rgtW w with
  | true => rfl
  | false => rw [chk_4 hr] at h; cases h
theorem runs_ok (w : B) (s : List Int) (kid : Int) (hw : Wb w) (hl : s.length = 104) : AFn env 30 [P0, w.a, aI kid] [Sb s] (aB (runsF w s kid)) [Sb s] := by
  have hk := hw.hk
  refine afn_body Tryz.func30 rfl (by decide) ?_
  simp only [Tryz.ntmps30, Tryz.results30, List.length_cons, List.length_nil, List.cons_append, List.nil_append, Nat.reduceAdd, Nat.reduceSub, List.replicate]
  repeat' first
  | ((with_reducible refine awp_seqQ ?_); intro _ _)
  | ((with_reducible refine awp_region ?_); refine zS ?_)
  | ((with_reducible refine Gd_d ?_ ?_) <;> intro hb hb2 <;> first | contradiction | (exfalso; omega) | (refine zH hb2 ?_; try clear hb2))
  | ((with_reducible refine awp_ret ?_); refine q_step (by assumption) ?_)
  | with_reducible refine fin_r ?_
  | ((with_reducible refine q_step (by assumption) ?_); try refine zS ?_)
  all_goals first | rfl | (simp [go_sem, runsF, *]; done) | (simp [go_sem, runsF]; omega) | trace_state
def finS (w : B) (s : List Int) (kid : Int) : List Int × Int := if chkS w s ≠ 0 then (s00, chkS w s) else if runsF w s kid = false ∨ (gt w.kids kid.toNat).kind = 12 then (s00, 6)
  else (settleF (giveF (outsK w kid) 1 (s.set (40 + kid.toNat) 2)) w, 0)
def choS (w : B) (s : List Int) (kid out : Int) : List Int × Int := if chkS w s ≠ 0 then (s00, chkS w s) else if runsF w s kid = false ∨ (gt w.kids kid.toNat).kind ≠ 12 then (s00, 6)
  else if out < 0 ∨ out ≥ (outsK w kid).length then (s00, 1) else (settleF ((giveF (outsK w kid) 2 (s.set (40 + kid.toNat) 2)).set (gt (outsK w kid) out.toNat).toNat 1) w, 0)
def sA (s : List Int) : A := .agg (stC s)
attribute [go_sem] sA
theorem runs_in {w : B} {s : List Int} {kid : Int} (h : runsF w s kid = true) : 0 ≤ kid ∧ kid < w.kids.length := by
  unfold runsF at h
  simp only [Bool.and_eq_true, decide_eq_true_eq] at h
  exact h.1
theorem finish_ok (w : B) (s : List Int) (kid : Int) (hs : w.size ≤ 100000) (hl : s.length = 104) : AFn env 17 [w.a, sA s, aI kid] [] (.tup [sA (finS w s kid).1, aI (finS w s kid).2]) [] := by
  have hW : chkS w s = 0 → Wb w := fun h => wb_of hs (chk_rgt h)
  have hkid : runsF w s kid = true → 0 ≤ kid ∧ kid < w.kids.length := runs_in
  have hk64 : chkS w s = 0 → w.kids.length ≤ 64 := fun h => (hW h).hk
  have hset : (s.set (40 + kid.toNat) 2).length = 104 := by simpa using hl
  have hgi : (giveF (outsK w kid) 1 (s.set (40 + kid.toNat) 2)).length = 104 := by rw [giveF_len]; exact hset
  have hse : (settleF (giveF (outsK w kid) 1 (s.set (40 + kid.toNat) 2)) w).length = 104 := by rw [settleF_len]; exact hgi
  have h00 := s00_len
  refine afn_body Tryz.func17 rfl (by decide) ?_
  simp only [Tryz.ntmps17, Tryz.results17, List.length_cons, List.length_nil, List.cons_append, List.nil_append, Nat.reduceAdd, Nat.reduceSub, List.replicate]
  repeat' first
  | ((with_reducible refine awp_seqQ ?_); intro _ _)
  | ((with_reducible refine awp_region ?_); refine zS ?_)
  | ((with_reducible refine Gd_b ?_ ?_) <;> intro hb <;> first | contradiction | refine zH hb ?_)
  | ((with_reducible refine AWP_c ?_); refine zcdT ?_)
  | ((with_reducible refine AWP_c ?_); refine zcdN ?_ ?_ <;> intro hb hb2 <;> first | contradiction | (exfalso; omega) | ((try refine zH hb2 ?_); try clear hb2))
  | ((with_reducible refine awp_skip ?_); try refine zS ?_)
  | ((with_reducible refine CallK_id ?_); refine zcF ?_; refine ⟨_, by first | exact check19_ok w s hs hl | fail, ?_⟩; refine ⟨fun _ => by (first | rfl | simp only [go_sem]; done), fun _ => by (first | rfl | simp only [go_sem]; done), by (first | rfl | (simp [okAs, okA, okCs, okC, okC_st, go_sem]; done)), ?_⟩; try refine zS ?_)
  | ((with_reducible refine CallK_id ?_); refine zcT [1] ?_; refine ⟨_, _, by first | exact runs_ok w s kid (hW ‹_›) hl | fail, ?_⟩; try refine zS ?_)
  | ((with_reducible refine awp_ret ?_); refine q_step (by assumption) ?_)
  | with_reducible refine fin_r ?_
  | ((with_reducible refine q_step (by assumption) ?_); try refine zS ?_)
  all_goals first
    | (rw [finS, if_pos (by assumption)]; done)
    | (rw [finS, if_neg (by omega), if_pos (by first | exact .inl (by assumption) | exact .inr (by assumption))]; done)
    | skip
  have hkid := hkid ‹_›
  have hk64 := hk64 ‹_›
  refine zS ?_
  repeat' first
  | ((with_reducible refine awp_seqQ ?_); intro _ _)
  | ((with_reducible refine awp_region ?_); refine zS ?_)
  | ((with_reducible refine AWP_c ?_); refine zcdD ?_ ?_ <;> intro hb hb2 <;> first | contradiction | (exfalso; omega) | ((try refine zH hb2 ?_); try clear hb2))
  | ((with_reducible refine awp_skip ?_); try refine zS ?_)
  | ((with_reducible refine CallK_id ?_); refine zcT [1] ?_; refine ⟨_, _, by first | exact give_ok w kid 1 _ (hW ‹_›) (by simpa using hl) | exact settle_ok w _ (hW ‹_›) (by rw [giveF_len]; simpa using hl) | fail, ?_⟩; try refine zS ?_)
  | ((with_reducible refine awp_ret ?_); refine q_step (by assumption) ?_)
  | with_reducible refine fin_r ?_
  | ((with_reducible refine q_step (by assumption) ?_); try refine zS ?_)
  all_goals first
    | (rw [finS, if_neg (by omega), if_pos (by first | exact .inl (by assumption) | exact .inr (by assumption))]; done)
    | (rw [finS, if_neg (by omega), if_neg (by simp [*])]; done)
    | trace_state
def runL (s : List Int) : List Nat → List Int
  | [] => []
  | i :: r => if gt s (40 + i) = 1 then (i : Int) :: runL s r else runL s r
def runS (w : B) (s : List Int) : List Int := if chkS w s ≠ 0 then [] else runL s (List.range' 0 w.kids.length)
def ovrS (w : B) (s : List Int) : Bool := if chkS w s ≠ 0 then false else (insK w (-1)).any fun k => decide (gt s k.toNat = 1)
theorem runL_t {s : List Int} {n j : Nat} (h : j < n) (hp : gt s (40 + j) = 1) : runL s (List.range' j (n - j)) = (j : Int) :: runL s (List.range' (j + 1) (n - (j + 1))) := by
  rw [show n - j = (n - (j + 1)) + 1 by omega, List.range'_succ, runL, if_pos hp]
theorem runL_f {s : List Int} {n j : Nat} (h : j < n) (hp : ¬ gt s (40 + j) = 1) : runL s (List.range' j (n - j)) = runL s (List.range' (j + 1) (n - (j + 1))) := by
  rw [show n - j = (n - (j + 1)) + 1 by omega, List.range'_succ, runL, if_neg hp]
theorem choose_ok (w : B) (s : List Int) (kid out : Int) (hs : w.size ≤ 100000) (hl : s.length = 104) : AFn env 15 [w.a, sA s, aI kid, aI out] [] (.tup [sA (choS w s kid out).1, aI (choS w s kid out).2]) [] := by
  have hW : chkS w s = 0 → Wb w := fun h => wb_of hs (chk_rgt h)
  have hkid : runsF w s kid = true → 0 ≤ kid ∧ kid < w.kids.length := runs_in
  have hk64 : chkS w s = 0 → w.kids.length ≤ 64 := fun h => (hW h).hk
  have hom : chkS w s = 0 → ∀ j, j < (outsK w kid).length → 0 ≤ gt (outsK w kid) j ∧ gt (outsK w kid) j < 40 := fun h j hj => outs_40 (hW h) kid _ (gt_mem hj)
  have hol : (outsK w kid).length ≤ w.links.length := idx2_len _ w.links 0
  have hz := B.size_eq w
  have hset : (s.set (40 + kid.toNat) 2).length = 104 := by simpa using hl
  have hgi : (giveF (outsK w kid) 2 (s.set (40 + kid.toNat) 2)).length = 104 := by rw [giveF_len]; exact hset
  have hgj : ((giveF (outsK w kid) 2 (s.set (40 + kid.toNat) 2)).set (gt (outsK w kid) out.toNat).toNat 1).length = 104 := by simpa using hgi
  have hse : (settleF ((giveF (outsK w kid) 2 (s.set (40 + kid.toNat) 2)).set (gt (outsK w kid) out.toNat).toNat 1) w).length = 104 := by rw [settleF_len]; exact hgj
  have h00 := s00_len
  refine afn_body Tryz.func15 rfl (by decide) ?_
  simp only [Tryz.ntmps15, Tryz.results15, List.length_cons, List.length_nil, List.cons_append, List.nil_append, Nat.reduceAdd, Nat.reduceSub, List.replicate]
  repeat' first
  | ((with_reducible refine awp_seqQ ?_); intro _ _)
  | ((with_reducible refine awp_region ?_); refine zS ?_)
  | ((with_reducible refine Gd_b ?_ ?_) <;> intro hb <;> first | contradiction | refine zH hb ?_)
  | ((with_reducible refine AWP_c ?_); refine zcdT ?_)
  | ((with_reducible refine AWP_c ?_); refine zcdN ?_ ?_ <;> intro hb hb2 <;> first | contradiction | (exfalso; omega) | ((try refine zH hb2 ?_); try clear hb2))
  | ((with_reducible refine awp_skip ?_); try refine zS ?_)
  | ((with_reducible refine CallK_id ?_); refine zcF ?_; refine ⟨_, by first | exact check19_ok w s hs hl | fail, ?_⟩; refine ⟨fun _ => by (first | rfl | simp only [go_sem]; done), fun _ => by (first | rfl | simp only [go_sem]; done), by (first | rfl | (simp [okAs, okA, okCs, okC, okC_st, go_sem]; done)), ?_⟩; try refine zS ?_)
  | ((with_reducible refine CallK_id ?_); refine zcT [1] ?_; refine ⟨_, _, by first | exact runs_ok w s kid (hW ‹_›) hl | fail, ?_⟩; try refine zS ?_)
  | ((with_reducible refine awp_ret ?_); refine q_step (by assumption) ?_)
  | with_reducible refine fin_r ?_
  | ((with_reducible refine q_step (by assumption) ?_); try refine zS ?_)
  all_goals first
    | (rw [choS, if_pos (by assumption)]; done)
    | (rw [choS, if_neg (by omega), if_pos (by first | exact .inl (by assumption) | exact .inr (by assumption))]; done)
    | skip
  have hkid := hkid ‹_›
  have hk64 := hk64 ‹_›
  have hom : (0 ≤ out ∧ out < (outsK w kid).length) → 0 ≤ gt (outsK w kid) out.toNat ∧ gt (outsK w kid) out.toNat < 40 := fun h => hom ‹_› _ (by omega)
  refine zS ?_
  repeat' first
  | ((with_reducible refine awp_seqQ ?_); intro _ _)
  | ((with_reducible refine awp_region ?_); refine zS ?_)
  | ((with_reducible refine Gd_nd ?_ ?_) <;> intro hb hb2 <;> first | contradiction | (exfalso; omega) | (refine zH hb2 ?_; try clear hb2))
  | ((with_reducible refine AWP_c ?_); refine zcdT ?_)
  | ((with_reducible refine AWP_c ?_); refine zcdN ?_ ?_ <;> intro hb hb2 <;> first | contradiction | (exfalso; omega) | ((try refine zH hb2 ?_); try clear hb2))
  | ((with_reducible refine AWP_c ?_); refine zcdD ?_ ?_ <;> intro hb hb2 <;> first | contradiction | (exfalso; omega) | ((try refine zH hb2 ?_); try clear hb2))
  | ((with_reducible refine awp_skip ?_); try refine zS ?_)
  | ((with_reducible refine CallK_id ?_); refine zcF ?_; refine ⟨_, by first | exact outs19_ok w kid (by omega) | fail, ?_⟩; refine ⟨fun _ => by (first | rfl | simp only [go_sem]; done), fun _ => by (first | rfl | simp only [go_sem]; done), by (first | rfl | (simp [okAs, okA, okCs, okC, okC_st, go_sem]; done)), ?_⟩; try refine zS ?_)
  | ((with_reducible refine CallK_id ?_); refine zcT [1] ?_; refine ⟨_, _, by first | exact give_ok w kid 2 _ (hW ‹_›) (by simpa using hl) | exact settle_ok w _ (hW ‹_›) (by simpa [giveF_len] using hl) | fail, ?_⟩; try refine zS ?_)
  | ((with_reducible refine awp_ret ?_); refine q_step (by assumption) ?_)
  | with_reducible refine fin_r ?_
  | ((with_reducible refine q_step (by assumption) ?_); try refine zS ?_)
  all_goals first
    | (rw [choS, if_neg (by omega), if_pos (by first | exact .inl (by assumption) | exact .inr (by assumption))]; done)
    | (rw [choS, if_neg (by omega), if_neg (by simp [*]), if_pos (by omega)]; done)
    | (rw [choS, if_neg (by omega), if_neg (by simp [*]), if_neg (by omega)]; done)
    | trace_state
theorem running_ok (w : B) (s : List Int) (hs : w.size ≤ 100000) (hl : s.length = 104) : AFn env 12 [w.a, sA s] [] (aF ((runS w s).map iRow)) [] := by
  have hW : chkS w s = 0 → Wb w := fun h => wb_of hs (chk_rgt h)
  have hk64 : chkS w s = 0 → w.kids.length ≤ 64 := fun h => (hW h).hk
  refine afn_body Tryz.func12 rfl (by decide) ?_
  simp only [Tryz.ntmps12, Tryz.results12, List.length_cons, List.length_nil, List.cons_append, List.nil_append, Nat.reduceAdd, Nat.reduceSub, List.replicate]
  repeat' first
  | ((with_reducible refine awp_seqQ ?_); intro _ _)
  | ((with_reducible refine awp_region ?_); refine zS ?_)
  | ((with_reducible refine AWP_c ?_); refine zcdN ?_ ?_ <;> intro hb hb2 <;> first | contradiction | (exfalso; omega) | ((try refine zH hb2 ?_); try clear hb2))
  | ((with_reducible refine awp_skip ?_); try refine zS ?_)
  | with_reducible refine awp_block ?_
  | ((with_reducible refine CallK_id ?_); refine zcF ?_; refine ⟨_, by first | exact check19_ok w s hs hl | fail, ?_⟩; refine ⟨fun _ => by (first | rfl | simp only [go_sem]; done), fun _ => by (first | rfl | simp only [go_sem]; done), by (first | rfl | (simp [okAs, okA, okCs, okC, okC_st, go_sem]; done)), ?_⟩; try refine zS ?_)
  | ((with_reducible refine awp_ret ?_); refine q_step (by assumption) ?_)
  | with_reducible refine fin_r ?_
  | ((with_reducible refine q_step (by assumption) ?_); try refine zS ?_)
  · rw [runS, if_pos (by assumption)]; rfl
  have hk64 := hk64 ‹_›
  have hr : runS w s = runL s (List.range' 0 w.kids.length) := by rw [runS, if_neg (by omega)]
  refine awp_wk (wk_virt none (i := 5) (s := 1) (by decide) rfl) ?_
  refine zT ?_
  refine awp_loopT (fun z : Nat × List Int => z.1 ≤ w.kids.length ∧ z.2 ++ runL s (List.range' z.1 (w.kids.length - z.1)) = runS w s ∧ z.2.length ≤ z.1) (fun z => w.kids.length - z.1) (fun z => [(5, OwnK 2 z.2.length), (14, aI z.1)]) (fun z => [some (.box w.bs), Sb s, RwG z.2]) (0, []) ⟨by simp, by simp [hr], by simp⟩ (by exact zwl) ?_
  rintro ⟨i, o⟩ ⟨h1, h2, h3⟩
  simp only at h1 h2 h3
  refine zT ?_
  repeat' first
  | ((with_reducible refine awp_seqQ ?_); intro _ _)
  | ((with_reducible refine awp_region ?_); refine zS ?_)
  | ((with_reducible refine AWP_c ?_); refine zcdD ?_ ?_ <;> intro hb hb2 <;> first | contradiction | (exfalso; omega) | ((try refine zH hb2 ?_); try clear hb2))
  | ((with_reducible refine awp_skip ?_); try refine zS ?_)
  | with_reducible refine awp_block ?_
  | ((with_reducible refine awp_exit ?_); try refine zS ?_)
  | ((with_reducible refine awp_ret ?_); refine q_step (by assumption) ?_)
  | ((with_reducible refine q_step (by assumption) ?_); try refine zS ?_)
  · exact ⟨(i + 1, o ++ [(i : Int)]), ⟨by simp only; omega, by rw [← h2, runL_t (j := i) (by omega) (by assumption)]; simp, by simp; omega⟩, by simp only; omega, wk_cl 3 (by decide) (by simp) (by simp only [go_sem, Bool.not_not, List.mem_singleton, forall_eq, ↓reduceIte, if_pos, rowsAt_map, wrap64, wrapu8, List.getElem?_cons_zero, List.getElem?_cons_succ, Int.reduceToNat, Nat.reduceAdd, Nat.reduceBEq, Bool.or_false, Bool.false_or, Bool.true_or, Nat.reduceSub, Nat.reduceMul, Int.reduceAdd, Int.reduceEq, Int.reduceLT, Int.reduceLE, Int.reduceNeg, Nat.reduceLT, Nat.reduceLeDiff, Nat.reduceEqDiff]; try simp) (by simp only [go_sem, Bool.not_not, List.mem_singleton, forall_eq, ↓reduceIte, if_pos, rowsAt_map, wrap64, wrapu8, List.getElem?_cons_zero, List.getElem?_cons_succ, Int.reduceToNat, Nat.reduceAdd, Nat.reduceBEq, Bool.or_false, Bool.false_or, Bool.true_or, Nat.reduceSub, Nat.reduceMul, Int.reduceAdd, Int.reduceEq, Int.reduceLT, Int.reduceLE, Int.reduceNeg, Nat.reduceLT, Nat.reduceLeDiff, Nat.reduceEqDiff, List.map_append]; try simp [go_sem])⟩
  · exact ⟨(i + 1, o), ⟨by simp only; omega, by rw [← h2, runL_f (j := i) (by omega) (by assumption)], by simp only; omega⟩, by simp only; omega, (by exact zwc 3)⟩
  rw [show w.kids.length - i = 0 by omega, List.range'_zero, runL, List.append_nil] at h2
  refine fin_r ?_
  rw [h2]
theorem over_ok (w : B) (s : List Int) (hs : w.size ≤ 100000) (hl : s.length = 104) : AFn env 21 [w.a, sA s] [] (aB (ovrS w s)) [] := by
  have hW : chkS w s = 0 → Wb w := fun h => wb_of hs (chk_rgt h)
  have him : chkS w s = 0 → ∀ q ∈ insK w (-1), 0 ≤ q ∧ q < 40 := fun h => ins_40 (hW h) (-1)
  have hil : (insK w (-1)).length ≤ w.links.length := idx2_len _ w.links 0
  have hz := B.size_eq w
  refine afn_body Tryz.func21 rfl (by decide) ?_
  simp only [Tryz.ntmps21, Tryz.results21, List.length_cons, List.length_nil, List.cons_append, List.nil_append, Nat.reduceAdd, Nat.reduceSub, List.replicate]
  repeat' first
  | ((with_reducible refine awp_seqQ ?_); intro _ _)
  | ((with_reducible refine awp_region ?_); refine zS ?_)
  | ((with_reducible refine AWP_c ?_); refine zcdN ?_ ?_ <;> intro hb hb2 <;> first | contradiction | (exfalso; omega) | ((try refine zH hb2 ?_); try clear hb2))
  | ((with_reducible refine awp_skip ?_); try refine zS ?_)
  | with_reducible refine awp_block ?_
  | ((with_reducible refine CallK_id ?_); refine zcF ?_; refine ⟨_, by first | exact check19_ok w s hs hl | exact ins19_ok w (-1) (by omega) | fail, ?_⟩; refine ⟨fun _ => by (first | rfl | simp only [go_sem]; done), fun _ => by (first | rfl | simp only [go_sem]; done), by (first | rfl | (simp [okAs, okA, okCs, okC, okC_st, go_sem]; done)), ?_⟩; try refine zS ?_)
  | ((with_reducible refine awp_ret ?_); refine q_step (by assumption) ?_)
  | with_reducible refine fin_r ?_
  | ((with_reducible refine q_step (by assumption) ?_); try refine zS ?_)
  · rw [ovrS, if_pos (by assumption)]
  have him := him ‹_›
  have hr : ovrS w s = (insK w (-1)).any fun k => decide (gt s k.toNat = 1) := by rw [ovrS, if_neg (by omega)]
  refine awp_loopT (fun j : Nat => j ≤ (insK w (-1)).length ∧ ovrS w s = ((insK w (-1)).drop j).any fun k => decide (gt s k.toNat = 1)) (fun j => (insK w (-1)).length - j) (fun j => [(14, aI j)]) (fun _ => [some (.box w.bs), Sb s]) 0 ⟨by omega, by simp [hr]⟩ (by exact zwl) ?_
  rintro j ⟨h1, h2⟩
  have hR : j < (insK w (-1)).length → 0 ≤ gt (insK w (-1)) j ∧ gt (insK w (-1)) j < 40 := fun h => him _ (gt_mem h)
  refine zT ?_
  repeat' first
  | ((with_reducible refine awp_seqQ ?_); intro _ _)
  | ((with_reducible refine awp_region ?_); refine zS ?_)
  | ((with_reducible refine AWP_c ?_); refine zcdD ?_ ?_ <;> intro hb hb2 <;> first | contradiction | (exfalso; omega) | ((try refine zH hb2 ?_); try clear hb2))
  | ((with_reducible refine awp_skip ?_); try refine zS ?_)
  | with_reducible refine awp_block ?_
  | ((with_reducible refine awp_exit ?_); try refine zS ?_)
  | ((with_reducible refine awp_ret ?_); refine q_step (by assumption) ?_)
  | with_reducible refine fin_r ?_
  | ((with_reducible refine q_step (by assumption) ?_); try refine zS ?_)
  all_goals first
    | (rw [h2, drop_gt (by omega), List.any_cons, decide_eq_true (by assumption)]; rfl)
    | exact ⟨j + 1, ⟨by omega, by rw [h2, drop_gt (by omega), List.any_cons, decide_eq_false (by assumption)]; rfl⟩, by omega, (by exact zwc 2)⟩
    | (rw [h2, List.drop_eq_nil_of_le (by omega)]; rfl)
    | trace_state
end Go.Eng
