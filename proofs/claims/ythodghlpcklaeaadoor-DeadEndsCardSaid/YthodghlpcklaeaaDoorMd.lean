/- Each function of the program, walked over plain data: what it comes to, at all arguments. -/
import Derived.Test.YthodghlpcklaeaaDoorMc
import Derived.Test.YthodghlpcklaeaaDoorMb
import Derived.Test.YthodghlpcklaeaaDoorEf
import Derived.Test.YthodghlpcklaeaaDoorMa
open Go Go.Proofs
namespace Go.Eng
set_option linter.unusedSimpArgs false
set_option linter.unusedVariables false
set_option maxRecDepth 10000
set_option maxHeartbeats 4000000
mutual
def pL : B → List B
  | .mk k n x y t c ks l ns fs => .mk k n x y t c ks l ns fs :: pLs ks
def pLs : List B → List B
  | [] => []
  | b :: l => pL b ++ pLs l
end
theorem pL_eq (b : B) : pL b = b :: pLs b.kids := by cases b; rw [pL]; rfl
mutual
theorem items_pL : ∀ (b : B) (p q : Int) (off : Nat), (itemsF b p q off).map It.b = pL b
  | .mk k n x y t c ks l ns fs, p, q, off => by rw [itemsF, pL, List.map_cons, itemsK_pL ks]
theorem itemsK_pL : ∀ (l : List B) (own off i : Nat), (itemsK l own off i).map It.b = pLs l
  | [], _, _, _ => by rw [itemsK, pLs]; rfl
  | b :: l, own, off, i => by rw [itemsK, pLs, List.map_append, items_pL b, itemsK_pL l]
end
mutual
theorem pL_sub : ∀ (b x : B), x ∈ pL b → (pL x).Sublist (pL b)
  | .mk k n x y t c ks l ns fs, z, h => by
    rw [pL] at h ⊢
    rcases List.mem_cons.1 h with rfl | h
    · rw [pL]; exact List.Sublist.refl _
    · exact (pLs_sub ks z h).cons _
theorem pLs_sub : ∀ (l : List B) (x : B), x ∈ pLs l → (pL x).Sublist (pLs l)
  | [], x, h => by simp [pLs] at h
  | b :: l, x, h => by
    rw [pLs] at h ⊢
    rcases List.mem_append.1 h with h | h
    · exact (pL_sub b x h).trans (List.sublist_append_left _ _)
    · exact (pLs_sub l x h).trans (List.sublist_append_right _ _)
end
mutual
theorem pL_deep : ∀ (b x : B), x ∈ pL b → deepF x ≤ deepF b
  | .mk k n x y t c ks l ns fs, z, h => by
    rw [pL] at h
    rcases List.mem_cons.1 h with rfl | h
    · exact Nat.le_refl _
    · have := pLs_deep ks z h
      rw [deepF_eq (.mk k n x y t c ks l ns fs)]; simp only [B.kids]; omega
theorem pLs_deep : ∀ (l : List B) (x : B), x ∈ pLs l → deepF x ≤ deeps l
  | [], x, h => by simp [pLs] at h
  | b :: l, x, h => by
    rw [pLs] at h
    rw [deeps]
    rcases List.mem_append.1 h with h | h
    · have := pL_deep b x h; omega
    · have := pLs_deep l x h; omega
end
mutual
theorem pL_right (N : B → Bool) : ∀ (b x : B), x ∈ pL b → rightF N b = true → rightF N x = true
  | .mk k n x y t c ks l ns fs, z, h, hr => by
    rw [pL] at h
    rcases List.mem_cons.1 h with rfl | h
    · exact hr
    · rw [rightF_eq] at hr
      simp only [Bool.and_eq_true, Bool.not_eq_true', B.kids] at hr
      exact pLs_right N k ks z h hr.2
theorem pLs_right (N : B → Bool) (k : Int) : ∀ (l : List B) (x : B), x ∈ pLs l → l.any (wrong1 N k) = false → rightF N x = true
  | [], x, h, _ => by simp [pLs] at h
  | b :: l, x, h, hr => by
    rw [pLs] at h
    rw [List.any_cons, Bool.or_eq_false_iff] at hr
    rcases List.mem_append.1 h with h | h
    · refine pL_right N b x h ?_
      have := hr.1
      simp only [wrong1, Bool.or_eq_false_iff, Bool.not_eq_false'] at this
      exact this.2
    · exact pLs_right N k l x h hr.2
end
def nodesL (l : List B) : List Int := l.filterMap fun b => if skips b.kind then none else some b.node
theorem nodesL_sub {l l' : List B} (h : l.Sublist l') : (nodesL l).Sublist (nodesL l') := h.filterMap _
theorem dupF_ok : ∀ (L : List It) (s : List Int), dupF L s = false ↔ (nodesL (L.map It.b)).Nodup ∧ ∀ n ∈ nodesL (L.map It.b), n ∉ s
  | [], s => by simp [dupF, nodesL]
  | x :: l, s => by
    rw [dupF]
    by_cases hk : skips x.b.kind
    · rw [if_pos hk, dupF_ok l s]
      simp [nodesL, hk]
    · have hn : nodesL ((x :: l).map It.b) = x.b.node :: nodesL (l.map It.b) := by simp [nodesL, hk]
      rw [if_neg hk, hn]
      by_cases hm : x.b.node ∈ s
      · rw [if_pos hm]
        constructor
        · intro h; cases h
        · rintro ⟨_, h⟩; exact absurd hm (h _ (by simp))
      · rw [if_neg hm, dupF_ok l]
        simp only [List.nodup_cons, List.mem_cons, ins, if_neg hm, List.mem_append, List.mem_singleton, not_or]
        constructor
        · rintro ⟨h1, h2⟩
          refine ⟨⟨fun h => ?_, h1⟩, ?_⟩
          · exact (h2 _ h).2.1 rfl
          · rintro n (rfl | h)
            · exact hm
            · exact (h2 n h).1
        · rintro ⟨⟨h1, h2⟩, h3⟩
          refine ⟨h2, fun n hn => ⟨h3 n (.inr hn), fun h => ?_, by simp⟩⟩
          subst h; exact h1 hn
theorem check_part {N : B → Bool} {b x : B} (h : checkF N b = 0) (hx : x ∈ pL b) (h1 : x.kind ≠ 12) (h2 : x.kind ≠ 10) : checkF N x = 0 := by
  unfold checkF at h ⊢
  split at h
  · cases h
  · split at h
    · cases h
    · split at h
      · cases h
      · rename_i q1 q2 q3
        have hs := pL_sub b x hx
        have hc : x.count ≤ b.count := by
          have := hs.length_le
          rwa [← items_pL b (-1) 0 0, ← items_pL x (-1) 0 0, List.length_map, List.length_map, itemsF_len, itemsF_len] at this
        have hd := pL_deep b x hx
        have hr : rightF N b = true := by
          cases hh : rightF N b with
          | true => rfl
          | false => exact absurd (.inr (.inr hh)) q2
        have hr2 := pL_right N b x hx hr
        have q3 : dupF (itemsF b (-1) 0 0) [] = false := by simpa using q3
        rw [dupF_ok, items_pL] at q3
        have q4 : dupF (itemsF x (-1) 0 0) [] = false := by
          rw [dupF_ok, items_pL]
          exact ⟨q3.1.sublist (nodesL_sub hs), fun n hn => by simp⟩
        rw [if_neg (by omega), if_neg (by rw [hr2]; simp; exact ⟨h2, h1⟩), if_neg (by rw [q4]; simp)]
theorem right_okA (b : B) (hs : b.size ≤ 100000) : AFn env 24 [b.a] [] (aB (rightF numF b)) [] :=
  right_ok numF (fun b => decide (b.size ≤ 100000)) (fun b h k hk => by have := B.size_lt hk; simp only [decide_eq_true_eq] at *; omega) (fun b _ => bare_ok b) (fun b h => num_ok b (by simp only [decide_eq_true_eq] at h; omega)) b (by simpa using hs) hs
theorem check_okA (b : B) (hs : b.size ≤ 100000) : AFn env 20 [b.a] [] (aI (checkF numF b)) [] := check_ok numF b hs (right_okA b hs)
end Go.Eng
open Go Go.Proofs
namespace Go.Eng
set_option linter.unusedSimpArgs false
set_option linter.unusedVariables false
set_option maxRecDepth 10000
set_option maxHeartbeats 8000000
theorem rep_iRow2 (n : Nat) (b : Int) : List.replicate n [D.sc (.int .i64 b)] = (List.replicate n b).map iRow := by rw [List.map_replicate]; rfl
attribute [go_sem] rep_iRow2 Nat.zero_add Nat.mul_one
def Sb (s : List Int) : Option Blk := some (.box (stC s))
attribute [go_sem] Sb
def idx2 (p : Lk → Bool) : List Lk → Nat → List Int
  | [], _ => []
  | f :: l, i => if p f = true then (i : Int) :: idx2 p l (i + 1) else idx2 p l (i + 1)
theorem idx2_len (p : Lk → Bool) : ∀ (l : List Lk) (i : Nat), (idx2 p l i).length ≤ l.length
  | [], _ => by simp [idx2]
  | f :: l, i => by have := idx2_len p l (i + 1); rw [idx2]; split <;> simp <;> omega
theorem idx2_mem {p : Lk → Bool} {k : Int} : ∀ {l : List Lk} {i : Nat}, k ∈ idx2 p l i → (i : Int) ≤ k ∧ k < i + l.length
  | [], i, h => by simp [idx2] at h
  | f :: l, i, h => by
    rw [idx2] at h
    split at h
    · rcases List.mem_cons.1 h with rfl | h
      · simp only [List.length_cons]; omega
      · have := idx2_mem h; simp only [List.length_cons]; omega
    · have := idx2_mem h; simp only [List.length_cons]; omega
def outsK (w : B) (i : Int) : List Int := idx2 (fun f => decide (f.src = i)) w.links 0
def insK (w : B) (i : Int) : List Int := idx2 (fun f => decide (f.dst = i)) w.links 0
theorem outs19_ok (w : B) (i : Int) (hs : w.size < 1000000000000) : AFn env 18 [w.a, aI i] [] (aF ((outsK w i).map iRow)) [] := by
  have hz := B.size_eq w
  refine afn_body Tryd.func18 rfl (by decide) ?_
  simp only [Tryd.ntmps18, Tryd.results18, List.length_cons, List.length_nil, List.cons_append, List.nil_append, Nat.reduceAdd, Nat.reduceSub, List.replicate]
  iterate 2 (refine awp_seq ?_; refine awp_region ?_; refine zS ?_)
  refine awp_wk (wk_virt none (i := 5) (s := 1) (by decide) rfl) ?_
  refine zT ?_
  repeat' first
  | ((with_reducible refine awp_seqQ ?_); intro _ _)
  | ((with_reducible refine awp_region ?_); refine zS ?_)
  | with_reducible refine awp_block ?_
  refine awp_loopT (fun z : Nat × List Int => z.1 ≤ w.links.length ∧ z.2 ++ idx2 (fun f => decide (f.src = i)) (w.links.drop z.1) z.1 = outsK w i ∧ z.2.length ≤ z.1) (fun z => w.links.length - z.1) (fun z => [(5, OwnK 1 z.2.length), (11, aI z.1)]) (fun z => [some (.box w.bs), RwG z.2]) (0, []) ⟨by simp, by simp [outsK], by simp⟩ (by exact zwl) ?_
  rintro ⟨j, o⟩ ⟨h1, h2, h3⟩
  simp only at h1 h2 h3
  refine zT ?_
  repeat' first
  | ((with_reducible refine awp_seqQ ?_); intro _ _)
  | ((with_reducible refine awp_region ?_); refine zS ?_)
  | ((with_reducible refine AWP_c ?_); refine zcdD ?_ ?_ <;> intro hb hb2 <;> first | contradiction | (exfalso; omega) | ((try refine zH hb2 ?_); try clear hb2))
  | ((with_reducible refine awp_skip ?_); try refine zS ?_)
  | with_reducible refine awp_block ?_
  | ((with_reducible refine awp_exit ?_); try refine zS ?_)
  | ((with_reducible refine awp_ret ?_); refine q_step (by assumption) ?_)
  | ((with_reducible refine q_step (by assumption) ?_); try refine zS ?_)
  · exact ⟨(j + 1, o ++ [(j : Int)]), ⟨by simp only; omega, by rw [← h2, drop_gt (l := w.links) (i := j) (by omega), idx2, if_pos (by simp [*])]; simp, by simp; omega⟩, by simp only; omega, wk_cl 2 (by decide) (by simp) (by simp only [go_sem, Bool.not_not, List.mem_singleton, forall_eq, ↓reduceIte, if_pos, rowsAt_map, wrap64, wrapu8, List.getElem?_cons_zero, List.getElem?_cons_succ, Int.reduceToNat, Nat.reduceAdd, Nat.reduceBEq, Bool.or_false, Bool.false_or, Bool.true_or, Nat.reduceSub, Nat.reduceMul, Int.reduceAdd, Int.reduceEq, Int.reduceLT, Int.reduceLE, Int.reduceNeg, Nat.reduceLT, Nat.reduceLeDiff, Nat.reduceEqDiff]; try simp) (by simp only [go_sem, Bool.not_not, List.mem_singleton, forall_eq, ↓reduceIte, if_pos, rowsAt_map, wrap64, wrapu8, List.getElem?_cons_zero, List.getElem?_cons_succ, Int.reduceToNat, Nat.reduceAdd, Nat.reduceBEq, Bool.or_false, Bool.false_or, Bool.true_or, Nat.reduceSub, Nat.reduceMul, Int.reduceAdd, Int.reduceEq, Int.reduceLT, Int.reduceLE, Int.reduceNeg, Nat.reduceLT, Nat.reduceLeDiff, Nat.reduceEqDiff, List.map_append]; try simp [go_sem])⟩
  · exact ⟨(j + 1, o), ⟨by simp only; omega, by rw [← h2, drop_gt (l := w.links) (i := j) (by omega), idx2, if_neg (by simp [*])], by simp only; omega⟩, by simp only; omega, (by exact zwc 2)⟩
  refine fin_r ?_
  rw [List.drop_eq_nil_of_le (by omega), idx2, List.append_nil] at h2
  rw [h2]
theorem ins19_ok (w : B) (i : Int) (hs : w.size < 1000000000000) : AFn env 19 [w.a, aI i] [] (aF ((insK w i).map iRow)) [] := by
  have hz := B.size_eq w
  refine afn_body Tryd.func19 rfl (by decide) ?_
  simp only [Tryd.ntmps19, Tryd.results19, List.length_cons, List.length_nil, List.cons_append, List.nil_append, Nat.reduceAdd, Nat.reduceSub, List.replicate]
  iterate 2 (refine awp_seq ?_; refine awp_region ?_; refine zS ?_)
  refine awp_wk (wk_virt none (i := 5) (s := 1) (by decide) rfl) ?_
  refine zT ?_
  repeat' first
  | ((with_reducible refine awp_seqQ ?_); intro _ _)
  | ((with_reducible refine awp_region ?_); refine zS ?_)
  | with_reducible refine awp_block ?_
  refine awp_loopT (fun z : Nat × List Int => z.1 ≤ w.links.length ∧ z.2 ++ idx2 (fun f => decide (f.dst = i)) (w.links.drop z.1) z.1 = insK w i ∧ z.2.length ≤ z.1) (fun z => w.links.length - z.1) (fun z => [(5, OwnK 1 z.2.length), (11, aI z.1)]) (fun z => [some (.box w.bs), RwG z.2]) (0, []) ⟨by simp, by simp [insK], by simp⟩ (by exact zwl) ?_
  rintro ⟨j, o⟩ ⟨h1, h2, h3⟩
  simp only at h1 h2 h3
  refine zT ?_
  repeat' first
  | ((with_reducible refine awp_seqQ ?_); intro _ _)
  | ((with_reducible refine awp_region ?_); refine zS ?_)
  | ((with_reducible refine AWP_c ?_); refine zcdD ?_ ?_ <;> intro hb hb2 <;> first | contradiction | (exfalso; omega) | ((try refine zH hb2 ?_); try clear hb2))
  | ((with_reducible refine awp_skip ?_); try refine zS ?_)
  | with_reducible refine awp_block ?_
  | ((with_reducible refine awp_exit ?_); try refine zS ?_)
  | ((with_reducible refine awp_ret ?_); refine q_step (by assumption) ?_)
  | ((with_reducible refine q_step (by assumption) ?_); try refine zS ?_)
  · exact ⟨(j + 1, o ++ [(j : Int)]), ⟨by simp only; omega, by rw [← h2, drop_gt (l := w.links) (i := j) (by omega), idx2, if_pos (by simp [*])]; simp, by simp; omega⟩, by simp only; omega, wk_cl 2 (by decide) (by simp) (by simp only [go_sem, Bool.not_not, List.mem_singleton, forall_eq, ↓reduceIte, if_pos, rowsAt_map, wrap64, wrapu8, List.getElem?_cons_zero, List.getElem?_cons_succ, Int.reduceToNat, Nat.reduceAdd, Nat.reduceBEq, Bool.or_false, Bool.false_or, Bool.true_or, Nat.reduceSub, Nat.reduceMul, Int.reduceAdd, Int.reduceEq, Int.reduceLT, Int.reduceLE, Int.reduceNeg, Nat.reduceLT, Nat.reduceLeDiff, Nat.reduceEqDiff]; try simp) (by simp only [go_sem, Bool.not_not, List.mem_singleton, forall_eq, ↓reduceIte, if_pos, rowsAt_map, wrap64, wrapu8, List.getElem?_cons_zero, List.getElem?_cons_succ, Int.reduceToNat, Nat.reduceAdd, Nat.reduceBEq, Bool.or_false, Bool.false_or, Bool.true_or, Nat.reduceSub, Nat.reduceMul, Int.reduceAdd, Int.reduceEq, Int.reduceLT, Int.reduceLE, Int.reduceNeg, Nat.reduceLT, Nat.reduceLeDiff, Nat.reduceEqDiff, List.map_append]; try simp [go_sem])⟩
  · exact ⟨(j + 1, o), ⟨by simp only; omega, by rw [← h2, drop_gt (l := w.links) (i := j) (by omega), idx2, if_neg (by simp [*])], by simp only; omega⟩, by simp only; omega, (by exact zwc 2)⟩
  refine fin_r ?_
  rw [List.drop_eq_nil_of_le (by omega), idx2, List.append_nil] at h2
  rw [h2]
def giveF (os : List Int) (v : Int) (s : List Int) : List Int := os.foldl (fun s k => s.set k.toNat v) s
theorem giveF_len (v : Int) : ∀ (os : List Int) (s : List Int), (giveF os v s).length = s.length
  | [], s => rfl
  | k :: os, s => by rw [giveF, List.foldl_cons]; exact (giveF_len v os _).trans (by simp)
theorem give_drop {os : List Int} {v : Int} {s : List Int} {j : Nat} (h : j < os.length) : giveF (os.drop j) v s = giveF (os.drop (j + 1)) v (s.set (gt os j).toNat v) := by
  rw [drop_gt h]; rfl
structure Wb (w : B) : Prop where
  hs : w.size < 1000000000000
  hl : w.links.length ≤ 40
  hk : w.kids.length ≤ 64
theorem give_ok (w : B) (k v : Int) (s : List Int) (hw : Wb w) (hs : s.length = 104) : AFn env 14 [P0, w.a, aI k, aI v] [Sb s] (.tup []) [Sb (giveF (outsK w k) v s)] := by
  have hl := hw.hl
  have hol : (outsK w k).length ≤ w.links.length := idx2_len _ w.links 0
  have hom : ∀ q ∈ outsK w k, 0 ≤ q ∧ q < w.links.length := fun q hq => by have := idx2_mem hq; omega
  refine afn_body Tryd.func14 rfl (by decide) ?_
  simp only [Tryd.ntmps14, Tryd.results14, List.length_cons, List.length_nil, List.cons_append, List.nil_append, Nat.reduceAdd, Nat.reduceSub, List.replicate]
  repeat' first
  | ((with_reducible refine awp_seqQ ?_); intro _ _)
  | ((with_reducible refine awp_region ?_); refine zS ?_)
  | with_reducible refine awp_block ?_
  | ((with_reducible refine CallK_id ?_); refine zcF ?_; refine ⟨_, by first | exact outs19_ok w k hw.hs | fail, ?_⟩; refine ⟨fun _ => by (first | rfl | simp only [go_sem]; done), fun _ => by (first | rfl | simp only [go_sem]; done), by (first | rfl | (simp [okAs, okA, okCs, okC, okC_st, go_sem]; done)), ?_⟩; try refine zS ?_)
  refine awp_loopT (fun z : Nat × List Int => z.1 ≤ (outsK w k).length ∧ z.2.length = 104 ∧ giveF (outsK w k) v s = giveF ((outsK w k).drop z.1) v z.2) (fun z => (outsK w k).length - z.1) (fun z => [(14, aI z.1)]) (fun z => [Sb z.2, some (.box w.bs)]) (0, s) ⟨by simp, hs, rfl⟩ (by exact zwl) ?_
  rintro ⟨j, t⟩ ⟨h1, h2, h3⟩
  simp only at h1 h2 h3
  have hR : j < (outsK w k).length → 0 ≤ gt (outsK w k) j ∧ gt (outsK w k) j < 40 := fun h => by have := hom _ (gt_mem h); omega
  refine zT ?_
  repeat' first
  | ((with_reducible refine awp_seqQ ?_); intro _ _)
  | ((with_reducible refine awp_region ?_); refine zS ?_)
  | ((with_reducible refine AWP_c ?_); refine zcdD ?_ ?_ <;> intro hb hb2 <;> first | contradiction | (exfalso; omega) | ((try refine zH hb2 ?_); try clear hb2))
  | with_reducible refine fin_qn ?_ ?_
  | ((with_reducible refine awp_skip ?_); try refine zS ?_)
  | with_reducible refine awp_block ?_
  | ((with_reducible refine awp_exit ?_); try refine zS ?_)
  | ((with_reducible refine q_step (by assumption) ?_); try refine zS ?_)
  · exact ⟨(j + 1, t.set (gt (outsK w k) j).toNat v), ⟨by simp only; omega, by simpa using h2, by rw [h3, give_drop (by omega)]⟩, by simp only; omega, (by exact zwc 2)⟩
  · rfl
  · rw [h3, List.drop_eq_nil_of_le (by omega)]; rfl
def takenF (s : List Int) : List Int → Int
  | [] => 0
  | k :: l => (if gt s k.toNat = 1 then 1 else 0) + takenF s l
theorem takenF_le (s : List Int) : ∀ l : List Int, 0 ≤ takenF s l ∧ takenF s l ≤ l.length
  | [] => by simp [takenF]
  | o :: l => by have := takenF_le s l; rw [takenF]; simp only [List.length_cons]; split <;> omega
theorem taken_drop {s os : List Int} {j : Nat} (h : j < os.length) : takenF s (os.drop j) = (if gt s (gt os j).toNat = 1 then 1 else 0) + takenF s (os.drop (j + 1)) := by rw [drop_gt h, takenF]
def livesF (s : List Int) (w : B) (i : Nat) : Bool := if (gt w.kids i).kind = 12 ∧ (gt w.kids i).x = 2 then decide (takenF s (insK w i) = (insK w i).length) else decide (takenF s (insK w i) > 0)
theorem lives_ok (w : B) (i : Nat) (s : List Int) (hw : Wb w) (hs : s.length = 104) (hi : i < w.kids.length) : AFn env 25 [P0, w.a, aI i] [Sb s] (aB (livesF s w i)) [Sb s] := by
  have hl := hw.hl
  have hk := hw.hk
  have hil : (insK w i).length ≤ w.links.length := idx2_len _ w.links 0
  have him : ∀ q ∈ insK w i, 0 ≤ q ∧ q < w.links.length := fun q hq => by have := idx2_mem hq; omega
  refine afn_body Tryd.func25 rfl (by decide) ?_
  simp only [Tryd.ntmps25, Tryd.results25, List.length_cons, List.length_nil, List.cons_append, List.nil_append, Nat.reduceAdd, Nat.reduceSub, List.replicate]
  repeat' first
  | ((with_reducible refine awp_seqQ ?_); intro _ _)
  | ((with_reducible refine awp_region ?_); refine zS ?_)
  | with_reducible refine awp_block ?_
  | ((with_reducible refine CallK_id ?_); refine zcF ?_; refine ⟨_, by first | exact ins19_ok w i hw.hs | fail, ?_⟩; refine ⟨fun _ => by (first | rfl | simp only [go_sem]; done), fun _ => by (first | rfl | simp only [go_sem]; done), by (first | rfl | (simp [okAs, okA, okCs, okC, okC_st, go_sem]; done)), ?_⟩; try refine zS ?_)
  refine awp_loopT (fun z : Nat × Int => z.1 ≤ (insK w i).length ∧ z.2 + takenF s ((insK w i).drop z.1) = takenF s (insK w i) ∧ 0 ≤ z.2 ∧ z.2 ≤ z.1) (fun z => (insK w i).length - z.1) (fun z => [(7, aI z.2), (16, aI z.1)]) (fun z => [Sb s, some (.box w.bs)]) (0, 0) ⟨by simp, by simp, by simp, by simp⟩ (by exact zwl) ?_
  rintro ⟨j, c⟩ ⟨h1, h2, h3, h4⟩
  simp only at h1 h2 h3 h4
  have hR : j < (insK w i).length → 0 ≤ gt (insK w i) j ∧ gt (insK w i) j < 40 := fun h => by have := him _ (gt_mem h); omega
  refine zT ?_
  repeat' first
  | ((with_reducible refine awp_seqQ ?_); intro _ _)
  | ((with_reducible refine awp_region ?_); refine zS ?_)
  | ((with_reducible refine Gd_d ?_ ?_) <;> intro hb hb2 <;> first | contradiction | (exfalso; omega) | (refine zH hb2 ?_; try clear hb2))
  | ((with_reducible refine AWP_c ?_); refine zcdF ?_)
  | ((with_reducible refine AWP_c ?_); refine zcdD ?_ ?_ <;> intro hb hb2 <;> first | contradiction | (exfalso; omega) | ((try refine zH hb2 ?_); try clear hb2))
  | ((with_reducible refine awp_skip ?_); try refine zS ?_)
  | with_reducible refine awp_block ?_
  | ((with_reducible refine awp_exit ?_); try refine zS ?_)
  | ((with_reducible refine awp_ret ?_); refine q_step (by assumption) ?_)
  | with_reducible refine fin_r ?_
  | ((with_reducible refine q_step (by assumption) ?_); try refine zS ?_)
  all_goals first
    | (have hT := taken_drop (s := s) (os := insK w i) (j := j) (by omega)
       first
       | (rw [if_pos ‹_›] at hT; exact ⟨(j + 1, c + 1), ⟨by simp only; omega, by simp only; omega, by simp only; omega, by simp only; omega⟩, by simp only; omega, (by exact zwc 2)⟩)
       | (rw [if_neg ‹_›] at hT; exact ⟨(j + 1, c), ⟨by simp only; omega, by simp only; omega, by simp only; omega, by simp only; omega⟩, by simp only; omega, (by exact zwc 2)⟩))
    | (rw [List.drop_eq_nil_of_le (by omega), takenF] at h2
       rw [show takenF s (insK w i) = c by omega]
       trace_state)
    | (have hc : c = takenF s (insK w i) := (by rw [List.drop_eq_nil_of_le (by omega), takenF] at h2; omega)
       subst hc
       unfold livesF
       first | (rw [if_pos ⟨by assumption, by assumption⟩]; done) | (rw [if_neg (by omega)]; done))
    | trace_state
def fateF (s : List Int) (w : B) (i : Nat) : List Int := if livesF s w i = false then giveF (outsK w i) 2 (s.set (40 + i) 3) else if (gt w.kids i).kind = 12 ∧ (gt w.kids i).x ≠ 3 then giveF (outsK w i) 1 (s.set (40 + i) 2) else s.set (40 + i) 1
theorem fate_ok (w : B) (i : Nat) (s : List Int) (hw : Wb w) (hs : s.length = 104) (hi : i < w.kids.length) : AFn env 21 [P0, w.a, aI i] [Sb s] (.tup []) [Sb (fateF s w i)] := by
  have hl := hw.hl
  have hk := hw.hk
  have hg : ∀ os v t, (giveF os v t).length = t.length := fun os v t => giveF_len v os t
  refine afn_body Tryd.func21 rfl (by decide) ?_
  simp only [Tryd.ntmps21, Tryd.results21, List.length_cons, List.length_nil, List.cons_append, List.nil_append, Nat.reduceAdd, Nat.reduceSub, List.replicate]
  repeat' first
  | ((with_reducible refine awp_seqQ ?_); intro _ _)
  | ((with_reducible refine awp_region ?_); refine zS ?_)
  | ((with_reducible refine Gd_d ?_ ?_) <;> intro hb hb2 <;> first | contradiction | (exfalso; omega) | (refine zH hb2 ?_; try clear hb2))
  | ((with_reducible refine AWP_c ?_); refine zcdF ?_)
  | ((with_reducible refine AWP_c ?_); refine zcdN ?_ ?_ <;> intro hb hb2 <;> first | contradiction | (exfalso; omega) | ((try refine zH hb2 ?_); try clear hb2))
  | ((with_reducible refine AWP_c ?_); refine zcdM ?_ ?_ <;> intro hb <;> first | contradiction | (try refine zH hb ?_))
  | with_reducible refine fin_qn ?_ ?_
  | with_reducible refine awp_block ?_
  | ((with_reducible refine CallK_id ?_); refine zcT [0] ?_; refine ⟨_, _, by first | exact lives_ok w i s hw hs hi | exact give_ok w i _ _ hw (by simpa using hs) | fail, ?_⟩; try refine zS ?_)
  | ((with_reducible refine q_step (by assumption) ?_); try refine zS ?_)
  all_goals first
    | rfl
    | (rw [fateF, if_pos (by assumption)]; done)
    | (rw [fateF, if_neg (by simp [*]), if_pos (by omega)]; done)
    | (rw [fateF, if_neg (by simp [*]), if_neg (by omega)]; done)
    | trace_state
end Go.Eng
open Go Go.Proofs
namespace Go.Eng
set_option linter.unusedSimpArgs false
set_option linter.unusedVariables false
set_option maxRecDepth 10000
set_option maxHeartbeats 16000000
theorem gtI_set2 (s : List Int) (i j : Nat) (b : Int) (h : i < s.length) : gt (s.set i b) j = if i = j then b else gt s j := by
  unfold gt
  rw [List.getD_eq_getElem?_getD, List.getElem?_set, List.getD_eq_getElem?_getD]
  split
  · rename_i e; subst e; simp [h]
  · rfl
theorem give_get {v : Int} : ∀ {os : List Int} {s : List Int} {j : Nat}, (∀ q ∈ os, 0 ≤ q ∧ q < 40) → 40 ≤ j → s.length = 104 → gt (giveF os v s) j = gt s j
  | [], s, j, _, _, _ => rfl
  | k :: os, s, j, h, hj, hs => by
    have hk := h k (by simp)
    show gt (giveF os v (s.set k.toNat v)) j = _
    rw [give_get (fun q hq => h q (by simp [hq])) hj (by simpa using hs), gtI_set2 _ _ _ _ (by omega), if_neg (by omega)]
theorem fateF_len (s : List Int) (w : B) (i : Nat) : (fateF s w i).length = s.length := by
  unfold fateF; split
  · rw [giveF_len]; simp
  · split
    · rw [giveF_len]; simp
    · simp
theorem outs_40 {w : B} (hw : Wb w) (i : Int) : ∀ q ∈ outsK w i, 0 ≤ q ∧ q < 40 := fun q hq => by have := idx2_mem hq; have := hw.hl; omega
theorem ins_40 {w : B} (hw : Wb w) (i : Int) : ∀ q ∈ insK w i, 0 ≤ q ∧ q < 40 := fun q hq => by have := idx2_mem hq; have := hw.hl; omega
theorem fate_get {s : List Int} {w : B} {i j : Nat} (hw : Wb w) (hs : s.length = 104) (hi : i < w.kids.length) (hj : j < w.kids.length) : (j ≠ i → gt (fateF s w i) (40 + j) = gt s (40 + j)) ∧ gt (fateF s w i) (40 + i) ≠ 0 := by
  have hk := hw.hk
  have ho := outs_40 hw i
  unfold fateF
  split
  · rw [give_get ho (by omega) (by simpa using hs), give_get ho (by omega) (by simpa using hs), gtI_set2 _ _ _ _ (by omega), gtI_set2 _ _ _ _ (by omega), if_pos rfl]
    exact ⟨fun h => by rw [if_neg (by omega)], by decide⟩
  · split
    · rw [give_get ho (by omega) (by simpa using hs), give_get ho (by omega) (by simpa using hs), gtI_set2 _ _ _ _ (by omega), gtI_set2 _ _ _ _ (by omega), if_pos rfl]
      exact ⟨fun h => by rw [if_neg (by omega)], by decide⟩
    · rw [gtI_set2 _ _ _ _ (by omega), gtI_set2 _ _ _ _ (by omega), if_pos rfl]
      exact ⟨fun h => by rw [if_neg (by omega)], by decide⟩
def waits (s : List Int) : Nat → Nat
  | 0 => 0
  | n + 1 => (if gt s (40 + n) = 0 then 1 else 0) + waits s n
theorem waits_le (s : List Int) : ∀ n, waits s n ≤ n
  | 0 => Nat.le_refl _
  | n + 1 => by have := waits_le s n; rw [waits]; split <;> omega
theorem waits_lt {s t : List Int} {i : Nat} : ∀ {n : Nat}, i < n → gt s (40 + i) = 0 → gt t (40 + i) ≠ 0 → (∀ j, j < n → j ≠ i → gt t (40 + j) = gt s (40 + j)) → waits t n < waits s n ∧ True
  | 0, h, _, _, _ => by omega
  | n + 1, h, h1, h2, h3 => by
    refine ⟨?_, trivial⟩
    rw [waits, waits]
    by_cases hn : i = n
    · subst hn
      rw [if_pos h1, if_neg h2]
      have : ∀ m, m ≤ i → waits t m = waits s m := fun m hm => by
        induction m with
        | zero => rfl
        | succ m ih => rw [waits, waits, ih (by omega), h3 m (by omega) (by omega)]
      rw [this i (Nat.le_refl _)]; omega
    · have := waits_lt (n := n) (by omega) h1 h2 (fun j hj => h3 j (by omega))
      rw [h3 n (by omega) (by omega)]
      omega
def ready (s : List Int) (w : B) (i : Nat) : Bool := decide (gt s (40 + i) = 0) && (insK w i).all (fun k => decide (gt s k.toNat ≠ 0))
def pickF (s : List Int) (w : B) : Option Nat := (List.range' 0 w.kids.length).find? (ready s w)
def settleN (w : B) : Nat → List Int → List Int
  | 0, s => s
  | k + 1, s => match pickF s w with | none => s | some i => settleN w k (fateF s w i)
def settleF (s : List Int) (w : B) : List Int := settleN w (waits s w.kids.length) s
theorem settle_none {s : List Int} {w : B} (h : pickF s w = none) : settleF s w = s := by
  unfold settleF
  cases waits s w.kids.length with
  | zero => rfl
  | succ n => rw [settleN, h]
theorem pick_spec {s : List Int} {w : B} {i : Nat} (h : pickF s w = some i) : i < w.kids.length ∧ gt s (40 + i) = 0 := by
  have hm := List.mem_of_find?_eq_some h
  have hh := List.find?_some h
  obtain ⟨j, hj, rfl⟩ := List.mem_range'.1 hm
  refine ⟨by omega, ?_⟩
  unfold ready at hh
  simp only [Bool.and_eq_true, decide_eq_true_eq] at hh
  exact hh.1
theorem fate_waits {s : List Int} {w : B} {i : Nat} (hw : Wb w) (hs : s.length = 104) (hi : i < w.kids.length) (h0 : gt s (40 + i) = 0) : waits (fateF s w i) w.kids.length < waits s w.kids.length :=
  (waits_lt hi h0 (fate_get hw hs hi hi).2 (fun j hj hne => (fate_get hw hs hi hj).1 hne)).1
theorem settleN_len (w : B) : ∀ (k : Nat) (s : List Int), (settleN w k s).length = s.length
  | 0, s => rfl
  | k + 1, s => by
    rw [settleN]
    split
    · rfl
    · rw [settleN_len w k, fateF_len]
theorem settleF_len (s : List Int) (w : B) : (settleF s w).length = s.length := settleN_len w _ s
theorem settleN_none {s : List Int} {w : B} (h : pickF s w = none) : ∀ k, settleN w k s = s
  | 0 => rfl
  | k + 1 => by rw [settleN, h]
theorem settleN_more {w : B} (hw : Wb w) : ∀ (k : Nat) (s : List Int), s.length = 104 → waits s w.kids.length ≤ k → settleN w k s = settleN w (waits s w.kids.length) s := by
  intro k
  induction k using Nat.strongRecOn with
  | _ k ih =>
    intro s hs hk
    cases hp : pickF s w with
    | none => rw [settleN_none hp, settleN_none hp]
    | some i =>
      have h1 := pick_spec hp
      have h2 := fate_waits hw hs h1.1 h1.2
      obtain ⟨m, hm⟩ : ∃ m, waits s w.kids.length = m + 1 := ⟨waits s w.kids.length - 1, by omega⟩
      obtain ⟨k', rfl⟩ : ∃ k', k = k' + 1 := ⟨k - 1, by omega⟩
      rw [hm, settleN, settleN, hp]
      simp only
      have hf : (fateF s w i).length = 104 := by rw [fateF_len]; exact hs
      rw [ih k' (by omega) _ hf (by omega), ih m (by omega) _ hf (by omega)]
theorem settle_some {s : List Int} {w : B} {i : Nat} (hw : Wb w) (hs : s.length = 104) (h : pickF s w = some i) : settleF s w = settleF (fateF s w i) w ∧ waits (fateF s w i) w.kids.length < waits s w.kids.length ∧ fateF s w i ≠ s := by
  have h1 := pick_spec h
  have h2 := fate_waits hw hs h1.1 h1.2
  refine ⟨?_, h2, fun e => by rw [e] at h2; omega⟩
  unfold settleF
  obtain ⟨m, hm⟩ : ∃ m, waits s w.kids.length = m + 1 := ⟨waits s w.kids.length - 1, by omega⟩
  rw [hm, settleN, h]
  simp only
  exact settleN_more hw m _ (by rw [fateF_len]; exact hs) (by omega)
theorem pick_t {s : List Int} {w : B} {i : Nat} (hi : i < w.kids.length) (h : ready s w i = true) : (List.range' i (w.kids.length - i)).find? (ready s w) = some i := by
  rw [show w.kids.length - i = (w.kids.length - (i + 1)) + 1 by omega, List.range'_succ, List.find?_cons_of_pos h]
theorem pick_f {s : List Int} {w : B} {i : Nat} (hi : i < w.kids.length) (h : ready s w i = false) : (List.range' i (w.kids.length - i)).find? (ready s w) = (List.range' (i + 1) (w.kids.length - (i + 1))).find? (ready s w) := by
  rw [show w.kids.length - i = (w.kids.length - (i + 1)) + 1 by omega, List.range'_succ, List.find?_cons_of_neg (by simp [h])]
theorem ready_k {s : List Int} {w : B} {i : Nat} (h : ¬ gt s (40 + i) = 0) : ready s w i = false := by simp [ready, h]
theorem ready_l {s : List Int} {w : B} {i j : Nat} (hj : j < (insK w i).length) (h : gt s (gt (insK w i) j).toNat = 0) : ready s w i = false := by
  unfold ready
  rw [show ((insK w i).all fun k => decide (gt s k.toNat ≠ 0)) = false by
    rw [List.all_eq_false]; exact ⟨_, gt_mem hj, by simp [h]⟩]
  simp
theorem ready_t {s : List Int} {w : B} {i : Nat} (h : gt s (40 + i) = 0) (h2 : ∀ j, j < (insK w i).length → ¬ gt s (gt (insK w i) j).toNat = 0) : ready s w i = true := by
  unfold ready
  rw [decide_eq_true h, Bool.true_and, List.all_eq_true]
  intro k hk
  obtain ⟨j, hj, rfl⟩ := List.getElem_of_mem hk
  have := h2 j hj
  rw [show gt (insK w i) j = (insK w i)[j] by simp [gt, List.getD, hj]] at this
  simpa using this
theorem settle_ok (w : B) (s : List Int) (hw : Wb w) (hs : s.length = 104) : AFn env 15 [P0, w.a] [Sb s] (.tup []) [Sb (settleF s w)] := by
  have hl := hw.hl
  have hk := hw.hk
  refine afn_body Tryd.func15 rfl (by decide) ?_
  simp only [Tryd.ntmps15, Tryd.results15, List.length_cons, List.length_nil, List.cons_append, List.nil_append, Nat.reduceAdd, Nat.reduceSub, List.replicate]
  refine awp_seq ?_
  refine awp_region ?_
  refine zS ?_
  refine awp_scopeJ 0 (fun s1 : List Int => s1.length = 104 ∧ settleF s1 w = settleF s w) (fun s1 => (P0 :: w.a :: .any :: .c (.ptr 1 0 0 0) :: List.replicate 46 .any, [Sb s1, some (.box w.bs)])) (fun s1 => waits s1 w.kids.length) rfl ?_ ?_
  · obtain ⟨s1, hs1⟩ : ∃ s1, s1 = s := ⟨s, rfl⟩
    have e1 : s1.length = 104 := by rw [hs1]; exact hs
    have e2 : settleF s1 w = settleF s w := by rw [hs1]
    rw [show stC s = stC s1 by rw [hs1]]
    clear hs1
    simp only [go_sem, Bool.not_not, List.mem_singleton, forall_eq, ↓reduceIte, if_pos, rowsAt_map, wrap64, wrapu8, List.getElem?_cons_zero, List.getElem?_cons_succ, Int.reduceToNat, Nat.reduceAdd, Nat.reduceBEq, Bool.or_false, Bool.false_or, Bool.true_or, Nat.reduceSub, Nat.reduceMul, Int.reduceAdd, Int.reduceEq, Int.reduceLT, Int.reduceLE, Int.reduceNeg, Nat.reduceLT, Nat.reduceLeDiff, Nat.reduceEqDiff, List.replicate]
    repeat' first
    | ((with_reducible refine awp_seqQ ?_); intro _ _)
    | ((with_reducible refine awp_region ?_); refine zS ?_)
    | with_reducible refine awp_block ?_
    | ((with_reducible refine awp_label ?_); try refine zS ?_)
    refine awp_loopT (fun i : Nat => i ≤ w.kids.length ∧ pickF s1 w = (List.range' i (w.kids.length - i)).find? (ready s1 w)) (fun i => w.kids.length - i) (fun i => [(14, aI i)]) (fun _ => [Sb s1, some (.box w.bs), Sb s1]) 0 ⟨by omega, rfl⟩ (by exact zwl) ?_
    rintro i ⟨h1, h2⟩
    have hil : (insK w i).length ≤ w.links.length := idx2_len _ w.links 0
    have him := ins_40 hw i
    refine zT ?_
    repeat' first
    | ((with_reducible refine awp_seqQ ?_); intro _ _)
    | ((with_reducible refine awp_region ?_); refine zS ?_)
    | ((with_reducible refine awp_drawnC ?_ ?_); rfl; refine zS ?_)
    | ((with_reducible refine AWP_c ?_); refine zcdF ?_)
    | ((with_reducible refine AWP_c ?_); refine zcdN ?_ ?_ <;> intro hb hb2 <;> first | contradiction | (exfalso; omega) | ((try refine zH hb2 ?_); try clear hb2))
    | ((with_reducible refine AWP_c ?_); refine zcdD ?_ ?_ <;> intro hb hb2 <;> first | contradiction | (exfalso; omega) | ((try refine zH hb2 ?_); try clear hb2))
    | with_reducible refine fin_qn ?_ ?_
    | ((with_reducible refine awp_skip ?_); try refine zS ?_)
    | with_reducible refine awp_block ?_
    | ((with_reducible refine awp_exit ?_); try refine zS ?_)
    | ((with_reducible refine CallK_id ?_); refine zcF ?_; refine ⟨_, by first | exact ins19_ok w i hw.hs | fail, ?_⟩; refine ⟨fun _ => by (first | rfl | simp only [go_sem]; done), fun _ => by (first | rfl | simp only [go_sem]; done), by (first | rfl | (simp [okAs, okA, okCs, okC, okC_st, go_sem]; done)), ?_⟩; try refine zS ?_)
    | ((with_reducible refine q_step (by assumption) ?_); try refine zS ?_)
    · exact ⟨i + 1, ⟨by omega, by rw [h2, pick_f (by omega) (ready_k ‹_›)]⟩, by omega, (by exact zwc 3)⟩
    · refine awp_loopT (fun j : Nat => j ≤ (insK w i).length ∧ ∀ k, k < j → ¬ gt s1 (gt (insK w i) k).toNat = 0) (fun j => (insK w i).length - j) (fun j => [(28, aI j)]) (fun _ => [Sb s1, some (.box w.bs), Sb s1]) 0 ⟨by omega, fun k h => by omega⟩ (by exact zwl) ?_
      rintro j ⟨h3, h4⟩
      have hR : j < (insK w i).length → 0 ≤ gt (insK w i) j ∧ gt (insK w i) j < 40 := fun h => him _ (gt_mem h)
      have hfl := fateF_len s1 w i
      refine zT ?_
      repeat' first
      | ((with_reducible refine awp_seqQ ?_); intro _ _)
      | ((with_reducible refine awp_region ?_); refine zS ?_)
      | ((with_reducible refine awp_drawnC ?_ ?_); rfl; refine zS ?_)
      | ((with_reducible refine AWP_c ?_); refine zcdN ?_ ?_ <;> intro hb hb2 <;> first | contradiction | (exfalso; omega) | ((try refine zH hb2 ?_); try clear hb2))
      | ((with_reducible refine AWP_c ?_); refine zcdD ?_ ?_ <;> intro hb hb2 <;> first | contradiction | (exfalso; omega) | ((try refine zH hb2 ?_); try clear hb2))
      | with_reducible refine fin_qn ?_ ?_
      | ((with_reducible refine awp_skip ?_); try refine zS ?_)
      | with_reducible refine awp_block ?_
      | ((with_reducible refine awp_exit ?_); try refine zS ?_)
      | ((with_reducible refine CallK_id ?_); refine zcT [0] ?_; refine ⟨_, _, by first | exact fate_ok w i s1 hw e1 (by omega) | fail, ?_⟩; try refine zS ?_)
      | ((with_reducible refine awp_goto ?_); try refine zS ?_)
      | ((with_reducible refine q_step (by assumption) ?_); try refine zS ?_)
      all_goals first
        | exact ⟨i + 1, ⟨by omega, by rw [h2, pick_f (by omega) (ready_l (j := j) (by omega) ‹_›)]⟩, by omega, (by exact zwc 3)⟩
        | exact ⟨j + 1, ⟨by omega, fun k hk => by
            by_cases e : k = j
            · subst e; assumption
            · exact h4 k (by omega)⟩, by omega, (by exact zwc 3)⟩
        | (have hp : pickF s1 w = some i := (by rw [h2, pick_t (by omega) (ready_t (by assumption) (fun k hk => h4 k (by omega)))])
           obtain ⟨q1, q2, q3⟩ := settle_some hw e1 hp
           first
           | exact absurd (by assumption) q3
           | exact ⟨fateF s1 w i, ⟨by rw [fateF_len]; exact e1, by rw [← q1, e2]⟩, (by exact zwc 2)⟩
           | trace_state)
        | trace_state
    all_goals first
      | rfl
      | (rw [← e2, settle_none (by rw [h2, show w.kids.length - i = 0 by omega]; rfl)]; done)
      | trace_state
  · rintro s1 ⟨e1, e2⟩
    simp only [go_sem, Bool.not_not, List.mem_singleton, forall_eq, ↓reduceIte, if_pos, rowsAt_map, wrap64, wrapu8, List.getElem?_cons_zero, List.getElem?_cons_succ, Int.reduceToNat, Nat.reduceAdd, Nat.reduceBEq, Bool.or_false, Bool.false_or, Bool.true_or, Nat.reduceSub, Nat.reduceMul, Int.reduceAdd, Int.reduceEq, Int.reduceLT, Int.reduceLE, Int.reduceNeg, Nat.reduceLT, Nat.reduceLeDiff, Nat.reduceEqDiff, List.replicate]
    repeat' first
    | ((with_reducible refine awp_seqQ ?_); intro _ _)
    | ((with_reducible refine awp_region ?_); refine zS ?_)
    | ((with_reducible refine awp_skip ?_); try refine zS ?_)
    | with_reducible refine awp_block ?_
    | ((with_reducible refine awp_label ?_); try refine zS ?_)
    refine awp_loopT (fun i : Nat => i ≤ w.kids.length ∧ pickF s1 w = (List.range' i (w.kids.length - i)).find? (ready s1 w)) (fun i => w.kids.length - i) (fun i => [(14, aI i)]) (fun _ => [Sb s1, some (.box w.bs), Sb s1]) 0 ⟨by omega, rfl⟩ (by exact zwl) ?_
    rintro i ⟨h1, h2⟩
    have hil : (insK w i).length ≤ w.links.length := idx2_len _ w.links 0
    have him := ins_40 hw i
    refine zT ?_
    repeat' first
    | ((with_reducible refine awp_seqQ ?_); intro _ _)
    | ((with_reducible refine awp_region ?_); refine zS ?_)
    | ((with_reducible refine awp_drawnC ?_ ?_); rfl; refine zS ?_)
    | ((with_reducible refine AWP_c ?_); refine zcdF ?_)
    | ((with_reducible refine AWP_c ?_); refine zcdN ?_ ?_ <;> intro hb hb2 <;> first | contradiction | (exfalso; omega) | ((try refine zH hb2 ?_); try clear hb2))
    | ((with_reducible refine AWP_c ?_); refine zcdD ?_ ?_ <;> intro hb hb2 <;> first | contradiction | (exfalso; omega) | ((try refine zH hb2 ?_); try clear hb2))
    | with_reducible refine fin_qn ?_ ?_
    | ((with_reducible refine awp_skip ?_); try refine zS ?_)
    | with_reducible refine awp_block ?_
    | ((with_reducible refine awp_exit ?_); try refine zS ?_)
    | ((with_reducible refine CallK_id ?_); refine zcF ?_; refine ⟨_, by first | exact ins19_ok w i hw.hs | fail, ?_⟩; refine ⟨fun _ => by (first | rfl | simp only [go_sem]; done), fun _ => by (first | rfl | simp only [go_sem]; done), by (first | rfl | (simp [okAs, okA, okCs, okC, okC_st, go_sem]; done)), ?_⟩; try refine zS ?_)
    | ((with_reducible refine q_step (by assumption) ?_); try refine zS ?_)
    · exact ⟨i + 1, ⟨by omega, by rw [h2, pick_f (by omega) (ready_k ‹_›)]⟩, by omega, (by exact zwc 3)⟩
    · refine awp_loopT (fun j : Nat => j ≤ (insK w i).length ∧ ∀ k, k < j → ¬ gt s1 (gt (insK w i) k).toNat = 0) (fun j => (insK w i).length - j) (fun j => [(28, aI j)]) (fun _ => [Sb s1, some (.box w.bs), Sb s1]) 0 ⟨by omega, fun k h => by omega⟩ (by exact zwl) ?_
      rintro j ⟨h3, h4⟩
      have hR : j < (insK w i).length → 0 ≤ gt (insK w i) j ∧ gt (insK w i) j < 40 := fun h => him _ (gt_mem h)
      have hfl := fateF_len s1 w i
      refine zT ?_
      repeat' first
      | ((with_reducible refine awp_seqQ ?_); intro _ _)
      | ((with_reducible refine awp_region ?_); refine zS ?_)
      | ((with_reducible refine awp_drawnC ?_ ?_); rfl; refine zS ?_)
      | ((with_reducible refine AWP_c ?_); refine zcdN ?_ ?_ <;> intro hb hb2 <;> first | contradiction | (exfalso; omega) | ((try refine zH hb2 ?_); try clear hb2))
      | ((with_reducible refine AWP_c ?_); refine zcdD ?_ ?_ <;> intro hb hb2 <;> first | contradiction | (exfalso; omega) | ((try refine zH hb2 ?_); try clear hb2))
      | with_reducible refine fin_qn ?_ ?_
      | ((with_reducible refine awp_skip ?_); try refine zS ?_)
      | with_reducible refine awp_block ?_
      | ((with_reducible refine awp_exit ?_); try refine zS ?_)
      | ((with_reducible refine CallK_id ?_); refine zcT [0] ?_; refine ⟨_, _, by first | exact fate_ok w i s1 hw e1 (by omega) | fail, ?_⟩; try refine zS ?_)
      | ((with_reducible refine awp_goto ?_); try refine zS ?_)
      | ((with_reducible refine q_step (by assumption) ?_); try refine zS ?_)
      all_goals first
        | exact ⟨i + 1, ⟨by omega, by rw [h2, pick_f (by omega) (ready_l (j := j) (by omega) ‹_›)]⟩, by omega, (by exact zwc 3)⟩
        | exact ⟨j + 1, ⟨by omega, fun k hk => by
            by_cases e : k = j
            · subst e; assumption
            · exact h4 k (by omega)⟩, by omega, (by exact zwc 3)⟩
        | (have hp : pickF s1 w = some i := (by rw [h2, pick_t (by omega) (ready_t (by assumption) (fun k hk => h4 k (by omega)))])
           obtain ⟨q1, q2, q3⟩ := settle_some hw e1 hp
           first
           | exact absurd (by assumption) q3
           | exact ⟨fateF s1 w i, ⟨by rw [fateF_len]; exact e1, by rw [← q1, e2]⟩, q2, (by exact zwc 2)⟩
           | trace_state)
        | trace_state
    all_goals first
      | rfl
      | (rw [← e2, settle_none (by rw [h2, show w.kids.length - i = 0 by omega]; rfl)]; done)
      | trace_state
end Go.Eng
open Go Go.Proofs
namespace Go.Eng
set_option linter.unusedSimpArgs false
set_option linter.unusedVariables false
set_option maxRecDepth 10000
set_option maxHeartbeats 16000000
def s00 : List Int := List.replicate 104 0
theorem s00_len : s00.length = 104 := by simp [s00]
theorem s00_eq : List.replicate 104 0 = s00 := rfl
attribute [go_sem] s00_eq
theorem spl_z {t : List Int} (h : t.length = 104) : splC 0 (stC t) (stC s00) = some (stC t) := spl_all (by rw [h, s00_len])
attribute [go_sem] spl_z
def rgtW (w : B) : Bool := decide (w.kind = 13) && decide (checkF numF w = 0)
theorem wb_of {w : B} (hs : w.size ≤ 100000) (h : rgtW w = true) : Wb w := by
  unfold rgtW at h
  simp only [Bool.and_eq_true, decide_eq_true_eq] at h
  obtain ⟨h1, h2⟩ := h
  have hr : rightF numF w = true := by
    unfold checkF at h2
    split at h2
    · cases h2
    · split at h2
      · cases h2
      · rename_i q
        cases hh : rightF numF w with
        | true => rfl
        | false => exact absurd (.inr (.inr hh)) q
  rw [rightF_eq] at hr
  simp only [Bool.and_eq_true] at hr
  have hn := hr.1.2
  unfold numF at hn
  simp [h1] at hn
  have hl := hn.2
  unfold linkedF at hl
  split at hl
  · cases hl
  · split at hl
    · cases hl
    · exact ⟨by omega, by omega, by omega⟩
theorem right19_ok (w : B) (hs : w.size ≤ 100000) : AFn env 13 [w.a] [] (aB (rgtW w)) [] := by
  refine afn_body Tryd.func13 rfl (by decide) ?_
  simp only [Tryd.ntmps13, Tryd.results13, List.length_cons, List.length_nil, List.cons_append, List.nil_append, Nat.reduceAdd, Nat.reduceSub, List.replicate]
  repeat' first
  | ((with_reducible refine awp_seqQ ?_); intro _ _)
  | ((with_reducible refine awp_region ?_); refine zS ?_)
  | ((with_reducible refine Gd_d ?_ ?_) <;> intro hb hb2 <;> first | contradiction | (exfalso; omega) | (refine zH hb2 ?_; try clear hb2))
  | ((with_reducible refine CallK_id ?_); refine zcF ?_; refine ⟨_, by first | exact check_okA w hs | fail, ?_⟩; refine ⟨fun _ => by (first | rfl | simp only [go_sem]; done), fun _ => by (first | rfl | simp only [go_sem]; done), by (first | rfl | (simp [okAs, okA, okCs, okC, okC_st, go_sem]; done)), ?_⟩; try refine zS ?_)
  | ((with_reducible refine awp_ret ?_); refine q_step (by assumption) ?_)
  | with_reducible refine fin_r ?_
  | ((with_reducible refine q_step (by assumption) ?_); try refine zS ?_)
  all_goals (simp [go_sem, rgtW, *])
def startS (w : B) : List Int := settleF (giveF (outsK w (-1)) 1 s00) w
def chkS (w : B) (s : List Int) : Int := if rgtW w = false then 4 else if ((List.range' 0 40).any fun k => decide (gt s k < 0 ∨ gt s k > 2) || (decide ((k : Int) ≥ w.links.length) && decide (gt s k ≠ 0))) = true then 1
  else if ((List.range' 0 64).any fun i => decide (gt s (40 + i) < 0 ∨ gt s (40 + i) > 3) || (decide ((i : Int) ≥ w.kids.length) && decide (gt s (40 + i) ≠ 0))) = true then 1 else 0
theorem start19_ok (w : B) (hs : w.size ≤ 100000) : AFn env 7 [w.a] [] (.tup [.agg (stC (if rgtW w = true then startS w else s00)), aI (if rgtW w = true then 0 else 4)]) [] := by
  have hW := wb_of hs
  have h0 := s00_len
  have h1 : (giveF (outsK w (-1)) 1 s00).length = 104 := by rw [giveF_len]; exact h0
  have h2 : (settleF (giveF (outsK w (-1)) 1 s00) w).length = 104 := by rw [settleF_len]; exact h1
  refine afn_body Tryd.func7 rfl (by decide) ?_
  simp only [Tryd.ntmps7, Tryd.results7, List.length_cons, List.length_nil, List.cons_append, List.nil_append, Nat.reduceAdd, Nat.reduceSub, List.replicate]
  repeat' first
  | ((with_reducible refine awp_seqQ ?_); intro _ _)
  | ((with_reducible refine awp_region ?_); refine zS ?_)
  | ((with_reducible refine AWP_c ?_); refine zcdM ?_ ?_ <;> intro hb <;> first | contradiction | (try refine zH hb ?_))
  | ((with_reducible refine awp_skip ?_); try refine zS ?_)
  | ((with_reducible refine CallK_id ?_); refine zcF ?_; refine ⟨_, by first | exact right19_ok w hs | fail, ?_⟩; refine ⟨fun _ => by (first | rfl | simp only [go_sem]; done), fun _ => by (first | rfl | simp only [go_sem]; done), by (first | rfl | (simp [okAs, okA, okCs, okC, okC_st, go_sem]; done)), ?_⟩; try refine zS ?_)
  | ((with_reducible refine CallK_id ?_); refine zcT [2] ?_; refine ⟨_, _, by first | exact give_ok w (-1) 1 s00 (hW ‹_›) s00_len | exact settle_ok w _ (hW ‹_›) (by rw [giveF_len]; exact s00_len) | fail, ?_⟩; try refine zS ?_)
  | ((with_reducible refine awp_ret ?_); refine q_step (by assumption) ?_)
  | with_reducible refine fin_r ?_
  | ((with_reducible refine q_step (by assumption) ?_); try refine zS ?_)
  all_goals first | (simp [go_sem, startS, *]; done) | trace_state
theorem chk_4 {w : B} {s : List Int} (h : rgtW w = false) : chkS w s = 4 := by rw [chkS, if_pos h]
def badL (w : B) (s : List Int) (k : Nat) : Bool := decide (gt s k < 0 ∨ gt s k > 2) || (decide ((k : Int) ≥ w.links.length) && decide (gt s k ≠ 0))
def badK2 (w : B) (s : List Int) (i : Nat) : Bool := decide (gt s (40 + i) < 0 ∨ gt s (40 + i) > 3) || (decide ((i : Int) ≥ w.kids.length) && decide (gt s (40 + i) ≠ 0))
theorem chk_eq {w : B} {s : List Int} (h : rgtW w = true) : chkS w s = if ((List.range' 0 40).any (badL w s)) = true then 1 else if ((List.range' 0 64).any (badK2 w s)) = true then 1 else 0 := by
  rw [chkS, if_neg (by simp [h])]; rfl
theorem anyR_t {p : Nat → Bool} {n j : Nat} (h : j < n) (hp : p j = true) : (List.range' j (n - j)).any p = true := by
  rw [show n - j = (n - (j + 1)) + 1 by omega, List.range'_succ, List.any_cons, hp, Bool.true_or]
theorem anyR_f {p : Nat → Bool} {n j : Nat} (h : j < n) (hp : p j = false) : (List.range' j (n - j)).any p = (List.range' (j + 1) (n - (j + 1))).any p := by
  rw [show n - j = (n - (j + 1)) + 1 by omega, List.range'_succ, List.any_cons, hp, Bool.false_or]
theorem badL_iff {w : B} {s : List Int} {k : Nat} : badL w s k = true ↔ gt s k < 0 ∨ gt s k > 2 ∨ ((k : Int) ≥ w.links.length ∧ gt s k ≠ 0) := by
  simp [badL]; omega
theorem badK2_iff {w : B} {s : List Int} {k : Nat} : badK2 w s k = true ↔ gt s (40 + k) < 0 ∨ gt s (40 + k) > 3 ∨ ((k : Int) ≥ w.kids.length ∧ gt s (40 + k) ≠ 0) := by
  simp [badK2]; omega
theorem check19_ok (w : B) (s : List Int) (hs : w.size ≤ 100000) (hl : s.length = 104) : AFn env 16 [w.a, .agg (stC s)] [] (aI (chkS w s)) [] := by
  have hW := wb_of hs
  refine afn_body Tryd.func16 rfl (by decide) ?_
  simp only [Tryd.ntmps16, Tryd.results16, List.length_cons, List.length_nil, List.cons_append, List.nil_append, Nat.reduceAdd, Nat.reduceSub, List.replicate]
  repeat' first
  | ((with_reducible refine awp_seqQ ?_); intro _ _)
  | ((with_reducible refine awp_region ?_); refine zS ?_)
  | ((with_reducible refine AWP_c ?_); refine zcdM ?_ ?_ <;> intro hb <;> first | contradiction | (try refine zH hb ?_))
  | ((with_reducible refine awp_skip ?_); try refine zS ?_)
  | with_reducible refine awp_block ?_
  | ((with_reducible refine CallK_id ?_); refine zcF ?_; refine ⟨_, by first | exact right19_ok w hs | fail, ?_⟩; refine ⟨fun _ => by (first | rfl | simp only [go_sem]; done), fun _ => by (first | rfl | simp only [go_sem]; done), by (first | rfl | (simp [okAs, okA, okCs, okC, okC_st, go_sem]; done)), ?_⟩; try refine zS ?_)
  | ((with_reducible refine awp_ret ?_); refine q_step (by assumption) ?_)
  | with_reducible refine fin_r ?_
  | ((with_reducible refine q_step (by assumption) ?_); try refine zS ?_)
  all_goals try (rw [chk_4 (by assumption)]; done)
  have h0 := chk_eq (s := s) ‹rgtW w = true›
  have hw := hW ‹_›
  have hwl := hw.hl
  have hwk := hw.hk
  refine awp_loopT (fun i : Nat => i ≤ 40 ∧ (List.range' 0 40).any (badL w s) = (List.range' i (40 - i)).any (badL w s)) (fun i => 40 - i) (fun i => [(14, aI i)]) (fun _ => [some (.box w.bs), Sb s]) 0 ⟨by omega, rfl⟩ (by exact zwl) ?_
  rintro k ⟨h1, h2⟩
  refine zT ?_
  repeat' first
  | ((with_reducible refine awp_seqQ ?_); intro _ _)
  | ((with_reducible refine awp_region ?_); refine zS ?_)
  | ((with_reducible refine Gd_nd ?_ ?_) <;> intro hb hb2 <;> first | contradiction | (exfalso; omega) | (refine zH hb2 ?_; try clear hb2))
  | ((with_reducible refine Gd_d ?_ ?_) <;> intro hb hb2 <;> first | contradiction | (exfalso; omega) | (refine zH hb2 ?_; try clear hb2))
  | ((with_reducible refine AWP_c ?_); refine zcdT ?_)
  | ((with_reducible refine AWP_c ?_); refine zcdF ?_)
  | ((with_reducible refine AWP_c ?_); refine zcdN ?_ ?_ <;> intro hb hb2 <;> first | contradiction | (exfalso; omega) | ((try refine zH hb2 ?_); try clear hb2))
  | ((with_reducible refine AWP_c ?_); refine zcdD ?_ ?_ <;> intro hb hb2 <;> first | contradiction | (exfalso; omega) | ((try refine zH hb2 ?_); try clear hb2))
  | ((with_reducible refine awp_skip ?_); try refine zS ?_)
  | with_reducible refine awp_block ?_
  | ((with_reducible refine awp_exit ?_); try refine zS ?_)
  | ((with_reducible refine awp_ret ?_); refine q_step (by assumption) ?_)
  | with_reducible refine fin_r ?_
  | ((with_reducible refine q_step (by assumption) ?_); try refine zS ?_)
  all_goals first
    | (rw [h0, h2, anyR_t (by omega) (badL_iff.2 (by omega)), if_pos rfl]; done)
    | exact ⟨k + 1, ⟨by omega, by rw [h2, anyR_f (by omega) (Bool.eq_false_iff.2 (fun h => by have := badL_iff.1 h; omega))]⟩, by omega, (by exact zwc 2)⟩
    | skip
  rw [show 40 - k = 0 by omega, List.range'_zero, List.any_nil] at h2
  rw [h2, if_neg (by simp)] at h0
  refine awp_loopT (fun i : Nat => i ≤ 64 ∧ (List.range' 0 64).any (badK2 w s) = (List.range' i (64 - i)).any (badK2 w s)) (fun i => 64 - i) (fun i => [(38, aI i)]) (fun _ => [some (.box w.bs), Sb s]) 0 ⟨by omega, rfl⟩ (by exact zwl) ?_
  rintro i ⟨h3, h4⟩
  refine zT ?_
  repeat' first
  | ((with_reducible refine awp_seqQ ?_); intro _ _)
  | ((with_reducible refine awp_region ?_); refine zS ?_)
  | ((with_reducible refine Gd_nd ?_ ?_) <;> intro hb hb2 <;> first | contradiction | (exfalso; omega) | (refine zH hb2 ?_; try clear hb2))
  | ((with_reducible refine Gd_d ?_ ?_) <;> intro hb hb2 <;> first | contradiction | (exfalso; omega) | (refine zH hb2 ?_; try clear hb2))
  | ((with_reducible refine AWP_c ?_); refine zcdT ?_)
  | ((with_reducible refine AWP_c ?_); refine zcdF ?_)
  | ((with_reducible refine AWP_c ?_); refine zcdN ?_ ?_ <;> intro hb hb2 <;> first | contradiction | (exfalso; omega) | ((try refine zH hb2 ?_); try clear hb2))
  | ((with_reducible refine AWP_c ?_); refine zcdD ?_ ?_ <;> intro hb hb2 <;> first | contradiction | (exfalso; omega) | ((try refine zH hb2 ?_); try clear hb2))
  | ((with_reducible refine awp_skip ?_); try refine zS ?_)
  | with_reducible refine awp_block ?_
  | ((with_reducible refine awp_exit ?_); try refine zS ?_)
  | ((with_reducible refine awp_ret ?_); refine q_step (by assumption) ?_)
  | with_reducible refine fin_r ?_
  | ((with_reducible refine q_step (by assumption) ?_); try refine zS ?_)
  all_goals first
    | (rw [h0, h4, anyR_t (by omega) (badK2_iff.2 (by omega)), if_pos rfl]; done)
    | exact ⟨i + 1, ⟨by omega, by rw [h4, anyR_f (by omega) (Bool.eq_false_iff.2 (fun h => by have := badK2_iff.1 h; omega))]⟩, by omega, (by exact zwc 2)⟩
    | (rw [h0, h4, show 64 - i = 0 by omega]; rfl)
    | trace_state
end Go.Eng
open Go Go.Proofs
namespace Go.Eng
set_option linter.unusedSimpArgs false
set_option linter.unusedVariables false
set_option maxRecDepth 10000
set_option maxHeartbeats 16000000
def runsF (w : B) (s : List Int) (kid : Int) : Bool := decide (0 ≤ kid) && decide (kid < w.kids.length) && decide (gt s (40 + kid.toNat) = 1)
theorem chk_rgt {w : B} {s : List Int} (h : chkS w s = 0) : rgtW w = true := by
  cases hr : rgtW w with
  | true => rfl
  | false => rw [chk_4 hr] at h; cases h
theorem runs_ok (w : B) (s : List Int) (kid : Int) (hw : Wb w) (hl : s.length = 104) : AFn env 17 [P0, w.a, aI kid] [Sb s] (aB (runsF w s kid)) [Sb s] := by
  have hk := hw.hk
  refine afn_body Tryd.func17 rfl (by decide) ?_
  simp only [Tryd.ntmps17, Tryd.results17, List.length_cons, List.length_nil, List.cons_append, List.nil_append, Nat.reduceAdd, Nat.reduceSub, List.replicate]
  repeat' first
  | ((with_reducible refine awp_seqQ ?_); intro _ _)
  | ((with_reducible refine awp_region ?_); refine zS ?_)
  | ((with_reducible refine Gd_d ?_ ?_) <;> intro hb hb2 <;> first | contradiction | (exfalso; omega) | (refine zH hb2 ?_; try clear hb2))
  | ((with_reducible refine awp_ret ?_); refine q_step (by assumption) ?_)
  | with_reducible refine fin_r ?_
  | ((with_reducible refine q_step (by assumption) ?_); try refine zS ?_)
  all_goals first | rfl | (simp [go_sem, runsF, *]; done) | (simp [go_sem, runsF]; omega) | trace_state
def finS (w : B) (s : List Int) (kid : Int) : List Int × Int := if chkS w s ≠ 0 then (s00, chkS w s) else if runsF w s kid = false ∨ (gt w.kids kid.toNat).kind = 12 then (s00, 6)
  else (settleF (giveF (outsK w kid) 1 (s.set (40 + kid.toNat) 2)) w, 0)
def choS (w : B) (s : List Int) (kid out : Int) : List Int × Int := if chkS w s ≠ 0 then (s00, chkS w s) else if runsF w s kid = false ∨ (gt w.kids kid.toNat).kind ≠ 12 then (s00, 6)
  else if out < 0 ∨ out ≥ (outsK w kid).length then (s00, 1) else (settleF ((giveF (outsK w kid) 2 (s.set (40 + kid.toNat) 2)).set (gt (outsK w kid) out.toNat).toNat 1) w, 0)
def sA (s : List Int) : A := .agg (stC s)
attribute [go_sem] sA
theorem runs_in {w : B} {s : List Int} {kid : Int} (h : runsF w s kid = true) : 0 ≤ kid ∧ kid < w.kids.length := by
  unfold runsF at h
  simp only [Bool.and_eq_true, decide_eq_true_eq] at h
  exact h.1
theorem finish_ok (w : B) (s : List Int) (kid : Int) (hs : w.size ≤ 100000) (hl : s.length = 104) : AFn env 9 [w.a, sA s, aI kid] [] (.tup [sA (finS w s kid).1, aI (finS w s kid).2]) [] := by
  have hW : chkS w s = 0 → Wb w := fun h => wb_of hs (chk_rgt h)
  have hkid : runsF w s kid = true → 0 ≤ kid ∧ kid < w.kids.length := runs_in
  have hk64 : chkS w s = 0 → w.kids.length ≤ 64 := fun h => (hW h).hk
  have hset : (s.set (40 + kid.toNat) 2).length = 104 := by simpa using hl
  have hgi : (giveF (outsK w kid) 1 (s.set (40 + kid.toNat) 2)).length = 104 := by rw [giveF_len]; exact hset
  have hse : (settleF (giveF (outsK w kid) 1 (s.set (40 + kid.toNat) 2)) w).length = 104 := by rw [settleF_len]; exact hgi
  have h00 := s00_len
  refine afn_body Tryd.func9 rfl (by decide) ?_
  simp only [Tryd.ntmps9, Tryd.results9, List.length_cons, List.length_nil, List.cons_append, List.nil_append, Nat.reduceAdd, Nat.reduceSub, List.replicate]
  repeat' first
  | ((with_reducible refine awp_seqQ ?_); intro _ _)
  | ((with_reducible refine awp_region ?_); refine zS ?_)
  | ((with_reducible refine Gd_b ?_ ?_) <;> intro hb <;> first | contradiction | refine zH hb ?_)
  | ((with_reducible refine AWP_c ?_); refine zcdT ?_)
  | ((with_reducible refine AWP_c ?_); refine zcdN ?_ ?_ <;> intro hb hb2 <;> first | contradiction | (exfalso; omega) | ((try refine zH hb2 ?_); try clear hb2))
  | ((with_reducible refine awp_skip ?_); try refine zS ?_)
  | ((with_reducible refine CallK_id ?_); refine zcF ?_; refine ⟨_, by first | exact check19_ok w s hs hl | fail, ?_⟩; refine ⟨fun _ => by (first | rfl | simp only [go_sem]; done), fun _ => by (first | rfl | simp only [go_sem]; done), by (first | rfl | (simp [okAs, okA, okCs, okC, okC_st, go_sem]; done)), ?_⟩; try refine zS ?_)
  | ((with_reducible refine CallK_id ?_); refine zcT [1] ?_; refine ⟨_, _, by first | exact runs_ok w s kid (hW ‹_›) hl | fail, ?_⟩; try refine zS ?_)
  | ((with_reducible refine awp_ret ?_); refine q_step (by assumption) ?_)
  | with_reducible refine fin_r ?_
  | ((with_reducible refine q_step (by assumption) ?_); try refine zS ?_)
  all_goals first
    | (rw [finS, if_pos (by assumption)]; done)
    | (rw [finS, if_neg (by omega), if_pos (by first | exact .inl (by assumption) | exact .inr (by assumption))]; done)
    | skip
  have hkid := hkid ‹_›
  have hk64 := hk64 ‹_›
  refine zS ?_
  repeat' first
  | ((with_reducible refine awp_seqQ ?_); intro _ _)
  | ((with_reducible refine awp_region ?_); refine zS ?_)
  | ((with_reducible refine AWP_c ?_); refine zcdD ?_ ?_ <;> intro hb hb2 <;> first | contradiction | (exfalso; omega) | ((try refine zH hb2 ?_); try clear hb2))
  | ((with_reducible refine awp_skip ?_); try refine zS ?_)
  | ((with_reducible refine CallK_id ?_); refine zcT [1] ?_; refine ⟨_, _, by first | exact give_ok w kid 1 _ (hW ‹_›) (by simpa using hl) | exact settle_ok w _ (hW ‹_›) (by rw [giveF_len]; simpa using hl) | fail, ?_⟩; try refine zS ?_)
  | ((with_reducible refine awp_ret ?_); refine q_step (by assumption) ?_)
  | with_reducible refine fin_r ?_
  | ((with_reducible refine q_step (by assumption) ?_); try refine zS ?_)
  all_goals first
    | (rw [finS, if_neg (by omega), if_pos (by first | exact .inl (by assumption) | exact .inr (by assumption))]; done)
    | (rw [finS, if_neg (by omega), if_neg (by simp [*])]; done)
    | trace_state
def runL (s : List Int) : List Nat → List Int
  | [] => []
  | i :: r => if gt s (40 + i) = 1 then (i : Int) :: runL s r else runL s r
def runS (w : B) (s : List Int) : List Int := if chkS w s ≠ 0 then [] else runL s (List.range' 0 w.kids.length)
def ovrS (w : B) (s : List Int) : Bool := if chkS w s ≠ 0 then false else (insK w (-1)).any fun k => decide (gt s k.toNat = 1)
theorem runL_t {s : List Int} {n j : Nat} (h : j < n) (hp : gt s (40 + j) = 1) : runL s (List.range' j (n - j)) = (j : Int) :: runL s (List.range' (j + 1) (n - (j + 1))) := by
  rw [show n - j = (n - (j + 1)) + 1 by omega, List.range'_succ, runL, if_pos hp]
theorem runL_f {s : List Int} {n j : Nat} (h : j < n) (hp : ¬ gt s (40 + j) = 1) : runL s (List.range' j (n - j)) = runL s (List.range' (j + 1) (n - (j + 1))) := by
  rw [show n - j = (n - (j + 1)) + 1 by omega, List.range'_succ, runL, if_neg hp]
theorem choose_ok (w : B) (s : List Int) (kid out : Int) (hs : w.size ≤ 100000) (hl : s.length = 104) : AFn env 10 [w.a, sA s, aI kid, aI out] [] (.tup [sA (choS w s kid out).1, aI (choS w s kid out).2]) [] := by
  have hW : chkS w s = 0 → Wb w := fun h => wb_of hs (chk_rgt h)
  have hkid : runsF w s kid = true → 0 ≤ kid ∧ kid < w.kids.length := runs_in
  have hk64 : chkS w s = 0 → w.kids.length ≤ 64 := fun h => (hW h).hk
  have hom : chkS w s = 0 → ∀ j, j < (outsK w kid).length → 0 ≤ gt (outsK w kid) j ∧ gt (outsK w kid) j < 40 := fun h j hj => outs_40 (hW h) kid _ (gt_mem hj)
  have hol : (outsK w kid).length ≤ w.links.length := idx2_len _ w.links 0
  have hz := B.size_eq w
  have hset : (s.set (40 + kid.toNat) 2).length = 104 := by simpa using hl
  have hgi : (giveF (outsK w kid) 2 (s.set (40 + kid.toNat) 2)).length = 104 := by rw [giveF_len]; exact hset
  have hgj : ((giveF (outsK w kid) 2 (s.set (40 + kid.toNat) 2)).set (gt (outsK w kid) out.toNat).toNat 1).length = 104 := by simpa using hgi
  have hse : (settleF ((giveF (outsK w kid) 2 (s.set (40 + kid.toNat) 2)).set (gt (outsK w kid) out.toNat).toNat 1) w).length = 104 := by rw [settleF_len]; exact hgj
  have h00 := s00_len
  refine afn_body Tryd.func10 rfl (by decide) ?_
  simp only [Tryd.ntmps10, Tryd.results10, List.length_cons, List.length_nil, List.cons_append, List.nil_append, Nat.reduceAdd, Nat.reduceSub, List.replicate]
  repeat' first
  | ((with_reducible refine awp_seqQ ?_); intro _ _)
  | ((with_reducible refine awp_region ?_); refine zS ?_)
  | ((with_reducible refine Gd_b ?_ ?_) <;> intro hb <;> first | contradiction | refine zH hb ?_)
  | ((with_reducible refine AWP_c ?_); refine zcdT ?_)
  | ((with_reducible refine AWP_c ?_); refine zcdN ?_ ?_ <;> intro hb hb2 <;> first | contradiction | (exfalso; omega) | ((try refine zH hb2 ?_); try clear hb2))
  | ((with_reducible refine awp_skip ?_); try refine zS ?_)
  | ((with_reducible refine CallK_id ?_); refine zcF ?_; refine ⟨_, by first | exact check19_ok w s hs hl | fail, ?_⟩; refine ⟨fun _ => by (first | rfl | simp only [go_sem]; done), fun _ => by (first | rfl | simp only [go_sem]; done), by (first | rfl | (simp [okAs, okA, okCs, okC, okC_st, go_sem]; done)), ?_⟩; try refine zS ?_)
  | ((with_reducible refine CallK_id ?_); refine zcT [1] ?_; refine ⟨_, _, by first | exact runs_ok w s kid (hW ‹_›) hl | fail, ?_⟩; try refine zS ?_)
  | ((with_reducible refine awp_ret ?_); refine q_step (by assumption) ?_)
  | with_reducible refine fin_r ?_
  | ((with_reducible refine q_step (by assumption) ?_); try refine zS ?_)
  all_goals first
    | (rw [choS, if_pos (by assumption)]; done)
    | (rw [choS, if_neg (by omega), if_pos (by first | exact .inl (by assumption) | exact .inr (by assumption))]; done)
    | skip
  have hkid := hkid ‹_›
  have hk64 := hk64 ‹_›
  have hom : (0 ≤ out ∧ out < (outsK w kid).length) → 0 ≤ gt (outsK w kid) out.toNat ∧ gt (outsK w kid) out.toNat < 40 := fun h => hom ‹_› _ (by omega)
  refine zS ?_
  repeat' first
  | ((with_reducible refine awp_seqQ ?_); intro _ _)
  | ((with_reducible refine awp_region ?_); refine zS ?_)
  | ((with_reducible refine Gd_nd ?_ ?_) <;> intro hb hb2 <;> first | contradiction | (exfalso; omega) | (refine zH hb2 ?_; try clear hb2))
  | ((with_reducible refine AWP_c ?_); refine zcdT ?_)
  | ((with_reducible refine AWP_c ?_); refine zcdN ?_ ?_ <;> intro hb hb2 <;> first | contradiction | (exfalso; omega) | ((try refine zH hb2 ?_); try clear hb2))
  | ((with_reducible refine AWP_c ?_); refine zcdD ?_ ?_ <;> intro hb hb2 <;> first | contradiction | (exfalso; omega) | ((try refine zH hb2 ?_); try clear hb2))
  | ((with_reducible refine awp_skip ?_); try refine zS ?_)
  | ((with_reducible refine CallK_id ?_); refine zcF ?_; refine ⟨_, by first | exact outs19_ok w kid (by omega) | fail, ?_⟩; refine ⟨fun _ => by (first | rfl | simp only [go_sem]; done), fun _ => by (first | rfl | simp only [go_sem]; done), by (first | rfl | (simp [okAs, okA, okCs, okC, okC_st, go_sem]; done)), ?_⟩; try refine zS ?_)
  | ((with_reducible refine CallK_id ?_); refine zcT [1] ?_; refine ⟨_, _, by first | exact give_ok w kid 2 _ (hW ‹_›) (by simpa using hl) | exact settle_ok w _ (hW ‹_›) (by simpa [giveF_len] using hl) | fail, ?_⟩; try refine zS ?_)
  | ((with_reducible refine awp_ret ?_); refine q_step (by assumption) ?_)
  | with_reducible refine fin_r ?_
  | ((with_reducible refine q_step (by assumption) ?_); try refine zS ?_)
  all_goals first
    | (rw [choS, if_neg (by omega), if_pos (by first | exact .inl (by assumption) | exact .inr (by assumption))]; done)
    | (rw [choS, if_neg (by omega), if_neg (by simp [*]), if_pos (by omega)]; done)
    | (rw [choS, if_neg (by omega), if_neg (by simp [*]), if_neg (by omega)]; done)
    | trace_state
theorem running_ok (w : B) (s : List Int) (hs : w.size ≤ 100000) (hl : s.length = 104) : AFn env 8 [w.a, sA s] [] (aF ((runS w s).map iRow)) [] := by
  have hW : chkS w s = 0 → Wb w := fun h => wb_of hs (chk_rgt h)
  have hk64 : chkS w s = 0 → w.kids.length ≤ 64 := fun h => (hW h).hk
  refine afn_body Tryd.func8 rfl (by decide) ?_
  simp only [Tryd.ntmps8, Tryd.results8, List.length_cons, List.length_nil, List.cons_append, List.nil_append, Nat.reduceAdd, Nat.reduceSub, List.replicate]
  repeat' first
  | ((with_reducible refine awp_seqQ ?_); intro _ _)
  | ((with_reducible refine awp_region ?_); refine zS ?_)
  | ((with_reducible refine AWP_c ?_); refine zcdN ?_ ?_ <;> intro hb hb2 <;> first | contradiction | (exfalso; omega) | ((try refine zH hb2 ?_); try clear hb2))
  | ((with_reducible refine awp_skip ?_); try refine zS ?_)
  | with_reducible refine awp_block ?_
  | ((with_reducible refine CallK_id ?_); refine zcF ?_; refine ⟨_, by first | exact check19_ok w s hs hl | fail, ?_⟩; refine ⟨fun _ => by (first | rfl | simp only [go_sem]; done), fun _ => by (first | rfl | simp only [go_sem]; done), by (first | rfl | (simp [okAs, okA, okCs, okC, okC_st, go_sem]; done)), ?_⟩; try refine zS ?_)
  | ((with_reducible refine awp_ret ?_); refine q_step (by assumption) ?_)
  | with_reducible refine fin_r ?_
  | ((with_reducible refine q_step (by assumption) ?_); try refine zS ?_)
  · rw [runS, if_pos (by assumption)]; rfl
  have hk64 := hk64 ‹_›
  have hr : runS w s = runL s (List.range' 0 w.kids.length) := by rw [runS, if_neg (by omega)]
  refine awp_wk (wk_virt none (i := 5) (s := 1) (by decide) rfl) ?_
  refine zT ?_
  refine awp_loopT (fun z : Nat × List Int => z.1 ≤ w.kids.length ∧ z.2 ++ runL s (List.range' z.1 (w.kids.length - z.1)) = runS w s ∧ z.2.length ≤ z.1) (fun z => w.kids.length - z.1) (fun z => [(5, OwnK 2 z.2.length), (14, aI z.1)]) (fun z => [some (.box w.bs), Sb s, RwG z.2]) (0, []) ⟨by simp, by simp [hr], by simp⟩ (by exact zwl) ?_
  rintro ⟨i, o⟩ ⟨h1, h2, h3⟩
  simp only at h1 h2 h3
  refine zT ?_
  repeat' first
  | ((with_reducible refine awp_seqQ ?_); intro _ _)
  | ((with_reducible refine awp_region ?_); refine zS ?_)
  | ((with_reducible refine AWP_c ?_); refine zcdD ?_ ?_ <;> intro hb hb2 <;> first | contradiction | (exfalso; omega) | ((try refine zH hb2 ?_); try clear hb2))
  | ((with_reducible refine awp_skip ?_); try refine zS ?_)
  | with_reducible refine awp_block ?_
  | ((with_reducible refine awp_exit ?_); try refine zS ?_)
  | ((with_reducible refine awp_ret ?_); refine q_step (by assumption) ?_)
  | ((with_reducible refine q_step (by assumption) ?_); try refine zS ?_)
  · exact ⟨(i + 1, o ++ [(i : Int)]), ⟨by simp only; omega, by rw [← h2, runL_t (j := i) (by omega) (by assumption)]; simp, by simp; omega⟩, by simp only; omega, wk_cl 3 (by decide) (by simp) (by simp only [go_sem, Bool.not_not, List.mem_singleton, forall_eq, ↓reduceIte, if_pos, rowsAt_map, wrap64, wrapu8, List.getElem?_cons_zero, List.getElem?_cons_succ, Int.reduceToNat, Nat.reduceAdd, Nat.reduceBEq, Bool.or_false, Bool.false_or, Bool.true_or, Nat.reduceSub, Nat.reduceMul, Int.reduceAdd, Int.reduceEq, Int.reduceLT, Int.reduceLE, Int.reduceNeg, Nat.reduceLT, Nat.reduceLeDiff, Nat.reduceEqDiff]; try simp) (by simp only [go_sem, Bool.not_not, List.mem_singleton, forall_eq, ↓reduceIte, if_pos, rowsAt_map, wrap64, wrapu8, List.getElem?_cons_zero, List.getElem?_cons_succ, Int.reduceToNat, Nat.reduceAdd, Nat.reduceBEq, Bool.or_false, Bool.false_or, Bool.true_or, Nat.reduceSub, Nat.reduceMul, Int.reduceAdd, Int.reduceEq, Int.reduceLT, Int.reduceLE, Int.reduceNeg, Nat.reduceLT, Nat.reduceLeDiff, Nat.reduceEqDiff, List.map_append]; try simp [go_sem])⟩
  · exact ⟨(i + 1, o), ⟨by simp only; omega, by rw [← h2, runL_f (j := i) (by omega) (by assumption)], by simp only; omega⟩, by simp only; omega, (by exact zwc 3)⟩
  rw [show w.kids.length - i = 0 by omega, List.range'_zero, runL, List.append_nil] at h2
  refine fin_r ?_
  rw [h2]
theorem over_ok (w : B) (s : List Int) (hs : w.size ≤ 100000) (hl : s.length = 104) : AFn env 12 [w.a, sA s] [] (aB (ovrS w s)) [] := by
  have hW : chkS w s = 0 → Wb w := fun h => wb_of hs (chk_rgt h)
  have him : chkS w s = 0 → ∀ q ∈ insK w (-1), 0 ≤ q ∧ q < 40 := fun h => ins_40 (hW h) (-1)
  have hil : (insK w (-1)).length ≤ w.links.length := idx2_len _ w.links 0
  have hz := B.size_eq w
  refine afn_body Tryd.func12 rfl (by decide) ?_
  simp only [Tryd.ntmps12, Tryd.results12, List.length_cons, List.length_nil, List.cons_append, List.nil_append, Nat.reduceAdd, Nat.reduceSub, List.replicate]
  repeat' first
  | ((with_reducible refine awp_seqQ ?_); intro _ _)
  | ((with_reducible refine awp_region ?_); refine zS ?_)
  | ((with_reducible refine AWP_c ?_); refine zcdN ?_ ?_ <;> intro hb hb2 <;> first | contradiction | (exfalso; omega) | ((try refine zH hb2 ?_); try clear hb2))
  | ((with_reducible refine awp_skip ?_); try refine zS ?_)
  | with_reducible refine awp_block ?_
  | ((with_reducible refine CallK_id ?_); refine zcF ?_; refine ⟨_, by first | exact check19_ok w s hs hl | exact ins19_ok w (-1) (by omega) | fail, ?_⟩; refine ⟨fun _ => by (first | rfl | simp only [go_sem]; done), fun _ => by (first | rfl | simp only [go_sem]; done), by (first | rfl | (simp [okAs, okA, okCs, okC, okC_st, go_sem]; done)), ?_⟩; try refine zS ?_)
  | ((with_reducible refine awp_ret ?_); refine q_step (by assumption) ?_)
  | with_reducible refine fin_r ?_
  | ((with_reducible refine q_step (by assumption) ?_); try refine zS ?_)
  · rw [ovrS, if_pos (by assumption)]
  have him := him ‹_›
  have hr : ovrS w s = (insK w (-1)).any fun k => decide (gt s k.toNat = 1) := by rw [ovrS, if_neg (by omega)]
  refine awp_loopT (fun j : Nat => j ≤ (insK w (-1)).length ∧ ovrS w s = ((insK w (-1)).drop j).any fun k => decide (gt s k.toNat = 1)) (fun j => (insK w (-1)).length - j) (fun j => [(14, aI j)]) (fun _ => [some (.box w.bs), Sb s]) 0 ⟨by omega, by simp [hr]⟩ (by exact zwl) ?_
  rintro j ⟨h1, h2⟩
  have hR : j < (insK w (-1)).length → 0 ≤ gt (insK w (-1)) j ∧ gt (insK w (-1)) j < 40 := fun h => him _ (gt_mem h)
  refine zT ?_
  repeat' first
  | ((with_reducible refine awp_seqQ ?_); intro _ _)
  | ((with_reducible refine awp_region ?_); refine zS ?_)
  | ((with_reducible refine AWP_c ?_); refine zcdD ?_ ?_ <;> intro hb hb2 <;> first | contradiction | (exfalso; omega) | ((try refine zH hb2 ?_); try clear hb2))
  | ((with_reducible refine awp_skip ?_); try refine zS ?_)
  | with_reducible refine awp_block ?_
  | ((with_reducible refine awp_exit ?_); try refine zS ?_)
  | ((with_reducible refine awp_ret ?_); refine q_step (by assumption) ?_)
  | with_reducible refine fin_r ?_
  | ((with_reducible refine q_step (by assumption) ?_); try refine zS ?_)
  all_goals first
    | (rw [h2, drop_gt (by omega), List.any_cons, decide_eq_true (by assumption)]; rfl)
    | exact ⟨j + 1, ⟨by omega, by rw [h2, drop_gt (by omega), List.any_cons, decide_eq_false (by assumption)]; rfl⟩, by omega, (by exact zwc 2)⟩
    | (rw [h2, List.drop_eq_nil_of_le (by omega)]; rfl)
    | trace_state
end Go.Eng
open Go Go.Proofs
namespace Go.Eng
set_option linter.unusedSimpArgs false
set_option linter.unusedVariables false
set_option maxRecDepth 100000
set_option maxHeartbeats 16000000
def tYes : T := .mk 10 0 [.mk 2 0 [], .mk 2 0 []]
def bW : B := .mk 13 0 0 0 t0 [] [.mk 12 0 3 1 t0 [tYes, t0] [] [] [] [], .mk 5 1 0 0 t0 [] [] [] [] [], .mk 12 2 4 0 t0 [] [] [] [] []] [⟨-1, 0⟩, ⟨0, 1⟩, ⟨0, 2⟩, ⟨1, 2⟩, ⟨2, -1⟩] [] []
theorem bW_r : rgtW bW = true := by decide +kernel
theorem bW_s : bW.size ≤ 100000 := by decide +kernel
def sW : List Int := startS bW
def tW : List Int := (choS bW sW 0 1).1
theorem sW_len : sW.length = 104 := by decide +kernel
theorem tW_len : tW.length = 104 := by decide +kernel
theorem bW_c : (choS bW sW 0 1).2 = 0 := by decide +kernel
theorem bW_n : (runS bW sW).length = 1 := by decide +kernel
theorem bW_k : gt tW 41 = 3 := by decide +kernel
theorem bW_o : ovrS bW tW = true := by decide +kernel
theorem bW_p : ovrS bW sW = false := by decide +kernel
theorem cW1 : AFn env 7 [bW.a] [] (.tup [sA sW, aI 0]) [] := by
  have := start19_ok bW bW_s
  rwa [if_pos bW_r, if_pos bW_r] at this
theorem cW2 : AFn env 10 [bW.a, sA sW, aI 0, aI 1] [] (.tup [sA tW, aI 0]) [] := by
  have := choose_ok bW sW 0 1 bW_s sW_len
  rwa [bW_c] at this
theorem cW3 : AFn env 8 [bW.a, sA sW] [] (aF ((runS bW sW).map iRow)) [] := running_ok bW sW bW_s sW_len
theorem cW4 : AFn env 12 [bW.a, sA tW] [] (aB true) [] := by
  have := over_ok bW tW bW_s tW_len
  rwa [bW_o] at this
theorem cW5 : AFn env 12 [bW.a, sA sW] [] (aB false) [] := by
  have := over_ok bW sW bW_s sW_len
  rwa [bW_p] at this
attribute [go_sem] bW_n bW_k
theorem skips_ok : AFn env 6 [] [] (aB true) [] := by
  have h1 := sW_len
  have h2 := tW_len
  have h0 := s00_len
  refine afn_body Tryd.func6 rfl (by decide) ?_
  simp only [Tryd.ntmps6, Tryd.results6, List.length_cons, List.length_nil, List.cons_append, List.nil_append, Nat.reduceAdd, Nat.reduceSub, List.replicate]
  iterate 2 (refine awp_seq ?_; refine awp_region ?_; refine zS ?_)
  refine awp_wk (wk_fzB (i := 1) (j := 2) rfl) ?_
  refine zT ?_
  refine awp_seq ?_
  refine awp_region ?_
  refine zS ?_
  refine awp_wk (wk_fzB (i := 5) (j := 8) rfl) ?_
  refine awp_wk (wk_fzB (i := 5) (j := 9) rfl) ?_
  refine zT ?_
  repeat' first
  | ((with_reducible refine awp_seqQ ?_); intro _ _)
  | ((with_reducible refine awp_region ?_); refine zS ?_)
  | ((with_reducible refine Gd_d ?_ ?_) <;> intro hb hb2 <;> first | contradiction | (exfalso; omega) | (refine zH hb2 ?_; try clear hb2))
  | ((with_reducible refine CallK_id ?_); refine zcF ?_; refine ⟨_, by first | exact cW1 | exact cW2 | exact cW3 | exact cW4 | exact cW5 | fail, ?_⟩; refine ⟨fun _ => by (first | rfl | simp only [go_sem]; done), fun _ => by (first | rfl | simp only [go_sem]; done), by (first | rfl | (simp [okAs, okA, okCs, okC, okC_st, go_sem]; done)), ?_⟩; try refine zS ?_)
  | ((with_reducible refine awp_ret ?_); refine q_step (by assumption) ?_)
  | with_reducible refine fin_r ?_
  | ((with_reducible refine q_step (by assumption) ?_); try refine zS ?_)
  all_goals first | rfl | (exfalso; simp_all; done) | trace_state
end Go.Eng
open Go Go.Proofs
namespace Go.Eng
set_option linter.unusedSimpArgs false
set_option linter.unusedVariables false
set_option maxRecDepth 10000
set_option maxHeartbeats 16000000
theorem num13 {b : B} (h : b.kind = 13) : numF b = (decide ((b.kids.length : Int) > 0) && linkedF b) := by
  unfold numF; simp [h]
theorem right_num {N : B → Bool} {b : B} (h : rightF N b = true) : N b = true := by
  rw [rightF_eq] at h
  simp only [Bool.and_eq_true] at h
  exact h.1.2
theorem s00_get (k : Nat) : gt s00 k = 0 := by
  unfold gt s00
  rw [List.getD_eq_getElem?_getD, List.getElem?_replicate]
  split <;> rfl
theorem runs_iff {w : B} {s : List Int} {kid : Int} : runsF w s kid = true ↔ 0 ≤ kid ∧ kid < w.kids.length ∧ gt s (40 + kid.toNat) = 1 := by
  unfold runsF
  simp [and_assoc]
theorem cho_len (w : B) (s : List Int) (k o : Int) (hl : s.length = 104) : (choS w s k o).1.length = 104 := by
  unfold choS
  repeat' split
  all_goals first
    | exact s00_len
    | (simp only; rw [settleF_len, List.length_set, giveF_len, List.length_set]; exact hl)
theorem fin_len (w : B) (s : List Int) (k : Int) (hl : s.length = 104) : (finS w s k).1.length = 104 := by
  unfold finS
  repeat' split
  all_goals first
    | exact s00_len
    | (simp only; rw [settleF_len, giveF_len, List.length_set]; exact hl)
theorem startS_len (w : B) : (startS w).length = 104 := by rw [startS, settleF_len, giveF_len]; exact s00_len
theorem nl6 {w : B} (h : (largeB w 600 1).1 = false) : w.size ≤ 100000 := not_large h (by decide) (by decide)
theorem vis_st (H : Heap) : ∀ s : List Int, visCs H (stC s) = true
  | [] => rfl
  | a :: s => by
    have := vis_st H s
    show visCs H (cI1 a :: stC s) = true
    rw [visCs, this]; rfl
attribute [go_sem] vis_st
end Go.Eng
/- -/
open Go Go.Proofs
namespace Go.Eng
set_option linter.unusedSimpArgs false
set_option linter.unusedVariables false
set_option maxRecDepth 10000
set_option maxHeartbeats 40000000
structure Good (w : B) (s : List Int) : Prop where
  len : s.length = 104
  lk : ∀ k, k < 40 → 0 ≤ gt s k ∧ gt s k ≤ 2 ∧ (w.links.length ≤ k → gt s k = 0)
  kd : ∀ i, i < 64 → 0 ≤ gt s (40 + i) ∧ gt s (40 + i) ≤ 3 ∧ (w.kids.length ≤ i → gt s (40 + i) = 0)
  gk : ∀ i, i < w.kids.length → (gt w.kids i).kind = 12 → gt s (40 + i) = 1 → (gt w.kids i).x = 3
theorem good_chk {w : B} {s : List Int} (hr : rgtW w = true) (h : Good w s) : chkS w s = 0 := by
  rw [chk_eq hr, if_neg, if_neg]
  · rw [Bool.not_eq_true, List.any_eq_false]
    intro i hi
    obtain ⟨j, hj, rfl⟩ := List.mem_range'.1 hi
    have := h.kd (0 + 1 * j) (by omega)
    intro hb
    have := badK2_iff.1 hb
    omega
  · rw [Bool.not_eq_true, List.any_eq_false]
    intro i hi
    obtain ⟨j, hj, rfl⟩ := List.mem_range'.1 hi
    have := h.lk (0 + 1 * j) (by omega)
    intro hb
    have := badL_iff.1 hb
    omega
theorem good_lk {w : B} {s : List Int} {k : Nat} {v : Int} (hw : Wb w) (h : Good w s) (hk : k < w.links.length) (hv : 0 ≤ v ∧ v ≤ 2) : Good w (s.set k v) := by
  have hl := hw.hl
  have hlen := h.len
  have hg : ∀ j, gt (s.set k v) j = if k = j then v else gt s j := fun j => gtI_set2 _ _ _ _ (by omega)
  refine ⟨by simpa using hlen, fun j hj => ?_, fun i hi => ?_, fun i hi hk2 h1 => ?_⟩
  · rw [hg]; split
    · exact ⟨hv.1, hv.2, fun h => by omega⟩
    · exact h.lk j hj
  · rw [hg, if_neg (by omega)]; exact h.kd i hi
  · rw [hg, if_neg (by omega)] at h1; exact h.gk i hi hk2 h1
theorem good_kd {w : B} {s : List Int} {i : Nat} {v : Int} (hw : Wb w) (h : Good w s) (hi : i < w.kids.length) (hv : 0 ≤ v ∧ v ≤ 3) (hx : v = 1 → (gt w.kids i).kind = 12 → (gt w.kids i).x = 3) : Good w (s.set (40 + i) v) := by
  have hl := hw.hk
  have hlen := h.len
  have hg : ∀ j, gt (s.set (40 + i) v) j = if 40 + i = j then v else gt s j := fun j => gtI_set2 _ _ _ _ (by omega)
  refine ⟨by simpa using hlen, fun j hj => ?_, fun j hj => ?_, fun j hj hk2 h1 => ?_⟩
  · rw [hg, if_neg (by omega)]; exact h.lk j hj
  · rw [hg]; split
    · exact ⟨hv.1, hv.2, fun h => by omega⟩
    · exact h.kd j hj
  · rw [hg] at h1
    split at h1
    · have : j = i := by omega
      subst this
      exact hx h1 hk2
    · exact h.gk j hj hk2 h1
theorem good_give {w : B} {v : Int} (hw : Wb w) (hv : 0 ≤ v ∧ v ≤ 2) : ∀ {os : List Int} {s : List Int}, (∀ q ∈ os, 0 ≤ q ∧ q < w.links.length) → Good w s → Good w (giveF os v s)
  | [], s, _, h => h
  | k :: os, s, ho, h => by
    have hk := ho k (by simp)
    show Good w (giveF os v (s.set k.toNat v))
    exact good_give hw hv (fun q hq => ho q (by simp [hq])) (good_lk hw h (by omega) hv)
theorem outs_in {w : B} (i : Int) : ∀ q ∈ outsK w i, 0 ≤ q ∧ q < w.links.length := fun q hq => by have := idx2_mem hq; omega
theorem good_fate {w : B} {s : List Int} {i : Nat} (hw : Wb w) (hi : i < w.kids.length) (h : Good w s) : Good w (fateF s w i) := by
  unfold fateF
  split
  · exact good_give hw (by decide) (outs_in i) (good_kd hw h hi (by decide) (fun h => by omega))
  · split
    · exact good_give hw (by decide) (outs_in i) (good_kd hw h hi (by decide) (fun h => by omega))
    · rename_i hn
      exact good_kd hw h hi (by decide) (fun _ hk => by
        refine Classical.byContradiction fun hx => hn ⟨hk, hx⟩)
theorem good_settleN {w : B} (hw : Wb w) : ∀ (k : Nat) {s : List Int}, Good w s → Good w (settleN w k s)
  | 0, s, h => h
  | k + 1, s, h => by
    rw [settleN]
    cases hp : pickF s w with
    | none => exact h
    | some i => exact good_settleN hw k (good_fate hw (pick_spec hp).1 h)
theorem good_settle {w : B} {s : List Int} (hw : Wb w) (h : Good w s) : Good w (settleF s w) := good_settleN hw _ h
theorem good_0 (w : B) : Good w s00 := ⟨s00_len, fun k _ => by rw [s00_get]; simp, fun k _ => by rw [s00_get]; simp, fun i _ _ h => by rw [s00_get] at h; cases h⟩
theorem good_start {w : B} (hw : Wb w) : Good w (startS w) := good_settle hw (good_give hw (by decide) (outs_in _) (good_0 w))
theorem idx2_count (p : Lk → Bool) : ∀ (l : List Lk) (i : Nat), (idx2 p l i).length = l.countP p
  | [], _ => rfl
  | f :: l, i => by
    rw [idx2, List.countP_cons, ← idx2_count p l (i + 1)]
    split <;> simp
theorem kidsBad_f {ls : List Lk} : ∀ {l : List B} {i : Nat}, kidsBad ls l i = false → ∀ j, j < l.length → kidBad ls (gt l j) (i + j : Nat) = false
  | [], _, _, j, h => by simp at h
  | k :: l, i, hb, j, h => by
    rw [kidsBad, Bool.or_eq_false_iff] at hb
    cases j with
    | zero => simpa [gt] using hb.1
    | succ j =>
      have := kidsBad_f hb.2 j (by simpa using h)
      rw [show i + 1 + j = i + (j + 1) by omega] at this
      simpa [gt] using this
theorem gate_outs {w : B} (hr : rgtW w = true) {i : Nat} (hi : i < w.kids.length) (hk : (gt w.kids i).kind = 12) (hx : (gt w.kids i).x = 3) : (outsK w i).length = (gt w.kids i).conds.length ∧ 0 < (gt w.kids i).conds.length := by
  unfold rgtW at hr
  simp only [Bool.and_eq_true, decide_eq_true_eq] at hr
  obtain ⟨h13, hc⟩ := hr
  have hrt : rightF numF w = true := by
    unfold checkF at hc
    split at hc
    · cases hc
    · split at hc
      · cases hc
      · rename_i q
        cases hh : rightF numF w with
        | true => rfl
        | false => exact absurd (.inr (.inr hh)) q
  have hn := right_num hrt
  rw [num13 h13, Bool.and_eq_true] at hn
  have hl := hn.2
  unfold linkedF at hl
  split at hl
  · cases hl
  split at hl
  · cases hl
  split at hl
  · cases hl
  rename_i hkb
  have hkb2 := kidsBad_f (by simpa using hkb) i hi
  rw [Nat.zero_add] at hkb2
  have hb3 : ¬ kidBad w.links (gt w.kids i) i = true := by rw [hkb2]; decide
  rw [kidBad_iff] at hb3
  rw [rightF_eq] at hrt
  simp only [Bool.and_eq_true, Bool.not_eq_true', List.any_eq_false] at hrt
  have hw1 := hrt.2 _ (gt_mem hi)
  simp only [wrong1, Bool.not_eq_true, Bool.or_eq_false_iff, Bool.not_eq_false'] at hw1
  have hn2 := right_num hw1.2
  have hc2 : 1 < (gt w.kids i).conds.length := by
    unfold numF at hn2
    simp [hk, hx] at hn2
    omega
  refine ⟨?_, by omega⟩
  have : (cO w.links i : Int) = (gt w.kids i).conds.length := by
    refine Classical.byContradiction fun hne => hb3 (.inr ⟨hk, .inr (.inl ⟨hx, .inr hne⟩)⟩)
  have e : (outsK w i).length = cO w.links i := idx2_count _ w.links 0
  omega
theorem fin_good {w : B} {s : List Int} {i : Nat} (hr : rgtW w = true) (hw : Wb w) (h : Good w s) (hi : i < w.kids.length) (h1 : gt s (40 + i) = 1) (hk : (gt w.kids i).kind ≠ 12) : (finS w s i).2 = 0 ∧ Good w (finS w s i).1 := by
  have hc := good_chk hr h
  have hrun : runsF w s i = true := runs_iff.2 ⟨by omega, by omega, by simpa using h1⟩
  rw [finS, if_neg (by omega), if_neg (by rw [hrun]; simpa using hk)]
  exact ⟨rfl, good_settle hw (good_give hw (by decide) (outs_in i) (by simpa using good_kd hw h hi (v := 2) (by decide) (fun h => by omega)))⟩
theorem cho_good {w : B} {s : List Int} {i : Nat} {o : Int} (hr : rgtW w = true) (hw : Wb w) (h : Good w s) (hi : i < w.kids.length) (h1 : gt s (40 + i) = 1) (hk : (gt w.kids i).kind = 12) (ho : 0 ≤ o ∧ o < (gt w.kids i).conds.length) : (choS w s i o).2 = 0 ∧ Good w (choS w s i o).1 := by
  have hc := good_chk hr h
  have hrun : runsF w s i = true := runs_iff.2 ⟨by omega, by omega, by simpa using h1⟩
  have hg := gate_outs hr hi hk (h.gk i hi hk h1)
  have hq := outs_in (w := w) i _ (gt_mem (l := outsK w i) (i := o.toNat) (by omega))
  rw [choS, if_neg (by omega), if_neg (by rw [hrun]; simpa using hk), if_neg (by omega)]
  exact ⟨rfl, good_settle hw (good_lk hw (good_give hw (by decide) (outs_in i) (by simpa using good_kd hw h hi (v := 2) (by decide) (fun h => by omega))) (by omega) (by decide))⟩
theorem runL_mem {s : List Int} : ∀ {r : List Nat} {q : Int}, q ∈ runL s r → ∃ i ∈ r, q = (i : Int) ∧ gt s (40 + i) = 1
  | [], q, h => by simp [runL] at h
  | i :: r, q, h => by
    rw [runL] at h
    split at h
    · rcases List.mem_cons.1 h with rfl | h
      · exact ⟨i, by simp, rfl, by assumption⟩
      · obtain ⟨j, h1, h2⟩ := runL_mem h; exact ⟨j, by simp [h1], h2⟩
    · obtain ⟨j, h1, h2⟩ := runL_mem h; exact ⟨j, by simp [h1], h2⟩
theorem runL_len (s : List Int) : ∀ r : List Nat, (runL s r).length ≤ r.length
  | [] => by simp [runL]
  | i :: r => by have := runL_len s r; rw [runL]; split <;> simp <;> omega
theorem run_in {w : B} {s : List Int} (hc : chkS w s = 0) {j : Nat} (hj : j < (runS w s).length) : 0 ≤ gt (runS w s) j ∧ gt (runS w s) j < w.kids.length ∧ gt s (40 + (gt (runS w s) j).toNat) = 1 := by
  have hm := gt_mem hj
  have e : runS w s = runL s (List.range' 0 w.kids.length) := by rw [runS, if_neg (by omega)]
  rw [e] at hm
  obtain ⟨i, h1, h2, h3⟩ := runL_mem hm
  rw [← e] at h2
  obtain ⟨m, hm2, rfl⟩ := List.mem_range'.1 h1
  rw [h2]
  exact ⟨by omega, by omega, by rw [Int.toNat_natCast]; exact h3⟩
theorem tmod_in {p : Int} {n : Nat} (h : 0 ≤ p) (hn : 0 < n) : 0 ≤ p.tmod n ∧ p.tmod n < n := ⟨Int.tmod_nonneg _ h, Int.tmod_lt_of_pos _ (by omega)⟩
theorem gt_app {a b : List Int} {x : Int} : gt (a ++ x :: b) a.length = x := by simp [gt, List.getD]
end Go.Eng
open Go Go.Proofs
namespace Go.Eng
set_option linter.unusedSimpArgs false
set_option linter.unusedVariables false
set_option maxRecDepth 10000
set_option maxHeartbeats 4000000
def opn (w : B) (s : List Int) (j : Int) : Prop := 0 ≤ j ∧ gt s (40 + j.toNat) < 2
structure Inv (w : B) (s : List Int) : Prop extends Good w s where
  op : ∀ k, k < w.links.length → (gt s k = 0 ↔ opn w s (gt w.links k).src)
structure Mo (w : B) (s t : List Int) (i : Int) : Prop where
  lk : ∀ k, k < 40 → gt s k ≠ 0 → gt t k = gt s k
  kd : ∀ j, j < 64 → 2 ≤ gt s (40 + j) → gt t (40 + j) = gt s (40 + j)
  rn : ∀ j, j < 64 → gt s (40 + j) = 1 → (j : Int) ≠ i → gt t (40 + j) = gt s (40 + j)
theorem Mo.refl (w : B) (s : List Int) (i : Int) : Mo w s s i := ⟨fun _ _ _ => rfl, fun _ _ _ => rfl, fun _ _ _ _ => rfl⟩
theorem give_get2 {v : Int} : ∀ {os : List Int} {s : List Int} {k : Nat}, (∀ q ∈ os, 0 ≤ q ∧ q < 40) → s.length = 104 → gt (giveF os v s) k = if (k : Int) ∈ os then v else gt s k
  | [], s, k, _, _ => by simp [giveF]
  | q :: os, s, k, h, hs => by
    have hq := h q (by simp)
    show gt (giveF os v (s.set q.toNat v)) k = _
    rw [give_get2 (fun x hx => h x (by simp [hx])) (by simpa using hs), gtI_set2 _ _ _ _ (by omega)]
    by_cases h1 : (k : Int) ∈ os
    · rw [if_pos h1, if_pos (by simp [h1])]
    · rw [if_neg h1]
      by_cases h2 : q.toNat = k
      · rw [if_pos h2, if_pos (by have : (k : Int) = q := by omega
                                  simp [this])]
      · rw [if_neg h2, if_neg (by
          intro hm
          rcases List.mem_cons.1 hm with hm | hm
          · omega
          · exact h1 hm)]
theorem idx2_iff {p : Lk → Bool} : ∀ {l : List Lk} {i : Nat} {k : Nat}, ((k : Int) ∈ idx2 p l i) ↔ i ≤ k ∧ k < i + l.length ∧ p (gt l (k - i)) = true
  | [], i, k => by simp [idx2]; omega
  | f :: l, i, k => by
    rw [idx2]
    have ih := idx2_iff (p := p) (l := l) (i := i + 1) (k := k)
    by_cases hk : k = i
    · subst hk
      simp only [Nat.sub_self, show gt (f :: l) 0 = f by simp [gt]]
      split
      · rename_i h; simp [h]
      · rename_i h
        rw [ih]; simp [h]; omega
    · have e : i + 1 ≤ k → gt (f :: l) (k - i) = gt l (k - (i + 1)) := fun h => by rw [show k - i = (k - (i + 1)) + 1 by omega]; simp [gt]
      have hm : (k : Int) ∈ (if p f = true then (i : Int) :: idx2 p l (i + 1) else idx2 p l (i + 1)) ↔ (k : Int) ∈ idx2 p l (i + 1) := by
        split
        · rw [List.mem_cons]
          constructor
          · rintro (h | h)
            · omega
            · exact h
          · exact .inr
        · exact Iff.rfl
      rw [hm, ih]
      simp only [List.length_cons]
      constructor
      · rintro ⟨h1, h2, h3⟩; exact ⟨by omega, by omega, by rw [e h1]; exact h3⟩
      · rintro ⟨h1, h2, h3⟩; exact ⟨by omega, by omega, by rw [← e (by omega)]; exact h3⟩
theorem outs_iff {w : B} {i : Int} {k : Nat} : (k : Int) ∈ outsK w i ↔ k < w.links.length ∧ (gt w.links k).src = i := by
  unfold outsK
  rw [idx2_iff]
  simp
theorem inv_step {w : B} {s : List Int} {i : Nat} {v a : Int} (hw : Wb w) (h : Inv w s) (hi : i < w.kids.length) (h2 : gt s (40 + i) < 2) (hv : 2 ≤ v ∧ v ≤ 3) (ha : 1 ≤ a ∧ a ≤ 2) :
    Inv w (giveF (outsK w i) a (s.set (40 + i) v)) ∧ Mo w s (giveF (outsK w i) a (s.set (40 + i) v)) i := by
  have hk := hw.hk
  have hlen := h.len
  have hls : (s.set (40 + i) v).length = 104 := by simpa using hlen
  have ho := outs_40 hw i
  have hg : ∀ j, gt (giveF (outsK w i) a (s.set (40 + i) v)) j = if (j : Int) ∈ outsK w i then a else if 40 + i = j then v else gt s j := fun j => by
    rw [give_get2 ho hls, gtI_set2 _ _ _ _ (by omega)]
  have hn : ∀ j, 40 ≤ j → ¬ (j : Int) ∈ outsK w i := fun j hj hm => by have := ho _ hm; omega
  have hgood := good_give (v := a) hw (by omega) (outs_in (w := w) i) (good_kd (v := v) hw h.toGood hi (by omega) (fun h => by omega))
  refine ⟨⟨hgood, fun k hkl => ?_⟩, ⟨fun k hk4 h0 => ?_, fun j hj h0 => ?_, fun j hj h0 hne => ?_⟩⟩
  · have hl := hw.hl
    have hop := h.op k hkl
    rw [hg k, if_neg (show ¬ 40 + i = k by omega)]
    unfold opn at hop ⊢
    by_cases hs : (gt w.links k).src = i
    · rw [if_pos (outs_iff.2 ⟨hkl, hs⟩), hs, Int.toNat_natCast, hg (40 + i), if_neg (hn _ (by omega)), if_pos rfl]
      constructor <;> intro <;> omega
    · rw [if_neg (fun hm => hs (outs_iff.1 hm).2), hop]
      by_cases h0 : 0 ≤ (gt w.links k).src
      · rw [hg (40 + (gt w.links k).src.toNat), if_neg (hn _ (by omega)), if_neg (by omega)]
      · constructor <;> rintro ⟨h1, _⟩ <;> exact absurd h1 h0
  · rw [hg k, if_neg (show ¬ 40 + i = k by omega), if_neg]
    intro hm
    obtain ⟨h3, h4⟩ := outs_iff.1 hm
    have := (h.op k h3).2 (by rw [h4]; exact ⟨by omega, by rw [Int.toNat_natCast]; exact h2⟩)
    exact h0 this
  · rw [hg, if_neg (hn _ (by omega)), if_neg]
    intro e
    have : i = j := by omega
    subst this; omega
  · rw [hg, if_neg (hn _ (by omega)), if_neg (by omega)]
theorem inv_run {w : B} {s : List Int} {i : Nat} (hw : Wb w) (h : Inv w s) (hi : i < w.kids.length) (h0 : gt s (40 + i) = 0) (hx : (gt w.kids i).kind = 12 → (gt w.kids i).x = 3) : Inv w (s.set (40 + i) 1) ∧ ∀ m, Mo w s (s.set (40 + i) 1) m := by
  have hk := hw.hk
  have hlen := h.len
  have hg : ∀ j, gt (s.set (40 + i) 1) j = if 40 + i = j then 1 else gt s j := fun j => gtI_set2 _ _ _ _ (by omega)
  have hl := hw.hl
  refine ⟨⟨good_kd (v := 1) hw h.toGood hi (by decide) (fun _ => hx), fun k hkl => ?_⟩, fun m => ⟨fun k hk4 h0 => ?_, fun j hj hj2 => ?_, fun j hj hj1 hne => ?_⟩⟩
  · have hop := h.op k hkl
    unfold opn at hop ⊢
    rw [hg, if_neg (by omega), hop, hg]
    by_cases e : 40 + i = 40 + (gt w.links k).src.toNat
    · rw [if_pos e, ← e, h0]; constructor <;> rintro ⟨h1, _⟩ <;> exact ⟨h1, by decide⟩
    · rw [if_neg e]
  · rw [hg, if_neg (by omega)]
  · rw [hg, if_neg]; intro e; rw [← e] at hj2; omega
  · rw [hg, if_neg]; intro e; rw [← e] at hj1; omega
theorem Mo.then {w : B} {s t u : List Int} {i : Int} (h : Mo w s t i) (g : ∀ j, Mo w t u j) : Mo w s u i := ⟨fun k hk h0 => by
    have e := h.lk k hk h0
    rw [(g i).lk k hk (by rw [e]; exact h0), e], fun m hm h2 => by
    have e := h.kd m hm h2
    rw [(g i).kd m hm (by rw [e]; exact h2), e], fun m hm h1 hne => by
    have e := h.rn m hm h1 hne
    rw [(g (-1)).rn m hm (by rw [e]; exact h1) (by omega), e]⟩
theorem inv_fate {w : B} {s : List Int} {i : Nat} (hw : Wb w) (h : Inv w s) (hi : i < w.kids.length) (h0 : gt s (40 + i) = 0) : Inv w (fateF s w i) ∧ Mo w s (fateF s w i) i := by
  unfold fateF
  split
  · exact inv_step hw h hi (by omega) (by decide) (by decide)
  · split
    · exact inv_step hw h hi (by omega) (by decide) (by decide)
    · rename_i hn
      have := inv_run hw h hi h0 (fun hk => Classical.byContradiction fun hx => hn ⟨hk, hx⟩)
      exact ⟨this.1, this.2 i⟩
theorem inv_settleN {w : B} (hw : Wb w) : ∀ (k : Nat) {s : List Int}, Inv w s → Inv w (settleN w k s) ∧ ∀ i, Mo w s (settleN w k s) i
  | 0, s, h => ⟨h, fun i => Mo.refl w s i⟩
  | k + 1, s, h => by
    rw [settleN]
    cases hp : pickF s w with
    | none => exact ⟨h, fun i => Mo.refl w s i⟩
    | some i =>
      have hs := pick_spec hp
      obtain ⟨h1, h2⟩ := inv_fate hw h hs.1 hs.2
      obtain ⟨h3, h4⟩ := inv_settleN hw k h1
      refine ⟨h3, fun m => ?_⟩
      have h2' : ∀ m, Mo w s (fateF s w i) m := fun m => ⟨h2.lk, h2.kd, fun j hj h1 _ => h2.rn j hj h1 (fun e => by
        have e2 : j = i := by omega
        rw [e2, hs.2] at h1; cases h1)⟩
      exact (h2' m).then h4
theorem settled_none {w : B} (hw : Wb w) : ∀ (k : Nat) {s : List Int}, s.length = 104 → waits s w.kids.length ≤ k → pickF (settleN w k s) w = none
  | 0, s, hs, h => by
    rw [settleN]
    cases hp : pickF s w with
    | none => rfl
    | some i =>
      have h1 := pick_spec hp
      have := fate_waits hw hs h1.1 h1.2
      omega
  | k + 1, s, hs, h => by
    rw [settleN]
    cases hp : pickF s w with
    | none => exact hp
    | some i =>
      have h1 := pick_spec hp
      have := fate_waits hw hs h1.1 h1.2
      exact settled_none hw k (by rw [fateF_len]; exact hs) (by omega)
structure Run (w : B) (s : List Int) : Prop extends Inv w s where
  no : pickF s w = none
theorem run_settle {w : B} {s : List Int} (hw : Wb w) (h : Inv w s) : Run w (settleF s w) := ⟨(inv_settleN hw _ h).1, settled_none hw _ h.len (Nat.le_refl _)⟩
theorem linked_of {w : B} (hr : rgtW w = true) : linkedF w = true := by
  unfold rgtW at hr
  simp only [Bool.and_eq_true, decide_eq_true_eq] at hr
  obtain ⟨h13, hc⟩ := hr
  have hrt : rightF numF w = true := by
    unfold checkF at hc
    split at hc
    · cases hc
    · split at hc
      · cases hc
      · rename_i q
        cases hh : rightF numF w with
        | true => rfl
        | false => exact absurd (.inr (.inr hh)) q
  have hn := right_num hrt
  rw [num13 h13, Bool.and_eq_true] at hn
  exact hn.2
theorem linksOk {w : B} (hr : rgtW w = true) : ∀ k, k < w.links.length → -1 ≤ (gt w.links k).src ∧ (gt w.links k).src < w.kids.length := fun k hk => by
  have hl := linked_of hr
  unfold linkedF at hl
  split at hl
  · cases hl
  rename_i hb
  rw [Bool.not_eq_true, List.any_eq_false] at hb
  have := hb _ (gt_mem hk)
  simp only [lkBad, Bool.or_eq_true, decide_eq_true_eq, not_or] at this
  omega
theorem acyW {w : B} (hr : rgtW w = true) : Acy w.kids.length (inner w.links) := by
  have hl := linked_of hr
  unfold linkedF at hl
  split at hl
  · cases hl
  split at hl
  · cases hl
  split at hl
  · cases hl
  have ho := of_decide_eq_true hl
  unfold ordF at ho
  split at ho
  · exact absurd ho ‹_›
  split at ho
  · cases ho
  exact acyclic (by omega) (by omega)
theorem run_start {w : B} (hr : rgtW w = true) (hw : Wb w) : Run w (startS w) := by
  refine run_settle hw ⟨good_give hw (by decide) (outs_in _) (good_0 w), fun k hk => ?_⟩
  have hl := hw.hl
  have ho := outs_40 hw (-1)
  have hlk := linksOk hr k hk
  rw [give_get2 ho s00_len, s00_get]
  unfold opn
  by_cases h1 : (gt w.links k).src = -1
  · rw [if_pos (outs_iff.2 ⟨hk, h1⟩), h1]
    constructor
    · intro h; cases h
    · rintro ⟨h, _⟩; omega
  · rw [if_neg (fun h => h1 (outs_iff.1 h).2), give_get2 ho s00_len, s00_get, if_neg (fun h => by have := ho _ h; omega)]
    exact ⟨fun _ => ⟨by omega, by decide⟩, fun _ => rfl⟩
def uns (s : List Int) (n : Nat) : Nat := (List.range n).countP fun j => decide (gt s (40 + j) < 2)
theorem uns_succ (s : List Int) (n : Nat) : uns s (n + 1) = uns s n + if gt s (40 + n) < 2 then 1 else 0 := by
  unfold uns
  rw [List.range_succ, List.countP_append]
  simp [List.countP_cons]
theorem uns_le (s : List Int) : ∀ n, uns s n ≤ n
  | 0 => by simp [uns]
  | n + 1 => by have := uns_le s n; rw [uns_succ]; split <;> omega
theorem uns_mono {s t : List Int} : ∀ {n : Nat}, (∀ j, j < n → 2 ≤ gt s (40 + j) → 2 ≤ gt t (40 + j)) → uns t n ≤ uns s n
  | 0, _ => by simp [uns]
  | n + 1, h => by
    have := uns_mono (n := n) fun j hj => h j (by omega)
    have := h n (by omega)
    rw [uns_succ, uns_succ]
    split <;> split <;> omega
theorem uns_lt {s t : List Int} {i : Nat} : ∀ {n : Nat}, i < n → gt s (40 + i) < 2 → 2 ≤ gt t (40 + i) → (∀ j, j < n → 2 ≤ gt s (40 + j) → 2 ≤ gt t (40 + j)) → uns t n < uns s n
  | 0, hi, _, _, _ => by omega
  | n + 1, hi, h1, h2, h => by
    rw [uns_succ, uns_succ]
    rcases Nat.lt_or_ge i n with h' | h'
    · have := uns_lt (n := n) h' h1 h2 fun j hj => h j (by omega)
      have := h n (by omega)
      split <;> split <;> omega
    · obtain rfl : i = n := by omega
      have := uns_mono (n := i) fun j hj => h j (by omega)
      rw [if_neg (by omega), if_pos h1]; omega
theorem uns_pos {s : List Int} {n i : Nat} (hi : i < n) (h : gt s (40 + i) < 2) : 0 < uns s n := by
  unfold uns
  exact List.countP_pos_iff.2 ⟨i, List.mem_range.2 hi, by simpa using h⟩
theorem uns_step {w : B} {s t : List Int} {i : Nat} (hw : Wb w) (hi : i < w.kids.length) (h1 : gt s (40 + i) = 1) (h2 : 2 ≤ gt t (40 + i)) (hm : Mo w s t i) : uns t w.kids.length < uns s w.kids.length := by
  have := hw.hk
  exact uns_lt hi (by omega) h2 fun j hj h => by rw [hm.kd j (by omega) h]; exact h
theorem all_done {w : B} {s : List Int} (hr : rgtW w = true) (hw : Wb w) (h : Run w s) (hno : ∀ j, j < w.kids.length → gt s (40 + j) ≠ 1) : ∀ j, j < w.kids.length → 2 ≤ gt s (40 + j) := by
  intro j0 hj0
  refine Classical.byContradiction fun hne => ?_
  have hk := hw.hk
  let t : List Bool := (List.range w.kids.length).map fun j => decide (2 ≤ gt s (40 + j))
  have htl : t.length = w.kids.length := by simp [t]
  have ht : ∀ j, j < w.kids.length → gt t j = decide (2 ≤ gt s (40 + j)) := fun j hj => by
    show gt ((List.range w.kids.length).map fun j => decide (2 ≤ gt s (40 + j))) j = _
    rw [gt, List.getD_eq_getElem?_getD]
    simp [hj]
  have hc : 0 < cf t := by
    have := cf_set (s := t) (j := j0) (by omega) (by rw [ht j0 hj0]; simpa using hne)
    omega
  obtain ⟨i, hi, hf⟩ := acyW hr t htl hc
  unfold freeF at hf
  rw [Bool.and_eq_true, ht i hi, List.all_eq_true] at hf
  have hi2 : gt s (40 + i) < 2 := by have := hf.1; simp at this; omega
  have hg := h.kd i (by omega)
  have h1 := hno i hi
  have hrd : ready s w i = true := by
    refine ready_t (by omega) fun j hj h0 => ?_
    have hm := gt_mem hj
    have hin := idx2_mem hm
    obtain ⟨k, hke⟩ : ∃ k : Nat, gt (insK w i) j = k := ⟨(gt (insK w i) j).toNat, by omega⟩
    rw [hke] at hm h0
    unfold insK at hm
    rw [idx2_iff] at hm
    obtain ⟨_, hkl, hd⟩ := hm
    have hd : (gt w.links k).dst = i := by simpa using hd
    rw [Int.toNat_natCast] at h0
    have hop := (h.op k (by omega)).1 h0
    unfold opn at hop
    have hsk := linksOk hr k (by omega)
    have he : gt w.links k ∈ inner w.links := by
      unfold inner
      rw [List.mem_filter]
      refine ⟨gt_mem (by omega), ?_⟩
      simp only [Bool.and_eq_true, decide_eq_true_eq]
      omega
    have hfe := hf.2 _ he
    unfold freeE at hfe
    rw [hd] at hfe
    simp only [decide_true, Bool.not_true, Bool.false_or] at hfe
    have hs2 := ht (gt w.links k).src.toNat (by omega)
    rw [show gt t (gt w.links k).src.toNat = true by exact hfe] at hs2
    have := of_decide_eq_true hs2.symm
    omega
  have hn := h.no
  unfold pickF at hn
  rw [List.find?_eq_none] at hn
  exact hn i (by simp; omega) hrd
theorem links_done {w : B} {s : List Int} (hr : rgtW w = true) (h : Run w s) (hk : ∀ j, j < w.kids.length → 2 ≤ gt s (40 + j)) : ∀ k, k < w.links.length → gt s k ≠ 0 := fun k hkl h0 => by
  have ho := (h.op k hkl).1 h0
  unfold opn at ho
  have hl := linksOk hr k hkl
  have := hk (gt w.links k).src.toNat (by omega)
  omega
theorem step_run {w : B} {s t : List Int} {i : Nat} (hw : Wb w) (hi : i < w.kids.length) (h1 : gt s (40 + i) = 1) (ht : Inv w t ∧ Mo w s t i) (h2 : gt t (40 + i) = 2) : Run w (settleF t w) ∧ Mo w s (settleF t w) i ∧ uns (settleF t w) w.kids.length < uns s w.kids.length := by
  have hk := hw.hk
  have hs := inv_settleN hw (waits t w.kids.length) ht.1
  have hm := ht.2.then hs.2
  refine ⟨run_settle hw ht.1, hm, uns_step hw hi h1 ?_ hm⟩
  have := (hs.2 i).kd i (by omega) (by omega)
  show 2 ≤ gt (settleN w (waits t w.kids.length) t) (40 + i)
  omega
theorem give_kid {w : B} {s : List Int} {i : Nat} {v a : Int} (hw : Wb w) (hs : s.length = 104) (hi : i < w.kids.length) : gt (giveF (outsK w i) a (s.set (40 + i) v)) (40 + i) = v := by
  have hk := hw.hk
  rw [give_get (outs_40 hw i) (by omega) (by simpa using hs), gtI_set2 _ _ _ _ (by omega), if_pos rfl]
theorem fin_run {w : B} {s : List Int} {i : Nat} (hr : rgtW w = true) (hw : Wb w) (h : Run w s) (hi : i < w.kids.length) (h1 : gt s (40 + i) = 1) (hk : (gt w.kids i).kind ≠ 12) : (finS w s i).2 = 0 ∧ Run w (finS w s i).1 ∧ Mo w s (finS w s i).1 i ∧ uns (finS w s i).1 w.kids.length < uns s w.kids.length := by
  have hc := good_chk hr h.toGood
  have hrun : runsF w s i = true := runs_iff.2 ⟨by omega, by omega, by simpa using h1⟩
  rw [finS, if_neg (by omega), if_neg (by rw [hrun]; simpa using hk)]
  exact ⟨rfl, step_run hw hi h1 (by simpa using inv_step (v := 2) (a := 1) hw h.toInv hi (by omega) (by decide) (by decide)) (by simpa using give_kid hw h.len hi)⟩
theorem inv_lk {w : B} {s : List Int} {k : Nat} {v : Int} (hw : Wb w) (h : Inv w s) (hk : k < w.links.length) (h0 : gt s k ≠ 0) (hv : 1 ≤ v ∧ v ≤ 2) : Inv w (s.set k v) := by
  have hl := hw.hl
  have hlen := h.len
  refine ⟨good_lk hw h.toGood hk (by omega), fun j hj => ?_⟩
  have hop := h.op j hj
  unfold opn at hop ⊢
  rw [gtI_set2 _ _ _ _ (by omega), gtI_set2 _ _ _ _ (by omega), if_neg (show ¬ k = 40 + (gt w.links j).src.toNat by omega), ← hop]
  split
  · rename_i e; subst e; constructor <;> intro <;> omega
  · exact Iff.rfl
theorem cho_run {w : B} {s : List Int} {i : Nat} {o : Int} (hr : rgtW w = true) (hw : Wb w) (h : Run w s) (hi : i < w.kids.length) (h1 : gt s (40 + i) = 1) (hk : (gt w.kids i).kind = 12) (ho : 0 ≤ o ∧ o < (gt w.kids i).conds.length) : (choS w s i o).2 = 0 ∧ Run w (choS w s i o).1 ∧ Mo w s (choS w s i o).1 i ∧ uns (choS w s i o).1 w.kids.length < uns s w.kids.length := by
  have hc := good_chk hr h.toGood
  have hlen := h.len
  have hl := hw.hl
  have hrun : runsF w s i = true := runs_iff.2 ⟨by omega, by omega, by simpa using h1⟩
  have hg := gate_outs hr hi hk (h.gk i hi hk h1)
  have hm := gt_mem (l := outsK w i) (i := o.toNat) (by omega)
  have hq := outs_in (w := w) i _ hm
  rw [choS, if_neg (by omega), if_neg (by rw [hrun]; simpa using hk), if_neg (by omega)]
  refine ⟨rfl, step_run hw hi h1 ?_ ?_⟩
  · simp only [Int.toNat_natCast]
    obtain ⟨k, hke⟩ : ∃ k : Nat, gt (outsK w i) o.toNat = k := ⟨(gt (outsK w i) o.toNat).toNat, by omega⟩
    rw [hke] at hq hm ⊢
    rw [Int.toNat_natCast]
    have hst := inv_step (v := 2) (a := 2) hw h.toInv hi (by omega) (by decide) (by decide)
    have hkv : gt (giveF (outsK w i) 2 (s.set (40 + i) 2)) k = 2 := by rw [give_get2 (outs_40 hw i) (by simpa using hlen), if_pos hm]
    have hgl := hst.1.len
    have hks := (outs_iff.1 hm)
    have hk0 : gt s k = 0 := (h.op k hks.1).2 (by rw [hks.2]; exact ⟨by omega, by rw [Int.toNat_natCast]; omega⟩)
    refine ⟨inv_lk hw hst.1 (by omega) (by omega) (by decide), ⟨fun j hj h0 => ?_, fun j hj h2 => ?_, fun j hj h2 hne => ?_⟩⟩
    · rw [gtI_set2 _ _ _ _ (by omega), if_neg (by intro e; subst e; exact h0 hk0)]
      exact hst.2.lk j hj h0
    · rw [gtI_set2 _ _ _ _ (by omega), if_neg (by omega)]
      exact hst.2.kd j hj h2
    · rw [gtI_set2 _ _ _ _ (by omega), if_neg (by omega)]
      exact hst.2.rn j hj h2 hne
  · have : (gt (outsK w i) o.toNat).toNat < 40 := by omega
    rw [gtI_set2 _ _ _ _ (by rw [giveF_len, List.length_set]; omega), if_neg (by omega)]
    simpa using give_kid (v := 2) (a := 2) hw hlen hi
theorem runL_none {s : List Int} {n : Nat} (h : (runL s (List.range' 0 n)).length = 0) : ∀ j, j < n → gt s (40 + j) ≠ 1 := by
  have g : ∀ (r : List Nat), (runL s r).length = 0 → ∀ j ∈ r, gt s (40 + j) ≠ 1 := by
    intro r
    induction r with
    | nil => intro _ j hj; cases hj
    | cons i r ih =>
      intro hl j hj
      rw [runL] at hl
      split at hl
      · simp at hl
      · rcases List.mem_cons.1 hj with rfl | hj
        · assumption
        · exact ih hl j hj
  exact fun j hj => g _ h j (by simp; omega)
end Go.Eng
