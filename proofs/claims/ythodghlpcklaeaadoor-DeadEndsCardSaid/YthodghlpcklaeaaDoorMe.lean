/- Each function of the program, walked over plain data: what it comes to, at all arguments. -/
import Derived.Test.YthodghlpcklaeaaDoorMd
import Derived.Test.YthodghlpcklaeaaDoorMa
import Derived.Test.YthodghlpcklaeaaDoorEf
import Derived.Test.YthodghlpcklaeaaDoorRows
open Go Go.Proofs
namespace Go.Eng
set_option linter.unusedSimpArgs false
set_option linter.unusedVariables false
set_option maxRecDepth 10000
set_option maxHeartbeats 40000000
theorem lawE0_ok (w : B) (ps : List Int) (hp : ps.length < 4611686018427387904) (hr : rgtW w = false) : AFn env 3 [w.a, aF (ps.map iRow)] [] (aB true) [] := by
  have h00 := s00_len
  have cA : w.size ≤ 100000 → AFn env 7 [w.a] [] (.tup [sA s00, aI 4]) [] := fun h => by have := start19_ok w h; rwa [if_neg (by simp [hr]), if_neg (by simp [hr])] at this
  refine afn_body Tryd.func3 rfl (by decide) ?_
  simp only [Tryd.ntmps3, Tryd.results3, List.length_cons, List.length_nil, List.cons_append, List.nil_append, Nat.reduceAdd, Nat.reduceSub, List.replicate]
  repeat' first
  | ((with_reducible refine awp_seqQ ?_); intro _ _)
  | ((with_reducible refine awp_region ?_); refine zS ?_)
  | ((with_reducible refine Gd_nb ?_ ?_) <;> intro hb <;> first | contradiction | refine zH hb ?_)
  | ((with_reducible refine AWP_c ?_); refine zcdT ?_)
  | ((with_reducible refine AWP_c ?_); refine zcdD ?_ ?_ <;> intro hb hb2 <;> first | contradiction | (exfalso; omega) | ((try refine zH hb2 ?_); try clear hb2))
  | ((with_reducible refine awp_skip ?_); try refine zS ?_)
  | ((with_reducible refine CallK_id ?_); refine zcF ?_; refine ⟨_, by first | exact skips_ok | exact cA (nl6 ‹_›) | fail, ?_⟩; refine ⟨fun _ => by (first | rfl | simp only [go_sem]; done), fun _ => by (first | rfl | simp only [go_sem]; done), by (first | rfl | (simp [okAs, okA, okCs, okC, okC_st, go_sem]; done)), ?_⟩; try refine zS ?_)
  | ((with_reducible refine CallK_id ?_); refine zcT [1] ?_; refine ⟨_, _, by first | exact large_ok w 600 1 (by decide) (by decide) (by decide) (by decide) | fail, ?_⟩; try refine zS ?_)
  | ((with_reducible refine awp_ret ?_); refine q_step (by assumption) ?_)
  | with_reducible refine fin_r ?_
  | ((with_reducible refine q_step (by assumption) ?_); try refine zS ?_)
  all_goals first | rfl | (exfalso; simp_all; done) | trace_state
theorem lawE1_ok (w : B) (ps : List Int) (hp : ps.length < 4611686018427387904) (hr : rgtW w = true) : AFn env 3 [w.a, aF (ps.map iRow)] [] (aB true) [] := by
  have h00 := s00_len
  have h1 := startS_len w
  have cA : w.size ≤ 100000 → AFn env 7 [w.a] [] (.tup [sA (startS w), aI 0]) [] := fun h => by have := start19_ok w h; rwa [if_pos hr, if_pos hr] at this
  refine afn_body Tryd.func3 rfl (by decide) ?_
  simp only [Tryd.ntmps3, Tryd.results3, List.length_cons, List.length_nil, List.cons_append, List.nil_append, Nat.reduceAdd, Nat.reduceSub, List.replicate]
  repeat' first
  | ((with_reducible refine awp_seqQ ?_); intro _ _)
  | ((with_reducible refine awp_region ?_); refine zS ?_)
  | ((with_reducible refine Gd_nb ?_ ?_) <;> intro hb <;> first | contradiction | refine zH hb ?_)
  | ((with_reducible refine AWP_c ?_); refine zcdT ?_)
  | ((with_reducible refine AWP_c ?_); refine zcdF ?_)
  | ((with_reducible refine AWP_c ?_); refine zcdD ?_ ?_ <;> intro hb hb2 <;> first | contradiction | (exfalso; omega) | ((try refine zH hb2 ?_); try clear hb2))
  | ((with_reducible refine awp_skip ?_); try refine zS ?_)
  | with_reducible refine awp_block ?_
  | ((with_reducible refine CallK_id ?_); refine zcF ?_; refine ⟨_, by first | exact skips_ok | exact cA (nl6 ‹_›) | fail, ?_⟩; refine ⟨fun _ => by (first | rfl | simp only [go_sem]; done), fun _ => by (first | rfl | simp only [go_sem]; done), by (first | rfl | (simp [okAs, okA, okCs, okC, okC_st, go_sem]; done)), ?_⟩; try refine zS ?_)
  | ((with_reducible refine CallK_id ?_); refine zcT [1] ?_; refine ⟨_, _, by first | exact large_ok w 600 1 (by decide) (by decide) (by decide) (by decide) | fail, ?_⟩; try refine zS ?_)
  | ((with_reducible refine awp_ret ?_); refine q_step (by assumption) ?_)
  | with_reducible refine fin_r ?_
  | ((with_reducible refine q_step (by assumption) ?_); try refine zS ?_)
  all_goals try rfl
  have hz := nl6 ‹(largeB w 600 1).1 = false›
  have hw := wb_of hz hr
  have hwk := hw.hk
  have hwl := hw.hl
  clear cA
  refine awp_loopT (fun z : Nat × List Int => z.1 + uns z.2 w.kids.length ≤ w.kids.length ∧ Run w z.2) (fun z => w.kids.length + 1 - z.1) (fun z => [(29, .any), (31, .any), (7, aI z.1)]) (fun z => [some (.box w.bs), some (.box [.d (dI (largeB w 600 1).2)]), Sb z.2]) (0, startS w) ⟨by have := uns_le (startS w) w.kids.length; simpa using this, run_start hr hw⟩ (by exact zwl) ?_
  rintro ⟨j, s⟩ ⟨g1, g2⟩
  simp only at g1 g2
  have hl := g2.len
  have hc := good_chk hr g2.toGood
  have hre : runS w s = runL s (List.range' 0 w.kids.length) := by rw [runS, if_neg (by omega)]
  have hrl := runL_len s (List.range' 0 w.kids.length)
  have hrl : (runS w s).length ≤ w.kids.length := by rw [hre]; simpa using hrl
  have hpick : ∀ p : Int, 0 ≤ p → (runS w s).length ≠ 0 → ∃ m : Nat, gt (runS w s) (p.tmod (runS w s).length).toNat = m ∧ m < w.kids.length ∧ gt s (40 + m) = 1 ∧ 0 ≤ p.tmod (runS w s).length ∧ p.tmod (runS w s).length < (runS w s).length := fun p h0 h1 => by
    have ht := tmod_in (p := p) (n := (runS w s).length) h0 (by omega)
    have hin := run_in hc (j := (p.tmod (runS w s).length).toNat) (by omega)
    refine ⟨(gt (runS w s) (p.tmod (runS w s).length).toNat).toNat, by omega, by omega, hin.2.2, ht⟩
  refine zT ?_
  repeat' first
  | ((with_reducible refine awp_seqQ ?_); intro _ _)
  | ((with_reducible refine awp_region ?_); refine zS ?_)
  | ((with_reducible refine Gd_d ?_ ?_) <;> intro hb hb2 <;> first | contradiction | (exfalso; omega) | (refine zH hb2 ?_; try clear hb2))
  | ((with_reducible refine AWP_c ?_); refine zcdF ?_)
  | ((with_reducible refine AWP_c ?_); refine zcdD ?_ ?_ <;> intro hb hb2 <;> first | contradiction | (exfalso; omega) | ((try refine zH hb2 ?_); try clear hb2))
  | ((with_reducible refine awp_skip ?_); try refine zS ?_)
  | with_reducible refine awp_block ?_
  | ((with_reducible refine awp_exit ?_); try refine zS ?_)
  | ((with_reducible refine CallK_id ?_); refine zcF ?_; refine ⟨_, by first | exact running_ok w s hz hl | fail, ?_⟩; refine ⟨fun _ => by (first | rfl | simp only [go_sem]; done), fun _ => by (first | rfl | simp only [go_sem]; done), by (first | rfl | (simp [okAs, okA, okCs, okC, okC_st, go_sem]; done)), ?_⟩; try refine zS ?_)
  | ((with_reducible refine q_step (by assumption) ?_); try refine zS ?_)
  all_goals first | (exfalso; omega) | skip
  · have hno := runL_none (s := s) (n := w.kids.length) (by rw [← hre]; omega)
    have hd := all_done hr hw g2 hno
    have hld := links_done hr g2 hd
    refine awp_loopT (fun i : Nat => i ≤ w.kids.length) (fun i => w.kids.length - i) (fun i => [(161, aI i)]) (fun _ => [some (.box w.bs), some (.box [.d (dI (largeB w 600 1).2)]), Sb s]) 0 (by simp) (by exact zwl) ?_
    intro i h2
    refine zT ?_
    repeat' first
    | ((with_reducible refine awp_seqQ ?_); intro _ _)
    | ((with_reducible refine awp_region ?_); refine zS ?_)
    | ((with_reducible refine AWP_c ?_); refine zcdD ?_ ?_ <;> intro hb hb2 <;> first | contradiction | (exfalso; omega) | ((try refine zH hb2 ?_); try clear hb2))
    | ((with_reducible refine awp_skip ?_); try refine zS ?_)
    | with_reducible refine awp_block ?_
    | ((with_reducible refine awp_exit ?_); try refine zS ?_)
    | ((with_reducible refine awp_ret ?_); refine q_step (by assumption) ?_)
    | with_reducible refine fin_r ?_
    | ((with_reducible refine q_step (by assumption) ?_); try refine zS ?_)
    all_goals first
      | (exfalso; have := hd i (by omega); omega)
      | exact ⟨i + 1, by omega, by omega, (by exact zwc 3)⟩
      | skip
    refine awp_loopT (fun i : Nat => i ≤ w.links.length) (fun i => w.links.length - i) (fun i => [(173, aI i)]) (fun _ => [some (.box w.bs), some (.box [.d (dI (largeB w 600 1).2)]), Sb s]) 0 (by simp) (by exact zwl) ?_
    intro i h2
    refine zT ?_
    repeat' first
    | ((with_reducible refine awp_seqQ ?_); intro _ _)
    | ((with_reducible refine awp_region ?_); refine zS ?_)
    | ((with_reducible refine AWP_c ?_); refine zcdD ?_ ?_ <;> intro hb hb2 <;> first | contradiction | (exfalso; omega) | ((try refine zH hb2 ?_); try clear hb2))
    | ((with_reducible refine awp_skip ?_); try refine zS ?_)
    | with_reducible refine awp_block ?_
    | ((with_reducible refine awp_exit ?_); try refine zS ?_)
    | ((with_reducible refine CallK_id ?_); refine zcF ?_; refine ⟨_, by first | exact skips_ok | fail, ?_⟩; refine ⟨fun _ => by (first | rfl | simp only [go_sem]; done), fun _ => by (first | rfl | simp only [go_sem]; done), by (first | rfl | (simp [okAs, okA, okCs, okC, okC_st, go_sem]; done)), ?_⟩; try refine zS ?_)
    | ((with_reducible refine awp_ret ?_); refine q_step (by assumption) ?_)
    | with_reducible refine fin_r ?_
    | ((with_reducible refine q_step (by assumption) ?_); try refine zS ?_)
    all_goals first
      | rfl
      | (exfalso; have := hld i (by omega); omega)
      | exact ⟨i + 1, by omega, by omega, (by exact zwc 3)⟩
      | trace_state
  all_goals
    have hm := by first | exact hpick (gt ps j) (by omega) (by omega) | exact hpick j (by omega) (by omega)
    obtain ⟨m, hm, hmk, hm1, ht0, ht1⟩ := hm
    have hne : ¬ ((runS w s).length : Int) = 0 := by omega
    clear hpick
    generalize hL : runS w s = L at *
    simp only [if_neg hne]
    refine zS ?_
    simp only [hm]
    have hfl := fin_len w s m hl
    repeat' first
    | ((with_reducible refine awp_seqQ ?_); intro _ _)
    | ((with_reducible refine awp_region ?_); refine zS ?_)
    | ((with_reducible refine AWP_c ?_); refine zcdN ?_ ?_ <;> intro hb hb2 <;> first | contradiction | (exfalso; omega) | ((try refine zH hb2 ?_); try clear hb2))
    | ((with_reducible refine AWP_c ?_); refine zcdD ?_ ?_ <;> intro hb hb2 <;> first | contradiction | (exfalso; omega) | ((try refine zH hb2 ?_); try clear hb2))
    | ((with_reducible refine awp_skip ?_); try refine zS ?_)
    | with_reducible refine awp_block ?_
    | ((with_reducible refine CallK_id ?_); refine zcF ?_; refine ⟨_, by first | exact finish_ok w s m hz hl | fail, ?_⟩; refine ⟨fun _ => by (first | rfl | simp only [go_sem]; done), fun _ => by (first | rfl | simp only [go_sem]; done), by (first | rfl | (simp [okAs, okA, okCs, okC, okC_st, go_sem]; done)), ?_⟩; try refine zS ?_)
    | ((with_reducible refine awp_ret ?_); refine q_step (by assumption) ?_)
    | with_reducible refine fin_r ?_
    | ((with_reducible refine q_step (by assumption) ?_); try refine zS ?_)
    rotate_left
    · exact absurd (fin_run hr hw g2 hmk hm1 ‹_›).1 ‹_›
    focus
      have hcg := (fin_run hr hw g2 hmk hm1 ‹_›).2
      generalize (finS w s m).1 = t at *
    rotate_left
    focus
      have hk : (gt w.kids m).kind = 12 := ‹_›
      have hgo2 := gate_outs hr (by omega) hk (g2.gk m (by omega) hk hm1)
      have hne2 : ¬ ((gt w.kids m).conds.length : Int) = 0 := by omega
      have hch : ∀ p : Int, 0 ≤ p → ∃ o : Int, p.tmod (gt w.kids m).conds.length = o ∧ 0 ≤ o ∧ o < (gt w.kids m).conds.length := fun p h0 => ⟨_, rfl, tmod_in h0 hgo2.2⟩
      have ho := by first | exact hch (gt ps j) (by omega) | exact hch j (by omega)
      obtain ⟨o, ho, ho1⟩ := ho
      clear hch
      have hcg := cho_run hr hw g2 hmk hm1 hk ho1
      have hcl := cho_len w s m o hl
      refine awp_drawhA [false, false, false, true] (by rfl) (by simp only [go_sem, Bool.not_not, List.mem_singleton, forall_eq, ↓reduceIte, if_pos, rowsAt_map, wrap64, wrapu8, List.getElem?_cons_zero, List.getElem?_cons_succ, Int.reduceToNat, Nat.reduceAdd, Nat.reduceBEq, Bool.or_false, Bool.false_or, Bool.true_or, Nat.reduceSub, Nat.reduceMul, Int.reduceAdd, Int.reduceEq, Int.reduceLT, Int.reduceLE, Int.reduceNeg, Nat.reduceLT, Nat.reduceLeDiff, Nat.reduceEqDiff]; first | done | rfl | decide) ?_
      refine zT ?_
      refine zS ?_
      simp only [if_neg hne2, ho]
      refine zS ?_
      repeat' first
      | ((with_reducible refine awp_seqQ ?_); intro _ _)
      | ((with_reducible refine awp_region ?_); refine zS ?_)
      | ((with_reducible refine DStep_id ?_); refine zdP ?_; refine ⟨_, by first | exact choose_ok w s m o hz hl | fail, ?_⟩; refine ⟨fun _ => by (first | rfl | simp only [go_sem]; done), fun _ => by (first | rfl | simp only [go_sem]; done), by (first | rfl | (simp [okAs, okA, okCs, okC, okC_st, go_sem]; done)), (fun h => by first | (cases h; done) | (cases h; simp [go_sem, visA, visCs, visC]; done)), ?_⟩; try refine zS ?_)
      | ((with_reducible refine AWP_c ?_); refine zcdN ?_ ?_ <;> intro hb hb2 <;> first | contradiction | (exfalso; omega) | ((try refine zH hb2 ?_); try clear hb2))
      | ((with_reducible refine awp_skip ?_); try refine zS ?_)
      | with_reducible refine awp_block ?_
      | ((with_reducible refine q_step (by assumption) ?_); try refine zS ?_)
      all_goals try exact absurd hcg.1 ‹_›
      replace hcg := hcg.2
      generalize (choS w s m o).1 = t at *
    all_goals
      obtain ⟨htr, htm, htu⟩ := hcg
      have htl := htr.len
      refine awp_loopT (fun k : Nat => k ≤ 40) (fun k => 40 - k) (fun k => [(74, .any), (78, .any), (88, .any), (101, .any), (108, aI k)]) (fun _ => [some (.box w.bs), some (.box [.d (dI (largeB w 600 1).2)]), Sb s, Sb t]) 0 (by simp) (by exact zwl) ?_
      intro k h2
      refine zT ?_
      repeat' first
      | ((with_reducible refine awp_seqQ ?_); intro _ _)
      | ((with_reducible refine awp_region ?_); refine zS ?_)
      | ((with_reducible refine Gd_nd ?_ ?_) <;> intro hb hb2 <;> first | contradiction | (exfalso; omega) | (refine zH hb2 ?_; try clear hb2))
      | ((with_reducible refine AWP_c ?_); refine zcdF ?_)
      | ((with_reducible refine AWP_c ?_); refine zcdN ?_ ?_ <;> intro hb hb2 <;> first | contradiction | (exfalso; omega) | ((try refine zH hb2 ?_); try clear hb2))
      | ((with_reducible refine AWP_c ?_); refine zcdD ?_ ?_ <;> intro hb hb2 <;> first | contradiction | (exfalso; omega) | ((try refine zH hb2 ?_); try clear hb2))
      | ((with_reducible refine awp_skip ?_); try refine zS ?_)
      | with_reducible refine awp_block ?_
      | ((with_reducible refine awp_exit ?_); try refine zS ?_)
      | ((with_reducible refine awp_ret ?_); refine q_step (by assumption) ?_)
      | with_reducible refine fin_r ?_
      | ((with_reducible refine q_step (by assumption) ?_); try refine zS ?_)
      all_goals first
        | (exfalso; have := htm.lk k (by omega); omega)
        | exact ⟨k + 1, by omega, by omega, (by exact zwc 4)⟩
        | skip
      refine awp_loopT (fun i : Nat => i ≤ 64) (fun i => 64 - i) (fun i => [(74, .any), (78, .any), (88, .any), (101, .any), (125, aI i)]) (fun _ => [some (.box w.bs), some (.box [.d (dI (largeB w 600 1).2)]), Sb s, Sb t]) 0 (by simp) (by exact zwl) ?_
      intro i h3
      refine zT ?_
      repeat' first
      | ((with_reducible refine awp_seqQ ?_); intro _ _)
      | ((with_reducible refine awp_region ?_); refine zS ?_)
      | ((with_reducible refine Gd_nd ?_ ?_) <;> intro hb hb2 <;> first | contradiction | (exfalso; omega) | (refine zH hb2 ?_; try clear hb2))
      | ((with_reducible refine Gd_d ?_ ?_) <;> intro hb hb2 <;> first | contradiction | (exfalso; omega) | (refine zH hb2 ?_; try clear hb2))
      | ((with_reducible refine AWP_c ?_); refine zcdT ?_)
      | ((with_reducible refine AWP_c ?_); refine zcdF ?_)
      | ((with_reducible refine AWP_c ?_); refine zcdN ?_ ?_ <;> intro hb hb2 <;> first | contradiction | (exfalso; omega) | ((try refine zH hb2 ?_); try clear hb2))
      | ((with_reducible refine AWP_c ?_); refine zcdD ?_ ?_ <;> intro hb hb2 <;> first | contradiction | (exfalso; omega) | ((try refine zH hb2 ?_); try clear hb2))
      | ((with_reducible refine awp_skip ?_); try refine zS ?_)
      | with_reducible refine awp_block ?_
      | ((with_reducible refine awp_exit ?_); try refine zS ?_)
      | ((with_reducible refine awp_ret ?_); refine q_step (by assumption) ?_)
      | with_reducible refine fin_r ?_
      | ((with_reducible refine q_step (by assumption) ?_); try refine zS ?_)
      all_goals first
        | (exfalso; have := htm.kd i (by omega); have := htm.rn i (by omega); omega)
        | exact ⟨i + 1, by omega, by omega, (by exact zwc 4)⟩
        | exact ⟨(j + 1, t), ⟨by simp only; omega, htr⟩, by simp only; omega, (by exact zwc 3)⟩
        | trace_state
theorem lawE_ok (w : B) (ps : List Int) (hp : ps.length < 4611686018427387904) : AFn env 3 [w.a, aF (ps.map iRow)] [] (aB true) [] := by
  cases hr : rgtW w with
  | false => exact lawE0_ok w ps hp hr
  | true => exact lawE1_ok w ps hp hr
end Go.Eng
open Go Go.Proofs Go.RowKit
namespace Go.Eng
set_option linter.unusedSimpArgs false
set_option linter.unusedVariables false
set_option maxRecDepth 100000

section
variable {H : Type} {enc : TypeId × Value → H} {W : World} {F : Nat → Prop} {base : Nat} {spare : Nat → Bool} {held : Bool}
theorem opD_T (hF : ∀ a u, W.cell? a = some u → F a.block) : ∀ n, OpD enc Tryd.prog W F base spare held 24 T.row (fun _ => True) n := by
  refine opD_fix (fun n ih => ?_)
  have hk : ∀ m, m < n → OpD enc Tryd.prog W F base spare held 22 (fun xs : List T => [.fz (xs.map T.row)]) _ m := fun m hm => opD_slice (s := 3) (B := 40) hF Tryd.underlying22 (by kernel_rfl) (by kernel_rfl) (by decide) (fun a => by cases a; rfl) (fun m' hm' => ih m' (by omega))
  refine opD_imp (opD_struct (β := T) (g := fun x : Int × Int × List T × Unit => .mk x.1 x.2.1 x.2.2.1) (f := fun t => (t.op, t.n, t.kids, ())) Tryd.underlying24 (by kernel_rfl) (fun a => rfl) (fun m hm => opDF_cons (s := 1) rfl (by kernel_rfl) (opD_int Tryd.underlying3) (opDF_cons (s := 1) rfl (by kernel_rfl) (opD_int Tryd.underlying3) (opDF_cons (s := 1) rfl (by kernel_rfl) (hk m hm) opDF_nil)))) (fun t => ?_) (fun _ _ => trivial)
  rw [T.row_eq]; rfl
theorem opD_Ts (hF : ∀ a u, W.cell? a = some u → F a.block) (n : Nat) : OpD enc Tryd.prog W F base spare held 22 (fun xs : List T => [.fz (xs.map T.row)]) (fun _ => True) n :=
  opD_imp (opD_slice (s := 3) (B := 40) hF Tryd.underlying22 (by kernel_rfl) (by kernel_rfl) (by decide) (fun a => by cases a; rfl) (fun m' _ => opD_T hF m')) (fun _ => rfl) (fun _ _ => trivial)
theorem opD_Nd (hF : ∀ a u, W.cell? a = some u → F a.block) (n : Nat) : OpD enc Tryd.prog W F base spare held 54 Nd.row (fun _ => True) n := by
  refine opD_imp (opD_struct (β := Nd) (g := fun x : Int × Int × T × Unit => ⟨x.1, x.2.1, x.2.2.1⟩) (f := fun d => (d.kind, d.x, d.t, ())) Tryd.underlying54 (by kernel_rfl) (fun a => rfl) (fun m hm => opDF_cons (s := 1) rfl (by kernel_rfl) (opD_int Tryd.underlying3) (opDF_cons (s := 1) rfl (by kernel_rfl) (opD_int Tryd.underlying3) (opDF_cons (s := 3) rfl (by kernel_rfl) (opD_T hF m) opDF_nil)))) (fun t => ?_) (fun _ _ => trivial)
  simp only [T.row_eq]; rfl
theorem opD_Fl (hF : ∀ a u, W.cell? a = some u → F a.block) (n : Nat) : OpD enc Tryd.prog W F base spare held 56 Fl.row (fun _ => True) n := by
  refine opD_imp (opD_struct (β := Fl) (g := fun x : Int × Int × Bool × T × Unit => ⟨x.1, x.2.1, x.2.2.1, x.2.2.2.1⟩) (f := fun d => (d.src, d.dst, d.els, d.t, ())) Tryd.underlying56 (by kernel_rfl) (fun a => rfl) (fun m hm => opDF_cons (s := 1) rfl (by kernel_rfl) (opD_int Tryd.underlying3) (opDF_cons (s := 1) rfl (by kernel_rfl) (opD_int Tryd.underlying3) (opDF_cons (s := 1) rfl (by kernel_rfl) (opD_bool Tryd.underlying4) (opDF_cons (s := 3) rfl (by kernel_rfl) (opD_T hF m) opDF_nil))))) (fun t => ?_) (fun _ _ => trivial)
  simp only [T.row_eq]; rfl
theorem opD_Lk (n : Nat) : OpD enc Tryd.prog W F base spare held 58 Lk.row (fun _ => True) n := by
  refine opD_imp (opD_struct (β := Lk) (g := fun x : Int × Int × Unit => ⟨x.1, x.2.1⟩) (f := fun d => (d.src, d.dst, ())) Tryd.underlying58 (by kernel_rfl) (fun a => rfl) (fun m hm => opDF_cons (s := 1) rfl (by kernel_rfl) (opD_int Tryd.underlying3) (opDF_cons (s := 1) rfl (by kernel_rfl) (opD_int Tryd.underlying3) opDF_nil))) (fun t => rfl) (fun _ _ => trivial)
theorem opD_Nt (hF : ∀ a u, W.cell? a = some u → F a.block) (n : Nat) : OpD enc Tryd.prog W F base spare held 30 (fun x : List Nd × List Fl => [.fz (x.1.map Nd.row), .fz (x.2.map Fl.row)]) (fun _ => True) n := by
  have h1 : ∀ m, OpD enc Tryd.prog W F base spare held 27 (fun xs : List Nd => [.fz (xs.map Nd.row)]) _ m := fun m => opD_slice (s := 5) (B := 56) hF Tryd.underlying27 (by kernel_rfl) (by kernel_rfl) (by decide) (fun a => rfl) (fun m' _ => opD_Nd hF m')
  have h2 : ∀ m, OpD enc Tryd.prog W F base spare held 28 (fun xs : List Fl => [.fz (xs.map Fl.row)]) _ m := fun m => opD_slice (s := 6) (B := 64) hF Tryd.underlying28 (by kernel_rfl) (by kernel_rfl) (by decide) (fun a => rfl) (fun m' _ => opD_Fl hF m')
  exact opD_imp (opD_struct (β := List Nd × List Fl) (g := fun x : List Nd × List Fl × Unit => (x.1, x.2.1)) (f := fun d => (d.1, d.2, ())) Tryd.underlying30 (by kernel_rfl) (fun a => rfl) (fun m hm => opDF_cons (s := 1) rfl (by kernel_rfl) (h1 m) (opDF_cons (s := 1) rfl (by kernel_rfl) (h2 m) opDF_nil))) (fun t => rfl) (fun _ _ => trivial)
theorem opD_B (hF : ∀ a u, W.cell? a = some u → F a.block) : ∀ n, OpD enc Tryd.prog W F base spare held 32 B.row (fun _ => True) n := by
  refine opD_fix (fun n ih => ?_)
  have hk : ∀ m, m < n → OpD enc Tryd.prog W F base spare held 25 (fun xs : List B => [.fz (xs.map B.row)]) _ m := fun m hm => opD_slice (s := 12) (B := 192) hF Tryd.underlying25 (by kernel_rfl) (by kernel_rfl) (by decide) (fun a => by cases a; rfl) (fun m' hm' => ih m' (by omega))
  have hl : ∀ m, OpD enc Tryd.prog W F base spare held 26 (fun xs : List Lk => [.fz (xs.map Lk.row)]) _ m := fun m => opD_slice (s := 2) (B := 16) hF Tryd.underlying26 (by kernel_rfl) (by kernel_rfl) (by decide) (fun a => rfl) (fun m' _ => opD_Lk m')
  refine opD_imp (opD_struct (β := B) (g := fun x : Int × Int × Int × Int × T × List T × List B × List Lk × (List Nd × List Fl) × Unit => .mk x.1 x.2.1 x.2.2.1 x.2.2.2.1 x.2.2.2.2.1 x.2.2.2.2.2.1 x.2.2.2.2.2.2.1 x.2.2.2.2.2.2.2.1 x.2.2.2.2.2.2.2.2.1.1 x.2.2.2.2.2.2.2.2.1.2) (f := fun b => (b.kind, b.node, b.x, b.y, b.t, b.conds, b.kids, b.links, (b.nodes, b.flows), ())) Tryd.underlying32 (by kernel_rfl) (fun a => rfl)
    (fun m hm => opDF_cons (s := 1) rfl (by kernel_rfl) (opD_int Tryd.underlying3) (opDF_cons (s := 1) rfl (by kernel_rfl) (opD_int Tryd.underlying3) (opDF_cons (s := 1) rfl (by kernel_rfl) (opD_int Tryd.underlying3) (opDF_cons (s := 1) rfl (by kernel_rfl) (opD_int Tryd.underlying3)
      (opDF_cons (s := 3) rfl (by kernel_rfl) (opD_T hF m) (opDF_cons (s := 1) rfl (by kernel_rfl) (opD_Ts hF m) (opDF_cons (s := 1) rfl (by kernel_rfl) (hk m hm) (opDF_cons (s := 1) rfl (by kernel_rfl) (hl m) (opDF_cons (s := 2) rfl (by kernel_rfl) (opD_Nt hF m) opDF_nil)))))))))) (fun t => ?_) (fun _ _ => trivial)
  rw [B.row_eq]; simp only [T.row_eq]; rfl
end
def laid1 : List (String × DataW Unit) := [("treenail/term.words", Go.Proofs.YthodghlpcklaeaaDoor.Rows.laid_treenail_term_words)]
def wordVals : List Value := words.flatMap fun b => [.string (st b.text), .int .i64 b.kids, .int .i64 b.of, .int .i64 b.out]
theorem base_ok {W : World} (h : laidMetH Tryd.prog laid1 W) : (B0 W).ok env := by
  intro g
  match g with
  | 0 =>
    have hc := cells_of_laid rfl h (.head _) (g := 0) (by kernel_rfl) (t := 115) (by kernel_rfl) 8 wordVals (by kernel_rfl)
    exact vr_pa (s := 4) (by decide) (by kernel_rfl) (by kernel_rfl) (by decide) hc
  | g + 1 => exact .any _ rfl
end Go.Eng
