import Derived.Test.YtdaeiicdpfghlaaDoorSx0
import Derived.Test.YtdaeiicdpfghlaaDoorSx3
import Derived.Test.YtdaeiicdpfghlaaDoorSx5
import Derived.Test.YtdaeiicdpfghlaaDoorSx7
namespace Go.Proofs.YtdaeiicdpfghlaaDoor.R
open Go.RowKit Go.Proofs.YtdaeiicdpfghlaaDoorW.PrintWords Go.Proofs.YtdaeiicdpfghlaaDoorW.PrintLast Go.Proofs.YtdaeiicdpfghlaaDoorW.PrintMore
attribute [local go_sem] max2_int min2_int max_two min_two max_three min_three max_four min_four   -- for this text's walks alone
set_option linter.unusedVariables false
set_option linter.unusedSimpArgs false

mutual
def net_copied.l0 : Nat → List (S35) → Int → Int → Int → Int → List (S35) → Option (Int × Int × (List (S35)))
 | 0, _, _, _, _, _, _ => none
 | k + 1, x9, x10, x11, x489000, x489001, x489002 => if x11 < x10 then (if 0 ≤ x11 then (if x11 < (x9.length : Int) then ((net_copied.f k ((rd_T35 x9 x11).f0) ((rd_T35 x9 x11).f1) ((rd_T35 x9 x11).f2)).bind fun bt492 => (if x489002.length < 3518437208883 then (net_copied.l0 k x9 x10 (wrap64 (x11 + 1)) x489000 x489001 (x489002 ++ [(⟨bt492.1, bt492.2.1, bt492.2.2⟩ : S35)])) else (none))) else (none)) else (none)) else (some (x489000, x489001, x489002))
def net_copied.f : Nat → Int → Int → List (S35) → Option (Int × Int × (List (S35)))
 | 0, _, _, _ => none
 | k + 1, a0_0, a0_1, l0_2 => net_copied.l0 k l0_2 (l0_2.length : Int) 0 a0_0 a0_1 ([] : List (S35))
end
set_option maxRecDepth 100000 in
theorem net_copied.mono_l : ∀ k, (∀ y0 y1 y2, LeO (net_copied.f k y0 y1 y2) (net_copied.f (k + 1) y0 y1 y2)) ∧ (∀ y0 y1 y2 y3 y4 y5, LeO (net_copied.l0 k y0 y1 y2 y3 y4 y5) (net_copied.l0 (k + 1) y0 y1 y2 y3 y4 y5))
 | 0 => ⟨fun _ _ _ r h => by first | (cases h; done) | simp [net_copied.f] at h, fun _ _ _ _ _ _ r h => by first | (cases h; done) | simp [net_copied.l0] at h⟩
 | k + 1 => by
  obtain ⟨ih0, ih1⟩ := net_copied.mono_l k
  refine ⟨?_, ?_⟩
  all_goals intros
  all_goals first | unfold net_copied.f | unfold net_copied.l0
  all_goals repeat' first
  | (with_reducible exact ih0 _ _ _)
  | (with_reducible exact ih1 _ _ _ _ _ _)
  | (with_reducible exact LeO.refl _)
  | (with_reducible exact LeO.none _)
  | (with_reducible refine LeO.ite ?_ ?_)
  | (with_reducible refine LeO.bind ?_ (fun _ => ?_))
  | refine LeO.ite ?_ ?_
  | refine LeO.bind ?_ (fun _ => ?_)
set_option maxRecDepth 100000 in
theorem net_copied.mono : ∀ a0 a1 a2 k, LeO (net_copied.f k a0 a1 a2) (net_copied.f (k + 1) a0 a1 a2) := by
 intro a0 a1 a2 k
 obtain ⟨ih0, ih1⟩ := net_copied.mono_l k
 exact ih0 a0 a1 a2
def net_copied.T6 : Bool × List (List Nat × List Nat) := (true, [([], []), ([0], [0]), ([], []), ([2], [2]), ([3], [3]), ([1, 4, 3], [1, 4]), ([0, 1, 2, 3, 4, 5], []), ([6, 5, 5, 0, 1, 2, 3, 4, 5], [5, 6])])
def net_copied.B6 : List Nat := [0, 1, 0, 4, 12, 31, 63, 127]
theorem net_copied.tab6 : rtab .any (opsOf Tryd.f47 6) = net_copied.T6 := by kernel_rfl
theorem net_copied.bits6 : waitsOk net_copied.T6.2 net_copied.B6 = true := by kernel_rfl
set_option maxHeartbeats 8000000 in
set_option maxRecDepth 100000 in
theorem net_copied.calls (k : Nat) : ∀ (a0_0 : Int) (a0_1 : Int) (A0_2 : Option Addr) (c0_2 : Nat) (l0_2 : List (S35)) (r1 : Int) (r2 : Int) (r3 : List (S35)) (w : World) (hr0_2 : Kd.C k35 w A0_2 l0_2.length l0_2) (hc0_2 : l0_2.length ≤ c0_2) (h : net_copied.f k a0_0 a0_1 l0_2 = some (r1, r2, r3)),
  Calls Tryd.prog 47 #[.agg #[.int .i64 a0_0, .int .i64 a0_1, .slice A0_2 l0_2.length c0_2]] w fun e w' => ∃ v2_ : Value, e = .returned (.agg #[.int .i64 r1, .int .i64 r2, v2_]) ∧ Kd.R k35 35 w' w.heap.size (fun _ => True) v2_ r3 ∧ Below w.heap.size w w' := by
 induction k using Nat.strongRecOn with
 | _ k ih =>
 intro a0_0 a0_1 A0_2 c0_2 l0_2 r1 r2 r3 w hr0_2 hc0_2 h
 cases k with
 | zero => exact absurd h (by first | (intro h_; cases h_; done) | simp [net_copied.f])
 | succ k =>
 simp only [net_copied.f] at h
 have hu35 := Tryd.underlying35
 have HR0_2 := zm hr0_2
 have HC0_2 := zm hc0_2
 clear hr0_2 hc0_2
 have HB := zm (Below.refl w.heap.size w)
 have H : (net_copied.l0 k l0_2 (l0_2.length : Int) 0 a0_0 a0_1 ([] : List (S35))) = some (r1, r2, r3) := h
 clear h
 have H' := zm H
 clear H
 go_enter Tryd.func47, Tryd.ntmps47
 go_wp2_with (first | ((with_reducible refine gate_dst (N := 1) rfl ?_); refine box_event ?hg (N := 1) ?hd (cs := #[.int .i64 a0_0, .int .i64 a0_1, .slice A0_2 l0_2.length c0_2]) (t := 35) ?hr ?_; (case hd => rfl); (case hg => rfl); (case hr => first | (go_simp; done) | (go_simp; rfl)); intro gb488 hg w2 hbox hb; have BK488 := zm (hbox); have GW488 := zm ((by rw [hg]; exact (below_size (bx HB.out)) : w.heap.size ≤ gb488)); have GE488 := zm ((by rw [hg]; exact (below_size (bx HB.out)) : w.heap.size ≤ gb488)); replace HB := zm (below_step (bx HB.out) hb); clear hb hbox hg) | ((with_reducible refine gate_dst (N := 2) rfl ?_); refine box_event ?hg (N := 2) ?hd (cs := #[.int .i64 0, .int .i64 0, .slice none 0 0]) (t := 35) ?hr ?_; (case hd => rfl); (case hg => rfl); (case hr => first | (go_simp; done) | (go_simp; rfl)); intro gb489 hg w3 hbox hb; have BK489 := zm (hbox); have GW489 := zm ((by rw [hg]; exact (below_size (bx HB.out)) : w.heap.size ≤ gb489)); have GE489 := zm ((by rw [hg]; exact (below_size (bx HB.out)) : w.heap.size ≤ gb489)); replace HB := zm (below_step (bx HB.out) hb); have NB488_489 := zm ((by rw [hg]; exact Nat.ne_of_lt (blk_lt (g := gb488) (o := .cells #[.int .i64 a0_0, .int .i64 a0_1, .slice A0_2 l0_2.length c0_2] 35 (0, 0)) (kx BK488.out)) : gb488 ≠ gb489)); have NB489_488 := zm ((by rw [hg]; exact Nat.ne_of_gt (blk_lt (g := gb488) (o := .cells #[.int .i64 a0_0, .int .i64 a0_1, .slice A0_2 l0_2.length c0_2] 35 (0, 0)) (kx BK488.out)) : gb489 ≠ gb488)); replace BK488 := zm (kB (kx BK488.out) hb); clear hb hbox hg; have hnb4 := NB488_489.out; have hnc4 := NB489_488.out; have hcz5_0 := bc0 BK488.out; have hcz5_1 := bc1 BK488.out; have hcz5_2 := bc2 BK488.out; have hfz5_0 := bF BK488.out 0; have hfz5_1 := bF BK488.out 1; have hfz5_2 := bF BK488.out 2))
 go_loopg [11] k (fun kq v11 w' => ∃ (x11_1 : Int) (x489002_1 : List (S35)) (u489002 : Value), v11 = .int .i64 x11_1 ∧ Aside0 (net_copied.l0 kq l0_2 (l0_2.length : Int) x11_1 a0_0 a0_1 x489002_1 = some (r1, r2, r3)) ∧ Aside0 (kq ≤ k) ∧ Aside0 (Kd.R k35 35 w' w.heap.size (fun k_ => k_ ≠ gb488 ∧ k_ ≠ gb489) u489002 x489002_1) ∧ Aside0 (w'.heap[gb488]? = some (.cells #[.int .i64 a0_0, .int .i64 a0_1, u489002] 35 (0, 0))) ∧ Aside0 (w'.heap[gb489]? = some (.cells #[.int .i64 0, .int .i64 0, (.slice none 0 0)] 35 (0, 0))) ∧ Aside0 (Below w.heap.size w w'))
 case atStart => exact ⟨(0), (([] : List (S35))), (.slice none 0 0), (by first | rfl | (simp; done) | (simp [*]; done)), H', ⟨Nat.le_refl _⟩, ⟨by first | exact Kd.R_nil _ _ _ _ _ | exact Kd.N_nil _ _ _ _ _ | exact Kd.V_nil _ _ _ _ _ | exact Kd.Q_nil _ _ _ _ _ | exact Kd.S_nil _ _ _ _ _⟩, ⟨by (with_reducible repeat first | apply kN | apply kD | apply kA); refine blk_put (cs := #[.int .i64 a0_0, .int .i64 a0_1, .slice A0_2 l0_2.length c0_2]) ?_ 2 _ rfl; (with_reducible repeat first | apply kN | apply kD | apply kA); exact BK488.out⟩, ⟨by (with_reducible repeat first | apply kN | apply kD | apply kA); refine blk_far ?_ NB489_488.out _; (with_reducible repeat first | apply kN | apply kD | apply kA); exact BK489.out⟩, ⟨bx HB.out⟩⟩
 clear H'
 try clear p2
 try clear c4
 try clear BK488
 try clear BK489
 obtain ⟨x11_1, x489002_1, u489002, rfl, HA, HK1, HO_489002, BK488, BK489, HB⟩ := hrel
 cases gk with
 | zero => exact absurd HA.out (by first | (intro h_; cases h_; done) | simp [net_copied.l0])
 | succ k1 =>
  have H := HA.out
  clear HA
  simp only [net_copied.l0] at H
  by_cases c6 : x11_1 < (l0_2.length : Int)
  ·rw [if_pos c6] at H
   have c6b0 := decide_eq_true c6
   clear c6
   by_cases c7 : 0 ≤ x11_1
   ·rw [if_pos c7] at H
    have c7b0 := decide_eq_true c7
    clear c7
    by_cases c8 : x11_1 < (l0_2.length : Int)
    ·rw [if_pos c8] at H
     have c8b0 := decide_eq_true c8
     clear c8
     replace H := Option.bind_eq_some_iff.mp H
     obtain ⟨⟨t492, t493, t494⟩, A90, H⟩ := H
     replace H : (if x489002_1.length < 3518437208883 then (net_copied.l0 k1 l0_2 (l0_2.length : Int) (wrap64 (x11_1 + 1)) a0_0 a0_1 (x489002_1 ++ [(⟨t492, t493, t494⟩ : S35)])) else (none)) = some (r1, r2, r3) := H
     have A9 := zm A90
     clear A90
     by_cases c10 : x489002_1.length < 3518437208883
     ·rw [if_pos c10] at H
      have LMc10 := zm c10
      clear c10
      obtain ⟨y497, hy497⟩ : ∃ y_ : List (S35), y_ = (x489002_1 ++ [(⟨t492, t493, t494⟩ : S35)]) := ⟨_, rfl⟩
      replace H : (net_copied.l0 k1 l0_2 (l0_2.length : Int) (wrap64 (x11_1 + 1)) a0_0 a0_1 y497) = some (r1, r2, r3) := by first | (rw [hy497]; with_reducible exact H) | (have H2_ := (Option.bind_some _ _).symm.trans H; rw [hy497]; with_reducible exact H2_) | (have H2_ := (Option.bind_some _ _).symm.trans H; with_reducible exact H2_) | with_reducible exact H | (rw [hy497]; exact H) | exact H
      have Ny497 := zm hy497
      clear hy497
      have H' := zm H
      clear H
      have p490 : 0 ≤ (x11_1 : Int) := od
      have q490 : x11_1 < (l0_2.length : Int) := od
      obtain ⟨ad490, A490_2, c490_2, e490, hx490_0, hx490_1, hx490_2, hl490_2, hi490_2⟩ := at_T35 HR0_2.out x11_1 p490 q490
      cases e490
      replace hx490_0 := cb HB.out hx490_0
      replace hx490_1 := cb HB.out hx490_1
      replace hx490_2 := cb HB.out hx490_2
      have HR490_2 := zm hi490_2
      have HC490_2 := zm hl490_2
      clear hi490_2 hl490_2
      replace p490 := eq_true p490
      replace q490 := eq_true q490
      try go_wp2_with (first | ((with_reducible refine gate_dst (N := 5) rfl ?_); refine box_event ?hg (N := 5) ?hd (cs := #[.int .i64 0, .int .i64 0, .slice none 0 0]) (t := 35) ?hr ?_; (case hd => rfl); (case hg => rfl); (case hr => first | (go_simp; done) | (go_simp; rfl)); intro gb491 hg w11 hbox hb; replace HO_489002 := zm (Kd.R_below (Kd.R_elderB (rx HO_489002.out) gb491 (Nat.le_of_eq hg.symm)) hb); have BK491 := zm (hbox); have GW491 := zm ((by rw [hg]; exact (below_size (bx HB.out)) : w.heap.size ≤ gb491)); have GE491 := zm ((by rw [hg]; exact (below_size (bx HB.out)) : w.heap.size ≤ gb491)); replace HB := zm (below_step (bx HB.out) hb); have NB488_491 := zm ((by rw [hg]; exact Nat.ne_of_lt (blk_lt (g := gb488) (o := .cells #[.int .i64 a0_0, .int .i64 a0_1, u489002] 35 (0, 0)) (kx BK488.out)) : gb488 ≠ gb491)); have NB491_488 := zm ((by rw [hg]; exact Nat.ne_of_gt (blk_lt (g := gb488) (o := .cells #[.int .i64 a0_0, .int .i64 a0_1, u489002] 35 (0, 0)) (kx BK488.out)) : gb491 ≠ gb488)); replace BK488 := zm (kB (kx BK488.out) hb); have NB489_491 := zm ((by rw [hg]; exact Nat.ne_of_lt (blk_lt (g := gb489) (o := .cells #[.int .i64 0, .int .i64 0, .slice none 0 0] 35 (0, 0)) (kx BK489.out)) : gb489 ≠ gb491)); have NB491_489 := zm ((by rw [hg]; exact Nat.ne_of_gt (blk_lt (g := gb489) (o := .cells #[.int .i64 0, .int .i64 0, .slice none 0 0] 35 (0, 0)) (kx BK489.out)) : gb491 ≠ gb489)); replace BK489 := zm (kB (kx BK489.out) hb); clear hb hbox hg; have hnb12 := NB491_488.out; have hnc12 := NB488_491.out; have hnb13 := NB491_489.out; have hnc13 := NB489_491.out; have hcz14_0 := bc0 BK491.out; have hcz14_1 := bc1 BK491.out; have hcz14_2 := bc2 BK491.out; have hfz14_0 := bF BK491.out 0; have hfz14_1 := bF BK491.out 1; have hfz14_2 := bF BK491.out 2))
      have n0_ : Aside0 (Kd.R k35 35 (((w11.setCell ⟨gb491, 0, none⟩ (.int .i64 ((rd_T35 l0_2 x11_1).f0))).setCell ⟨gb491, 1, none⟩ (.int .i64 ((rd_T35 l0_2 x11_1).f1))).setCell ⟨gb491, 2, none⟩ (.slice A490_2 ((rd_T35 l0_2 x11_1).f2).length c490_2)) w.heap.size (fun k_ => k_ ≠ gb488 ∧ k_ ≠ gb489 ∧ k_ ≠ gb491) u489002 x489002_1) := ⟨rx (Kd.R_mono (Kd.R_far (p := ⟨gb491, 2, none⟩) (Kd.R_far (p := ⟨gb491, 1, none⟩) (Kd.R_far (p := ⟨gb491, 0, none⟩) (Kd.R_mono HO_489002.out (fun k_ hk => (⟨hk, hk.2⟩ : _ ∧ k_ ≠ gb491))) (fun _ hk => hk.2) (.int .i64 ((rd_T35 l0_2 x11_1).f0))) (fun _ hk => hk.2) (.int .i64 ((rd_T35 l0_2 x11_1).f1))) (fun _ hk => hk.2) (.slice A490_2 ((rd_T35 l0_2 x11_1).f2).length c490_2)) (fun _ hk => ⟨hk.1.1.1, ⟨hk.1.1.2, hk.1.2⟩⟩))⟩
      have n1_ : Aside0 ((((w11.setCell ⟨gb491, 0, none⟩ (.int .i64 ((rd_T35 l0_2 x11_1).f0))).setCell ⟨gb491, 1, none⟩ (.int .i64 ((rd_T35 l0_2 x11_1).f1))).setCell ⟨gb491, 2, none⟩ (.slice A490_2 ((rd_T35 l0_2 x11_1).f2).length c490_2)).heap[gb488]? = some (.cells #[.int .i64 a0_0, .int .i64 a0_1, u489002] 35 (0, 0))) := ⟨by (with_reducible repeat first | apply kN | apply kD | apply kA); refine blk_far ?_ NB488_491.out _; (with_reducible repeat first | apply kN | apply kD | apply kA); refine blk_far ?_ NB488_491.out _; (with_reducible repeat first | apply kN | apply kD | apply kA); refine blk_far ?_ NB488_491.out _; (with_reducible repeat first | apply kN | apply kD | apply kA); exact BK488.out⟩
      have n2_ : Aside0 ((((w11.setCell ⟨gb491, 0, none⟩ (.int .i64 ((rd_T35 l0_2 x11_1).f0))).setCell ⟨gb491, 1, none⟩ (.int .i64 ((rd_T35 l0_2 x11_1).f1))).setCell ⟨gb491, 2, none⟩ (.slice A490_2 ((rd_T35 l0_2 x11_1).f2).length c490_2)).heap[gb489]? = some (.cells #[.int .i64 0, .int .i64 0, .slice none 0 0] 35 (0, 0))) := ⟨by (with_reducible repeat first | apply kN | apply kD | apply kA); refine blk_far ?_ NB489_491.out _; (with_reducible repeat first | apply kN | apply kD | apply kA); refine blk_far ?_ NB489_491.out _; (with_reducible repeat first | apply kN | apply kD | apply kA); refine blk_far ?_ NB489_491.out _; (with_reducible repeat first | apply kN | apply kD | apply kA); exact BK489.out⟩
      have n3_ : Aside0 ((((w11.setCell ⟨gb491, 0, none⟩ (.int .i64 ((rd_T35 l0_2 x11_1).f0))).setCell ⟨gb491, 1, none⟩ (.int .i64 ((rd_T35 l0_2 x11_1).f1))).setCell ⟨gb491, 2, none⟩ (.slice A490_2 ((rd_T35 l0_2 x11_1).f2).length c490_2)).heap[gb491]? = some (.cells #[.int .i64 ((rd_T35 l0_2 x11_1).f0), .int .i64 ((rd_T35 l0_2 x11_1).f1), .slice A490_2 ((rd_T35 l0_2 x11_1).f2).length c490_2] 35 (0, 0))) := ⟨by (with_reducible repeat first | apply kN | apply kD | apply kA); refine blk_put (cs := #[.int .i64 ((rd_T35 l0_2 x11_1).f0), .int .i64 ((rd_T35 l0_2 x11_1).f1), .slice none 0 0]) ?_ 2 _ rfl; (with_reducible repeat first | apply kN | apply kD | apply kA); refine blk_put (cs := #[.int .i64 ((rd_T35 l0_2 x11_1).f0), .int .i64 0, .slice none 0 0]) ?_ 1 _ rfl; (with_reducible repeat first | apply kN | apply kD | apply kA); refine blk_put (cs := #[.int .i64 0, .int .i64 0, .slice none 0 0]) ?_ 0 _ rfl; (with_reducible repeat first | apply kN | apply kD | apply kA); exact BK491.out⟩
      have n4_ : Aside0 (Below w.heap.size w (((w11.setCell ⟨gb491, 0, none⟩ (.int .i64 ((rd_T35 l0_2 x11_1).f0))).setCell ⟨gb491, 1, none⟩ (.int .i64 ((rd_T35 l0_2 x11_1).f1))).setCell ⟨gb491, 2, none⟩ (.slice A490_2 ((rd_T35 l0_2 x11_1).f2).length c490_2))) := ⟨bx HB.out⟩
      (try clear HO_489002)
      (try clear BK488)
      (try clear BK489)
      (try clear BK491)
      (try clear HB)
      generalize (((w11.setCell ⟨gb491, 0, none⟩ (.int .i64 ((rd_T35 l0_2 x11_1).f0))).setCell ⟨gb491, 1, none⟩ (.int .i64 ((rd_T35 l0_2 x11_1).f1))).setCell ⟨gb491, 2, none⟩ (.slice A490_2 ((rd_T35 l0_2 x11_1).f2).length c490_2)) = w15 at n0_ n1_ n2_ n3_ n4_ ⊢
      have HO_489002 := n0_
      have BK488 := n1_
      have BK489 := n2_
      have BK491 := n3_
      have HB := n4_
      clear n0_ n1_ n2_ n3_ n4_
      replace HO_489002 := zm (Kd.R_drew HO_489002.out)
      replace BK488 := zm (blk_drew BK488.out)
      replace BK489 := zm (blk_drew BK489.out)
      replace BK491 := zm (blk_drew BK491.out)
      replace HB := zm (below_drew1 HB.out)
      refine start_ (n := 8) (S := fun w' => w'.cell? ⟨gb488, 0, none⟩ = some (.int .i64 a0_0) ∧ w'.cell? ⟨gb488, 1, none⟩ = some (.int .i64 a0_1) ∧ w'.cell? ⟨gb488, 2, none⟩ = some (u489002) ∧ w'.cell? ⟨gb491, 0, none⟩ = some (.int .i64 ((rd_T35 l0_2 x11_1).f0)) ∧ w'.cell? ⟨gb491, 1, none⟩ = some (.int .i64 ((rd_T35 l0_2 x11_1).f1)) ∧ w'.cell? ⟨gb491, 2, none⟩ = some (.slice A490_2 ((rd_T35 l0_2 x11_1).f2).length c490_2)) (ds := [7]) #[Z,Z,Z,Z,Z,Z,Z,Z] (by kernel_rfl) rfl rfl ⟨bc0 BK488.out, bc1 BK488.out, bc2 BK488.out, bc0 BK491.out, bc1 BK491.out, bc2 BK491.out⟩ (fun hHeld => ?_); refine with_tabW net_copied.tab6 net_copied.bits6 (fun HT_ HW_ => ?_)
      generalize w15.drew = w16 at HO_489002 BK488 BK489 BK491 HB hHeld ⊢
      refine pure_ (i := 0) (N := some 15) (v := ?_) (a' := ?_) #[Y,Z,Z,Z,Z,Z,Z,Z] rfl rfl (any_of HT_.out (by kernel_rfl)) (fun _ _ _ h => h) (Or.inl ⟨by rfl, ?_⟩) ?_ ?_
      rotate_left
      ·intro w'
       go_simp
       with_reducible rfl
      rotate_left
      ·simp only [Act.put, sS, sZ, sC, i64_w, i32_w]
       rfl
      refine take_ (i := 1) (N := some 16) (v := ?_) (a' := ?_) #[Y,Y,Z,Z,Z,Z,Z,Z] rfl rfl (take_ofW HT_.out HW_.out (by kernel_rfl)) (fun _ _ _ h => h) (Or.inl ⟨by rfl, ?_⟩) hHeld ?_ ?_
      rotate_left
      ·rintro w' ⟨s0, s1, s2, s3, s4, s5⟩
       go_simp
       with_reducible rfl
      rotate_left
      ·simp only [Act.put, sS, sZ, sC, i64_w, i32_w]
       rfl
      refine take_ (i := 2) (N := some 17) (v := ?_) (a' := ?_) #[Y,Y,Y,Z,Z,Z,Z,Z] rfl rfl (take_ofW HT_.out HW_.out (by kernel_rfl)) (fun _ _ _ h => h) (Or.inl ⟨by rfl, ?_⟩) hHeld ?_ ?_
      rotate_left
      ·rintro w' ⟨s0, s1, s2, s3, s4, s5⟩
       go_simp
       with_reducible rfl
      rotate_left
      ·simp only [Act.put, sS, sZ, sC, i64_w, i32_w]
       rfl
      refine one_ (i := 3) (N := some 18) #[Y,Y,Y,Y,Z,Z,Z,Z] rfl rfl (one_of HT_.out (by kernel_rfl)) (by decide) (fun K hK => ?_)
      refine goes_ Tryd.func47 (by kernel_rfl) rfl #[.agg #[.int .i64 ((rd_T35 l0_2 x11_1).f0), .int .i64 ((rd_T35 l0_2 x11_1).f1), .slice A490_2 ((rd_T35 l0_2 x11_1).f2).length c490_2]] (by rfl) rfl rfl ag ?_
      with_reducible refine (ih k1 (by have := HK1.out; omega) ((rd_T35 l0_2 x11_1).f0) ((rd_T35 l0_2 x11_1).f1) _ _ ((rd_T35 l0_2 x11_1).f2) t492 t493 t494 _ ?side1 ?side2 A9.out).mono ?_
      (case side1 => exact cx (Kd.C_below HR490_2.out HB.out))
      (case side2 => exact HC490_2.out)
      rintro e w17 ⟨v495, rfl, ho0, hb⟩
      refine ⟨_, rfl, ?_⟩
      have HO496 := zm (Kd.R_lower (Kd.R_newB (Kd.R_newB (Kd.R_newB (Kd.R_new' ho0 (Kd.R_lt (rx HO_489002.out))) (g := gb488) (o := .cells #[.int .i64 a0_0, .int .i64 a0_1, u489002] 35 (0, 0)) (kx BK488.out)) (g := gb489) (o := .cells #[.int .i64 0, .int .i64 0, .slice none 0 0] 35 (0, 0)) (kx BK489.out)) (g := gb491) (o := .cells #[.int .i64 ((rd_T35 l0_2 x11_1).f0), .int .i64 ((rd_T35 l0_2 x11_1).f1), .slice A490_2 ((rd_T35 l0_2 x11_1).f2).length c490_2] 35 (0, 0)) (kx BK491.out)) (below_size (bx HB.out)))
      replace HO_489002 := zm (Kd.R_elder' (rx HO_489002.out) (by first | exact Kd.R_base ho0 | exact Kd.N_base ho0 | exact Kd.S_base ho0 | exact Kd.R_base ho0) hb)
      replace BK488 := zm (kB (kx BK488.out) hb)
      replace BK489 := zm (kB (kx BK489.out) hb)
      replace BK491 := zm (kB (kx BK491.out) hb)
      replace HB := zm (below_step (bx HB.out) hb)
      (try clear hb)
      (try clear hb2)
      (try clear hk)
      (try clear hi)
      (try clear ho0)
      obtain ⟨Ao19, co19, eo19⟩ := Kd.R_slice HO496.out
      (first | subst eo19 | (injection eo19 with f1_ f2_ f3_; have f4_ := f1_.symm; have f5_ := f3_.symm; clear f1_ f2_ f3_; subst f4_; subst f5_))
      refine hK.out _ _ ⟨bc0 BK488.out, bc1 BK488.out, bc2 BK488.out, bc0 BK491.out, bc1 BK491.out, bc2 BK491.out⟩ (fun hHeld => ?_)
      clear hK K
      refine norm_ (a' := ?_) ?_ ?_
      rotate_left
      ·show Act.put _ (some 18) _ = _
       simp only [Act.put, sS, sZ, sC, i64_w, i32_w]
       rfl
      refine one_ (i := 4) (N := some 19) #[Y,Y,Y,Y,Y,Z,Z,Z] rfl rfl (one_of HT_.out (by kernel_rfl)) (by decide) (fun K hK => ?_)
      refine value_ (w1 := ?_) (v := ?_) (by rfl) rfl ?_ ?_
      rotate_left 2
      ·go_simp
       constructor
       ·rfl
       rfl
      refine hK.out _ _ ⟨(blk_cell (blk_alloc BK488.out _) 0).trans rfl, (blk_cell (blk_alloc BK488.out _) 1).trans rfl, (blk_cell (blk_alloc BK488.out _) 2).trans rfl, (blk_cell (blk_alloc BK491.out _) 0).trans rfl, (blk_cell (blk_alloc BK491.out _) 1).trans rfl, (blk_cell (blk_alloc BK491.out _) 2).trans rfl⟩ (fun hHeld => ?_)
      clear hK K
      refine norm_ (a' := ?_) ?_ ?_
      rotate_left
      ·show Act.put _ (some 19) _ = _
       simp only [Act.put, sS, sZ, sC, i64_w, i32_w]
       rfl
      refine one_ (i := 5) (N := some 20) #[Y,Y,Y,Y,Y,Y,Z,Z] rfl rfl (one_of HT_.out (by kernel_rfl)) (by decide) (fun K hK => ?_)
      refine Kd.R_append_step k35 (w0 := w) w.heap.size (by rfl) (.tmp 16) (.tmp 19) 33 35 (.agg #[(.int .i64 0), (.int .i64 0), (.slice none 0 0)]) 40 rfl Tryd.underlying33 info35 rfl (by decide) (by omega) u489002 x489002_1 (⟨t492, t493, t494⟩ : S35) [.int .i64 t492, .int .i64 t493, .slice Ao19 t494.length co19] (fun k_ => k_ ≠ gb488 ∧ k_ ≠ gb489 ∧ k_ ≠ gb491) (fun k_ => ((fun k_ => k_ ≠ gb488 ∧ k_ ≠ gb489 ∧ k_ ≠ gb491)) k_ ∧ some k_ ≠ (u489002 : Value).ownBlock) rfl rfl ?aP (fun _ hk => hk) ?aF ?aO ?aB ?aS ?aL ?_
      (case aP => exact k35_mkM _ _ _ (⟨t492, t493, t494⟩ : S35) (Kd.R_mono (HO496.out) (fun k_ hk => ⟨⟨hk.1.1.2, ⟨hk.1.2, hk.2⟩⟩, hk.1.1.1.2⟩)))
      (case aB => exact (bx HB.out))
      (case aF => exact (fun k_ hk => ⟨Kd.freshB (g := gb488) (o := .cells #[.int .i64 a0_0, .int .i64 a0_1, u489002] 35 (0, 0)) (kx BK488.out) k_ hk, Kd.freshB (g := gb489) (o := .cells #[.int .i64 0, .int .i64 0, .slice none 0 0] 35 (0, 0)) (kx BK489.out) k_ hk, Kd.freshB (g := gb491) (o := .cells #[.int .i64 ((rd_T35 l0_2 x11_1).f0), .int .i64 ((rd_T35 l0_2 x11_1).f1), .slice A490_2 ((rd_T35 l0_2 x11_1).f2).length c490_2] 35 (0, 0)) (kx BK491.out) k_ hk⟩))
      (case aO => exact (rx (Kd.R_mono HO_489002.out (fun _ hk => ⟨hk.1.1, ⟨hk.1.2.1, hk.1.2.2⟩⟩))))
      (case aS => exact (below_size (bx HB.out)))
      (case aL => have := LMc10.out; omega)
      intro v498 w18 ho hb hg hat
      rw [← Ny497.out] at ho
      replace BK488 := zm (blk_grown (g := gb488) (o := .cells #[.int .i64 a0_0, .int .i64 a0_1, u489002] 35 (0, 0)) (kx BK488.out) hg (Kd.R_away HO_489002.out (fun _ hk => hk.1.1)))
      replace BK489 := zm (blk_grown (g := gb489) (o := .cells #[.int .i64 0, .int .i64 0, .slice none 0 0] 35 (0, 0)) (kx BK489.out) hg (Kd.R_away HO_489002.out (fun _ hk => hk.1.2.1)))
      replace BK491 := zm (blk_grown (g := gb491) (o := .cells #[.int .i64 ((rd_T35 l0_2 x11_1).f0), .int .i64 ((rd_T35 l0_2 x11_1).f1), .slice A490_2 ((rd_T35 l0_2 x11_1).f2).length c490_2] 35 (0, 0)) (kx BK491.out) hg (Kd.R_away HO_489002.out (fun _ hk => hk.1.2.2)))
      replace HB := zm (hb)
      have HO499 := zm (ho)
      clear HO_489002 HO496 ho hb hg hat
      obtain ⟨Ao20, co20, eo20⟩ := Kd.R_slice HO499.out
      (first | subst eo20 | (injection eo20 with f1_ f2_ f3_; have f4_ := f1_.symm; have f5_ := f3_.symm; clear f1_ f2_ f3_; subst f4_; subst f5_))
      refine hK.out _ _ ⟨bc0 BK488.out, bc1 BK488.out, bc2 BK488.out, bc0 BK491.out, bc1 BK491.out, bc2 BK491.out⟩ (fun hHeld => ?_)
      clear hK K
      refine norm_ (a' := ?_) ?_ ?_
      rotate_left
      ·show Act.put _ (some 20) _ = _
       simp only [Act.put, sS, sZ, sC, i64_w, i32_w]
       rfl
      refine pure_ (i := 6) (N := some 21) (v := ?_) (a' := ?_) #[Y,Y,Y,Y,Y,Y,Y,Z] rfl rfl (any_of HT_.out (by kernel_rfl)) (fun _ _ _ h => h) (Or.inl ⟨by rfl, ?_⟩) ?_ ?_
      rotate_left
      ·intro w'
       go_simp
       with_reducible rfl
      rotate_left
      ·simp only [Act.put, sS, sZ, sC, i64_w, i32_w]
       rfl
      refine last_ (i := 7) (N := none) #[Y,Y,Y,Y,Y,Y,Y,Y] rfl rfl (one_of HT_.out (by kernel_rfl)) (by decide) (fun K hK => ?_)
      have hs21 : w18.cell? ⟨gb488, 2, none⟩ = some (u489002) := bc2 BK488.out
      have hfs21 := bF BK488.out 2
      have hns21_1 := NB489_488.out
      have hns21_2 := NB491_488.out
      have hms21_1 := NB488_489.out
      have hms21_2 := NB488_491.out
      refine skip_ (w1 := ?_) (by rfl) rfl ?_ ?_
      rotate_left
      ·go_simp
       rfl
      refine hK.out _ _ ?_
      clear hK K
      refine done_ (done_of HT_.out (by kernel_rfl)) ?_
      try go_wp2
      go_roundg k1
      case measure => have := HK1.out; omega
      case rel => exact ⟨(wrap64 (x11_1 + 1)), (y497), (.slice Ao20 y497.length co20), (by first | rfl | (simp; done) | (simp [*]; done)), H', ⟨by have := HK1.out; omega⟩, ⟨rx (Kd.R_mono (Kd.R_far (p := ⟨gb488, 2, none⟩) (Kd.R_mono HO499.out (fun k_ hk => (⟨hk, hk.1⟩ : _ ∧ k_ ≠ gb488))) (fun _ hk => hk.2) (.slice Ao20 y497.length co20)) (fun _ hk => ⟨hk.1.1, hk.1.2.1⟩))⟩, ⟨by (with_reducible repeat first | apply kN | apply kD | apply kA); refine blk_put (cs := #[.int .i64 a0_0, .int .i64 a0_1, u489002]) ?_ 2 _ rfl; (with_reducible repeat first | apply kN | apply kD | apply kA); exact BK488.out⟩, ⟨by (with_reducible repeat first | apply kN | apply kD | apply kA); refine blk_far ?_ NB489_488.out _; (with_reducible repeat first | apply kN | apply kD | apply kA); exact BK489.out⟩, ⟨bx HB.out⟩⟩
     rw [if_neg c10] at H
     exact absurd H (by simp)
    rw [if_neg c8] at H
    exact absurd H (by simp)
   rw [if_neg c7] at H
   exact absurd H (by simp)
  rw [if_neg c6] at H
  have c6b0 := decide_eq_false c6
  try (have c6b9 := c6b0; rw [hl490_2] at c6b9)
  clear c6
  simp only [Option.some.injEq, Prod.mk.injEq] at H
  obtain ⟨rfl, rfl, rfl⟩ := H
  have hnb22 := NB488_489.out
  have hnc22 := NB489_488.out
  have hcz23_0 := bc0 BK488.out
  have hcz23_1 := bc1 BK488.out
  have hcz23_2 := bc2 BK488.out
  have hfz23_0 := bF BK488.out 0
  have hfz23_1 := bF BK488.out 1
  have hfz23_2 := bF BK488.out 2
  have hcz24_0 := bc0 BK489.out
  have hcz24_1 := bc1 BK489.out
  have hcz24_2 := bc2 BK489.out
  have hfz24_0 := bF BK489.out 0
  have hfz24_1 := bF BK489.out 1
  have hfz24_2 := bF BK489.out 2
  obtain ⟨Ao25, co25, eo25⟩ := Kd.R_slice HO_489002.out
  subst eo25
  go_wp2
  refine bodyPost_ret (results_cell_row rfl _ _ gb489 35 #[.int .i64 a0_0, .int .i64 a0_1, .slice Ao25 x489002_1.length co25] (0, 0) _ rfl (by (with_reducible repeat first | apply kN | apply kD | apply kA); refine blk_put (cs := #[.int .i64 a0_0, .int .i64 a0_1, .slice none 0 0]) ?_ 2 _ rfl; (with_reducible repeat first | apply kN | apply kD | apply kA); refine blk_put (cs := #[.int .i64 a0_0, .int .i64 0, .slice none 0 0]) ?_ 1 _ rfl; (with_reducible repeat first | apply kN | apply kD | apply kA); refine blk_put (cs := #[.int .i64 0, .int .i64 0, .slice none 0 0]) ?_ 0 _ rfl; (with_reducible repeat first | apply kN | apply kD | apply kA); exact BK489.out) Tryd.underlying35 rfl (by kernel_rfl)) rfl ?_
  exact ⟨_, xe, rx (Kd.R_mono (Kd.R_far (p := ⟨gb489, 2, none⟩) (Kd.R_far (p := ⟨gb489, 1, none⟩) (Kd.R_far (p := ⟨gb489, 0, none⟩) (Kd.R_mono HO_489002.out (fun k_ hk => (⟨hk, hk.2⟩ : _ ∧ k_ ≠ gb489))) (fun _ hk => hk.2) (.int .i64 a0_0)) (fun _ hk => hk.2) (.int .i64 a0_1)) (fun _ hk => hk.2) (.slice Ao25 x489002_1.length co25)) (fun _ hk => trivial)), bx HB.out⟩

mutual
def net_Copy.l0 : Nat → List (S37) → Int → Int → List (S37) → List (S53) → List (S37) → Option ((List (S37)) × (List (S53)))
 | 0, _, _, _, _, _, _ => none
 | k + 1, x9, x10, x11, x501000, x501001, x503000 => if x11 < x10 then (if 0 ≤ x11 then (if x11 < (x9.length : Int) then ((net_copied.f k ((rd_T37 x9 x11).f2.f0) ((rd_T37 x9 x11).f2.f1) ((rd_T37 x9 x11).f2.f2)).bind fun bt505 => (if x503000.length < 2513169434916 then (net_Copy.l0 k x9 x10 (wrap64 (x11 + 1)) x501000 x501001 (x503000 ++ [(⟨(rd_T37 x9 x11).f0, (rd_T37 x9 x11).f1, (⟨bt505.1, bt505.2.1, bt505.2.2⟩ : S35)⟩ : S37)])) else (none))) else (none)) else (none)) else (net_Copy.l1 k x501001 (x501001.length : Int) 0 x503000 ([] : List (S53)))
def net_Copy.l1 : Nat → List (S53) → Int → Int → List (S37) → List (S53) → Option ((List (S37)) × (List (S53)))
 | 0, _, _, _, _, _ => none
 | k + 1, x27, x28, x29, x503000, x503001 => if x29 < x28 then (if 0 ≤ x29 then (if x29 < (x27.length : Int) then ((net_copied.f k ((rd_T53 x27 x29).f3.f0) ((rd_T53 x27 x29).f3.f1) ((rd_T53 x27 x29).f3.f2)).bind fun bt515 => (if x503001.length < 2199023255552 then (net_Copy.l1 k x27 x28 (wrap64 (x29 + 1)) x503000 (x503001 ++ [(⟨(rd_T53 x27 x29).f0, (rd_T53 x27 x29).f1, (rd_T53 x27 x29).f2, (⟨bt515.1, bt515.2.1, bt515.2.2⟩ : S35)⟩ : S53)])) else (none))) else (none)) else (none)) else (some (x503000, x503001))
end
def net_Copy.f (k : Nat) (l0_0 : List (S37)) (l0_1 : List (S53)) : Option ((List (S37)) × (List (S53))) := net_Copy.l0 k l0_0 (l0_0.length : Int) 0 l0_0 l0_1 ([] : List (S37))
set_option maxRecDepth 100000 in
theorem net_Copy.mono_l : ∀ k, (∀ y0 y1 y2 y3 y4 y5, LeO (net_Copy.l0 k y0 y1 y2 y3 y4 y5) (net_Copy.l0 (k + 1) y0 y1 y2 y3 y4 y5)) ∧ (∀ y0 y1 y2 y3 y4, LeO (net_Copy.l1 k y0 y1 y2 y3 y4) (net_Copy.l1 (k + 1) y0 y1 y2 y3 y4))
 | 0 => ⟨fun _ _ _ _ _ _ r h => by first | (cases h; done) | simp [net_Copy.l0] at h, fun _ _ _ _ _ r h => by first | (cases h; done) | simp [net_Copy.l1] at h⟩
 | k + 1 => by
  obtain ⟨ih0, ih1⟩ := net_Copy.mono_l k
  refine ⟨?_, ?_⟩
  all_goals intros
  all_goals first | unfold net_Copy.l0 | unfold net_Copy.l1
  all_goals repeat' first
  | (with_reducible exact ih0 _ _ _ _ _ _)
  | (with_reducible exact ih1 _ _ _ _ _)
  | (with_reducible exact net_copied.mono _ _ _ _)
  | (with_reducible exact LeO.refl _)
  | (with_reducible exact LeO.none _)
  | (with_reducible refine LeO.ite ?_ ?_)
  | (with_reducible refine LeO.bind ?_ (fun _ => ?_))
  | refine LeO.ite ?_ ?_
  | refine LeO.bind ?_ (fun _ => ?_)
set_option maxRecDepth 100000 in
theorem net_Copy.mono : ∀ a0 a1 k, LeO (net_Copy.f k a0 a1) (net_Copy.f (k + 1) a0 a1) := by
 intro a0 a1 k
 obtain ⟨ih0, ih1⟩ := net_Copy.mono_l k
 unfold net_Copy.f
 repeat' first
 | (with_reducible exact ih0 _ _ _ _ _ _)
 | (with_reducible exact ih1 _ _ _ _ _)
 | (with_reducible exact net_copied.mono _ _ _ _)
 | (with_reducible exact LeO.refl _)
 | (with_reducible exact LeO.none _)
 | (with_reducible refine LeO.ite ?_ ?_)
 | (with_reducible refine LeO.bind ?_ (fun _ => ?_))
 | refine LeO.ite ?_ ?_
 | refine LeO.bind ?_ (fun _ => ?_)
set_option maxHeartbeats 8000000 in
set_option maxRecDepth 100000 in
theorem net_Copy.calls (k : Nat) (A0_0 : Option Addr) (c0_0 : Nat) (l0_0 : List (S37)) (A0_1 : Option Addr) (c0_1 : Nat) (l0_1 : List (S53)) (r1 : List (S37)) (r2 : List (S53)) (w : World) (hr0_0 : Kd.C k37 w A0_0 l0_0.length l0_0) (hc0_0 : l0_0.length ≤ c0_0) (hr0_1 : Kd.C k53 w A0_1 l0_1.length l0_1) (hc0_1 : l0_1.length ≤ c0_1) (h : net_Copy.f k l0_0 l0_1 = some (r1, r2)) :
  Calls Tryd.prog 25 #[.agg #[.slice A0_0 l0_0.length c0_0, .slice A0_1 l0_1.length c0_1]] w fun e w' => ∃ v0_ v1_ : Value, e = .returned (.agg #[v0_, v1_]) ∧ Kd.R k37 37 w' w.heap.size (fun _ => True) v0_ r1 ∧ Kd.R k53 53 w' w.heap.size (fun _ => True) v1_ r2 ∧ Below w.heap.size w w' := by
 have hu25 := Tryd.underlying25
 have hu37 := Tryd.underlying37
 have hu35 := Tryd.underlying35
 have hu53 := Tryd.underlying53
 have HR0_0 := zm hr0_0
 have HC0_0 := zm hc0_0
 clear hr0_0 hc0_0
 have HR0_1 := zm hr0_1
 have HC0_1 := zm hc0_1
 clear hr0_1 hc0_1
 have HB := zm (Below.refl w.heap.size w)
 have H : (net_Copy.l0 k l0_0 (l0_0.length : Int) 0 l0_0 l0_1 ([] : List (S37))) = some (r1, r2) := h
 clear h
 have H' := zm H
 clear H
 go_enter Tryd.func25, Tryd.ntmps25
 go_wp2_with (first | ((with_reducible refine gate_dst (N := 1) rfl ?_); refine box_event ?hg (N := 1) ?hd (cs := #[.slice A0_0 l0_0.length c0_0, .slice A0_1 l0_1.length c0_1]) (t := 25) ?hr ?_; (case hd => rfl); (case hg => rfl); (case hr => first | (go_simp; done) | (go_simp; rfl)); intro gb500 hg w2 hbox hb; have BK500 := zm (hbox); have GW500 := zm ((by rw [hg]; exact (below_size (bx HB.out)) : w.heap.size ≤ gb500)); have GE500 := zm ((by rw [hg]; exact (below_size (bx HB.out)) : w.heap.size ≤ gb500)); replace HB := zm (below_step (bx HB.out) hb); clear hb hbox hg) | ((with_reducible refine gate_dst (N := 2) rfl ?_); refine box_event ?hg (N := 2) ?hd (cs := #[.slice none 0 0, .slice none 0 0]) (t := 25) ?hr ?_; (case hd => rfl); (case hg => rfl); (case hr => first | (go_simp; done) | (go_simp; rfl)); intro gb501 hg w3 hbox hb; have BK501 := zm (hbox); have GW501 := zm ((by rw [hg]; exact (below_size (bx HB.out)) : w.heap.size ≤ gb501)); have GE501 := zm ((by rw [hg]; exact (below_size (bx HB.out)) : w.heap.size ≤ gb501)); replace HB := zm (below_step (bx HB.out) hb); have NB500_501 := zm ((by rw [hg]; exact Nat.ne_of_lt (blk_lt (g := gb500) (o := .cells #[.slice A0_0 l0_0.length c0_0, .slice A0_1 l0_1.length c0_1] 25 (0, 0)) (kx BK500.out)) : gb500 ≠ gb501)); have NB501_500 := zm ((by rw [hg]; exact Nat.ne_of_gt (blk_lt (g := gb500) (o := .cells #[.slice A0_0 l0_0.length c0_0, .slice A0_1 l0_1.length c0_1] 25 (0, 0)) (kx BK500.out)) : gb501 ≠ gb500)); replace BK500 := zm (kB (kx BK500.out) hb); clear hb hbox hg) | ((with_reducible refine gate_dst (N := 3) rfl ?_); refine box_event ?hg (N := 3) ?hd (cs := #[.slice none 0 0, .slice none 0 0]) (t := 25) ?hr ?_; (case hd => rfl); (case hg => rfl); (case hr => first | (go_simp; done) | (go_simp; rfl)); intro gb502 hg w4 hbox hb; have BK502 := zm (hbox); have GW502 := zm ((by rw [hg]; exact (below_size (bx HB.out)) : w.heap.size ≤ gb502)); have GE502 := zm ((by rw [hg]; exact (below_size (bx HB.out)) : w.heap.size ≤ gb502)); replace HB := zm (below_step (bx HB.out) hb); have NB500_502 := zm ((by rw [hg]; exact Nat.ne_of_lt (blk_lt (g := gb500) (o := .cells #[.slice A0_0 l0_0.length c0_0, .slice A0_1 l0_1.length c0_1] 25 (0, 0)) (kx BK500.out)) : gb500 ≠ gb502)); have NB502_500 := zm ((by rw [hg]; exact Nat.ne_of_gt (blk_lt (g := gb500) (o := .cells #[.slice A0_0 l0_0.length c0_0, .slice A0_1 l0_1.length c0_1] 25 (0, 0)) (kx BK500.out)) : gb502 ≠ gb500)); replace BK500 := zm (kB (kx BK500.out) hb); have NB501_502 := zm ((by rw [hg]; exact Nat.ne_of_lt (blk_lt (g := gb501) (o := .cells #[.slice none 0 0, .slice none 0 0] 25 (0, 0)) (kx BK501.out)) : gb501 ≠ gb502)); have NB502_501 := zm ((by rw [hg]; exact Nat.ne_of_gt (blk_lt (g := gb501) (o := .cells #[.slice none 0 0, .slice none 0 0] 25 (0, 0)) (kx BK501.out)) : gb502 ≠ gb501)); replace BK501 := zm (kB (kx BK501.out) hb); clear hb hbox hg; have hnb5 := NB500_501.out; have hnc5 := NB501_500.out; have hnb6 := NB500_502.out; have hnc6 := NB502_500.out; have hcz7_0 := bc0 BK500.out; have hcz7_1 := bc1 BK500.out; have hfz7_0 := bF BK500.out 0; have hfz7_1 := bF BK500.out 1))
 go_loopg [11] k (fun kq v11 w' => ∃ (x11_1 : Int) (x503000_1 : List (S37)) (u503000 : Value), v11 = .int .i64 x11_1 ∧ Aside0 (net_Copy.l0 kq l0_0 (l0_0.length : Int) x11_1 l0_0 l0_1 x503000_1 = some (r1, r2)) ∧ Aside0 (kq ≤ k) ∧ Aside0 (Kd.R k37 37 w' w.heap.size (fun _ => True) u503000 x503000_1) ∧ Aside0 (w'.heap[gb500]? = some (.cells #[(.slice A0_0 l0_0.length c0_0), (.slice A0_1 l0_1.length c0_1)] 25 (0, 0))) ∧ Aside0 (w'.heap[gb501]? = some (.cells #[(.slice none 0 0), (.slice none 0 0)] 25 (0, 0))) ∧ Aside0 (w'.heap[gb502]? = some (.cells #[u503000, (.slice none 0 0)] 25 (0, 0))) ∧ Aside0 (Below w.heap.size w w'))
 case atStart => exact ⟨(0), (([] : List (S37))), (.slice none 0 0), (by first | rfl | (simp; done) | (simp [*]; done)), H', ⟨Nat.le_refl _⟩, ⟨by first | exact Kd.R_nil _ _ _ _ _ | exact Kd.N_nil _ _ _ _ _ | exact Kd.V_nil _ _ _ _ _ | exact Kd.Q_nil _ _ _ _ _ | exact Kd.S_nil _ _ _ _ _⟩, ⟨kx BK500.out⟩, ⟨kx BK501.out⟩, ⟨kx BK502.out⟩, ⟨bx HB.out⟩⟩
 clear H'
 try clear c2
 try clear p2
 try clear c5
 try clear c6
 try clear BK500
 try clear BK501
 try clear BK502
 obtain ⟨x11_1, x503000_1, u503000, rfl, HA, HK1, HO_503000, BK500, BK501, BK502, HB⟩ := hrel
 cases gk with
 | zero => exact absurd HA.out (by first | (intro h_; cases h_; done) | simp [net_Copy.l0])
 | succ k1 =>
  have H := HA.out
  clear HA
  simp only [net_Copy.l0] at H
  by_cases c8 : x11_1 < (l0_0.length : Int)
  ·rw [if_pos c8] at H
   have c8b0 := decide_eq_true c8
   clear c8
   by_cases c9 : 0 ≤ x11_1
   ·rw [if_pos c9] at H
    have c9b0 := decide_eq_true c9
    clear c9
    by_cases c10 : x11_1 < (l0_0.length : Int)
    ·rw [if_pos c10] at H
     have c10b0 := decide_eq_true c10
     clear c10
     replace H := Option.bind_eq_some_iff.mp H
     obtain ⟨⟨t505, t506, t507⟩, A110, H⟩ := H
     replace H : (if x503000_1.length < 2513169434916 then (net_Copy.l0 k1 l0_0 (l0_0.length : Int) (wrap64 (x11_1 + 1)) l0_0 l0_1 (x503000_1 ++ [(⟨(rd_T37 l0_0 x11_1).f0, (rd_T37 l0_0 x11_1).f1, (⟨t505, t506, t507⟩ : S35)⟩ : S37)])) else (none)) = some (r1, r2) := H
     have A11 := zm A110
     clear A110
     by_cases c12 : x503000_1.length < 2513169434916
     ·rw [if_pos c12] at H
      have LMc12 := zm c12
      clear c12
      obtain ⟨y510, hy510⟩ : ∃ y_ : List (S37), y_ = (x503000_1 ++ [(⟨(rd_T37 l0_0 x11_1).f0, (rd_T37 l0_0 x11_1).f1, (⟨t505, t506, t507⟩ : S35)⟩ : S37)]) := ⟨_, rfl⟩
      replace H : (net_Copy.l0 k1 l0_0 (l0_0.length : Int) (wrap64 (x11_1 + 1)) l0_0 l0_1 y510) = some (r1, r2) := by first | (rw [hy510]; with_reducible exact H) | (have H2_ := (Option.bind_some _ _).symm.trans H; rw [hy510]; with_reducible exact H2_) | (have H2_ := (Option.bind_some _ _).symm.trans H; with_reducible exact H2_) | with_reducible exact H | (rw [hy510]; exact H) | exact H
      have Ny510 := zm hy510
      clear hy510
      have H' := zm H
      clear H
      have p503 : 0 ≤ (x11_1 : Int) := od
      have q503 : x11_1 < (l0_0.length : Int) := od
      obtain ⟨ad503, A503_4, c503_4, e503, hx503_0, hx503_1, hx503_2, hx503_3, hx503_4, hl503_4, hi503_4⟩ := at_T37 HR0_0.out x11_1 p503 q503
      cases e503
      replace hx503_0 := cb HB.out hx503_0
      replace hx503_1 := cb HB.out hx503_1
      replace hx503_2 := cb HB.out hx503_2
      replace hx503_3 := cb HB.out hx503_3
      replace hx503_4 := cb HB.out hx503_4
      have HR503_4 := zm hi503_4
      have HC503_4 := zm hl503_4
      clear hi503_4 hl503_4
      replace p503 := eq_true p503
      replace q503 := eq_true q503
      go_wp2_with (first | ((with_reducible refine gate_dst (N := 5) rfl ?_); refine box_event ?hg (N := 5) ?hd (cs := #[.int .i64 0, .int .i64 0, .int .i64 0, .int .i64 0, .slice none 0 0]) (t := 37) ?hr ?_; (case hd => rfl); (case hg => rfl); (case hr => first | (go_simp; done) | (go_simp; rfl)); intro gb504 hg w13 hbox hb; replace HO_503000 := zm (Kd.R_below (Kd.R_elderB (rx HO_503000.out) gb504 (Nat.le_of_eq hg.symm)) hb); have BK504 := zm (hbox); have GW504 := zm ((by rw [hg]; exact (below_size (bx HB.out)) : w.heap.size ≤ gb504)); have GE504 := zm ((by rw [hg]; exact (below_size (bx HB.out)) : w.heap.size ≤ gb504)); replace HB := zm (below_step (bx HB.out) hb); have NB500_504 := zm ((by rw [hg]; exact Nat.ne_of_lt (blk_lt (g := gb500) (o := .cells #[.slice (some ad503) l0_0.length c0_0, .slice A0_1 l0_1.length c0_1] 25 (0, 0)) (kx BK500.out)) : gb500 ≠ gb504)); have NB504_500 := zm ((by rw [hg]; exact Nat.ne_of_gt (blk_lt (g := gb500) (o := .cells #[.slice (some ad503) l0_0.length c0_0, .slice A0_1 l0_1.length c0_1] 25 (0, 0)) (kx BK500.out)) : gb504 ≠ gb500)); replace BK500 := zm (kB (kx BK500.out) hb); have NB501_504 := zm ((by rw [hg]; exact Nat.ne_of_lt (blk_lt (g := gb501) (o := .cells #[.slice none 0 0, .slice none 0 0] 25 (0, 0)) (kx BK501.out)) : gb501 ≠ gb504)); have NB504_501 := zm ((by rw [hg]; exact Nat.ne_of_gt (blk_lt (g := gb501) (o := .cells #[.slice none 0 0, .slice none 0 0] 25 (0, 0)) (kx BK501.out)) : gb504 ≠ gb501)); replace BK501 := zm (kB (kx BK501.out) hb); have NB502_504 := zm ((by rw [hg]; exact Nat.ne_of_lt (blk_lt (g := gb502) (o := .cells #[u503000, .slice none 0 0] 25 (0, 0)) (kx BK502.out)) : gb502 ≠ gb504)); have NB504_502 := zm ((by rw [hg]; exact Nat.ne_of_gt (blk_lt (g := gb502) (o := .cells #[u503000, .slice none 0 0] 25 (0, 0)) (kx BK502.out)) : gb504 ≠ gb502)); replace BK502 := zm (kB (kx BK502.out) hb); clear hb hbox hg; have hnb14 := NB504_500.out; have hnc14 := NB500_504.out; have hnb15 := NB504_501.out; have hnc15 := NB501_504.out; have hnb16 := NB504_502.out; have hnc16 := NB502_504.out; have hcz17_0 := bc0 BK504.out; have hcz17_1 := bc1 BK504.out; have hcz17_2 := bc2 BK504.out; have hcz17_3 := bc3 BK504.out; have hcz17_4 := bc4 BK504.out; have hfz17_0 := bF BK504.out 0; have hfz17_1 := bF BK504.out 1; have hfz17_2 := bF BK504.out 2; have hfz17_3 := bF BK504.out 3; have hfz17_4 := bF BK504.out 4) | ((with_reducible refine gate_callee (f := 47) rfl ?_); refine goesL_ (some 17) rfl rfl Tryd.func47 (by kernel_rfl) rfl #[.agg #[.int .i64 ((rd_T37 l0_0 x11_1).f2.f0), .int .i64 ((rd_T37 l0_0 x11_1).f2.f1), .slice A503_4 ((rd_T37 l0_0 x11_1).f2.f2).length c503_4]] rfl ag ?_; (with_reducible refine (net_copied.calls k1 ((rd_T37 l0_0 x11_1).f2.f0) ((rd_T37 l0_0 x11_1).f2.f1) _ _ ((rd_T37 l0_0 x11_1).f2.f2) t505 t506 t507 _ ?side1 HC503_4.out A11.out).mono ?_); (case side1 => exact Kd.C_below HR503_4.out (bx HB.out)); rintro e w18 ⟨v508, rfl, ho0, hb⟩; refine ⟨_, rfl, ?_⟩; replace HO_503000 := zm (Kd.R_elder' (rx (Kd.R_mono (Kd.R_far (p := ⟨gb504, 4, none⟩) (Kd.R_far (p := ⟨gb504, 3, none⟩) (Kd.R_far (p := ⟨gb504, 2, none⟩) (Kd.R_far (p := ⟨gb504, 1, none⟩) (Kd.R_far (p := ⟨gb504, 0, none⟩) (Kd.R_mono HO_503000.out (fun k_ hk => (⟨hk, hk.2⟩ : _ ∧ k_ ≠ gb504))) (fun _ hk => hk.2) (.int .i64 ((rd_T37 l0_0 x11_1).f0))) (fun _ hk => hk.2) (.int .i64 ((rd_T37 l0_0 x11_1).f1))) (fun _ hk => hk.2) (.int .i64 ((rd_T37 l0_0 x11_1).f2.f0))) (fun _ hk => hk.2) (.int .i64 ((rd_T37 l0_0 x11_1).f2.f1))) (fun _ hk => hk.2) (.slice A503_4 ((rd_T37 l0_0 x11_1).f2.f2).length c503_4)) (fun _ h_ => h_.1))) (by first | exact Kd.R_base ho0 | exact Kd.N_base ho0 | exact Kd.S_base ho0 | exact Kd.R_base ho0) hb); have HO509 := zm (Kd.R_lower ho0 (below_size (bx HB.out))); replace BK500 := zm (kB (g := gb500) (o := .cells #[.slice (some ad503) l0_0.length c0_0, .slice A0_1 l0_1.length c0_1] 25 (0, 0)) (by (with_reducible repeat first | apply kN | apply kD | apply kA); refine blk_far ?_ NB500_504.out _; (with_reducible repeat first | apply kN | apply kD | apply kA); refine blk_far ?_ NB500_504.out _; (with_reducible repeat first | apply kN | apply kD | apply kA); refine blk_far ?_ NB500_504.out _; (with_reducible repeat first | apply kN | apply kD | apply kA); refine blk_far ?_ NB500_504.out _; (with_reducible repeat first | apply kN | apply kD | apply kA); refine blk_far ?_ NB500_504.out _; (with_reducible repeat first | apply kN | apply kD | apply kA); exact BK500.out) hb); replace BK501 := zm (kB (g := gb501) (o := .cells #[.slice none 0 0, .slice none 0 0] 25 (0, 0)) (by (with_reducible repeat first | apply kN | apply kD | apply kA); refine blk_far ?_ NB501_504.out _; (with_reducible repeat first | apply kN | apply kD | apply kA); refine blk_far ?_ NB501_504.out _; (with_reducible repeat first | apply kN | apply kD | apply kA); refine blk_far ?_ NB501_504.out _; (with_reducible repeat first | apply kN | apply kD | apply kA); refine blk_far ?_ NB501_504.out _; (with_reducible repeat first | apply kN | apply kD | apply kA); refine blk_far ?_ NB501_504.out _; (with_reducible repeat first | apply kN | apply kD | apply kA); exact BK501.out) hb); replace BK502 := zm (kB (g := gb502) (o := .cells #[u503000, .slice none 0 0] 25 (0, 0)) (by (with_reducible repeat first | apply kN | apply kD | apply kA); refine blk_far ?_ NB502_504.out _; (with_reducible repeat first | apply kN | apply kD | apply kA); refine blk_far ?_ NB502_504.out _; (with_reducible repeat first | apply kN | apply kD | apply kA); refine blk_far ?_ NB502_504.out _; (with_reducible repeat first | apply kN | apply kD | apply kA); refine blk_far ?_ NB502_504.out _; (with_reducible repeat first | apply kN | apply kD | apply kA); refine blk_far ?_ NB502_504.out _; (with_reducible repeat first | apply kN | apply kD | apply kA); exact BK502.out) hb); replace BK504 := zm (kB (g := gb504) (o := .cells #[.int .i64 ((rd_T37 l0_0 x11_1).f0), .int .i64 ((rd_T37 l0_0 x11_1).f1), .int .i64 ((rd_T37 l0_0 x11_1).f2.f0), .int .i64 ((rd_T37 l0_0 x11_1).f2.f1), .slice A503_4 ((rd_T37 l0_0 x11_1).f2.f2).length c503_4] 37 (0, 0)) (by (with_reducible repeat first | apply kN | apply kD | apply kA); refine blk_put (cs := #[.int .i64 ((rd_T37 l0_0 x11_1).f0), .int .i64 ((rd_T37 l0_0 x11_1).f1), .int .i64 ((rd_T37 l0_0 x11_1).f2.f0), .int .i64 ((rd_T37 l0_0 x11_1).f2.f1), .slice none 0 0]) ?_ 4 _ rfl; (with_reducible repeat first | apply kN | apply kD | apply kA); refine blk_put (cs := #[.int .i64 ((rd_T37 l0_0 x11_1).f0), .int .i64 ((rd_T37 l0_0 x11_1).f1), .int .i64 ((rd_T37 l0_0 x11_1).f2.f0), .int .i64 0, .slice none 0 0]) ?_ 3 _ rfl; (with_reducible repeat first | apply kN | apply kD | apply kA); refine blk_put (cs := #[.int .i64 ((rd_T37 l0_0 x11_1).f0), .int .i64 ((rd_T37 l0_0 x11_1).f1), .int .i64 0, .int .i64 0, .slice none 0 0]) ?_ 2 _ rfl; (with_reducible repeat first | apply kN | apply kD | apply kA); refine blk_put (cs := #[.int .i64 ((rd_T37 l0_0 x11_1).f0), .int .i64 0, .int .i64 0, .int .i64 0, .slice none 0 0]) ?_ 1 _ rfl; (with_reducible repeat first | apply kN | apply kD | apply kA); refine blk_put (cs := #[.int .i64 0, .int .i64 0, .int .i64 0, .int .i64 0, .slice none 0 0]) ?_ 0 _ rfl; (with_reducible repeat first | apply kN | apply kD | apply kA); exact BK504.out) hb); replace HB := zm (below_step (bx HB.out) hb); (try clear hb); (try clear hb2); (try clear hk); (try clear hi); (try clear ho0); have hcz19_0 := bc0 BK504.out; have hcz19_1 := bc1 BK504.out; have hcz19_2 := bc2 BK504.out; have hcz19_3 := bc3 BK504.out; have hcz19_4 := bc4 BK504.out; have hfz19_0 := bF BK504.out 0; have hfz19_1 := bF BK504.out 1; have hfz19_2 := bF BK504.out 2; have hfz19_3 := bF BK504.out 3; have hfz19_4 := bF BK504.out 4; obtain ⟨Ao20, co20, eo20⟩ := Kd.R_slice HO509.out; subst eo20) | ((with_reducible refine gate_store (t := 35) (p := 18) rfl ?_); refine store_event (t := 35) (p := 18) (v := ?vo_w21) (w1 := (((w18.setCell ⟨gb504, 2, none⟩ (.int .i64 t505)).setCell ⟨gb504, 3, none⟩ (.int .i64 t506)).setCell ⟨gb504, 4, none⟩ (.slice Ao20 t507.length co20))) ?hg ?ho ?hn ?hr ?_; (case ho => rfl); (case hg => rfl); (case hn => rfl); (case hr => first | (go_simp; done) | (go_simp; rfl)); intro w21 hw; replace HO_503000 : Aside0 (Kd.R k37 37 w21 w.heap.size (fun k_ => some k_ ≠ (.slice Ao20 t507.length co20 : Value).ownBlock ∧ k_ ≠ gb504) u503000 x503000_1) := ⟨(by rw [hw]; exact (rx (Kd.R_mono (Kd.R_far (p := ⟨gb504, 4, none⟩) (Kd.R_far (p := ⟨gb504, 3, none⟩) (Kd.R_far (p := ⟨gb504, 2, none⟩) (Kd.R_mono HO_503000.out (fun k_ hk => (⟨hk, hk.1.2⟩ : _ ∧ k_ ≠ gb504))) (fun _ hk => hk.2) (.int .i64 t505)) (fun _ hk => hk.2) (.int .i64 t506)) (fun _ hk => hk.2) (.slice Ao20 t507.length co20)) (fun _ hk => ⟨hk.1.2, hk.1.1.2⟩))))⟩; replace HO509 : Aside0 (Kd.R k35 35 w21 w.heap.size (fun _ => True) (.slice Ao20 t507.length co20) t507) := ⟨(by rw [hw]; exact (rx (Kd.R_mono (Kd.R_far (p := ⟨gb504, 4, none⟩) (Kd.R_far (p := ⟨gb504, 3, none⟩) (Kd.R_far (p := ⟨gb504, 2, none⟩) (Kd.R_types HO509.out BK504.out (by decide)) (fun _ hk => hk.2) (.int .i64 t505)) (fun _ hk => hk.2) (.int .i64 t506)) (fun _ hk => hk.2) (.slice Ao20 t507.length co20)) (fun _ hk => trivial))))⟩; replace BK500 : Aside0 (w21.heap[gb500]? = some (.cells #[.slice (some ad503) l0_0.length c0_0, .slice A0_1 l0_1.length c0_1] 25 (0, 0))) := ⟨(by rw [hw]; exact (by (with_reducible repeat first | apply kN | apply kD | apply kA); refine blk_far ?_ NB500_504.out _; (with_reducible repeat first | apply kN | apply kD | apply kA); refine blk_far ?_ NB500_504.out _; (with_reducible repeat first | apply kN | apply kD | apply kA); refine blk_far ?_ NB500_504.out _; (with_reducible repeat first | apply kN | apply kD | apply kA); exact BK500.out))⟩; replace BK501 : Aside0 (w21.heap[gb501]? = some (.cells #[.slice none 0 0, .slice none 0 0] 25 (0, 0))) := ⟨(by rw [hw]; exact (by (with_reducible repeat first | apply kN | apply kD | apply kA); refine blk_far ?_ NB501_504.out _; (with_reducible repeat first | apply kN | apply kD | apply kA); refine blk_far ?_ NB501_504.out _; (with_reducible repeat first | apply kN | apply kD | apply kA); refine blk_far ?_ NB501_504.out _; (with_reducible repeat first | apply kN | apply kD | apply kA); exact BK501.out))⟩; replace BK502 : Aside0 (w21.heap[gb502]? = some (.cells #[u503000, .slice none 0 0] 25 (0, 0))) := ⟨(by rw [hw]; exact (by (with_reducible repeat first | apply kN | apply kD | apply kA); refine blk_far ?_ NB502_504.out _; (with_reducible repeat first | apply kN | apply kD | apply kA); refine blk_far ?_ NB502_504.out _; (with_reducible repeat first | apply kN | apply kD | apply kA); refine blk_far ?_ NB502_504.out _; (with_reducible repeat first | apply kN | apply kD | apply kA); exact BK502.out))⟩; replace BK504 : Aside0 (w21.heap[gb504]? = some (.cells #[.int .i64 ((rd_T37 l0_0 x11_1).f0), .int .i64 ((rd_T37 l0_0 x11_1).f1), .int .i64 t505, .int .i64 t506, .slice Ao20 t507.length co20] 37 (0, 0))) := ⟨(by rw [hw]; exact (by (with_reducible repeat first | apply kN | apply kD | apply kA); refine blk_put (cs := #[.int .i64 ((rd_T37 l0_0 x11_1).f0), .int .i64 ((rd_T37 l0_0 x11_1).f1), .int .i64 t505, .int .i64 t506, .slice A503_4 ((rd_T37 l0_0 x11_1).f2.f2).length c503_4]) ?_ 4 _ rfl; (with_reducible repeat first | apply kN | apply kD | apply kA); refine blk_put (cs := #[.int .i64 ((rd_T37 l0_0 x11_1).f0), .int .i64 ((rd_T37 l0_0 x11_1).f1), .int .i64 t505, .int .i64 ((rd_T37 l0_0 x11_1).f2.f1), .slice A503_4 ((rd_T37 l0_0 x11_1).f2.f2).length c503_4]) ?_ 3 _ rfl; (with_reducible repeat first | apply kN | apply kD | apply kA); refine blk_put (cs := #[.int .i64 ((rd_T37 l0_0 x11_1).f0), .int .i64 ((rd_T37 l0_0 x11_1).f1), .int .i64 ((rd_T37 l0_0 x11_1).f2.f0), .int .i64 ((rd_T37 l0_0 x11_1).f2.f1), .slice A503_4 ((rd_T37 l0_0 x11_1).f2.f2).length c503_4]) ?_ 2 _ rfl; (with_reducible repeat first | apply kN | apply kD | apply kA); exact BK504.out))⟩; replace HB : Aside0 (Below w.heap.size w w21) := ⟨(by rw [hw]; exact (bx HB.out))⟩; clear hw; have hnb22 := NB502_500.out; have hnc22 := NB500_502.out; have hnb23 := NB502_501.out; have hnc23 := NB501_502.out; have hcz24_0 := bc0 BK502.out; have hcz24_1 := bc1 BK502.out; have hfz24_0 := bF BK502.out 0; have hfz24_1 := bF BK502.out 1; have hcz25_0 := bc0 BK504.out; have hcz25_1 := bc1 BK504.out; have hcz25_2 := bc2 BK504.out; have hcz25_3 := bc3 BK504.out; have hcz25_4 := bc4 BK504.out; have hfz25_0 := bF BK504.out 0; have hfz25_1 := bF BK504.out 1; have hfz25_2 := bF BK504.out 2; have hfz25_3 := bF BK504.out 3; have hfz25_4 := bF BK504.out 4) | ((with_reducible refine gate_builtin (b := .append) (xs := #[.tmp 20, .tmp 22]) rfl ?_); at_builtin; refine Kd.R_append k37 (w0 := w) w.heap.size rfl (.tmp 20) (.tmp 22) 22 37 (.agg #[(.int .i64 0), (.int .i64 0), (.int .i64 0), (.int .i64 0), (.slice none 0 0)]) 56 rfl Tryd.underlying22 info37 rfl (by decide) (by omega) u503000 x503000_1 (⟨(rd_T37 l0_0 x11_1).f0, (rd_T37 l0_0 x11_1).f1, (⟨t505, t506, t507⟩ : S35)⟩ : S37) [.int .i64 ((rd_T37 l0_0 x11_1).f0), .int .i64 ((rd_T37 l0_0 x11_1).f1), .int .i64 t505, .int .i64 t506, .slice Ao20 t507.length co20] (fun k_ => k_ ≠ gb504) (fun k_ => ((fun k_ => k_ ≠ gb504)) k_ ∧ some k_ ≠ (u503000 : Value).ownBlock) rfl rfl ?aP (fun _ hk => hk) ?aF ?aO ?aB ?aS ?aL ?_; (case aP => exact k37_mkM _ _ _ (⟨(rd_T37 l0_0 x11_1).f0, (rd_T37 l0_0 x11_1).f1, (⟨t505, t506, t507⟩ : S35)⟩ : S37) (Kd.R_mono (Kd.R_types (Kd.R_apart' (HO509.out) (Kd.R_typed HO_503000.out) (by decide)) BK504.out (by decide)) (fun k_ hk => ⟨hk.2, hk.1.2⟩))); (case aB => exact (bx HB.out)); (case aF => exact (fun k_ hk => Kd.freshB (g := gb504) (o := .cells #[.int .i64 ((rd_T37 l0_0 x11_1).f0), .int .i64 ((rd_T37 l0_0 x11_1).f1), .int .i64 t505, .int .i64 t506, .slice Ao20 t507.length co20] 37 (0, 0)) (kx BK504.out) k_ hk)); (case aO => exact (rx (Kd.R_mono HO_503000.out (fun _ hk => hk.2)))); (case aS => exact (below_size (bx HB.out))); (case aL => have := LMc12.out; omega); intro v511 w26 ho hb hg hat; rw [← Ny510.out] at ho; replace BK500 := zm (blk_grown (g := gb500) (o := .cells #[.slice (some ad503) l0_0.length c0_0, .slice A0_1 l0_1.length c0_1] 25 (0, 0)) (kx BK500.out) hg (Kd.R_ne HO_503000.out BK500.out (by decide))); replace BK501 := zm (blk_grown (g := gb501) (o := .cells #[.slice none 0 0, .slice none 0 0] 25 (0, 0)) (kx BK501.out) hg (Kd.R_ne HO_503000.out BK501.out (by decide))); replace BK502 := zm (blk_grown (g := gb502) (o := .cells #[u503000, .slice none 0 0] 25 (0, 0)) (kx BK502.out) hg (Kd.R_ne HO_503000.out BK502.out (by decide))); replace BK504 := zm (blk_grown (g := gb504) (o := .cells #[.int .i64 ((rd_T37 l0_0 x11_1).f0), .int .i64 ((rd_T37 l0_0 x11_1).f1), .int .i64 t505, .int .i64 t506, .slice Ao20 t507.length co20] 37 (0, 0)) (kx BK504.out) hg (Kd.R_away HO_503000.out (fun _ hk => hk.2))); replace HB := zm (hb); have HO512 := zm (ho); clear HO_503000 HO509 ho hb hg hat; obtain ⟨Ao27, co27, eo27⟩ := Kd.R_slice HO512.out; subst eo27; have hcz28_0 := bc0 BK502.out; have hcz28_1 := bc1 BK502.out; have hfz28_0 := bF BK502.out 0; have hfz28_1 := bF BK502.out 1))
      go_roundg k1
      case measure => have := HK1.out; omega
      case rel => exact ⟨(wrap64 (x11_1 + 1)), (y510), (.slice Ao27 y510.length co27), (by first | rfl | (simp; done) | (simp [*]; done)), H', ⟨by have := HK1.out; omega⟩, ⟨rx (Kd.R_mono (Kd.R_far (p := ⟨gb502, 0, none⟩) (Kd.R_types HO512.out BK502.out (by decide)) (fun _ hk => hk.2) (.slice Ao27 y510.length co27)) (fun _ hk => trivial))⟩, ⟨by (with_reducible repeat first | apply kN | apply kD | apply kA); refine blk_far ?_ NB500_502.out _; (with_reducible repeat first | apply kN | apply kD | apply kA); exact BK500.out⟩, ⟨by (with_reducible repeat first | apply kN | apply kD | apply kA); refine blk_far ?_ NB501_502.out _; (with_reducible repeat first | apply kN | apply kD | apply kA); exact BK501.out⟩, ⟨by (with_reducible repeat first | apply kN | apply kD | apply kA); refine blk_put (cs := #[u503000, .slice none 0 0]) ?_ 0 _ rfl; (with_reducible repeat first | apply kN | apply kD | apply kA); exact BK502.out⟩, ⟨bx HB.out⟩⟩
     rw [if_neg c12] at H
     exact absurd H (by simp)
    rw [if_neg c10] at H
    exact absurd H (by simp)
   rw [if_neg c9] at H
   exact absurd H (by simp)
  rw [if_neg c8] at H
  have c8b0 := decide_eq_false c8
  try (have c8b9 := c8b0; rw [hl513_5] at c8b9)
  try (have c8b9 := c8b0; rw [hl503_4] at c8b9)
  clear c8
  have H' := zm H
  clear H
  have hnb29 := NB500_501.out
  have hnc29 := NB501_500.out
  have hnb30 := NB500_502.out
  have hnc30 := NB502_500.out
  have hcz31_0 := bc0 BK500.out
  have hcz31_1 := bc1 BK500.out
  have hfz31_0 := bF BK500.out 0
  have hfz31_1 := bF BK500.out 1
  go_wp2
  go_loopg [29] k1 (fun kq v29 w' => ∃ (x29_2 : Int) (x503001_2 : List (S53)) (u503001 : Value), v29 = .int .i64 x29_2 ∧ Aside0 (net_Copy.l1 kq l0_1 (l0_1.length : Int) x29_2 x503000_1 x503001_2 = some (r1, r2)) ∧ Aside0 (kq ≤ k1) ∧ Aside0 (Kd.R k37 37 w' w.heap.size (fun _ => True) u503000 x503000_1) ∧ Aside0 (Kd.R k53 53 w' w.heap.size (fun _ => True) u503001 x503001_2) ∧ Aside0 (w'.heap[gb500]? = some (.cells #[(.slice A0_0 l0_0.length c0_0), (.slice A0_1 l0_1.length c0_1)] 25 (0, 0))) ∧ Aside0 (w'.heap[gb501]? = some (.cells #[(.slice none 0 0), (.slice none 0 0)] 25 (0, 0))) ∧ Aside0 (w'.heap[gb502]? = some (.cells #[u503000, u503001] 25 (0, 0))) ∧ Aside0 (Below w.heap.size w w'))
  case atStart => exact ⟨(0), (([] : List (S53))), (.slice none 0 0), (by first | rfl | (simp; done) | (simp [*]; done)), H', ⟨Nat.le_refl _⟩, ⟨rx HO_503000.out⟩, ⟨by first | exact Kd.R_nil _ _ _ _ _ | exact Kd.N_nil _ _ _ _ _ | exact Kd.V_nil _ _ _ _ _ | exact Kd.Q_nil _ _ _ _ _ | exact Kd.S_nil _ _ _ _ _⟩, ⟨kx BK500.out⟩, ⟨kx BK501.out⟩, ⟨kx BK502.out⟩, ⟨bx HB.out⟩⟩
  clear H'
  try clear c1
  try clear c2
  try clear p2
  try clear c3
  try clear c4
  try clear c5
  try clear p5
  try clear q5
  try clear hx5
  try clear c6
  try clear p6
  try clear c8
  try clear c8b0
  try clear c9
  try clear c9b0
  try clear c10
  try clear c10b0
  try clear c12
  try clear c14
  try clear c15
  try clear c16
  try clear c22
  try clear c23
  try clear c25
  try clear c29
  try clear c30
  try clear hx503_0
  try clear hx503_1
  try clear hx503_2
  try clear hx503_3
  try clear hx503_4
  try clear p2
  try clear p503
  try clear q503
  try clear BK500
  try clear BK501
  try clear BK502
  obtain ⟨x29_2, x503001_2, u503001, rfl, HA, HK2, HO_503000, HO_503001, BK500, BK501, BK502, HB⟩ := hrel
  cases gk with
  | zero => exact absurd HA.out (by first | (intro h_; cases h_; done) | simp [net_Copy.l1])
  | succ k2 =>
   have H := HA.out
   clear HA
   simp only [net_Copy.l1] at H
   by_cases c32 : x29_2 < (l0_1.length : Int)
   ·rw [if_pos c32] at H
    have c32b0 := decide_eq_true c32
    clear c32
    by_cases c33 : 0 ≤ x29_2
    ·rw [if_pos c33] at H
     have c33b0 := decide_eq_true c33
     clear c33
     by_cases c34 : x29_2 < (l0_1.length : Int)
     ·rw [if_pos c34] at H
      have c34b0 := decide_eq_true c34
      clear c34
      replace H := Option.bind_eq_some_iff.mp H
      obtain ⟨⟨t515, t516, t517⟩, A350, H⟩ := H
      replace H : (if x503001_2.length < 2199023255552 then (net_Copy.l1 k2 l0_1 (l0_1.length : Int) (wrap64 (x29_2 + 1)) x503000_1 (x503001_2 ++ [(⟨(rd_T53 l0_1 x29_2).f0, (rd_T53 l0_1 x29_2).f1, (rd_T53 l0_1 x29_2).f2, (⟨t515, t516, t517⟩ : S35)⟩ : S53)])) else (none)) = some (r1, r2) := H
      have A35 := zm A350
      clear A350
      by_cases c36 : x503001_2.length < 2199023255552
      ·rw [if_pos c36] at H
       have LMc36 := zm c36
       clear c36
       obtain ⟨y520, hy520⟩ : ∃ y_ : List (S53), y_ = (x503001_2 ++ [(⟨(rd_T53 l0_1 x29_2).f0, (rd_T53 l0_1 x29_2).f1, (rd_T53 l0_1 x29_2).f2, (⟨t515, t516, t517⟩ : S35)⟩ : S53)]) := ⟨_, rfl⟩
       replace H : (net_Copy.l1 k2 l0_1 (l0_1.length : Int) (wrap64 (x29_2 + 1)) x503000_1 y520) = some (r1, r2) := by first | (rw [hy520]; with_reducible exact H) | (have H2_ := (Option.bind_some _ _).symm.trans H; rw [hy520]; with_reducible exact H2_) | (have H2_ := (Option.bind_some _ _).symm.trans H; with_reducible exact H2_) | with_reducible exact H | (rw [hy520]; exact H) | exact H
       have Ny520 := zm hy520
       clear hy520
       have H' := zm H
       clear H
       have p513 : 0 ≤ (x29_2 : Int) := od
       have q513 : x29_2 < (l0_1.length : Int) := od
       obtain ⟨ad513, A513_5, c513_5, e513, hx513_0, hx513_1, hx513_2, hx513_3, hx513_4, hx513_5, hl513_5, hi513_5⟩ := at_T53 HR0_1.out x29_2 p513 q513
       cases e513
       replace hx513_0 := cb HB.out hx513_0
       replace hx513_1 := cb HB.out hx513_1
       replace hx513_2 := cb HB.out hx513_2
       replace hx513_3 := cb HB.out hx513_3
       replace hx513_4 := cb HB.out hx513_4
       replace hx513_5 := cb HB.out hx513_5
       have HR513_5 := zm hi513_5
       have HC513_5 := zm hl513_5
       clear hi513_5 hl513_5
       replace p513 := eq_true p513
       replace q513 := eq_true q513
       go_wp2_with (first | ((with_reducible refine gate_dst (N := 7) rfl ?_); refine box_event ?hg (N := 7) ?hd (cs := #[.int .i64 0, .int .i64 0, .bool false, .int .i64 0, .int .i64 0, .slice none 0 0]) (t := 53) ?hr ?_; (case hd => rfl); (case hg => rfl); (case hr => first | (go_simp; done) | (go_simp; rfl)); intro gb514 hg w37 hbox hb; replace HO_503000 := zm (Kd.R_below (rx HO_503000.out) hb); replace HO_503001 := zm (Kd.R_below (Kd.R_elderB (rx HO_503001.out) gb514 (Nat.le_of_eq hg.symm)) hb); have BK514 := zm (hbox); have GW514 := zm ((by rw [hg]; exact (below_size (bx HB.out)) : w.heap.size ≤ gb514)); have GE514 := zm ((by rw [hg]; exact (below_size (bx HB.out)) : w.heap.size ≤ gb514)); replace HB := zm (below_step (bx HB.out) hb); have NB500_514 := zm ((by rw [hg]; exact Nat.ne_of_lt (blk_lt (g := gb500) (o := .cells #[.slice A0_0 l0_0.length c0_0, .slice (some ad513) l0_1.length c0_1] 25 (0, 0)) (kx BK500.out)) : gb500 ≠ gb514)); have NB514_500 := zm ((by rw [hg]; exact Nat.ne_of_gt (blk_lt (g := gb500) (o := .cells #[.slice A0_0 l0_0.length c0_0, .slice (some ad513) l0_1.length c0_1] 25 (0, 0)) (kx BK500.out)) : gb514 ≠ gb500)); replace BK500 := zm (kB (kx BK500.out) hb); have NB501_514 := zm ((by rw [hg]; exact Nat.ne_of_lt (blk_lt (g := gb501) (o := .cells #[.slice none 0 0, .slice none 0 0] 25 (0, 0)) (kx BK501.out)) : gb501 ≠ gb514)); have NB514_501 := zm ((by rw [hg]; exact Nat.ne_of_gt (blk_lt (g := gb501) (o := .cells #[.slice none 0 0, .slice none 0 0] 25 (0, 0)) (kx BK501.out)) : gb514 ≠ gb501)); replace BK501 := zm (kB (kx BK501.out) hb); have NB502_514 := zm ((by rw [hg]; exact Nat.ne_of_lt (blk_lt (g := gb502) (o := .cells #[u503000, u503001] 25 (0, 0)) (kx BK502.out)) : gb502 ≠ gb514)); have NB514_502 := zm ((by rw [hg]; exact Nat.ne_of_gt (blk_lt (g := gb502) (o := .cells #[u503000, u503001] 25 (0, 0)) (kx BK502.out)) : gb514 ≠ gb502)); replace BK502 := zm (kB (kx BK502.out) hb); clear hb hbox hg; have hnb38 := NB514_500.out; have hnc38 := NB500_514.out; have hnb39 := NB514_501.out; have hnc39 := NB501_514.out; have hnb40 := NB514_502.out; have hnc40 := NB502_514.out; have hcz41_0 := bc0 BK514.out; have hcz41_1 := bc1 BK514.out; have hcz41_2 := bc2 BK514.out; have hcz41_3 := bc3 BK514.out; have hcz41_4 := bc4 BK514.out; have hcz41_5 := bc5 BK514.out; have hfz41_0 := bF BK514.out 0; have hfz41_1 := bF BK514.out 1; have hfz41_2 := bF BK514.out 2; have hfz41_3 := bF BK514.out 3; have hfz41_4 := bF BK514.out 4; have hfz41_5 := bF BK514.out 5) | ((with_reducible refine gate_callee (f := 47) rfl ?_); refine goesL_ (some 35) rfl rfl Tryd.func47 (by kernel_rfl) rfl #[.agg #[.int .i64 ((rd_T53 l0_1 x29_2).f3.f0), .int .i64 ((rd_T53 l0_1 x29_2).f3.f1), .slice A513_5 ((rd_T53 l0_1 x29_2).f3.f2).length c513_5]] rfl ag ?_; (with_reducible refine (net_copied.calls k2 ((rd_T53 l0_1 x29_2).f3.f0) ((rd_T53 l0_1 x29_2).f3.f1) _ _ ((rd_T53 l0_1 x29_2).f3.f2) t515 t516 t517 _ ?side1 HC513_5.out A35.out).mono ?_); (case side1 => exact Kd.C_below HR513_5.out (bx HB.out)); rintro e w42 ⟨v518, rfl, ho0, hb⟩; refine ⟨_, rfl, ?_⟩; replace HO_503000 := zm (Kd.R_elder' (rx (Kd.R_mono (Kd.R_far (p := ⟨gb514, 5, none⟩) (Kd.R_far (p := ⟨gb514, 4, none⟩) (Kd.R_far (p := ⟨gb514, 3, none⟩) (Kd.R_far (p := ⟨gb514, 2, none⟩) (Kd.R_far (p := ⟨gb514, 1, none⟩) (Kd.R_far (p := ⟨gb514, 0, none⟩) (Kd.R_types HO_503000.out BK514.out (by decide)) (fun _ hk => hk.2) (.int .i64 ((rd_T53 l0_1 x29_2).f0))) (fun _ hk => hk.2) (.int .i64 ((rd_T53 l0_1 x29_2).f1))) (fun _ hk => hk.2) (.bool ((rd_T53 l0_1 x29_2).f2))) (fun _ hk => hk.2) (.int .i64 ((rd_T53 l0_1 x29_2).f3.f0))) (fun _ hk => hk.2) (.int .i64 ((rd_T53 l0_1 x29_2).f3.f1))) (fun _ hk => hk.2) (.slice A513_5 ((rd_T53 l0_1 x29_2).f3.f2).length c513_5)) (fun _ h_ => h_.1))) (by first | exact Kd.R_base ho0 | exact Kd.N_base ho0 | exact Kd.S_base ho0 | exact Kd.R_base ho0) hb); replace HO_503001 := zm (Kd.R_elder' (rx (Kd.R_mono (Kd.R_far (p := ⟨gb514, 5, none⟩) (Kd.R_far (p := ⟨gb514, 4, none⟩) (Kd.R_far (p := ⟨gb514, 3, none⟩) (Kd.R_far (p := ⟨gb514, 2, none⟩) (Kd.R_far (p := ⟨gb514, 1, none⟩) (Kd.R_far (p := ⟨gb514, 0, none⟩) (Kd.R_mono HO_503001.out (fun k_ hk => (⟨hk, hk.2⟩ : _ ∧ k_ ≠ gb514))) (fun _ hk => hk.2) (.int .i64 ((rd_T53 l0_1 x29_2).f0))) (fun _ hk => hk.2) (.int .i64 ((rd_T53 l0_1 x29_2).f1))) (fun _ hk => hk.2) (.bool ((rd_T53 l0_1 x29_2).f2))) (fun _ hk => hk.2) (.int .i64 ((rd_T53 l0_1 x29_2).f3.f0))) (fun _ hk => hk.2) (.int .i64 ((rd_T53 l0_1 x29_2).f3.f1))) (fun _ hk => hk.2) (.slice A513_5 ((rd_T53 l0_1 x29_2).f3.f2).length c513_5)) (fun _ h_ => h_.1))) (by first | exact Kd.R_base ho0 | exact Kd.N_base ho0 | exact Kd.S_base ho0 | exact Kd.R_base ho0) hb); have HO519 := zm (Kd.R_lower ho0 (below_size (bx HB.out))); replace BK500 := zm (kB (g := gb500) (o := .cells #[.slice A0_0 l0_0.length c0_0, .slice (some ad513) l0_1.length c0_1] 25 (0, 0)) (by (with_reducible repeat first | apply kN | apply kD | apply kA); refine blk_far ?_ NB500_514.out _; (with_reducible repeat first | apply kN | apply kD | apply kA); refine blk_far ?_ NB500_514.out _; (with_reducible repeat first | apply kN | apply kD | apply kA); refine blk_far ?_ NB500_514.out _; (with_reducible repeat first | apply kN | apply kD | apply kA); refine blk_far ?_ NB500_514.out _; (with_reducible repeat first | apply kN | apply kD | apply kA); refine blk_far ?_ NB500_514.out _; (with_reducible repeat first | apply kN | apply kD | apply kA); refine blk_far ?_ NB500_514.out _; (with_reducible repeat first | apply kN | apply kD | apply kA); exact BK500.out) hb); replace BK501 := zm (kB (g := gb501) (o := .cells #[.slice none 0 0, .slice none 0 0] 25 (0, 0)) (by (with_reducible repeat first | apply kN | apply kD | apply kA); refine blk_far ?_ NB501_514.out _; (with_reducible repeat first | apply kN | apply kD | apply kA); refine blk_far ?_ NB501_514.out _; (with_reducible repeat first | apply kN | apply kD | apply kA); refine blk_far ?_ NB501_514.out _; (with_reducible repeat first | apply kN | apply kD | apply kA); refine blk_far ?_ NB501_514.out _; (with_reducible repeat first | apply kN | apply kD | apply kA); refine blk_far ?_ NB501_514.out _; (with_reducible repeat first | apply kN | apply kD | apply kA); refine blk_far ?_ NB501_514.out _; (with_reducible repeat first | apply kN | apply kD | apply kA); exact BK501.out) hb); replace BK502 := zm (kB (g := gb502) (o := .cells #[u503000, u503001] 25 (0, 0)) (by (with_reducible repeat first | apply kN | apply kD | apply kA); refine blk_far ?_ NB502_514.out _; (with_reducible repeat first | apply kN | apply kD | apply kA); refine blk_far ?_ NB502_514.out _; (with_reducible repeat first | apply kN | apply kD | apply kA); refine blk_far ?_ NB502_514.out _; (with_reducible repeat first | apply kN | apply kD | apply kA); refine blk_far ?_ NB502_514.out _; (with_reducible repeat first | apply kN | apply kD | apply kA); refine blk_far ?_ NB502_514.out _; (with_reducible repeat first | apply kN | apply kD | apply kA); refine blk_far ?_ NB502_514.out _; (with_reducible repeat first | apply kN | apply kD | apply kA); exact BK502.out) hb); replace BK514 := zm (kB (g := gb514) (o := .cells #[.int .i64 ((rd_T53 l0_1 x29_2).f0), .int .i64 ((rd_T53 l0_1 x29_2).f1), .bool ((rd_T53 l0_1 x29_2).f2), .int .i64 ((rd_T53 l0_1 x29_2).f3.f0), .int .i64 ((rd_T53 l0_1 x29_2).f3.f1), .slice A513_5 ((rd_T53 l0_1 x29_2).f3.f2).length c513_5] 53 (0, 0)) (by (with_reducible repeat first | apply kN | apply kD | apply kA); refine blk_put (cs := #[.int .i64 ((rd_T53 l0_1 x29_2).f0), .int .i64 ((rd_T53 l0_1 x29_2).f1), .bool ((rd_T53 l0_1 x29_2).f2), .int .i64 ((rd_T53 l0_1 x29_2).f3.f0), .int .i64 ((rd_T53 l0_1 x29_2).f3.f1), .slice none 0 0]) ?_ 5 _ rfl; (with_reducible repeat first | apply kN | apply kD | apply kA); refine blk_put (cs := #[.int .i64 ((rd_T53 l0_1 x29_2).f0), .int .i64 ((rd_T53 l0_1 x29_2).f1), .bool ((rd_T53 l0_1 x29_2).f2), .int .i64 ((rd_T53 l0_1 x29_2).f3.f0), .int .i64 0, .slice none 0 0]) ?_ 4 _ rfl; (with_reducible repeat first | apply kN | apply kD | apply kA); refine blk_put (cs := #[.int .i64 ((rd_T53 l0_1 x29_2).f0), .int .i64 ((rd_T53 l0_1 x29_2).f1), .bool ((rd_T53 l0_1 x29_2).f2), .int .i64 0, .int .i64 0, .slice none 0 0]) ?_ 3 _ rfl; (with_reducible repeat first | apply kN | apply kD | apply kA); refine blk_put (cs := #[.int .i64 ((rd_T53 l0_1 x29_2).f0), .int .i64 ((rd_T53 l0_1 x29_2).f1), .bool false, .int .i64 0, .int .i64 0, .slice none 0 0]) ?_ 2 _ rfl; (with_reducible repeat first | apply kN | apply kD | apply kA); refine blk_put (cs := #[.int .i64 ((rd_T53 l0_1 x29_2).f0), .int .i64 0, .bool false, .int .i64 0, .int .i64 0, .slice none 0 0]) ?_ 1 _ rfl; (with_reducible repeat first | apply kN | apply kD | apply kA); refine blk_put (cs := #[.int .i64 0, .int .i64 0, .bool false, .int .i64 0, .int .i64 0, .slice none 0 0]) ?_ 0 _ rfl; (with_reducible repeat first | apply kN | apply kD | apply kA); exact BK514.out) hb); replace HB := zm (below_step (bx HB.out) hb); (try clear hb); (try clear hb2); (try clear hk); (try clear hi); (try clear ho0); have hcz43_0 := bc0 BK514.out; have hcz43_1 := bc1 BK514.out; have hcz43_2 := bc2 BK514.out; have hcz43_3 := bc3 BK514.out; have hcz43_4 := bc4 BK514.out; have hcz43_5 := bc5 BK514.out; have hfz43_0 := bF BK514.out 0; have hfz43_1 := bF BK514.out 1; have hfz43_2 := bF BK514.out 2; have hfz43_3 := bF BK514.out 3; have hfz43_4 := bF BK514.out 4; have hfz43_5 := bF BK514.out 5; obtain ⟨Ao44, co44, eo44⟩ := Kd.R_slice HO519.out; subst eo44) | ((with_reducible refine gate_store (t := 35) (p := 36) rfl ?_); refine store_event (t := 35) (p := 36) (v := ?vo_w45) (w1 := (((w42.setCell ⟨gb514, 3, none⟩ (.int .i64 t515)).setCell ⟨gb514, 4, none⟩ (.int .i64 t516)).setCell ⟨gb514, 5, none⟩ (.slice Ao44 t517.length co44))) ?hg ?ho ?hn ?hr ?_; (case ho => rfl); (case hg => rfl); (case hn => rfl); (case hr => first | (go_simp; done) | (go_simp; rfl)); intro w45 hw; replace HO_503000 : Aside0 (Kd.R k37 37 w45 w.heap.size (fun k_ => some k_ ≠ (.slice Ao44 t517.length co44 : Value).ownBlock) u503000 x503000_1) := ⟨(by rw [hw]; exact (rx (Kd.R_mono (Kd.R_far (p := ⟨gb514, 5, none⟩) (Kd.R_far (p := ⟨gb514, 4, none⟩) (Kd.R_far (p := ⟨gb514, 3, none⟩) (Kd.R_types HO_503000.out BK514.out (by decide)) (fun _ hk => hk.2) (.int .i64 t515)) (fun _ hk => hk.2) (.int .i64 t516)) (fun _ hk => hk.2) (.slice Ao44 t517.length co44)) (fun _ hk => hk.1.2))))⟩; replace HO_503001 : Aside0 (Kd.R k53 53 w45 w.heap.size (fun k_ => some k_ ≠ (.slice Ao44 t517.length co44 : Value).ownBlock ∧ k_ ≠ gb514) u503001 x503001_2) := ⟨(by rw [hw]; exact (rx (Kd.R_mono (Kd.R_far (p := ⟨gb514, 5, none⟩) (Kd.R_far (p := ⟨gb514, 4, none⟩) (Kd.R_far (p := ⟨gb514, 3, none⟩) (Kd.R_mono HO_503001.out (fun k_ hk => (⟨hk, hk.1.2⟩ : _ ∧ k_ ≠ gb514))) (fun _ hk => hk.2) (.int .i64 t515)) (fun _ hk => hk.2) (.int .i64 t516)) (fun _ hk => hk.2) (.slice Ao44 t517.length co44)) (fun _ hk => ⟨hk.1.2, hk.1.1.2⟩))))⟩; replace HO519 : Aside0 (Kd.R k35 35 w45 w.heap.size (fun _ => True) (.slice Ao44 t517.length co44) t517) := ⟨(by rw [hw]; exact (rx (Kd.R_mono (Kd.R_far (p := ⟨gb514, 5, none⟩) (Kd.R_far (p := ⟨gb514, 4, none⟩) (Kd.R_far (p := ⟨gb514, 3, none⟩) (Kd.R_types HO519.out BK514.out (by decide)) (fun _ hk => hk.2) (.int .i64 t515)) (fun _ hk => hk.2) (.int .i64 t516)) (fun _ hk => hk.2) (.slice Ao44 t517.length co44)) (fun _ hk => trivial))))⟩; replace BK500 : Aside0 (w45.heap[gb500]? = some (.cells #[.slice A0_0 l0_0.length c0_0, .slice (some ad513) l0_1.length c0_1] 25 (0, 0))) := ⟨(by rw [hw]; exact (by (with_reducible repeat first | apply kN | apply kD | apply kA); refine blk_far ?_ NB500_514.out _; (with_reducible repeat first | apply kN | apply kD | apply kA); refine blk_far ?_ NB500_514.out _; (with_reducible repeat first | apply kN | apply kD | apply kA); refine blk_far ?_ NB500_514.out _; (with_reducible repeat first | apply kN | apply kD | apply kA); exact BK500.out))⟩; replace BK501 : Aside0 (w45.heap[gb501]? = some (.cells #[.slice none 0 0, .slice none 0 0] 25 (0, 0))) := ⟨(by rw [hw]; exact (by (with_reducible repeat first | apply kN | apply kD | apply kA); refine blk_far ?_ NB501_514.out _; (with_reducible repeat first | apply kN | apply kD | apply kA); refine blk_far ?_ NB501_514.out _; (with_reducible repeat first | apply kN | apply kD | apply kA); refine blk_far ?_ NB501_514.out _; (with_reducible repeat first | apply kN | apply kD | apply kA); exact BK501.out))⟩; replace BK502 : Aside0 (w45.heap[gb502]? = some (.cells #[u503000, u503001] 25 (0, 0))) := ⟨(by rw [hw]; exact (by (with_reducible repeat first | apply kN | apply kD | apply kA); refine blk_far ?_ NB502_514.out _; (with_reducible repeat first | apply kN | apply kD | apply kA); refine blk_far ?_ NB502_514.out _; (with_reducible repeat first | apply kN | apply kD | apply kA); refine blk_far ?_ NB502_514.out _; (with_reducible repeat first | apply kN | apply kD | apply kA); exact BK502.out))⟩; replace BK514 : Aside0 (w45.heap[gb514]? = some (.cells #[.int .i64 ((rd_T53 l0_1 x29_2).f0), .int .i64 ((rd_T53 l0_1 x29_2).f1), .bool ((rd_T53 l0_1 x29_2).f2), .int .i64 t515, .int .i64 t516, .slice Ao44 t517.length co44] 53 (0, 0))) := ⟨(by rw [hw]; exact (by (with_reducible repeat first | apply kN | apply kD | apply kA); refine blk_put (cs := #[.int .i64 ((rd_T53 l0_1 x29_2).f0), .int .i64 ((rd_T53 l0_1 x29_2).f1), .bool ((rd_T53 l0_1 x29_2).f2), .int .i64 t515, .int .i64 t516, .slice A513_5 ((rd_T53 l0_1 x29_2).f3.f2).length c513_5]) ?_ 5 _ rfl; (with_reducible repeat first | apply kN | apply kD | apply kA); refine blk_put (cs := #[.int .i64 ((rd_T53 l0_1 x29_2).f0), .int .i64 ((rd_T53 l0_1 x29_2).f1), .bool ((rd_T53 l0_1 x29_2).f2), .int .i64 t515, .int .i64 ((rd_T53 l0_1 x29_2).f3.f1), .slice A513_5 ((rd_T53 l0_1 x29_2).f3.f2).length c513_5]) ?_ 4 _ rfl; (with_reducible repeat first | apply kN | apply kD | apply kA); refine blk_put (cs := #[.int .i64 ((rd_T53 l0_1 x29_2).f0), .int .i64 ((rd_T53 l0_1 x29_2).f1), .bool ((rd_T53 l0_1 x29_2).f2), .int .i64 ((rd_T53 l0_1 x29_2).f3.f0), .int .i64 ((rd_T53 l0_1 x29_2).f3.f1), .slice A513_5 ((rd_T53 l0_1 x29_2).f3.f2).length c513_5]) ?_ 3 _ rfl; (with_reducible repeat first | apply kN | apply kD | apply kA); exact BK514.out))⟩; replace HB : Aside0 (Below w.heap.size w w45) := ⟨(by rw [hw]; exact (bx HB.out))⟩; clear hw; have hnb46 := NB502_500.out; have hnc46 := NB500_502.out; have hnb47 := NB502_501.out; have hnc47 := NB501_502.out; have hcz48_0 := bc0 BK502.out; have hcz48_1 := bc1 BK502.out; have hfz48_0 := bF BK502.out 0; have hfz48_1 := bF BK502.out 1; have hcz49_0 := bc0 BK514.out; have hcz49_1 := bc1 BK514.out; have hcz49_2 := bc2 BK514.out; have hcz49_3 := bc3 BK514.out; have hcz49_4 := bc4 BK514.out; have hcz49_5 := bc5 BK514.out; have hfz49_0 := bF BK514.out 0; have hfz49_1 := bF BK514.out 1; have hfz49_2 := bF BK514.out 2; have hfz49_3 := bF BK514.out 3; have hfz49_4 := bF BK514.out 4; have hfz49_5 := bF BK514.out 5) | ((with_reducible refine gate_builtin (b := .append) (xs := #[.tmp 38, .tmp 40]) rfl ?_); at_builtin; refine Kd.R_append k53 (w0 := w) w.heap.size rfl (.tmp 38) (.tmp 40) 23 53 (.agg #[(.int .i64 0), (.int .i64 0), (.bool false), (.int .i64 0), (.int .i64 0), (.slice none 0 0)]) 64 rfl Tryd.underlying23 info53 rfl (by decide) (by omega) u503001 x503001_2 (⟨(rd_T53 l0_1 x29_2).f0, (rd_T53 l0_1 x29_2).f1, (rd_T53 l0_1 x29_2).f2, (⟨t515, t516, t517⟩ : S35)⟩ : S53) [.int .i64 ((rd_T53 l0_1 x29_2).f0), .int .i64 ((rd_T53 l0_1 x29_2).f1), .bool ((rd_T53 l0_1 x29_2).f2), .int .i64 t515, .int .i64 t516, .slice Ao44 t517.length co44] (fun k_ => k_ ≠ gb514) (fun k_ => ((fun k_ => k_ ≠ gb514)) k_ ∧ some k_ ≠ (u503001 : Value).ownBlock) rfl rfl ?aP (fun _ hk => hk) ?aF ?aO ?aB ?aS ?aL ?_; (case aP => exact k53_mkM _ _ _ (⟨(rd_T53 l0_1 x29_2).f0, (rd_T53 l0_1 x29_2).f1, (rd_T53 l0_1 x29_2).f2, (⟨t515, t516, t517⟩ : S35)⟩ : S53) (Kd.R_mono (Kd.R_types (Kd.R_apart' (HO519.out) (Kd.R_typed HO_503001.out) (by decide)) BK514.out (by decide)) (fun k_ hk => ⟨hk.2, hk.1.2⟩))); (case aB => exact (bx HB.out)); (case aF => exact (fun k_ hk => Kd.freshB (g := gb514) (o := .cells #[.int .i64 ((rd_T53 l0_1 x29_2).f0), .int .i64 ((rd_T53 l0_1 x29_2).f1), .bool ((rd_T53 l0_1 x29_2).f2), .int .i64 t515, .int .i64 t516, .slice Ao44 t517.length co44] 53 (0, 0)) (kx BK514.out) k_ hk)); (case aO => exact (rx (Kd.R_mono HO_503001.out (fun _ hk => hk.2)))); (case aS => exact (below_size (bx HB.out))); (case aL => have := LMc36.out; omega); intro v521 w50 ho hb hg hat; rw [← Ny520.out] at ho; replace HO_503000 := zm (Kd.R_over' (rx HO_503000.out) (Kd.R_typed (rx HO_503001.out)) (by decide) hg); replace BK500 := zm (blk_grown (g := gb500) (o := .cells #[.slice A0_0 l0_0.length c0_0, .slice (some ad513) l0_1.length c0_1] 25 (0, 0)) (kx BK500.out) hg (Kd.R_ne HO_503001.out BK500.out (by decide))); replace BK501 := zm (blk_grown (g := gb501) (o := .cells #[.slice none 0 0, .slice none 0 0] 25 (0, 0)) (kx BK501.out) hg (Kd.R_ne HO_503001.out BK501.out (by decide))); replace BK502 := zm (blk_grown (g := gb502) (o := .cells #[u503000, u503001] 25 (0, 0)) (kx BK502.out) hg (Kd.R_ne HO_503001.out BK502.out (by decide))); replace BK514 := zm (blk_grown (g := gb514) (o := .cells #[.int .i64 ((rd_T53 l0_1 x29_2).f0), .int .i64 ((rd_T53 l0_1 x29_2).f1), .bool ((rd_T53 l0_1 x29_2).f2), .int .i64 t515, .int .i64 t516, .slice Ao44 t517.length co44] 53 (0, 0)) (kx BK514.out) hg (Kd.R_away HO_503001.out (fun _ hk => hk.2))); replace HB := zm (hb); have HO522 := zm (ho); clear HO_503001 HO519 ho hb hg hat; obtain ⟨Ao51, co51, eo51⟩ := Kd.R_slice HO522.out; subst eo51; have hcz52_0 := bc0 BK502.out; have hcz52_1 := bc1 BK502.out; have hfz52_0 := bF BK502.out 0; have hfz52_1 := bF BK502.out 1))
       go_roundg k2
       case measure => have := HK1.out; have := HK2.out; omega
       case rel => exact ⟨(wrap64 (x29_2 + 1)), (y520), (.slice Ao51 y520.length co51), (by first | rfl | (simp; done) | (simp [*]; done)), H', ⟨by have := HK1.out; have := HK2.out; omega⟩, ⟨rx (Kd.R_mono (Kd.R_far (p := ⟨gb502, 1, none⟩) (Kd.R_types HO_503000.out BK502.out (by decide)) (fun _ hk => hk.2) (.slice Ao51 y520.length co51)) (fun _ hk => trivial))⟩, ⟨rx (Kd.R_mono (Kd.R_far (p := ⟨gb502, 1, none⟩) (Kd.R_types HO522.out BK502.out (by decide)) (fun _ hk => hk.2) (.slice Ao51 y520.length co51)) (fun _ hk => trivial))⟩, ⟨by (with_reducible repeat first | apply kN | apply kD | apply kA); refine blk_far ?_ NB500_502.out _; (with_reducible repeat first | apply kN | apply kD | apply kA); exact BK500.out⟩, ⟨by (with_reducible repeat first | apply kN | apply kD | apply kA); refine blk_far ?_ NB501_502.out _; (with_reducible repeat first | apply kN | apply kD | apply kA); exact BK501.out⟩, ⟨by (with_reducible repeat first | apply kN | apply kD | apply kA); refine blk_put (cs := #[u503000, u503001]) ?_ 1 _ rfl; (with_reducible repeat first | apply kN | apply kD | apply kA); exact BK502.out⟩, ⟨bx HB.out⟩⟩
      rw [if_neg c36] at H
      exact absurd H (by simp)
     rw [if_neg c34] at H
     exact absurd H (by simp)
    rw [if_neg c33] at H
    exact absurd H (by simp)
   rw [if_neg c32] at H
   have c32b0 := decide_eq_false c32
   try (have c32b9 := c32b0; rw [hl513_5] at c32b9)
   try (have c32b9 := c32b0; rw [hl503_4] at c32b9)
   clear c32
   simp only [Option.some.injEq, Prod.mk.injEq] at H
   obtain ⟨rfl, rfl⟩ := H
   have hnb53 := NB502_500.out
   have hnc53 := NB500_502.out
   have hnb54 := NB502_501.out
   have hnc54 := NB501_502.out
   have hcz55_0 := bc0 BK502.out
   have hcz55_1 := bc1 BK502.out
   have hfz55_0 := bF BK502.out 0
   have hfz55_1 := bF BK502.out 1
   obtain ⟨Ao56, co56, eo56⟩ := Kd.R_slice HO_503000.out
   subst eo56
   have hnb57 := NB501_500.out
   have hnc57 := NB500_501.out
   have hcz58_0 := bc0 BK501.out
   have hcz58_1 := bc1 BK501.out
   have hfz58_0 := bF BK501.out 0
   have hfz58_1 := bF BK501.out 1
   obtain ⟨Ao59, co59, eo59⟩ := Kd.R_slice HO_503001.out
   subst eo59
   go_wp2
   refine bodyPost_ret (results_cell_row rfl _ _ gb501 25 #[.slice Ao56 x503000_1.length co56, .slice Ao59 x503001_2.length co59] (0, 0) _ rfl (by (with_reducible repeat first | apply kN | apply kD | apply kA); refine blk_put (cs := #[.slice Ao56 x503000_1.length co56, .slice none 0 0]) ?_ 1 _ rfl; (with_reducible repeat first | apply kN | apply kD | apply kA); refine blk_put (cs := #[.slice none 0 0, .slice none 0 0]) ?_ 0 _ rfl; (with_reducible repeat first | apply kN | apply kD | apply kA); exact BK501.out) Tryd.underlying25 rfl (by kernel_rfl)) rfl ?_
   exact ⟨_, _, xe, rx (Kd.R_mono (Kd.R_far (p := ⟨gb501, 1, none⟩) (Kd.R_far (p := ⟨gb501, 0, none⟩) (Kd.R_types HO_503000.out BK501.out (by decide)) (fun _ hk => hk.2) (.slice Ao56 x503000_1.length co56)) (fun _ hk => hk.2) (.slice Ao59 x503001_2.length co59)) (fun _ hk => trivial)), rx (Kd.R_mono (Kd.R_far (p := ⟨gb501, 1, none⟩) (Kd.R_far (p := ⟨gb501, 0, none⟩) (Kd.R_types HO_503001.out BK501.out (by decide)) (fun _ hk => hk.2) (.slice Ao56 x503000_1.length co56)) (fun _ hk => hk.2) (.slice Ao59 x503001_2.length co59)) (fun _ hk => trivial)), bx HB.out⟩

end Go.Proofs.YtdaeiicdpfghlaaDoor.R
