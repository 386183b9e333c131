import Derived.Test.YtdaeiicdpfghlaaDoorSx0
import Derived.Test.YtdaeiicdpfghlaaDoorSx3
import Derived.Test.YtdaeiicdpfghlaaDoorSx5
import Derived.Test.YtdaeiicdpfghlaaDoorSx7
namespace Go.Proofs.YtdaeiicdpfghlaaDoor.R
open Go.RowKit Go.Proofs.YtdaeiicdpfghlaaDoorW.PrintWords Go.Proofs.YtdaeiicdpfghlaaDoorW.PrintLast Go.Proofs.YtdaeiicdpfghlaaDoorW.PrintMore
attribute [local go_sem] max2_int min2_int max_two min_two max_three min_three max_four min_four   -- for this text's walks alone
set_option linter.unusedVariables false
set_option linter.unusedSimpArgs false

mutual
def treenailref05_Reach.l0 : Nat → List Bool → Int → Int → List (S37) → List (S53) → Option (List Bool)
 | 0, _, _, _, _, _ => none
 | k + 1, x5, x17, x18, x323000, x323001 => if x18 < x17 then (treenailref05_Reach.l1 k x5 x17 x18 x323001 (x323001.length : Int) 0 x323000 x323001) else (some x5)
def treenailref05_Reach.l1 : Nat → List Bool → Int → Int → List (S53) → Int → Int → List (S37) → List (S53) → Option (List Bool)
 | 0, _, _, _, _, _, _, _, _ => none
 | k + 1, x5, x17, x18, x21, x22, x23, x323000, x323001 => if x23 < x22 then (if 0 ≤ x23 then (if x23 < (x21.length : Int) then (if 0 ≤ ((rd_T53 x21 x23).f0) then (if ((rd_T53 x21 x23).f0) < (x5.length : Int) then (if rdOf false x5 ((rd_T53 x21 x23).f0) = true then (if 0 ≤ ((rd_T53 x21 x23).f1) then (if ((rd_T53 x21 x23).f1) < (x5.length : Int) then (treenailref05_Reach.l1 k (x5.set (((rd_T53 x21 x23).f1) : Int).toNat true) x17 x18 x21 x22 (wrap64 (x23 + 1)) x323000 x323001) else (none)) else (none)) else (treenailref05_Reach.l1 k x5 x17 x18 x21 x22 (wrap64 (x23 + 1)) x323000 x323001)) else (none)) else (none)) else (none)) else (none)) else (treenailref05_Reach.l0 k x5 x17 (wrap64 (x18 + 1)) x323000 x323001)
end
def treenailref05_Reach.f (k : Nat) (l0_0 : List (S37)) (l0_1 : List (S53)) (a1 : Int) : Option (List Bool) := if 0 ≤ (l0_0.length : Int) then (if ((l0_0.length : Int) : Int).toNat ≤ 281474976710656 then ((some (List.replicate ((l0_0.length : Int) : Int).toNat false : List Bool)).bind fun y323 => (if 0 ≤ a1 then (if a1 < (y323.length : Int) then (treenailref05_Reach.l0 k (y323.set (a1 : Int).toNat true) (l0_0.length : Int) 0 l0_0 l0_1) else (none)) else (none))) else (none)) else (none)
set_option maxRecDepth 100000 in
theorem treenailref05_Reach.mono_l : ∀ k, (∀ y0 y1 y2 y3 y4, LeO (treenailref05_Reach.l0 k y0 y1 y2 y3 y4) (treenailref05_Reach.l0 (k + 1) y0 y1 y2 y3 y4)) ∧ (∀ y0 y1 y2 y3 y4 y5 y6 y7, LeO (treenailref05_Reach.l1 k y0 y1 y2 y3 y4 y5 y6 y7) (treenailref05_Reach.l1 (k + 1) y0 y1 y2 y3 y4 y5 y6 y7))
 | 0 => ⟨fun _ _ _ _ _ r h => by first | (cases h; done) | simp [treenailref05_Reach.l0] at h, fun _ _ _ _ _ _ _ _ r h => by first | (cases h; done) | simp [treenailref05_Reach.l1] at h⟩
 | k + 1 => by
  obtain ⟨ih0, ih1⟩ := treenailref05_Reach.mono_l k
  refine ⟨?_, ?_⟩
  all_goals intros
  all_goals first | unfold treenailref05_Reach.l0 | unfold treenailref05_Reach.l1
  all_goals repeat' first
  | (with_reducible exact ih0 _ _ _ _ _)
  | (with_reducible exact ih1 _ _ _ _ _ _ _ _)
  | (with_reducible exact LeO.refl _)
  | (with_reducible exact LeO.none _)
  | (with_reducible refine LeO.ite ?_ ?_)
  | (with_reducible refine LeO.bind ?_ (fun _ => ?_))
  | refine LeO.ite ?_ ?_
  | refine LeO.bind ?_ (fun _ => ?_)
set_option maxRecDepth 100000 in
theorem treenailref05_Reach.mono : ∀ a0 a1 a2 k, LeO (treenailref05_Reach.f k a0 a1 a2) (treenailref05_Reach.f (k + 1) a0 a1 a2) := by
 intro a0 a1 a2 k
 obtain ⟨ih0, ih1⟩ := treenailref05_Reach.mono_l k
 unfold treenailref05_Reach.f
 repeat' first
 | (with_reducible exact ih0 _ _ _ _ _)
 | (with_reducible exact ih1 _ _ _ _ _ _ _ _)
 | (with_reducible exact LeO.refl _)
 | (with_reducible exact LeO.none _)
 | (with_reducible refine LeO.ite ?_ ?_)
 | (with_reducible refine LeO.bind ?_ (fun _ => ?_))
 | refine LeO.ite ?_ ?_
 | refine LeO.bind ?_ (fun _ => ?_)
set_option maxHeartbeats 8000000 in
set_option maxRecDepth 100000 in
theorem treenailref05_Reach.calls (k : Nat) (A0_0 : Option Addr) (c0_0 : Nat) (l0_0 : List (S37)) (A0_1 : Option Addr) (c0_1 : Nat) (l0_1 : List (S53)) (a1 : Int) (r : List Bool) (w : World) (hr0_0 : Kd.C k37 w A0_0 l0_0.length l0_0) (hc0_0 : l0_0.length ≤ c0_0) (hr0_1 : Kd.C k53 w A0_1 l0_1.length l0_1) (hc0_1 : l0_1.length ≤ c0_1) (h : treenailref05_Reach.f k l0_0 l0_1 a1 = some r) :
  Calls Tryd.prog 17 #[.agg #[.slice A0_0 l0_0.length c0_0, .slice A0_1 l0_1.length c0_1], .int .i64 a1] w fun e w' => ∃ v0_ : Value, e = .returned (v0_) ∧ Kd.R Kd.bool 4 w' w.heap.size (fun _ => True) v0_ r ∧ Below w.heap.size w w' := by
 have hu25 := Tryd.underlying25
 have hu53 := Tryd.underlying53
 have HR0_0 := zm hr0_0
 have HC0_0 := zm hc0_0
 clear hr0_0 hc0_0
 have HR0_1 := zm hr0_1
 have HC0_1 := zm hc0_1
 clear hr0_1 hc0_1
 have HB := zm (Below.refl w.heap.size w)
 have H : (if 0 ≤ (l0_0.length : Int) then (if ((l0_0.length : Int) : Int).toNat ≤ 281474976710656 then ((some (List.replicate ((l0_0.length : Int) : Int).toNat false : List Bool)).bind fun y323 => (if 0 ≤ a1 then (if a1 < (y323.length : Int) then (treenailref05_Reach.l0 k (y323.set (a1 : Int).toNat true) (l0_0.length : Int) 0 l0_0 l0_1) else (none)) else (none))) else (none)) else (none)) = some r := h
 clear h
 by_cases c3 : 0 ≤ (l0_0.length : Int)
 ·rw [if_pos c3] at H
  have c3b0 := eq_true c3
  have c3b1 := decide_eq_true c3
  clear c3
  by_cases c4 : ((l0_0.length : Int) : Int).toNat ≤ 281474976710656
  ·rw [if_pos c4] at H
   have c4b0 := eq_true c4
   have c4b1 := decide_eq_true c4
   clear c4
   obtain ⟨y323, hy323⟩ : ∃ y_ : List Bool, y_ = (List.replicate ((l0_0.length : Int) : Int).toNat false) := ⟨_, rfl⟩
   replace H : (if 0 ≤ a1 then (if a1 < (y323.length : Int) then (treenailref05_Reach.l0 k (y323.set (a1 : Int).toNat true) (l0_0.length : Int) 0 l0_0 l0_1) else (none)) else (none)) = some r := by first | (rw [hy323]; with_reducible exact H) | (have H2_ := (Option.bind_some _ _).symm.trans H; rw [hy323]; with_reducible exact H2_) | (have H2_ := (Option.bind_some _ _).symm.trans H; with_reducible exact H2_) | with_reducible exact H | (rw [hy323]; exact H) | exact H
   have Ny323 := zm hy323
   clear hy323
   by_cases c5 : 0 ≤ a1
   ·rw [if_pos c5] at H
    have c5b0 := decide_eq_true c5
    clear c5
    by_cases c6 : a1 < (y323.length : Int)
    ·rw [if_pos c6] at H
     have c6b0 := decide_eq_true c6
     clear c6
     obtain ⟨y326, hy326⟩ : ∃ y_ : List Bool, y_ = (y323.set (a1 : Int).toNat true) := ⟨_, rfl⟩
     replace H : (treenailref05_Reach.l0 k y326 (l0_0.length : Int) 0 l0_0 l0_1) = some r := by first | (rw [hy326]; with_reducible exact H) | (have H2_ := (Option.bind_some _ _).symm.trans H; rw [hy326]; with_reducible exact H2_) | (have H2_ := (Option.bind_some _ _).symm.trans H; with_reducible exact H2_) | with_reducible exact H | (rw [hy326]; exact H) | exact H
     have Ny326 := zm hy326
     clear hy326
     have H' := zm H
     clear H
     go_enter Tryd.func17, Tryd.ntmps17
     go_wp2_with (first | ((with_reducible refine gate_dst (N := 2) rfl ?_); refine box_event ?hg (N := 2) ?hd (cs := #[.slice A0_0 l0_0.length c0_0, .slice A0_1 l0_1.length c0_1]) (t := 25) ?hr ?_; (case hd => rfl); (case hg => rfl); (case hr => first | (go_simp; done) | (go_simp; rfl)); intro gb322 hg w8 hbox hb; have BK322 := zm (hbox); have GW322 := zm ((by rw [hg]; exact (below_size (bx HB.out)) : w.heap.size ≤ gb322)); have GE322 := zm ((by rw [hg]; exact (below_size (bx HB.out)) : w.heap.size ≤ gb322)); replace HB := zm (below_step (bx HB.out) hb); clear hb hbox hg; have hcz9_0 := bc0 BK322.out; have hcz9_1 := bc1 BK322.out; have hfz9_0 := bF BK322.out 0; have hfz9_1 := bF BK322.out 1) | ((with_reducible refine gate_dst (N := 11) rfl ?_); refine Kd.R_make Kd.bool _ 4 rfl (N := 11) rfl 41 _ _ rfl (l0_0.length : Int) rfl rfl Tryd.underlying41 (.bool false) 1 info4 rfl (by decide) (by omega) false (ok := fun _ => True) (okp := fun _ => True) rfl (fun _ hk => hk) trivial (od) (Nat.le_trans (Nat.mul_le_mul_right _ (od : (l0_0.length : Int).toNat ≤ 281474976710656)) (by omega)) (Below.refl _ _) (Nat.le_refl _) ?_; intro v324 w10 ho11 hb hg_ hnew_; clear hg_ hnew_; (first | rw [← Ny323.out] at ho11 | (simp only [Int.reduceToNat] at ho11; rw [← Ny323.out] at ho11)); have HO325 := zm (Kd.R_lower ho11 (below_size (bx HB.out))); replace BK322 := zm (kB (kx BK322.out) hb); replace HB := zm (below_step (bx HB.out) hb); clear hb ho11; have p7 : 0 ≤ (a1 : Int) := od; have q7 : (a1 : Int) < ((y323.length : Int) : Int) := od; obtain ⟨go7, co7, eo7, gb7, gl7, cl7, HG7⟩ := Kd.R_form HO325.out (by omega); (first | cases eo7 | (injection eo7 with ea_ en_ ec_; (first | subst ea_ | (injection ea_ with ea_; subst ea_)); subst ec_; clear en_)); have GB7 := zm gb7; have GG7 := zm HG7; clear gb7 gl7 HG7; obtain ⟨hx7_0, hf7_0⟩ := Kd.R_celln false HO325.out (a1 : Int) p7 q7; replace p7 := eq_true p7; replace q7 := eq_true q7; obtain ⟨hy12_, hz12_⟩ := Kd.R_celln false HO325.out (a1 : Int) (od) (od); have HP12 := Kd.R_putg HO325.out (a1 : Int) true) | ((with_reducible refine gate_store (t := 4) (p := 14) rfl ?_); refine store_event (t := 4) (p := 14) (v := ?vo_w13) (w1 := (w10.setCell ⟨go7, (a1 : Int).toNat, none⟩ (.bool true))) ?hg ?ho ?hn ?hr ?_; (case ho => rfl); (case hg => rfl); (case hn => rfl); (case hr => first | (go_simp; done) | (go_simp; rfl)); intro w13 hw; have hg : w10.grownBy w13 (some go7) := (by rw [hw]; exact HP12.2); have hp_ : Kd.R Kd.bool 4 w13 w.heap.size (fun _ => True) (.slice (some ⟨go7, 0, none⟩) y323.length co7) y326 := (by rw [hw, Ny326.out]; exact HP12.1); clear HP12; replace BK322 := zm (blk_grown (g := gb322) (o := .cells #[.slice A0_0 l0_0.length c0_0, .slice A0_1 l0_1.length c0_1] 25 (0, 0)) (kx BK322.out) hg (Kd.R_ne HO325.out BK322.out (by decide))); replace HO325 := zm (hp_); replace HB := zm ((by rw [hw]; exact below_set (HB.out) GB7.out : Below w.heap.size w w13)); clear hg hw hp_; have hcz14_0 := bc0 BK322.out; have hcz14_1 := bc1 BK322.out; have hfz14_0 := bF BK322.out 0; have hfz14_1 := bF BK322.out 1))
     go_loopg [18] k (fun kq v18 w' => ∃ (x5_1 : List Bool) (x18_1 : Int), v18 = .int .i64 x18_1 ∧ Aside0 (treenailref05_Reach.l0 kq x5_1 (l0_0.length : Int) x18_1 l0_0 l0_1 = some r) ∧ Aside0 (kq ≤ k) ∧ Aside0 (Kd.R Kd.bool 4 w' w.heap.size (fun _ => True) (.slice (some ⟨go7, 0, none⟩) y323.length co7) x5_1) ∧ Aside0 (w'.heap[gb322]? = some (.cells #[(.slice A0_0 l0_0.length c0_0), (.slice A0_1 l0_1.length c0_1)] 25 (0, 0))) ∧ Aside0 (Below w.heap.size w w'))
     case atStart => exact ⟨(y326), (0), (by first | rfl | (simp; done) | (simp [*]; done)), H', ⟨Nat.le_refl _⟩, ⟨rx HO325.out⟩, ⟨kx BK322.out⟩, ⟨bx HB.out⟩⟩
     clear H'
     try clear c1
     try clear p2
     try clear c3
     try clear c3b0
     try clear c3b1
     try clear c4
     try clear c4b0
     try clear c4b1
     try clear c5
     try clear c5b0
     try clear c6
     try clear c6b0
     try clear p7
     try clear q7
     try clear hx7
     try clear hf7
     try clear hx7_0
     try clear p7
     try clear q7
     try clear BK322
     obtain ⟨x5_1, x18_1, rfl, HA, HK1, HO_5, BK322, HB⟩ := hrel
     have hl5_1 := (Kd.R_reads' HO_5.out).1
     rw [hl5_1] at HO_5
     (try simp only [hl5_1])
     (try simp only [hl5_1] at BK322)
     cases gk with
     | zero => exact absurd HA.out (by first | (intro h_; cases h_; done) | simp [treenailref05_Reach.l0])
     | succ k1 =>
      have H := HA.out
      clear HA
      simp only [treenailref05_Reach.l0] at H
      by_cases c15 : x18_1 < (l0_0.length : Int)
      ·rw [if_pos c15] at H
       have c15b0 := decide_eq_true c15
       clear c15
       have H' := zm H
       clear H
       have hcz16_0 := bc0 BK322.out
       have hcz16_1 := bc1 BK322.out
       have hfz16_0 := bF BK322.out 0
       have hfz16_1 := bF BK322.out 1
       go_wp2
       go_loopg [23] k1 (fun kq v23 w' => ∃ (x5_2 : List Bool) (x23_2 : Int), v23 = .int .i64 x23_2 ∧ Aside0 (treenailref05_Reach.l1 kq x5_2 (l0_0.length : Int) x18_1 l0_1 (l0_1.length : Int) x23_2 l0_0 l0_1 = some r) ∧ Aside0 (kq ≤ k1) ∧ Aside0 (Kd.R Kd.bool 4 w' w.heap.size (fun _ => True) (.slice (some ⟨go7, 0, none⟩) x5_1.length co7) x5_2) ∧ Aside0 (w'.heap[gb322]? = some (.cells #[(.slice A0_0 l0_0.length c0_0), (.slice A0_1 l0_1.length c0_1)] 25 (0, 0))) ∧ Aside0 (Below w.heap.size w w'))
       case atStart => exact ⟨(x5_1), (0), (by first | rfl | (simp; done) | (simp [*]; done)), H', ⟨Nat.le_refl _⟩, ⟨by (try simp only [hl5_1]); (with_reducible repeat (first | apply Kd.R_alloc | apply Kd.R_drewN | apply Kd.R_drew)); exact HO_5.out⟩, ⟨by (try simp only [hl5_1]); (with_reducible repeat first | apply kN | apply kD | apply kA); exact BK322.out⟩, ⟨bx HB.out⟩⟩
       clear H'
       try clear c1
       try clear p2
       try clear c3
       try clear c3b0
       try clear c3b1
       try clear c4
       try clear c4b0
       try clear c4b1
       try clear c5
       try clear c5b0
       try clear c6
       try clear c6b0
       try clear p7
       try clear q7
       try clear hx7
       try clear hf7
       try clear c15
       try clear c15b0
       try clear hx7_0
       try clear p2
       try clear p7
       try clear q7
       try clear BK322
       obtain ⟨x5_2, x23_2, rfl, HA, HK2, HO_5, BK322, HB⟩ := hrel
       have hl5_2 := (Kd.R_reads' HO_5.out).1
       rw [hl5_2] at HO_5
       (try simp only [hl5_2])
       (try simp only [hl5_2] at BK322)
       cases gk with
       | zero => exact absurd HA.out (by first | (intro h_; cases h_; done) | simp [treenailref05_Reach.l1])
       | succ k2 =>
        have H := HA.out
        clear HA
        simp only [treenailref05_Reach.l1] at H
        by_cases c17 : x23_2 < (l0_1.length : Int)
        ·rw [if_pos c17] at H
         have c17b0 := decide_eq_true c17
         clear c17
         by_cases c18 : 0 ≤ x23_2
         ·rw [if_pos c18] at H
          have c18b0 := decide_eq_true c18
          clear c18
          by_cases c19 : x23_2 < (l0_1.length : Int)
          ·rw [if_pos c19] at H
           have c19b0 := decide_eq_true c19
           clear c19
           by_cases c20 : 0 ≤ ((rd_T53 l0_1 x23_2).f0)
           ·rw [if_pos c20] at H
            have c20b0 := decide_eq_true c20
            clear c20
            by_cases c21 : ((rd_T53 l0_1 x23_2).f0) < (x5_2.length : Int)
            ·rw [if_pos c21] at H
             have c21b0 := decide_eq_true c21
             clear c21
             obtain ⟨bq22, hbq22⟩ : ∃ b_ : Bool, b_ = (rdOf false x5_2 ((rd_T53 l0_1 x23_2).f0)) := ⟨_, rfl⟩
             replace H : (if bq22 = true then (if 0 ≤ ((rd_T53 l0_1 x23_2).f1) then (if ((rd_T53 l0_1 x23_2).f1) < (x5_2.length : Int) then (treenailref05_Reach.l1 k2 (x5_2.set (((rd_T53 l0_1 x23_2).f1) : Int).toNat true) (l0_0.length : Int) x18_1 l0_1 (l0_1.length : Int) (wrap64 (x23_2 + 1)) l0_0 l0_1) else (none)) else (none)) else (treenailref05_Reach.l1 k2 x5_2 (l0_0.length : Int) x18_1 l0_1 (l0_1.length : Int) (wrap64 (x23_2 + 1)) l0_0 l0_1)) = some r := by rw [← hbq22] at H; exact H
             have Nbq22 := zm hbq22
             clear hbq22
             by_cases c23 : bq22 = true
             ·subst c23
              rw [if_pos rfl] at H
              by_cases c24 : 0 ≤ ((rd_T53 l0_1 x23_2).f1)
              ·rw [if_pos c24] at H
               have c24b0 := decide_eq_true c24
               clear c24
               by_cases c25 : ((rd_T53 l0_1 x23_2).f1) < (x5_2.length : Int)
               ·rw [if_pos c25] at H
                have c25b0 := decide_eq_true c25
                clear c25
                obtain ⟨y330, hy330⟩ : ∃ y_ : List Bool, y_ = (x5_2.set (((rd_T53 l0_1 x23_2).f1) : Int).toNat true) := ⟨_, rfl⟩
                replace H : (treenailref05_Reach.l1 k2 y330 (l0_0.length : Int) x18_1 l0_1 (l0_1.length : Int) (wrap64 (x23_2 + 1)) l0_0 l0_1) = some r := by first | (rw [hy330]; with_reducible exact H) | (have H2_ := (Option.bind_some _ _).symm.trans H; rw [hy330]; with_reducible exact H2_) | (have H2_ := (Option.bind_some _ _).symm.trans H; with_reducible exact H2_) | with_reducible exact H | (rw [hy330]; exact H) | exact H
                have Ny330 := zm hy330
                clear hy330
                have H' := zm H
                clear H
                have p327 : 0 ≤ (x23_2 : Int) := od
                have q327 : x23_2 < (l0_1.length : Int) := od
                obtain ⟨ad327, A327_5, c327_5, e327, hx327_0, hx327_1, hx327_2, hx327_3, hx327_4, hx327_5, hl327_5, hi327_5⟩ := at_T53 HR0_1.out x23_2 p327 q327
                (try rw [← Nbq22.out] at hx327_2)
                (try rw [← Nbq22.out] at hw327_2)
                cases e327
                replace hx327_0 := cb HB.out hx327_0
                replace hx327_1 := cb HB.out hx327_1
                replace hx327_2 := cb HB.out hx327_2
                replace hx327_3 := cb HB.out hx327_3
                replace hx327_4 := cb HB.out hx327_4
                replace hx327_5 := cb HB.out hx327_5
                have HR327_5 := zm hi327_5
                have HC327_5 := zm hl327_5
                clear hi327_5 hl327_5
                replace p327 := eq_true p327
                replace q327 := eq_true q327
                go_wp2_with (first | ((with_reducible refine gate_dst (N := 7) rfl ?_); refine box_event ?hg (N := 7) ?hd (cs := #[.int .i64 0, .int .i64 0, .bool false, .int .i64 0, .int .i64 0, .slice none 0 0]) (t := 53) ?hr ?_; (case hd => rfl); (case hg => rfl); (case hr => first | (go_simp; done) | (go_simp; rfl)); intro gb328 hg w27 hbox hb; replace HO_5 := zm (Kd.R_below (rx HO_5.out) hb); have BK328 := zm (hbox); have GW328 := zm ((by rw [hg]; exact (below_size (bx HB.out)) : w.heap.size ≤ gb328)); have GE328 := zm ((by rw [hg]; exact (below_size (bx HB.out)) : w.heap.size ≤ gb328)); replace HB := zm (below_step (bx HB.out) hb); have NB322_328 := zm ((by rw [hg]; exact Nat.ne_of_lt (blk_lt (g := gb322) (o := .cells #[.slice A0_0 l0_0.length c0_0, .slice (some ad327) l0_1.length c0_1] 25 (0, 0)) (kx BK322.out)) : gb322 ≠ gb328)); have NB328_322 := zm ((by rw [hg]; exact Nat.ne_of_gt (blk_lt (g := gb322) (o := .cells #[.slice A0_0 l0_0.length c0_0, .slice (some ad327) l0_1.length c0_1] 25 (0, 0)) (kx BK322.out)) : gb328 ≠ gb322)); replace BK322 := zm (kB (kx BK322.out) hb); clear hb hbox hg; have hnb28 := NB328_322.out; have hnc28 := NB322_328.out; have hcz29_0 := bc0 BK328.out; have hcz29_1 := bc1 BK328.out; have hcz29_2 := bc2 BK328.out; have hcz29_3 := bc3 BK328.out; have hcz29_4 := bc4 BK328.out; have hcz29_5 := bc5 BK328.out; have hfz29_0 := bF BK328.out 0; have hfz29_1 := bF BK328.out 1; have hfz29_2 := bF BK328.out 2; have hfz29_3 := bF BK328.out 3; have hfz29_4 := bF BK328.out 4; have hfz29_5 := bF BK328.out 5) | ((with_reducible refine gate_store (t := 53) (p := 7) rfl ?_); refine store_event (t := 53) (p := 7) (v := ?vo_w30) (w1 := ((((((w27.setCell ⟨gb328, 0, none⟩ (.int .i64 ((rd_T53 l0_1 x23_2).f0))).setCell ⟨gb328, 1, none⟩ (.int .i64 ((rd_T53 l0_1 x23_2).f1))).setCell ⟨gb328, 2, none⟩ (.bool ((rd_T53 l0_1 x23_2).f2))).setCell ⟨gb328, 3, none⟩ (.int .i64 ((rd_T53 l0_1 x23_2).f3.f0))).setCell ⟨gb328, 4, none⟩ (.int .i64 ((rd_T53 l0_1 x23_2).f3.f1))).setCell ⟨gb328, 5, none⟩ (.slice A327_5 ((rd_T53 l0_1 x23_2).f3.f2).length c327_5))) ?hg ?ho ?hn ?hr ?_; (case ho => rfl); (case hg => rfl); (case hn => rfl); (case hr => first | (go_simp; done) | (go_simp; rfl)); intro w30 hw; replace HO_5 : Aside0 (Kd.R Kd.bool 4 w30 w.heap.size (fun _ => True) (.slice (some ⟨go7, 0, none⟩) x5_2.length co7) x5_2) := ⟨(by rw [hw]; exact (rx (Kd.R_mono (Kd.R_far (p := ⟨gb328, 5, none⟩) (Kd.R_far (p := ⟨gb328, 4, none⟩) (Kd.R_far (p := ⟨gb328, 3, none⟩) (Kd.R_far (p := ⟨gb328, 2, none⟩) (Kd.R_far (p := ⟨gb328, 1, none⟩) (Kd.R_far (p := ⟨gb328, 0, none⟩) (Kd.R_types HO_5.out BK328.out (by decide)) (fun _ hk => hk.2) (.int .i64 ((rd_T53 l0_1 x23_2).f0))) (fun _ hk => hk.2) (.int .i64 ((rd_T53 l0_1 x23_2).f1))) (fun _ hk => hk.2) (.bool ((rd_T53 l0_1 x23_2).f2))) (fun _ hk => hk.2) (.int .i64 ((rd_T53 l0_1 x23_2).f3.f0))) (fun _ hk => hk.2) (.int .i64 ((rd_T53 l0_1 x23_2).f3.f1))) (fun _ hk => hk.2) (.slice A327_5 ((rd_T53 l0_1 x23_2).f3.f2).length c327_5)) (fun _ hk => trivial))))⟩; replace BK322 : Aside0 (w30.heap[gb322]? = some (.cells #[.slice A0_0 l0_0.length c0_0, .slice (some ad327) l0_1.length c0_1] 25 (0, 0))) := ⟨(by rw [hw]; exact (by (with_reducible repeat first | apply kN | apply kD | apply kA); refine blk_far ?_ NB322_328.out _; (with_reducible repeat first | apply kN | apply kD | apply kA); refine blk_far ?_ NB322_328.out _; (with_reducible repeat first | apply kN | apply kD | apply kA); refine blk_far ?_ NB322_328.out _; (with_reducible repeat first | apply kN | apply kD | apply kA); refine blk_far ?_ NB322_328.out _; (with_reducible repeat first | apply kN | apply kD | apply kA); refine blk_far ?_ NB322_328.out _; (with_reducible repeat first | apply kN | apply kD | apply kA); refine blk_far ?_ NB322_328.out _; (with_reducible repeat first | apply kN | apply kD | apply kA); exact BK322.out))⟩; replace BK328 : Aside0 (w30.heap[gb328]? = some (.cells #[.int .i64 ((rd_T53 l0_1 x23_2).f0), .int .i64 ((rd_T53 l0_1 x23_2).f1), .bool ((rd_T53 l0_1 x23_2).f2), .int .i64 ((rd_T53 l0_1 x23_2).f3.f0), .int .i64 ((rd_T53 l0_1 x23_2).f3.f1), .slice A327_5 ((rd_T53 l0_1 x23_2).f3.f2).length c327_5] 53 (0, 0))) := ⟨(by rw [hw]; exact (by (with_reducible repeat first | apply kN | apply kD | apply kA); refine blk_put (cs := #[.int .i64 ((rd_T53 l0_1 x23_2).f0), .int .i64 ((rd_T53 l0_1 x23_2).f1), .bool ((rd_T53 l0_1 x23_2).f2), .int .i64 ((rd_T53 l0_1 x23_2).f3.f0), .int .i64 ((rd_T53 l0_1 x23_2).f3.f1), .slice none 0 0]) ?_ 5 _ rfl; (with_reducible repeat first | apply kN | apply kD | apply kA); refine blk_put (cs := #[.int .i64 ((rd_T53 l0_1 x23_2).f0), .int .i64 ((rd_T53 l0_1 x23_2).f1), .bool ((rd_T53 l0_1 x23_2).f2), .int .i64 ((rd_T53 l0_1 x23_2).f3.f0), .int .i64 0, .slice none 0 0]) ?_ 4 _ rfl; (with_reducible repeat first | apply kN | apply kD | apply kA); refine blk_put (cs := #[.int .i64 ((rd_T53 l0_1 x23_2).f0), .int .i64 ((rd_T53 l0_1 x23_2).f1), .bool ((rd_T53 l0_1 x23_2).f2), .int .i64 0, .int .i64 0, .slice none 0 0]) ?_ 3 _ rfl; (with_reducible repeat first | apply kN | apply kD | apply kA); refine blk_put (cs := #[.int .i64 ((rd_T53 l0_1 x23_2).f0), .int .i64 ((rd_T53 l0_1 x23_2).f1), .bool false, .int .i64 0, .int .i64 0, .slice none 0 0]) ?_ 2 _ rfl; (with_reducible repeat first | apply kN | apply kD | apply kA); refine blk_put (cs := #[.int .i64 ((rd_T53 l0_1 x23_2).f0), .int .i64 0, .bool false, .int .i64 0, .int .i64 0, .slice none 0 0]) ?_ 1 _ rfl; (with_reducible repeat first | apply kN | apply kD | apply kA); refine blk_put (cs := #[.int .i64 0, .int .i64 0, .bool false, .int .i64 0, .int .i64 0, .slice none 0 0]) ?_ 0 _ rfl; (with_reducible repeat first | apply kN | apply kD | apply kA); exact BK328.out))⟩; replace HB : Aside0 (Below w.heap.size w w30) := ⟨(by rw [hw]; exact (bx HB.out))⟩; clear hw; have hcz31_0 := bc0 BK328.out; have hcz31_1 := bc1 BK328.out; have hcz31_2 := bc2 BK328.out; have hcz31_3 := bc3 BK328.out; have hcz31_4 := bc4 BK328.out; have hcz31_5 := bc5 BK328.out; have hfz31_0 := bF BK328.out 0; have hfz31_1 := bF BK328.out 1; have hfz31_2 := bF BK328.out 2; have hfz31_3 := bF BK328.out 3; have hfz31_4 := bF BK328.out 4; have hfz31_5 := bF BK328.out 5; have p329 : 0 ≤ (((rd_T53 l0_1 x23_2).f0) : Int) := od; have q329 : ((rd_T53 l0_1 x23_2).f0) < (x5_2.length : Int) := od; obtain ⟨ad329, e329, hx329_0⟩ := Kd.at_bool (Kd.R_reads' HO_5.out).2.2 ((rd_T53 l0_1 x23_2).f0) p329 q329; (try rw [← Nbq22.out] at hx329_0); (try rw [← Nbq22.out] at hw329_0); obtain rfl : (⟨go7, 0, none⟩ : Addr) = ad329 := (by injection e329); (first | simp only [add_plain] at hx329_0 | simp only [add_at] at hx329_0 | simp only [Addr.add, Nat.zero_add] at hx329_0 | skip); replace p329 := eq_true p329; replace q329 := eq_true q329; have p26 : 0 ≤ (((rd_T53 l0_1 x23_2).f1) : Int) := od; have q26 : (((rd_T53 l0_1 x23_2).f1) : Int) < ((x5_2.length : Int) : Int) := od; obtain ⟨hx26_0, hf26_0⟩ := Kd.R_celln false HO_5.out (((rd_T53 l0_1 x23_2).f1) : Int) p26 q26; replace p26 := eq_true p26; replace q26 := eq_true q26; obtain ⟨hy32_, hz32_⟩ := Kd.R_celln false HO_5.out (((rd_T53 l0_1 x23_2).f1) : Int) (od) (od); have HP32 := Kd.R_putg HO_5.out (((rd_T53 l0_1 x23_2).f1) : Int) true) | ((with_reducible refine gate_store (t := 4) (p := 35) rfl ?_); refine store_event (t := 4) (p := 35) (v := ?vo_w33) (w1 := (w30.setCell ⟨go7, (((rd_T53 l0_1 x23_2).f1) : Int).toNat, none⟩ (.bool true))) ?hg ?ho ?hn ?hr ?_; (case ho => rfl); (case hg => rfl); (case hn => rfl); (case hr => first | (go_simp; done) | (go_simp; rfl)); intro w33 hw; have hg : w30.grownBy w33 (some go7) := (by rw [hw]; exact HP32.2); have hp_ : Kd.R Kd.bool 4 w33 w.heap.size (fun _ => True) (.slice (some ⟨go7, 0, none⟩) x5_2.length co7) y330 := (by rw [hw, Ny330.out]; exact HP32.1); clear HP32; replace BK322 := zm (blk_grown (g := gb322) (o := .cells #[.slice A0_0 l0_0.length c0_0, .slice (some ad327) l0_1.length c0_1] 25 (0, 0)) (kx BK322.out) hg (Kd.R_ne HO_5.out BK322.out (by decide))); replace BK328 := zm (blk_grown (g := gb328) (o := .cells #[.int .i64 ((rd_T53 l0_1 x23_2).f0), .int .i64 ((rd_T53 l0_1 x23_2).f1), .bool ((rd_T53 l0_1 x23_2).f2), .int .i64 ((rd_T53 l0_1 x23_2).f3.f0), .int .i64 ((rd_T53 l0_1 x23_2).f3.f1), .slice A327_5 ((rd_T53 l0_1 x23_2).f3.f2).length c327_5] 53 (0, 0)) (kx BK328.out) hg (Kd.R_ne HO_5.out BK328.out (by decide))); replace HO_5 := zm (hp_); replace HB := zm ((by rw [hw]; exact below_set (HB.out) GB7.out : Below w.heap.size w w33)); clear hg hw hp_))
                (try simp only [← hl5_2])
                go_roundg k2
                case measure => have := HK1.out; have := HK2.out; omega
                case rel => exact ⟨(y330), (wrap64 (x23_2 + 1)), (by first | rfl | (simp; done) | (simp [*]; done)), H', ⟨by have := HK1.out; have := HK2.out; omega⟩, ⟨by (try simp only [hl5_1]); (try simp only [hl5_2]); (with_reducible repeat (first | apply Kd.R_alloc | apply Kd.R_drewN | apply Kd.R_drew)); exact HO_5.out⟩, ⟨by (try simp only [hl5_1]); (try simp only [hl5_2]); (with_reducible repeat first | apply kN | apply kD | apply kA); exact BK322.out⟩, ⟨bx HB.out⟩⟩
               rw [if_neg c25] at H
               exact absurd H (by simp)
              rw [if_neg c24] at H
              exact absurd H (by simp)
             replace c23 := Bool.eq_false_iff.mpr c23
             subst c23
             rw [if_neg (show ¬ (false = true) by decide)] at H
             have H' := zm H
             clear H
             have p327 : 0 ≤ (x23_2 : Int) := od
             have q327 : x23_2 < (l0_1.length : Int) := od
             obtain ⟨ad327, A327_5, c327_5, e327, hx327_0, hx327_1, hx327_2, hx327_3, hx327_4, hx327_5, hl327_5, hi327_5⟩ := at_T53 HR0_1.out x23_2 p327 q327
             (try rw [← Nbq22.out] at hx327_2)
             (try rw [← Nbq22.out] at hw327_2)
             cases e327
             replace hx327_0 := cb HB.out hx327_0
             replace hx327_1 := cb HB.out hx327_1
             replace hx327_2 := cb HB.out hx327_2
             replace hx327_3 := cb HB.out hx327_3
             replace hx327_4 := cb HB.out hx327_4
             replace hx327_5 := cb HB.out hx327_5
             have HR327_5 := zm hi327_5
             have HC327_5 := zm hl327_5
             clear hi327_5 hl327_5
             replace p327 := eq_true p327
             replace q327 := eq_true q327
             go_wp2_with (first | ((with_reducible refine gate_dst (N := 7) rfl ?_); refine box_event ?hg (N := 7) ?hd (cs := #[.int .i64 0, .int .i64 0, .bool false, .int .i64 0, .int .i64 0, .slice none 0 0]) (t := 53) ?hr ?_; (case hd => rfl); (case hg => rfl); (case hr => first | (go_simp; done) | (go_simp; rfl)); intro gb328 hg w34 hbox hb; replace HO_5 := zm (Kd.R_below (rx HO_5.out) hb); have BK328 := zm (hbox); have GW328 := zm ((by rw [hg]; exact (below_size (bx HB.out)) : w.heap.size ≤ gb328)); have GE328 := zm ((by rw [hg]; exact (below_size (bx HB.out)) : w.heap.size ≤ gb328)); replace HB := zm (below_step (bx HB.out) hb); have NB322_328 := zm ((by rw [hg]; exact Nat.ne_of_lt (blk_lt (g := gb322) (o := .cells #[.slice A0_0 l0_0.length c0_0, .slice (some ad327) l0_1.length c0_1] 25 (0, 0)) (kx BK322.out)) : gb322 ≠ gb328)); have NB328_322 := zm ((by rw [hg]; exact Nat.ne_of_gt (blk_lt (g := gb322) (o := .cells #[.slice A0_0 l0_0.length c0_0, .slice (some ad327) l0_1.length c0_1] 25 (0, 0)) (kx BK322.out)) : gb328 ≠ gb322)); replace BK322 := zm (kB (kx BK322.out) hb); clear hb hbox hg; have hnb35 := NB328_322.out; have hnc35 := NB322_328.out; have hcz36_0 := bc0 BK328.out; have hcz36_1 := bc1 BK328.out; have hcz36_2 := bc2 BK328.out; have hcz36_3 := bc3 BK328.out; have hcz36_4 := bc4 BK328.out; have hcz36_5 := bc5 BK328.out; have hfz36_0 := bF BK328.out 0; have hfz36_1 := bF BK328.out 1; have hfz36_2 := bF BK328.out 2; have hfz36_3 := bF BK328.out 3; have hfz36_4 := bF BK328.out 4; have hfz36_5 := bF BK328.out 5; have p329 : 0 ≤ (((rd_T53 l0_1 x23_2).f0) : Int) := od; have q329 : ((rd_T53 l0_1 x23_2).f0) < (x5_2.length : Int) := od; obtain ⟨ad329, e329, hx329_0⟩ := Kd.at_bool (Kd.R_reads' HO_5.out).2.2 ((rd_T53 l0_1 x23_2).f0) p329 q329; (try rw [← Nbq22.out] at hx329_0); (try rw [← Nbq22.out] at hw329_0); obtain rfl : (⟨go7, 0, none⟩ : Addr) = ad329 := (by injection e329); (first | simp only [add_plain] at hx329_0 | simp only [add_at] at hx329_0 | simp only [Addr.add, Nat.zero_add] at hx329_0 | skip); have hn329_0 : (⟨go7, 0, none⟩ : Addr).block ≠ gb328 := Kd.own_blk (Kd.R_ne HO_5.out BK328.out (by decide)); have hn329_1 : (⟨go7, 0, none⟩ : Addr).block ≠ gb328 := Kd.own_blk (Kd.R_ne HO_5.out BK328.out (by decide)); have hn329_2 : (⟨go7, 0, none⟩ : Addr).block ≠ gb328 := Kd.own_blk (Kd.R_ne HO_5.out BK328.out (by decide)); have hn329_3 : (⟨go7, 0, none⟩ : Addr).block ≠ gb328 := Kd.own_blk (Kd.R_ne HO_5.out BK328.out (by decide)); have hn329_4 : (⟨go7, 0, none⟩ : Addr).block ≠ gb328 := Kd.own_blk (Kd.R_ne HO_5.out BK328.out (by decide)); have hn329_5 : (⟨go7, 0, none⟩ : Addr).block ≠ gb328 := Kd.own_blk (Kd.R_ne HO_5.out BK328.out (by decide)); replace hx329_0 := (cell_far (p := ⟨gb328, 0, none⟩) (by first | (rw [add_block]; exact hn329_0) | (show (Addr.add _ _).block ≠ _; rw [add_block]; exact hn329_0) | exact hn329_0) (.int .i64 ((rd_T53 l0_1 x23_2).f0))).trans hx329_0; replace hx329_0 := (cell_far (p := ⟨gb328, 1, none⟩) (by first | (rw [add_block]; exact hn329_1) | (show (Addr.add _ _).block ≠ _; rw [add_block]; exact hn329_1) | exact hn329_1) (.int .i64 ((rd_T53 l0_1 x23_2).f1))).trans hx329_0; replace hx329_0 := (cell_far (p := ⟨gb328, 2, none⟩) (by first | (rw [add_block]; exact hn329_2) | (show (Addr.add _ _).block ≠ _; rw [add_block]; exact hn329_2) | exact hn329_2) (.bool ((rd_T53 l0_1 x23_2).f2))).trans hx329_0; replace hx329_0 := (cell_far (p := ⟨gb328, 3, none⟩) (by first | (rw [add_block]; exact hn329_3) | (show (Addr.add _ _).block ≠ _; rw [add_block]; exact hn329_3) | exact hn329_3) (.int .i64 ((rd_T53 l0_1 x23_2).f3.f0))).trans hx329_0; replace hx329_0 := (cell_far (p := ⟨gb328, 4, none⟩) (by first | (rw [add_block]; exact hn329_4) | (show (Addr.add _ _).block ≠ _; rw [add_block]; exact hn329_4) | exact hn329_4) (.int .i64 ((rd_T53 l0_1 x23_2).f3.f1))).trans hx329_0; replace hx329_0 := (cell_far (p := ⟨gb328, 5, none⟩) (by first | (rw [add_block]; exact hn329_5) | (show (Addr.add _ _).block ≠ _; rw [add_block]; exact hn329_5) | exact hn329_5) (.slice A327_5 ((rd_T53 l0_1 x23_2).f3.f2).length c327_5)).trans hx329_0; clear hn329_0 hn329_1 hn329_2 hn329_3 hn329_4 hn329_5; replace p329 := eq_true p329; replace q329 := eq_true q329))
             (try simp only [← hl5_2])
             go_roundg k2
             case measure => have := HK1.out; have := HK2.out; omega
             case rel => exact ⟨(x5_2), (wrap64 (x23_2 + 1)), (by first | rfl | (simp; done) | (simp [*]; done)), H', ⟨by have := HK1.out; have := HK2.out; omega⟩, ⟨by (try simp only [hl5_1]); (try simp only [hl5_2]); (with_reducible repeat (first | apply Kd.R_alloc | apply Kd.R_drewN | apply Kd.R_drew)); exact Kd.R_mono (Kd.R_far (p := ⟨gb328, 5, none⟩) (Kd.R_far (p := ⟨gb328, 4, none⟩) (Kd.R_far (p := ⟨gb328, 3, none⟩) (Kd.R_far (p := ⟨gb328, 2, none⟩) (Kd.R_far (p := ⟨gb328, 1, none⟩) (Kd.R_far (p := ⟨gb328, 0, none⟩) (Kd.R_types HO_5.out BK328.out (by decide)) (fun _ hk => hk.2) (.int .i64 ((rd_T53 l0_1 x23_2).f0))) (fun _ hk => hk.2) (.int .i64 ((rd_T53 l0_1 x23_2).f1))) (fun _ hk => hk.2) (.bool ((rd_T53 l0_1 x23_2).f2))) (fun _ hk => hk.2) (.int .i64 ((rd_T53 l0_1 x23_2).f3.f0))) (fun _ hk => hk.2) (.int .i64 ((rd_T53 l0_1 x23_2).f3.f1))) (fun _ hk => hk.2) (.slice A327_5 ((rd_T53 l0_1 x23_2).f3.f2).length c327_5)) (fun _ hk => trivial)⟩, ⟨by (try simp only [hl5_1]); (try simp only [hl5_2]); (with_reducible repeat first | apply kN | apply kD | apply kA); refine blk_far ?_ NB322_328.out _; (with_reducible repeat first | apply kN | apply kD | apply kA); refine blk_far ?_ NB322_328.out _; (with_reducible repeat first | apply kN | apply kD | apply kA); refine blk_far ?_ NB322_328.out _; (with_reducible repeat first | apply kN | apply kD | apply kA); refine blk_far ?_ NB322_328.out _; (with_reducible repeat first | apply kN | apply kD | apply kA); refine blk_far ?_ NB322_328.out _; (with_reducible repeat first | apply kN | apply kD | apply kA); refine blk_far ?_ NB322_328.out _; (with_reducible repeat first | apply kN | apply kD | apply kA); exact BK322.out⟩, ⟨bx HB.out⟩⟩
            rw [if_neg c21] at H
            exact absurd H (by simp)
           rw [if_neg c20] at H
           exact absurd H (by simp)
          rw [if_neg c19] at H
          exact absurd H (by simp)
         rw [if_neg c18] at H
         exact absurd H (by simp)
        rw [if_neg c17] at H
        have c17b0 := decide_eq_false c17
        try (have c17b9 := c17b0; rw [hl5_2] at c17b9)
        try (have c17b9 := c17b0; rw [hl5_1] at c17b9)
        try (have c17b9 := c17b0; rw [hl327_5] at c17b9)
        clear c17
        have H' := zm H
        clear H
        go_wp2
        (try simp only [← hl5_1, ← hl5_2])
        go_roundg k2
        case measure => have := HK1.out; have := HK2.out; omega
        case rel => exact ⟨(x5_2), (wrap64 (x18_1 + 1)), (by first | rfl | (simp; done) | (simp [*]; done)), H', ⟨by have := HK1.out; have := HK2.out; omega⟩, ⟨by (try simp only [hl5_1]); (try simp only [hl5_2]); (with_reducible repeat (first | apply Kd.R_alloc | apply Kd.R_drewN | apply Kd.R_drew)); exact HO_5.out⟩, ⟨by (try simp only [hl5_1]); (try simp only [hl5_2]); (with_reducible repeat first | apply kN | apply kD | apply kA); exact BK322.out⟩, ⟨bx HB.out⟩⟩
      rw [if_neg c15] at H
      have c15b0 := decide_eq_false c15
      try (have c15b9 := c15b0; rw [hl5_2] at c15b9)
      try (have c15b9 := c15b0; rw [hl5_1] at c15b9)
      try (have c15b9 := c15b0; rw [hl327_5] at c15b9)
      clear c15
      obtain rfl := Option.some.inj H
      go_wp2
      go_ret
      exact ⟨_, xe, rx HO_5.out, bx HB.out⟩
    rw [if_neg c6] at H
    exact absurd H (by simp)
   rw [if_neg c5] at H
   exact absurd H (by simp)
  rw [if_neg c4] at H
  exact absurd H (by simp)
 rw [if_neg c3] at H
 exact absurd H (by simp)

mutual
def treenailref03_Depth.l0 : Nat → Int → List (S35) → Int → Int → Option (Int)
 | 0, _, _, _, _ => none
 | k + 1, x3, x8, x9, x10 => if x10 < x9 then (if 0 ≤ x10 then (if x10 < (x8.length : Int) then ((treenailref03_Depth.f k ((rd_T35 x8 x10).f0) ((rd_T35 x8 x10).f1) ((rd_T35 x8 x10).f2)).bind fun t334 => (if t334 > x3 then (treenailref03_Depth.l0 k t334 x8 x9 (wrap64 (x10 + 1))) else (treenailref03_Depth.l0 k x3 x8 x9 (wrap64 (x10 + 1))))) else (none)) else (none)) else (some (wrap64 (x3 + 1)))
def treenailref03_Depth.f : Nat → Int → Int → List (S35) → Option (Int)
 | 0, _, _, _ => none
 | k + 1, a0_0, a0_1, l0_2 => treenailref03_Depth.l0 k 0 l0_2 (l0_2.length : Int) 0
end
set_option maxRecDepth 100000 in
theorem treenailref03_Depth.mono_l : ∀ k, (∀ y0 y1 y2, LeO (treenailref03_Depth.f k y0 y1 y2) (treenailref03_Depth.f (k + 1) y0 y1 y2)) ∧ (∀ y0 y1 y2 y3, LeO (treenailref03_Depth.l0 k y0 y1 y2 y3) (treenailref03_Depth.l0 (k + 1) y0 y1 y2 y3))
 | 0 => ⟨fun _ _ _ r h => by first | (cases h; done) | simp [treenailref03_Depth.f] at h, fun _ _ _ _ r h => by first | (cases h; done) | simp [treenailref03_Depth.l0] at h⟩
 | k + 1 => by
  obtain ⟨ih0, ih1⟩ := treenailref03_Depth.mono_l k
  refine ⟨?_, ?_⟩
  all_goals intros
  all_goals first | unfold treenailref03_Depth.f | unfold treenailref03_Depth.l0
  all_goals repeat' first
  | (with_reducible exact ih0 _ _ _)
  | (with_reducible exact ih1 _ _ _ _)
  | (with_reducible exact LeO.refl _)
  | (with_reducible exact LeO.none _)
  | (with_reducible refine LeO.ite ?_ ?_)
  | (with_reducible refine LeO.bind ?_ (fun _ => ?_))
  | refine LeO.ite ?_ ?_
  | refine LeO.bind ?_ (fun _ => ?_)
set_option maxRecDepth 100000 in
theorem treenailref03_Depth.mono : ∀ a0 a1 a2 k, LeO (treenailref03_Depth.f k a0 a1 a2) (treenailref03_Depth.f (k + 1) a0 a1 a2) := by
 intro a0 a1 a2 k
 obtain ⟨ih0, ih1⟩ := treenailref03_Depth.mono_l k
 exact ih0 a0 a1 a2
set_option maxHeartbeats 8000000 in
set_option maxRecDepth 100000 in
theorem treenailref03_Depth.calls (k : Nat) : ∀ (a0_0 : Int) (a0_1 : Int) (A0_2 : Option Addr) (c0_2 : Nat) (l0_2 : List (S35)) (r : Int) (w : World) (hr0_2 : Kd.C k35 w A0_2 l0_2.length l0_2) (hc0_2 : l0_2.length ≤ c0_2) (h : treenailref03_Depth.f k a0_0 a0_1 l0_2 = some r),
  Calls Tryd.prog 63 #[.agg #[.int .i64 a0_0, .int .i64 a0_1, .slice A0_2 l0_2.length c0_2]] w fun e w' => e = .returned (.int .i64 r) ∧ Below w.heap.size w w' := by
 induction k using Nat.strongRecOn with
 | _ k ih =>
 intro a0_0 a0_1 A0_2 c0_2 l0_2 r w hr0_2 hc0_2 h
 cases k with
 | zero => exact absurd h (by first | (intro h_; cases h_; done) | simp [treenailref03_Depth.f])
 | succ k =>
 simp only [treenailref03_Depth.f] at h
 have hu35 := Tryd.underlying35
 have HR0_2 := zm hr0_2
 have HC0_2 := zm hc0_2
 clear hr0_2 hc0_2
 have HB := zm (Below.refl w.heap.size w)
 have H : (treenailref03_Depth.l0 k 0 l0_2 (l0_2.length : Int) 0) = some r := h
 clear h
 have H' := zm H
 clear H
 go_enter Tryd.func63, Tryd.ntmps63
 go_wp2_with (first | ((with_reducible refine gate_dst (N := 1) rfl ?_); refine box_event ?hg (N := 1) ?hd (cs := #[.int .i64 a0_0, .int .i64 a0_1, .slice A0_2 l0_2.length c0_2]) (t := 35) ?hr ?_; (case hd => rfl); (case hg => rfl); (case hr => first | (go_simp; done) | (go_simp; rfl)); intro gb331 hg w2 hbox hb; have BK331 := zm (hbox); have GW331 := zm ((by rw [hg]; exact (below_size (bx HB.out)) : w.heap.size ≤ gb331)); have GE331 := zm ((by rw [hg]; exact (below_size (bx HB.out)) : w.heap.size ≤ gb331)); replace HB := zm (below_step (bx HB.out) hb); clear hb hbox hg; have hcz3_0 := bc0 BK331.out; have hcz3_1 := bc1 BK331.out; have hcz3_2 := bc2 BK331.out; have hfz3_0 := bF BK331.out 0; have hfz3_1 := bF BK331.out 1; have hfz3_2 := bF BK331.out 2))
 go_loopg [3, 10] k (fun kq v3 v10 w' => ∃ (x3_1 : Int) (x10_1 : Int), v3 = .int .i64 x3_1 ∧ v10 = .int .i64 x10_1 ∧ Aside0 (treenailref03_Depth.l0 kq x3_1 l0_2 (l0_2.length : Int) x10_1 = some r) ∧ Aside0 (kq ≤ k) ∧ Aside0 (w'.heap[gb331]? = some (.cells #[.int .i64 a0_0, .int .i64 a0_1, (.slice A0_2 l0_2.length c0_2)] 35 (0, 0))) ∧ Aside0 (Below w.heap.size w w'))
 case atStart => exact ⟨(0), (0), (by first | rfl | (simp; done) | (simp [*]; done)), (by first | rfl | (simp; done) | (simp [*]; done)), H', ⟨Nat.le_refl _⟩, ⟨kx BK331.out⟩, ⟨bx HB.out⟩⟩
 clear H'
 try clear p2
 try clear BK331
 obtain ⟨x3_1, x10_1, rfl, rfl, HA, HK1, BK331, HB⟩ := hrel
 cases gk with
 | zero => exact absurd HA.out (by first | (intro h_; cases h_; done) | simp [treenailref03_Depth.l0])
 | succ k1 =>
  have H := HA.out
  clear HA
  simp only [treenailref03_Depth.l0] at H
  by_cases c4 : x10_1 < (l0_2.length : Int)
  ·rw [if_pos c4] at H
   have c4b0 := decide_eq_true c4
   clear c4
   by_cases c5 : 0 ≤ x10_1
   ·rw [if_pos c5] at H
    have c5b0 := decide_eq_true c5
    clear c5
    by_cases c6 : x10_1 < (l0_2.length : Int)
    ·rw [if_pos c6] at H
     have c6b0 := decide_eq_true c6
     clear c6
     replace H := Option.bind_eq_some_iff.mp H
     obtain ⟨t334, A70, H⟩ := H
     replace H : (if t334 > x3_1 then (treenailref03_Depth.l0 k1 t334 l0_2 (l0_2.length : Int) (wrap64 (x10_1 + 1))) else (treenailref03_Depth.l0 k1 x3_1 l0_2 (l0_2.length : Int) (wrap64 (x10_1 + 1)))) = some r := H
     have A7 := zm A70
     clear A70
     have HC8 := zm H
     clear H
     have p332 : 0 ≤ (x10_1 : Int) := od
     have q332 : x10_1 < (l0_2.length : Int) := od
     obtain ⟨ad332, A332_2, c332_2, e332, hx332_0, hx332_1, hx332_2, hl332_2, hi332_2⟩ := at_T35 HR0_2.out x10_1 p332 q332
     cases e332
     replace hx332_0 := cb HB.out hx332_0
     replace hx332_1 := cb HB.out hx332_1
     replace hx332_2 := cb HB.out hx332_2
     have HR332_2 := zm hi332_2
     have HC332_2 := zm hl332_2
     clear hi332_2 hl332_2
     replace p332 := eq_true p332
     replace q332 := eq_true q332
     go_upto_if 18 with (first | ((with_reducible refine gate_dst (N := 5) rfl ?_); refine box_event ?hg (N := 5) ?hd (cs := #[.int .i64 0, .int .i64 0, .slice none 0 0]) (t := 35) ?hr ?_; (case hd => rfl); (case hg => rfl); (case hr => first | (go_simp; done) | (go_simp; rfl)); intro gb333 hg w9 hbox hb; have BK333 := zm (hbox); have GW333 := zm ((by rw [hg]; exact (below_size (bx HB.out)) : w.heap.size ≤ gb333)); have GE333 := zm ((by rw [hg]; exact (below_size (bx HB.out)) : w.heap.size ≤ gb333)); replace HB := zm (below_step (bx HB.out) hb); have NB331_333 := zm ((by rw [hg]; exact Nat.ne_of_lt (blk_lt (g := gb331) (o := .cells #[.int .i64 a0_0, .int .i64 a0_1, .slice (some ad332) l0_2.length c0_2] 35 (0, 0)) (kx BK331.out)) : gb331 ≠ gb333)); have NB333_331 := zm ((by rw [hg]; exact Nat.ne_of_gt (blk_lt (g := gb331) (o := .cells #[.int .i64 a0_0, .int .i64 a0_1, .slice (some ad332) l0_2.length c0_2] 35 (0, 0)) (kx BK331.out)) : gb333 ≠ gb331)); replace BK331 := zm (kB (kx BK331.out) hb); clear hb hbox hg; have hnb10 := NB333_331.out; have hnc10 := NB331_333.out; have hcz11_0 := bc0 BK333.out; have hcz11_1 := bc1 BK333.out; have hcz11_2 := bc2 BK333.out; have hfz11_0 := bF BK333.out 0; have hfz11_1 := bF BK333.out 1; have hfz11_2 := bF BK333.out 2) | ((with_reducible refine gate_callee (f := 63) rfl ?_); refine goesL_ (some 15) rfl rfl Tryd.func63 (by kernel_rfl) rfl #[.agg #[.int .i64 ((rd_T35 l0_2 x10_1).f0), .int .i64 ((rd_T35 l0_2 x10_1).f1), .slice A332_2 ((rd_T35 l0_2 x10_1).f2).length c332_2]] rfl ag ?_; (with_reducible refine (ih k1 (by have := HK1.out; omega) ((rd_T35 l0_2 x10_1).f0) ((rd_T35 l0_2 x10_1).f1) _ _ ((rd_T35 l0_2 x10_1).f2) t334 _ ?side1 ?side2 A7.out).mono ?_); (case side1 => exact Kd.C_below HR332_2.out (bx HB.out)); (case side2 => exact HC332_2.out); rintro e w12 ⟨rfl, hb⟩; refine ⟨_, rfl, ?_⟩; replace BK331 := zm (kB (g := gb331) (o := .cells #[.int .i64 a0_0, .int .i64 a0_1, .slice (some ad332) l0_2.length c0_2] 35 (0, 0)) (by (with_reducible repeat first | apply kN | apply kD | apply kA); refine blk_far ?_ NB331_333.out _; (with_reducible repeat first | apply kN | apply kD | apply kA); refine blk_far ?_ NB331_333.out _; (with_reducible repeat first | apply kN | apply kD | apply kA); refine blk_far ?_ NB331_333.out _; (with_reducible repeat first | apply kN | apply kD | apply kA); exact BK331.out) hb); replace BK333 := zm (kB (g := gb333) (o := .cells #[.int .i64 ((rd_T35 l0_2 x10_1).f0), .int .i64 ((rd_T35 l0_2 x10_1).f1), .slice A332_2 ((rd_T35 l0_2 x10_1).f2).length c332_2] 35 (0, 0)) (by (with_reducible repeat first | apply kN | apply kD | apply kA); refine blk_put (cs := #[.int .i64 ((rd_T35 l0_2 x10_1).f0), .int .i64 ((rd_T35 l0_2 x10_1).f1), .slice none 0 0]) ?_ 2 _ rfl; (with_reducible repeat first | apply kN | apply kD | apply kA); refine blk_put (cs := #[.int .i64 ((rd_T35 l0_2 x10_1).f0), .int .i64 0, .slice none 0 0]) ?_ 1 _ rfl; (with_reducible repeat first | apply kN | apply kD | apply kA); refine blk_put (cs := #[.int .i64 0, .int .i64 0, .slice none 0 0]) ?_ 0 _ rfl; (with_reducible repeat first | apply kN | apply kD | apply kA); exact BK333.out) hb); replace HB := zm (below_step (bx HB.out) hb); (try clear hb); (try clear hb2); (try clear hk); (try clear hi)))
     have H := HC8.out
     clear HC8
     by_cases c13 : t334 > x3_1
     ·rw [if_pos c13] at H
      have c13b0 : decide (x3_1 < t334) = true := decide_eq_true c13
      clear c13
      (first | rw [c13b0] | (simp only [i64_w, i32_w]; rw [c13b0]) | skip)
      have H' := zm H
      clear H
      go_wp2
      go_roundg k1
      case measure => have := HK1.out; omega
      case rel => exact ⟨(t334), (wrap64 (x10_1 + 1)), (by first | rfl | (simp; done) | (simp [*]; done)), (by first | rfl | (simp; done) | (simp [*]; done)), H', ⟨by have := HK1.out; omega⟩, ⟨kx BK331.out⟩, ⟨bx HB.out⟩⟩
     rw [if_neg c13] at H
     have c13b0 : decide (x3_1 < t334) = false := decide_eq_false c13
     clear c13
     (first | rw [c13b0] | (simp only [i64_w, i32_w]; rw [c13b0]) | skip)
     have H' := zm H
     clear H
     go_wp2
     go_roundg k1
     case measure => have := HK1.out; omega
     case rel => exact ⟨(x3_1), (wrap64 (x10_1 + 1)), (by first | rfl | (simp; done) | (simp [*]; done)), (by first | rfl | (simp; done) | (simp [*]; done)), H', ⟨by have := HK1.out; omega⟩, ⟨kx BK331.out⟩, ⟨bx HB.out⟩⟩
    rw [if_neg c6] at H
    exact absurd H (by simp)
   rw [if_neg c5] at H
   exact absurd H (by simp)
  rw [if_neg c4] at H
  have c4b0 := decide_eq_false c4
  try (have c4b9 := c4b0; rw [hl332_2] at c4b9)
  clear c4
  obtain rfl := Option.some.inj H
  go_wp2
  go_ret
  exact ⟨xe, bx HB.out⟩

def treenailref03_kids.f (a0 : Int) : Option (Int) := if a0 < 3 then (some 0) else (if a0 < 5 then (some 1) else (some 2))
set_option maxHeartbeats 8000000 in
set_option maxRecDepth 100000 in
theorem treenailref03_kids.calls (a0 : Int) (r : Int) (w : World) (h : treenailref03_kids.f a0 = some r) :
  Calls Tryd.prog 69 #[.int .i64 a0] w fun e w' => e = .returned (.int .i64 r) ∧ Drawn0 w w' := by
 have H : (if a0 < 3 then (some 0) else (if a0 < 5 then (some 1) else (some 2))) = some r := h
 clear h
 by_cases c2 : a0 < 3
 ·rw [if_pos c2] at H
  have c2b0 := decide_eq_true c2
  clear c2
  obtain rfl := Option.some.inj H
  go_enter Tryd.func69, Tryd.ntmps69
  go_wp2
  go_ret
  exact ⟨by first | rfl | (simp; done) | (simp [*]; done), by repeat (first | exact Drawn0.refl _ | apply Drawn0.step)⟩
 rw [if_neg c2] at H
 have c2b0 := decide_eq_false c2
 clear c2
 by_cases c3 : a0 < 5
 ·rw [if_pos c3] at H
  have c3b0 := decide_eq_true c3
  clear c3
  obtain rfl := Option.some.inj H
  go_enter Tryd.func69, Tryd.ntmps69
  go_wp2
  go_ret
  exact ⟨by first | rfl | (simp; done) | (simp [*]; done), by repeat (first | exact Drawn0.refl _ | apply Drawn0.step)⟩
 rw [if_neg c3] at H
 have c3b0 := decide_eq_false c3
 clear c3
 obtain rfl := Option.some.inj H
 go_enter Tryd.func69, Tryd.ntmps69
 go_wp2
 go_ret
 exact ⟨by first | rfl | (simp; done) | (simp [*]; done), by repeat (first | exact Drawn0.refl _ | apply Drawn0.step)⟩

end Go.Proofs.YtdaeiicdpfghlaaDoor.R
