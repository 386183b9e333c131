import Derived.Test.YtdaeiicdpfghlaaDoorSx0
import Derived.Test.YtdaeiicdpfghlaaDoorSx3
import Derived.Test.YtdaeiicdpfghlaaDoorSx5
import Derived.Test.YtdaeiicdpfghlaaDoorSx7
namespace Go.Proofs.YtdaeiicdpfghlaaDoor.R
open Go.RowKit Go.Proofs.YtdaeiicdpfghlaaDoorW.PrintWords Go.Proofs.YtdaeiicdpfghlaaDoorW.PrintLast Go.Proofs.YtdaeiicdpfghlaaDoorW.PrintMore
attribute [local go_sem] max2_int min2_int max_two min_two max_three min_three max_four min_four   -- for this text's walks alone
set_option linter.unusedVariables false
set_option linter.unusedSimpArgs false

mutual
def net_met.l0 : Nat → Bool → List Bool → List Int → List (S37) → List (S53) → Option (List Bool)
 | 0, _, _, _, _, _ => none
 | k + 1, x2, x7, x8, x205000, x205001 => if (x8.length : Int) > 0 then (if 0 < (x8.length : Int) then (if 1 ≤ (x8.length : Int) then ((some (x8.drop (1 : Int).toNat : List Int)).bind fun y212 => (if 0 ≤ (rd x8 0) then (if (rd x8 0) < (x7.length : Int) then (if rdOf false x7 (rd x8 0) = true then (net_met.l0 k x2 x7 y212 x205000 x205001) else (net_met.l1 k x2 (x7.set ((rd x8 0) : Int).toNat true) y212 (rd x8 0) x205001 (x205001.length : Int) 0 x205000 x205001)) else (none)) else (none))) else (none)) else (none)) else (some x7)
def net_met.l1 : Nat → Bool → List Bool → List Int → Int → List (S53) → Int → Int → List (S37) → List (S53) → Option (List Bool)
 | 0, _, _, _, _, _, _, _, _, _ => none
 | k + 1, x2, x7, x8, x9, x34, x35, x36, x205000, x205001 => if x36 < x35 then (if 0 ≤ x36 then (if x36 < (x34.length : Int) then (if x2 = true then (net_met.j2 k x2 x7 x8 x9 x34 x35 x36 (((rd_T53 x34 x36).f1) == x9) x205000 x205001 ((rd_T53 x34 x36).f0) ((rd_T53 x34 x36).f1) ((rd_T53 x34 x36).f2) ((rd_T53 x34 x36).f3.f0) ((rd_T53 x34 x36).f3.f1) ((rd_T53 x34 x36).f3.f2)) else (net_met.j2 k x2 x7 x8 x9 x34 x35 x36 false x205000 x205001 ((rd_T53 x34 x36).f0) ((rd_T53 x34 x36).f1) ((rd_T53 x34 x36).f2) ((rd_T53 x34 x36).f3.f0) ((rd_T53 x34 x36).f3.f1) ((rd_T53 x34 x36).f3.f2))) else (none)) else (none)) else (net_met.l0 k x2 x7 x8 x205000 x205001)
def net_met.j2 : Nat → Bool → List Bool → List Int → Int → List (S53) → Int → Int → Bool → List (S37) → List (S53) → Int → Int → Bool → Int → Int → List (S35) → Option (List Bool)
 | 0, _, _, _, _, _, _, _, _, _, _, _, _, _, _, _, _ => none
 | k + 1, x2, x7, x8, x9, x34, x35, x36, x40, x205000, x205001, x219000, x219001, x219002, x219003, x219004, x219005 => if x40 = true then (if x8.length < 17592186044416 then (net_met.l1 k x2 x7 (x8 ++ [x219000]) x9 x34 x35 (wrap64 (x36 + 1)) x205000 x205001) else (none)) else (if x2 = true then (net_met.l1 k x2 x7 x8 x9 x34 x35 (wrap64 (x36 + 1)) x205000 x205001) else (if x219000 = x9 then (if x8.length < 17592186044416 then (net_met.l1 k x2 x7 (x8 ++ [x219001]) x9 x34 x35 (wrap64 (x36 + 1)) x205000 x205001) else (none)) else (net_met.l1 k x2 x7 x8 x9 x34 x35 (wrap64 (x36 + 1)) x205000 x205001)))
end
def net_met.f (k : Nat) (l0_0 : List (S37)) (l0_1 : List (S53)) (a1 : Int) (a2 : Bool) : Option (List Bool) := if 0 ≤ (l0_0.length : Int) then (if ((l0_0.length : Int) : Int).toNat ≤ 281474976710656 then (net_met.l0 k a2 (List.replicate ((l0_0.length : Int) : Int).toNat false) (([a1] : List Int)) l0_0 l0_1) else (none)) else (none)
set_option maxRecDepth 100000 in
theorem net_met.mono_l : ∀ k, (∀ y0 y1 y2 y3 y4, LeO (net_met.l0 k y0 y1 y2 y3 y4) (net_met.l0 (k + 1) y0 y1 y2 y3 y4)) ∧ (∀ y0 y1 y2 y3 y4 y5 y6 y7 y8, LeO (net_met.l1 k y0 y1 y2 y3 y4 y5 y6 y7 y8) (net_met.l1 (k + 1) y0 y1 y2 y3 y4 y5 y6 y7 y8)) ∧ (∀ y0 y1 y2 y3 y4 y5 y6 y7 y8 y9 y10 y11 y12 y13 y14 y15, LeO (net_met.j2 k y0 y1 y2 y3 y4 y5 y6 y7 y8 y9 y10 y11 y12 y13 y14 y15) (net_met.j2 (k + 1) y0 y1 y2 y3 y4 y5 y6 y7 y8 y9 y10 y11 y12 y13 y14 y15))
 | 0 => ⟨fun _ _ _ _ _ r h => by first | (cases h; done) | simp [net_met.l0] at h, fun _ _ _ _ _ _ _ _ _ r h => by first | (cases h; done) | simp [net_met.l1] at h, fun _ _ _ _ _ _ _ _ _ _ _ _ _ _ _ _ r h => by first | (cases h; done) | simp [net_met.j2] at h⟩
 | k + 1 => by
  obtain ⟨ih0, ih1, ih2⟩ := net_met.mono_l k
  refine ⟨?_, ?_, ?_⟩
  all_goals intros
  all_goals first | unfold net_met.l0 | unfold net_met.l1 | unfold net_met.j2
  all_goals repeat' first
  | (with_reducible exact ih0 _ _ _ _ _)
  | (with_reducible exact ih1 _ _ _ _ _ _ _ _ _)
  | (with_reducible exact ih2 _ _ _ _ _ _ _ _ _ _ _ _ _ _ _ _)
  | (with_reducible exact LeO.refl _)
  | (with_reducible exact LeO.none _)
  | (with_reducible refine LeO.ite ?_ ?_)
  | (with_reducible refine LeO.bind ?_ (fun _ => ?_))
  | refine LeO.ite ?_ ?_
  | refine LeO.bind ?_ (fun _ => ?_)
set_option maxRecDepth 100000 in
theorem net_met.mono : ∀ a0 a1 a2 a3 k, LeO (net_met.f k a0 a1 a2 a3) (net_met.f (k + 1) a0 a1 a2 a3) := by
 intro a0 a1 a2 a3 k
 obtain ⟨ih0, ih1, ih2⟩ := net_met.mono_l k
 unfold net_met.f
 repeat' first
 | (with_reducible exact ih0 _ _ _ _ _)
 | (with_reducible exact ih1 _ _ _ _ _ _ _ _ _)
 | (with_reducible exact ih2 _ _ _ _ _ _ _ _ _ _ _ _ _ _ _ _)
 | (with_reducible exact LeO.refl _)
 | (with_reducible exact LeO.none _)
 | (with_reducible refine LeO.ite ?_ ?_)
 | (with_reducible refine LeO.bind ?_ (fun _ => ?_))
 | refine LeO.ite ?_ ?_
 | refine LeO.bind ?_ (fun _ => ?_)
set_option maxHeartbeats 8000000 in
set_option maxRecDepth 100000 in
theorem net_met.calls (k : Nat) (A0_0 : Option Addr) (c0_0 : Nat) (l0_0 : List (S37)) (A0_1 : Option Addr) (c0_1 : Nat) (l0_1 : List (S53)) (a1 : Int) (a2 : Bool) (r : List Bool) (w : World) (hr0_0 : Kd.C k37 w A0_0 l0_0.length l0_0) (hc0_0 : l0_0.length ≤ c0_0) (hr0_1 : Kd.C k53 w A0_1 l0_1.length l0_1) (hc0_1 : l0_1.length ≤ c0_1) (h : net_met.f k l0_0 l0_1 a1 a2 = some r) :
  Calls Tryd.prog 43 #[.agg #[.slice A0_0 l0_0.length c0_0, .slice A0_1 l0_1.length c0_1], .int .i64 a1, .bool a2] w fun e w' => ∃ v0_ : Value, e = .returned (v0_) ∧ Kd.R Kd.bool 4 w' w.heap.size (fun _ => True) v0_ r ∧ Below w.heap.size w w' := by
 have hu25 := Tryd.underlying25
 have hu53 := Tryd.underlying53
 have HR0_0 := zm hr0_0
 have HC0_0 := zm hc0_0
 clear hr0_0 hc0_0
 have HR0_1 := zm hr0_1
 have HC0_1 := zm hc0_1
 clear hr0_1 hc0_1
 have HB := zm (Below.refl w.heap.size w)
 have H : (if 0 ≤ (l0_0.length : Int) then (if ((l0_0.length : Int) : Int).toNat ≤ 281474976710656 then (net_met.l0 k a2 (List.replicate ((l0_0.length : Int) : Int).toNat false) (([a1] : List Int)) l0_0 l0_1) else (none)) else (none)) = some r := h
 clear h
 by_cases c4 : 0 ≤ (l0_0.length : Int)
 ·rw [if_pos c4] at H
  have c4b0 := eq_true c4
  have c4b1 := decide_eq_true c4
  clear c4
  by_cases c5 : ((l0_0.length : Int) : Int).toNat ≤ 281474976710656
  ·rw [if_pos c5] at H
   have c5b0 := eq_true c5
   have c5b1 := decide_eq_true c5
   clear c5
   obtain ⟨y205, hy205⟩ : ∃ y_ : List Bool, y_ = (List.replicate ((l0_0.length : Int) : Int).toNat false) := ⟨_, rfl⟩
   replace H : (net_met.l0 k a2 y205 (([a1] : List Int)) l0_0 l0_1) = some r := by first | (rw [hy205]; with_reducible exact H) | (have H2_ := (Option.bind_some _ _).symm.trans H; rw [hy205]; with_reducible exact H2_) | (have H2_ := (Option.bind_some _ _).symm.trans H; with_reducible exact H2_) | with_reducible exact H | (rw [hy205]; exact H) | exact H
   have Ny205 := zm hy205
   clear hy205
   obtain ⟨y208, hy208⟩ : ∃ y_ : List Int, y_ = (([a1] : List Int)) := ⟨_, rfl⟩
   replace H : (net_met.l0 k a2 y205 y208 l0_0 l0_1) = some r := by first | (rw [hy208]; with_reducible exact H) | (have H2_ := (Option.bind_some _ _).symm.trans H; rw [hy208]; with_reducible exact H2_) | (have H2_ := (Option.bind_some _ _).symm.trans H; with_reducible exact H2_) | with_reducible exact H | (rw [hy208]; exact H) | exact H
   have Ny208 := zm hy208
   clear hy208
   have H' := zm H
   clear H
   go_enter Tryd.func43, Tryd.ntmps43
   go_wp2_with (first | ((with_reducible refine gate_dst (N := 3) rfl ?_); refine box_event ?hg (N := 3) ?hd (cs := #[.slice A0_0 l0_0.length c0_0, .slice A0_1 l0_1.length c0_1]) (t := 25) ?hr ?_; (case hd => rfl); (case hg => rfl); (case hr => first | (go_simp; done) | (go_simp; rfl)); intro gb204 hg w6 hbox hb; have BK204 := zm (hbox); have GW204 := zm ((by rw [hg]; exact (below_size (bx HB.out)) : w.heap.size ≤ gb204)); have GE204 := zm ((by rw [hg]; exact (below_size (bx HB.out)) : w.heap.size ≤ gb204)); replace HB := zm (below_step (bx HB.out) hb); clear hb hbox hg; have hcz7_0 := bc0 BK204.out; have hcz7_1 := bc1 BK204.out; have hfz7_0 := bF BK204.out 0; have hfz7_1 := bF BK204.out 1) | ((with_reducible refine gate_dst (N := 15) rfl ?_); refine Kd.R_make Kd.bool _ 4 rfl (N := 15) rfl 41 _ _ rfl (l0_0.length : Int) rfl rfl Tryd.underlying41 (.bool false) 1 info4 rfl (by decide) (by omega) false (ok := fun _ => True) (okp := fun _ => True) rfl (fun _ hk => hk) trivial (od) (Nat.le_trans (Nat.mul_le_mul_right _ (od : (l0_0.length : Int).toNat ≤ 281474976710656)) (by omega)) (Below.refl _ _) (Nat.le_refl _) ?_; intro v206 w8 ho9 hb hg_ hnew_; clear hg_ hnew_; (first | rw [← Ny205.out] at ho9 | (simp only [Int.reduceToNat] at ho9; rw [← Ny205.out] at ho9)); have HO207 := zm (Kd.R_lower ho9 (below_size (bx HB.out))); replace BK204 := zm (kB (kx BK204.out) hb); replace HB := zm (below_step (bx HB.out) hb); clear hb ho9) | ((with_reducible refine gate_dst (N := 17) rfl ?_); refine Kd.R_lit (Kd.int .i64) _ 3 ?hg (N := 17) ?hd (xs := ([a1] : List Int)) (inner := [.int .i64 a1]) (ok := fun _ => True) (okp := fun _ => True) ?hr ?hp (fun _ hk => hk) trivial (Below.refl _ _) (Nat.le_refl _) (by simp) ?_; (case hd => rfl); (case hg => rfl); (case hr => first | (go_simp; done) | (go_simp; rfl)); (case hp => exact (Reps.one (show Kd.M (Kd.int .i64) _ _ _ a1 [.int .i64 a1] from rfl) (Reps.none _ _))); intro v209 w10 ho11 hb hg_ hnew_; clear hg_ hnew_; (first | rw [← Ny208.out] at ho11 | (simp only [Int.reduceToNat] at ho11; rw [← Ny208.out] at ho11)); replace HO207 := zm (Kd.R_below (rx HO207.out) hb); have HO210 := zm (Kd.R_lower ho11 (below_size (bx HB.out))); replace BK204 := zm (kB (kx BK204.out) hb); replace HB := zm (below_step (bx HB.out) hb); clear hb ho11))
   go_loopg [8] k (fun kq v8 w' => ∃ (x7_1 : List Bool) (x8_1 : List Int), Aside0 (net_met.l0 kq a2 x7_1 x8_1 l0_0 l0_1 = some r) ∧ Aside0 (kq ≤ k) ∧ Aside0 (Kd.R Kd.bool 4 w' w.heap.size (fun _ => True) v206 x7_1) ∧ Aside0 (Kd.Q (Kd.int .i64) 3 w' w.heap.size (fun _ => True) v8 x8_1) ∧ Aside0 (w'.heap[gb204]? = some (.cells #[(.slice A0_0 l0_0.length c0_0), (.slice A0_1 l0_1.length c0_1)] 25 (0, 0))) ∧ Aside0 (Below w.heap.size w w'))
   case atStart => exact ⟨(y205), (y208), H', ⟨Nat.le_refl _⟩, ⟨rx HO207.out⟩, ⟨Kd.Q_of_R (rx HO210.out)⟩, ⟨kx BK204.out⟩, ⟨bx HB.out⟩⟩
   clear H'
   try clear p2
   try clear c4
   try clear c4b0
   try clear c4b1
   try clear c5
   try clear c5b0
   try clear c5b1
   try clear BK204
   obtain ⟨x7_1, x8_1, HA, HK1, HO_7, HO_8, BK204, HB⟩ := hrel
   cases gk with
   | zero => exact absurd HA.out (by first | (intro h_; cases h_; done) | simp [net_met.l0])
   | succ k1 =>
    have H := HA.out
    clear HA
    simp only [net_met.l0] at H
    by_cases c12 : (x8_1.length : Int) > 0
    ·rw [if_pos c12] at H
     have c12b0 : decide (0 < (x8_1.length : Int)) = true := decide_eq_true c12
     have c12b1 : decide (0 < x8_1.length) = true := decide_eq_true (by omega)
     clear c12
     by_cases c13 : 0 < (x8_1.length : Int)
     ·rw [if_pos c13] at H
      have c13b0 := decide_eq_true c13
      have c13b1 : decide (0 < x8_1.length) = true := decide_eq_true (by omega)
      clear c13
      by_cases c14 : 1 ≤ (x8_1.length : Int)
      ·rw [if_pos c14] at H
       have c14b0 := eq_true c14
       have c14b1 := decide_eq_true c14
       clear c14
       obtain ⟨y212, hy212⟩ : ∃ y_ : List Int, y_ = (x8_1.drop (1 : Int).toNat) := ⟨_, rfl⟩
       replace H : (if 0 ≤ (rd x8_1 0) then (if (rd x8_1 0) < (x7_1.length : Int) then (if rdOf false x7_1 (rd x8_1 0) = true then (net_met.l0 k1 a2 x7_1 y212 l0_0 l0_1) else (net_met.l1 k1 a2 (x7_1.set ((rd x8_1 0) : Int).toNat true) y212 (rd x8_1 0) l0_1 (l0_1.length : Int) 0 l0_0 l0_1)) else (none)) else (none)) = some r := by first | (rw [hy212]; with_reducible exact H) | (have H2_ := (Option.bind_some _ _).symm.trans H; rw [hy212]; with_reducible exact H2_) | (have H2_ := (Option.bind_some _ _).symm.trans H; with_reducible exact H2_) | with_reducible exact H | (rw [hy212]; exact H) | exact H
       have Ny212 := zm hy212
       clear hy212
       by_cases c15 : 0 ≤ (rd x8_1 0)
       ·rw [if_pos c15] at H
        have c15b0 := decide_eq_true c15
        clear c15
        by_cases c16 : (rd x8_1 0) < (x7_1.length : Int)
        ·rw [if_pos c16] at H
         have c16b0 := decide_eq_true c16
         clear c16
         obtain ⟨bq17, hbq17⟩ : ∃ b_ : Bool, b_ = (rdOf false x7_1 (rd x8_1 0)) := ⟨_, rfl⟩
         replace H : (if bq17 = true then (net_met.l0 k1 a2 x7_1 y212 l0_0 l0_1) else (net_met.l1 k1 a2 (x7_1.set ((rd x8_1 0) : Int).toNat true) y212 (rd x8_1 0) l0_1 (l0_1.length : Int) 0 l0_0 l0_1)) = some r := by rw [← hbq17] at H; exact H
         have Nbq17 := zm hbq17
         clear hbq17
         by_cases c18 : bq17 = true
         ·subst c18
          rw [if_pos rfl] at H
          have H' := zm H
          clear H
          obtain ⟨Ao19, co19, eo19, _⟩ := Kd.Q_slice HO_8.out
          subst eo19
          have p211 : 0 ≤ (0 : Int) := (by omega)
          have q211 : 0 < (x8_1.length : Int) := od
          obtain ⟨ad211, e211, hx211_0⟩ := Kd.at_int (Kd.Q_reads' HO_8.out).2.2 0 p211 q211
          cases e211
          have qi211 : (0 < x8_1.length) = True := eq_true (by omega)
          (try rw [show ((0 : Int)).toNat = 0 from rfl] at hx211_0)
          (try rw [Addr.add_zero'] at hx211_0)
          replace p211 := eq_true p211
          replace q211 := eq_true q211
          have q20 : (1 : Int) ≤ ((x8_1.length : Int) : Int) := od
          obtain ⟨i020, hi020, _, hsz20, _⟩ := info_parts info3
          have hcut20 := cut_from (P := Tryd.prog) 38 3 .i64 Tryd.underlying38 hi020 1 hsz20 (some ad211) x8_1.length co19 1 (by omega) q20
          have hr20 := Kd.Q_drop (k := (1 : Int).toNat) HO_8.out (by omega)
          obtain ⟨A20, hA20⟩ : ∃ A_, A_ = (if co19 = (1 : Int).toNat then (some ad211) else ((some ad211) : Option Addr).map (·.add ((1 : Int).toNat * 1))) := ⟨_, rfl⟩
          obtain ⟨c20, hc20⟩ : ∃ c_, c_ = co19 - (1 : Int).toNat := ⟨_, rfl⟩
          have hy20 : y212.length = x8_1.length - (1 : Int).toNat := (by rw [Ny212.out, List.length_drop])
          rw [← Ny212.out] at hr20
          rw [← hy20, ← hA20, ← hc20] at hcut20
          replace hr20 : Kd.Q (Kd.int .i64) 3 wr w.heap.size (fun _ => True) (.slice A20 y212.length c20) y212 := (by rw [hA20, hc20, hy20]; exact hr20)
          have HE20 : Aside0 ((Value.slice A20 y212.length c20).ownBlock = (.slice (some ad211) x8_1.length co19 : Value).ownBlock) := ⟨by rw [hA20]; split <;> (cases ((some ad211) : Option Addr) <;> rfl)⟩
          clear hy20 hi020 hsz20 HO_8 hA20 hc20
          have HO214 := zm hr20
          clear hr20
          replace q20 := eq_true q20
          obtain ⟨Ao21, co21, eo21⟩ := Kd.R_slice HO_7.out
          subst eo21
          have p215 : 0 ≤ ((rd x8_1 0) : Int) := od
          have q215 : (rd x8_1 0) < (x7_1.length : Int) := od
          obtain ⟨ad215, e215, hx215_0⟩ := Kd.at_bool (Kd.R_reads' HO_7.out).2.2 (rd x8_1 0) p215 q215
          (try rw [← Nbq17.out] at hx215_0)
          (try rw [← Nbq17.out] at hw215_0)
          cases e215
          replace p215 := eq_true p215
          replace q215 := eq_true q215
          go_wp2
          go_roundg k1
          case measure => have := HK1.out; omega
          case rel => exact ⟨(x7_1), (y212), H', ⟨by have := HK1.out; omega⟩, ⟨rx HO_7.out⟩, ⟨by (with_reducible repeat (first | apply Kd.Q_alloc | apply Kd.Q_drewN | apply Kd.Q_drew)); exact HO214.out⟩, ⟨kx BK204.out⟩, ⟨bx HB.out⟩⟩
         replace c18 := Bool.eq_false_iff.mpr c18
         subst c18
         rw [if_neg (show ¬ (false = true) by decide)] at H
         obtain ⟨y216, hy216⟩ : ∃ y_ : List Bool, y_ = (x7_1.set ((rd x8_1 0) : Int).toNat true) := ⟨_, rfl⟩
         replace H : (net_met.l1 k1 a2 y216 y212 (rd x8_1 0) l0_1 (l0_1.length : Int) 0 l0_0 l0_1) = some r := by first | (rw [hy216]; with_reducible exact H) | (have H2_ := (Option.bind_some _ _).symm.trans H; rw [hy216]; with_reducible exact H2_) | (have H2_ := (Option.bind_some _ _).symm.trans H; with_reducible exact H2_) | with_reducible exact H | (rw [hy216]; exact H) | exact H
         have Ny216 := zm hy216
         clear hy216
         have H' := zm H
         clear H
         obtain ⟨Ao23, co23, eo23, _⟩ := Kd.Q_slice HO_8.out
         subst eo23
         have p211 : 0 ≤ (0 : Int) := (by omega)
         have q211 : 0 < (x8_1.length : Int) := od
         obtain ⟨ad211, e211, hx211_0⟩ := Kd.at_int (Kd.Q_reads' HO_8.out).2.2 0 p211 q211
         cases e211
         have qi211 : (0 < x8_1.length) = True := eq_true (by omega)
         (try rw [show ((0 : Int)).toNat = 0 from rfl] at hx211_0)
         (try rw [Addr.add_zero'] at hx211_0)
         replace p211 := eq_true p211
         replace q211 := eq_true q211
         have q24 : (1 : Int) ≤ ((x8_1.length : Int) : Int) := od
         obtain ⟨i024, hi024, _, hsz24, _⟩ := info_parts info3
         have hcut24 := cut_from (P := Tryd.prog) 38 3 .i64 Tryd.underlying38 hi024 1 hsz24 (some ad211) x8_1.length co23 1 (by omega) q24
         have hr24 := Kd.Q_drop (k := (1 : Int).toNat) HO_8.out (by omega)
         obtain ⟨A24, hA24⟩ : ∃ A_, A_ = (if co23 = (1 : Int).toNat then (some ad211) else ((some ad211) : Option Addr).map (·.add ((1 : Int).toNat * 1))) := ⟨_, rfl⟩
         obtain ⟨c24, hc24⟩ : ∃ c_, c_ = co23 - (1 : Int).toNat := ⟨_, rfl⟩
         have hy24 : y212.length = x8_1.length - (1 : Int).toNat := (by rw [Ny212.out, List.length_drop])
         rw [← Ny212.out] at hr24
         rw [← hy24, ← hA24, ← hc24] at hcut24
         replace hr24 : Kd.Q (Kd.int .i64) 3 wr w.heap.size (fun _ => True) (.slice A24 y212.length c24) y212 := (by rw [hA24, hc24, hy24]; exact hr24)
         have HE24 : Aside0 ((Value.slice A24 y212.length c24).ownBlock = (.slice (some ad211) x8_1.length co23 : Value).ownBlock) := ⟨by rw [hA24]; split <;> (cases ((some ad211) : Option Addr) <;> rfl)⟩
         clear hy24 hi024 hsz24 HO_8 hA24 hc24
         have HO214 := zm hr24
         clear hr24
         replace q24 := eq_true q24
         obtain ⟨Ao25, co25, eo25⟩ := Kd.R_slice HO_7.out
         subst eo25
         have p215 : 0 ≤ ((rd x8_1 0) : Int) := od
         have q215 : (rd x8_1 0) < (x7_1.length : Int) := od
         obtain ⟨ad215, e215, hx215_0⟩ := Kd.at_bool (Kd.R_reads' HO_7.out).2.2 (rd x8_1 0) p215 q215
         (try rw [← Nbq17.out] at hx215_0)
         (try rw [← Nbq17.out] at hw215_0)
         cases e215
         replace p215 := eq_true p215
         replace q215 := eq_true q215
         have p22 : 0 ≤ ((rd x8_1 0) : Int) := od
         have q22 : ((rd x8_1 0) : Int) < ((x7_1.length : Int) : Int) := od
         obtain ⟨go22, co22, eo22, gb22, gl22, cl22, HG22⟩ := Kd.R_form HO_7.out (by omega)
         (first | cases eo22 | (injection eo22 with ea_ en_ ec_; (first | subst ea_ | (injection ea_ with ea_; subst ea_)); subst ec_; clear en_))
         have GB22 := zm gb22
         have GG22 := zm HG22
         clear gb22 gl22 HG22
         (first | simp only [add_plain] at hx215_0 | skip)
         obtain ⟨hx22_0, hf22_0⟩ := Kd.R_celln false HO_7.out ((rd x8_1 0) : Int) p22 q22
         replace p22 := eq_true p22
         replace q22 := eq_true q22
         have HP26 := Kd.R_putg HO_7.out ((rd x8_1 0) : Int) true
         go_wp2_with (first | ((with_reducible refine gate_store (t := 4) (p := 32) rfl ?_); refine store_event (t := 4) (p := 32) (v := ?vo_w27) (w1 := (wr.setCell ⟨go22, ((rd x8_1 0) : Int).toNat, none⟩ (.bool true))) ?hg ?ho ?hn ?hr ?_; (case ho => rfl); (case hg => rfl); (case hn => rfl); (case hr => first | (go_simp; done) | (go_simp; rfl)); intro w27 hw; have hg : wr.grownBy w27 (some go22) := (by rw [hw]; exact HP26.2); have hp_ : Kd.R Kd.bool 4 w27 w.heap.size (fun _ => True) (.slice (some ⟨go22, 0, none⟩) x7_1.length co25) y216 := (by rw [hw, Ny216.out]; exact HP26.1); clear HP26; replace HO214 := zm (Kd.Q_over' (v := (.slice (some ⟨go22, 0, none⟩) x7_1.length co25)) (by (with_reducible repeat (first | apply Kd.Q_alloc | apply Kd.Q_drewN | apply Kd.Q_drew)); exact HO214.out) (Kd.R_typed HO_7.out) (by decide) hg); replace BK204 := zm (blk_grown (g := gb204) (o := .cells #[.slice A0_0 l0_0.length c0_0, .slice A0_1 l0_1.length c0_1] 25 (0, 0)) (kx BK204.out) hg (Kd.R_ne HO_7.out BK204.out (by decide))); replace HO_7 := zm (hp_); replace HB := zm ((by rw [hw]; exact below_set (HB.out) GB22.out : Below w.heap.size w w27)); clear hg hw hp_; have hcz28_0 := bc0 BK204.out; have hcz28_1 := bc1 BK204.out; have hfz28_0 := bF BK204.out 0; have hfz28_1 := bF BK204.out 1))
         go_loopg [8, 36] k1 (fun kq v8 v36 w' => ∃ (x8_2 : List Int) (x36_2 : Int), v36 = .int .i64 x36_2 ∧ Aside0 (net_met.l1 kq a2 y216 x8_2 (rd x8_1 0) l0_1 (l0_1.length : Int) x36_2 l0_0 l0_1 = some r) ∧ Aside0 (kq ≤ k1) ∧ Aside0 (Kd.R Kd.bool 4 w' w.heap.size (fun _ => True) (.slice (some ⟨go22, 0, none⟩) x7_1.length co25) y216) ∧ Aside0 (Kd.Q (Kd.int .i64) 3 w' w.heap.size (fun _ => True) v8 x8_2) ∧ Aside0 (w'.heap[gb204]? = some (.cells #[(.slice A0_0 l0_0.length c0_0), (.slice A0_1 l0_1.length c0_1)] 25 (0, 0))) ∧ Aside0 (Below w.heap.size w w'))
         case atStart => exact ⟨(y212), (0), (by first | rfl | (simp; done) | (simp [*]; done)), H', ⟨Nat.le_refl _⟩, ⟨rx HO_7.out⟩, ⟨by (with_reducible repeat (first | apply Kd.Q_alloc | apply Kd.Q_drewN | apply Kd.Q_drew)); exact HO214.out⟩, ⟨kx BK204.out⟩, ⟨bx HB.out⟩⟩
         clear H'
         try clear c1
         try clear q1
         try clear c2
         try clear p2
         try clear q2
         try clear hx2
         try clear qi2
         try clear c4
         try clear c4b0
         try clear c4b1
         try clear c5
         try clear c5b0
         try clear c5b1
         try clear c12
         try clear c12b0
         try clear c12b1
         try clear c13
         try clear c13b0
         try clear c13b1
         try clear c14
         try clear c14b0
         try clear c14b1
         try clear c15
         try clear c15b0
         try clear c16
         try clear c16b0
         try clear q17
         try clear c18
         try clear c20
         try clear q20
         try clear p21
         try clear q21
         try clear hx21
         try clear qi21
         try clear p22
         try clear q22
         try clear hx22
         try clear hf22
         try clear c24
         try clear q24
         try clear hx211_0
         try clear hx215_0
         try clear hx22_0
         try clear p2
         try clear p211
         try clear p215
         try clear p22
         try clear q20
         try clear q211
         try clear q215
         try clear q22
         try clear q24
         try clear BK204
         obtain ⟨x8_2, x36_2, rfl, HA, HK2, HO_7, HO_8, BK204, HB⟩ := hrel
         have hl7_2 := (Kd.R_reads' HO_7.out).1
         rw [hl7_2] at HO_7
         (try simp only [hl7_2])
         (try simp only [hl7_2] at BK204)
         (try simp only [hl7_2] at HO_8)
         cases gk with
         | zero => exact absurd HA.out (by first | (intro h_; cases h_; done) | simp [net_met.l1])
         | succ k2 =>
          have H := HA.out
          clear HA
          simp only [net_met.l1] at H
          by_cases c29 : x36_2 < (l0_1.length : Int)
          ·rw [if_pos c29] at H
           have c29b0 := decide_eq_true c29
           clear c29
           by_cases c30 : 0 ≤ x36_2
           ·rw [if_pos c30] at H
            have c30b0 := decide_eq_true c30
            clear c30
            by_cases c31 : x36_2 < (l0_1.length : Int)
            ·rw [if_pos c31] at H
             have c31b0 := decide_eq_true c31
             clear c31
             have HC32 := zm H
             clear H
             have p217 : 0 ≤ (x36_2 : Int) := od
             have q217 : x36_2 < (l0_1.length : Int) := od
             obtain ⟨ad217, A217_5, c217_5, e217, hx217_0, hx217_1, hx217_2, hx217_3, hx217_4, hx217_5, hl217_5, hi217_5⟩ := at_T53 HR0_1.out x36_2 p217 q217
             (try rw [← Nbq17.out] at hx217_2)
             (try rw [← Nbq17.out] at hw217_2)
             cases e217
             replace hx217_0 := cb HB.out hx217_0
             replace hx217_1 := cb HB.out hx217_1
             replace hx217_2 := cb HB.out hx217_2
             replace hx217_3 := cb HB.out hx217_3
             replace hx217_4 := cb HB.out hx217_4
             replace hx217_5 := cb HB.out hx217_5
             have HR217_5 := zm hi217_5
             have HC217_5 := zm hl217_5
             clear hi217_5 hl217_5
             replace p217 := eq_true p217
             replace q217 := eq_true q217
             go_upto_region 11 with (first | ((with_reducible refine gate_dst (N := 11) rfl ?_); refine box_event ?hg (N := 11) ?hd (cs := #[.int .i64 0, .int .i64 0, .bool false, .int .i64 0, .int .i64 0, .slice none 0 0]) (t := 53) ?hr ?_; (case hd => rfl); (case hg => rfl); (case hr => first | (go_simp; done) | (go_simp; rfl)); intro gb218 hg w33 hbox hb; replace HO_7 := zm (Kd.R_below (rx HO_7.out) hb); replace HO_8 := zm (Kd.Q_below (by (with_reducible repeat (first | apply Kd.Q_alloc | apply Kd.Q_drewN | apply Kd.Q_drew)); exact HO_8.out) hb); have BK218 := zm (hbox); have GW218 := zm ((by rw [hg]; exact (below_size (bx HB.out)) : w.heap.size ≤ gb218)); have GE218 := zm ((by rw [hg]; exact (below_size (bx HB.out)) : w.heap.size ≤ gb218)); replace HB := zm (below_step (bx HB.out) hb); have NB204_218 := zm ((by rw [hg]; exact Nat.ne_of_lt (blk_lt (g := gb204) (o := .cells #[.slice A0_0 l0_0.length c0_0, .slice (some ad217) l0_1.length c0_1] 25 (0, 0)) (kx BK204.out)) : gb204 ≠ gb218)); have NB218_204 := zm ((by rw [hg]; exact Nat.ne_of_gt (blk_lt (g := gb204) (o := .cells #[.slice A0_0 l0_0.length c0_0, .slice (some ad217) l0_1.length c0_1] 25 (0, 0)) (kx BK204.out)) : gb218 ≠ gb204)); replace BK204 := zm (kB (kx BK204.out) hb); clear hb hbox hg; have hnb34 := NB218_204.out; have hnc34 := NB204_218.out; have hcz35_0 := bc0 BK218.out; have hcz35_1 := bc1 BK218.out; have hcz35_2 := bc2 BK218.out; have hcz35_3 := bc3 BK218.out; have hcz35_4 := bc4 BK218.out; have hcz35_5 := bc5 BK218.out; have hfz35_0 := bF BK218.out 0; have hfz35_1 := bF BK218.out 1; have hfz35_2 := bF BK218.out 2; have hfz35_3 := bF BK218.out 3; have hfz35_4 := bF BK218.out 4; have hfz35_5 := bF BK218.out 5))
             (try simp only [Act.put, sS, sZ, sC])
             go_cut [40] (fun v40 wc => ∃ (kq : Nat) (x40_31 : Bool), v40 = .bool x40_31 ∧ Aside0 (net_met.j2 kq a2 y216 x8_2 (rd x8_1 0) l0_1 (l0_1.length : Int) x36_2 x40_31 l0_0 l0_1 ((rd_T53 l0_1 x36_2).f0) ((rd_T53 l0_1 x36_2).f1) ((rd_T53 l0_1 x36_2).f2) ((rd_T53 l0_1 x36_2).f3.f0) ((rd_T53 l0_1 x36_2).f3.f1) ((rd_T53 l0_1 x36_2).f3.f2) = some r) ∧ Aside0 (kq ≤ k2) ∧ Aside0 (Kd.R Kd.bool 4 wc w.heap.size (fun _ => True) (.slice (some ⟨go22, 0, none⟩) y216.length co25) y216) ∧ Aside0 (Kd.Q (Kd.int .i64) 3 wc w.heap.size (fun _ => True) u8 x8_2) ∧ Aside0 (wc.heap[gb204]? = some (.cells #[(.slice A0_0 l0_0.length c0_0), (.slice (some ad217) l0_1.length c0_1)] 25 (0, 0))) ∧ Aside0 (wc.heap[gb218]? = some (.cells #[.int .i64 ((rd_T53 l0_1 x36_2).f0), .int .i64 ((rd_T53 l0_1 x36_2).f1), .bool ((rd_T53 l0_1 x36_2).f2), .int .i64 ((rd_T53 l0_1 x36_2).f3.f0), .int .i64 ((rd_T53 l0_1 x36_2).f3.f1), (.slice A217_5 ((rd_T53 l0_1 x36_2).f3.f2).length c217_5)] 53 (0, 0))) ∧ Aside0 (Below w.heap.size w wc))
             case first =>
              have H := HC32.out
              clear HC32
              by_cases c36 : a2 = true
              ·subst c36
               rw [if_pos rfl] at H
               have H' := zm H
               clear H
               have hnb37 := NB218_204.out
               have hnc37 := NB204_218.out
               have hcz38_0 := bc0 BK218.out
               have hcz38_1 := bc1 BK218.out
               have hcz38_2 := bc2 BK218.out
               have hcz38_3 := bc3 BK218.out
               have hcz38_4 := bc4 BK218.out
               have hcz38_5 := bc5 BK218.out
               have hfz38_0 := bF BK218.out 0
               have hfz38_1 := bF BK218.out 1
               have hfz38_2 := bF BK218.out 2
               have hfz38_3 := bF BK218.out 3
               have hfz38_4 := bF BK218.out 4
               have hfz38_5 := bF BK218.out 5
               go_wp2
               go_meet
               case rel => exact ⟨_, ((((rd_T53 l0_1 x36_2).f1) == (rd x8_1 0))), (by first | rfl | (simp; done) | (simp [*]; done)), H', ⟨by have := HK1.out; have := HK2.out; first | omega | exact Nat.le_refl _⟩, ⟨by (try simp only [hl7_2]); (with_reducible repeat (first | apply Kd.R_alloc | apply Kd.R_drewN | apply Kd.R_drew)); exact Kd.R_mono (Kd.R_far (p := ⟨gb218, 5, none⟩) (Kd.R_far (p := ⟨gb218, 4, none⟩) (Kd.R_far (p := ⟨gb218, 3, none⟩) (Kd.R_far (p := ⟨gb218, 2, none⟩) (Kd.R_far (p := ⟨gb218, 1, none⟩) (Kd.R_far (p := ⟨gb218, 0, none⟩) (Kd.R_types HO_7.out BK218.out (by decide)) (fun _ hk => hk.2) (.int .i64 ((rd_T53 l0_1 x36_2).f0))) (fun _ hk => hk.2) (.int .i64 ((rd_T53 l0_1 x36_2).f1))) (fun _ hk => hk.2) (.bool ((rd_T53 l0_1 x36_2).f2))) (fun _ hk => hk.2) (.int .i64 ((rd_T53 l0_1 x36_2).f3.f0))) (fun _ hk => hk.2) (.int .i64 ((rd_T53 l0_1 x36_2).f3.f1))) (fun _ hk => hk.2) (.slice A217_5 ((rd_T53 l0_1 x36_2).f3.f2).length c217_5)) (fun _ hk => trivial)⟩, ⟨by (try simp only [hl7_2]); (with_reducible repeat (first | apply Kd.Q_alloc | apply Kd.Q_drewN | apply Kd.Q_drew)); exact Kd.Q_mono (Kd.Q_far (p := ⟨gb218, 5, none⟩) (Kd.Q_far (p := ⟨gb218, 4, none⟩) (Kd.Q_far (p := ⟨gb218, 3, none⟩) (Kd.Q_far (p := ⟨gb218, 2, none⟩) (Kd.Q_far (p := ⟨gb218, 1, none⟩) (Kd.Q_far (p := ⟨gb218, 0, none⟩) (Kd.Q_types HO_8.out BK218.out (by decide)) (fun _ hk => hk.2) (.int .i64 ((rd_T53 l0_1 x36_2).f0))) (fun _ hk => hk.2) (.int .i64 ((rd_T53 l0_1 x36_2).f1))) (fun _ hk => hk.2) (.bool ((rd_T53 l0_1 x36_2).f2))) (fun _ hk => hk.2) (.int .i64 ((rd_T53 l0_1 x36_2).f3.f0))) (fun _ hk => hk.2) (.int .i64 ((rd_T53 l0_1 x36_2).f3.f1))) (fun _ hk => hk.2) (.slice A217_5 ((rd_T53 l0_1 x36_2).f3.f2).length c217_5)) (fun _ hk => trivial)⟩, ⟨by (try simp only [hl7_2]); (with_reducible repeat first | apply kN | apply kD | apply kA); refine blk_far ?_ NB204_218.out _; (with_reducible repeat first | apply kN | apply kD | apply kA); refine blk_far ?_ NB204_218.out _; (with_reducible repeat first | apply kN | apply kD | apply kA); refine blk_far ?_ NB204_218.out _; (with_reducible repeat first | apply kN | apply kD | apply kA); refine blk_far ?_ NB204_218.out _; (with_reducible repeat first | apply kN | apply kD | apply kA); refine blk_far ?_ NB204_218.out _; (with_reducible repeat first | apply kN | apply kD | apply kA); refine blk_far ?_ NB204_218.out _; (with_reducible repeat first | apply kN | apply kD | apply kA); exact BK204.out⟩, ⟨by (try simp only [hl7_2]); (with_reducible repeat first | apply kN | apply kD | apply kA); refine blk_put (cs := #[.int .i64 ((rd_T53 l0_1 x36_2).f0), .int .i64 ((rd_T53 l0_1 x36_2).f1), .bool ((rd_T53 l0_1 x36_2).f2), .int .i64 ((rd_T53 l0_1 x36_2).f3.f0), .int .i64 ((rd_T53 l0_1 x36_2).f3.f1), .slice none 0 0]) ?_ 5 _ rfl; (with_reducible repeat first | apply kN | apply kD | apply kA); refine blk_put (cs := #[.int .i64 ((rd_T53 l0_1 x36_2).f0), .int .i64 ((rd_T53 l0_1 x36_2).f1), .bool ((rd_T53 l0_1 x36_2).f2), .int .i64 ((rd_T53 l0_1 x36_2).f3.f0), .int .i64 0, .slice none 0 0]) ?_ 4 _ rfl; (with_reducible repeat first | apply kN | apply kD | apply kA); refine blk_put (cs := #[.int .i64 ((rd_T53 l0_1 x36_2).f0), .int .i64 ((rd_T53 l0_1 x36_2).f1), .bool ((rd_T53 l0_1 x36_2).f2), .int .i64 0, .int .i64 0, .slice none 0 0]) ?_ 3 _ rfl; (with_reducible repeat first | apply kN | apply kD | apply kA); refine blk_put (cs := #[.int .i64 ((rd_T53 l0_1 x36_2).f0), .int .i64 ((rd_T53 l0_1 x36_2).f1), .bool false, .int .i64 0, .int .i64 0, .slice none 0 0]) ?_ 2 _ rfl; (with_reducible repeat first | apply kN | apply kD | apply kA); refine blk_put (cs := #[.int .i64 ((rd_T53 l0_1 x36_2).f0), .int .i64 0, .bool false, .int .i64 0, .int .i64 0, .slice none 0 0]) ?_ 1 _ rfl; (with_reducible repeat first | apply kN | apply kD | apply kA); refine blk_put (cs := #[.int .i64 0, .int .i64 0, .bool false, .int .i64 0, .int .i64 0, .slice none 0 0]) ?_ 0 _ rfl; (with_reducible repeat first | apply kN | apply kD | apply kA); exact BK218.out⟩, ⟨bx HB.out⟩⟩
              replace c36 := Bool.eq_false_iff.mpr c36
              subst c36
              rw [if_neg (show ¬ (false = true) by decide)] at H
              have H' := zm H
              clear H
              go_wp2
              go_meet
              case rel => exact ⟨_, (false), (by first | rfl | (simp; done) | (simp [*]; done)), H', ⟨by have := HK1.out; have := HK2.out; first | omega | exact Nat.le_refl _⟩, ⟨by (try simp only [hl7_2]); (with_reducible repeat (first | apply Kd.R_alloc | apply Kd.R_drewN | apply Kd.R_drew)); exact Kd.R_mono (Kd.R_far (p := ⟨gb218, 5, none⟩) (Kd.R_far (p := ⟨gb218, 4, none⟩) (Kd.R_far (p := ⟨gb218, 3, none⟩) (Kd.R_far (p := ⟨gb218, 2, none⟩) (Kd.R_far (p := ⟨gb218, 1, none⟩) (Kd.R_far (p := ⟨gb218, 0, none⟩) (Kd.R_types HO_7.out BK218.out (by decide)) (fun _ hk => hk.2) (.int .i64 ((rd_T53 l0_1 x36_2).f0))) (fun _ hk => hk.2) (.int .i64 ((rd_T53 l0_1 x36_2).f1))) (fun _ hk => hk.2) (.bool ((rd_T53 l0_1 x36_2).f2))) (fun _ hk => hk.2) (.int .i64 ((rd_T53 l0_1 x36_2).f3.f0))) (fun _ hk => hk.2) (.int .i64 ((rd_T53 l0_1 x36_2).f3.f1))) (fun _ hk => hk.2) (.slice A217_5 ((rd_T53 l0_1 x36_2).f3.f2).length c217_5)) (fun _ hk => trivial)⟩, ⟨by (try simp only [hl7_2]); (with_reducible repeat (first | apply Kd.Q_alloc | apply Kd.Q_drewN | apply Kd.Q_drew)); exact Kd.Q_mono (Kd.Q_far (p := ⟨gb218, 5, none⟩) (Kd.Q_far (p := ⟨gb218, 4, none⟩) (Kd.Q_far (p := ⟨gb218, 3, none⟩) (Kd.Q_far (p := ⟨gb218, 2, none⟩) (Kd.Q_far (p := ⟨gb218, 1, none⟩) (Kd.Q_far (p := ⟨gb218, 0, none⟩) (Kd.Q_types HO_8.out BK218.out (by decide)) (fun _ hk => hk.2) (.int .i64 ((rd_T53 l0_1 x36_2).f0))) (fun _ hk => hk.2) (.int .i64 ((rd_T53 l0_1 x36_2).f1))) (fun _ hk => hk.2) (.bool ((rd_T53 l0_1 x36_2).f2))) (fun _ hk => hk.2) (.int .i64 ((rd_T53 l0_1 x36_2).f3.f0))) (fun _ hk => hk.2) (.int .i64 ((rd_T53 l0_1 x36_2).f3.f1))) (fun _ hk => hk.2) (.slice A217_5 ((rd_T53 l0_1 x36_2).f3.f2).length c217_5)) (fun _ hk => trivial)⟩, ⟨by (try simp only [hl7_2]); (with_reducible repeat first | apply kN | apply kD | apply kA); refine blk_far ?_ NB204_218.out _; (with_reducible repeat first | apply kN | apply kD | apply kA); refine blk_far ?_ NB204_218.out _; (with_reducible repeat first | apply kN | apply kD | apply kA); refine blk_far ?_ NB204_218.out _; (with_reducible repeat first | apply kN | apply kD | apply kA); refine blk_far ?_ NB204_218.out _; (with_reducible repeat first | apply kN | apply kD | apply kA); refine blk_far ?_ NB204_218.out _; (with_reducible repeat first | apply kN | apply kD | apply kA); refine blk_far ?_ NB204_218.out _; (with_reducible repeat first | apply kN | apply kD | apply kA); exact BK204.out⟩, ⟨by (try simp only [hl7_2]); (with_reducible repeat first | apply kN | apply kD | apply kA); refine blk_put (cs := #[.int .i64 ((rd_T53 l0_1 x36_2).f0), .int .i64 ((rd_T53 l0_1 x36_2).f1), .bool ((rd_T53 l0_1 x36_2).f2), .int .i64 ((rd_T53 l0_1 x36_2).f3.f0), .int .i64 ((rd_T53 l0_1 x36_2).f3.f1), .slice none 0 0]) ?_ 5 _ rfl; (with_reducible repeat first | apply kN | apply kD | apply kA); refine blk_put (cs := #[.int .i64 ((rd_T53 l0_1 x36_2).f0), .int .i64 ((rd_T53 l0_1 x36_2).f1), .bool ((rd_T53 l0_1 x36_2).f2), .int .i64 ((rd_T53 l0_1 x36_2).f3.f0), .int .i64 0, .slice none 0 0]) ?_ 4 _ rfl; (with_reducible repeat first | apply kN | apply kD | apply kA); refine blk_put (cs := #[.int .i64 ((rd_T53 l0_1 x36_2).f0), .int .i64 ((rd_T53 l0_1 x36_2).f1), .bool ((rd_T53 l0_1 x36_2).f2), .int .i64 0, .int .i64 0, .slice none 0 0]) ?_ 3 _ rfl; (with_reducible repeat first | apply kN | apply kD | apply kA); refine blk_put (cs := #[.int .i64 ((rd_T53 l0_1 x36_2).f0), .int .i64 ((rd_T53 l0_1 x36_2).f1), .bool false, .int .i64 0, .int .i64 0, .slice none 0 0]) ?_ 2 _ rfl; (with_reducible repeat first | apply kN | apply kD | apply kA); refine blk_put (cs := #[.int .i64 ((rd_T53 l0_1 x36_2).f0), .int .i64 0, .bool false, .int .i64 0, .int .i64 0, .slice none 0 0]) ?_ 1 _ rfl; (with_reducible repeat first | apply kN | apply kD | apply kA); refine blk_put (cs := #[.int .i64 0, .int .i64 0, .bool false, .int .i64 0, .int .i64 0, .slice none 0 0]) ?_ 0 _ rfl; (with_reducible repeat first | apply kN | apply kD | apply kA); exact BK218.out⟩, ⟨bx HB.out⟩⟩
             clear HC32
             try clear c1
             try clear q1
             try clear c2
             try clear p2
             try clear q2
             try clear hx2
             try clear qi2
             try clear c3
             try clear c4
             try clear c4b0
             try clear c4b1
             try clear c5
             try clear c5b0
             try clear c5b1
             try clear c12
             try clear c12b0
             try clear c12b1
             try clear c13
             try clear c13b0
             try clear c13b1
             try clear c14
             try clear c14b0
             try clear c14b1
             try clear c15
             try clear c15b0
             try clear c16
             try clear c16b0
             try clear q17
             try clear c18
             try clear c20
             try clear q20
             try clear c21
             try clear p21
             try clear q21
             try clear hx21
             try clear qi21
             try clear p22
             try clear q22
             try clear hx22
             try clear hf22
             try clear c24
             try clear q24
             try clear c29
             try clear c29b0
             try clear c30
             try clear c30b0
             try clear c31
             try clear c31b0
             try clear c34
             try clear c36
             try clear c37
             try clear hx211_0
             try clear hx215_0
             try clear hx217_0
             try clear hx217_1
             try clear hx217_2
             try clear hx217_3
             try clear hx217_4
             try clear hx217_5
             try clear hx22_0
             try clear p2
             try clear p21
             try clear p211
             try clear p215
             try clear p217
             try clear p22
             try clear q1
             try clear q17
             try clear q2
             try clear q20
             try clear q21
             try clear q211
             try clear q215
             try clear q217
             try clear q22
             try clear q24
             try clear BK204
             try clear BK218
             obtain ⟨kq, x40_31, rfl, HA, HJ31, HO_7, HO_8, BK204, BK218, HB⟩ := hcut
             cases kq with
             | zero => exact absurd HA.out (by first | (intro h_; cases h_; done) | simp [net_met.j2])
             | succ kj31 =>
              have H := HA.out
              clear HA
              simp only [net_met.j2] at H
              by_cases c39 : x40_31 = true
              ·subst c39
               rw [if_pos rfl] at H
               by_cases c40 : x8_2.length < 17592186044416
               ·rw [if_pos c40] at H
                have LMc40 := zm c40
                clear c40
                obtain ⟨y219, hy219⟩ : ∃ y_ : List Int, y_ = (x8_2 ++ [((rd_T53 l0_1 x36_2).f0)]) := ⟨_, rfl⟩
                replace H : (net_met.l1 kj31 a2 y216 y219 (rd x8_1 0) l0_1 (l0_1.length : Int) (wrap64 (x36_2 + 1)) l0_0 l0_1) = some r := by first | (rw [hy219]; with_reducible exact H) | (have H2_ := (Option.bind_some _ _).symm.trans H; rw [hy219]; with_reducible exact H2_) | (have H2_ := (Option.bind_some _ _).symm.trans H; with_reducible exact H2_) | with_reducible exact H | (rw [hy219]; exact H) | exact H
                have Ny219 := zm hy219
                clear hy219
                have H' := zm H
                clear H
                have hnb41 := NB218_204.out
                have hnc41 := NB204_218.out
                have hcz42_0 := bc0 BK218.out
                have hcz42_1 := bc1 BK218.out
                have hcz42_2 := bc2 BK218.out
                have hcz42_3 := bc3 BK218.out
                have hcz42_4 := bc4 BK218.out
                have hcz42_5 := bc5 BK218.out
                have hfz42_0 := bF BK218.out 0
                have hfz42_1 := bF BK218.out 1
                have hfz42_2 := bF BK218.out 2
                have hfz42_3 := bF BK218.out 3
                have hfz42_4 := bF BK218.out 4
                have hfz42_5 := bF BK218.out 5
                go_wp2_with (first | ((with_reducible refine gate_builtin (b := .append) (xs := #[.tmp 48, .tmp 51]) rfl ?_); at_builtin; refine Kd.Q_append (Kd.int .i64) (w0 := w) w.heap.size rfl (.tmp 48) (.tmp 51) 38 3 (.int .i64 0) 8 rfl Tryd.underlying38 info3 rfl (by decide) (by omega) u8 x8_2 ((rd_T53 l0_1 x36_2).f0) [.int .i64 ((rd_T53 l0_1 x36_2).f0)] (fun _ => True) (fun _ => False) rfl rfl ?aP (fun _ hk => hk.elim) ?aF ?aO ?aB ?aS ?aL ?_; (case aP => exact rfl); (case aB => exact (bx HB.out)); (case aF => exact (fun _ _ => trivial)); (case aO => exact (by (with_reducible repeat (first | apply Kd.Q_alloc | apply Kd.Q_drewN | apply Kd.Q_drew)); exact HO_8.out)); (case aS => exact (below_size (bx HB.out))); (case aL => have := LMc40.out; omega); intro v220 w43 ho hb hg hat; rw [← Ny219.out] at ho; replace HO_7 := zm (Kd.R_over' (rx HO_7.out) (Kd.Q_typed (by (with_reducible repeat (first | apply Kd.Q_alloc | apply Kd.Q_drewN | apply Kd.Q_drew)); exact HO_8.out)) (by decide) hg); replace BK204 := zm (blk_grown (g := gb204) (o := .cells #[.slice A0_0 l0_0.length c0_0, .slice (some ad217) l0_1.length c0_1] 25 (0, 0)) (kx BK204.out) hg (Kd.Q_ne HO_8.out BK204.out (by decide))); replace BK218 := zm (blk_grown (g := gb218) (o := .cells #[.int .i64 ((rd_T53 l0_1 x36_2).f0), .int .i64 ((rd_T53 l0_1 x36_2).f1), .bool ((rd_T53 l0_1 x36_2).f2), .int .i64 ((rd_T53 l0_1 x36_2).f3.f0), .int .i64 ((rd_T53 l0_1 x36_2).f3.f1), .slice A217_5 ((rd_T53 l0_1 x36_2).f3.f2).length c217_5] 53 (0, 0)) (kx BK218.out) hg (Kd.Q_ne HO_8.out BK218.out (by decide))); replace HB := zm (hb); have HO221 := zm (ho); clear HO_8 ho hb hg hat))
                (try simp only [← hl7_2])
                go_roundg kj31
                case measure => have := HK1.out; have := HK2.out; have := HJ31.out; omega
                case rel => exact ⟨(y219), (wrap64 (x36_2 + 1)), (by first | rfl | (simp; done) | (simp [*]; done)), H', ⟨by have := HK1.out; have := HK2.out; have := HJ31.out; omega⟩, ⟨by (try simp only [hl7_2]); (with_reducible repeat (first | apply Kd.R_alloc | apply Kd.R_drewN | apply Kd.R_drew)); exact HO_7.out⟩, ⟨by (try simp only [hl7_2]); (with_reducible repeat (first | apply Kd.Q_alloc | apply Kd.Q_drewN | apply Kd.Q_drew)); exact HO221.out⟩, ⟨by (try simp only [hl7_2]); (with_reducible repeat first | apply kN | apply kD | apply kA); exact BK204.out⟩, ⟨bx HB.out⟩⟩
               rw [if_neg c40] at H
               exact absurd H (by simp)
              replace c39 := Bool.eq_false_iff.mpr c39
              subst c39
              rw [if_neg (show ¬ (false = true) by decide)] at H
              by_cases c44 : a2 = true
              ·subst c44
               rw [if_pos rfl] at H
               have H' := zm H
               clear H
               go_wp2
               (try simp only [← hl7_2])
               go_roundg kj31
               case measure => have := HK1.out; have := HK2.out; have := HJ31.out; omega
               case rel => exact ⟨(x8_2), (wrap64 (x36_2 + 1)), (by first | rfl | (simp; done) | (simp [*]; done)), H', ⟨by have := HK1.out; have := HK2.out; have := HJ31.out; omega⟩, ⟨by (try simp only [hl7_2]); (with_reducible repeat (first | apply Kd.R_alloc | apply Kd.R_drewN | apply Kd.R_drew)); exact HO_7.out⟩, ⟨by (try simp only [hl7_2]); (with_reducible repeat (first | apply Kd.Q_alloc | apply Kd.Q_drewN | apply Kd.Q_drew)); exact HO_8.out⟩, ⟨by (try simp only [hl7_2]); (with_reducible repeat first | apply kN | apply kD | apply kA); exact BK204.out⟩, ⟨bx HB.out⟩⟩
              replace c44 := Bool.eq_false_iff.mpr c44
              subst c44
              rw [if_neg (show ¬ (false = true) by decide)] at H
              by_cases c45 : ((rd_T53 l0_1 x36_2).f0) = (rd x8_1 0)
              ·rw [if_pos c45] at H
               have c45b0 := beq_iff_eq.mpr c45
               have c45b1 := bne_eq_false_iff_eq.mpr c45
               clear c45
               by_cases c46 : x8_2.length < 17592186044416
               ·rw [if_pos c46] at H
                have LMc46 := zm c46
                clear c46
                obtain ⟨y222, hy222⟩ : ∃ y_ : List Int, y_ = (x8_2 ++ [((rd_T53 l0_1 x36_2).f1)]) := ⟨_, rfl⟩
                replace H : (net_met.l1 kj31 false y216 y222 (rd x8_1 0) l0_1 (l0_1.length : Int) (wrap64 (x36_2 + 1)) l0_0 l0_1) = some r := by first | (rw [hy222]; with_reducible exact H) | (have H2_ := (Option.bind_some _ _).symm.trans H; rw [hy222]; with_reducible exact H2_) | (have H2_ := (Option.bind_some _ _).symm.trans H; with_reducible exact H2_) | with_reducible exact H | (rw [hy222]; exact H) | exact H
                have Ny222 := zm hy222
                clear hy222
                have H' := zm H
                clear H
                have hnb47 := NB218_204.out
                have hnc47 := NB204_218.out
                have hcz48_0 := bc0 BK218.out
                have hcz48_1 := bc1 BK218.out
                have hcz48_2 := bc2 BK218.out
                have hcz48_3 := bc3 BK218.out
                have hcz48_4 := bc4 BK218.out
                have hcz48_5 := bc5 BK218.out
                have hfz48_0 := bF BK218.out 0
                have hfz48_1 := bF BK218.out 1
                have hfz48_2 := bF BK218.out 2
                have hfz48_3 := bF BK218.out 3
                have hfz48_4 := bF BK218.out 4
                have hfz48_5 := bF BK218.out 5
                go_wp2_with (first | ((with_reducible refine gate_builtin (b := .append) (xs := #[.tmp 62, .tmp 65]) rfl ?_); at_builtin; refine Kd.Q_append (Kd.int .i64) (w0 := w) w.heap.size rfl (.tmp 62) (.tmp 65) 38 3 (.int .i64 0) 8 rfl Tryd.underlying38 info3 rfl (by decide) (by omega) u8 x8_2 ((rd_T53 l0_1 x36_2).f1) [.int .i64 ((rd_T53 l0_1 x36_2).f1)] (fun _ => True) (fun _ => False) rfl rfl ?aP (fun _ hk => hk.elim) ?aF ?aO ?aB ?aS ?aL ?_; (case aP => exact rfl); (case aB => exact (bx HB.out)); (case aF => exact (fun _ _ => trivial)); (case aO => exact (by (with_reducible repeat (first | apply Kd.Q_alloc | apply Kd.Q_drewN | apply Kd.Q_drew)); exact HO_8.out)); (case aS => exact (below_size (bx HB.out))); (case aL => have := LMc46.out; omega); intro v223 w49 ho hb hg hat; rw [← Ny222.out] at ho; replace HO_7 := zm (Kd.R_over' (rx HO_7.out) (Kd.Q_typed (by (with_reducible repeat (first | apply Kd.Q_alloc | apply Kd.Q_drewN | apply Kd.Q_drew)); exact HO_8.out)) (by decide) hg); replace BK204 := zm (blk_grown (g := gb204) (o := .cells #[.slice A0_0 l0_0.length c0_0, .slice (some ad217) l0_1.length c0_1] 25 (0, 0)) (kx BK204.out) hg (Kd.Q_ne HO_8.out BK204.out (by decide))); replace BK218 := zm (blk_grown (g := gb218) (o := .cells #[.int .i64 ((rd_T53 l0_1 x36_2).f0), .int .i64 ((rd_T53 l0_1 x36_2).f1), .bool ((rd_T53 l0_1 x36_2).f2), .int .i64 ((rd_T53 l0_1 x36_2).f3.f0), .int .i64 ((rd_T53 l0_1 x36_2).f3.f1), .slice A217_5 ((rd_T53 l0_1 x36_2).f3.f2).length c217_5] 53 (0, 0)) (kx BK218.out) hg (Kd.Q_ne HO_8.out BK218.out (by decide))); replace HB := zm (hb); have HO224 := zm (ho); clear HO_8 ho hb hg hat))
                (try simp only [← hl7_2])
                go_roundg kj31
                case measure => have := HK1.out; have := HK2.out; have := HJ31.out; omega
                case rel => exact ⟨(y222), (wrap64 (x36_2 + 1)), (by first | rfl | (simp; done) | (simp [*]; done)), H', ⟨by have := HK1.out; have := HK2.out; have := HJ31.out; omega⟩, ⟨by (try simp only [hl7_2]); (with_reducible repeat (first | apply Kd.R_alloc | apply Kd.R_drewN | apply Kd.R_drew)); exact HO_7.out⟩, ⟨by (try simp only [hl7_2]); (with_reducible repeat (first | apply Kd.Q_alloc | apply Kd.Q_drewN | apply Kd.Q_drew)); exact HO224.out⟩, ⟨by (try simp only [hl7_2]); (with_reducible repeat first | apply kN | apply kD | apply kA); exact BK204.out⟩, ⟨bx HB.out⟩⟩
               rw [if_neg c46] at H
               exact absurd H (by simp)
              rw [if_neg c45] at H
              have c45b0 := beq_eq_false_iff_ne.mpr c45
              have c45b1 := bne_iff_ne.mpr c45
              have H' := zm H
              clear H
              have hnb50 := NB218_204.out
              have hnc50 := NB204_218.out
              have hcz51_0 := bc0 BK218.out
              have hcz51_1 := bc1 BK218.out
              have hcz51_2 := bc2 BK218.out
              have hcz51_3 := bc3 BK218.out
              have hcz51_4 := bc4 BK218.out
              have hcz51_5 := bc5 BK218.out
              have hfz51_0 := bF BK218.out 0
              have hfz51_1 := bF BK218.out 1
              have hfz51_2 := bF BK218.out 2
              have hfz51_3 := bF BK218.out 3
              have hfz51_4 := bF BK218.out 4
              have hfz51_5 := bF BK218.out 5
              go_wp2
              (try simp only [← hl7_2])
              go_roundg kj31
              case measure => have := HK1.out; have := HK2.out; have := HJ31.out; omega
              case rel => exact ⟨(x8_2), (wrap64 (x36_2 + 1)), (by first | rfl | (simp; done) | (simp [*]; done)), H', ⟨by have := HK1.out; have := HK2.out; have := HJ31.out; omega⟩, ⟨by (try simp only [hl7_2]); (with_reducible repeat (first | apply Kd.R_alloc | apply Kd.R_drewN | apply Kd.R_drew)); exact HO_7.out⟩, ⟨by (try simp only [hl7_2]); (with_reducible repeat (first | apply Kd.Q_alloc | apply Kd.Q_drewN | apply Kd.Q_drew)); exact HO_8.out⟩, ⟨by (try simp only [hl7_2]); (with_reducible repeat first | apply kN | apply kD | apply kA); exact BK204.out⟩, ⟨bx HB.out⟩⟩
            rw [if_neg c31] at H
            exact absurd H (by simp)
           rw [if_neg c30] at H
           exact absurd H (by simp)
          rw [if_neg c29] at H
          have c29b0 := decide_eq_false c29
          try (have c29b9 := c29b0; rw [hl7_2] at c29b9)
          try (have c29b9 := c29b0; rw [hl217_5] at c29b9)
          clear c29
          have H' := zm H
          clear H
          go_wp2
          (try simp only [← hl7_2])
          go_roundg k2
          case measure => have := HK1.out; have := HK2.out; omega
          case rel => exact ⟨(y216), (x8_2), H', ⟨by have := HK1.out; have := HK2.out; omega⟩, ⟨by (try simp only [hl7_2]); (with_reducible repeat (first | apply Kd.R_alloc | apply Kd.R_drewN | apply Kd.R_drew)); exact HO_7.out⟩, ⟨by (try simp only [hl7_2]); (with_reducible repeat (first | apply Kd.Q_alloc | apply Kd.Q_drewN | apply Kd.Q_drew)); exact HO_8.out⟩, ⟨by (try simp only [hl7_2]); (with_reducible repeat first | apply kN | apply kD | apply kA); exact BK204.out⟩, ⟨bx HB.out⟩⟩
        rw [if_neg c16] at H
        exact absurd H (by simp)
       rw [if_neg c15] at H
       exact absurd H (by simp)
      rw [if_neg c14] at H
      exact absurd H (by simp)
     rw [if_neg c13] at H
     exact absurd H (by simp)
    rw [if_neg c12] at H
    have c12b0 : decide (0 < (x8_1.length : Int)) = false := decide_eq_false c12
    try (have c12b9 := c12b0; rw [hl7_2] at c12b9)
    try (have c12b9 := c12b0; rw [hl217_5] at c12b9)
    have c12b1 : decide (0 < x8_1.length) = false := decide_eq_false (by omega)
    clear c12
    obtain rfl := Option.some.inj H
    obtain ⟨Ao52, co52, eo52, _⟩ := Kd.Q_slice HO_8.out
    subst eo52
    go_wp2
    go_ret
    exact ⟨_, xe, rx HO_7.out, bx HB.out⟩
  rw [if_neg c5] at H
  exact absurd H (by simp)
 rw [if_neg c4] at H
 exact absurd H (by simp)

def net_All_3.q (t b : List Bool) : Int → Option Bool := fun i =>
 if 0 ≤ i then (if i < (t.length : Int) then (if rdOf false t i = true then (if i < (b.length : Int) then some (!rdOf false b i) else none) else some true) else none) else none
set_option maxHeartbeats 8000000 in
set_option maxRecDepth 100000 in
theorem net_All_3.ok {g : Nat} {A0 : Option Addr} {c0 : Nat} {l0 : List Bool} {g2 : Nat} {A1 : Option Addr} {c1 : Nat} {l1 : List Bool} {w : World} (hG0 : w.heap[g]? = some (.cells #[.slice A0 l0.length c0] 41 (0, 0)))
  (hr0 : Kd.C Kd.bool w A0 l0.length l0) (hc0 : l0.length ≤ c0) (hG1 : w.heap[g2]? = some (.cells #[.slice A1 l1.length c1] 41 (0, 0))) (hr1 : Kd.C Kd.bool w A1 l1.length l1) (hc1 : l1.length ≤ c1) : FnOk64 44 #[.pointer (some ⟨g, 0, none⟩), .pointer (some ⟨g2, 0, none⟩)] (net_All_3.q l0 l1) w := by
 intro W x b hb0 hq
 simp only [net_All_3.q] at hq
 have z0 : W.cell? ⟨g, 0, none⟩ = some (.slice A0 l0.length c0) := (blk_cell (blk_below hG0 hb0) 0).trans rfl
 have z1 : W.cell? ⟨g2, 0, none⟩ = some (.slice A1 l1.length c1) := (blk_cell (blk_below hG1 hb0) 0).trans rfl
 have HR0 := zm (Kd.C_below hr0 hb0)
 have HR1 := zm (Kd.C_below hr1 hb0)
 clear hG0 hG1 hb0 hr0 hr1 hc0 hc1
 by_cases h0 : 0 ≤ x
 rotate_left
 ·rw [if_neg h0] at hq; exact absurd hq (by simp)
 rw [if_pos h0] at hq
 by_cases h1 : x < (l0.length : Int)
 rotate_left
 ·rw [if_neg h1] at hq; exact absurd hq (by simp)
 rw [if_pos h1] at hq
 obtain ⟨ad0, e0, hx0⟩ := Kd.at_bool HR0.out x h0 h1
 cases e0
 generalize hv : rdOf false l0 x = v at hq hx0
 have HV := zm hv
 clear hv
 have p0 := eq_true h0
 have q0 := eq_true h1
 show Calls Tryd.prog 44 #[.int .i64 x, .pointer (some ⟨g, 0, none⟩), .pointer (some ⟨g2, 0, none⟩)] W _
 cases v with
 | false =>
  simp only [Bool.false_eq_true, if_false, Option.some.injEq] at hq
  subst hq
  go_enter Tryd.func44, Tryd.ntmps44
  go_wp2
  all_goals go_ret
  all_goals exact ⟨by first | rfl | (simp; done) | (simp [*]; done), by repeat (first | exact Below.refl _ _ | apply bA | apply bN | apply bD)⟩
 | true =>
  simp only [if_true] at hq
  by_cases h2 : x < (l1.length : Int)
  rotate_left
  ·rw [if_neg h2] at hq; exact absurd hq (by simp)
  rw [if_pos h2, Option.some.injEq] at hq
  subst hq
  obtain ⟨ad1, e1, hx1⟩ := Kd.at_bool HR1.out x h0 h2
  cases e1
  have q1 := eq_true h2
  go_enter Tryd.func44, Tryd.ntmps44
  go_wp2
  all_goals go_ret
  all_goals exact ⟨by first | rfl | (simp; done) | (simp [*]; done), by repeat (first | exact Below.refl _ _ | apply bA | apply bN | apply bD)⟩

end Go.Proofs.YtdaeiicdpfghlaaDoor.R
