import Derived.Test.YtdaeiicdpfghlaaDoorSx0
import Derived.Test.YtdaeiicdpfghlaaDoorSx2
import Derived.Test.YtdaeiicdpfghlaaDoorSx3
import Derived.Test.YtdaeiicdpfghlaaDoorSx4
import Derived.Test.YtdaeiicdpfghlaaDoorSx5
import Derived.Test.YtdaeiicdpfghlaaDoorSx7
import Derived.Test.YtdaeiicdpfghlaaDoorSx10
namespace Go.Proofs.YtdaeiicdpfghlaaDoor.R
open Go.RowKit Go.Proofs.YtdaeiicdpfghlaaDoorW.PrintWords Go.Proofs.YtdaeiicdpfghlaaDoorW.PrintLast Go.Proofs.YtdaeiicdpfghlaaDoorW.PrintMore
attribute [local go_sem] max2_int min2_int max_two min_two max_three min_three max_four min_four   -- for this text's walks alone
set_option linter.unusedVariables false
set_option linter.unusedSimpArgs false

def net_Check.f (k : Nat) (l0_0 : List (S37)) (l0_1 : List (S53)) : Option (Int × Int) := (net_All.f k l0_0 l0_1).bind fun t252 => (if (t252.length : Int) > 0 then (if 0 < (t252.length : Int) then (some ((rd_T47 t252 0).f0, (rd_T47 t252 0).f1)) else (none)) else (some (0, 0)))
set_option maxRecDepth 100000 in
theorem net_Check.mono : ∀ a0 a1 k, LeO (net_Check.f k a0 a1) (net_Check.f (k + 1) a0 a1) := by
 intro a0 a1 k
 unfold net_Check.f
 repeat' first
 | (with_reducible exact net_All.mono _ _ _)
 | (with_reducible exact LeO.refl _)
 | (with_reducible exact LeO.none _)
 | (with_reducible refine LeO.ite ?_ ?_)
 | (with_reducible refine LeO.bind ?_ (fun _ => ?_))
 | refine LeO.ite ?_ ?_
 | refine LeO.bind ?_ (fun _ => ?_)
set_option maxHeartbeats 8000000 in
set_option maxRecDepth 100000 in
theorem net_Check.calls (k : Nat) (A0_0 : Option Addr) (c0_0 : Nat) (l0_0 : List (S37)) (A0_1 : Option Addr) (c0_1 : Nat) (l0_1 : List (S53)) (r1 : Int) (r2 : Int) (w : World) (hr0_0 : Kd.C k37 w A0_0 l0_0.length l0_0) (hc0_0 : l0_0.length ≤ c0_0) (hr0_1 : Kd.C k53 w A0_1 l0_1.length l0_1) (hc0_1 : l0_1.length ≤ c0_1) (h : net_Check.f k l0_0 l0_1 = some (r1, r2)) (hT : Words.Tab w) :
  Calls Tryd.prog 11 #[.agg #[.slice A0_0 l0_0.length c0_0, .slice A0_1 l0_1.length c0_1]] w fun e w' => e = .returned (.tuple #[.int .i64 r1, .int .i64 r2]) ∧ Below w.heap.size w w' := by
 have hu25 := Tryd.underlying25
 have HR0_0 := zm hr0_0
 have HC0_0 := zm hc0_0
 clear hr0_0 hc0_0
 have HR0_1 := zm hr0_1
 have HC0_1 := zm hc0_1
 clear hr0_1 hc0_1
 have HB := zm (Below.refl w.heap.size w)
 have HT0 := zm hT
 clear hT
 have H : ((net_All.f k l0_0 l0_1).bind fun t252 => (if (t252.length : Int) > 0 then (if 0 < (t252.length : Int) then (some ((rd_T47 t252 0).f0, (rd_T47 t252 0).f1)) else (none)) else (some (0, 0)))) = some (r1, r2) := h
 clear h
 replace H := Option.bind_eq_some_iff.mp H
 obtain ⟨t252, A20, H⟩ := H
 replace H : (if (t252.length : Int) > 0 then (if 0 < (t252.length : Int) then (some ((rd_T47 t252 0).f0, (rd_T47 t252 0).f1)) else (none)) else (some (0, 0))) = some (r1, r2) := H
 have A2 := zm A20
 clear A20
 have HC3 := zm H
 clear H
 go_enter Tryd.func11, Tryd.ntmps11
 go_upto_if 9 with (first | ((with_reducible refine gate_dst (N := 1) rfl ?_); refine box_event ?hg (N := 1) ?hd (cs := #[.slice A0_0 l0_0.length c0_0, .slice A0_1 l0_1.length c0_1]) (t := 25) ?hr ?_; (case hd => rfl); (case hg => rfl); (case hr => first | (go_simp; done) | (go_simp; rfl)); intro gb251 hg w4 hbox hb; have BK251 := zm (hbox); have GW251 := zm ((by rw [hg]; exact (below_size (bx HB.out)) : w.heap.size ≤ gb251)); have GE251 := zm ((by rw [hg]; exact (below_size (bx HB.out)) : w.heap.size ≤ gb251)); replace HB := zm (below_step (bx HB.out) hb); clear hb hbox hg; have hcz5_0 := bc0 BK251.out; have hcz5_1 := bc1 BK251.out) | (go_at_call 18; (with_reducible refine (net_All.calls k _ _ l0_0 _ _ l0_1 t252 _ ?side1 HC0_0.out ?side3 HC0_1.out A2.out ?hT_).mono ?_); (case hT_ => exact Words.tab_below HT0.out (bx HB.out)); (case side1 => exact cx (Kd.C_below HR0_0.out HB.out)); (case side3 => exact cx (Kd.C_below HR0_1.out HB.out)); rintro e w6 ⟨v253, rfl, ho0, hb⟩; have HO254 := zm (Kd.R_lower ho0 (below_size (bx HB.out))); replace BK251 := zm (kB (kx BK251.out) hb); replace HB := zm (below_step (bx HB.out) hb); (try clear hb); (try clear ho0); obtain ⟨Ao7, co7, eo7⟩ := Kd.R_slice HO254.out; subst eo7))
 have H := HC3.out
 clear HC3
 by_cases c8 : (t252.length : Int) > 0
 ·rw [if_pos c8] at H
  have c8b0 : decide (0 < (t252.length : Int)) = true := decide_eq_true c8
  have c8b1 : decide (0 < t252.length) = true := decide_eq_true (by omega)
  clear c8
  (first | rw [c8b0] | (simp only [i64_w, i32_w]; rw [c8b0]) | rw [c8b1] | skip)
  by_cases c9 : 0 < (t252.length : Int)
  ·rw [if_pos c9] at H
   have c9b0 := decide_eq_true c9
   have c9b1 : decide (0 < t252.length) = true := decide_eq_true (by omega)
   clear c9
   simp only [Option.some.injEq, Prod.mk.injEq] at H
   obtain ⟨rfl, rfl⟩ := H
   have p255 : 0 ≤ (0 : Int) := (by omega)
   have q255 : 0 < (t252.length : Int) := od
   obtain ⟨ad255, e255, hx255_0, hx255_1⟩ := at_T47 (Kd.R_reads' HO254.out).2.2 0 p255 q255
   cases e255
   have qi255 : (0 < t252.length) = True := eq_true (by omega)
   (try rw [show ((0 : Int)).toNat = 0 from rfl] at hx255_0)
   (try rw [show 0 * 2 = 0 from rfl] at hx255_0)
   (try rw [Addr.add_zero'] at hx255_0)
   (try rw [show ((0 : Int)).toNat = 0 from rfl] at hx255_1)
   (try rw [show 0 * 2 = 0 from rfl] at hx255_1)
   (try rw [Addr.add_zero'] at hx255_1)
   replace p255 := eq_true p255
   replace q255 := eq_true q255
   have p256 : 0 ≤ (0 : Int) := (by omega)
   have q256 : 0 < (t252.length : Int) := od
   obtain ⟨ad256, e256, hx256_0, hx256_1⟩ := at_T47 (Kd.R_reads' HO254.out).2.2 0 p256 q256
   obtain rfl : ad255 = ad256 := (by injection e256)
   have qi256 : (0 < t252.length) = True := eq_true (by omega)
   (try rw [show ((0 : Int)).toNat = 0 from rfl] at hx256_0)
   (try rw [show 0 * 2 = 0 from rfl] at hx256_0)
   (try rw [Addr.add_zero'] at hx256_0)
   (try rw [show ((0 : Int)).toNat = 0 from rfl] at hx256_1)
   (try rw [show 0 * 2 = 0 from rfl] at hx256_1)
   (try rw [Addr.add_zero'] at hx256_1)
   replace p256 := eq_true p256
   replace q256 := eq_true q256
   go_wp2
   repeat (go_quiet (fail); try go_wp2)
   go_ret2
   exact ⟨xe, bx HB.out⟩
  rw [if_neg c9] at H
  exact absurd H (by simp)
 rw [if_neg c8] at H
 have c8b0 : decide (0 < (t252.length : Int)) = false := decide_eq_false c8
 have c8b1 : decide (0 < t252.length) = false := decide_eq_false (by omega)
 clear c8
 (first | rw [c8b0] | (simp only [i64_w, i32_w]; rw [c8b0]) | rw [c8b1] | skip)
 simp only [Option.some.injEq, Prod.mk.injEq] at H
 obtain ⟨rfl, rfl⟩ := H
 go_wp2
 repeat (go_quiet (fail); try go_wp2)
 go_ret2
 exact ⟨xe, bx HB.out⟩

def treenaillaw05_line.f (k : Nat)  : Option (Bool) := (some (([(⟨1, 0, (⟨0, 0, ([] : List (S35))⟩ : S35)⟩ : S37), (⟨3, 0, (⟨0, 0, ([] : List (S35))⟩ : S35)⟩ : S37), (⟨2, 0, (⟨0, 0, ([] : List (S35))⟩ : S35)⟩ : S37)] : List (S37)) : List (S37))).bind fun y257 => ((some (([(⟨0, 1, false, (⟨0, 0, ([] : List (S35))⟩ : S35)⟩ : S53), (⟨1, 2, false, (⟨0, 0, ([] : List (S35))⟩ : S35)⟩ : S53)] : List (S53)) : List (S53))).bind fun y260 => ((net_Check.f k y257 y260).bind fun bt264 => ((net_Outs.f k y257 y260 1).bind fun t266 => (if 1 ≤ (y260.length : Int) then ((some (y260.take (1 : Int).toNat : List (S53))).bind fun y269 => ((net_Check.f k y257 y269).bind fun bt272 => (if bt264.1 = 0 then (if bt272.1 = 3 then (if bt272.2 = 1 then (if (t266.length : Int) = 1 then (if 0 < (t266.length : Int) then (if (rd t266 0) = 1 then ((net_End.f k y257 y269).bind fun t275 => (some (t275 == 2))) else (some false)) else (none)) else (some false)) else (some false)) else (some false)) else (some false)))) else (none)))))
set_option maxRecDepth 100000 in
theorem treenaillaw05_line.mono : ∀ k, LeO (treenaillaw05_line.f k ) (treenaillaw05_line.f (k + 1) ) := by
 intro  k
 unfold treenaillaw05_line.f
 repeat' first
 | (with_reducible exact net_Check.mono _ _ _)
 | (with_reducible exact net_End.mono _ _ _)
 | (with_reducible exact net_Outs.mono _ _ _ _)
 | (with_reducible exact LeO.refl _)
 | (with_reducible exact LeO.none _)
 | (with_reducible refine LeO.ite ?_ ?_)
 | (with_reducible refine LeO.bind ?_ (fun _ => ?_))
 | refine LeO.ite ?_ ?_
 | refine LeO.bind ?_ (fun _ => ?_)
set_option maxHeartbeats 8000000 in
set_option maxRecDepth 100000 in
theorem treenaillaw05_line.calls (k : Nat)  (r : Bool) (w : World) (h : treenaillaw05_line.f k  = some r) (hT : Words.Tab w) :
  Calls Tryd.prog 10 #[] w fun e w' => e = .returned (.bool r) ∧ Below w.heap.size w w' := by
 have hu37 := Tryd.underlying37
 have hu53 := Tryd.underlying53
 have hu25 := Tryd.underlying25
 have HB := zm (Below.refl w.heap.size w)
 have HT0 := zm hT
 clear hT
 have H : ((some (([(⟨1, 0, (⟨0, 0, ([] : List (S35))⟩ : S35)⟩ : S37), (⟨3, 0, (⟨0, 0, ([] : List (S35))⟩ : S35)⟩ : S37), (⟨2, 0, (⟨0, 0, ([] : List (S35))⟩ : S35)⟩ : S37)] : List (S37)) : List (S37))).bind fun y257 => ((some (([(⟨0, 1, false, (⟨0, 0, ([] : List (S35))⟩ : S35)⟩ : S53), (⟨1, 2, false, (⟨0, 0, ([] : List (S35))⟩ : S35)⟩ : S53)] : List (S53)) : List (S53))).bind fun y260 => ((net_Check.f k y257 y260).bind fun bt264 => ((net_Outs.f k y257 y260 1).bind fun t266 => (if 1 ≤ (y260.length : Int) then ((some (y260.take (1 : Int).toNat : List (S53))).bind fun y269 => ((net_Check.f k y257 y269).bind fun bt272 => (if bt264.1 = 0 then (if bt272.1 = 3 then (if bt272.2 = 1 then (if (t266.length : Int) = 1 then (if 0 < (t266.length : Int) then (if (rd t266 0) = 1 then ((net_End.f k y257 y269).bind fun t275 => (some (t275 == 2))) else (some false)) else (none)) else (some false)) else (some false)) else (some false)) else (some false)))) else (none)))))) = some r := h
 clear h
 obtain ⟨y257, hy257⟩ : ∃ y_ : List (S37), y_ = (([(⟨1, 0, (⟨0, 0, ([] : List (S35))⟩ : S35)⟩ : S37), (⟨3, 0, (⟨0, 0, ([] : List (S35))⟩ : S35)⟩ : S37), (⟨2, 0, (⟨0, 0, ([] : List (S35))⟩ : S35)⟩ : S37)] : List (S37))) := ⟨_, rfl⟩
 replace H : ((some (([(⟨0, 1, false, (⟨0, 0, ([] : List (S35))⟩ : S35)⟩ : S53), (⟨1, 2, false, (⟨0, 0, ([] : List (S35))⟩ : S35)⟩ : S53)] : List (S53)) : List (S53))).bind fun y260 => ((net_Check.f k y257 y260).bind fun bt264 => ((net_Outs.f k y257 y260 1).bind fun t266 => (if 1 ≤ (y260.length : Int) then ((some (y260.take (1 : Int).toNat : List (S53))).bind fun y269 => ((net_Check.f k y257 y269).bind fun bt272 => (if bt264.1 = 0 then (if bt272.1 = 3 then (if bt272.2 = 1 then (if (t266.length : Int) = 1 then (if 0 < (t266.length : Int) then (if (rd t266 0) = 1 then ((net_End.f k y257 y269).bind fun t275 => (some (t275 == 2))) else (some false)) else (none)) else (some false)) else (some false)) else (some false)) else (some false)))) else (none))))) = some r := by first | (rw [hy257]; with_reducible exact H) | (have H2_ := (Option.bind_some _ _).symm.trans H; rw [hy257]; with_reducible exact H2_) | (have H2_ := (Option.bind_some _ _).symm.trans H; with_reducible exact H2_) | with_reducible exact H | (rw [hy257]; exact H) | exact H
 have Ny257 := zm hy257
 clear hy257
 obtain ⟨y260, hy260⟩ : ∃ y_ : List (S53), y_ = (([(⟨0, 1, false, (⟨0, 0, ([] : List (S35))⟩ : S35)⟩ : S53), (⟨1, 2, false, (⟨0, 0, ([] : List (S35))⟩ : S35)⟩ : S53)] : List (S53))) := ⟨_, rfl⟩
 replace H : ((net_Check.f k y257 y260).bind fun bt264 => ((net_Outs.f k y257 y260 1).bind fun t266 => (if 1 ≤ (y260.length : Int) then ((some (y260.take (1 : Int).toNat : List (S53))).bind fun y269 => ((net_Check.f k y257 y269).bind fun bt272 => (if bt264.1 = 0 then (if bt272.1 = 3 then (if bt272.2 = 1 then (if (t266.length : Int) = 1 then (if 0 < (t266.length : Int) then (if (rd t266 0) = 1 then ((net_End.f k y257 y269).bind fun t275 => (some (t275 == 2))) else (some false)) else (none)) else (some false)) else (some false)) else (some false)) else (some false)))) else (none)))) = some r := by first | (rw [hy260]; with_reducible exact H) | (have H2_ := (Option.bind_some _ _).symm.trans H; rw [hy260]; with_reducible exact H2_) | (have H2_ := (Option.bind_some _ _).symm.trans H; with_reducible exact H2_) | with_reducible exact H | (rw [hy260]; exact H) | exact H
 have Ny260 := zm hy260
 clear hy260
 replace H := Option.bind_eq_some_iff.mp H
 obtain ⟨⟨t264, t265⟩, A10, H⟩ := H
 have A1 := zm A10
 clear A10
 replace H := Option.bind_eq_some_iff.mp H
 obtain ⟨t266, A20, H⟩ := H
 replace H : (if 1 ≤ (y260.length : Int) then ((some (y260.take (1 : Int).toNat : List (S53))).bind fun y269 => ((net_Check.f k y257 y269).bind fun bt272 => (if t264 = 0 then (if bt272.1 = 3 then (if bt272.2 = 1 then (if (t266.length : Int) = 1 then (if 0 < (t266.length : Int) then (if (rd t266 0) = 1 then ((net_End.f k y257 y269).bind fun t275 => (some (t275 == 2))) else (some false)) else (none)) else (some false)) else (some false)) else (some false)) else (some false)))) else (none)) = some r := H
 have A2 := zm A20
 clear A20
 by_cases c3 : 1 ≤ (y260.length : Int)
 ·rw [if_pos c3] at H
  have c3b0 := eq_true c3
  have c3b1 := decide_eq_true c3
  clear c3
  obtain ⟨y269, hy269⟩ : ∃ y_ : List (S53), y_ = (y260.take (1 : Int).toNat) := ⟨_, rfl⟩
  replace H : ((net_Check.f k y257 y269).bind fun bt272 => (if t264 = 0 then (if bt272.1 = 3 then (if bt272.2 = 1 then (if (t266.length : Int) = 1 then (if 0 < (t266.length : Int) then (if (rd t266 0) = 1 then ((net_End.f k y257 y269).bind fun t275 => (some (t275 == 2))) else (some false)) else (none)) else (some false)) else (some false)) else (some false)) else (some false))) = some r := by first | (rw [hy269]; with_reducible exact H) | (have H2_ := (Option.bind_some _ _).symm.trans H; rw [hy269]; with_reducible exact H2_) | (have H2_ := (Option.bind_some _ _).symm.trans H; with_reducible exact H2_) | with_reducible exact H | (rw [hy269]; exact H) | exact H
  have Ny269 := zm hy269
  clear hy269
  replace H := Option.bind_eq_some_iff.mp H
  obtain ⟨⟨t272, t273⟩, A40, H⟩ := H
  replace H : (if t264 = 0 then (if t272 = 3 then (if t273 = 1 then (if (t266.length : Int) = 1 then (if 0 < (t266.length : Int) then (if (rd t266 0) = 1 then ((net_End.f k y257 y269).bind fun t275 => (some (t275 == 2))) else (some false)) else (none)) else (some false)) else (some false)) else (some false)) else (some false)) = some r := H
  have A4 := zm A40
  clear A40
  have HC5 := zm H
  clear H
  go_enter Tryd.func10, Tryd.ntmps10
  go_upto_region 6 with (first | ((with_reducible refine gate_dst (N := 10) rfl ?_); (try (refine gate_guard (by rfl) ?_; dsimp only)); refine Kd.R_lit k37 _ 37 ?hg (N := 10) ?hd (xs := ([(⟨1, 0, (⟨0, 0, ([] : List (S35))⟩ : S35)⟩ : S37), (⟨3, 0, (⟨0, 0, ([] : List (S35))⟩ : S35)⟩ : S37), (⟨2, 0, (⟨0, 0, ([] : List (S35))⟩ : S35)⟩ : S37)] : List (S37))) (inner := [.int .i64 1, .int .i64 0, .int .i64 0, .int .i64 0, .slice none 0 0, .int .i64 3, .int .i64 0, .int .i64 0, .int .i64 0, .slice none 0 0, .int .i64 2, .int .i64 0, .int .i64 0, .int .i64 0, .slice none 0 0]) (ok := fun _ => True) (okp := fun _ => True) ?hr ?hp (fun _ hk => hk) trivial (Below.refl _ _) (Nat.le_refl _) (by simp) ?_; (case hd => rfl); (case hg => rfl); (case hr => first | (go_simp; done) | (go_simp; rfl)); (case hp => exact (Reps.c5 (show Kd.M k37 _ _ _ (⟨1, 0, (⟨0, 0, ([] : List (S35))⟩ : S35)⟩ : S37) [.int .i64 1, .int .i64 0, .int .i64 0, .int .i64 0, .slice none 0 0] from (k37_mkM _ _ _ (⟨1, 0, (⟨0, 0, ([] : List (S35))⟩ : S35)⟩ : S37) (Kd.R_nil _ _ _ _ _))) (Reps.c5 (show Kd.M k37 _ _ _ (⟨3, 0, (⟨0, 0, ([] : List (S35))⟩ : S35)⟩ : S37) [.int .i64 3, .int .i64 0, .int .i64 0, .int .i64 0, .slice none 0 0] from (k37_mkM _ _ _ (⟨3, 0, (⟨0, 0, ([] : List (S35))⟩ : S35)⟩ : S37) (Kd.R_nil _ _ _ _ _))) (Reps.c5 (show Kd.M k37 _ _ _ (⟨2, 0, (⟨0, 0, ([] : List (S35))⟩ : S35)⟩ : S37) [.int .i64 2, .int .i64 0, .int .i64 0, .int .i64 0, .slice none 0 0] from (k37_mkM _ _ _ (⟨2, 0, (⟨0, 0, ([] : List (S35))⟩ : S35)⟩ : S37) (Kd.R_nil _ _ _ _ _))) (Reps.none _ _))))); intro v258 w6 ho7 hb hg_ hnew_; clear hg_ hnew_; (first | rw [← Ny257.out] at ho7 | (simp only [Int.reduceToNat] at ho7; rw [← Ny257.out] at ho7)); have HO259 := zm (Kd.R_lower ho7 (below_size (bx HB.out))); replace HB := zm (below_step (bx HB.out) hb); clear hb ho7) | ((with_reducible refine gate_dst (N := 13) rfl ?_); (try (refine gate_guard (by rfl) ?_; dsimp only)); refine Kd.R_lit k53 _ 53 ?hg (N := 13) ?hd (xs := ([(⟨0, 1, false, (⟨0, 0, ([] : List (S35))⟩ : S35)⟩ : S53), (⟨1, 2, false, (⟨0, 0, ([] : List (S35))⟩ : S35)⟩ : S53)] : List (S53))) (inner := [.int .i64 0, .int .i64 1, .bool false, .int .i64 0, .int .i64 0, .slice none 0 0, .int .i64 1, .int .i64 2, .bool false, .int .i64 0, .int .i64 0, .slice none 0 0]) (ok := fun _ => True) (okp := fun _ => True) ?hr ?hp (fun _ hk => hk) trivial (Below.refl _ _) (Nat.le_refl _) (by simp) ?_; (case hd => rfl); (case hg => rfl); (case hr => first | (go_simp; done) | (go_simp; rfl)); (case hp => exact (Reps.c6 (show Kd.M k53 _ _ _ (⟨0, 1, false, (⟨0, 0, ([] : List (S35))⟩ : S35)⟩ : S53) [.int .i64 0, .int .i64 1, .bool false, .int .i64 0, .int .i64 0, .slice none 0 0] from (k53_mkM _ _ _ (⟨0, 1, false, (⟨0, 0, ([] : List (S35))⟩ : S35)⟩ : S53) (Kd.R_nil _ _ _ _ _))) (Reps.c6 (show Kd.M k53 _ _ _ (⟨1, 2, false, (⟨0, 0, ([] : List (S35))⟩ : S35)⟩ : S53) [.int .i64 1, .int .i64 2, .bool false, .int .i64 0, .int .i64 0, .slice none 0 0] from (k53_mkM _ _ _ (⟨1, 2, false, (⟨0, 0, ([] : List (S35))⟩ : S35)⟩ : S53) (Kd.R_nil _ _ _ _ _))) (Reps.none _ _)))); intro v261 w8 ho9 hb hg_ hnew_; clear hg_ hnew_; (first | rw [← Ny260.out] at ho9 | (simp only [Int.reduceToNat] at ho9; rw [← Ny260.out] at ho9)); replace HO259 := zm (Kd.R_below (rx HO259.out) hb); have HO262 := zm (Kd.R_lower ho9 (below_size (bx HB.out))); replace HB := zm (below_step (bx HB.out) hb); clear hb ho9; obtain ⟨Ao10, co10, eo10⟩ := Kd.R_slice HO262.out; subst eo10; obtain ⟨Ao11, co11, eo11⟩ := Kd.R_slice HO259.out; subst eo11) | ((with_reducible refine gate_dst (N := 1) rfl ?_); (try (refine gate_guard (by rfl) ?_; dsimp only)); refine box_event ?hg (N := 1) ?hd (cs := #[.slice none 0 0, .slice none 0 0]) (t := 25) ?hr ?_; (case hd => rfl); (case hg => rfl); (case hr => first | (go_simp; done) | (go_simp; rfl)); intro gb263 hg w12 hbox hb; replace HO259 := zm (Kd.R_below (rx HO259.out) hb); replace HO262 := zm (Kd.R_below (rx HO262.out) hb); have BK263 := zm (hbox); have GW263 := zm ((by rw [hg]; exact (below_size (bx HB.out)) : w.heap.size ≤ gb263)); have GE263 := zm ((by rw [hg]; exact (below_size (bx HB.out)) : w.heap.size ≤ gb263)); replace HB := zm (below_step (bx HB.out) hb); clear hb hbox hg; have hcz13_0 := bc0 BK263.out; have hcz13_1 := bc1 BK263.out; have hfz13_0 := bF BK263.out 0; have hfz13_1 := bF BK263.out 1) | ((with_reducible refine gate_callee (f := 11) rfl ?_); refine goesL_ (some 17) rfl rfl Tryd.func11 (by kernel_rfl) rfl #[.agg #[.slice Ao11 y257.length co11, .slice Ao10 y260.length co10]] rfl ag ?_; (with_reducible refine (net_Check.calls k _ _ y257 _ _ y260 t264 t265 _ ?side1 ?side2 ?side3 ?side4 A1.out ?hT_).mono ?_); (case hT_ => exact Words.tab_below HT0.out (bx HB.out)); (case side1 => refine (Kd.R_reads' (e := 37) (base := w.heap.size) (ok := fun k_ => True) (n := y257.length) (c := co11) ?_).2.2; exact (rx (Kd.R_mono (Kd.R_far (p := ⟨gb263, 1, none⟩) (Kd.R_far (p := ⟨gb263, 0, none⟩) (Kd.R_types HO259.out BK263.out (by decide)) (fun _ hk => hk.2) (.slice Ao11 y257.length co11)) (fun _ hk => hk.2) (.slice Ao10 y260.length co10)) (fun _ h_ => h_.1)))); (case side2 => exact (Kd.R_reads' HO259.out).2.1); (case side3 => refine (Kd.R_reads' (e := 53) (base := w.heap.size) (ok := fun k_ => True) (n := y260.length) (c := co10) ?_).2.2; exact (rx (Kd.R_mono (Kd.R_far (p := ⟨gb263, 1, none⟩) (Kd.R_far (p := ⟨gb263, 0, none⟩) (Kd.R_types HO262.out BK263.out (by decide)) (fun _ hk => hk.2) (.slice Ao11 y257.length co11)) (fun _ hk => hk.2) (.slice Ao10 y260.length co10)) (fun _ h_ => h_.1)))); (case side4 => exact (Kd.R_reads' HO262.out).2.1); rintro e w14 ⟨rfl, hb⟩; refine ⟨_, rfl, ?_⟩; replace HO259 := zm (Kd.R_below (rx (Kd.R_mono (Kd.R_far (p := ⟨gb263, 1, none⟩) (Kd.R_far (p := ⟨gb263, 0, none⟩) (Kd.R_types HO259.out BK263.out (by decide)) (fun _ hk => hk.2) (.slice Ao11 y257.length co11)) (fun _ hk => hk.2) (.slice Ao10 y260.length co10)) (fun _ h_ => h_.1))) hb); replace HO262 := zm (Kd.R_below (rx (Kd.R_mono (Kd.R_far (p := ⟨gb263, 1, none⟩) (Kd.R_far (p := ⟨gb263, 0, none⟩) (Kd.R_types HO262.out BK263.out (by decide)) (fun _ hk => hk.2) (.slice Ao11 y257.length co11)) (fun _ hk => hk.2) (.slice Ao10 y260.length co10)) (fun _ h_ => h_.1))) hb); replace BK263 := zm (kB (g := gb263) (o := .cells #[.slice Ao11 y257.length co11, .slice Ao10 y260.length co10] 25 (0, 0)) (by (with_reducible repeat first | apply kN | apply kD | apply kA); refine blk_put (cs := #[.slice Ao11 y257.length co11, .slice none 0 0]) ?_ 1 _ rfl; (with_reducible repeat first | apply kN | apply kD | apply kA); refine blk_put (cs := #[.slice none 0 0, .slice none 0 0]) ?_ 0 _ rfl; (with_reducible repeat first | apply kN | apply kD | apply kA); exact BK263.out) hb); replace HB := zm (below_step (bx HB.out) hb); (try clear hb); (try clear hb2); (try clear hk); (try clear hi); have hcz15_0 := bc0 BK263.out; have hcz15_1 := bc1 BK263.out; have hfz15_0 := bF BK263.out 0; have hfz15_1 := bF BK263.out 1) | ((with_reducible refine gate_callee (f := 14) rfl ?_); refine goesL_ (some 21) rfl rfl Tryd.func14 (by kernel_rfl) rfl #[.agg #[.slice Ao11 y257.length co11, .slice Ao10 y260.length co10], .int .i64 1] rfl ag ?_; (with_reducible refine (net_Outs.calls k _ _ y257 _ _ y260 1 t266 _ ?side1 ?side2 ?side3 ?side4 A2.out).mono ?_); (case side1 => repeat (first | exact (Kd.R_reads' HO259.out).2.2 | (with_reducible refine Kd.C_alloc ?_ _) | (with_reducible refine Kd.C_drewN ?_ _) | (with_reducible refine Kd.C_drew ?_))); (case side2 => exact (Kd.R_reads' HO259.out).2.1); (case side3 => repeat (first | exact (Kd.R_reads' HO262.out).2.2 | (with_reducible refine Kd.C_alloc ?_ _) | (with_reducible refine Kd.C_drewN ?_ _) | (with_reducible refine Kd.C_drew ?_))); (case side4 => exact (Kd.R_reads' HO262.out).2.1); rintro e w16 ⟨v267, rfl, ho0, hb⟩; refine ⟨_, rfl, ?_⟩; replace HO259 := zm (Kd.R_below (rx HO259.out) hb); replace HO262 := zm (Kd.R_below (rx HO262.out) hb); have HO268 := zm (Kd.R_lower ho0 (below_size (bx HB.out))); replace BK263 := zm (kB (kx BK263.out) hb); replace HB := zm (below_step (bx HB.out) hb); (try clear hb); (try clear ho0); have hcz17_0 := bc0 BK263.out; have hcz17_1 := bc1 BK263.out; have hfz17_0 := bF BK263.out 0; have hfz17_1 := bF BK263.out 1; have q18 : (1 : Int) ≤ ((y260.length : Int) : Int) := od; obtain ⟨i018, hi018, _, hsz18, _⟩ := info_parts info53; have hcut18 := cut_to (P := Tryd.prog) 23 53 .i64 Tryd.underlying23 hi018 Ao10 y260.length co10 1 (by omega) q18 (Kd.R_reads' HO262.out).2.1; have hr18 := Kd.R_take (m := (1 : Int).toNat) HO262.out (by omega); have hy18 : y269.length = (1 : Int).toNat := (by rw [Ny269.out, List.length_take]; omega); rw [← Ny269.out] at hr18; rw [← hy18] at hr18 hcut18; clear hy18 hi018 hsz18 HO262; have HO271 := zm hr18; clear hr18; replace q18 := eq_true q18) | ((with_reducible refine gate_callee (f := 11) rfl ?_); refine goesL_ (some 28) rfl rfl Tryd.func11 (by kernel_rfl) rfl #[.agg #[.slice Ao11 y257.length co11, .slice Ao10 y269.length co10]] rfl ag ?_; (with_reducible refine (net_Check.calls k _ _ y257 _ _ y269 t272 t273 _ ?side1 ?side2 ?side3 ?side4 A4.out ?hT_).mono ?_); (case hT_ => exact Words.tab_below HT0.out (bx HB.out)); (case side1 => refine (Kd.R_reads' (e := 37) (base := w.heap.size) (ok := fun k_ => True) (n := y257.length) (c := co11) ?_).2.2; exact (rx (Kd.R_mono (Kd.R_far (p := ⟨gb263, 1, none⟩) (Kd.R_types HO259.out BK263.out (by decide)) (fun _ hk => hk.2) (.slice Ao10 y269.length co10)) (fun _ h_ => h_.1)))); (case side2 => exact (Kd.R_reads' HO259.out).2.1); (case side3 => refine (Kd.R_reads' (e := 53) (base := w.heap.size) (ok := fun k_ => True) (n := y269.length) (c := co10) ?_).2.2; exact (rx (Kd.R_mono (Kd.R_far (p := ⟨gb263, 1, none⟩) (Kd.R_types HO271.out BK263.out (by decide)) (fun _ hk => hk.2) (.slice Ao10 y269.length co10)) (fun _ h_ => h_.1)))); (case side4 => exact (Kd.R_reads' HO271.out).2.1); rintro e w19 ⟨rfl, hb⟩; refine ⟨_, rfl, ?_⟩; replace HO259 := zm (Kd.R_below (rx (Kd.R_mono (Kd.R_far (p := ⟨gb263, 1, none⟩) (Kd.R_types HO259.out BK263.out (by decide)) (fun _ hk => hk.2) (.slice Ao10 y269.length co10)) (fun _ h_ => h_.1))) hb); replace HO271 := zm (Kd.R_below (rx (Kd.R_mono (Kd.R_far (p := ⟨gb263, 1, none⟩) (Kd.R_types HO271.out BK263.out (by decide)) (fun _ hk => hk.2) (.slice Ao10 y269.length co10)) (fun _ h_ => h_.1))) hb); replace HO268 := zm (Kd.R_below (rx (Kd.R_mono (Kd.R_far (p := ⟨gb263, 1, none⟩) (Kd.R_types HO268.out BK263.out (by decide)) (fun _ hk => hk.2) (.slice Ao10 y269.length co10)) (fun _ h_ => h_.1))) hb); replace BK263 := zm (kB (g := gb263) (o := .cells #[.slice Ao11 y257.length co11, .slice Ao10 y269.length co10] 25 (0, 0)) (by (with_reducible repeat first | apply kN | apply kD | apply kA); refine blk_put (cs := #[.slice Ao11 y257.length co11, .slice Ao10 y260.length co10]) ?_ 1 _ rfl; (with_reducible repeat first | apply kN | apply kD | apply kA); exact BK263.out) hb); replace HB := zm (below_step (bx HB.out) hb); (try clear hb); (try clear hb2); (try clear hk); (try clear hi)))
  have H := HC5.out
  clear HC5
  by_cases c20 : t264 = 0
  ·rw [if_pos c20] at H
   have c20b0 := beq_iff_eq.mpr c20
   have c20b1 := bne_eq_false_iff_eq.mpr c20
   clear c20
   by_cases c21 : t272 = 3
   ·rw [if_pos c21] at H
    have c21b0 := beq_iff_eq.mpr c21
    have c21b1 := bne_eq_false_iff_eq.mpr c21
    clear c21
    by_cases c22 : t273 = 1
    ·rw [if_pos c22] at H
     have c22b0 := beq_iff_eq.mpr c22
     have c22b1 := bne_eq_false_iff_eq.mpr c22
     clear c22
     by_cases c23 : (t266.length : Int) = 1
     ·rw [if_pos c23] at H
      have c23b0 := beq_iff_eq.mpr c23
      have c23b1 := bne_eq_false_iff_eq.mpr c23
      clear c23
      by_cases c24 : 0 < (t266.length : Int)
      ·rw [if_pos c24] at H
       have c24b0 := decide_eq_true c24
       have c24b1 : decide (0 < t266.length) = true := decide_eq_true (by omega)
       clear c24
       by_cases c25 : (rd t266 0) = 1
       ·rw [if_pos c25] at H
        have c25b0 := beq_iff_eq.mpr c25
        have c25b1 := bne_eq_false_iff_eq.mpr c25
        clear c25
        replace H := Option.bind_eq_some_iff.mp H
        obtain ⟨t275, A260, H⟩ := H
        replace H : (some (t275 == 2)) = some r := H
        have A26 := zm A260
        clear A260
        obtain rfl := Option.some.inj H
        obtain ⟨Ao27, co27, eo27⟩ := Kd.R_slice HO268.out
        subst eo27
        have p274 : 0 ≤ (0 : Int) := (by omega)
        have q274 : 0 < (t266.length : Int) := od
        obtain ⟨ad274, e274, hx274_0⟩ := Kd.at_int (Kd.R_reads' HO268.out).2.2 0 p274 q274
        cases e274
        have qi274 : (0 < t266.length) = True := eq_true (by omega)
        (try rw [show ((0 : Int)).toNat = 0 from rfl] at hx274_0)
        (try rw [Addr.add_zero'] at hx274_0)
        replace p274 := eq_true p274
        replace q274 := eq_true q274
        have hcz28_0 := bc0 BK263.out
        have hcz28_1 := bc1 BK263.out
        have hfz28_0 := bF BK263.out 0
        have hfz28_1 := bF BK263.out 1
        go_wp2_with (first | (go_at_call 16; (with_reducible refine (net_End.calls k _ _ y257 _ _ y269 t275 _ ?side1 ?side2 ?side3 ?side4 A26.out).mono ?_); (case side1 => repeat (first | exact (Kd.R_reads' HO259.out).2.2 | (with_reducible refine Kd.C_alloc ?_ _) | (with_reducible refine Kd.C_drewN ?_ _) | (with_reducible refine Kd.C_drew ?_))); (case side2 => exact (Kd.R_reads' HO259.out).2.1); (case side3 => repeat (first | exact (Kd.R_reads' HO271.out).2.2 | (with_reducible refine Kd.C_alloc ?_ _) | (with_reducible refine Kd.C_drewN ?_ _) | (with_reducible refine Kd.C_drew ?_))); (case side4 => exact (Kd.R_reads' HO271.out).2.1); rintro e w29 ⟨rfl, hb⟩; replace HO259 := zm (Kd.R_below (rx HO259.out) hb); replace HO271 := zm (Kd.R_below (rx HO271.out) hb); replace BK263 := zm (kB (kx BK263.out) hb); replace HB := zm (below_step (bx HB.out) hb); (try clear hb)))
        go_ret
        exact ⟨xe, bx HB.out⟩
       rw [if_neg c25] at H
       have c25b0 := beq_eq_false_iff_ne.mpr c25
       have c25b1 := bne_iff_ne.mpr c25
       obtain rfl := Option.some.inj H
       obtain ⟨Ao30, co30, eo30⟩ := Kd.R_slice HO268.out
       subst eo30
       have p274 : 0 ≤ (0 : Int) := (by omega)
       have q274 : 0 < (t266.length : Int) := od
       obtain ⟨ad274, e274, hx274_0⟩ := Kd.at_int (Kd.R_reads' HO268.out).2.2 0 p274 q274
       cases e274
       have qi274 : (0 < t266.length) = True := eq_true (by omega)
       (try rw [show ((0 : Int)).toNat = 0 from rfl] at hx274_0)
       (try rw [Addr.add_zero'] at hx274_0)
       replace p274 := eq_true p274
       replace q274 := eq_true q274
       go_wp2
       go_ret
       exact ⟨xe, bx HB.out⟩
      rw [if_neg c24] at H
      exact absurd H (by simp)
     rw [if_neg c23] at H
     have c23b0 := beq_eq_false_iff_ne.mpr c23
     have c23b1 := bne_iff_ne.mpr c23
     obtain rfl := Option.some.inj H
     obtain ⟨Ao31, co31, eo31⟩ := Kd.R_slice HO268.out
     subst eo31
     go_wp2
     go_ret
     exact ⟨xe, bx HB.out⟩
    rw [if_neg c22] at H
    have c22b0 := beq_eq_false_iff_ne.mpr c22
    have c22b1 := bne_iff_ne.mpr c22
    obtain rfl := Option.some.inj H
    go_wp2
    go_ret
    exact ⟨xe, bx HB.out⟩
   rw [if_neg c21] at H
   have c21b0 := beq_eq_false_iff_ne.mpr c21
   have c21b1 := bne_iff_ne.mpr c21
   obtain rfl := Option.some.inj H
   go_wp2
   go_ret
   exact ⟨xe, bx HB.out⟩
  rw [if_neg c20] at H
  have c20b0 := beq_eq_false_iff_ne.mpr c20
  have c20b1 := bne_iff_ne.mpr c20
  obtain rfl := Option.some.inj H
  go_wp2
  go_ret
  exact ⟨xe, bx HB.out⟩
 rw [if_neg c3] at H
 exact absurd H (by simp)

def treenailplain_Ints.l0 : Nat → List Int → List Int → Int → Int → Option (Bool)
 | 0, _, _, _, _ => none
 | k + 1, x0, x1, x7, x8 => if x8 < x7 then (if x8 ≥ (x1.length : Int) then (some false) else (if 0 ≤ x8 then (if x8 < (x0.length : Int) then (if x8 < (x1.length : Int) then (if (rd x0 x8) = (rd x1 x8) then (treenailplain_Ints.l0 k x0 x1 x7 (wrap64 (x8 + 1))) else (some false)) else (none)) else (none)) else (none))) else (some ((x0.length : Int) == (x1.length : Int)))
def treenailplain_Ints.f (k : Nat) (l0 : List Int) (l1 : List Int) : Option (Bool) := treenailplain_Ints.l0 k l0 l1 (l0.length : Int) 0
set_option maxRecDepth 100000 in
theorem treenailplain_Ints.mono_l : ∀ k, (∀ y0 y1 y2 y3, LeO (treenailplain_Ints.l0 k y0 y1 y2 y3) (treenailplain_Ints.l0 (k + 1) y0 y1 y2 y3))
 | 0 => fun _ _ _ _ r h => by first | (cases h; done) | simp [treenailplain_Ints.l0] at h
 | k + 1 => by
  have ih0 := treenailplain_Ints.mono_l k
  ·intro y0 y1 y2 y3
   unfold treenailplain_Ints.l0
   repeat' first
   | (with_reducible exact ih0 _ _ _ _)
   | (with_reducible exact LeO.refl _)
   | (with_reducible exact LeO.none _)
   | (with_reducible refine LeO.ite ?_ ?_)
   | (with_reducible refine LeO.bind ?_ (fun _ => ?_))
   | refine LeO.ite ?_ ?_
   | refine LeO.bind ?_ (fun _ => ?_)
set_option maxRecDepth 100000 in
theorem treenailplain_Ints.mono : ∀ a0 a1 k, LeO (treenailplain_Ints.f k a0 a1) (treenailplain_Ints.f (k + 1) a0 a1) := by
 intro a0 a1 k
 have ih0 := treenailplain_Ints.mono_l k
 unfold treenailplain_Ints.f
 repeat' first
 | (with_reducible exact ih0 _ _ _ _)
 | (with_reducible exact LeO.refl _)
 | (with_reducible exact LeO.none _)
 | (with_reducible refine LeO.ite ?_ ?_)
 | (with_reducible refine LeO.bind ?_ (fun _ => ?_))
 | refine LeO.ite ?_ ?_
 | refine LeO.bind ?_ (fun _ => ?_)
set_option maxHeartbeats 8000000 in
set_option maxRecDepth 100000 in
theorem treenailplain_Ints.calls (k : Nat) (A0 : Option Addr) (c0 : Nat) (l0 : List Int) (A1 : Option Addr) (c1 : Nat) (l1 : List Int) (r : Bool) (w : World) (hr0 : Kd.C (Kd.int .i64) w A0 l0.length l0) (hc0 : l0.length ≤ c0) (hr1 : Kd.C (Kd.int .i64) w A1 l1.length l1) (hc1 : l1.length ≤ c1) (h : treenailplain_Ints.f k l0 l1 = some r) :
  Calls Tryd.prog 20 #[.slice A0 l0.length c0, .slice A1 l1.length c1] w fun e w' => e = .returned (.bool r) ∧ Drawn0 w w' := by
 have HR0 := zm hr0
 have HC0 := zm hc0
 clear hr0 hc0
 have HR1 := zm hr1
 have HC1 := zm hc1
 clear hr1 hc1
 have H : (treenailplain_Ints.l0 k l0 l1 (l0.length : Int) 0) = some r := h
 clear h
 have H' := zm H
 clear H
 go_enter Tryd.func20, Tryd.ntmps20
 go_wp2
 repeat (go_quiet (fail); try go_wp2)
 go_loopg [8] k (fun kq v8 w' => ∃ (x8_1 : Int), v8 = .int .i64 x8_1 ∧ Aside0 (treenailplain_Ints.l0 kq l0 l1 (l0.length : Int) x8_1 = some r) ∧ Aside0 (kq ≤ k) ∧ Drawn0 w w')
 case atStart => exact ⟨(0), (by first | rfl | (simp; done) | (simp [*]; done)), H', ⟨Nat.le_refl _⟩, by repeat (first | exact Drawn0.refl _ | apply Drawn0.step)⟩
 clear H'
 try clear c1
 try clear c2
 try clear p2
 obtain ⟨x8_1, rfl, HA, HK1, ⟨m1, rfl⟩⟩ := hrel
 cases gk with
 | zero => exact absurd HA.out (by first | (intro h_; cases h_; done) | simp [treenailplain_Ints.l0])
 | succ k1 =>
  have H := HA.out
  clear HA
  simp only [treenailplain_Ints.l0] at H
  by_cases c3 : x8_1 < (l0.length : Int)
  ·rw [if_pos c3] at H
   have c3b0 := decide_eq_true c3
   clear c3
   by_cases c4 : x8_1 ≥ (l1.length : Int)
   ·rw [if_pos c4] at H
    have c4b0 : decide ((l1.length : Int) ≤ x8_1) = true := decide_eq_true c4
    clear c4
    obtain rfl := Option.some.inj H
    go_wp2
    repeat (go_quiet (fail); try go_wp2)
    go_ret
    exact ⟨by first | rfl | (simp; done) | (simp [*]; done), by repeat (first | exact Drawn0.refl _ | apply Drawn0.step)⟩
   rw [if_neg c4] at H
   have c4b0 : decide ((l1.length : Int) ≤ x8_1) = false := decide_eq_false c4
   clear c4
   by_cases c5 : 0 ≤ x8_1
   ·rw [if_pos c5] at H
    have c5b0 := decide_eq_true c5
    clear c5
    by_cases c6 : x8_1 < (l0.length : Int)
    ·rw [if_pos c6] at H
     have c6b0 := decide_eq_true c6
     clear c6
     by_cases c7 : x8_1 < (l1.length : Int)
     ·rw [if_pos c7] at H
      have c7b0 := decide_eq_true c7
      clear c7
      by_cases c8 : (rd l0 x8_1) = (rd l1 x8_1)
      ·rw [if_pos c8] at H
       have c8b0 := beq_iff_eq.mpr c8
       have c8b1 := bne_eq_false_iff_eq.mpr c8
       clear c8
       have H' := zm H
       clear H
       have p276 : 0 ≤ (x8_1 : Int) := od
       have q276 : x8_1 < (l0.length : Int) := od
       obtain ⟨ad276, e276, hx276_0⟩ := Kd.at_int HR0.out x8_1 p276 q276
       cases e276
       replace p276 := eq_true p276
       replace q276 := eq_true q276
       have p277 : 0 ≤ (x8_1 : Int) := od
       have q277 : x8_1 < (l1.length : Int) := od
       obtain ⟨ad277, e277, hx277_0⟩ := Kd.at_int HR1.out x8_1 p277 q277
       cases e277
       replace p277 := eq_true p277
       replace q277 := eq_true q277
       go_wp2
       repeat (go_quiet (fail); try go_wp2)
       go_roundg k1
       case measure => have := HK1.out; omega
       case rel => exact ⟨(wrap64 (x8_1 + 1)), (by first | rfl | (simp; done) | (simp [*]; done)), H', ⟨by have := HK1.out; omega⟩, by repeat (first | exact Drawn0.refl _ | apply Drawn0.step)⟩
      rw [if_neg c8] at H
      have c8b0 := beq_eq_false_iff_ne.mpr c8
      have c8b1 := bne_iff_ne.mpr c8
      obtain rfl := Option.some.inj H
      have p276 : 0 ≤ (x8_1 : Int) := od
      have q276 : x8_1 < (l0.length : Int) := od
      obtain ⟨ad276, e276, hx276_0⟩ := Kd.at_int HR0.out x8_1 p276 q276
      cases e276
      replace p276 := eq_true p276
      replace q276 := eq_true q276
      have p277 : 0 ≤ (x8_1 : Int) := od
      have q277 : x8_1 < (l1.length : Int) := od
      obtain ⟨ad277, e277, hx277_0⟩ := Kd.at_int HR1.out x8_1 p277 q277
      cases e277
      replace p277 := eq_true p277
      replace q277 := eq_true q277
      go_wp2
      repeat (go_quiet (fail); try go_wp2)
      go_ret
      exact ⟨by first | rfl | (simp; done) | (simp [*]; done), by repeat (first | exact Drawn0.refl _ | apply Drawn0.step)⟩
     rw [if_neg c7] at H
     exact absurd H (by simp)
    rw [if_neg c6] at H
    exact absurd H (by simp)
   rw [if_neg c5] at H
   exact absurd H (by simp)
  rw [if_neg c3] at H
  have c3b0 := decide_eq_false c3
  clear c3
  obtain rfl := Option.some.inj H
  go_wp2
  repeat (go_quiet (fail); try go_wp2)
  go_ret
  exact ⟨by first | rfl | (simp; done) | (simp [*]; done), by repeat (first | exact Drawn0.refl _ | apply Drawn0.step)⟩

def treenailref05_Ins.l0 : Nat → Int → List Int → List (S53) → Int → Int → Option (List Int)
 | 0, _, _, _, _, _ => none
 | k + 1, x1, x5, x9, x10, x11 => if x11 < x10 then (if 0 ≤ x11 then (if x11 < (x9.length : Int) then (if ((rd_T53 x9 x11).f1) = x1 then (if x5.length < 17592186044416 then (treenailref05_Ins.l0 k x1 (x5 ++ [x11]) x9 x10 (wrap64 (x11 + 1))) else (none)) else (treenailref05_Ins.l0 k x1 x5 x9 x10 (wrap64 (x11 + 1)))) else (none)) else (none)) else (some x5)
def treenailref05_Ins.f (k : Nat) (l0_0 : List (S37)) (l0_1 : List (S53)) (a1 : Int) : Option (List Int) := treenailref05_Ins.l0 k a1 ([] : List Int) l0_1 (l0_1.length : Int) 0
set_option maxRecDepth 100000 in
theorem treenailref05_Ins.mono_l : ∀ k, (∀ y0 y1 y2 y3 y4, LeO (treenailref05_Ins.l0 k y0 y1 y2 y3 y4) (treenailref05_Ins.l0 (k + 1) y0 y1 y2 y3 y4))
 | 0 => fun _ _ _ _ _ r h => by first | (cases h; done) | simp [treenailref05_Ins.l0] at h
 | k + 1 => by
  have ih0 := treenailref05_Ins.mono_l k
  ·intro y0 y1 y2 y3 y4
   unfold treenailref05_Ins.l0
   repeat' first
   | (with_reducible exact ih0 _ _ _ _ _)
   | (with_reducible exact LeO.refl _)
   | (with_reducible exact LeO.none _)
   | (with_reducible refine LeO.ite ?_ ?_)
   | (with_reducible refine LeO.bind ?_ (fun _ => ?_))
   | refine LeO.ite ?_ ?_
   | refine LeO.bind ?_ (fun _ => ?_)
set_option maxRecDepth 100000 in
theorem treenailref05_Ins.mono : ∀ a0 a1 a2 k, LeO (treenailref05_Ins.f k a0 a1 a2) (treenailref05_Ins.f (k + 1) a0 a1 a2) := by
 intro a0 a1 a2 k
 have ih0 := treenailref05_Ins.mono_l k
 unfold treenailref05_Ins.f
 repeat' first
 | (with_reducible exact ih0 _ _ _ _ _)
 | (with_reducible exact LeO.refl _)
 | (with_reducible exact LeO.none _)
 | (with_reducible refine LeO.ite ?_ ?_)
 | (with_reducible refine LeO.bind ?_ (fun _ => ?_))
 | refine LeO.ite ?_ ?_
 | refine LeO.bind ?_ (fun _ => ?_)
set_option maxHeartbeats 8000000 in
set_option maxRecDepth 100000 in
theorem treenailref05_Ins.calls (k : Nat) (A0_0 : Option Addr) (c0_0 : Nat) (l0_0 : List (S37)) (A0_1 : Option Addr) (c0_1 : Nat) (l0_1 : List (S53)) (a1 : Int) (r : List Int) (w : World) (hr0_0 : Kd.C k37 w A0_0 l0_0.length l0_0) (hc0_0 : l0_0.length ≤ c0_0) (hr0_1 : Kd.C k53 w A0_1 l0_1.length l0_1) (hc0_1 : l0_1.length ≤ c0_1) (h : treenailref05_Ins.f k l0_0 l0_1 a1 = some r) :
  Calls Tryd.prog 21 #[.agg #[.slice A0_0 l0_0.length c0_0, .slice A0_1 l0_1.length c0_1], .int .i64 a1] w fun e w' => ∃ v0_ : Value, e = .returned (v0_) ∧ Kd.R (Kd.int .i64) 3 w' w.heap.size (fun _ => True) v0_ r ∧ Below w.heap.size w w' := by
 have hu25 := Tryd.underlying25
 have hu53 := Tryd.underlying53
 have HR0_0 := zm hr0_0
 have HC0_0 := zm hc0_0
 clear hr0_0 hc0_0
 have HR0_1 := zm hr0_1
 have HC0_1 := zm hc0_1
 clear hr0_1 hc0_1
 have HB := zm (Below.refl w.heap.size w)
 have H : (treenailref05_Ins.l0 k a1 ([] : List Int) l0_1 (l0_1.length : Int) 0) = some r := h
 clear h
 have H' := zm H
 clear H
 go_enter Tryd.func21, Tryd.ntmps21
 go_wp2_with (first | ((with_reducible refine gate_dst (N := 2) rfl ?_); refine box_event ?hg (N := 2) ?hd (cs := #[.slice A0_0 l0_0.length c0_0, .slice A0_1 l0_1.length c0_1]) (t := 25) ?hr ?_; (case hd => rfl); (case hg => rfl); (case hr => first | (go_simp; done) | (go_simp; rfl)); intro gb278 hg w3 hbox hb; have BK278 := zm (hbox); have GW278 := zm ((by rw [hg]; exact (below_size (bx HB.out)) : w.heap.size ≤ gb278)); have GE278 := zm ((by rw [hg]; exact (below_size (bx HB.out)) : w.heap.size ≤ gb278)); replace HB := zm (below_step (bx HB.out) hb); clear hb hbox hg; have hcz4_0 := bc0 BK278.out; have hcz4_1 := bc1 BK278.out; have hfz4_0 := bF BK278.out 0; have hfz4_1 := bF BK278.out 1))
 go_loopg [5, 11] k (fun kq v5 v11 w' => ∃ (x5_1 : List Int) (x11_1 : Int), v11 = .int .i64 x11_1 ∧ Aside0 (treenailref05_Ins.l0 kq a1 x5_1 l0_1 (l0_1.length : Int) x11_1 = some r) ∧ Aside0 (kq ≤ k) ∧ Aside0 (Kd.R (Kd.int .i64) 3 w' w.heap.size (fun _ => True) v5 x5_1) ∧ Aside0 (w'.heap[gb278]? = some (.cells #[(.slice A0_0 l0_0.length c0_0), (.slice A0_1 l0_1.length c0_1)] 25 (0, 0))) ∧ Aside0 (Below w.heap.size w w'))
 case atStart => exact ⟨(([] : List Int)), (0), (by first | rfl | (simp; done) | (simp [*]; done)), H', ⟨Nat.le_refl _⟩, ⟨by first | exact Kd.R_nil _ _ _ _ _ | exact Kd.N_nil _ _ _ _ _ | exact Kd.V_nil _ _ _ _ _ | exact Kd.Q_nil _ _ _ _ _ | exact Kd.S_nil _ _ _ _ _⟩, ⟨kx BK278.out⟩, ⟨bx HB.out⟩⟩
 clear H'
 try clear c2
 try clear p2
 try clear BK278
 obtain ⟨x5_1, x11_1, rfl, HA, HK1, HO_5, BK278, HB⟩ := hrel
 cases gk with
 | zero => exact absurd HA.out (by first | (intro h_; cases h_; done) | simp [treenailref05_Ins.l0])
 | succ k1 =>
  have H := HA.out
  clear HA
  simp only [treenailref05_Ins.l0] at H
  by_cases c5 : x11_1 < (l0_1.length : Int)
  ·rw [if_pos c5] at H
   have c5b0 := decide_eq_true c5
   clear c5
   by_cases c6 : 0 ≤ x11_1
   ·rw [if_pos c6] at H
    have c6b0 := decide_eq_true c6
    clear c6
    by_cases c7 : x11_1 < (l0_1.length : Int)
    ·rw [if_pos c7] at H
     have c7b0 := decide_eq_true c7
     clear c7
     have HC8 := zm H
     clear H
     have p279 : 0 ≤ (x11_1 : Int) := od
     have q279 : x11_1 < (l0_1.length : Int) := od
     obtain ⟨ad279, A279_5, c279_5, e279, hx279_0, hx279_1, hx279_2, hx279_3, hx279_4, hx279_5, hl279_5, hi279_5⟩ := at_T53 HR0_1.out x11_1 p279 q279
     cases e279
     replace hx279_0 := cb HB.out hx279_0
     replace hx279_1 := cb HB.out hx279_1
     replace hx279_2 := cb HB.out hx279_2
     replace hx279_3 := cb HB.out hx279_3
     replace hx279_4 := cb HB.out hx279_4
     replace hx279_5 := cb HB.out hx279_5
     have HR279_5 := zm hi279_5
     have HC279_5 := zm hl279_5
     clear hi279_5 hl279_5
     replace p279 := eq_true p279
     replace q279 := eq_true q279
     go_upto_if 19 with (first | ((with_reducible refine gate_dst (N := 7) rfl ?_); refine box_event ?hg (N := 7) ?hd (cs := #[.int .i64 0, .int .i64 0, .bool false, .int .i64 0, .int .i64 0, .slice none 0 0]) (t := 53) ?hr ?_; (case hd => rfl); (case hg => rfl); (case hr => first | (go_simp; done) | (go_simp; rfl)); intro gb280 hg w9 hbox hb; replace HO_5 := zm (Kd.R_below (rx HO_5.out) hb); have BK280 := zm (hbox); have GW280 := zm ((by rw [hg]; exact (below_size (bx HB.out)) : w.heap.size ≤ gb280)); have GE280 := zm ((by rw [hg]; exact (below_size (bx HB.out)) : w.heap.size ≤ gb280)); replace HB := zm (below_step (bx HB.out) hb); have NB278_280 := zm ((by rw [hg]; exact Nat.ne_of_lt (blk_lt (g := gb278) (o := .cells #[.slice A0_0 l0_0.length c0_0, .slice (some ad279) l0_1.length c0_1] 25 (0, 0)) (kx BK278.out)) : gb278 ≠ gb280)); have NB280_278 := zm ((by rw [hg]; exact Nat.ne_of_gt (blk_lt (g := gb278) (o := .cells #[.slice A0_0 l0_0.length c0_0, .slice (some ad279) l0_1.length c0_1] 25 (0, 0)) (kx BK278.out)) : gb280 ≠ gb278)); replace BK278 := zm (kB (kx BK278.out) hb); clear hb hbox hg; have hnb10 := NB280_278.out; have hnc10 := NB278_280.out; have hcz11_0 := bc0 BK280.out; have hcz11_1 := bc1 BK280.out; have hcz11_2 := bc2 BK280.out; have hcz11_3 := bc3 BK280.out; have hcz11_4 := bc4 BK280.out; have hcz11_5 := bc5 BK280.out; have hfz11_0 := bF BK280.out 0; have hfz11_1 := bF BK280.out 1; have hfz11_2 := bF BK280.out 2; have hfz11_3 := bF BK280.out 3; have hfz11_4 := bF BK280.out 4; have hfz11_5 := bF BK280.out 5))
     have H := HC8.out
     clear HC8
     by_cases c12 : ((rd_T53 l0_1 x11_1).f1) = a1
     ·rw [if_pos c12] at H
      have c12b0 := beq_iff_eq.mpr c12
      have c12b1 := bne_eq_false_iff_eq.mpr c12
      clear c12
      (first | rw [c12b0] | (simp only [i64_w, i32_w]; rw [c12b0]) | rw [c12b1] | skip)
      by_cases c13 : x5_1.length < 17592186044416
      ·rw [if_pos c13] at H
       have LMc13 := zm c13
       clear c13
       obtain ⟨y281, hy281⟩ : ∃ y_ : List Int, y_ = (x5_1 ++ [x11_1]) := ⟨_, rfl⟩
       replace H : (treenailref05_Ins.l0 k1 a1 y281 l0_1 (l0_1.length : Int) (wrap64 (x11_1 + 1))) = some r := by first | (rw [hy281]; with_reducible exact H) | (have H2_ := (Option.bind_some _ _).symm.trans H; rw [hy281]; with_reducible exact H2_) | (have H2_ := (Option.bind_some _ _).symm.trans H; with_reducible exact H2_) | with_reducible exact H | (rw [hy281]; exact H) | exact H
       have Ny281 := zm hy281
       clear hy281
       have H' := zm H
       clear H
       go_wp2_with (first | ((with_reducible refine gate_builtin (b := .append) (xs := #[.tmp 20, .tmp 22]) rfl ?_); at_builtin; refine Kd.R_append (Kd.int .i64) (w0 := w) w.heap.size rfl (.tmp 20) (.tmp 22) 38 3 (.int .i64 0) 8 rfl Tryd.underlying38 info3 rfl (by decide) (by omega) u5 x5_1 x11_1 [.int .i64 x11_1] (fun _ => True) (fun _ => False) rfl (by first | (go_simp; done) | (go_simp; rfl)) ?aP (fun _ hk => hk.elim) ?aF ?aO ?aB ?aS ?aL ?_; (case aP => exact rfl); (case aB => exact (bx HB.out)); (case aF => exact (fun _ _ => trivial)); (case aO => exact (rx (Kd.R_mono (Kd.R_far (p := ⟨gb280, 5, none⟩) (Kd.R_far (p := ⟨gb280, 4, none⟩) (Kd.R_far (p := ⟨gb280, 3, none⟩) (Kd.R_far (p := ⟨gb280, 2, none⟩) (Kd.R_far (p := ⟨gb280, 1, none⟩) (Kd.R_far (p := ⟨gb280, 0, none⟩) (Kd.R_types HO_5.out BK280.out (by decide)) (fun _ hk => hk.2) (.int .i64 ((rd_T53 l0_1 x11_1).f0))) (fun _ hk => hk.2) (.int .i64 ((rd_T53 l0_1 x11_1).f1))) (fun _ hk => hk.2) (.bool ((rd_T53 l0_1 x11_1).f2))) (fun _ hk => hk.2) (.int .i64 ((rd_T53 l0_1 x11_1).f3.f0))) (fun _ hk => hk.2) (.int .i64 ((rd_T53 l0_1 x11_1).f3.f1))) (fun _ hk => hk.2) (.slice A279_5 ((rd_T53 l0_1 x11_1).f3.f2).length c279_5)) (fun _ hk => trivial)))); (case aS => exact (below_size (bx HB.out))); (case aL => have := LMc13.out; omega); intro v282 w14 ho hb hg hat; rw [← Ny281.out] at ho; replace BK278 := zm (blk_grown (g := gb278) (o := .cells #[.slice A0_0 l0_0.length c0_0, .slice (some ad279) l0_1.length c0_1] 25 (0, 0)) (by (with_reducible repeat first | apply kN | apply kD | apply kA); refine blk_far ?_ NB278_280.out _; (with_reducible repeat first | apply kN | apply kD | apply kA); refine blk_far ?_ NB278_280.out _; (with_reducible repeat first | apply kN | apply kD | apply kA); refine blk_far ?_ NB278_280.out _; (with_reducible repeat first | apply kN | apply kD | apply kA); refine blk_far ?_ NB278_280.out _; (with_reducible repeat first | apply kN | apply kD | apply kA); refine blk_far ?_ NB278_280.out _; (with_reducible repeat first | apply kN | apply kD | apply kA); refine blk_far ?_ NB278_280.out _; (with_reducible repeat first | apply kN | apply kD | apply kA); exact BK278.out) hg (Kd.R_ne HO_5.out BK278.out (by decide))); replace BK280 := zm (blk_grown (g := gb280) (o := .cells #[.int .i64 ((rd_T53 l0_1 x11_1).f0), .int .i64 ((rd_T53 l0_1 x11_1).f1), .bool ((rd_T53 l0_1 x11_1).f2), .int .i64 ((rd_T53 l0_1 x11_1).f3.f0), .int .i64 ((rd_T53 l0_1 x11_1).f3.f1), .slice A279_5 ((rd_T53 l0_1 x11_1).f3.f2).length c279_5] 53 (0, 0)) (by (with_reducible repeat first | apply kN | apply kD | apply kA); refine blk_put (cs := #[.int .i64 ((rd_T53 l0_1 x11_1).f0), .int .i64 ((rd_T53 l0_1 x11_1).f1), .bool ((rd_T53 l0_1 x11_1).f2), .int .i64 ((rd_T53 l0_1 x11_1).f3.f0), .int .i64 ((rd_T53 l0_1 x11_1).f3.f1), .slice none 0 0]) ?_ 5 _ rfl; (with_reducible repeat first | apply kN | apply kD | apply kA); refine blk_put (cs := #[.int .i64 ((rd_T53 l0_1 x11_1).f0), .int .i64 ((rd_T53 l0_1 x11_1).f1), .bool ((rd_T53 l0_1 x11_1).f2), .int .i64 ((rd_T53 l0_1 x11_1).f3.f0), .int .i64 0, .slice none 0 0]) ?_ 4 _ rfl; (with_reducible repeat first | apply kN | apply kD | apply kA); refine blk_put (cs := #[.int .i64 ((rd_T53 l0_1 x11_1).f0), .int .i64 ((rd_T53 l0_1 x11_1).f1), .bool ((rd_T53 l0_1 x11_1).f2), .int .i64 0, .int .i64 0, .slice none 0 0]) ?_ 3 _ rfl; (with_reducible repeat first | apply kN | apply kD | apply kA); refine blk_put (cs := #[.int .i64 ((rd_T53 l0_1 x11_1).f0), .int .i64 ((rd_T53 l0_1 x11_1).f1), .bool false, .int .i64 0, .int .i64 0, .slice none 0 0]) ?_ 2 _ rfl; (with_reducible repeat first | apply kN | apply kD | apply kA); refine blk_put (cs := #[.int .i64 ((rd_T53 l0_1 x11_1).f0), .int .i64 0, .bool false, .int .i64 0, .int .i64 0, .slice none 0 0]) ?_ 1 _ rfl; (with_reducible repeat first | apply kN | apply kD | apply kA); refine blk_put (cs := #[.int .i64 0, .int .i64 0, .bool false, .int .i64 0, .int .i64 0, .slice none 0 0]) ?_ 0 _ rfl; (with_reducible repeat first | apply kN | apply kD | apply kA); exact BK280.out) hg (Kd.R_ne HO_5.out BK280.out (by decide))); replace HB := zm (hb); have HO283 := zm (ho); clear HO_5 ho hb hg hat))
       go_roundg k1
       case measure => have := HK1.out; omega
       case rel => exact ⟨(y281), (wrap64 (x11_1 + 1)), (by first | rfl | (simp; done) | (simp [*]; done)), H', ⟨by have := HK1.out; omega⟩, ⟨rx HO283.out⟩, ⟨kx BK278.out⟩, ⟨bx HB.out⟩⟩
      rw [if_neg c13] at H
      exact absurd H (by simp)
     rw [if_neg c12] at H
     have c12b0 := beq_eq_false_iff_ne.mpr c12
     have c12b1 := bne_iff_ne.mpr c12
     (first | rw [c12b0] | (simp only [i64_w, i32_w]; rw [c12b0]) | rw [c12b1] | skip)
     have H' := zm H
     clear H
     go_wp2
     go_roundg k1
     case measure => have := HK1.out; omega
     case rel => exact ⟨(x5_1), (wrap64 (x11_1 + 1)), (by first | rfl | (simp; done) | (simp [*]; done)), H', ⟨by have := HK1.out; omega⟩, ⟨rx (Kd.R_mono (Kd.R_far (p := ⟨gb280, 5, none⟩) (Kd.R_far (p := ⟨gb280, 4, none⟩) (Kd.R_far (p := ⟨gb280, 3, none⟩) (Kd.R_far (p := ⟨gb280, 2, none⟩) (Kd.R_far (p := ⟨gb280, 1, none⟩) (Kd.R_far (p := ⟨gb280, 0, none⟩) (Kd.R_types HO_5.out BK280.out (by decide)) (fun _ hk => hk.2) (.int .i64 ((rd_T53 l0_1 x11_1).f0))) (fun _ hk => hk.2) (.int .i64 ((rd_T53 l0_1 x11_1).f1))) (fun _ hk => hk.2) (.bool ((rd_T53 l0_1 x11_1).f2))) (fun _ hk => hk.2) (.int .i64 ((rd_T53 l0_1 x11_1).f3.f0))) (fun _ hk => hk.2) (.int .i64 ((rd_T53 l0_1 x11_1).f3.f1))) (fun _ hk => hk.2) (.slice A279_5 ((rd_T53 l0_1 x11_1).f3.f2).length c279_5)) (fun _ hk => trivial))⟩, ⟨by (with_reducible repeat first | apply kN | apply kD | apply kA); refine blk_far ?_ NB278_280.out _; (with_reducible repeat first | apply kN | apply kD | apply kA); refine blk_far ?_ NB278_280.out _; (with_reducible repeat first | apply kN | apply kD | apply kA); refine blk_far ?_ NB278_280.out _; (with_reducible repeat first | apply kN | apply kD | apply kA); refine blk_far ?_ NB278_280.out _; (with_reducible repeat first | apply kN | apply kD | apply kA); refine blk_far ?_ NB278_280.out _; (with_reducible repeat first | apply kN | apply kD | apply kA); refine blk_far ?_ NB278_280.out _; (with_reducible repeat first | apply kN | apply kD | apply kA); exact BK278.out⟩, ⟨bx HB.out⟩⟩
    rw [if_neg c7] at H
    exact absurd H (by simp)
   rw [if_neg c6] at H
   exact absurd H (by simp)
  rw [if_neg c5] at H
  have c5b0 := decide_eq_false c5
  try (have c5b9 := c5b0; rw [hl279_5] at c5b9)
  clear c5
  obtain rfl := Option.some.inj H
  go_wp2
  go_ret
  exact ⟨_, xe, rx HO_5.out, bx HB.out⟩

def treenailref05_Outs.l0 : Nat → Int → List Int → List (S53) → Int → Int → Option (List Int)
 | 0, _, _, _, _, _ => none
 | k + 1, x1, x5, x9, x10, x11 => if x11 < x10 then (if 0 ≤ x11 then (if x11 < (x9.length : Int) then (if ((rd_T53 x9 x11).f0) = x1 then (if x5.length < 17592186044416 then (treenailref05_Outs.l0 k x1 (x5 ++ [x11]) x9 x10 (wrap64 (x11 + 1))) else (none)) else (treenailref05_Outs.l0 k x1 x5 x9 x10 (wrap64 (x11 + 1)))) else (none)) else (none)) else (some x5)
def treenailref05_Outs.f (k : Nat) (l0_0 : List (S37)) (l0_1 : List (S53)) (a1 : Int) : Option (List Int) := treenailref05_Outs.l0 k a1 ([] : List Int) l0_1 (l0_1.length : Int) 0
set_option maxRecDepth 100000 in
theorem treenailref05_Outs.mono_l : ∀ k, (∀ y0 y1 y2 y3 y4, LeO (treenailref05_Outs.l0 k y0 y1 y2 y3 y4) (treenailref05_Outs.l0 (k + 1) y0 y1 y2 y3 y4))
 | 0 => fun _ _ _ _ _ r h => by first | (cases h; done) | simp [treenailref05_Outs.l0] at h
 | k + 1 => by
  have ih0 := treenailref05_Outs.mono_l k
  ·intro y0 y1 y2 y3 y4
   unfold treenailref05_Outs.l0
   repeat' first
   | (with_reducible exact ih0 _ _ _ _ _)
   | (with_reducible exact LeO.refl _)
   | (with_reducible exact LeO.none _)
   | (with_reducible refine LeO.ite ?_ ?_)
   | (with_reducible refine LeO.bind ?_ (fun _ => ?_))
   | refine LeO.ite ?_ ?_
   | refine LeO.bind ?_ (fun _ => ?_)
set_option maxRecDepth 100000 in
theorem treenailref05_Outs.mono : ∀ a0 a1 a2 k, LeO (treenailref05_Outs.f k a0 a1 a2) (treenailref05_Outs.f (k + 1) a0 a1 a2) := by
 intro a0 a1 a2 k
 have ih0 := treenailref05_Outs.mono_l k
 unfold treenailref05_Outs.f
 repeat' first
 | (with_reducible exact ih0 _ _ _ _ _)
 | (with_reducible exact LeO.refl _)
 | (with_reducible exact LeO.none _)
 | (with_reducible refine LeO.ite ?_ ?_)
 | (with_reducible refine LeO.bind ?_ (fun _ => ?_))
 | refine LeO.ite ?_ ?_
 | refine LeO.bind ?_ (fun _ => ?_)
set_option maxHeartbeats 8000000 in
set_option maxRecDepth 100000 in
theorem treenailref05_Outs.calls (k : Nat) (A0_0 : Option Addr) (c0_0 : Nat) (l0_0 : List (S37)) (A0_1 : Option Addr) (c0_1 : Nat) (l0_1 : List (S53)) (a1 : Int) (r : List Int) (w : World) (hr0_0 : Kd.C k37 w A0_0 l0_0.length l0_0) (hc0_0 : l0_0.length ≤ c0_0) (hr0_1 : Kd.C k53 w A0_1 l0_1.length l0_1) (hc0_1 : l0_1.length ≤ c0_1) (h : treenailref05_Outs.f k l0_0 l0_1 a1 = some r) :
  Calls Tryd.prog 22 #[.agg #[.slice A0_0 l0_0.length c0_0, .slice A0_1 l0_1.length c0_1], .int .i64 a1] w fun e w' => ∃ v0_ : Value, e = .returned (v0_) ∧ Kd.R (Kd.int .i64) 3 w' w.heap.size (fun _ => True) v0_ r ∧ Below w.heap.size w w' := by
 have hu25 := Tryd.underlying25
 have hu53 := Tryd.underlying53
 have HR0_0 := zm hr0_0
 have HC0_0 := zm hc0_0
 clear hr0_0 hc0_0
 have HR0_1 := zm hr0_1
 have HC0_1 := zm hc0_1
 clear hr0_1 hc0_1
 have HB := zm (Below.refl w.heap.size w)
 have H : (treenailref05_Outs.l0 k a1 ([] : List Int) l0_1 (l0_1.length : Int) 0) = some r := h
 clear h
 have H' := zm H
 clear H
 go_enter Tryd.func22, Tryd.ntmps22
 go_wp2_with (first | ((with_reducible refine gate_dst (N := 2) rfl ?_); refine box_event ?hg (N := 2) ?hd (cs := #[.slice A0_0 l0_0.length c0_0, .slice A0_1 l0_1.length c0_1]) (t := 25) ?hr ?_; (case hd => rfl); (case hg => rfl); (case hr => first | (go_simp; done) | (go_simp; rfl)); intro gb284 hg w3 hbox hb; have BK284 := zm (hbox); have GW284 := zm ((by rw [hg]; exact (below_size (bx HB.out)) : w.heap.size ≤ gb284)); have GE284 := zm ((by rw [hg]; exact (below_size (bx HB.out)) : w.heap.size ≤ gb284)); replace HB := zm (below_step (bx HB.out) hb); clear hb hbox hg; have hcz4_0 := bc0 BK284.out; have hcz4_1 := bc1 BK284.out; have hfz4_0 := bF BK284.out 0; have hfz4_1 := bF BK284.out 1))
 go_loopg [5, 11] k (fun kq v5 v11 w' => ∃ (x5_1 : List Int) (x11_1 : Int), v11 = .int .i64 x11_1 ∧ Aside0 (treenailref05_Outs.l0 kq a1 x5_1 l0_1 (l0_1.length : Int) x11_1 = some r) ∧ Aside0 (kq ≤ k) ∧ Aside0 (Kd.R (Kd.int .i64) 3 w' w.heap.size (fun _ => True) v5 x5_1) ∧ Aside0 (w'.heap[gb284]? = some (.cells #[(.slice A0_0 l0_0.length c0_0), (.slice A0_1 l0_1.length c0_1)] 25 (0, 0))) ∧ Aside0 (Below w.heap.size w w'))
 case atStart => exact ⟨(([] : List Int)), (0), (by first | rfl | (simp; done) | (simp [*]; done)), H', ⟨Nat.le_refl _⟩, ⟨by first | exact Kd.R_nil _ _ _ _ _ | exact Kd.N_nil _ _ _ _ _ | exact Kd.V_nil _ _ _ _ _ | exact Kd.Q_nil _ _ _ _ _ | exact Kd.S_nil _ _ _ _ _⟩, ⟨kx BK284.out⟩, ⟨bx HB.out⟩⟩
 clear H'
 try clear c2
 try clear p2
 try clear BK284
 obtain ⟨x5_1, x11_1, rfl, HA, HK1, HO_5, BK284, HB⟩ := hrel
 cases gk with
 | zero => exact absurd HA.out (by first | (intro h_; cases h_; done) | simp [treenailref05_Outs.l0])
 | succ k1 =>
  have H := HA.out
  clear HA
  simp only [treenailref05_Outs.l0] at H
  by_cases c5 : x11_1 < (l0_1.length : Int)
  ·rw [if_pos c5] at H
   have c5b0 := decide_eq_true c5
   clear c5
   by_cases c6 : 0 ≤ x11_1
   ·rw [if_pos c6] at H
    have c6b0 := decide_eq_true c6
    clear c6
    by_cases c7 : x11_1 < (l0_1.length : Int)
    ·rw [if_pos c7] at H
     have c7b0 := decide_eq_true c7
     clear c7
     have HC8 := zm H
     clear H
     have p285 : 0 ≤ (x11_1 : Int) := od
     have q285 : x11_1 < (l0_1.length : Int) := od
     obtain ⟨ad285, A285_5, c285_5, e285, hx285_0, hx285_1, hx285_2, hx285_3, hx285_4, hx285_5, hl285_5, hi285_5⟩ := at_T53 HR0_1.out x11_1 p285 q285
     cases e285
     replace hx285_0 := cb HB.out hx285_0
     replace hx285_1 := cb HB.out hx285_1
     replace hx285_2 := cb HB.out hx285_2
     replace hx285_3 := cb HB.out hx285_3
     replace hx285_4 := cb HB.out hx285_4
     replace hx285_5 := cb HB.out hx285_5
     have HR285_5 := zm hi285_5
     have HC285_5 := zm hl285_5
     clear hi285_5 hl285_5
     replace p285 := eq_true p285
     replace q285 := eq_true q285
     go_upto_if 19 with (first | ((with_reducible refine gate_dst (N := 7) rfl ?_); refine box_event ?hg (N := 7) ?hd (cs := #[.int .i64 0, .int .i64 0, .bool false, .int .i64 0, .int .i64 0, .slice none 0 0]) (t := 53) ?hr ?_; (case hd => rfl); (case hg => rfl); (case hr => first | (go_simp; done) | (go_simp; rfl)); intro gb286 hg w9 hbox hb; replace HO_5 := zm (Kd.R_below (rx HO_5.out) hb); have BK286 := zm (hbox); have GW286 := zm ((by rw [hg]; exact (below_size (bx HB.out)) : w.heap.size ≤ gb286)); have GE286 := zm ((by rw [hg]; exact (below_size (bx HB.out)) : w.heap.size ≤ gb286)); replace HB := zm (below_step (bx HB.out) hb); have NB284_286 := zm ((by rw [hg]; exact Nat.ne_of_lt (blk_lt (g := gb284) (o := .cells #[.slice A0_0 l0_0.length c0_0, .slice (some ad285) l0_1.length c0_1] 25 (0, 0)) (kx BK284.out)) : gb284 ≠ gb286)); have NB286_284 := zm ((by rw [hg]; exact Nat.ne_of_gt (blk_lt (g := gb284) (o := .cells #[.slice A0_0 l0_0.length c0_0, .slice (some ad285) l0_1.length c0_1] 25 (0, 0)) (kx BK284.out)) : gb286 ≠ gb284)); replace BK284 := zm (kB (kx BK284.out) hb); clear hb hbox hg; have hnb10 := NB286_284.out; have hnc10 := NB284_286.out; have hcz11_0 := bc0 BK286.out; have hcz11_1 := bc1 BK286.out; have hcz11_2 := bc2 BK286.out; have hcz11_3 := bc3 BK286.out; have hcz11_4 := bc4 BK286.out; have hcz11_5 := bc5 BK286.out; have hfz11_0 := bF BK286.out 0; have hfz11_1 := bF BK286.out 1; have hfz11_2 := bF BK286.out 2; have hfz11_3 := bF BK286.out 3; have hfz11_4 := bF BK286.out 4; have hfz11_5 := bF BK286.out 5))
     have H := HC8.out
     clear HC8
     by_cases c12 : ((rd_T53 l0_1 x11_1).f0) = a1
     ·rw [if_pos c12] at H
      have c12b0 := beq_iff_eq.mpr c12
      have c12b1 := bne_eq_false_iff_eq.mpr c12
      clear c12
      (first | rw [c12b0] | (simp only [i64_w, i32_w]; rw [c12b0]) | rw [c12b1] | skip)
      by_cases c13 : x5_1.length < 17592186044416
      ·rw [if_pos c13] at H
       have LMc13 := zm c13
       clear c13
       obtain ⟨y287, hy287⟩ : ∃ y_ : List Int, y_ = (x5_1 ++ [x11_1]) := ⟨_, rfl⟩
       replace H : (treenailref05_Outs.l0 k1 a1 y287 l0_1 (l0_1.length : Int) (wrap64 (x11_1 + 1))) = some r := by first | (rw [hy287]; with_reducible exact H) | (have H2_ := (Option.bind_some _ _).symm.trans H; rw [hy287]; with_reducible exact H2_) | (have H2_ := (Option.bind_some _ _).symm.trans H; with_reducible exact H2_) | with_reducible exact H | (rw [hy287]; exact H) | exact H
       have Ny287 := zm hy287
       clear hy287
       have H' := zm H
       clear H
       go_wp2_with (first | ((with_reducible refine gate_builtin (b := .append) (xs := #[.tmp 20, .tmp 22]) rfl ?_); at_builtin; refine Kd.R_append (Kd.int .i64) (w0 := w) w.heap.size rfl (.tmp 20) (.tmp 22) 38 3 (.int .i64 0) 8 rfl Tryd.underlying38 info3 rfl (by decide) (by omega) u5 x5_1 x11_1 [.int .i64 x11_1] (fun _ => True) (fun _ => False) rfl (by first | (go_simp; done) | (go_simp; rfl)) ?aP (fun _ hk => hk.elim) ?aF ?aO ?aB ?aS ?aL ?_; (case aP => exact rfl); (case aB => exact (bx HB.out)); (case aF => exact (fun _ _ => trivial)); (case aO => exact (rx (Kd.R_mono (Kd.R_far (p := ⟨gb286, 5, none⟩) (Kd.R_far (p := ⟨gb286, 4, none⟩) (Kd.R_far (p := ⟨gb286, 3, none⟩) (Kd.R_far (p := ⟨gb286, 2, none⟩) (Kd.R_far (p := ⟨gb286, 1, none⟩) (Kd.R_far (p := ⟨gb286, 0, none⟩) (Kd.R_types HO_5.out BK286.out (by decide)) (fun _ hk => hk.2) (.int .i64 ((rd_T53 l0_1 x11_1).f0))) (fun _ hk => hk.2) (.int .i64 ((rd_T53 l0_1 x11_1).f1))) (fun _ hk => hk.2) (.bool ((rd_T53 l0_1 x11_1).f2))) (fun _ hk => hk.2) (.int .i64 ((rd_T53 l0_1 x11_1).f3.f0))) (fun _ hk => hk.2) (.int .i64 ((rd_T53 l0_1 x11_1).f3.f1))) (fun _ hk => hk.2) (.slice A285_5 ((rd_T53 l0_1 x11_1).f3.f2).length c285_5)) (fun _ hk => trivial)))); (case aS => exact (below_size (bx HB.out))); (case aL => have := LMc13.out; omega); intro v288 w14 ho hb hg hat; rw [← Ny287.out] at ho; replace BK284 := zm (blk_grown (g := gb284) (o := .cells #[.slice A0_0 l0_0.length c0_0, .slice (some ad285) l0_1.length c0_1] 25 (0, 0)) (by (with_reducible repeat first | apply kN | apply kD | apply kA); refine blk_far ?_ NB284_286.out _; (with_reducible repeat first | apply kN | apply kD | apply kA); refine blk_far ?_ NB284_286.out _; (with_reducible repeat first | apply kN | apply kD | apply kA); refine blk_far ?_ NB284_286.out _; (with_reducible repeat first | apply kN | apply kD | apply kA); refine blk_far ?_ NB284_286.out _; (with_reducible repeat first | apply kN | apply kD | apply kA); refine blk_far ?_ NB284_286.out _; (with_reducible repeat first | apply kN | apply kD | apply kA); refine blk_far ?_ NB284_286.out _; (with_reducible repeat first | apply kN | apply kD | apply kA); exact BK284.out) hg (Kd.R_ne HO_5.out BK284.out (by decide))); replace BK286 := zm (blk_grown (g := gb286) (o := .cells #[.int .i64 ((rd_T53 l0_1 x11_1).f0), .int .i64 ((rd_T53 l0_1 x11_1).f1), .bool ((rd_T53 l0_1 x11_1).f2), .int .i64 ((rd_T53 l0_1 x11_1).f3.f0), .int .i64 ((rd_T53 l0_1 x11_1).f3.f1), .slice A285_5 ((rd_T53 l0_1 x11_1).f3.f2).length c285_5] 53 (0, 0)) (by (with_reducible repeat first | apply kN | apply kD | apply kA); refine blk_put (cs := #[.int .i64 ((rd_T53 l0_1 x11_1).f0), .int .i64 ((rd_T53 l0_1 x11_1).f1), .bool ((rd_T53 l0_1 x11_1).f2), .int .i64 ((rd_T53 l0_1 x11_1).f3.f0), .int .i64 ((rd_T53 l0_1 x11_1).f3.f1), .slice none 0 0]) ?_ 5 _ rfl; (with_reducible repeat first | apply kN | apply kD | apply kA); refine blk_put (cs := #[.int .i64 ((rd_T53 l0_1 x11_1).f0), .int .i64 ((rd_T53 l0_1 x11_1).f1), .bool ((rd_T53 l0_1 x11_1).f2), .int .i64 ((rd_T53 l0_1 x11_1).f3.f0), .int .i64 0, .slice none 0 0]) ?_ 4 _ rfl; (with_reducible repeat first | apply kN | apply kD | apply kA); refine blk_put (cs := #[.int .i64 ((rd_T53 l0_1 x11_1).f0), .int .i64 ((rd_T53 l0_1 x11_1).f1), .bool ((rd_T53 l0_1 x11_1).f2), .int .i64 0, .int .i64 0, .slice none 0 0]) ?_ 3 _ rfl; (with_reducible repeat first | apply kN | apply kD | apply kA); refine blk_put (cs := #[.int .i64 ((rd_T53 l0_1 x11_1).f0), .int .i64 ((rd_T53 l0_1 x11_1).f1), .bool false, .int .i64 0, .int .i64 0, .slice none 0 0]) ?_ 2 _ rfl; (with_reducible repeat first | apply kN | apply kD | apply kA); refine blk_put (cs := #[.int .i64 ((rd_T53 l0_1 x11_1).f0), .int .i64 0, .bool false, .int .i64 0, .int .i64 0, .slice none 0 0]) ?_ 1 _ rfl; (with_reducible repeat first | apply kN | apply kD | apply kA); refine blk_put (cs := #[.int .i64 0, .int .i64 0, .bool false, .int .i64 0, .int .i64 0, .slice none 0 0]) ?_ 0 _ rfl; (with_reducible repeat first | apply kN | apply kD | apply kA); exact BK286.out) hg (Kd.R_ne HO_5.out BK286.out (by decide))); replace HB := zm (hb); have HO289 := zm (ho); clear HO_5 ho hb hg hat))
       go_roundg k1
       case measure => have := HK1.out; omega
       case rel => exact ⟨(y287), (wrap64 (x11_1 + 1)), (by first | rfl | (simp; done) | (simp [*]; done)), H', ⟨by have := HK1.out; omega⟩, ⟨rx HO289.out⟩, ⟨kx BK284.out⟩, ⟨bx HB.out⟩⟩
      rw [if_neg c13] at H
      exact absurd H (by simp)
     rw [if_neg c12] at H
     have c12b0 := beq_eq_false_iff_ne.mpr c12
     have c12b1 := bne_iff_ne.mpr c12
     (first | rw [c12b0] | (simp only [i64_w, i32_w]; rw [c12b0]) | rw [c12b1] | skip)
     have H' := zm H
     clear H
     go_wp2
     go_roundg k1
     case measure => have := HK1.out; omega
     case rel => exact ⟨(x5_1), (wrap64 (x11_1 + 1)), (by first | rfl | (simp; done) | (simp [*]; done)), H', ⟨by have := HK1.out; omega⟩, ⟨rx (Kd.R_mono (Kd.R_far (p := ⟨gb286, 5, none⟩) (Kd.R_far (p := ⟨gb286, 4, none⟩) (Kd.R_far (p := ⟨gb286, 3, none⟩) (Kd.R_far (p := ⟨gb286, 2, none⟩) (Kd.R_far (p := ⟨gb286, 1, none⟩) (Kd.R_far (p := ⟨gb286, 0, none⟩) (Kd.R_types HO_5.out BK286.out (by decide)) (fun _ hk => hk.2) (.int .i64 ((rd_T53 l0_1 x11_1).f0))) (fun _ hk => hk.2) (.int .i64 ((rd_T53 l0_1 x11_1).f1))) (fun _ hk => hk.2) (.bool ((rd_T53 l0_1 x11_1).f2))) (fun _ hk => hk.2) (.int .i64 ((rd_T53 l0_1 x11_1).f3.f0))) (fun _ hk => hk.2) (.int .i64 ((rd_T53 l0_1 x11_1).f3.f1))) (fun _ hk => hk.2) (.slice A285_5 ((rd_T53 l0_1 x11_1).f3.f2).length c285_5)) (fun _ hk => trivial))⟩, ⟨by (with_reducible repeat first | apply kN | apply kD | apply kA); refine blk_far ?_ NB284_286.out _; (with_reducible repeat first | apply kN | apply kD | apply kA); refine blk_far ?_ NB284_286.out _; (with_reducible repeat first | apply kN | apply kD | apply kA); refine blk_far ?_ NB284_286.out _; (with_reducible repeat first | apply kN | apply kD | apply kA); refine blk_far ?_ NB284_286.out _; (with_reducible repeat first | apply kN | apply kD | apply kA); refine blk_far ?_ NB284_286.out _; (with_reducible repeat first | apply kN | apply kD | apply kA); refine blk_far ?_ NB284_286.out _; (with_reducible repeat first | apply kN | apply kD | apply kA); exact BK284.out⟩, ⟨bx HB.out⟩⟩
    rw [if_neg c7] at H
    exact absurd H (by simp)
   rw [if_neg c6] at H
   exact absurd H (by simp)
  rw [if_neg c5] at H
  have c5b0 := decide_eq_false c5
  try (have c5b9 := c5b0; rw [hl285_5] at c5b9)
  clear c5
  obtain rfl := Option.some.inj H
  go_wp2
  go_ret
  exact ⟨_, xe, rx HO_5.out, bx HB.out⟩

end Go.Proofs.YtdaeiicdpfghlaaDoor.R
