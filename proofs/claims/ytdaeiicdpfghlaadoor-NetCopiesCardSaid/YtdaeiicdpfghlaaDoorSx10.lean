import Derived.Test.YtdaeiicdpfghlaaDoorSx0
import Derived.Test.YtdaeiicdpfghlaaDoorSx2
import Derived.Test.YtdaeiicdpfghlaaDoorSx3
import Derived.Test.YtdaeiicdpfghlaaDoorSx5
import Derived.Test.YtdaeiicdpfghlaaDoorSx7
import Derived.Test.YtdaeiicdpfghlaaDoorSx8
import Derived.Test.YtdaeiicdpfghlaaDoorSx9
namespace Go.Proofs.YtdaeiicdpfghlaaDoor.R
open Go.RowKit Go.Proofs.YtdaeiicdpfghlaaDoorW.PrintWords Go.Proofs.YtdaeiicdpfghlaaDoorW.PrintLast Go.Proofs.YtdaeiicdpfghlaaDoorW.PrintMore
attribute [local go_sem] max2_int min2_int max_two min_two max_three min_three max_four min_four   -- for this text's walks alone
set_option linter.unusedVariables false
set_option linter.unusedSimpArgs false

def net_All.j0 : Nat → Bool → List (S37) → List (S53) → Option ((List (S47)))
 | 0, _, _, _ => none
 | k + 1, x17, x226000, x226001 => if x17 = true then (some (([(⟨1, 0⟩ : S47)] : List (S47)))) else ((net_places.f k 1 (x226000.length : Int) (net_All_1.q k x226000 x226001)).bind fun t229 => (if (t229.length : Int) > 0 then (some t229) else ((net_places.f k 2 (x226001.length : Int) (net_All_2.q k x226000 x226001)).bind fun t232 => (if (t232.length : Int) > 0 then (some t232) else ((net_third.f k x226000 x226001).bind fun t235 => (if (t235.length : Int) > 0 then (some t235) else ((net_Start.f k x226000 x226001).bind fun t238 => ((net_met.f k x226000 x226001 t238 false).bind fun t239 => ((net_End.f k x226000 x226001).bind fun t242 => ((net_met.f k x226000 x226001 t242 true).bind fun t243 => ((net_places.f k 4 (x226000.length : Int) (net_All_3.q t239 t243)).bind fun t248 => (some t248))))))))))))
def net_All.f (k : Nat) (l0_0 : List (S37)) (l0_1 : List (S53)) : Option ((List (S47))) := if (l0_0.length : Int) > 24 then (net_All.j0 k true l0_0 l0_1) else (net_All.j0 k (decide ((l0_1.length : Int) > 40)) l0_0 l0_1)
set_option maxRecDepth 100000 in
theorem net_All.mono_l : ∀ k, (∀ y0 y1 y2, LeO (net_All.j0 k y0 y1 y2) (net_All.j0 (k + 1) y0 y1 y2))
 | 0 => fun _ _ _ r h => by first | (cases h; done) | simp [net_All.j0] at h
 | k + 1 => by
  have ih0 := net_All.mono_l k
  ·intro y0 y1 y2
   unfold net_All.j0
   repeat' first
   | (with_reducible exact ih0 _ _ _)
   | (with_reducible exact net_End.mono _ _ _)
   | (with_reducible exact net_Start.mono _ _ _)
   | (with_reducible exact net_met.mono _ _ _ _ _)
   | (with_reducible exact net_places.mono _ _ _ _)
   | (with_reducible exact net_third.mono _ _ _)
   | (with_reducible exact net_All_1.up_net_places)
   | (with_reducible exact net_All_2.up_net_places)
   | (with_reducible exact net_third_1.up_net_places)
   | (with_reducible exact LeO.refl _)
   | (with_reducible exact LeO.none _)
   | (with_reducible refine LeO.ite ?_ ?_)
   | (with_reducible refine LeO.bind ?_ (fun _ => ?_))
   | refine LeO.ite ?_ ?_
   | refine LeO.bind ?_ (fun _ => ?_)
set_option maxRecDepth 100000 in
theorem net_All.mono : ∀ a0 a1 k, LeO (net_All.f k a0 a1) (net_All.f (k + 1) a0 a1) := by
 intro a0 a1 k
 have ih0 := net_All.mono_l k
 unfold net_All.f
 repeat' first
 | (with_reducible exact ih0 _ _ _)
 | (with_reducible exact net_End.mono _ _ _)
 | (with_reducible exact net_Start.mono _ _ _)
 | (with_reducible exact net_met.mono _ _ _ _ _)
 | (with_reducible exact net_places.mono _ _ _ _)
 | (with_reducible exact net_third.mono _ _ _)
 | (with_reducible exact net_All_1.up_net_places)
 | (with_reducible exact net_All_2.up_net_places)
 | (with_reducible exact net_third_1.up_net_places)
 | (with_reducible exact LeO.refl _)
 | (with_reducible exact LeO.none _)
 | (with_reducible refine LeO.ite ?_ ?_)
 | (with_reducible refine LeO.bind ?_ (fun _ => ?_))
 | refine LeO.ite ?_ ?_
 | refine LeO.bind ?_ (fun _ => ?_)
def net_All.T12 : Bool × List (List Nat × List Nat) := (true, [([], []), ([], []), ([1], [1]), ([0, 2, 2], [0, 2]), ([], []), ([], []), ([5, 3], [5]), ([4, 6, 6], [4, 6]), ([], []), ([], []), ([8, 3, 7, 0, 1, 2, 3, 8, 9], [3, 8]), ([9, 7, 10, 0, 1, 2, 3, 4, 5, 6, 7, 8, 9, 10], [7, 9])])
def net_All.B12 : List Nat := [0, 0, 2, 7, 0, 0, 47, 127, 0, 0, 1023, 2047]
theorem net_All.tab12 : rtab .any (opsOf Tryd.f18 12) = net_All.T12 := by kernel_rfl
theorem net_All.bits12 : waitsOk net_All.T12.2 net_All.B12 = true := by kernel_rfl
set_option maxHeartbeats 8000000 in
set_option maxRecDepth 100000 in
theorem net_All.calls (k : Nat) (A0_0 : Option Addr) (c0_0 : Nat) (l0_0 : List (S37)) (A0_1 : Option Addr) (c0_1 : Nat) (l0_1 : List (S53)) (r : List (S47)) (w : World) (hr0_0 : Kd.C k37 w A0_0 l0_0.length l0_0) (hc0_0 : l0_0.length ≤ c0_0) (hr0_1 : Kd.C k53 w A0_1 l0_1.length l0_1) (hc0_1 : l0_1.length ≤ c0_1) (h : net_All.f k l0_0 l0_1 = some r) (hT : Words.Tab w) :
  Calls Tryd.prog 18 #[.agg #[.slice A0_0 l0_0.length c0_0, .slice A0_1 l0_1.length c0_1]] w fun e w' => ∃ v0_ : Value, e = .returned (v0_) ∧ Kd.R k47 47 w' w.heap.size (fun _ => True) v0_ r ∧ Below w.heap.size w w' := by
 have hu25 := Tryd.underlying25
 have hu47 := Tryd.underlying47
 have HR0_0 := zm hr0_0
 have HC0_0 := zm hc0_0
 clear hr0_0 hc0_0
 have HR0_1 := zm hr0_1
 have HC0_1 := zm hc0_1
 clear hr0_1 hc0_1
 have HB := zm (Below.refl w.heap.size w)
 have HT0 := zm hT
 clear hT
 have H : (if (l0_0.length : Int) > 24 then (net_All.j0 k true l0_0 l0_1) else (net_All.j0 k (decide ((l0_1.length : Int) > 40)) l0_0 l0_1)) = some r := h
 clear h
 have HC2 := zm H
 clear H
 go_enter Tryd.func18, Tryd.ntmps18
 go_upto_region 1 with (first | ((with_reducible refine gate_dst (N := 1) rfl ?_); (try (refine gate_guard (by rfl) ?_; dsimp only)); refine box_event ?hg (N := 1) ?hd (cs := #[.slice A0_0 l0_0.length c0_0, .slice A0_1 l0_1.length c0_1]) (t := 25) ?hr ?_; (case hd => rfl); (case hg => rfl); (case hr => first | (go_simp; done) | (go_simp; rfl)); intro gb225 hg w3 hbox hb; have BK225 := zm (hbox); have GW225 := zm ((by rw [hg]; exact (below_size (bx HB.out)) : w.heap.size ≤ gb225)); have GE225 := zm ((by rw [hg]; exact (below_size (bx HB.out)) : w.heap.size ≤ gb225)); replace HB := zm (below_step (bx HB.out) hb); clear hb hbox hg))
 (try simp only [Act.put, sS, sZ, sC])
 go_cut [17] (fun v17 wc => ∃ (kq : Nat) (x17_1 : Bool), v17 = .bool x17_1 ∧ Aside0 (net_All.j0 kq x17_1 l0_0 l0_1 = some r) ∧ Aside0 (kq ≤ k) ∧ Aside0 (wc.heap[gb225]? = some (.cells #[(.slice A0_0 l0_0.length c0_0), (.slice A0_1 l0_1.length c0_1)] 25 (0, 0))) ∧ Aside0 (Below w.heap.size w wc))
 case first =>
  have H := HC2.out
  clear HC2
  by_cases c4 : (l0_0.length : Int) > 24
  ·rw [if_pos c4] at H
   have c4b0 : decide (24 < (l0_0.length : Int)) = true := decide_eq_true c4
   have c4b1 : decide (24 < l0_0.length) = true := decide_eq_true (by omega)
   clear c4
   (first | rw [c4b0] | (simp only [i64_w, i32_w]; rw [c4b0]) | rw [c4b1] | skip)
   have H' := zm H
   clear H
   have hcz5_0 := bc0 BK225.out
   have hcz5_1 := bc1 BK225.out
   have hfz5_0 := bF BK225.out 0
   have hfz5_1 := bF BK225.out 1
   go_wp2
   go_meet
   case rel => exact ⟨_, (true), (by first | rfl | (simp; done) | (simp [*]; done)), H', ⟨by first | omega | exact Nat.le_refl _⟩, ⟨kx BK225.out⟩, ⟨bx HB.out⟩⟩
  rw [if_neg c4] at H
  have c4b0 : decide (24 < (l0_0.length : Int)) = false := decide_eq_false c4
  have c4b1 : decide (24 < l0_0.length) = false := decide_eq_false (by omega)
  clear c4
  (first | rw [c4b0] | (simp only [i64_w, i32_w]; rw [c4b0]) | rw [c4b1] | skip)
  have H' := zm H
  clear H
  have hcz6_0 := bc0 BK225.out
  have hcz6_1 := bc1 BK225.out
  have hfz6_0 := bF BK225.out 0
  have hfz6_1 := bF BK225.out 1
  go_wp2
  go_meet
  case rel => exact ⟨_, (decide ((l0_1.length : Int) > 40)), (by first | rfl | (simp; done) | (simp [*]; done)), H', ⟨by first | omega | exact Nat.le_refl _⟩, ⟨kx BK225.out⟩, ⟨bx HB.out⟩⟩
 clear HC2
 try clear c1
 try clear p2
 try clear c4
 try clear c4b0
 try clear c4b1
 try clear BK225
 obtain ⟨kq, x17_1, rfl, HA, HJ1, BK225, HB⟩ := hcut
 cases kq with
 | zero => exact absurd HA.out (by first | (intro h_; cases h_; done) | simp [net_All.j0])
 | succ kj1 =>
  have H := HA.out
  clear HA
  simp only [net_All.j0] at H
  by_cases c7 : x17_1 = true
  ·subst c7
   rw [if_pos rfl] at H
   obtain ⟨y226, hy226⟩ : ∃ y_ : List (S47), y_ = (([(⟨1, 0⟩ : S47)] : List (S47))) := ⟨_, rfl⟩
   replace H : (some y226) = some r := by first | (rw [hy226]; with_reducible exact H) | (have H2_ := (Option.bind_some _ _).symm.trans H; rw [hy226]; with_reducible exact H2_) | (have H2_ := (Option.bind_some _ _).symm.trans H; with_reducible exact H2_) | with_reducible exact H | (rw [hy226]; exact H) | exact H
   have Ny226 := zm hy226
   clear hy226
   obtain rfl := Option.some.inj H
   go_wp2_with (first | ((with_reducible refine gate_dst (N := 19) rfl ?_); (try (refine gate_guard (by rfl) ?_; dsimp only)); refine Kd.R_lit k47 _ 47 ?hg (N := 19) ?hd (xs := ([(⟨1, 0⟩ : S47)] : List (S47))) (inner := [.int .i64 1, .int .i64 0]) (ok := fun _ => True) (okp := fun _ => True) ?hr ?hp (fun _ hk => hk) trivial (Below.refl _ _) (Nat.le_refl _) (by simp) ?_; (case hd => rfl); (case hg => rfl); (case hr => first | (go_simp; done) | (go_simp; rfl)); (case hp => exact (Reps.c2 (show Kd.M k47 _ _ _ (⟨1, 0⟩ : S47) [.int .i64 1, .int .i64 0] from (k47_mkM _ _ _ (⟨1, 0⟩ : S47) )) (Reps.none _ _))); intro v227 w8 ho9 hb hg_ hnew_; clear hg_ hnew_; (first | rw [← Ny226.out] at ho9 | (simp only [Int.reduceToNat] at ho9; rw [← Ny226.out] at ho9)); have HO228 := zm (Kd.R_lower ho9 (below_size (bx HB.out))); replace BK225 := zm (kB (kx BK225.out) hb); replace HB := zm (below_step (bx HB.out) hb); clear hb ho9))
   go_ret
   exact ⟨_, xe, rx HO228.out, bx HB.out⟩
  replace c7 := Bool.eq_false_iff.mpr c7
  subst c7
  rw [if_neg (show ¬ (false = true) by decide)] at H
  replace H := Option.bind_eq_some_iff.mp H
  obtain ⟨t229, A100, H⟩ := H
  replace H : (if (t229.length : Int) > 0 then (some t229) else ((net_places.f kj1 2 (l0_1.length : Int) (net_All_2.q kj1 l0_0 l0_1)).bind fun t232 => (if (t232.length : Int) > 0 then (some t232) else ((net_third.f kj1 l0_0 l0_1).bind fun t235 => (if (t235.length : Int) > 0 then (some t235) else ((net_Start.f kj1 l0_0 l0_1).bind fun t238 => ((net_met.f kj1 l0_0 l0_1 t238 false).bind fun t239 => ((net_End.f kj1 l0_0 l0_1).bind fun t242 => ((net_met.f kj1 l0_0 l0_1 t242 true).bind fun t243 => ((net_places.f kj1 4 (l0_0.length : Int) (net_All_3.q t239 t243)).bind fun t248 => (some t248))))))))))) = some r := H
  have A10 := zm A100
  clear A100
  have HC11 := zm H
  clear H
  have hcz12_0 := bc0 BK225.out
  have hcz12_1 := bc1 BK225.out
  have hfz12_0 := bF BK225.out 0
  have hfz12_1 := bF BK225.out 1
  go_upto_if 27 with (first | ((with_reducible refine gate_callee (f := 37) rfl ?_); refine goesL_ (some 24) rfl rfl Tryd.func37 (by kernel_rfl) rfl #[.int .i64 1, .int .i64 (l0_0.length : Int), .func (.func 38) #[] #[.pointer (some ⟨gb225, 0, none⟩)]] rfl ag ?_; (with_reducible refine (net_places.calls kj1 1 (l0_0.length : Int) _ _ _ t229 _ ?side1 ?side2 A10.out).mono ?_); (case side1 => exact fun args_ w_ => enters_ Tryd.func38 (by kernel_rfl) rfl args_ w_); (case side2 => exact net_All_1.ok (kx BK225.out) (cx (Kd.C_below HR0_0.out HB.out)) (by exact HC0_0.out) (cx (Kd.C_below HR0_1.out HB.out)) (by exact HC0_1.out) (Words.tab_below HT0.out (bx HB.out))); rintro e w13 ⟨v230, rfl, ho0, hb⟩; refine ⟨_, rfl, ?_⟩; have HO231 := zm (Kd.R_lower ho0 (below_size (bx HB.out))); replace BK225 := zm (kB (kx BK225.out) hb); replace HB := zm (below_step (bx HB.out) hb); (try clear hb); (try clear ho0); obtain ⟨Ao14, co14, eo14⟩ := Kd.R_slice HO231.out; subst eo14))
  have H := HC11.out
  clear HC11
  by_cases c15 : (t229.length : Int) > 0
  ·rw [if_pos c15] at H
   have c15b0 : decide (0 < (t229.length : Int)) = true := decide_eq_true c15
   have c15b1 : decide (0 < t229.length) = true := decide_eq_true (by omega)
   clear c15
   (first | rw [c15b0] | (simp only [i64_w, i32_w]; rw [c15b0]) | rw [c15b1] | skip)
   obtain rfl := Option.some.inj H
   go_wp2
   go_ret
   exact ⟨_, xe, rx HO231.out, bx HB.out⟩
  rw [if_neg c15] at H
  have c15b0 : decide (0 < (t229.length : Int)) = false := decide_eq_false c15
  have c15b1 : decide (0 < t229.length) = false := decide_eq_false (by omega)
  clear c15
  (first | rw [c15b0] | (simp only [i64_w, i32_w]; rw [c15b0]) | rw [c15b1] | skip)
  replace H := Option.bind_eq_some_iff.mp H
  obtain ⟨t232, A160, H⟩ := H
  replace H : (if (t232.length : Int) > 0 then (some t232) else ((net_third.f kj1 l0_0 l0_1).bind fun t235 => (if (t235.length : Int) > 0 then (some t235) else ((net_Start.f kj1 l0_0 l0_1).bind fun t238 => ((net_met.f kj1 l0_0 l0_1 t238 false).bind fun t239 => ((net_End.f kj1 l0_0 l0_1).bind fun t242 => ((net_met.f kj1 l0_0 l0_1 t242 true).bind fun t243 => ((net_places.f kj1 4 (l0_0.length : Int) (net_All_3.q t239 t243)).bind fun t248 => (some t248))))))))) = some r := H
  have A16 := zm A160
  clear A160
  have HC17 := zm H
  clear H
  have hcz18_0 := bc0 BK225.out
  have hcz18_1 := bc1 BK225.out
  have hfz18_0 := bF BK225.out 0
  have hfz18_1 := bF BK225.out 1
  go_upto_if 36 with (first | ((with_reducible refine gate_callee (f := 37) rfl ?_); refine goesL_ (some 33) rfl rfl Tryd.func37 (by kernel_rfl) rfl #[.int .i64 2, .int .i64 (l0_1.length : Int), .func (.func 40) #[] #[.pointer (some ⟨gb225, 0, none⟩)]] rfl ag ?_; (with_reducible refine (net_places.calls kj1 2 (l0_1.length : Int) _ _ _ t232 _ ?side1 ?side2 A16.out).mono ?_); (case side1 => exact fun args_ w_ => enters_ Tryd.func40 (by kernel_rfl) rfl args_ w_); (case side2 => exact net_All_2.ok (kx BK225.out) (cx (Kd.C_below HR0_0.out HB.out)) (by exact HC0_0.out) (cx (Kd.C_below HR0_1.out HB.out)) (by exact HC0_1.out) (Words.tab_below HT0.out (bx HB.out))); rintro e w19 ⟨v233, rfl, ho0, hb⟩; refine ⟨_, rfl, ?_⟩; have HO234 := zm (Kd.R_lower ho0 (below_size (bx HB.out))); replace BK225 := zm (kB (kx BK225.out) hb); replace HB := zm (below_step (bx HB.out) hb); (try clear hb); (try clear ho0); obtain ⟨Ao20, co20, eo20⟩ := Kd.R_slice HO234.out; subst eo20))
  have H := HC17.out
  clear HC17
  by_cases c21 : (t232.length : Int) > 0
  ·rw [if_pos c21] at H
   have c21b0 : decide (0 < (t232.length : Int)) = true := decide_eq_true c21
   have c21b1 : decide (0 < t232.length) = true := decide_eq_true (by omega)
   clear c21
   (first | rw [c21b0] | (simp only [i64_w, i32_w]; rw [c21b0]) | rw [c21b1] | skip)
   obtain rfl := Option.some.inj H
   go_wp2
   go_ret
   exact ⟨_, xe, rx HO234.out, bx HB.out⟩
  rw [if_neg c21] at H
  have c21b0 : decide (0 < (t232.length : Int)) = false := decide_eq_false c21
  have c21b1 : decide (0 < t232.length) = false := decide_eq_false (by omega)
  clear c21
  (first | rw [c21b0] | (simp only [i64_w, i32_w]; rw [c21b0]) | rw [c21b1] | skip)
  replace H := Option.bind_eq_some_iff.mp H
  obtain ⟨t235, A220, H⟩ := H
  replace H : (if (t235.length : Int) > 0 then (some t235) else ((net_Start.f kj1 l0_0 l0_1).bind fun t238 => ((net_met.f kj1 l0_0 l0_1 t238 false).bind fun t239 => ((net_End.f kj1 l0_0 l0_1).bind fun t242 => ((net_met.f kj1 l0_0 l0_1 t242 true).bind fun t243 => ((net_places.f kj1 4 (l0_0.length : Int) (net_All_3.q t239 t243)).bind fun t248 => (some t248))))))) = some r := H
  have A22 := zm A220
  clear A220
  have HC23 := zm H
  clear H
  have hcz24_0 := bc0 BK225.out
  have hcz24_1 := bc1 BK225.out
  have hfz24_0 := bF BK225.out 0
  have hfz24_1 := bF BK225.out 1
  go_upto_if 42 with (first | ((with_reducible refine gate_callee (f := 42) rfl ?_); refine goesL_ (some 39) rfl rfl Tryd.func42 (by kernel_rfl) rfl #[.agg #[.slice A0_0 l0_0.length c0_0, .slice A0_1 l0_1.length c0_1]] rfl ag ?_; (with_reducible refine (net_third.calls kj1 _ _ l0_0 _ _ l0_1 t235 _ ?side1 HC0_0.out ?side3 HC0_1.out A22.out).mono ?_); (case side1 => exact cx (Kd.C_below HR0_0.out HB.out)); (case side3 => exact cx (Kd.C_below HR0_1.out HB.out)); rintro e w25 ⟨v236, rfl, ho0, hb⟩; refine ⟨_, rfl, ?_⟩; have HO237 := zm (Kd.R_lower ho0 (below_size (bx HB.out))); replace BK225 := zm (kB (kx BK225.out) hb); replace HB := zm (below_step (bx HB.out) hb); (try clear hb); (try clear ho0); obtain ⟨Ao26, co26, eo26⟩ := Kd.R_slice HO237.out; subst eo26))
  have H := HC23.out
  clear HC23
  by_cases c27 : (t235.length : Int) > 0
  ·rw [if_pos c27] at H
   have c27b0 : decide (0 < (t235.length : Int)) = true := decide_eq_true c27
   have c27b1 : decide (0 < t235.length) = true := decide_eq_true (by omega)
   clear c27
   (first | rw [c27b0] | (simp only [i64_w, i32_w]; rw [c27b0]) | rw [c27b1] | skip)
   obtain rfl := Option.some.inj H
   go_wp2
   go_ret
   exact ⟨_, xe, rx HO237.out, bx HB.out⟩
  rw [if_neg c27] at H
  have c27b0 : decide (0 < (t235.length : Int)) = false := decide_eq_false c27
  have c27b1 : decide (0 < t235.length) = false := decide_eq_false (by omega)
  clear c27
  (first | rw [c27b0] | (simp only [i64_w, i32_w]; rw [c27b0]) | rw [c27b1] | skip)
  replace H := Option.bind_eq_some_iff.mp H
  obtain ⟨t238, A280, H⟩ := H
  have A28 := zm A280
  clear A280
  replace H := Option.bind_eq_some_iff.mp H
  obtain ⟨t239, A290, H⟩ := H
  have A29 := zm A290
  clear A290
  replace H := Option.bind_eq_some_iff.mp H
  obtain ⟨t242, A300, H⟩ := H
  have A30 := zm A300
  clear A300
  replace H := Option.bind_eq_some_iff.mp H
  obtain ⟨t243, A310, H⟩ := H
  have A31 := zm A310
  clear A310
  replace H := Option.bind_eq_some_iff.mp H
  obtain ⟨t248, A320, H⟩ := H
  replace H : (some t248) = some r := H
  have A32 := zm A320
  clear A320
  obtain rfl := Option.some.inj H
  try go_wp2
  replace BK225 := zm (blk_drew BK225.out)
  replace HB := zm (below_drew1 HB.out)
  refine start_ (n := 12) (S := fun w' => w'.cell? ⟨gb225, 0, none⟩ = some (.slice A0_0 l0_0.length c0_0) ∧ w'.cell? ⟨gb225, 1, none⟩ = some (.slice A0_1 l0_1.length c0_1)) (ds := []) #[Z,Z,Z,Z,Z,Z,Z,Z,Z,Z,Z,Z] (by kernel_rfl) rfl rfl ⟨bc0 BK225.out, bc1 BK225.out⟩ (fun hHeld => ?_); refine with_tabW net_All.tab12 net_All.bits12 (fun HT_ HW_ => ?_)
  generalize w25.drew = w33 at BK225 HB hHeld ⊢
  refine take_ (i := 0) (N := some 44) (v := ?_) (a' := ?_) #[Y,Z,Z,Z,Z,Z,Z,Z,Z,Z,Z,Z] rfl rfl (take_ofW HT_.out HW_.out (by kernel_rfl)) (fun _ _ _ h => h) (Or.inl ⟨by rfl, ?_⟩) hHeld ?_ ?_
  rotate_left
  ·rintro w' ⟨s0, s1⟩
   go_simp
   with_reducible rfl
  rotate_left
  ·simp only [Act.put, sS, sZ, sC, i64_w, i32_w]
   rfl
  refine take_ (i := 1) (N := some 45) (v := ?_) (a' := ?_) #[Y,Y,Z,Z,Z,Z,Z,Z,Z,Z,Z,Z] rfl rfl (take_ofW HT_.out HW_.out (by kernel_rfl)) (fun _ _ _ h => h) (Or.inl ⟨by rfl, ?_⟩) hHeld ?_ ?_
  rotate_left
  ·rintro w' ⟨s0, s1⟩
   go_simp
   with_reducible rfl
  rotate_left
  ·simp only [Act.put, sS, sZ, sC, i64_w, i32_w]
   rfl
  refine take_ (i := 4) (N := some 48) (v := ?_) (a' := ?_) #[Y,Y,Z,Z,Y,Z,Z,Z,Z,Z,Z,Z] rfl rfl (take_ofW HT_.out HW_.out (by kernel_rfl)) (fun _ _ _ h => h) (Or.inl ⟨by rfl, ?_⟩) hHeld ?_ ?_
  rotate_left
  ·rintro w' ⟨s0, s1⟩
   go_simp
   with_reducible rfl
  rotate_left
  ·simp only [Act.put, sS, sZ, sC, i64_w, i32_w]
   rfl
  refine take_ (i := 5) (N := some 49) (v := ?_) (a' := ?_) #[Y,Y,Z,Z,Y,Y,Z,Z,Z,Z,Z,Z] rfl rfl (take_ofW HT_.out HW_.out (by kernel_rfl)) (fun _ _ _ h => h) (Or.inl ⟨by rfl, ?_⟩) hHeld ?_ ?_
  rotate_left
  ·rintro w' ⟨s0, s1⟩
   go_simp
   with_reducible rfl
  rotate_left
  ·simp only [Act.put, sS, sZ, sC, i64_w, i32_w]
   rfl
  refine join_ (σ := Value × Value × Nat × Nat) 2 #[Y,Y,Y,Y,Y,Y,Y,Y,Y,Y,Z,Z] (fun s_ => [(46, .int .i64 t238), (47, s_.1), (50, .int .i64 t242), (51, s_.2.1), (6, .pointer (some ⟨s_.2.2.1, 0, none⟩)), (7, .pointer (some ⟨s_.2.2.2, 0, none⟩))]) (fun s_ w' => (w'.cell? ⟨gb225, 0, none⟩ = some (.slice A0_0 l0_0.length c0_0) ∧ w'.cell? ⟨gb225, 1, none⟩ = some (.slice A0_1 l0_1.length c0_1)) ∧ (Kd.R Kd.bool 4 w' w.heap.size (fun k_ => some k_ ≠ (s_.2.1 : Value).ownBlock) s_.1 t239) ∧ (Kd.R Kd.bool 4 w' w.heap.size (fun k_ => some k_ ≠ (s_.1 : Value).ownBlock) s_.2.1 t243) ∧ (w'.heap[gb225]? = some (.cells #[.slice A0_0 l0_0.length c0_0, .slice A0_1 l0_1.length c0_1] 25 (0, 0))) ∧ (w'.heap[s_.2.2.1]? = some (.cells #[.slice none 0 0] 41 (0, 0))) ∧ (w'.heap[s_.2.2.2]? = some (.cells #[.slice none 0 0] 41 (0, 0))) ∧ (w.heap.size ≤ s_.2.2.1) ∧ (w.heap.size ≤ s_.2.2.1) ∧ (gb225 ≠ s_.2.2.1) ∧ (s_.2.2.1 ≠ gb225) ∧ (s_.2.2.2 ≠ s_.2.2.1) ∧ (s_.2.2.1 ≠ s_.2.2.2) ∧ (w.heap.size ≤ s_.2.2.2) ∧ (w.heap.size ≤ s_.2.2.2) ∧ (gb225 ≠ s_.2.2.2) ∧ (s_.2.2.2 ≠ gb225) ∧ (Below w.heap.size w w')) ?_ ?_
  rotate_left
  ·intro hJ2_3_6_7_8_9
   refine join_ (σ := Value × Value × Nat) 3 #[Y,Y,Y,Y,Y,Y,Y,Y,Y,Z,Z,Z] (fun s_ => [(46, .int .i64 t238), (47, s_.1), (50, .int .i64 t242), (51, s_.2.1), (6, .pointer (some ⟨s_.2.2, 0, none⟩))]) (fun s_ w' => (w'.cell? ⟨gb225, 0, none⟩ = some (.slice A0_0 l0_0.length c0_0) ∧ w'.cell? ⟨gb225, 1, none⟩ = some (.slice A0_1 l0_1.length c0_1)) ∧ (Kd.R Kd.bool 4 w' w.heap.size (fun k_ => some k_ ≠ (s_.2.1 : Value).ownBlock) s_.1 t239) ∧ (Kd.R Kd.bool 4 w' w.heap.size (fun k_ => some k_ ≠ (s_.1 : Value).ownBlock) s_.2.1 t243) ∧ (w'.heap[gb225]? = some (.cells #[.slice A0_0 l0_0.length c0_0, .slice A0_1 l0_1.length c0_1] 25 (0, 0))) ∧ (w'.heap[s_.2.2]? = some (.cells #[.slice none 0 0] 41 (0, 0))) ∧ (w.heap.size ≤ s_.2.2) ∧ (w.heap.size ≤ s_.2.2) ∧ (gb225 ≠ s_.2.2) ∧ (s_.2.2 ≠ gb225) ∧ (Below w.heap.size w w')) ?_ ?_
   rotate_left
   ·intro hJ2_3_6_7_8
    refine join_ (σ := Value × Value × Nat) 3 #[Y,Y,Y,Y,Y,Y,Y,Y,Z,Y,Z,Z] (fun s_ => [(46, .int .i64 t238), (47, s_.1), (50, .int .i64 t242), (51, s_.2.1), (7, .pointer (some ⟨s_.2.2, 0, none⟩))]) (fun s_ w' => (w'.cell? ⟨gb225, 0, none⟩ = some (.slice A0_0 l0_0.length c0_0) ∧ w'.cell? ⟨gb225, 1, none⟩ = some (.slice A0_1 l0_1.length c0_1)) ∧ (Kd.R Kd.bool 4 w' w.heap.size (fun k_ => some k_ ≠ (s_.2.1 : Value).ownBlock) s_.1 t239) ∧ (Kd.R Kd.bool 4 w' w.heap.size (fun k_ => some k_ ≠ (s_.1 : Value).ownBlock) s_.2.1 t243) ∧ (w'.heap[gb225]? = some (.cells #[.slice A0_0 l0_0.length c0_0, .slice A0_1 l0_1.length c0_1] 25 (0, 0))) ∧ (w'.heap[s_.2.2]? = some (.cells #[.slice none 0 0] 41 (0, 0))) ∧ (w.heap.size ≤ s_.2.2) ∧ (w.heap.size ≤ s_.2.2) ∧ (gb225 ≠ s_.2.2) ∧ (s_.2.2 ≠ gb225) ∧ (Below w.heap.size w w')) ?_ ?_
    rotate_left
    ·intro hJ2_3_6_7_9
     refine join_ (σ := Value × Nat × Nat) 3 #[Y,Y,Y,Y,Y,Y,Y,Z,Y,Y,Z,Z] (fun s_ => [(46, .int .i64 t238), (47, s_.1), (50, .int .i64 t242), (6, .pointer (some ⟨s_.2.1, 0, none⟩)), (7, .pointer (some ⟨s_.2.2, 0, none⟩))]) (fun s_ w' => (w'.cell? ⟨gb225, 0, none⟩ = some (.slice A0_0 l0_0.length c0_0) ∧ w'.cell? ⟨gb225, 1, none⟩ = some (.slice A0_1 l0_1.length c0_1)) ∧ (Kd.R Kd.bool 4 w' w.heap.size (fun _ => True) s_.1 t239) ∧ (w'.heap[gb225]? = some (.cells #[.slice A0_0 l0_0.length c0_0, .slice A0_1 l0_1.length c0_1] 25 (0, 0))) ∧ (w'.heap[s_.2.1]? = some (.cells #[.slice none 0 0] 41 (0, 0))) ∧ (w'.heap[s_.2.2]? = some (.cells #[.slice none 0 0] 41 (0, 0))) ∧ (w.heap.size ≤ s_.2.1) ∧ (w.heap.size ≤ s_.2.1) ∧ (gb225 ≠ s_.2.1) ∧ (s_.2.1 ≠ gb225) ∧ (s_.2.2 ≠ s_.2.1) ∧ (s_.2.1 ≠ s_.2.2) ∧ (w.heap.size ≤ s_.2.2) ∧ (w.heap.size ≤ s_.2.2) ∧ (gb225 ≠ s_.2.2) ∧ (s_.2.2 ≠ gb225) ∧ (Below w.heap.size w w')) ?_ ?_
     rotate_left
     ·intro hJ2_3_6_8_9
      refine join_ (σ := Value × Value) 4 #[Y,Y,Y,Y,Y,Y,Y,Y,Z,Z,Z,Z] (fun s_ => [(46, .int .i64 t238), (47, s_.1), (50, .int .i64 t242), (51, s_.2)]) (fun s_ w' => (w'.cell? ⟨gb225, 0, none⟩ = some (.slice A0_0 l0_0.length c0_0) ∧ w'.cell? ⟨gb225, 1, none⟩ = some (.slice A0_1 l0_1.length c0_1)) ∧ (Kd.R Kd.bool 4 w' w.heap.size (fun k_ => some k_ ≠ (s_.2 : Value).ownBlock) s_.1 t239) ∧ (Kd.R Kd.bool 4 w' w.heap.size (fun k_ => some k_ ≠ (s_.1 : Value).ownBlock) s_.2 t243) ∧ (w'.heap[gb225]? = some (.cells #[.slice A0_0 l0_0.length c0_0, .slice A0_1 l0_1.length c0_1] 25 (0, 0))) ∧ (Below w.heap.size w w')) ?_ ?_
      rotate_left
      ·intro hJ2_3_6_7
       refine join_ (σ := Value × Nat) 4 #[Y,Y,Y,Y,Y,Y,Y,Z,Y,Z,Z,Z] (fun s_ => [(46, .int .i64 t238), (47, s_.1), (50, .int .i64 t242), (6, .pointer (some ⟨s_.2, 0, none⟩))]) (fun s_ w' => (w'.cell? ⟨gb225, 0, none⟩ = some (.slice A0_0 l0_0.length c0_0) ∧ w'.cell? ⟨gb225, 1, none⟩ = some (.slice A0_1 l0_1.length c0_1)) ∧ (Kd.R Kd.bool 4 w' w.heap.size (fun _ => True) s_.1 t239) ∧ (w'.heap[gb225]? = some (.cells #[.slice A0_0 l0_0.length c0_0, .slice A0_1 l0_1.length c0_1] 25 (0, 0))) ∧ (w'.heap[s_.2]? = some (.cells #[.slice none 0 0] 41 (0, 0))) ∧ (w.heap.size ≤ s_.2) ∧ (w.heap.size ≤ s_.2) ∧ (gb225 ≠ s_.2) ∧ (s_.2 ≠ gb225) ∧ (Below w.heap.size w w')) ?_ ?_
       rotate_left
       ·intro hJ2_3_6_8
        refine join_ (σ := Value × Nat) 4 #[Y,Y,Y,Y,Y,Y,Y,Z,Z,Y,Z,Z] (fun s_ => [(46, .int .i64 t238), (47, s_.1), (50, .int .i64 t242), (7, .pointer (some ⟨s_.2, 0, none⟩))]) (fun s_ w' => (w'.cell? ⟨gb225, 0, none⟩ = some (.slice A0_0 l0_0.length c0_0) ∧ w'.cell? ⟨gb225, 1, none⟩ = some (.slice A0_1 l0_1.length c0_1)) ∧ (Kd.R Kd.bool 4 w' w.heap.size (fun _ => True) s_.1 t239) ∧ (w'.heap[gb225]? = some (.cells #[.slice A0_0 l0_0.length c0_0, .slice A0_1 l0_1.length c0_1] 25 (0, 0))) ∧ (w'.heap[s_.2]? = some (.cells #[.slice none 0 0] 41 (0, 0))) ∧ (w.heap.size ≤ s_.2) ∧ (w.heap.size ≤ s_.2) ∧ (gb225 ≠ s_.2) ∧ (s_.2 ≠ gb225) ∧ (Below w.heap.size w w')) ?_ ?_
        rotate_left
        ·intro hJ2_3_6_9
         refine join_ (σ := Value × Nat × Nat) 4 #[Y,Y,Y,Y,Y,Y,Z,Z,Y,Y,Z,Z] (fun s_ => [(46, .int .i64 t238), (47, s_.1), (6, .pointer (some ⟨s_.2.1, 0, none⟩)), (7, .pointer (some ⟨s_.2.2, 0, none⟩))]) (fun s_ w' => (w'.cell? ⟨gb225, 0, none⟩ = some (.slice A0_0 l0_0.length c0_0) ∧ w'.cell? ⟨gb225, 1, none⟩ = some (.slice A0_1 l0_1.length c0_1)) ∧ (Kd.R Kd.bool 4 w' w.heap.size (fun _ => True) s_.1 t239) ∧ (w'.heap[gb225]? = some (.cells #[.slice A0_0 l0_0.length c0_0, .slice A0_1 l0_1.length c0_1] 25 (0, 0))) ∧ (w'.heap[s_.2.1]? = some (.cells #[.slice none 0 0] 41 (0, 0))) ∧ (w'.heap[s_.2.2]? = some (.cells #[.slice none 0 0] 41 (0, 0))) ∧ (w.heap.size ≤ s_.2.1) ∧ (w.heap.size ≤ s_.2.1) ∧ (gb225 ≠ s_.2.1) ∧ (s_.2.1 ≠ gb225) ∧ (s_.2.2 ≠ s_.2.1) ∧ (s_.2.1 ≠ s_.2.2) ∧ (w.heap.size ≤ s_.2.2) ∧ (w.heap.size ≤ s_.2.2) ∧ (gb225 ≠ s_.2.2) ∧ (s_.2.2 ≠ gb225) ∧ (Below w.heap.size w w')) ?_ ?_
         rotate_left
         ·intro hJ2_3_8_9
          refine join_ (σ := Value) 5 #[Y,Y,Y,Y,Y,Y,Y,Z,Z,Z,Z,Z] (fun s_ => [(46, .int .i64 t238), (47, s_), (50, .int .i64 t242)]) (fun s_ w' => (w'.cell? ⟨gb225, 0, none⟩ = some (.slice A0_0 l0_0.length c0_0) ∧ w'.cell? ⟨gb225, 1, none⟩ = some (.slice A0_1 l0_1.length c0_1)) ∧ (Kd.R Kd.bool 4 w' w.heap.size (fun _ => True) s_ t239) ∧ (w'.heap[gb225]? = some (.cells #[.slice A0_0 l0_0.length c0_0, .slice A0_1 l0_1.length c0_1] 25 (0, 0))) ∧ (Below w.heap.size w w')) ?_ ?_
          rotate_left
          ·intro hJ2_3_6
           refine join_ (σ := Value × Nat) 5 #[Y,Y,Y,Y,Y,Y,Z,Z,Y,Z,Z,Z] (fun s_ => [(46, .int .i64 t238), (47, s_.1), (6, .pointer (some ⟨s_.2, 0, none⟩))]) (fun s_ w' => (w'.cell? ⟨gb225, 0, none⟩ = some (.slice A0_0 l0_0.length c0_0) ∧ w'.cell? ⟨gb225, 1, none⟩ = some (.slice A0_1 l0_1.length c0_1)) ∧ (Kd.R Kd.bool 4 w' w.heap.size (fun _ => True) s_.1 t239) ∧ (w'.heap[gb225]? = some (.cells #[.slice A0_0 l0_0.length c0_0, .slice A0_1 l0_1.length c0_1] 25 (0, 0))) ∧ (w'.heap[s_.2]? = some (.cells #[.slice none 0 0] 41 (0, 0))) ∧ (w.heap.size ≤ s_.2) ∧ (w.heap.size ≤ s_.2) ∧ (gb225 ≠ s_.2) ∧ (s_.2 ≠ gb225) ∧ (Below w.heap.size w w')) ?_ ?_
           rotate_left
           ·intro hJ2_3_8
            refine join_ (σ := Value × Nat) 5 #[Y,Y,Y,Y,Y,Y,Z,Z,Z,Y,Z,Z] (fun s_ => [(46, .int .i64 t238), (47, s_.1), (7, .pointer (some ⟨s_.2, 0, none⟩))]) (fun s_ w' => (w'.cell? ⟨gb225, 0, none⟩ = some (.slice A0_0 l0_0.length c0_0) ∧ w'.cell? ⟨gb225, 1, none⟩ = some (.slice A0_1 l0_1.length c0_1)) ∧ (Kd.R Kd.bool 4 w' w.heap.size (fun _ => True) s_.1 t239) ∧ (w'.heap[gb225]? = some (.cells #[.slice A0_0 l0_0.length c0_0, .slice A0_1 l0_1.length c0_1] 25 (0, 0))) ∧ (w'.heap[s_.2]? = some (.cells #[.slice none 0 0] 41 (0, 0))) ∧ (w.heap.size ≤ s_.2) ∧ (w.heap.size ≤ s_.2) ∧ (gb225 ≠ s_.2) ∧ (s_.2 ≠ gb225) ∧ (Below w.heap.size w w')) ?_ ?_
            rotate_left
            ·intro hJ2_3_9
             refine join_ (σ := Nat × Nat) 5 #[Y,Y,Y,Z,Y,Y,Z,Z,Y,Y,Z,Z] (fun s_ => [(46, .int .i64 t238), (6, .pointer (some ⟨s_.1, 0, none⟩)), (7, .pointer (some ⟨s_.2, 0, none⟩))]) (fun s_ w' => (w'.cell? ⟨gb225, 0, none⟩ = some (.slice A0_0 l0_0.length c0_0) ∧ w'.cell? ⟨gb225, 1, none⟩ = some (.slice A0_1 l0_1.length c0_1)) ∧ (w'.heap[gb225]? = some (.cells #[.slice A0_0 l0_0.length c0_0, .slice A0_1 l0_1.length c0_1] 25 (0, 0))) ∧ (w'.heap[s_.1]? = some (.cells #[.slice none 0 0] 41 (0, 0))) ∧ (w'.heap[s_.2]? = some (.cells #[.slice none 0 0] 41 (0, 0))) ∧ (w.heap.size ≤ s_.1) ∧ (w.heap.size ≤ s_.1) ∧ (gb225 ≠ s_.1) ∧ (s_.1 ≠ gb225) ∧ (s_.2 ≠ s_.1) ∧ (s_.1 ≠ s_.2) ∧ (w.heap.size ≤ s_.2) ∧ (w.heap.size ≤ s_.2) ∧ (gb225 ≠ s_.2) ∧ (s_.2 ≠ gb225) ∧ (Below w.heap.size w w')) ?_ ?_
             rotate_left
             ·intro hJ2_8_9
              refine join_ (σ := Value) 6 #[Y,Y,Y,Y,Y,Y,Z,Z,Z,Z,Z,Z] (fun s_ => [(46, .int .i64 t238), (47, s_)]) (fun s_ w' => (w'.cell? ⟨gb225, 0, none⟩ = some (.slice A0_0 l0_0.length c0_0) ∧ w'.cell? ⟨gb225, 1, none⟩ = some (.slice A0_1 l0_1.length c0_1)) ∧ (Kd.R Kd.bool 4 w' w.heap.size (fun _ => True) s_ t239) ∧ (w'.heap[gb225]? = some (.cells #[.slice A0_0 l0_0.length c0_0, .slice A0_1 l0_1.length c0_1] 25 (0, 0))) ∧ (Below w.heap.size w w')) ?_ ?_
              rotate_left
              ·intro hJ2_3
               refine join_ (σ := Nat) 6 #[Y,Y,Y,Z,Y,Y,Z,Z,Y,Z,Z,Z] (fun s_ => [(46, .int .i64 t238), (6, .pointer (some ⟨s_, 0, none⟩))]) (fun s_ w' => (w'.cell? ⟨gb225, 0, none⟩ = some (.slice A0_0 l0_0.length c0_0) ∧ w'.cell? ⟨gb225, 1, none⟩ = some (.slice A0_1 l0_1.length c0_1)) ∧ (w'.heap[gb225]? = some (.cells #[.slice A0_0 l0_0.length c0_0, .slice A0_1 l0_1.length c0_1] 25 (0, 0))) ∧ (w'.heap[s_]? = some (.cells #[.slice none 0 0] 41 (0, 0))) ∧ (w.heap.size ≤ s_) ∧ (w.heap.size ≤ s_) ∧ (gb225 ≠ s_) ∧ (s_ ≠ gb225) ∧ (Below w.heap.size w w')) ?_ ?_
               rotate_left
               ·intro hJ2_8
                refine join_ (σ := Nat) 6 #[Y,Y,Y,Z,Y,Y,Z,Z,Z,Y,Z,Z] (fun s_ => [(46, .int .i64 t238), (7, .pointer (some ⟨s_, 0, none⟩))]) (fun s_ w' => (w'.cell? ⟨gb225, 0, none⟩ = some (.slice A0_0 l0_0.length c0_0) ∧ w'.cell? ⟨gb225, 1, none⟩ = some (.slice A0_1 l0_1.length c0_1)) ∧ (w'.heap[gb225]? = some (.cells #[.slice A0_0 l0_0.length c0_0, .slice A0_1 l0_1.length c0_1] 25 (0, 0))) ∧ (w'.heap[s_]? = some (.cells #[.slice none 0 0] 41 (0, 0))) ∧ (w.heap.size ≤ s_) ∧ (w.heap.size ≤ s_) ∧ (gb225 ≠ s_) ∧ (s_ ≠ gb225) ∧ (Below w.heap.size w w')) ?_ ?_
                rotate_left
                ·intro hJ2_9
                 refine join_ (σ := Nat × Nat) 6 #[Y,Y,Z,Z,Y,Y,Z,Z,Y,Y,Z,Z] (fun s_ => [(6, .pointer (some ⟨s_.1, 0, none⟩)), (7, .pointer (some ⟨s_.2, 0, none⟩))]) (fun s_ w' => (w'.cell? ⟨gb225, 0, none⟩ = some (.slice A0_0 l0_0.length c0_0) ∧ w'.cell? ⟨gb225, 1, none⟩ = some (.slice A0_1 l0_1.length c0_1)) ∧ (w'.heap[gb225]? = some (.cells #[.slice A0_0 l0_0.length c0_0, .slice A0_1 l0_1.length c0_1] 25 (0, 0))) ∧ (w'.heap[s_.1]? = some (.cells #[.slice none 0 0] 41 (0, 0))) ∧ (w'.heap[s_.2]? = some (.cells #[.slice none 0 0] 41 (0, 0))) ∧ (w.heap.size ≤ s_.1) ∧ (w.heap.size ≤ s_.1) ∧ (gb225 ≠ s_.1) ∧ (s_.1 ≠ gb225) ∧ (s_.2 ≠ s_.1) ∧ (s_.1 ≠ s_.2) ∧ (w.heap.size ≤ s_.2) ∧ (w.heap.size ≤ s_.2) ∧ (gb225 ≠ s_.2) ∧ (s_.2 ≠ gb225) ∧ (Below w.heap.size w w')) ?_ ?_
                 rotate_left
                 ·intro hJ8_9
                  refine join_ (σ := Unit) 7 #[Y,Y,Y,Z,Y,Y,Z,Z,Z,Z,Z,Z] (fun s_ => [(46, .int .i64 t238)]) (fun s_ w' => (w'.cell? ⟨gb225, 0, none⟩ = some (.slice A0_0 l0_0.length c0_0) ∧ w'.cell? ⟨gb225, 1, none⟩ = some (.slice A0_1 l0_1.length c0_1)) ∧ (w'.heap[gb225]? = some (.cells #[.slice A0_0 l0_0.length c0_0, .slice A0_1 l0_1.length c0_1] 25 (0, 0))) ∧ (Below w.heap.size w w')) ?_ ?_
                  rotate_left
                  ·intro hJ2
                   refine join_ (σ := Nat) 7 #[Y,Y,Z,Z,Y,Y,Z,Z,Y,Z,Z,Z] (fun s_ => [(6, .pointer (some ⟨s_, 0, none⟩))]) (fun s_ w' => (w'.cell? ⟨gb225, 0, none⟩ = some (.slice A0_0 l0_0.length c0_0) ∧ w'.cell? ⟨gb225, 1, none⟩ = some (.slice A0_1 l0_1.length c0_1)) ∧ (w'.heap[gb225]? = some (.cells #[.slice A0_0 l0_0.length c0_0, .slice A0_1 l0_1.length c0_1] 25 (0, 0))) ∧ (w'.heap[s_]? = some (.cells #[.slice none 0 0] 41 (0, 0))) ∧ (w.heap.size ≤ s_) ∧ (w.heap.size ≤ s_) ∧ (gb225 ≠ s_) ∧ (s_ ≠ gb225) ∧ (Below w.heap.size w w')) ?_ ?_
                   rotate_left
                   ·intro hJ8
                    refine join_ (σ := Nat) 7 #[Y,Y,Z,Z,Y,Y,Z,Z,Z,Y,Z,Z] (fun s_ => [(7, .pointer (some ⟨s_, 0, none⟩))]) (fun s_ w' => (w'.cell? ⟨gb225, 0, none⟩ = some (.slice A0_0 l0_0.length c0_0) ∧ w'.cell? ⟨gb225, 1, none⟩ = some (.slice A0_1 l0_1.length c0_1)) ∧ (w'.heap[gb225]? = some (.cells #[.slice A0_0 l0_0.length c0_0, .slice A0_1 l0_1.length c0_1] 25 (0, 0))) ∧ (w'.heap[s_]? = some (.cells #[.slice none 0 0] 41 (0, 0))) ∧ (w.heap.size ≤ s_) ∧ (w.heap.size ≤ s_) ∧ (gb225 ≠ s_) ∧ (s_ ≠ gb225) ∧ (Below w.heap.size w w')) ?_ ?_
                    rotate_left
                    ·intro hJ9
                     refine three_ (i := 2) (j := 8) (k := 9) (Ni := some 46) (Nj := some 6) (Nk := some 7) #[Y,Y,Y,Z,Y,Y,Z,Z,Z,Z,Z,Z] #[Y,Y,Z,Z,Y,Y,Z,Z,Y,Z,Z,Z] #[Y,Y,Z,Z,Y,Y,Z,Z,Z,Y,Z,Z] rfl rfl rfl rfl rfl rfl (three_of HT_.out (by kernel_rfl)) (by decide) (by decide) (by decide) (fun K hK => ?_) (fun K hK => ?_) (fun K hK => ?_)
                     ·skip
                      refine goes_ Tryd.func15 (by kernel_rfl) rfl #[.agg #[.slice A0_0 l0_0.length c0_0, .slice A0_1 l0_1.length c0_1]] (by rfl) rfl rfl ag ?_
                      with_reducible refine (net_Start.calls kj1 _ _ l0_0 _ _ l0_1 t238 _ ?side1 ?side2 ?side3 ?side4 A28.out).mono ?_
                      (case side1 => exact cx (Kd.C_below HR0_0.out HB.out))
                      (case side2 => exact HC0_0.out)
                      (case side3 => exact cx (Kd.C_below HR0_1.out HB.out))
                      (case side4 => exact HC0_1.out)
                      rintro e w34 ⟨rfl, hb⟩
                      refine ⟨_, rfl, ?_⟩
                      replace BK225 := zm (kB (kx BK225.out) hb)
                      replace HB := zm (below_step (bx HB.out) hb)
                      (try clear hb)
                      (try clear hb2)
                      (try clear hk)
                      (try clear hi)
                      refine hK.out _ _ ⟨bc0 BK225.out, bc1 BK225.out⟩ (fun hHeld => ?_)
                      clear hK K
                      refine norm_ (a' := ?_) ?_ ?_
                      rotate_left
                      ·show Act.put _ (some 46) _ = _
                       simp only [Act.put, sS, sZ, sC, i64_w, i32_w]
                       rfl
                      exact norm_ (by simp only [putAll, Act.put, sS, sZ, sC] <;> rfl) (hJ2 () _ ⟨hHeld, (kx BK225.out), (bx HB.out)⟩)
                     ·skip
                      refine box_step ?hg (N := 6) ?hd (cs := #[.slice none 0 0]) (t := 41) ?hr ?_; (case hd => rfl); (case hg => rfl); (case hr => first | (go_simp; done) | (go_simp; rfl))
                      intro gb246 hg w34 hbox hb
                      have BK246 := zm (hbox)
                      have GW246 := zm ((by rw [hg]; exact (below_size (bx HB.out)) : w.heap.size ≤ gb246))
                      have GE246 := zm ((by rw [hg]; exact (below_size (bx HB.out)) : w.heap.size ≤ gb246))
                      replace HB := zm (below_step (bx HB.out) hb)
                      have NB225_246 := zm ((by rw [hg]; exact Nat.ne_of_lt (blk_lt (g := gb225) (o := .cells #[.slice A0_0 l0_0.length c0_0, .slice A0_1 l0_1.length c0_1] 25 (0, 0)) (kx BK225.out)) : gb225 ≠ gb246))
                      have NB246_225 := zm ((by rw [hg]; exact Nat.ne_of_gt (blk_lt (g := gb225) (o := .cells #[.slice A0_0 l0_0.length c0_0, .slice A0_1 l0_1.length c0_1] 25 (0, 0)) (kx BK225.out)) : gb246 ≠ gb225))
                      replace BK225 := zm (kB (kx BK225.out) hb)
                      clear hb hbox hg
                      refine hK.out _ _ ⟨bc0 BK225.out, bc1 BK225.out⟩ (fun hHeld => ?_)
                      clear hK K
                      refine norm_ (a' := ?_) ?_ ?_
                      rotate_left
                      ·show Act.put _ (some 6) _ = _
                       simp only [Act.put, sS, sZ, sC, i64_w, i32_w]
                       rfl
                      exact norm_ (by simp only [putAll, Act.put, sS, sZ, sC] <;> rfl) (hJ8 (gb246) _ ⟨hHeld, (kx BK225.out), (kx BK246.out), GW246.out, GE246.out, NB225_246.out, NB246_225.out, (bx HB.out)⟩)
                     skip
                     refine box_step ?hg (N := 7) ?hd (cs := #[.slice none 0 0]) (t := 41) ?hr ?_; (case hd => rfl); (case hg => rfl); (case hr => first | (go_simp; done) | (go_simp; rfl))
                     intro gb247 hg w34 hbox hb
                     have BK247 := zm (hbox)
                     have GW247 := zm ((by rw [hg]; exact (below_size (bx HB.out)) : w.heap.size ≤ gb247))
                     have GE247 := zm ((by rw [hg]; exact (below_size (bx HB.out)) : w.heap.size ≤ gb247))
                     replace HB := zm (below_step (bx HB.out) hb)
                     have NB225_247 := zm ((by rw [hg]; exact Nat.ne_of_lt (blk_lt (g := gb225) (o := .cells #[.slice A0_0 l0_0.length c0_0, .slice A0_1 l0_1.length c0_1] 25 (0, 0)) (kx BK225.out)) : gb225 ≠ gb247))
                     have NB247_225 := zm ((by rw [hg]; exact Nat.ne_of_gt (blk_lt (g := gb225) (o := .cells #[.slice A0_0 l0_0.length c0_0, .slice A0_1 l0_1.length c0_1] 25 (0, 0)) (kx BK225.out)) : gb247 ≠ gb225))
                     replace BK225 := zm (kB (kx BK225.out) hb)
                     clear hb hbox hg
                     refine hK.out _ _ ⟨bc0 BK225.out, bc1 BK225.out⟩ (fun hHeld => ?_)
                     clear hK K
                     refine norm_ (a' := ?_) ?_ ?_
                     rotate_left
                     ·show Act.put _ (some 7) _ = _
                      simp only [Act.put, sS, sZ, sC, i64_w, i32_w]
                      rfl
                     exact norm_ (by simp only [putAll, Act.put, sS, sZ, sC] <;> rfl) (hJ9 (gb247) _ ⟨hHeld, (kx BK225.out), (kx BK247.out), GW247.out, GE247.out, NB225_247.out, NB247_225.out, (bx HB.out)⟩)
                    skip
                    rintro gb247 w35 ⟨hS_, h0_, h1_, h2_, h3_, h4_, h5_, h6_⟩
                    replace BK225 : Aside0 (w35.heap[gb225]? = some (.cells #[.slice A0_0 l0_0.length c0_0, .slice A0_1 l0_1.length c0_1] 25 (0, 0))) := ⟨h0_⟩
                    have BK247 : Aside0 (w35.heap[gb247]? = some (.cells #[.slice none 0 0] 41 (0, 0))) := ⟨h1_⟩
                    have GW247 : Aside0 (w.heap.size ≤ gb247) := ⟨h2_⟩
                    have GE247 : Aside0 (w.heap.size ≤ gb247) := ⟨h3_⟩
                    have NB225_247 : Aside0 (gb225 ≠ gb247) := ⟨h4_⟩
                    have NB247_225 : Aside0 (gb247 ≠ gb225) := ⟨h5_⟩
                    replace HB : Aside0 (Below w.heap.size w w35) := ⟨h6_⟩
                    clear h0_ h1_ h2_ h3_ h4_ h5_ h6_
                    have hHeld : w35.cell? ⟨gb225, 0, none⟩ = some (.slice A0_0 l0_0.length c0_0) ∧ w35.cell? ⟨gb225, 1, none⟩ = some (.slice A0_1 l0_1.length c0_1) := hS_
                    refine norm_ (a' := ?_) ?_ ?_
                    rotate_left
                    ·simp only [putAll, Act.put, sS, sZ, sC]
                     rfl
                    refine two_ (i := 2) (j := 8) (Ni := some 46) (Nj := some 6) #[Y,Y,Y,Z,Y,Y,Z,Z,Z,Y,Z,Z] #[Y,Y,Z,Z,Y,Y,Z,Z,Y,Y,Z,Z] rfl rfl rfl rfl (two_of HT_.out (by kernel_rfl)) (by decide) (by decide) (fun K hK => ?_) (fun K hK => ?_)
                    ·skip
                     refine goes_ Tryd.func15 (by kernel_rfl) rfl #[.agg #[.slice A0_0 l0_0.length c0_0, .slice A0_1 l0_1.length c0_1]] (by rfl) rfl rfl ag ?_
                     with_reducible refine (net_Start.calls kj1 _ _ l0_0 _ _ l0_1 t238 _ ?side1 ?side2 ?side3 ?side4 A28.out).mono ?_
                     (case side1 => exact cx (Kd.C_below HR0_0.out HB.out))
                     (case side2 => exact HC0_0.out)
                     (case side3 => exact cx (Kd.C_below HR0_1.out HB.out))
                     (case side4 => exact HC0_1.out)
                     rintro e w36 ⟨rfl, hb⟩
                     refine ⟨_, rfl, ?_⟩
                     replace BK225 := zm (kB (kx BK225.out) hb)
                     replace BK247 := zm (kB (kx BK247.out) hb)
                     replace HB := zm (below_step (bx HB.out) hb)
                     (try clear hb)
                     (try clear hb2)
                     (try clear hk)
                     (try clear hi)
                     refine hK.out _ _ ⟨bc0 BK225.out, bc1 BK225.out⟩ (fun hHeld => ?_)
                     clear hK K
                     refine norm_ (a' := ?_) ?_ ?_
                     rotate_left
                     ·show Act.put _ (some 46) _ = _
                      simp only [Act.put, sS, sZ, sC, i64_w, i32_w]
                      rfl
                     exact norm_ (by simp only [putAll, Act.put, sS, sZ, sC] <;> rfl) (hJ2_9 (gb247) _ ⟨hHeld, (kx BK225.out), (kx BK247.out), GW247.out, GE247.out, NB225_247.out, NB247_225.out, (bx HB.out)⟩)
                    skip
                    refine box_step ?hg (N := 6) ?hd (cs := #[.slice none 0 0]) (t := 41) ?hr ?_; (case hd => rfl); (case hg => rfl); (case hr => first | (go_simp; done) | (go_simp; rfl))
                    intro gb246 hg w36 hbox hb
                    have BK246 := zm (hbox)
                    have GW246 := zm ((by rw [hg]; exact (below_size (bx HB.out)) : w.heap.size ≤ gb246))
                    have GE246 := zm ((by rw [hg]; exact (below_size (bx HB.out)) : w.heap.size ≤ gb246))
                    replace HB := zm (below_step (bx HB.out) hb)
                    have NB225_246 := zm ((by rw [hg]; exact Nat.ne_of_lt (blk_lt (g := gb225) (o := .cells #[.slice A0_0 l0_0.length c0_0, .slice A0_1 l0_1.length c0_1] 25 (0, 0)) (kx BK225.out)) : gb225 ≠ gb246))
                    have NB246_225 := zm ((by rw [hg]; exact Nat.ne_of_gt (blk_lt (g := gb225) (o := .cells #[.slice A0_0 l0_0.length c0_0, .slice A0_1 l0_1.length c0_1] 25 (0, 0)) (kx BK225.out)) : gb246 ≠ gb225))
                    replace BK225 := zm (kB (kx BK225.out) hb)
                    have NB247_246 := zm ((by rw [hg]; exact Nat.ne_of_lt (blk_lt (g := gb247) (o := .cells #[.slice none 0 0] 41 (0, 0)) (kx BK247.out)) : gb247 ≠ gb246))
                    have NB246_247 := zm ((by rw [hg]; exact Nat.ne_of_gt (blk_lt (g := gb247) (o := .cells #[.slice none 0 0] 41 (0, 0)) (kx BK247.out)) : gb246 ≠ gb247))
                    replace BK247 := zm (kB (kx BK247.out) hb)
                    clear hb hbox hg
                    refine hK.out _ _ ⟨bc0 BK225.out, bc1 BK225.out⟩ (fun hHeld => ?_)
                    clear hK K
                    refine norm_ (a' := ?_) ?_ ?_
                    rotate_left
                    ·show Act.put _ (some 6) _ = _
                     simp only [Act.put, sS, sZ, sC, i64_w, i32_w]
                     rfl
                    exact norm_ (by simp only [putAll, Act.put, sS, sZ, sC] <;> rfl) (hJ8_9 (gb246, gb247) _ ⟨hHeld, (kx BK225.out), (kx BK246.out), (kx BK247.out), GW246.out, GE246.out, NB225_246.out, NB246_225.out, NB247_246.out, NB246_247.out, GW247.out, GE247.out, NB225_247.out, NB247_225.out, (bx HB.out)⟩)
                   skip
                   rintro gb246 w35 ⟨hS_, h0_, h1_, h2_, h3_, h4_, h5_, h6_⟩
                   replace BK225 : Aside0 (w35.heap[gb225]? = some (.cells #[.slice A0_0 l0_0.length c0_0, .slice A0_1 l0_1.length c0_1] 25 (0, 0))) := ⟨h0_⟩
                   have BK246 : Aside0 (w35.heap[gb246]? = some (.cells #[.slice none 0 0] 41 (0, 0))) := ⟨h1_⟩
                   have GW246 : Aside0 (w.heap.size ≤ gb246) := ⟨h2_⟩
                   have GE246 : Aside0 (w.heap.size ≤ gb246) := ⟨h3_⟩
                   have NB225_246 : Aside0 (gb225 ≠ gb246) := ⟨h4_⟩
                   have NB246_225 : Aside0 (gb246 ≠ gb225) := ⟨h5_⟩
                   replace HB : Aside0 (Below w.heap.size w w35) := ⟨h6_⟩
                   clear h0_ h1_ h2_ h3_ h4_ h5_ h6_
                   have hHeld : w35.cell? ⟨gb225, 0, none⟩ = some (.slice A0_0 l0_0.length c0_0) ∧ w35.cell? ⟨gb225, 1, none⟩ = some (.slice A0_1 l0_1.length c0_1) := hS_
                   refine norm_ (a' := ?_) ?_ ?_
                   rotate_left
                   ·simp only [putAll, Act.put, sS, sZ, sC]
                    rfl
                   refine two_ (i := 2) (j := 9) (Ni := some 46) (Nj := some 7) #[Y,Y,Y,Z,Y,Y,Z,Z,Y,Z,Z,Z] #[Y,Y,Z,Z,Y,Y,Z,Z,Y,Y,Z,Z] rfl rfl rfl rfl (two_of HT_.out (by kernel_rfl)) (by decide) (by decide) (fun K hK => ?_) (fun K hK => ?_)
                   ·skip
                    refine goes_ Tryd.func15 (by kernel_rfl) rfl #[.agg #[.slice A0_0 l0_0.length c0_0, .slice A0_1 l0_1.length c0_1]] (by rfl) rfl rfl ag ?_
                    with_reducible refine (net_Start.calls kj1 _ _ l0_0 _ _ l0_1 t238 _ ?side1 ?side2 ?side3 ?side4 A28.out).mono ?_
                    (case side1 => exact cx (Kd.C_below HR0_0.out HB.out))
                    (case side2 => exact HC0_0.out)
                    (case side3 => exact cx (Kd.C_below HR0_1.out HB.out))
                    (case side4 => exact HC0_1.out)
                    rintro e w36 ⟨rfl, hb⟩
                    refine ⟨_, rfl, ?_⟩
                    replace BK225 := zm (kB (kx BK225.out) hb)
                    replace BK246 := zm (kB (kx BK246.out) hb)
                    replace HB := zm (below_step (bx HB.out) hb)
                    (try clear hb)
                    (try clear hb2)
                    (try clear hk)
                    (try clear hi)
                    refine hK.out _ _ ⟨bc0 BK225.out, bc1 BK225.out⟩ (fun hHeld => ?_)
                    clear hK K
                    refine norm_ (a' := ?_) ?_ ?_
                    rotate_left
                    ·show Act.put _ (some 46) _ = _
                     simp only [Act.put, sS, sZ, sC, i64_w, i32_w]
                     rfl
                    exact norm_ (by simp only [putAll, Act.put, sS, sZ, sC] <;> rfl) (hJ2_8 (gb246) _ ⟨hHeld, (kx BK225.out), (kx BK246.out), GW246.out, GE246.out, NB225_246.out, NB246_225.out, (bx HB.out)⟩)
                   skip
                   refine box_step ?hg (N := 7) ?hd (cs := #[.slice none 0 0]) (t := 41) ?hr ?_; (case hd => rfl); (case hg => rfl); (case hr => first | (go_simp; done) | (go_simp; rfl))
                   intro gb247 hg w36 hbox hb
                   have BK247 := zm (hbox)
                   have GW247 := zm ((by rw [hg]; exact (below_size (bx HB.out)) : w.heap.size ≤ gb247))
                   have GE247 := zm ((by rw [hg]; exact (below_size (bx HB.out)) : w.heap.size ≤ gb247))
                   replace HB := zm (below_step (bx HB.out) hb)
                   have NB225_247 := zm ((by rw [hg]; exact Nat.ne_of_lt (blk_lt (g := gb225) (o := .cells #[.slice A0_0 l0_0.length c0_0, .slice A0_1 l0_1.length c0_1] 25 (0, 0)) (kx BK225.out)) : gb225 ≠ gb247))
                   have NB247_225 := zm ((by rw [hg]; exact Nat.ne_of_gt (blk_lt (g := gb225) (o := .cells #[.slice A0_0 l0_0.length c0_0, .slice A0_1 l0_1.length c0_1] 25 (0, 0)) (kx BK225.out)) : gb247 ≠ gb225))
                   replace BK225 := zm (kB (kx BK225.out) hb)
                   have NB246_247 := zm ((by rw [hg]; exact Nat.ne_of_lt (blk_lt (g := gb246) (o := .cells #[.slice none 0 0] 41 (0, 0)) (kx BK246.out)) : gb246 ≠ gb247))
                   have NB247_246 := zm ((by rw [hg]; exact Nat.ne_of_gt (blk_lt (g := gb246) (o := .cells #[.slice none 0 0] 41 (0, 0)) (kx BK246.out)) : gb247 ≠ gb246))
                   replace BK246 := zm (kB (kx BK246.out) hb)
                   clear hb hbox hg
                   refine hK.out _ _ ⟨bc0 BK225.out, bc1 BK225.out⟩ (fun hHeld => ?_)
                   clear hK K
                   refine norm_ (a' := ?_) ?_ ?_
                   rotate_left
                   ·show Act.put _ (some 7) _ = _
                    simp only [Act.put, sS, sZ, sC, i64_w, i32_w]
                    rfl
                   exact norm_ (by simp only [putAll, Act.put, sS, sZ, sC] <;> rfl) (hJ8_9 (gb246, gb247) _ ⟨hHeld, (kx BK225.out), (kx BK246.out), (kx BK247.out), GW246.out, GE246.out, NB225_246.out, NB246_225.out, NB247_246.out, NB246_247.out, GW247.out, GE247.out, NB225_247.out, NB247_225.out, (bx HB.out)⟩)
                  skip
                  rintro _ w35 ⟨hS_, h0_, h1_⟩
                  replace BK225 : Aside0 (w35.heap[gb225]? = some (.cells #[.slice A0_0 l0_0.length c0_0, .slice A0_1 l0_1.length c0_1] 25 (0, 0))) := ⟨h0_⟩
                  replace HB : Aside0 (Below w.heap.size w w35) := ⟨h1_⟩
                  clear h0_ h1_
                  have hHeld : w35.cell? ⟨gb225, 0, none⟩ = some (.slice A0_0 l0_0.length c0_0) ∧ w35.cell? ⟨gb225, 1, none⟩ = some (.slice A0_1 l0_1.length c0_1) := hS_
                  refine norm_ (a' := ?_) ?_ ?_
                  rotate_left
                  ·simp only [putAll, Act.put, sS, sZ, sC]
                   rfl
                  refine three_ (i := 3) (j := 8) (k := 9) (Ni := some 47) (Nj := some 6) (Nk := some 7) #[Y,Y,Y,Y,Y,Y,Z,Z,Z,Z,Z,Z] #[Y,Y,Y,Z,Y,Y,Z,Z,Y,Z,Z,Z] #[Y,Y,Y,Z,Y,Y,Z,Z,Z,Y,Z,Z] rfl rfl rfl rfl rfl rfl (three_of HT_.out (by kernel_rfl)) (by decide) (by decide) (by decide) (fun K hK => ?_) (fun K hK => ?_) (fun K hK => ?_)
                  ·skip
                   refine goes_ Tryd.func43 (by kernel_rfl) rfl #[.agg #[.slice A0_0 l0_0.length c0_0, .slice A0_1 l0_1.length c0_1], .int .i64 t238, .bool false] (by rfl) rfl rfl ag ?_
                   with_reducible refine (net_met.calls kj1 _ _ l0_0 _ _ l0_1 t238 false t239 _ ?side1 ?side2 ?side3 ?side4 A29.out).mono ?_
                   (case side1 => exact cx (Kd.C_below HR0_0.out HB.out))
                   (case side2 => exact HC0_0.out)
                   (case side3 => exact cx (Kd.C_below HR0_1.out HB.out))
                   (case side4 => exact HC0_1.out)
                   rintro e w36 ⟨v240, rfl, ho0, hb⟩
                   refine ⟨_, rfl, ?_⟩
                   have HO241 := zm (Kd.R_lower ho0 (below_size (bx HB.out)))
                   replace BK225 := zm (kB (kx BK225.out) hb)
                   replace HB := zm (below_step (bx HB.out) hb)
                   (try clear hb)
                   (try clear hb2)
                   (try clear hk)
                   (try clear hi)
                   (try clear ho0)
                   refine hK.out _ _ ⟨bc0 BK225.out, bc1 BK225.out⟩ (fun hHeld => ?_)
                   clear hK K
                   refine norm_ (a' := ?_) ?_ ?_
                   rotate_left
                   ·show Act.put _ (some 47) _ = _
                    simp only [Act.put, sS, sZ, sC, i64_w, i32_w]
                    rfl
                   exact norm_ (by simp only [putAll, Act.put, sS, sZ, sC] <;> rfl) (hJ2_3 (v240) _ ⟨hHeld, (rx HO241.out), (kx BK225.out), (bx HB.out)⟩)
                  ·skip
                   refine box_step ?hg (N := 6) ?hd (cs := #[.slice none 0 0]) (t := 41) ?hr ?_; (case hd => rfl); (case hg => rfl); (case hr => first | (go_simp; done) | (go_simp; rfl))
                   intro gb246 hg w36 hbox hb
                   have BK246 := zm (hbox)
                   have GW246 := zm ((by rw [hg]; exact (below_size (bx HB.out)) : w.heap.size ≤ gb246))
                   have GE246 := zm ((by rw [hg]; exact (below_size (bx HB.out)) : w.heap.size ≤ gb246))
                   replace HB := zm (below_step (bx HB.out) hb)
                   have NB225_246 := zm ((by rw [hg]; exact Nat.ne_of_lt (blk_lt (g := gb225) (o := .cells #[.slice A0_0 l0_0.length c0_0, .slice A0_1 l0_1.length c0_1] 25 (0, 0)) (kx BK225.out)) : gb225 ≠ gb246))
                   have NB246_225 := zm ((by rw [hg]; exact Nat.ne_of_gt (blk_lt (g := gb225) (o := .cells #[.slice A0_0 l0_0.length c0_0, .slice A0_1 l0_1.length c0_1] 25 (0, 0)) (kx BK225.out)) : gb246 ≠ gb225))
                   replace BK225 := zm (kB (kx BK225.out) hb)
                   clear hb hbox hg
                   refine hK.out _ _ ⟨bc0 BK225.out, bc1 BK225.out⟩ (fun hHeld => ?_)
                   clear hK K
                   refine norm_ (a' := ?_) ?_ ?_
                   rotate_left
                   ·show Act.put _ (some 6) _ = _
                    simp only [Act.put, sS, sZ, sC, i64_w, i32_w]
                    rfl
                   exact norm_ (by simp only [putAll, Act.put, sS, sZ, sC] <;> rfl) (hJ2_8 (gb246) _ ⟨hHeld, (kx BK225.out), (kx BK246.out), GW246.out, GE246.out, NB225_246.out, NB246_225.out, (bx HB.out)⟩)
                  skip
                  refine box_step ?hg (N := 7) ?hd (cs := #[.slice none 0 0]) (t := 41) ?hr ?_; (case hd => rfl); (case hg => rfl); (case hr => first | (go_simp; done) | (go_simp; rfl))
                  intro gb247 hg w36 hbox hb
                  have BK247 := zm (hbox)
                  have GW247 := zm ((by rw [hg]; exact (below_size (bx HB.out)) : w.heap.size ≤ gb247))
                  have GE247 := zm ((by rw [hg]; exact (below_size (bx HB.out)) : w.heap.size ≤ gb247))
                  replace HB := zm (below_step (bx HB.out) hb)
                  have NB225_247 := zm ((by rw [hg]; exact Nat.ne_of_lt (blk_lt (g := gb225) (o := .cells #[.slice A0_0 l0_0.length c0_0, .slice A0_1 l0_1.length c0_1] 25 (0, 0)) (kx BK225.out)) : gb225 ≠ gb247))
                  have NB247_225 := zm ((by rw [hg]; exact Nat.ne_of_gt (blk_lt (g := gb225) (o := .cells #[.slice A0_0 l0_0.length c0_0, .slice A0_1 l0_1.length c0_1] 25 (0, 0)) (kx BK225.out)) : gb247 ≠ gb225))
                  replace BK225 := zm (kB (kx BK225.out) hb)
                  clear hb hbox hg
                  refine hK.out _ _ ⟨bc0 BK225.out, bc1 BK225.out⟩ (fun hHeld => ?_)
                  clear hK K
                  refine norm_ (a' := ?_) ?_ ?_
                  rotate_left
                  ·show Act.put _ (some 7) _ = _
                   simp only [Act.put, sS, sZ, sC, i64_w, i32_w]
                   rfl
                  exact norm_ (by simp only [putAll, Act.put, sS, sZ, sC] <;> rfl) (hJ2_9 (gb247) _ ⟨hHeld, (kx BK225.out), (kx BK247.out), GW247.out, GE247.out, NB225_247.out, NB247_225.out, (bx HB.out)⟩)
                 skip
                 rintro ⟨gb246, gb247⟩ w36 ⟨hS_, h0_, h1_, h2_, h3_, h4_, h5_, h6_, h7_, h8_, h9_, h10_, h11_, h12_, h13_⟩
                 replace BK225 : Aside0 (w36.heap[gb225]? = some (.cells #[.slice A0_0 l0_0.length c0_0, .slice A0_1 l0_1.length c0_1] 25 (0, 0))) := ⟨h0_⟩
                 have BK246 : Aside0 (w36.heap[gb246]? = some (.cells #[.slice none 0 0] 41 (0, 0))) := ⟨h1_⟩
                 have BK247 : Aside0 (w36.heap[gb247]? = some (.cells #[.slice none 0 0] 41 (0, 0))) := ⟨h2_⟩
                 have GW246 : Aside0 (w.heap.size ≤ gb246) := ⟨h3_⟩
                 have GE246 : Aside0 (w.heap.size ≤ gb246) := ⟨h4_⟩
                 have NB225_246 : Aside0 (gb225 ≠ gb246) := ⟨h5_⟩
                 have NB246_225 : Aside0 (gb246 ≠ gb225) := ⟨h6_⟩
                 have NB247_246 : Aside0 (gb247 ≠ gb246) := ⟨h7_⟩
                 have NB246_247 : Aside0 (gb246 ≠ gb247) := ⟨h8_⟩
                 have GW247 : Aside0 (w.heap.size ≤ gb247) := ⟨h9_⟩
                 have GE247 : Aside0 (w.heap.size ≤ gb247) := ⟨h10_⟩
                 have NB225_247 : Aside0 (gb225 ≠ gb247) := ⟨h11_⟩
                 have NB247_225 : Aside0 (gb247 ≠ gb225) := ⟨h12_⟩
                 replace HB : Aside0 (Below w.heap.size w w36) := ⟨h13_⟩
                 clear h0_ h1_ h2_ h3_ h4_ h5_ h6_ h7_ h8_ h9_ h10_ h11_ h12_ h13_
                 have hHeld : w36.cell? ⟨gb225, 0, none⟩ = some (.slice A0_0 l0_0.length c0_0) ∧ w36.cell? ⟨gb225, 1, none⟩ = some (.slice A0_1 l0_1.length c0_1) := hS_
                 refine norm_ (a' := ?_) ?_ ?_
                 rotate_left
                 ·simp only [putAll, Act.put, sS, sZ, sC]
                  rfl
                 refine one_ (i := 2) (N := some 46) #[Y,Y,Y,Z,Y,Y,Z,Z,Y,Y,Z,Z] rfl rfl (one_of HT_.out (by kernel_rfl)) (by decide) (fun K hK => ?_)
                 refine goes_ Tryd.func15 (by kernel_rfl) rfl #[.agg #[.slice A0_0 l0_0.length c0_0, .slice A0_1 l0_1.length c0_1]] (by rfl) rfl rfl ag ?_
                 with_reducible refine (net_Start.calls kj1 _ _ l0_0 _ _ l0_1 t238 _ ?side1 ?side2 ?side3 ?side4 A28.out).mono ?_
                 (case side1 => exact cx (Kd.C_below HR0_0.out HB.out))
                 (case side2 => exact HC0_0.out)
                 (case side3 => exact cx (Kd.C_below HR0_1.out HB.out))
                 (case side4 => exact HC0_1.out)
                 rintro e w37 ⟨rfl, hb⟩
                 refine ⟨_, rfl, ?_⟩
                 replace BK225 := zm (kB (kx BK225.out) hb)
                 replace BK246 := zm (kB (kx BK246.out) hb)
                 replace BK247 := zm (kB (kx BK247.out) hb)
                 replace HB := zm (below_step (bx HB.out) hb)
                 (try clear hb)
                 (try clear hb2)
                 (try clear hk)
                 (try clear hi)
                 refine hK.out _ _ ⟨bc0 BK225.out, bc1 BK225.out⟩ (fun hHeld => ?_)
                 clear hK K
                 refine norm_ (a' := ?_) ?_ ?_
                 rotate_left
                 ·show Act.put _ (some 46) _ = _
                  simp only [Act.put, sS, sZ, sC, i64_w, i32_w]
                  rfl
                 exact norm_ (by simp only [putAll, Act.put, sS, sZ, sC] <;> rfl) (hJ2_8_9 (gb246, gb247) _ ⟨hHeld, (kx BK225.out), (kx BK246.out), (kx BK247.out), GW246.out, GE246.out, NB225_246.out, NB246_225.out, NB247_246.out, NB246_247.out, GW247.out, GE247.out, NB225_247.out, NB247_225.out, (bx HB.out)⟩)
                skip
                rintro gb247 w36 ⟨hS_, h0_, h1_, h2_, h3_, h4_, h5_, h6_⟩
                replace BK225 : Aside0 (w36.heap[gb225]? = some (.cells #[.slice A0_0 l0_0.length c0_0, .slice A0_1 l0_1.length c0_1] 25 (0, 0))) := ⟨h0_⟩
                have BK247 : Aside0 (w36.heap[gb247]? = some (.cells #[.slice none 0 0] 41 (0, 0))) := ⟨h1_⟩
                have GW247 : Aside0 (w.heap.size ≤ gb247) := ⟨h2_⟩
                have GE247 : Aside0 (w.heap.size ≤ gb247) := ⟨h3_⟩
                have NB225_247 : Aside0 (gb225 ≠ gb247) := ⟨h4_⟩
                have NB247_225 : Aside0 (gb247 ≠ gb225) := ⟨h5_⟩
                replace HB : Aside0 (Below w.heap.size w w36) := ⟨h6_⟩
                clear h0_ h1_ h2_ h3_ h4_ h5_ h6_
                have hHeld : w36.cell? ⟨gb225, 0, none⟩ = some (.slice A0_0 l0_0.length c0_0) ∧ w36.cell? ⟨gb225, 1, none⟩ = some (.slice A0_1 l0_1.length c0_1) := hS_
                refine norm_ (a' := ?_) ?_ ?_
                rotate_left
                ·simp only [putAll, Act.put, sS, sZ, sC]
                 rfl
                refine two_ (i := 3) (j := 8) (Ni := some 47) (Nj := some 6) #[Y,Y,Y,Y,Y,Y,Z,Z,Z,Y,Z,Z] #[Y,Y,Y,Z,Y,Y,Z,Z,Y,Y,Z,Z] rfl rfl rfl rfl (two_of HT_.out (by kernel_rfl)) (by decide) (by decide) (fun K hK => ?_) (fun K hK => ?_)
                ·skip
                 refine goes_ Tryd.func43 (by kernel_rfl) rfl #[.agg #[.slice A0_0 l0_0.length c0_0, .slice A0_1 l0_1.length c0_1], .int .i64 t238, .bool false] (by rfl) rfl rfl ag ?_
                 with_reducible refine (net_met.calls kj1 _ _ l0_0 _ _ l0_1 t238 false t239 _ ?side1 ?side2 ?side3 ?side4 A29.out).mono ?_
                 (case side1 => exact cx (Kd.C_below HR0_0.out HB.out))
                 (case side2 => exact HC0_0.out)
                 (case side3 => exact cx (Kd.C_below HR0_1.out HB.out))
                 (case side4 => exact HC0_1.out)
                 rintro e w37 ⟨v240, rfl, ho0, hb⟩
                 refine ⟨_, rfl, ?_⟩
                 have HO241 := zm (Kd.R_lower ho0 (below_size (bx HB.out)))
                 replace BK225 := zm (kB (kx BK225.out) hb)
                 replace BK247 := zm (kB (kx BK247.out) hb)
                 replace HB := zm (below_step (bx HB.out) hb)
                 (try clear hb)
                 (try clear hb2)
                 (try clear hk)
                 (try clear hi)
                 (try clear ho0)
                 refine hK.out _ _ ⟨bc0 BK225.out, bc1 BK225.out⟩ (fun hHeld => ?_)
                 clear hK K
                 refine norm_ (a' := ?_) ?_ ?_
                 rotate_left
                 ·show Act.put _ (some 47) _ = _
                  simp only [Act.put, sS, sZ, sC, i64_w, i32_w]
                  rfl
                 exact norm_ (by simp only [putAll, Act.put, sS, sZ, sC] <;> rfl) (hJ2_3_9 (v240, gb247) _ ⟨hHeld, (rx HO241.out), (kx BK225.out), (kx BK247.out), GW247.out, GE247.out, NB225_247.out, NB247_225.out, (bx HB.out)⟩)
                skip
                refine box_step ?hg (N := 6) ?hd (cs := #[.slice none 0 0]) (t := 41) ?hr ?_; (case hd => rfl); (case hg => rfl); (case hr => first | (go_simp; done) | (go_simp; rfl))
                intro gb246 hg w37 hbox hb
                have BK246 := zm (hbox)
                have GW246 := zm ((by rw [hg]; exact (below_size (bx HB.out)) : w.heap.size ≤ gb246))
                have GE246 := zm ((by rw [hg]; exact (below_size (bx HB.out)) : w.heap.size ≤ gb246))
                replace HB := zm (below_step (bx HB.out) hb)
                have NB225_246 := zm ((by rw [hg]; exact Nat.ne_of_lt (blk_lt (g := gb225) (o := .cells #[.slice A0_0 l0_0.length c0_0, .slice A0_1 l0_1.length c0_1] 25 (0, 0)) (kx BK225.out)) : gb225 ≠ gb246))
                have NB246_225 := zm ((by rw [hg]; exact Nat.ne_of_gt (blk_lt (g := gb225) (o := .cells #[.slice A0_0 l0_0.length c0_0, .slice A0_1 l0_1.length c0_1] 25 (0, 0)) (kx BK225.out)) : gb246 ≠ gb225))
                replace BK225 := zm (kB (kx BK225.out) hb)
                have NB247_246 := zm ((by rw [hg]; exact Nat.ne_of_lt (blk_lt (g := gb247) (o := .cells #[.slice none 0 0] 41 (0, 0)) (kx BK247.out)) : gb247 ≠ gb246))
                have NB246_247 := zm ((by rw [hg]; exact Nat.ne_of_gt (blk_lt (g := gb247) (o := .cells #[.slice none 0 0] 41 (0, 0)) (kx BK247.out)) : gb246 ≠ gb247))
                replace BK247 := zm (kB (kx BK247.out) hb)
                clear hb hbox hg
                refine hK.out _ _ ⟨bc0 BK225.out, bc1 BK225.out⟩ (fun hHeld => ?_)
                clear hK K
                refine norm_ (a' := ?_) ?_ ?_
                rotate_left
                ·show Act.put _ (some 6) _ = _
                 simp only [Act.put, sS, sZ, sC, i64_w, i32_w]
                 rfl
                exact norm_ (by simp only [putAll, Act.put, sS, sZ, sC] <;> rfl) (hJ2_8_9 (gb246, gb247) _ ⟨hHeld, (kx BK225.out), (kx BK246.out), (kx BK247.out), GW246.out, GE246.out, NB225_246.out, NB246_225.out, NB247_246.out, NB246_247.out, GW247.out, GE247.out, NB225_247.out, NB247_225.out, (bx HB.out)⟩)
               skip
               rintro gb246 w36 ⟨hS_, h0_, h1_, h2_, h3_, h4_, h5_, h6_⟩
               replace BK225 : Aside0 (w36.heap[gb225]? = some (.cells #[.slice A0_0 l0_0.length c0_0, .slice A0_1 l0_1.length c0_1] 25 (0, 0))) := ⟨h0_⟩
               have BK246 : Aside0 (w36.heap[gb246]? = some (.cells #[.slice none 0 0] 41 (0, 0))) := ⟨h1_⟩
               have GW246 : Aside0 (w.heap.size ≤ gb246) := ⟨h2_⟩
               have GE246 : Aside0 (w.heap.size ≤ gb246) := ⟨h3_⟩
               have NB225_246 : Aside0 (gb225 ≠ gb246) := ⟨h4_⟩
               have NB246_225 : Aside0 (gb246 ≠ gb225) := ⟨h5_⟩
               replace HB : Aside0 (Below w.heap.size w w36) := ⟨h6_⟩
               clear h0_ h1_ h2_ h3_ h4_ h5_ h6_
               have hHeld : w36.cell? ⟨gb225, 0, none⟩ = some (.slice A0_0 l0_0.length c0_0) ∧ w36.cell? ⟨gb225, 1, none⟩ = some (.slice A0_1 l0_1.length c0_1) := hS_
               refine norm_ (a' := ?_) ?_ ?_
               rotate_left
               ·simp only [putAll, Act.put, sS, sZ, sC]
                rfl
               refine two_ (i := 3) (j := 9) (Ni := some 47) (Nj := some 7) #[Y,Y,Y,Y,Y,Y,Z,Z,Y,Z,Z,Z] #[Y,Y,Y,Z,Y,Y,Z,Z,Y,Y,Z,Z] rfl rfl rfl rfl (two_of HT_.out (by kernel_rfl)) (by decide) (by decide) (fun K hK => ?_) (fun K hK => ?_)
               ·skip
                refine goes_ Tryd.func43 (by kernel_rfl) rfl #[.agg #[.slice A0_0 l0_0.length c0_0, .slice A0_1 l0_1.length c0_1], .int .i64 t238, .bool false] (by rfl) rfl rfl ag ?_
                with_reducible refine (net_met.calls kj1 _ _ l0_0 _ _ l0_1 t238 false t239 _ ?side1 ?side2 ?side3 ?side4 A29.out).mono ?_
                (case side1 => exact cx (Kd.C_below HR0_0.out HB.out))
                (case side2 => exact HC0_0.out)
                (case side3 => exact cx (Kd.C_below HR0_1.out HB.out))
                (case side4 => exact HC0_1.out)
                rintro e w37 ⟨v240, rfl, ho0, hb⟩
                refine ⟨_, rfl, ?_⟩
                have HO241 := zm (Kd.R_lower ho0 (below_size (bx HB.out)))
                replace BK225 := zm (kB (kx BK225.out) hb)
                replace BK246 := zm (kB (kx BK246.out) hb)
                replace HB := zm (below_step (bx HB.out) hb)
                (try clear hb)
                (try clear hb2)
                (try clear hk)
                (try clear hi)
                (try clear ho0)
                refine hK.out _ _ ⟨bc0 BK225.out, bc1 BK225.out⟩ (fun hHeld => ?_)
                clear hK K
                refine norm_ (a' := ?_) ?_ ?_
                rotate_left
                ·show Act.put _ (some 47) _ = _
                 simp only [Act.put, sS, sZ, sC, i64_w, i32_w]
                 rfl
                exact norm_ (by simp only [putAll, Act.put, sS, sZ, sC] <;> rfl) (hJ2_3_8 (v240, gb246) _ ⟨hHeld, (rx HO241.out), (kx BK225.out), (kx BK246.out), GW246.out, GE246.out, NB225_246.out, NB246_225.out, (bx HB.out)⟩)
               skip
               refine box_step ?hg (N := 7) ?hd (cs := #[.slice none 0 0]) (t := 41) ?hr ?_; (case hd => rfl); (case hg => rfl); (case hr => first | (go_simp; done) | (go_simp; rfl))
               intro gb247 hg w37 hbox hb
               have BK247 := zm (hbox)
               have GW247 := zm ((by rw [hg]; exact (below_size (bx HB.out)) : w.heap.size ≤ gb247))
               have GE247 := zm ((by rw [hg]; exact (below_size (bx HB.out)) : w.heap.size ≤ gb247))
               replace HB := zm (below_step (bx HB.out) hb)
               have NB225_247 := zm ((by rw [hg]; exact Nat.ne_of_lt (blk_lt (g := gb225) (o := .cells #[.slice A0_0 l0_0.length c0_0, .slice A0_1 l0_1.length c0_1] 25 (0, 0)) (kx BK225.out)) : gb225 ≠ gb247))
               have NB247_225 := zm ((by rw [hg]; exact Nat.ne_of_gt (blk_lt (g := gb225) (o := .cells #[.slice A0_0 l0_0.length c0_0, .slice A0_1 l0_1.length c0_1] 25 (0, 0)) (kx BK225.out)) : gb247 ≠ gb225))
               replace BK225 := zm (kB (kx BK225.out) hb)
               have NB246_247 := zm ((by rw [hg]; exact Nat.ne_of_lt (blk_lt (g := gb246) (o := .cells #[.slice none 0 0] 41 (0, 0)) (kx BK246.out)) : gb246 ≠ gb247))
               have NB247_246 := zm ((by rw [hg]; exact Nat.ne_of_gt (blk_lt (g := gb246) (o := .cells #[.slice none 0 0] 41 (0, 0)) (kx BK246.out)) : gb247 ≠ gb246))
               replace BK246 := zm (kB (kx BK246.out) hb)
               clear hb hbox hg
               refine hK.out _ _ ⟨bc0 BK225.out, bc1 BK225.out⟩ (fun hHeld => ?_)
               clear hK K
               refine norm_ (a' := ?_) ?_ ?_
               rotate_left
               ·show Act.put _ (some 7) _ = _
                simp only [Act.put, sS, sZ, sC, i64_w, i32_w]
                rfl
               exact norm_ (by simp only [putAll, Act.put, sS, sZ, sC] <;> rfl) (hJ2_8_9 (gb246, gb247) _ ⟨hHeld, (kx BK225.out), (kx BK246.out), (kx BK247.out), GW246.out, GE246.out, NB225_246.out, NB246_225.out, NB247_246.out, NB246_247.out, GW247.out, GE247.out, NB225_247.out, NB247_225.out, (bx HB.out)⟩)
              skip
              rintro v240 w36 ⟨hS_, h0_, h1_, h2_⟩
              have HO241 : Aside0 (Kd.R Kd.bool 4 w36 w.heap.size (fun _ => True) v240 t239) := ⟨h0_⟩
              replace BK225 : Aside0 (w36.heap[gb225]? = some (.cells #[.slice A0_0 l0_0.length c0_0, .slice A0_1 l0_1.length c0_1] 25 (0, 0))) := ⟨h1_⟩
              replace HB : Aside0 (Below w.heap.size w w36) := ⟨h2_⟩
              clear h0_ h1_ h2_
              have hHeld : w36.cell? ⟨gb225, 0, none⟩ = some (.slice A0_0 l0_0.length c0_0) ∧ w36.cell? ⟨gb225, 1, none⟩ = some (.slice A0_1 l0_1.length c0_1) := hS_
              refine norm_ (a' := ?_) ?_ ?_
              rotate_left
              ·simp only [putAll, Act.put, sS, sZ, sC]
               rfl
              refine three_ (i := 6) (j := 8) (k := 9) (Ni := some 50) (Nj := some 6) (Nk := some 7) #[Y,Y,Y,Y,Y,Y,Y,Z,Z,Z,Z,Z] #[Y,Y,Y,Y,Y,Y,Z,Z,Y,Z,Z,Z] #[Y,Y,Y,Y,Y,Y,Z,Z,Z,Y,Z,Z] rfl rfl rfl rfl rfl rfl (three_of HT_.out (by kernel_rfl)) (by decide) (by decide) (by decide) (fun K hK => ?_) (fun K hK => ?_) (fun K hK => ?_)
              ·skip
               refine goes_ Tryd.func16 (by kernel_rfl) rfl #[.agg #[.slice A0_0 l0_0.length c0_0, .slice A0_1 l0_1.length c0_1]] (by rfl) rfl rfl ag ?_
               with_reducible refine (net_End.calls kj1 _ _ l0_0 _ _ l0_1 t242 _ ?side1 ?side2 ?side3 ?side4 A30.out).mono ?_
               (case side1 => exact cx (Kd.C_below HR0_0.out HB.out))
               (case side2 => exact HC0_0.out)
               (case side3 => exact cx (Kd.C_below HR0_1.out HB.out))
               (case side4 => exact HC0_1.out)
               rintro e w37 ⟨rfl, hb⟩
               refine ⟨_, rfl, ?_⟩
               replace HO241 := zm (Kd.R_below (rx HO241.out) hb)
               replace BK225 := zm (kB (kx BK225.out) hb)
               replace HB := zm (below_step (bx HB.out) hb)
               (try clear hb)
               (try clear hb2)
               (try clear hk)
               (try clear hi)
               refine hK.out _ _ ⟨bc0 BK225.out, bc1 BK225.out⟩ (fun hHeld => ?_)
               clear hK K
               refine norm_ (a' := ?_) ?_ ?_
               rotate_left
               ·show Act.put _ (some 50) _ = _
                simp only [Act.put, sS, sZ, sC, i64_w, i32_w]
                rfl
               exact norm_ (by simp only [putAll, Act.put, sS, sZ, sC] <;> rfl) (hJ2_3_6 (v240) _ ⟨hHeld, (rx HO241.out), (kx BK225.out), (bx HB.out)⟩)
              ·skip
               refine box_step ?hg (N := 6) ?hd (cs := #[.slice none 0 0]) (t := 41) ?hr ?_; (case hd => rfl); (case hg => rfl); (case hr => first | (go_simp; done) | (go_simp; rfl))
               intro gb246 hg w37 hbox hb
               replace HO241 := zm (Kd.R_below (rx HO241.out) hb)
               have BK246 := zm (hbox)
               have GW246 := zm ((by rw [hg]; exact (below_size (bx HB.out)) : w.heap.size ≤ gb246))
               have GE246 := zm ((by rw [hg]; exact (below_size (bx HB.out)) : w.heap.size ≤ gb246))
               replace HB := zm (below_step (bx HB.out) hb)
               have NB225_246 := zm ((by rw [hg]; exact Nat.ne_of_lt (blk_lt (g := gb225) (o := .cells #[.slice A0_0 l0_0.length c0_0, .slice A0_1 l0_1.length c0_1] 25 (0, 0)) (kx BK225.out)) : gb225 ≠ gb246))
               have NB246_225 := zm ((by rw [hg]; exact Nat.ne_of_gt (blk_lt (g := gb225) (o := .cells #[.slice A0_0 l0_0.length c0_0, .slice A0_1 l0_1.length c0_1] 25 (0, 0)) (kx BK225.out)) : gb246 ≠ gb225))
               replace BK225 := zm (kB (kx BK225.out) hb)
               clear hb hbox hg
               refine hK.out _ _ ⟨bc0 BK225.out, bc1 BK225.out⟩ (fun hHeld => ?_)
               clear hK K
               refine norm_ (a' := ?_) ?_ ?_
               rotate_left
               ·show Act.put _ (some 6) _ = _
                simp only [Act.put, sS, sZ, sC, i64_w, i32_w]
                rfl
               exact norm_ (by simp only [putAll, Act.put, sS, sZ, sC] <;> rfl) (hJ2_3_8 (v240, gb246) _ ⟨hHeld, (rx HO241.out), (kx BK225.out), (kx BK246.out), GW246.out, GE246.out, NB225_246.out, NB246_225.out, (bx HB.out)⟩)
              skip
              refine box_step ?hg (N := 7) ?hd (cs := #[.slice none 0 0]) (t := 41) ?hr ?_; (case hd => rfl); (case hg => rfl); (case hr => first | (go_simp; done) | (go_simp; rfl))
              intro gb247 hg w37 hbox hb
              replace HO241 := zm (Kd.R_below (rx HO241.out) hb)
              have BK247 := zm (hbox)
              have GW247 := zm ((by rw [hg]; exact (below_size (bx HB.out)) : w.heap.size ≤ gb247))
              have GE247 := zm ((by rw [hg]; exact (below_size (bx HB.out)) : w.heap.size ≤ gb247))
              replace HB := zm (below_step (bx HB.out) hb)
              have NB225_247 := zm ((by rw [hg]; exact Nat.ne_of_lt (blk_lt (g := gb225) (o := .cells #[.slice A0_0 l0_0.length c0_0, .slice A0_1 l0_1.length c0_1] 25 (0, 0)) (kx BK225.out)) : gb225 ≠ gb247))
              have NB247_225 := zm ((by rw [hg]; exact Nat.ne_of_gt (blk_lt (g := gb225) (o := .cells #[.slice A0_0 l0_0.length c0_0, .slice A0_1 l0_1.length c0_1] 25 (0, 0)) (kx BK225.out)) : gb247 ≠ gb225))
              replace BK225 := zm (kB (kx BK225.out) hb)
              clear hb hbox hg
              refine hK.out _ _ ⟨bc0 BK225.out, bc1 BK225.out⟩ (fun hHeld => ?_)
              clear hK K
              refine norm_ (a' := ?_) ?_ ?_
              rotate_left
              ·show Act.put _ (some 7) _ = _
               simp only [Act.put, sS, sZ, sC, i64_w, i32_w]
               rfl
              exact norm_ (by simp only [putAll, Act.put, sS, sZ, sC] <;> rfl) (hJ2_3_9 (v240, gb247) _ ⟨hHeld, (rx HO241.out), (kx BK225.out), (kx BK247.out), GW247.out, GE247.out, NB225_247.out, NB247_225.out, (bx HB.out)⟩)
             skip
             rintro ⟨gb246, gb247⟩ w37 ⟨hS_, h0_, h1_, h2_, h3_, h4_, h5_, h6_, h7_, h8_, h9_, h10_, h11_, h12_, h13_⟩
             replace BK225 : Aside0 (w37.heap[gb225]? = some (.cells #[.slice A0_0 l0_0.length c0_0, .slice A0_1 l0_1.length c0_1] 25 (0, 0))) := ⟨h0_⟩
             have BK246 : Aside0 (w37.heap[gb246]? = some (.cells #[.slice none 0 0] 41 (0, 0))) := ⟨h1_⟩
             have BK247 : Aside0 (w37.heap[gb247]? = some (.cells #[.slice none 0 0] 41 (0, 0))) := ⟨h2_⟩
             have GW246 : Aside0 (w.heap.size ≤ gb246) := ⟨h3_⟩
             have GE246 : Aside0 (w.heap.size ≤ gb246) := ⟨h4_⟩
             have NB225_246 : Aside0 (gb225 ≠ gb246) := ⟨h5_⟩
             have NB246_225 : Aside0 (gb246 ≠ gb225) := ⟨h6_⟩
             have NB247_246 : Aside0 (gb247 ≠ gb246) := ⟨h7_⟩
             have NB246_247 : Aside0 (gb246 ≠ gb247) := ⟨h8_⟩
             have GW247 : Aside0 (w.heap.size ≤ gb247) := ⟨h9_⟩
             have GE247 : Aside0 (w.heap.size ≤ gb247) := ⟨h10_⟩
             have NB225_247 : Aside0 (gb225 ≠ gb247) := ⟨h11_⟩
             have NB247_225 : Aside0 (gb247 ≠ gb225) := ⟨h12_⟩
             replace HB : Aside0 (Below w.heap.size w w37) := ⟨h13_⟩
             clear h0_ h1_ h2_ h3_ h4_ h5_ h6_ h7_ h8_ h9_ h10_ h11_ h12_ h13_
             have hHeld : w37.cell? ⟨gb225, 0, none⟩ = some (.slice A0_0 l0_0.length c0_0) ∧ w37.cell? ⟨gb225, 1, none⟩ = some (.slice A0_1 l0_1.length c0_1) := hS_
             refine norm_ (a' := ?_) ?_ ?_
             rotate_left
             ·simp only [putAll, Act.put, sS, sZ, sC]
              rfl
             refine one_ (i := 3) (N := some 47) #[Y,Y,Y,Y,Y,Y,Z,Z,Y,Y,Z,Z] rfl rfl (one_of HT_.out (by kernel_rfl)) (by decide) (fun K hK => ?_)
             refine goes_ Tryd.func43 (by kernel_rfl) rfl #[.agg #[.slice A0_0 l0_0.length c0_0, .slice A0_1 l0_1.length c0_1], .int .i64 t238, .bool false] (by rfl) rfl rfl ag ?_
             with_reducible refine (net_met.calls kj1 _ _ l0_0 _ _ l0_1 t238 false t239 _ ?side1 ?side2 ?side3 ?side4 A29.out).mono ?_
             (case side1 => exact cx (Kd.C_below HR0_0.out HB.out))
             (case side2 => exact HC0_0.out)
             (case side3 => exact cx (Kd.C_below HR0_1.out HB.out))
             (case side4 => exact HC0_1.out)
             rintro e w38 ⟨v240, rfl, ho0, hb⟩
             refine ⟨_, rfl, ?_⟩
             have HO241 := zm (Kd.R_lower ho0 (below_size (bx HB.out)))
             replace BK225 := zm (kB (kx BK225.out) hb)
             replace BK246 := zm (kB (kx BK246.out) hb)
             replace BK247 := zm (kB (kx BK247.out) hb)
             replace HB := zm (below_step (bx HB.out) hb)
             (try clear hb)
             (try clear hb2)
             (try clear hk)
             (try clear hi)
             (try clear ho0)
             refine hK.out _ _ ⟨bc0 BK225.out, bc1 BK225.out⟩ (fun hHeld => ?_)
             clear hK K
             refine norm_ (a' := ?_) ?_ ?_
             rotate_left
             ·show Act.put _ (some 47) _ = _
              simp only [Act.put, sS, sZ, sC, i64_w, i32_w]
              rfl
             exact norm_ (by simp only [putAll, Act.put, sS, sZ, sC] <;> rfl) (hJ2_3_8_9 (v240, gb246, gb247) _ ⟨hHeld, (rx HO241.out), (kx BK225.out), (kx BK246.out), (kx BK247.out), GW246.out, GE246.out, NB225_246.out, NB246_225.out, NB247_246.out, NB246_247.out, GW247.out, GE247.out, NB225_247.out, NB247_225.out, (bx HB.out)⟩)
            skip
            rintro ⟨v240, gb247⟩ w37 ⟨hS_, h0_, h1_, h2_, h3_, h4_, h5_, h6_, h7_⟩
            have HO241 : Aside0 (Kd.R Kd.bool 4 w37 w.heap.size (fun _ => True) v240 t239) := ⟨h0_⟩
            replace BK225 : Aside0 (w37.heap[gb225]? = some (.cells #[.slice A0_0 l0_0.length c0_0, .slice A0_1 l0_1.length c0_1] 25 (0, 0))) := ⟨h1_⟩
            have BK247 : Aside0 (w37.heap[gb247]? = some (.cells #[.slice none 0 0] 41 (0, 0))) := ⟨h2_⟩
            have GW247 : Aside0 (w.heap.size ≤ gb247) := ⟨h3_⟩
            have GE247 : Aside0 (w.heap.size ≤ gb247) := ⟨h4_⟩
            have NB225_247 : Aside0 (gb225 ≠ gb247) := ⟨h5_⟩
            have NB247_225 : Aside0 (gb247 ≠ gb225) := ⟨h6_⟩
            replace HB : Aside0 (Below w.heap.size w w37) := ⟨h7_⟩
            clear h0_ h1_ h2_ h3_ h4_ h5_ h6_ h7_
            have hHeld : w37.cell? ⟨gb225, 0, none⟩ = some (.slice A0_0 l0_0.length c0_0) ∧ w37.cell? ⟨gb225, 1, none⟩ = some (.slice A0_1 l0_1.length c0_1) := hS_
            refine norm_ (a' := ?_) ?_ ?_
            rotate_left
            ·simp only [putAll, Act.put, sS, sZ, sC]
             rfl
            refine two_ (i := 6) (j := 8) (Ni := some 50) (Nj := some 6) #[Y,Y,Y,Y,Y,Y,Y,Z,Z,Y,Z,Z] #[Y,Y,Y,Y,Y,Y,Z,Z,Y,Y,Z,Z] rfl rfl rfl rfl (two_of HT_.out (by kernel_rfl)) (by decide) (by decide) (fun K hK => ?_) (fun K hK => ?_)
            ·skip
             refine goes_ Tryd.func16 (by kernel_rfl) rfl #[.agg #[.slice A0_0 l0_0.length c0_0, .slice A0_1 l0_1.length c0_1]] (by rfl) rfl rfl ag ?_
             with_reducible refine (net_End.calls kj1 _ _ l0_0 _ _ l0_1 t242 _ ?side1 ?side2 ?side3 ?side4 A30.out).mono ?_
             (case side1 => exact cx (Kd.C_below HR0_0.out HB.out))
             (case side2 => exact HC0_0.out)
             (case side3 => exact cx (Kd.C_below HR0_1.out HB.out))
             (case side4 => exact HC0_1.out)
             rintro e w38 ⟨rfl, hb⟩
             refine ⟨_, rfl, ?_⟩
             replace HO241 := zm (Kd.R_below (rx HO241.out) hb)
             replace BK225 := zm (kB (kx BK225.out) hb)
             replace BK247 := zm (kB (kx BK247.out) hb)
             replace HB := zm (below_step (bx HB.out) hb)
             (try clear hb)
             (try clear hb2)
             (try clear hk)
             (try clear hi)
             refine hK.out _ _ ⟨bc0 BK225.out, bc1 BK225.out⟩ (fun hHeld => ?_)
             clear hK K
             refine norm_ (a' := ?_) ?_ ?_
             rotate_left
             ·show Act.put _ (some 50) _ = _
              simp only [Act.put, sS, sZ, sC, i64_w, i32_w]
              rfl
             exact norm_ (by simp only [putAll, Act.put, sS, sZ, sC] <;> rfl) (hJ2_3_6_9 (v240, gb247) _ ⟨hHeld, (rx HO241.out), (kx BK225.out), (kx BK247.out), GW247.out, GE247.out, NB225_247.out, NB247_225.out, (bx HB.out)⟩)
            skip
            refine box_step ?hg (N := 6) ?hd (cs := #[.slice none 0 0]) (t := 41) ?hr ?_; (case hd => rfl); (case hg => rfl); (case hr => first | (go_simp; done) | (go_simp; rfl))
            intro gb246 hg w38 hbox hb
            replace HO241 := zm (Kd.R_below (rx HO241.out) hb)
            have BK246 := zm (hbox)
            have GW246 := zm ((by rw [hg]; exact (below_size (bx HB.out)) : w.heap.size ≤ gb246))
            have GE246 := zm ((by rw [hg]; exact (below_size (bx HB.out)) : w.heap.size ≤ gb246))
            replace HB := zm (below_step (bx HB.out) hb)
            have NB225_246 := zm ((by rw [hg]; exact Nat.ne_of_lt (blk_lt (g := gb225) (o := .cells #[.slice A0_0 l0_0.length c0_0, .slice A0_1 l0_1.length c0_1] 25 (0, 0)) (kx BK225.out)) : gb225 ≠ gb246))
            have NB246_225 := zm ((by rw [hg]; exact Nat.ne_of_gt (blk_lt (g := gb225) (o := .cells #[.slice A0_0 l0_0.length c0_0, .slice A0_1 l0_1.length c0_1] 25 (0, 0)) (kx BK225.out)) : gb246 ≠ gb225))
            replace BK225 := zm (kB (kx BK225.out) hb)
            have NB247_246 := zm ((by rw [hg]; exact Nat.ne_of_lt (blk_lt (g := gb247) (o := .cells #[.slice none 0 0] 41 (0, 0)) (kx BK247.out)) : gb247 ≠ gb246))
            have NB246_247 := zm ((by rw [hg]; exact Nat.ne_of_gt (blk_lt (g := gb247) (o := .cells #[.slice none 0 0] 41 (0, 0)) (kx BK247.out)) : gb246 ≠ gb247))
            replace BK247 := zm (kB (kx BK247.out) hb)
            clear hb hbox hg
            refine hK.out _ _ ⟨bc0 BK225.out, bc1 BK225.out⟩ (fun hHeld => ?_)
            clear hK K
            refine norm_ (a' := ?_) ?_ ?_
            rotate_left
            ·show Act.put _ (some 6) _ = _
             simp only [Act.put, sS, sZ, sC, i64_w, i32_w]
             rfl
            exact norm_ (by simp only [putAll, Act.put, sS, sZ, sC] <;> rfl) (hJ2_3_8_9 (v240, gb246, gb247) _ ⟨hHeld, (rx HO241.out), (kx BK225.out), (kx BK246.out), (kx BK247.out), GW246.out, GE246.out, NB225_246.out, NB246_225.out, NB247_246.out, NB246_247.out, GW247.out, GE247.out, NB225_247.out, NB247_225.out, (bx HB.out)⟩)
           skip
           rintro ⟨v240, gb246⟩ w37 ⟨hS_, h0_, h1_, h2_, h3_, h4_, h5_, h6_, h7_⟩
           have HO241 : Aside0 (Kd.R Kd.bool 4 w37 w.heap.size (fun _ => True) v240 t239) := ⟨h0_⟩
           replace BK225 : Aside0 (w37.heap[gb225]? = some (.cells #[.slice A0_0 l0_0.length c0_0, .slice A0_1 l0_1.length c0_1] 25 (0, 0))) := ⟨h1_⟩
           have BK246 : Aside0 (w37.heap[gb246]? = some (.cells #[.slice none 0 0] 41 (0, 0))) := ⟨h2_⟩
           have GW246 : Aside0 (w.heap.size ≤ gb246) := ⟨h3_⟩
           have GE246 : Aside0 (w.heap.size ≤ gb246) := ⟨h4_⟩
           have NB225_246 : Aside0 (gb225 ≠ gb246) := ⟨h5_⟩
           have NB246_225 : Aside0 (gb246 ≠ gb225) := ⟨h6_⟩
           replace HB : Aside0 (Below w.heap.size w w37) := ⟨h7_⟩
           clear h0_ h1_ h2_ h3_ h4_ h5_ h6_ h7_
           have hHeld : w37.cell? ⟨gb225, 0, none⟩ = some (.slice A0_0 l0_0.length c0_0) ∧ w37.cell? ⟨gb225, 1, none⟩ = some (.slice A0_1 l0_1.length c0_1) := hS_
           refine norm_ (a' := ?_) ?_ ?_
           rotate_left
           ·simp only [putAll, Act.put, sS, sZ, sC]
            rfl
           refine two_ (i := 6) (j := 9) (Ni := some 50) (Nj := some 7) #[Y,Y,Y,Y,Y,Y,Y,Z,Y,Z,Z,Z] #[Y,Y,Y,Y,Y,Y,Z,Z,Y,Y,Z,Z] rfl rfl rfl rfl (two_of HT_.out (by kernel_rfl)) (by decide) (by decide) (fun K hK => ?_) (fun K hK => ?_)
           ·skip
            refine goes_ Tryd.func16 (by kernel_rfl) rfl #[.agg #[.slice A0_0 l0_0.length c0_0, .slice A0_1 l0_1.length c0_1]] (by rfl) rfl rfl ag ?_
            with_reducible refine (net_End.calls kj1 _ _ l0_0 _ _ l0_1 t242 _ ?side1 ?side2 ?side3 ?side4 A30.out).mono ?_
            (case side1 => exact cx (Kd.C_below HR0_0.out HB.out))
            (case side2 => exact HC0_0.out)
            (case side3 => exact cx (Kd.C_below HR0_1.out HB.out))
            (case side4 => exact HC0_1.out)
            rintro e w38 ⟨rfl, hb⟩
            refine ⟨_, rfl, ?_⟩
            replace HO241 := zm (Kd.R_below (rx HO241.out) hb)
            replace BK225 := zm (kB (kx BK225.out) hb)
            replace BK246 := zm (kB (kx BK246.out) hb)
            replace HB := zm (below_step (bx HB.out) hb)
            (try clear hb)
            (try clear hb2)
            (try clear hk)
            (try clear hi)
            refine hK.out _ _ ⟨bc0 BK225.out, bc1 BK225.out⟩ (fun hHeld => ?_)
            clear hK K
            refine norm_ (a' := ?_) ?_ ?_
            rotate_left
            ·show Act.put _ (some 50) _ = _
             simp only [Act.put, sS, sZ, sC, i64_w, i32_w]
             rfl
            exact norm_ (by simp only [putAll, Act.put, sS, sZ, sC] <;> rfl) (hJ2_3_6_8 (v240, gb246) _ ⟨hHeld, (rx HO241.out), (kx BK225.out), (kx BK246.out), GW246.out, GE246.out, NB225_246.out, NB246_225.out, (bx HB.out)⟩)
           skip
           refine box_step ?hg (N := 7) ?hd (cs := #[.slice none 0 0]) (t := 41) ?hr ?_; (case hd => rfl); (case hg => rfl); (case hr => first | (go_simp; done) | (go_simp; rfl))
           intro gb247 hg w38 hbox hb
           replace HO241 := zm (Kd.R_below (rx HO241.out) hb)
           have BK247 := zm (hbox)
           have GW247 := zm ((by rw [hg]; exact (below_size (bx HB.out)) : w.heap.size ≤ gb247))
           have GE247 := zm ((by rw [hg]; exact (below_size (bx HB.out)) : w.heap.size ≤ gb247))
           replace HB := zm (below_step (bx HB.out) hb)
           have NB225_247 := zm ((by rw [hg]; exact Nat.ne_of_lt (blk_lt (g := gb225) (o := .cells #[.slice A0_0 l0_0.length c0_0, .slice A0_1 l0_1.length c0_1] 25 (0, 0)) (kx BK225.out)) : gb225 ≠ gb247))
           have NB247_225 := zm ((by rw [hg]; exact Nat.ne_of_gt (blk_lt (g := gb225) (o := .cells #[.slice A0_0 l0_0.length c0_0, .slice A0_1 l0_1.length c0_1] 25 (0, 0)) (kx BK225.out)) : gb247 ≠ gb225))
           replace BK225 := zm (kB (kx BK225.out) hb)
           have NB246_247 := zm ((by rw [hg]; exact Nat.ne_of_lt (blk_lt (g := gb246) (o := .cells #[.slice none 0 0] 41 (0, 0)) (kx BK246.out)) : gb246 ≠ gb247))
           have NB247_246 := zm ((by rw [hg]; exact Nat.ne_of_gt (blk_lt (g := gb246) (o := .cells #[.slice none 0 0] 41 (0, 0)) (kx BK246.out)) : gb247 ≠ gb246))
           replace BK246 := zm (kB (kx BK246.out) hb)
           clear hb hbox hg
           refine hK.out _ _ ⟨bc0 BK225.out, bc1 BK225.out⟩ (fun hHeld => ?_)
           clear hK K
           refine norm_ (a' := ?_) ?_ ?_
           rotate_left
           ·show Act.put _ (some 7) _ = _
            simp only [Act.put, sS, sZ, sC, i64_w, i32_w]
            rfl
           exact norm_ (by simp only [putAll, Act.put, sS, sZ, sC] <;> rfl) (hJ2_3_8_9 (v240, gb246, gb247) _ ⟨hHeld, (rx HO241.out), (kx BK225.out), (kx BK246.out), (kx BK247.out), GW246.out, GE246.out, NB225_246.out, NB246_225.out, NB247_246.out, NB246_247.out, GW247.out, GE247.out, NB225_247.out, NB247_225.out, (bx HB.out)⟩)
          skip
          rintro v240 w37 ⟨hS_, h0_, h1_, h2_⟩
          have HO241 : Aside0 (Kd.R Kd.bool 4 w37 w.heap.size (fun _ => True) v240 t239) := ⟨h0_⟩
          replace BK225 : Aside0 (w37.heap[gb225]? = some (.cells #[.slice A0_0 l0_0.length c0_0, .slice A0_1 l0_1.length c0_1] 25 (0, 0))) := ⟨h1_⟩
          replace HB : Aside0 (Below w.heap.size w w37) := ⟨h2_⟩
          clear h0_ h1_ h2_
          have hHeld : w37.cell? ⟨gb225, 0, none⟩ = some (.slice A0_0 l0_0.length c0_0) ∧ w37.cell? ⟨gb225, 1, none⟩ = some (.slice A0_1 l0_1.length c0_1) := hS_
          refine norm_ (a' := ?_) ?_ ?_
          rotate_left
          ·simp only [putAll, Act.put, sS, sZ, sC]
           rfl
          refine three_ (i := 7) (j := 8) (k := 9) (Ni := some 51) (Nj := some 6) (Nk := some 7) #[Y,Y,Y,Y,Y,Y,Y,Y,Z,Z,Z,Z] #[Y,Y,Y,Y,Y,Y,Y,Z,Y,Z,Z,Z] #[Y,Y,Y,Y,Y,Y,Y,Z,Z,Y,Z,Z] rfl rfl rfl rfl rfl rfl (three_of HT_.out (by kernel_rfl)) (by decide) (by decide) (by decide) (fun K hK => ?_) (fun K hK => ?_) (fun K hK => ?_)
          ·skip
           refine goes_ Tryd.func43 (by kernel_rfl) rfl #[.agg #[.slice A0_0 l0_0.length c0_0, .slice A0_1 l0_1.length c0_1], .int .i64 t242, .bool true] (by rfl) rfl rfl ag ?_
           with_reducible refine (net_met.calls kj1 _ _ l0_0 _ _ l0_1 t242 true t243 _ ?side1 ?side2 ?side3 ?side4 A31.out).mono ?_
           (case side1 => exact cx (Kd.C_below HR0_0.out HB.out))
           (case side2 => exact HC0_0.out)
           (case side3 => exact cx (Kd.C_below HR0_1.out HB.out))
           (case side4 => exact HC0_1.out)
           rintro e w38 ⟨v244, rfl, ho0, hb⟩
           refine ⟨_, rfl, ?_⟩
           have HO245 := zm (Kd.R_lower (Kd.R_new' ho0 (Kd.R_lt (rx HO241.out))) (below_size (bx HB.out)))
           replace HO241 := zm (Kd.R_elder' (rx HO241.out) (by first | exact Kd.R_base ho0 | exact Kd.N_base ho0 | exact Kd.S_base ho0 | exact Kd.R_base ho0) hb)
           replace BK225 := zm (kB (kx BK225.out) hb)
           replace HB := zm (below_step (bx HB.out) hb)
           (try clear hb)
           (try clear hb2)
           (try clear hk)
           (try clear hi)
           (try clear ho0)
           refine hK.out _ _ ⟨bc0 BK225.out, bc1 BK225.out⟩ (fun hHeld => ?_)
           clear hK K
           refine norm_ (a' := ?_) ?_ ?_
           rotate_left
           ·show Act.put _ (some 51) _ = _
            simp only [Act.put, sS, sZ, sC, i64_w, i32_w]
            rfl
           exact norm_ (by simp only [putAll, Act.put, sS, sZ, sC] <;> rfl) (hJ2_3_6_7 (v240, v244) _ ⟨hHeld, (rx (Kd.R_mono HO241.out (fun _ hk => hk.2))), (rx (Kd.R_mono HO245.out (fun _ hk => hk.2))), (kx BK225.out), (bx HB.out)⟩)
          ·skip
           refine box_step ?hg (N := 6) ?hd (cs := #[.slice none 0 0]) (t := 41) ?hr ?_; (case hd => rfl); (case hg => rfl); (case hr => first | (go_simp; done) | (go_simp; rfl))
           intro gb246 hg w38 hbox hb
           replace HO241 := zm (Kd.R_below (rx HO241.out) hb)
           have BK246 := zm (hbox)
           have GW246 := zm ((by rw [hg]; exact (below_size (bx HB.out)) : w.heap.size ≤ gb246))
           have GE246 := zm ((by rw [hg]; exact (below_size (bx HB.out)) : w.heap.size ≤ gb246))
           replace HB := zm (below_step (bx HB.out) hb)
           have NB225_246 := zm ((by rw [hg]; exact Nat.ne_of_lt (blk_lt (g := gb225) (o := .cells #[.slice A0_0 l0_0.length c0_0, .slice A0_1 l0_1.length c0_1] 25 (0, 0)) (kx BK225.out)) : gb225 ≠ gb246))
           have NB246_225 := zm ((by rw [hg]; exact Nat.ne_of_gt (blk_lt (g := gb225) (o := .cells #[.slice A0_0 l0_0.length c0_0, .slice A0_1 l0_1.length c0_1] 25 (0, 0)) (kx BK225.out)) : gb246 ≠ gb225))
           replace BK225 := zm (kB (kx BK225.out) hb)
           clear hb hbox hg
           refine hK.out _ _ ⟨bc0 BK225.out, bc1 BK225.out⟩ (fun hHeld => ?_)
           clear hK K
           refine norm_ (a' := ?_) ?_ ?_
           rotate_left
           ·show Act.put _ (some 6) _ = _
            simp only [Act.put, sS, sZ, sC, i64_w, i32_w]
            rfl
           exact norm_ (by simp only [putAll, Act.put, sS, sZ, sC] <;> rfl) (hJ2_3_6_8 (v240, gb246) _ ⟨hHeld, (rx HO241.out), (kx BK225.out), (kx BK246.out), GW246.out, GE246.out, NB225_246.out, NB246_225.out, (bx HB.out)⟩)
          skip
          refine box_step ?hg (N := 7) ?hd (cs := #[.slice none 0 0]) (t := 41) ?hr ?_; (case hd => rfl); (case hg => rfl); (case hr => first | (go_simp; done) | (go_simp; rfl))
          intro gb247 hg w38 hbox hb
          replace HO241 := zm (Kd.R_below (rx HO241.out) hb)
          have BK247 := zm (hbox)
          have GW247 := zm ((by rw [hg]; exact (below_size (bx HB.out)) : w.heap.size ≤ gb247))
          have GE247 := zm ((by rw [hg]; exact (below_size (bx HB.out)) : w.heap.size ≤ gb247))
          replace HB := zm (below_step (bx HB.out) hb)
          have NB225_247 := zm ((by rw [hg]; exact Nat.ne_of_lt (blk_lt (g := gb225) (o := .cells #[.slice A0_0 l0_0.length c0_0, .slice A0_1 l0_1.length c0_1] 25 (0, 0)) (kx BK225.out)) : gb225 ≠ gb247))
          have NB247_225 := zm ((by rw [hg]; exact Nat.ne_of_gt (blk_lt (g := gb225) (o := .cells #[.slice A0_0 l0_0.length c0_0, .slice A0_1 l0_1.length c0_1] 25 (0, 0)) (kx BK225.out)) : gb247 ≠ gb225))
          replace BK225 := zm (kB (kx BK225.out) hb)
          clear hb hbox hg
          refine hK.out _ _ ⟨bc0 BK225.out, bc1 BK225.out⟩ (fun hHeld => ?_)
          clear hK K
          refine norm_ (a' := ?_) ?_ ?_
          rotate_left
          ·show Act.put _ (some 7) _ = _
           simp only [Act.put, sS, sZ, sC, i64_w, i32_w]
           rfl
          exact norm_ (by simp only [putAll, Act.put, sS, sZ, sC] <;> rfl) (hJ2_3_6_9 (v240, gb247) _ ⟨hHeld, (rx HO241.out), (kx BK225.out), (kx BK247.out), GW247.out, GE247.out, NB225_247.out, NB247_225.out, (bx HB.out)⟩)
         skip
         rintro ⟨v240, gb246, gb247⟩ w38 ⟨hS_, h0_, h1_, h2_, h3_, h4_, h5_, h6_, h7_, h8_, h9_, h10_, h11_, h12_, h13_, h14_⟩
         have HO241 : Aside0 (Kd.R Kd.bool 4 w38 w.heap.size (fun _ => True) v240 t239) := ⟨h0_⟩
         replace BK225 : Aside0 (w38.heap[gb225]? = some (.cells #[.slice A0_0 l0_0.length c0_0, .slice A0_1 l0_1.length c0_1] 25 (0, 0))) := ⟨h1_⟩
         have BK246 : Aside0 (w38.heap[gb246]? = some (.cells #[.slice none 0 0] 41 (0, 0))) := ⟨h2_⟩
         have BK247 : Aside0 (w38.heap[gb247]? = some (.cells #[.slice none 0 0] 41 (0, 0))) := ⟨h3_⟩
         have GW246 : Aside0 (w.heap.size ≤ gb246) := ⟨h4_⟩
         have GE246 : Aside0 (w.heap.size ≤ gb246) := ⟨h5_⟩
         have NB225_246 : Aside0 (gb225 ≠ gb246) := ⟨h6_⟩
         have NB246_225 : Aside0 (gb246 ≠ gb225) := ⟨h7_⟩
         have NB247_246 : Aside0 (gb247 ≠ gb246) := ⟨h8_⟩
         have NB246_247 : Aside0 (gb246 ≠ gb247) := ⟨h9_⟩
         have GW247 : Aside0 (w.heap.size ≤ gb247) := ⟨h10_⟩
         have GE247 : Aside0 (w.heap.size ≤ gb247) := ⟨h11_⟩
         have NB225_247 : Aside0 (gb225 ≠ gb247) := ⟨h12_⟩
         have NB247_225 : Aside0 (gb247 ≠ gb225) := ⟨h13_⟩
         replace HB : Aside0 (Below w.heap.size w w38) := ⟨h14_⟩
         clear h0_ h1_ h2_ h3_ h4_ h5_ h6_ h7_ h8_ h9_ h10_ h11_ h12_ h13_ h14_
         have hHeld : w38.cell? ⟨gb225, 0, none⟩ = some (.slice A0_0 l0_0.length c0_0) ∧ w38.cell? ⟨gb225, 1, none⟩ = some (.slice A0_1 l0_1.length c0_1) := hS_
         refine norm_ (a' := ?_) ?_ ?_
         rotate_left
         ·simp only [putAll, Act.put, sS, sZ, sC]
          rfl
         refine one_ (i := 6) (N := some 50) #[Y,Y,Y,Y,Y,Y,Y,Z,Y,Y,Z,Z] rfl rfl (one_of HT_.out (by kernel_rfl)) (by decide) (fun K hK => ?_)
         refine goes_ Tryd.func16 (by kernel_rfl) rfl #[.agg #[.slice A0_0 l0_0.length c0_0, .slice A0_1 l0_1.length c0_1]] (by rfl) rfl rfl ag ?_
         with_reducible refine (net_End.calls kj1 _ _ l0_0 _ _ l0_1 t242 _ ?side1 ?side2 ?side3 ?side4 A30.out).mono ?_
         (case side1 => exact cx (Kd.C_below HR0_0.out HB.out))
         (case side2 => exact HC0_0.out)
         (case side3 => exact cx (Kd.C_below HR0_1.out HB.out))
         (case side4 => exact HC0_1.out)
         rintro e w39 ⟨rfl, hb⟩
         refine ⟨_, rfl, ?_⟩
         replace HO241 := zm (Kd.R_below (rx HO241.out) hb)
         replace BK225 := zm (kB (kx BK225.out) hb)
         replace BK246 := zm (kB (kx BK246.out) hb)
         replace BK247 := zm (kB (kx BK247.out) hb)
         replace HB := zm (below_step (bx HB.out) hb)
         (try clear hb)
         (try clear hb2)
         (try clear hk)
         (try clear hi)
         refine hK.out _ _ ⟨bc0 BK225.out, bc1 BK225.out⟩ (fun hHeld => ?_)
         clear hK K
         refine norm_ (a' := ?_) ?_ ?_
         rotate_left
         ·show Act.put _ (some 50) _ = _
          simp only [Act.put, sS, sZ, sC, i64_w, i32_w]
          rfl
         exact norm_ (by simp only [putAll, Act.put, sS, sZ, sC] <;> rfl) (hJ2_3_6_8_9 (v240, gb246, gb247) _ ⟨hHeld, (rx HO241.out), (kx BK225.out), (kx BK246.out), (kx BK247.out), GW246.out, GE246.out, NB225_246.out, NB246_225.out, NB247_246.out, NB246_247.out, GW247.out, GE247.out, NB225_247.out, NB247_225.out, (bx HB.out)⟩)
        skip
        rintro ⟨v240, gb247⟩ w38 ⟨hS_, h0_, h1_, h2_, h3_, h4_, h5_, h6_, h7_⟩
        have HO241 : Aside0 (Kd.R Kd.bool 4 w38 w.heap.size (fun _ => True) v240 t239) := ⟨h0_⟩
        replace BK225 : Aside0 (w38.heap[gb225]? = some (.cells #[.slice A0_0 l0_0.length c0_0, .slice A0_1 l0_1.length c0_1] 25 (0, 0))) := ⟨h1_⟩
        have BK247 : Aside0 (w38.heap[gb247]? = some (.cells #[.slice none 0 0] 41 (0, 0))) := ⟨h2_⟩
        have GW247 : Aside0 (w.heap.size ≤ gb247) := ⟨h3_⟩
        have GE247 : Aside0 (w.heap.size ≤ gb247) := ⟨h4_⟩
        have NB225_247 : Aside0 (gb225 ≠ gb247) := ⟨h5_⟩
        have NB247_225 : Aside0 (gb247 ≠ gb225) := ⟨h6_⟩
        replace HB : Aside0 (Below w.heap.size w w38) := ⟨h7_⟩
        clear h0_ h1_ h2_ h3_ h4_ h5_ h6_ h7_
        have hHeld : w38.cell? ⟨gb225, 0, none⟩ = some (.slice A0_0 l0_0.length c0_0) ∧ w38.cell? ⟨gb225, 1, none⟩ = some (.slice A0_1 l0_1.length c0_1) := hS_
        refine norm_ (a' := ?_) ?_ ?_
        rotate_left
        ·simp only [putAll, Act.put, sS, sZ, sC]
         rfl
        refine two_ (i := 7) (j := 8) (Ni := some 51) (Nj := some 6) #[Y,Y,Y,Y,Y,Y,Y,Y,Z,Y,Z,Z] #[Y,Y,Y,Y,Y,Y,Y,Z,Y,Y,Z,Z] rfl rfl rfl rfl (two_of HT_.out (by kernel_rfl)) (by decide) (by decide) (fun K hK => ?_) (fun K hK => ?_)
        ·skip
         refine goes_ Tryd.func43 (by kernel_rfl) rfl #[.agg #[.slice A0_0 l0_0.length c0_0, .slice A0_1 l0_1.length c0_1], .int .i64 t242, .bool true] (by rfl) rfl rfl ag ?_
         with_reducible refine (net_met.calls kj1 _ _ l0_0 _ _ l0_1 t242 true t243 _ ?side1 ?side2 ?side3 ?side4 A31.out).mono ?_
         (case side1 => exact cx (Kd.C_below HR0_0.out HB.out))
         (case side2 => exact HC0_0.out)
         (case side3 => exact cx (Kd.C_below HR0_1.out HB.out))
         (case side4 => exact HC0_1.out)
         rintro e w39 ⟨v244, rfl, ho0, hb⟩
         refine ⟨_, rfl, ?_⟩
         have HO245 := zm (Kd.R_lower (Kd.R_new' ho0 (Kd.R_lt (rx HO241.out))) (below_size (bx HB.out)))
         replace HO241 := zm (Kd.R_elder' (rx HO241.out) (by first | exact Kd.R_base ho0 | exact Kd.N_base ho0 | exact Kd.S_base ho0 | exact Kd.R_base ho0) hb)
         replace BK225 := zm (kB (kx BK225.out) hb)
         replace BK247 := zm (kB (kx BK247.out) hb)
         replace HB := zm (below_step (bx HB.out) hb)
         (try clear hb)
         (try clear hb2)
         (try clear hk)
         (try clear hi)
         (try clear ho0)
         refine hK.out _ _ ⟨bc0 BK225.out, bc1 BK225.out⟩ (fun hHeld => ?_)
         clear hK K
         refine norm_ (a' := ?_) ?_ ?_
         rotate_left
         ·show Act.put _ (some 51) _ = _
          simp only [Act.put, sS, sZ, sC, i64_w, i32_w]
          rfl
         exact norm_ (by simp only [putAll, Act.put, sS, sZ, sC] <;> rfl) (hJ2_3_6_7_9 (v240, v244, gb247) _ ⟨hHeld, (rx (Kd.R_mono HO241.out (fun _ hk => hk.2))), (rx (Kd.R_mono HO245.out (fun _ hk => hk.2))), (kx BK225.out), (kx BK247.out), GW247.out, GE247.out, NB225_247.out, NB247_225.out, (bx HB.out)⟩)
        skip
        refine box_step ?hg (N := 6) ?hd (cs := #[.slice none 0 0]) (t := 41) ?hr ?_; (case hd => rfl); (case hg => rfl); (case hr => first | (go_simp; done) | (go_simp; rfl))
        intro gb246 hg w39 hbox hb
        replace HO241 := zm (Kd.R_below (rx HO241.out) hb)
        have BK246 := zm (hbox)
        have GW246 := zm ((by rw [hg]; exact (below_size (bx HB.out)) : w.heap.size ≤ gb246))
        have GE246 := zm ((by rw [hg]; exact (below_size (bx HB.out)) : w.heap.size ≤ gb246))
        replace HB := zm (below_step (bx HB.out) hb)
        have NB225_246 := zm ((by rw [hg]; exact Nat.ne_of_lt (blk_lt (g := gb225) (o := .cells #[.slice A0_0 l0_0.length c0_0, .slice A0_1 l0_1.length c0_1] 25 (0, 0)) (kx BK225.out)) : gb225 ≠ gb246))
        have NB246_225 := zm ((by rw [hg]; exact Nat.ne_of_gt (blk_lt (g := gb225) (o := .cells #[.slice A0_0 l0_0.length c0_0, .slice A0_1 l0_1.length c0_1] 25 (0, 0)) (kx BK225.out)) : gb246 ≠ gb225))
        replace BK225 := zm (kB (kx BK225.out) hb)
        have NB247_246 := zm ((by rw [hg]; exact Nat.ne_of_lt (blk_lt (g := gb247) (o := .cells #[.slice none 0 0] 41 (0, 0)) (kx BK247.out)) : gb247 ≠ gb246))
        have NB246_247 := zm ((by rw [hg]; exact Nat.ne_of_gt (blk_lt (g := gb247) (o := .cells #[.slice none 0 0] 41 (0, 0)) (kx BK247.out)) : gb246 ≠ gb247))
        replace BK247 := zm (kB (kx BK247.out) hb)
        clear hb hbox hg
        refine hK.out _ _ ⟨bc0 BK225.out, bc1 BK225.out⟩ (fun hHeld => ?_)
        clear hK K
        refine norm_ (a' := ?_) ?_ ?_
        rotate_left
        ·show Act.put _ (some 6) _ = _
         simp only [Act.put, sS, sZ, sC, i64_w, i32_w]
         rfl
        exact norm_ (by simp only [putAll, Act.put, sS, sZ, sC] <;> rfl) (hJ2_3_6_8_9 (v240, gb246, gb247) _ ⟨hHeld, (rx HO241.out), (kx BK225.out), (kx BK246.out), (kx BK247.out), GW246.out, GE246.out, NB225_246.out, NB246_225.out, NB247_246.out, NB246_247.out, GW247.out, GE247.out, NB225_247.out, NB247_225.out, (bx HB.out)⟩)
       skip
       rintro ⟨v240, gb246⟩ w38 ⟨hS_, h0_, h1_, h2_, h3_, h4_, h5_, h6_, h7_⟩
       have HO241 : Aside0 (Kd.R Kd.bool 4 w38 w.heap.size (fun _ => True) v240 t239) := ⟨h0_⟩
       replace BK225 : Aside0 (w38.heap[gb225]? = some (.cells #[.slice A0_0 l0_0.length c0_0, .slice A0_1 l0_1.length c0_1] 25 (0, 0))) := ⟨h1_⟩
       have BK246 : Aside0 (w38.heap[gb246]? = some (.cells #[.slice none 0 0] 41 (0, 0))) := ⟨h2_⟩
       have GW246 : Aside0 (w.heap.size ≤ gb246) := ⟨h3_⟩
       have GE246 : Aside0 (w.heap.size ≤ gb246) := ⟨h4_⟩
       have NB225_246 : Aside0 (gb225 ≠ gb246) := ⟨h5_⟩
       have NB246_225 : Aside0 (gb246 ≠ gb225) := ⟨h6_⟩
       replace HB : Aside0 (Below w.heap.size w w38) := ⟨h7_⟩
       clear h0_ h1_ h2_ h3_ h4_ h5_ h6_ h7_
       have hHeld : w38.cell? ⟨gb225, 0, none⟩ = some (.slice A0_0 l0_0.length c0_0) ∧ w38.cell? ⟨gb225, 1, none⟩ = some (.slice A0_1 l0_1.length c0_1) := hS_
       refine norm_ (a' := ?_) ?_ ?_
       rotate_left
       ·simp only [putAll, Act.put, sS, sZ, sC]
        rfl
       refine two_ (i := 7) (j := 9) (Ni := some 51) (Nj := some 7) #[Y,Y,Y,Y,Y,Y,Y,Y,Y,Z,Z,Z] #[Y,Y,Y,Y,Y,Y,Y,Z,Y,Y,Z,Z] rfl rfl rfl rfl (two_of HT_.out (by kernel_rfl)) (by decide) (by decide) (fun K hK => ?_) (fun K hK => ?_)
       ·skip
        refine goes_ Tryd.func43 (by kernel_rfl) rfl #[.agg #[.slice A0_0 l0_0.length c0_0, .slice A0_1 l0_1.length c0_1], .int .i64 t242, .bool true] (by rfl) rfl rfl ag ?_
        with_reducible refine (net_met.calls kj1 _ _ l0_0 _ _ l0_1 t242 true t243 _ ?side1 ?side2 ?side3 ?side4 A31.out).mono ?_
        (case side1 => exact cx (Kd.C_below HR0_0.out HB.out))
        (case side2 => exact HC0_0.out)
        (case side3 => exact cx (Kd.C_below HR0_1.out HB.out))
        (case side4 => exact HC0_1.out)
        rintro e w39 ⟨v244, rfl, ho0, hb⟩
        refine ⟨_, rfl, ?_⟩
        have HO245 := zm (Kd.R_lower (Kd.R_new' ho0 (Kd.R_lt (rx HO241.out))) (below_size (bx HB.out)))
        replace HO241 := zm (Kd.R_elder' (rx HO241.out) (by first | exact Kd.R_base ho0 | exact Kd.N_base ho0 | exact Kd.S_base ho0 | exact Kd.R_base ho0) hb)
        replace BK225 := zm (kB (kx BK225.out) hb)
        replace BK246 := zm (kB (kx BK246.out) hb)
        replace HB := zm (below_step (bx HB.out) hb)
        (try clear hb)
        (try clear hb2)
        (try clear hk)
        (try clear hi)
        (try clear ho0)
        refine hK.out _ _ ⟨bc0 BK225.out, bc1 BK225.out⟩ (fun hHeld => ?_)
        clear hK K
        refine norm_ (a' := ?_) ?_ ?_
        rotate_left
        ·show Act.put _ (some 51) _ = _
         simp only [Act.put, sS, sZ, sC, i64_w, i32_w]
         rfl
        exact norm_ (by simp only [putAll, Act.put, sS, sZ, sC] <;> rfl) (hJ2_3_6_7_8 (v240, v244, gb246) _ ⟨hHeld, (rx (Kd.R_mono HO241.out (fun _ hk => hk.2))), (rx (Kd.R_mono HO245.out (fun _ hk => hk.2))), (kx BK225.out), (kx BK246.out), GW246.out, GE246.out, NB225_246.out, NB246_225.out, (bx HB.out)⟩)
       skip
       refine box_step ?hg (N := 7) ?hd (cs := #[.slice none 0 0]) (t := 41) ?hr ?_; (case hd => rfl); (case hg => rfl); (case hr => first | (go_simp; done) | (go_simp; rfl))
       intro gb247 hg w39 hbox hb
       replace HO241 := zm (Kd.R_below (rx HO241.out) hb)
       have BK247 := zm (hbox)
       have GW247 := zm ((by rw [hg]; exact (below_size (bx HB.out)) : w.heap.size ≤ gb247))
       have GE247 := zm ((by rw [hg]; exact (below_size (bx HB.out)) : w.heap.size ≤ gb247))
       replace HB := zm (below_step (bx HB.out) hb)
       have NB225_247 := zm ((by rw [hg]; exact Nat.ne_of_lt (blk_lt (g := gb225) (o := .cells #[.slice A0_0 l0_0.length c0_0, .slice A0_1 l0_1.length c0_1] 25 (0, 0)) (kx BK225.out)) : gb225 ≠ gb247))
       have NB247_225 := zm ((by rw [hg]; exact Nat.ne_of_gt (blk_lt (g := gb225) (o := .cells #[.slice A0_0 l0_0.length c0_0, .slice A0_1 l0_1.length c0_1] 25 (0, 0)) (kx BK225.out)) : gb247 ≠ gb225))
       replace BK225 := zm (kB (kx BK225.out) hb)
       have NB246_247 := zm ((by rw [hg]; exact Nat.ne_of_lt (blk_lt (g := gb246) (o := .cells #[.slice none 0 0] 41 (0, 0)) (kx BK246.out)) : gb246 ≠ gb247))
       have NB247_246 := zm ((by rw [hg]; exact Nat.ne_of_gt (blk_lt (g := gb246) (o := .cells #[.slice none 0 0] 41 (0, 0)) (kx BK246.out)) : gb247 ≠ gb246))
       replace BK246 := zm (kB (kx BK246.out) hb)
       clear hb hbox hg
       refine hK.out _ _ ⟨bc0 BK225.out, bc1 BK225.out⟩ (fun hHeld => ?_)
       clear hK K
       refine norm_ (a' := ?_) ?_ ?_
       rotate_left
       ·show Act.put _ (some 7) _ = _
        simp only [Act.put, sS, sZ, sC, i64_w, i32_w]
        rfl
       exact norm_ (by simp only [putAll, Act.put, sS, sZ, sC] <;> rfl) (hJ2_3_6_8_9 (v240, gb246, gb247) _ ⟨hHeld, (rx HO241.out), (kx BK225.out), (kx BK246.out), (kx BK247.out), GW246.out, GE246.out, NB225_246.out, NB246_225.out, NB247_246.out, NB246_247.out, GW247.out, GE247.out, NB225_247.out, NB247_225.out, (bx HB.out)⟩)
      skip
      rintro ⟨v240, v244⟩ w38 ⟨hS_, h0_, h1_, h2_, h3_⟩
      have HO241 : Aside0 (Kd.R Kd.bool 4 w38 w.heap.size (fun k_ => some k_ ≠ (v244 : Value).ownBlock) v240 t239) := ⟨h0_⟩
      have HO245 : Aside0 (Kd.R Kd.bool 4 w38 w.heap.size (fun k_ => some k_ ≠ (v240 : Value).ownBlock) v244 t243) := ⟨h1_⟩
      replace BK225 : Aside0 (w38.heap[gb225]? = some (.cells #[.slice A0_0 l0_0.length c0_0, .slice A0_1 l0_1.length c0_1] 25 (0, 0))) := ⟨h2_⟩
      replace HB : Aside0 (Below w.heap.size w w38) := ⟨h3_⟩
      clear h0_ h1_ h2_ h3_
      have hHeld : w38.cell? ⟨gb225, 0, none⟩ = some (.slice A0_0 l0_0.length c0_0) ∧ w38.cell? ⟨gb225, 1, none⟩ = some (.slice A0_1 l0_1.length c0_1) := hS_
      refine norm_ (a' := ?_) ?_ ?_
      rotate_left
      ·simp only [putAll, Act.put, sS, sZ, sC]
       rfl
      refine two_ (i := 8) (j := 9) (Ni := some 6) (Nj := some 7) #[Y,Y,Y,Y,Y,Y,Y,Y,Y,Z,Z,Z] #[Y,Y,Y,Y,Y,Y,Y,Y,Z,Y,Z,Z] rfl rfl rfl rfl (two_of HT_.out (by kernel_rfl)) (by decide) (by decide) (fun K hK => ?_) (fun K hK => ?_)
      ·skip
       refine box_step ?hg (N := 6) ?hd (cs := #[.slice none 0 0]) (t := 41) ?hr ?_; (case hd => rfl); (case hg => rfl); (case hr => first | (go_simp; done) | (go_simp; rfl))
       intro gb246 hg w39 hbox hb
       replace HO241 := zm (Kd.R_below (rx HO241.out) hb)
       replace HO245 := zm (Kd.R_below (rx HO245.out) hb)
       have BK246 := zm (hbox)
       have GW246 := zm ((by rw [hg]; exact (below_size (bx HB.out)) : w.heap.size ≤ gb246))
       have GE246 := zm ((by rw [hg]; exact (below_size (bx HB.out)) : w.heap.size ≤ gb246))
       replace HB := zm (below_step (bx HB.out) hb)
       have NB225_246 := zm ((by rw [hg]; exact Nat.ne_of_lt (blk_lt (g := gb225) (o := .cells #[.slice A0_0 l0_0.length c0_0, .slice A0_1 l0_1.length c0_1] 25 (0, 0)) (kx BK225.out)) : gb225 ≠ gb246))
       have NB246_225 := zm ((by rw [hg]; exact Nat.ne_of_gt (blk_lt (g := gb225) (o := .cells #[.slice A0_0 l0_0.length c0_0, .slice A0_1 l0_1.length c0_1] 25 (0, 0)) (kx BK225.out)) : gb246 ≠ gb225))
       replace BK225 := zm (kB (kx BK225.out) hb)
       clear hb hbox hg
       refine hK.out _ _ ⟨bc0 BK225.out, bc1 BK225.out⟩ (fun hHeld => ?_)
       clear hK K
       refine norm_ (a' := ?_) ?_ ?_
       rotate_left
       ·show Act.put _ (some 6) _ = _
        simp only [Act.put, sS, sZ, sC, i64_w, i32_w]
        rfl
       exact norm_ (by simp only [putAll, Act.put, sS, sZ, sC] <;> rfl) (hJ2_3_6_7_8 (v240, v244, gb246) _ ⟨hHeld, (rx HO241.out), (rx HO245.out), (kx BK225.out), (kx BK246.out), GW246.out, GE246.out, NB225_246.out, NB246_225.out, (bx HB.out)⟩)
      skip
      refine box_step ?hg (N := 7) ?hd (cs := #[.slice none 0 0]) (t := 41) ?hr ?_; (case hd => rfl); (case hg => rfl); (case hr => first | (go_simp; done) | (go_simp; rfl))
      intro gb247 hg w39 hbox hb
      replace HO241 := zm (Kd.R_below (rx HO241.out) hb)
      replace HO245 := zm (Kd.R_below (rx HO245.out) hb)
      have BK247 := zm (hbox)
      have GW247 := zm ((by rw [hg]; exact (below_size (bx HB.out)) : w.heap.size ≤ gb247))
      have GE247 := zm ((by rw [hg]; exact (below_size (bx HB.out)) : w.heap.size ≤ gb247))
      replace HB := zm (below_step (bx HB.out) hb)
      have NB225_247 := zm ((by rw [hg]; exact Nat.ne_of_lt (blk_lt (g := gb225) (o := .cells #[.slice A0_0 l0_0.length c0_0, .slice A0_1 l0_1.length c0_1] 25 (0, 0)) (kx BK225.out)) : gb225 ≠ gb247))
      have NB247_225 := zm ((by rw [hg]; exact Nat.ne_of_gt (blk_lt (g := gb225) (o := .cells #[.slice A0_0 l0_0.length c0_0, .slice A0_1 l0_1.length c0_1] 25 (0, 0)) (kx BK225.out)) : gb247 ≠ gb225))
      replace BK225 := zm (kB (kx BK225.out) hb)
      clear hb hbox hg
      refine hK.out _ _ ⟨bc0 BK225.out, bc1 BK225.out⟩ (fun hHeld => ?_)
      clear hK K
      refine norm_ (a' := ?_) ?_ ?_
      rotate_left
      ·show Act.put _ (some 7) _ = _
       simp only [Act.put, sS, sZ, sC, i64_w, i32_w]
       rfl
      exact norm_ (by simp only [putAll, Act.put, sS, sZ, sC] <;> rfl) (hJ2_3_6_7_9 (v240, v244, gb247) _ ⟨hHeld, (rx HO241.out), (rx HO245.out), (kx BK225.out), (kx BK247.out), GW247.out, GE247.out, NB225_247.out, NB247_225.out, (bx HB.out)⟩)
     skip
     rintro ⟨v240, gb246, gb247⟩ w39 ⟨hS_, h0_, h1_, h2_, h3_, h4_, h5_, h6_, h7_, h8_, h9_, h10_, h11_, h12_, h13_, h14_⟩
     have HO241 : Aside0 (Kd.R Kd.bool 4 w39 w.heap.size (fun _ => True) v240 t239) := ⟨h0_⟩
     replace BK225 : Aside0 (w39.heap[gb225]? = some (.cells #[.slice A0_0 l0_0.length c0_0, .slice A0_1 l0_1.length c0_1] 25 (0, 0))) := ⟨h1_⟩
     have BK246 : Aside0 (w39.heap[gb246]? = some (.cells #[.slice none 0 0] 41 (0, 0))) := ⟨h2_⟩
     have BK247 : Aside0 (w39.heap[gb247]? = some (.cells #[.slice none 0 0] 41 (0, 0))) := ⟨h3_⟩
     have GW246 : Aside0 (w.heap.size ≤ gb246) := ⟨h4_⟩
     have GE246 : Aside0 (w.heap.size ≤ gb246) := ⟨h5_⟩
     have NB225_246 : Aside0 (gb225 ≠ gb246) := ⟨h6_⟩
     have NB246_225 : Aside0 (gb246 ≠ gb225) := ⟨h7_⟩
     have NB247_246 : Aside0 (gb247 ≠ gb246) := ⟨h8_⟩
     have NB246_247 : Aside0 (gb246 ≠ gb247) := ⟨h9_⟩
     have GW247 : Aside0 (w.heap.size ≤ gb247) := ⟨h10_⟩
     have GE247 : Aside0 (w.heap.size ≤ gb247) := ⟨h11_⟩
     have NB225_247 : Aside0 (gb225 ≠ gb247) := ⟨h12_⟩
     have NB247_225 : Aside0 (gb247 ≠ gb225) := ⟨h13_⟩
     replace HB : Aside0 (Below w.heap.size w w39) := ⟨h14_⟩
     clear h0_ h1_ h2_ h3_ h4_ h5_ h6_ h7_ h8_ h9_ h10_ h11_ h12_ h13_ h14_
     have hHeld : w39.cell? ⟨gb225, 0, none⟩ = some (.slice A0_0 l0_0.length c0_0) ∧ w39.cell? ⟨gb225, 1, none⟩ = some (.slice A0_1 l0_1.length c0_1) := hS_
     refine norm_ (a' := ?_) ?_ ?_
     rotate_left
     ·simp only [putAll, Act.put, sS, sZ, sC]
      rfl
     refine one_ (i := 7) (N := some 51) #[Y,Y,Y,Y,Y,Y,Y,Y,Y,Y,Z,Z] rfl rfl (one_of HT_.out (by kernel_rfl)) (by decide) (fun K hK => ?_)
     refine goes_ Tryd.func43 (by kernel_rfl) rfl #[.agg #[.slice A0_0 l0_0.length c0_0, .slice A0_1 l0_1.length c0_1], .int .i64 t242, .bool true] (by rfl) rfl rfl ag ?_
     with_reducible refine (net_met.calls kj1 _ _ l0_0 _ _ l0_1 t242 true t243 _ ?side1 ?side2 ?side3 ?side4 A31.out).mono ?_
     (case side1 => exact cx (Kd.C_below HR0_0.out HB.out))
     (case side2 => exact HC0_0.out)
     (case side3 => exact cx (Kd.C_below HR0_1.out HB.out))
     (case side4 => exact HC0_1.out)
     rintro e w40 ⟨v244, rfl, ho0, hb⟩
     refine ⟨_, rfl, ?_⟩
     have HO245 := zm (Kd.R_lower (Kd.R_new' ho0 (Kd.R_lt (rx HO241.out))) (below_size (bx HB.out)))
     replace HO241 := zm (Kd.R_elder' (rx HO241.out) (by first | exact Kd.R_base ho0 | exact Kd.N_base ho0 | exact Kd.S_base ho0 | exact Kd.R_base ho0) hb)
     replace BK225 := zm (kB (kx BK225.out) hb)
     replace BK246 := zm (kB (kx BK246.out) hb)
     replace BK247 := zm (kB (kx BK247.out) hb)
     replace HB := zm (below_step (bx HB.out) hb)
     (try clear hb)
     (try clear hb2)
     (try clear hk)
     (try clear hi)
     (try clear ho0)
     refine hK.out _ _ ⟨bc0 BK225.out, bc1 BK225.out⟩ (fun hHeld => ?_)
     clear hK K
     refine norm_ (a' := ?_) ?_ ?_
     rotate_left
     ·show Act.put _ (some 51) _ = _
      simp only [Act.put, sS, sZ, sC, i64_w, i32_w]
      rfl
     exact norm_ (by simp only [putAll, Act.put, sS, sZ, sC] <;> rfl) (hJ2_3_6_7_8_9 (v240, v244, gb246, gb247) _ ⟨hHeld, (rx (Kd.R_mono HO241.out (fun _ hk => hk.2))), (rx (Kd.R_mono HO245.out (fun _ hk => hk.2))), (kx BK225.out), (kx BK246.out), (kx BK247.out), GW246.out, GE246.out, NB225_246.out, NB246_225.out, NB247_246.out, NB246_247.out, GW247.out, GE247.out, NB225_247.out, NB247_225.out, (bx HB.out)⟩)
    skip
    rintro ⟨v240, v244, gb247⟩ w39 ⟨hS_, h0_, h1_, h2_, h3_, h4_, h5_, h6_, h7_, h8_⟩
    have HO241 : Aside0 (Kd.R Kd.bool 4 w39 w.heap.size (fun k_ => some k_ ≠ (v244 : Value).ownBlock) v240 t239) := ⟨h0_⟩
    have HO245 : Aside0 (Kd.R Kd.bool 4 w39 w.heap.size (fun k_ => some k_ ≠ (v240 : Value).ownBlock) v244 t243) := ⟨h1_⟩
    replace BK225 : Aside0 (w39.heap[gb225]? = some (.cells #[.slice A0_0 l0_0.length c0_0, .slice A0_1 l0_1.length c0_1] 25 (0, 0))) := ⟨h2_⟩
    have BK247 : Aside0 (w39.heap[gb247]? = some (.cells #[.slice none 0 0] 41 (0, 0))) := ⟨h3_⟩
    have GW247 : Aside0 (w.heap.size ≤ gb247) := ⟨h4_⟩
    have GE247 : Aside0 (w.heap.size ≤ gb247) := ⟨h5_⟩
    have NB225_247 : Aside0 (gb225 ≠ gb247) := ⟨h6_⟩
    have NB247_225 : Aside0 (gb247 ≠ gb225) := ⟨h7_⟩
    replace HB : Aside0 (Below w.heap.size w w39) := ⟨h8_⟩
    clear h0_ h1_ h2_ h3_ h4_ h5_ h6_ h7_ h8_
    have hHeld : w39.cell? ⟨gb225, 0, none⟩ = some (.slice A0_0 l0_0.length c0_0) ∧ w39.cell? ⟨gb225, 1, none⟩ = some (.slice A0_1 l0_1.length c0_1) := hS_
    refine norm_ (a' := ?_) ?_ ?_
    rotate_left
    ·simp only [putAll, Act.put, sS, sZ, sC]
     rfl
    refine one_ (i := 8) (N := some 6) #[Y,Y,Y,Y,Y,Y,Y,Y,Y,Y,Z,Z] rfl rfl (one_of HT_.out (by kernel_rfl)) (by decide) (fun K hK => ?_)
    refine box_step ?hg (N := 6) ?hd (cs := #[.slice none 0 0]) (t := 41) ?hr ?_; (case hd => rfl); (case hg => rfl); (case hr => first | (go_simp; done) | (go_simp; rfl))
    intro gb246 hg w40 hbox hb
    replace HO241 := zm (Kd.R_below (rx HO241.out) hb)
    replace HO245 := zm (Kd.R_below (rx HO245.out) hb)
    have BK246 := zm (hbox)
    have GW246 := zm ((by rw [hg]; exact (below_size (bx HB.out)) : w.heap.size ≤ gb246))
    have GE246 := zm ((by rw [hg]; exact (below_size (bx HB.out)) : w.heap.size ≤ gb246))
    replace HB := zm (below_step (bx HB.out) hb)
    have NB225_246 := zm ((by rw [hg]; exact Nat.ne_of_lt (blk_lt (g := gb225) (o := .cells #[.slice A0_0 l0_0.length c0_0, .slice A0_1 l0_1.length c0_1] 25 (0, 0)) (kx BK225.out)) : gb225 ≠ gb246))
    have NB246_225 := zm ((by rw [hg]; exact Nat.ne_of_gt (blk_lt (g := gb225) (o := .cells #[.slice A0_0 l0_0.length c0_0, .slice A0_1 l0_1.length c0_1] 25 (0, 0)) (kx BK225.out)) : gb246 ≠ gb225))
    replace BK225 := zm (kB (kx BK225.out) hb)
    have NB247_246 := zm ((by rw [hg]; exact Nat.ne_of_lt (blk_lt (g := gb247) (o := .cells #[.slice none 0 0] 41 (0, 0)) (kx BK247.out)) : gb247 ≠ gb246))
    have NB246_247 := zm ((by rw [hg]; exact Nat.ne_of_gt (blk_lt (g := gb247) (o := .cells #[.slice none 0 0] 41 (0, 0)) (kx BK247.out)) : gb246 ≠ gb247))
    replace BK247 := zm (kB (kx BK247.out) hb)
    clear hb hbox hg
    refine hK.out _ _ ⟨bc0 BK225.out, bc1 BK225.out⟩ (fun hHeld => ?_)
    clear hK K
    refine norm_ (a' := ?_) ?_ ?_
    rotate_left
    ·show Act.put _ (some 6) _ = _
     simp only [Act.put, sS, sZ, sC, i64_w, i32_w]
     rfl
    exact norm_ (by simp only [putAll, Act.put, sS, sZ, sC] <;> rfl) (hJ2_3_6_7_8_9 (v240, v244, gb246, gb247) _ ⟨hHeld, (rx HO241.out), (rx HO245.out), (kx BK225.out), (kx BK246.out), (kx BK247.out), GW246.out, GE246.out, NB225_246.out, NB246_225.out, NB247_246.out, NB246_247.out, GW247.out, GE247.out, NB225_247.out, NB247_225.out, (bx HB.out)⟩)
   skip
   rintro ⟨v240, v244, gb246⟩ w39 ⟨hS_, h0_, h1_, h2_, h3_, h4_, h5_, h6_, h7_, h8_⟩
   have HO241 : Aside0 (Kd.R Kd.bool 4 w39 w.heap.size (fun k_ => some k_ ≠ (v244 : Value).ownBlock) v240 t239) := ⟨h0_⟩
   have HO245 : Aside0 (Kd.R Kd.bool 4 w39 w.heap.size (fun k_ => some k_ ≠ (v240 : Value).ownBlock) v244 t243) := ⟨h1_⟩
   replace BK225 : Aside0 (w39.heap[gb225]? = some (.cells #[.slice A0_0 l0_0.length c0_0, .slice A0_1 l0_1.length c0_1] 25 (0, 0))) := ⟨h2_⟩
   have BK246 : Aside0 (w39.heap[gb246]? = some (.cells #[.slice none 0 0] 41 (0, 0))) := ⟨h3_⟩
   have GW246 : Aside0 (w.heap.size ≤ gb246) := ⟨h4_⟩
   have GE246 : Aside0 (w.heap.size ≤ gb246) := ⟨h5_⟩
   have NB225_246 : Aside0 (gb225 ≠ gb246) := ⟨h6_⟩
   have NB246_225 : Aside0 (gb246 ≠ gb225) := ⟨h7_⟩
   replace HB : Aside0 (Below w.heap.size w w39) := ⟨h8_⟩
   clear h0_ h1_ h2_ h3_ h4_ h5_ h6_ h7_ h8_
   have hHeld : w39.cell? ⟨gb225, 0, none⟩ = some (.slice A0_0 l0_0.length c0_0) ∧ w39.cell? ⟨gb225, 1, none⟩ = some (.slice A0_1 l0_1.length c0_1) := hS_
   refine norm_ (a' := ?_) ?_ ?_
   rotate_left
   ·simp only [putAll, Act.put, sS, sZ, sC]
    rfl
   refine one_ (i := 9) (N := some 7) #[Y,Y,Y,Y,Y,Y,Y,Y,Y,Y,Z,Z] rfl rfl (one_of HT_.out (by kernel_rfl)) (by decide) (fun K hK => ?_)
   refine box_step ?hg (N := 7) ?hd (cs := #[.slice none 0 0]) (t := 41) ?hr ?_; (case hd => rfl); (case hg => rfl); (case hr => first | (go_simp; done) | (go_simp; rfl))
   intro gb247 hg w40 hbox hb
   replace HO241 := zm (Kd.R_below (rx HO241.out) hb)
   replace HO245 := zm (Kd.R_below (rx HO245.out) hb)
   have BK247 := zm (hbox)
   have GW247 := zm ((by rw [hg]; exact (below_size (bx HB.out)) : w.heap.size ≤ gb247))
   have GE247 := zm ((by rw [hg]; exact (below_size (bx HB.out)) : w.heap.size ≤ gb247))
   replace HB := zm (below_step (bx HB.out) hb)
   have NB225_247 := zm ((by rw [hg]; exact Nat.ne_of_lt (blk_lt (g := gb225) (o := .cells #[.slice A0_0 l0_0.length c0_0, .slice A0_1 l0_1.length c0_1] 25 (0, 0)) (kx BK225.out)) : gb225 ≠ gb247))
   have NB247_225 := zm ((by rw [hg]; exact Nat.ne_of_gt (blk_lt (g := gb225) (o := .cells #[.slice A0_0 l0_0.length c0_0, .slice A0_1 l0_1.length c0_1] 25 (0, 0)) (kx BK225.out)) : gb247 ≠ gb225))
   replace BK225 := zm (kB (kx BK225.out) hb)
   have NB246_247 := zm ((by rw [hg]; exact Nat.ne_of_lt (blk_lt (g := gb246) (o := .cells #[.slice none 0 0] 41 (0, 0)) (kx BK246.out)) : gb246 ≠ gb247))
   have NB247_246 := zm ((by rw [hg]; exact Nat.ne_of_gt (blk_lt (g := gb246) (o := .cells #[.slice none 0 0] 41 (0, 0)) (kx BK246.out)) : gb247 ≠ gb246))
   replace BK246 := zm (kB (kx BK246.out) hb)
   clear hb hbox hg
   refine hK.out _ _ ⟨bc0 BK225.out, bc1 BK225.out⟩ (fun hHeld => ?_)
   clear hK K
   refine norm_ (a' := ?_) ?_ ?_
   rotate_left
   ·show Act.put _ (some 7) _ = _
    simp only [Act.put, sS, sZ, sC, i64_w, i32_w]
    rfl
   exact norm_ (by simp only [putAll, Act.put, sS, sZ, sC] <;> rfl) (hJ2_3_6_7_8_9 (v240, v244, gb246, gb247) _ ⟨hHeld, (rx HO241.out), (rx HO245.out), (kx BK225.out), (kx BK246.out), (kx BK247.out), GW246.out, GE246.out, NB225_246.out, NB246_225.out, NB247_246.out, NB246_247.out, GW247.out, GE247.out, NB225_247.out, NB247_225.out, (bx HB.out)⟩)
  rintro ⟨v240, v244, gb246, gb247⟩ w40 ⟨hS_, h0_, h1_, h2_, h3_, h4_, h5_, h6_, h7_, h8_, h9_, h10_, h11_, h12_, h13_, h14_, h15_⟩
  have HO241 : Aside0 (Kd.R Kd.bool 4 w40 w.heap.size (fun k_ => some k_ ≠ (v244 : Value).ownBlock) v240 t239) := ⟨h0_⟩
  have HO245 : Aside0 (Kd.R Kd.bool 4 w40 w.heap.size (fun k_ => some k_ ≠ (v240 : Value).ownBlock) v244 t243) := ⟨h1_⟩
  replace BK225 : Aside0 (w40.heap[gb225]? = some (.cells #[.slice A0_0 l0_0.length c0_0, .slice A0_1 l0_1.length c0_1] 25 (0, 0))) := ⟨h2_⟩
  have BK246 : Aside0 (w40.heap[gb246]? = some (.cells #[.slice none 0 0] 41 (0, 0))) := ⟨h3_⟩
  have BK247 : Aside0 (w40.heap[gb247]? = some (.cells #[.slice none 0 0] 41 (0, 0))) := ⟨h4_⟩
  have GW246 : Aside0 (w.heap.size ≤ gb246) := ⟨h5_⟩
  have GE246 : Aside0 (w.heap.size ≤ gb246) := ⟨h6_⟩
  have NB225_246 : Aside0 (gb225 ≠ gb246) := ⟨h7_⟩
  have NB246_225 : Aside0 (gb246 ≠ gb225) := ⟨h8_⟩
  have NB247_246 : Aside0 (gb247 ≠ gb246) := ⟨h9_⟩
  have NB246_247 : Aside0 (gb246 ≠ gb247) := ⟨h10_⟩
  have GW247 : Aside0 (w.heap.size ≤ gb247) := ⟨h11_⟩
  have GE247 : Aside0 (w.heap.size ≤ gb247) := ⟨h12_⟩
  have NB225_247 : Aside0 (gb225 ≠ gb247) := ⟨h13_⟩
  have NB247_225 : Aside0 (gb247 ≠ gb225) := ⟨h14_⟩
  replace HB : Aside0 (Below w.heap.size w w40) := ⟨h15_⟩
  clear h0_ h1_ h2_ h3_ h4_ h5_ h6_ h7_ h8_ h9_ h10_ h11_ h12_ h13_ h14_ h15_
  have hHeld : w40.cell? ⟨gb225, 0, none⟩ = some (.slice A0_0 l0_0.length c0_0) ∧ w40.cell? ⟨gb225, 1, none⟩ = some (.slice A0_1 l0_1.length c0_1) := hS_
  obtain ⟨Ao41, co41, eo41⟩ := Kd.R_slice HO241.out
  (first | subst eo41 | (injection eo41 with f1_ f2_ f3_; have f4_ := f1_.symm; have f5_ := f3_.symm; clear f1_ f2_ f3_; subst f4_; subst f5_))
  obtain ⟨Ao43, co43, eo43⟩ := Kd.R_slice HO245.out
  (first | subst eo43 | (injection eo43 with f1_ f2_ f3_; have f4_ := f1_.symm; have f5_ := f3_.symm; clear f1_ f2_ f3_; subst f4_; subst f5_))
  refine norm_ (a' := ?_) ?_ ?_
  rotate_left
  ·simp only [putAll, Act.put, sS, sZ, sC]
   rfl
  refine one_ (i := 10) (N := none) #[Y,Y,Y,Y,Y,Y,Y,Y,Y,Y,Y,Z] rfl rfl (one_of HT_.out (by kernel_rfl)) (by decide) (fun K hK => ?_)
  have hs42 : w40.cell? ⟨gb246, 0, none⟩ = some (.slice none 0 0) := bc0 BK246.out
  have hfs42 := bF BK246.out 0
  have hns42_0 := NB225_246.out
  have hns42_2 := NB247_246.out
  have hms42_0 := NB246_225.out
  have hms42_2 := NB246_247.out
  refine skip_ (w1 := ?_) (by rfl) rfl ?_ ?_
  rotate_left
  ·go_simp
   rfl
  refine hK.out _ _ ⟨((cell_far (p := ⟨gb246, _, none⟩) NB225_246.out _).trans (hHeld.1)), ((cell_far (p := ⟨gb246, _, none⟩) NB225_246.out _).trans (hHeld.2))⟩ (fun hHeld => ?_)
  clear hK K
  refine one_ (i := 11) (N := none) #[Y,Y,Y,Y,Y,Y,Y,Y,Y,Y,Y,Y] rfl rfl (one_of HT_.out (by kernel_rfl)) (by decide) (fun K hK => ?_)
  have hs44 : w40.cell? ⟨gb247, 0, none⟩ = some (.slice none 0 0) := bc0 BK247.out
  have hfs44 := bF BK247.out 0
  have hns44_0 := NB225_247.out
  have hns44_1 := NB246_247.out
  have hms44_0 := NB247_225.out
  have hms44_1 := NB247_246.out
  refine skip_ (w1 := ?_) (by rfl) rfl ?_ ?_
  rotate_left
  ·go_simp
   rfl
  refine hK.out _ _ ⟨((cell_far (p := ⟨gb247, _, none⟩) NB225_247.out _).trans (hHeld.1)), ((cell_far (p := ⟨gb247, _, none⟩) NB225_247.out _).trans (hHeld.2))⟩ (fun hHeld => ?_)
  clear hK K
  refine done_ (done_of HT_.out (by kernel_rfl)) ?_
  have hnb45 := NB225_246.out
  have hnc45 := NB246_225.out
  have hnb46 := NB225_247.out
  have hnc46 := NB247_225.out
  have hcz47_0 := bc0 BK225.out
  have hcz47_1 := bc1 BK225.out
  have hfz47_0 := bF BK225.out 0
  have hfz47_1 := bF BK225.out 1
  try go_wp2_with (first | ((with_reducible refine gate_callee (f := 37) rfl ?_); refine goesL_ (some 56) rfl rfl Tryd.func37 (by kernel_rfl) rfl #[.int .i64 4, .int .i64 (l0_0.length : Int), .func (.func 44) #[] #[.pointer (some ⟨gb246, 0, none⟩), .pointer (some ⟨gb247, 0, none⟩)]] rfl ag ?_; (with_reducible refine (net_places.calls kj1 4 (l0_0.length : Int) _ _ _ t248 _ ?side1 ?side2 A32.out).mono ?_); (case side1 => exact fun args_ w_ => enters_ Tryd.func44 (by kernel_rfl) rfl args_ w_); (case side2 => exact net_All_3.ok (by (with_reducible repeat first | apply kN | apply kD | apply kA); refine blk_far ?_ NB246_247.out _; (with_reducible repeat first | apply kN | apply kD | apply kA); refine blk_put (cs := #[.slice none 0 0]) ?_ 0 _ rfl; (with_reducible repeat first | apply kN | apply kD | apply kA); exact BK246.out) (by refine (Kd.R_reads' (e := 4) (base := w.heap.size) (ok := fun k_ => some k_ ≠ (.slice Ao43 t243.length co43 : Value).ownBlock) (n := t239.length) (c := co41) ?_).2.2; exact (rx (Kd.R_mono (Kd.R_mono (Kd.R_far (p := ⟨gb247, 0, none⟩) (Kd.R_far (p := ⟨gb246, 0, none⟩) (Kd.R_types (Kd.R_types HO241.out BK246.out (by decide)) BK247.out (by decide)) (fun _ hk => hk.1.2) (.slice Ao41 t239.length co41)) (fun _ hk => hk.2) (.slice Ao43 t243.length co43)) (fun _ h_ => h_.1)) (fun _ h_ => h_.1)))) (by exact (Kd.R_reads' HO241.out).2.1) (by (with_reducible repeat first | apply kN | apply kD | apply kA); refine blk_put (cs := #[.slice none 0 0]) ?_ 0 _ rfl; (with_reducible repeat first | apply kN | apply kD | apply kA); refine blk_far ?_ NB247_246.out _; (with_reducible repeat first | apply kN | apply kD | apply kA); exact BK247.out) (by refine (Kd.R_reads' (e := 4) (base := w.heap.size) (ok := fun k_ => some k_ ≠ (.slice Ao41 t239.length co41 : Value).ownBlock) (n := t243.length) (c := co43) ?_).2.2; exact (rx (Kd.R_mono (Kd.R_mono (Kd.R_far (p := ⟨gb247, 0, none⟩) (Kd.R_far (p := ⟨gb246, 0, none⟩) (Kd.R_types (Kd.R_types HO245.out BK246.out (by decide)) BK247.out (by decide)) (fun _ hk => hk.1.2) (.slice Ao41 t239.length co41)) (fun _ hk => hk.2) (.slice Ao43 t243.length co43)) (fun _ h_ => h_.1)) (fun _ h_ => h_.1)))) (by exact (Kd.R_reads' HO245.out).2.1)); rintro e w48 ⟨v249, rfl, ho0, hb⟩; refine ⟨_, rfl, ?_⟩; replace HO241 := zm (Kd.R_below (rx (Kd.R_mono (Kd.R_mono (Kd.R_far (p := ⟨gb247, 0, none⟩) (Kd.R_far (p := ⟨gb246, 0, none⟩) (Kd.R_types (Kd.R_types HO241.out BK246.out (by decide)) BK247.out (by decide)) (fun _ hk => hk.1.2) (.slice Ao41 t239.length co41)) (fun _ hk => hk.2) (.slice Ao43 t243.length co43)) (fun _ h_ => h_.1)) (fun _ h_ => h_.1))) hb); replace HO245 := zm (Kd.R_below (rx (Kd.R_mono (Kd.R_mono (Kd.R_far (p := ⟨gb247, 0, none⟩) (Kd.R_far (p := ⟨gb246, 0, none⟩) (Kd.R_types (Kd.R_types HO245.out BK246.out (by decide)) BK247.out (by decide)) (fun _ hk => hk.1.2) (.slice Ao41 t239.length co41)) (fun _ hk => hk.2) (.slice Ao43 t243.length co43)) (fun _ h_ => h_.1)) (fun _ h_ => h_.1))) hb); have HO250 := zm (Kd.R_lower ho0 (below_size (bx HB.out))); replace BK225 := zm (kB (g := gb225) (o := .cells #[.slice A0_0 l0_0.length c0_0, .slice A0_1 l0_1.length c0_1] 25 (0, 0)) (by (with_reducible repeat first | apply kN | apply kD | apply kA); refine blk_far ?_ NB225_247.out _; (with_reducible repeat first | apply kN | apply kD | apply kA); refine blk_far ?_ NB225_246.out _; (with_reducible repeat first | apply kN | apply kD | apply kA); exact BK225.out) hb); replace BK246 := zm (kB (g := gb246) (o := .cells #[.slice Ao41 t239.length co41] 41 (0, 0)) (by (with_reducible repeat first | apply kN | apply kD | apply kA); refine blk_far ?_ NB246_247.out _; (with_reducible repeat first | apply kN | apply kD | apply kA); refine blk_put (cs := #[.slice none 0 0]) ?_ 0 _ rfl; (with_reducible repeat first | apply kN | apply kD | apply kA); exact BK246.out) hb); replace BK247 := zm (kB (g := gb247) (o := .cells #[.slice Ao43 t243.length co43] 41 (0, 0)) (by (with_reducible repeat first | apply kN | apply kD | apply kA); refine blk_put (cs := #[.slice none 0 0]) ?_ 0 _ rfl; (with_reducible repeat first | apply kN | apply kD | apply kA); refine blk_far ?_ NB247_246.out _; (with_reducible repeat first | apply kN | apply kD | apply kA); exact BK247.out) hb); replace HB := zm (below_step (bx HB.out) hb); (try clear hb); (try clear hb2); (try clear hk); (try clear hi); (try clear ho0)))
  go_ret
  exact ⟨_, xe, rx HO250.out, bx HB.out⟩

end Go.Proofs.YtdaeiicdpfghlaaDoor.R
