import Derived.Test.YtdaeiicdpfghlaaDoorSx0
import Derived.Test.YtdaeiicdpfghlaaDoorSx1
import Derived.Test.YtdaeiicdpfghlaaDoorSx3
import Derived.Test.YtdaeiicdpfghlaaDoorSx5
import Derived.Test.YtdaeiicdpfghlaaDoorSx7
import Derived.Test.YtdaeiicdpfghlaaDoorSx10
import Derived.Test.YtdaeiicdpfghlaaDoorSx11
import Derived.Test.YtdaeiicdpfghlaaDoorSx20
import Derived.Test.YtdaeiicdpfghlaaDoorSx23
namespace Go.Proofs.YtdaeiicdpfghlaaDoor.R
open Go.RowKit Go.Proofs.YtdaeiicdpfghlaaDoorW.PrintWords Go.Proofs.YtdaeiicdpfghlaaDoorW.PrintLast Go.Proofs.YtdaeiicdpfghlaaDoorW.PrintMore
attribute [local go_sem] max2_int min2_int max_two min_two max_three min_three max_four min_four   -- for this text's walks alone
set_option linter.unusedVariables false
set_option linter.unusedSimpArgs false

mutual
def treenaillaw05_NetAll.l0 : Nat → List (S47) → Int → Int → List (S37) → List (S53) → Int → Int → Option (Bool)
 | 0, _, _, _, _, _, _, _ => none
 | k + 1, x3, x5, x6, x456000, x456001, x464000, x464001 => if x6 ≤ (mx (x456000.length : Int) (x456001.length : Int)) then ((treenailref05_Is.f k x456000 x456001 x464000 x6).bind fun t466 => (if x5 < (x3.length : Int) then (if 0 ≤ x5 then (if ((rd_T47 x3 x5).f1) = x6 then (treenaillaw05_NetAll.j1 k x3 x5 x6 t466 (((rd_T47 x3 x5).f0) == x464000) x456000 x456001 x464000 x464001) else (treenaillaw05_NetAll.j1 k x3 x5 x6 t466 false x456000 x456001 x464000 x464001)) else (none)) else (treenaillaw05_NetAll.j1 k x3 x5 x6 t466 false x456000 x456001 x464000 x464001))) else (if x5 = (x3.length : Int) then (if x5 > 0 then ((treenaillaw05_line.f k).bind fun t465 => (some t465)) else (some false)) else (some false))
def treenaillaw05_NetAll.j1 : Nat → List (S47) → Int → Int → Bool → Bool → List (S37) → List (S53) → Int → Int → Option (Bool)
 | 0, _, _, _, _, _, _, _, _, _ => none
 | k + 1, x3, x5, x6, x7, x8, x456000, x456001, x464000, x464001 => if (x7 != x8) = true then (some false) else (if x8 = true then (treenaillaw05_NetAll.l0 k x3 (wrap64 (x5 + 1)) (wrap64 (x6 + 1)) x456000 x456001 x464000 x464001) else (treenaillaw05_NetAll.l0 k x3 x5 (wrap64 (x6 + 1)) x456000 x456001 x464000 x464001))
end
def treenaillaw05_NetAll.f (k : Nat) (l0_0 : List (S37)) (l0_1 : List (S53)) : Option (Bool) := (treenaillaw05_large.f k l0_0 l0_1).bind fun t456 => (if t456 = true then ((treenaillaw05_line.f k).bind fun t457 => (some t457)) else ((net_All.f k l0_0 l0_1).bind fun t458 => ((treenailref05_Check.f k l0_0 l0_1).bind fun bt461 => (if bt461.1 = 0 then (if (t458.length : Int) = 0 then ((treenaillaw05_line.f k).bind fun t464 => (some t464)) else (some false)) else (treenaillaw05_NetAll.l0 k t458 0 0 l0_0 l0_1 bt461.1 bt461.2)))))
set_option maxRecDepth 100000 in
theorem treenaillaw05_NetAll.mono_l : ∀ k, (∀ y0 y1 y2 y3 y4 y5 y6, LeO (treenaillaw05_NetAll.l0 k y0 y1 y2 y3 y4 y5 y6) (treenaillaw05_NetAll.l0 (k + 1) y0 y1 y2 y3 y4 y5 y6)) ∧ (∀ y0 y1 y2 y3 y4 y5 y6 y7 y8, LeO (treenaillaw05_NetAll.j1 k y0 y1 y2 y3 y4 y5 y6 y7 y8) (treenaillaw05_NetAll.j1 (k + 1) y0 y1 y2 y3 y4 y5 y6 y7 y8))
 | 0 => ⟨fun _ _ _ _ _ _ _ r h => by first | (cases h; done) | simp [treenaillaw05_NetAll.l0] at h, fun _ _ _ _ _ _ _ _ _ r h => by first | (cases h; done) | simp [treenaillaw05_NetAll.j1] at h⟩
 | k + 1 => by
  obtain ⟨ih0, ih1⟩ := treenaillaw05_NetAll.mono_l k
  refine ⟨?_, ?_⟩
  all_goals intros
  all_goals first | unfold treenaillaw05_NetAll.l0 | unfold treenaillaw05_NetAll.j1
  all_goals repeat' first
  | (with_reducible exact ih0 _ _ _ _ _ _ _)
  | (with_reducible exact ih1 _ _ _ _ _ _ _ _ _)
  | (with_reducible exact net_All.mono _ _ _)
  | (with_reducible exact treenaillaw05_large.mono _ _ _)
  | (with_reducible exact treenaillaw05_line.mono _)
  | (with_reducible exact treenailref05_Check.mono _ _ _)
  | (with_reducible exact treenailref05_Is.mono _ _ _ _ _)
  | (with_reducible exact LeO.refl _)
  | (with_reducible exact LeO.none _)
  | (with_reducible refine LeO.ite ?_ ?_)
  | (with_reducible refine LeO.bind ?_ (fun _ => ?_))
  | refine LeO.ite ?_ ?_
  | refine LeO.bind ?_ (fun _ => ?_)
set_option maxRecDepth 100000 in
theorem treenaillaw05_NetAll.mono : ∀ a0 a1 k, LeO (treenaillaw05_NetAll.f k a0 a1) (treenaillaw05_NetAll.f (k + 1) a0 a1) := by
 intro a0 a1 k
 obtain ⟨ih0, ih1⟩ := treenaillaw05_NetAll.mono_l k
 unfold treenaillaw05_NetAll.f
 repeat' first
 | (with_reducible exact ih0 _ _ _ _ _ _ _)
 | (with_reducible exact ih1 _ _ _ _ _ _ _ _ _)
 | (with_reducible exact net_All.mono _ _ _)
 | (with_reducible exact treenaillaw05_large.mono _ _ _)
 | (with_reducible exact treenaillaw05_line.mono _)
 | (with_reducible exact treenailref05_Check.mono _ _ _)
 | (with_reducible exact treenailref05_Is.mono _ _ _ _ _)
 | (with_reducible exact LeO.refl _)
 | (with_reducible exact LeO.none _)
 | (with_reducible refine LeO.ite ?_ ?_)
 | (with_reducible refine LeO.bind ?_ (fun _ => ?_))
 | refine LeO.ite ?_ ?_
 | refine LeO.bind ?_ (fun _ => ?_)
set_option maxHeartbeats 8000000 in
set_option maxRecDepth 100000 in
theorem treenaillaw05_NetAll.calls (k : Nat) (A0_0 : Option Addr) (c0_0 : Nat) (l0_0 : List (S37)) (A0_1 : Option Addr) (c0_1 : Nat) (l0_1 : List (S53)) (r : Bool) (w : World) (hr0_0 : Kd.C k37 w A0_0 l0_0.length l0_0) (hc0_0 : l0_0.length ≤ c0_0) (hr0_1 : Kd.C k53 w A0_1 l0_1.length l0_1) (hc0_1 : l0_1.length ≤ c0_1) (h : treenaillaw05_NetAll.f k l0_0 l0_1 = some r) (hT : Words.Tab w) :
  Calls Tryd.prog 6 #[.agg #[.slice A0_0 l0_0.length c0_0, .slice A0_1 l0_1.length c0_1]] w fun e w' => e = .returned (.bool r) ∧ Below w.heap.size w w' := by
 have hu25 := Tryd.underlying25
 have hu31 := Tryd.underlying31
 have HR0_0 := zm hr0_0
 have HC0_0 := zm hc0_0
 clear hr0_0 hc0_0
 have HR0_1 := zm hr0_1
 have HC0_1 := zm hc0_1
 clear hr0_1 hc0_1
 have HB := zm (Below.refl w.heap.size w)
 have HT0 := zm hT
 clear hT
 have H : ((treenaillaw05_large.f k l0_0 l0_1).bind fun t456 => (if t456 = true then ((treenaillaw05_line.f k).bind fun t457 => (some t457)) else ((net_All.f k l0_0 l0_1).bind fun t458 => ((treenailref05_Check.f k l0_0 l0_1).bind fun bt461 => (if bt461.1 = 0 then (if (t458.length : Int) = 0 then ((treenaillaw05_line.f k).bind fun t464 => (some t464)) else (some false)) else (treenaillaw05_NetAll.l0 k t458 0 0 l0_0 l0_1 bt461.1 bt461.2)))))) = some r := h
 clear h
 replace H := Option.bind_eq_some_iff.mp H
 obtain ⟨t456, A20, H⟩ := H
 replace H : (if t456 = true then ((treenaillaw05_line.f k).bind fun t457 => (some t457)) else ((net_All.f k l0_0 l0_1).bind fun t458 => ((treenailref05_Check.f k l0_0 l0_1).bind fun bt461 => (if bt461.1 = 0 then (if (t458.length : Int) = 0 then ((treenaillaw05_line.f k).bind fun t464 => (some t464)) else (some false)) else (treenaillaw05_NetAll.l0 k t458 0 0 l0_0 l0_1 bt461.1 bt461.2))))) = some r := H
 have A2 := zm A20
 clear A20
 have HC3 := zm H
 clear H
 go_enter Tryd.func6, Tryd.ntmps6
 go_upto_if 10 with (first | ((with_reducible refine gate_dst (N := 1) rfl ?_); refine box_event ?hg (N := 1) ?hd (cs := #[.slice A0_0 l0_0.length c0_0, .slice A0_1 l0_1.length c0_1]) (t := 25) ?hr ?_; (case hd => rfl); (case hg => rfl); (case hr => first | (go_simp; done) | (go_simp; rfl)); intro gb455 hg w4 hbox hb; have BK455 := zm (hbox); have GW455 := zm ((by rw [hg]; exact (below_size (bx HB.out)) : w.heap.size ≤ gb455)); have GE455 := zm ((by rw [hg]; exact (below_size (bx HB.out)) : w.heap.size ≤ gb455)); replace HB := zm (below_step (bx HB.out) hb); clear hb hbox hg; have hcz5_0 := bc0 BK455.out; have hcz5_1 := bc1 BK455.out; have hfz5_0 := bF BK455.out 0; have hfz5_1 := bF BK455.out 1) | (go_at_call 9; (with_reducible refine (treenaillaw05_large.calls k _ _ l0_0 _ _ l0_1 t456 _ ?side1 HC0_0.out ?side3 HC0_1.out A2.out).mono ?_); (case side1 => exact cx (Kd.C_below HR0_0.out HB.out)); (case side3 => exact cx (Kd.C_below HR0_1.out HB.out)); rintro e w6 ⟨rfl, hb⟩; replace BK455 := zm (kB (kx BK455.out) hb); replace HB := zm (below_step (bx HB.out) hb); (try clear hb)))
 have H := HC3.out
 clear HC3
 by_cases c7 : t456 = true
 ·subst c7
  rw [if_pos rfl] at H
  replace H := Option.bind_eq_some_iff.mp H
  obtain ⟨t457, A80, H⟩ := H
  replace H : (some t457) = some r := H
  have A8 := zm A80
  clear A80
  obtain rfl := Option.some.inj H
  go_wp2_with (first | (go_at_call 10; (with_reducible refine (treenaillaw05_line.calls k  t457 _ A8.out ?hT_).mono ?_); (case hT_ => exact Words.tab_below HT0.out (bx HB.out)); rintro e w9 ⟨rfl, hb⟩; replace BK455 := zm (kB (kx BK455.out) hb); replace HB := zm (below_step (bx HB.out) hb); (try clear hb)))
  repeat (go_quiet (first | (go_at_call 10; (with_reducible refine (treenaillaw05_line.calls k  t457 _ A8.out ?hT_).mono ?_); (case hT_ => exact Words.tab_below HT0.out (bx HB.out)); rintro e w9 ⟨rfl, hb⟩; replace BK455 := zm (kB (kx BK455.out) hb); replace HB := zm (below_step (bx HB.out) hb); (try clear hb))); try go_wp2_with (first | (go_at_call 10; (with_reducible refine (treenaillaw05_line.calls k  t457 _ A8.out ?hT_).mono ?_); (case hT_ => exact Words.tab_below HT0.out (bx HB.out)); rintro e w9 ⟨rfl, hb⟩; replace BK455 := zm (kB (kx BK455.out) hb); replace HB := zm (below_step (bx HB.out) hb); (try clear hb))))
  go_ret
  exact ⟨xe, bx HB.out⟩
 replace c7 := Bool.eq_false_iff.mpr c7
 subst c7
 rw [if_neg (show ¬ (false = true) by decide)] at H
 replace H := Option.bind_eq_some_iff.mp H
 obtain ⟨t458, A100, H⟩ := H
 have A10 := zm A100
 clear A100
 replace H := Option.bind_eq_some_iff.mp H
 obtain ⟨⟨t461, t462⟩, A110, H⟩ := H
 replace H : (if t461 = 0 then (if (t458.length : Int) = 0 then ((treenaillaw05_line.f k).bind fun t464 => (some t464)) else (some false)) else (treenaillaw05_NetAll.l0 k t458 0 0 l0_0 l0_1 t461 t462)) = some r := H
 have A11 := zm A110
 clear A110
 have HC12 := zm H
 clear H
 have hcz13_0 := bc0 BK455.out
 have hcz13_1 := bc1 BK455.out
 have hfz13_0 := bF BK455.out 0
 have hfz13_1 := bF BK455.out 1
 go_upto_if 18 with (first | (go_at_call 18; (with_reducible refine (net_All.calls k _ _ l0_0 _ _ l0_1 t458 _ ?side1 HC0_0.out ?side3 HC0_1.out A10.out ?hT_).mono ?_); (case hT_ => exact Words.tab_below HT0.out (bx HB.out)); (case side1 => exact cx (Kd.C_below HR0_0.out HB.out)); (case side3 => exact cx (Kd.C_below HR0_1.out HB.out)); rintro e w14 ⟨v459, rfl, ho0, hb⟩; have HO460 := zm (Kd.R_lower ho0 (below_size (bx HB.out))); replace BK455 := zm (kB (kx BK455.out) hb); replace HB := zm (below_step (bx HB.out) hb); (try clear hb); (try clear ho0); have hcz15_0 := bc0 BK455.out; have hcz15_1 := bc1 BK455.out; have hfz15_0 := bF BK455.out 0; have hfz15_1 := bF BK455.out 1) | (go_at_call 12; (with_reducible refine (treenailref05_Check.calls k _ _ l0_0 _ _ l0_1 t461 t462 _ ?side1 HC0_0.out ?side3 HC0_1.out A11.out).mono ?_); (case side1 => exact cx (Kd.C_below HR0_0.out HB.out)); (case side3 => exact cx (Kd.C_below HR0_1.out HB.out)); rintro e w16 ⟨rfl, hb⟩; replace HO460 := zm (Kd.R_below (rx HO460.out) hb); replace BK455 := zm (kB (kx BK455.out) hb); replace HB := zm (below_step (bx HB.out) hb); (try clear hb)) | ((with_reducible refine gate_dst (N := 4) rfl ?_); refine box_event ?hg (N := 4) ?hd (cs := #[.int .i64 0, .int .i64 0]) (t := 31) ?hr ?_; (case hd => rfl); (case hg => rfl); (case hr => first | (go_simp; done) | (go_simp; rfl)); intro gb463 hg w17 hbox hb; replace HO460 := zm (Kd.R_below (rx HO460.out) hb); have BK463 := zm (hbox); have GW463 := zm ((by rw [hg]; exact (below_size (bx HB.out)) : w.heap.size ≤ gb463)); have GE463 := zm ((by rw [hg]; exact (below_size (bx HB.out)) : w.heap.size ≤ gb463)); replace HB := zm (below_step (bx HB.out) hb); have NB455_463 := zm ((by rw [hg]; exact Nat.ne_of_lt (blk_lt (g := gb455) (o := .cells #[.slice A0_0 l0_0.length c0_0, .slice A0_1 l0_1.length c0_1] 25 (0, 0)) (kx BK455.out)) : gb455 ≠ gb463)); have NB463_455 := zm ((by rw [hg]; exact Nat.ne_of_gt (blk_lt (g := gb455) (o := .cells #[.slice A0_0 l0_0.length c0_0, .slice A0_1 l0_1.length c0_1] 25 (0, 0)) (kx BK455.out)) : gb463 ≠ gb455)); replace BK455 := zm (kB (kx BK455.out) hb); clear hb hbox hg; have hnb18 := NB463_455.out; have hnc18 := NB455_463.out; have hcz19_0 := bc0 BK463.out; have hcz19_1 := bc1 BK463.out; have hfz19_0 := bF BK463.out 0; have hfz19_1 := bF BK463.out 1))
 have H := HC12.out
 clear HC12
 by_cases c20 : t461 = 0
 ·rw [if_pos c20] at H
  have c20b0 := beq_iff_eq.mpr c20
  have c20b1 := bne_eq_false_iff_eq.mpr c20
  clear c20
  (first | rw [c20b0] | (simp only [i64_w, i32_w]; rw [c20b0]) | rw [c20b1] | skip)
  by_cases c21 : (t458.length : Int) = 0
  ·rw [if_pos c21] at H
   have c21b0 := beq_iff_eq.mpr c21
   have c21b1 := bne_eq_false_iff_eq.mpr c21
   clear c21
   replace H := Option.bind_eq_some_iff.mp H
   obtain ⟨t464, A220, H⟩ := H
   replace H : (some t464) = some r := H
   have A22 := zm A220
   clear A220
   obtain rfl := Option.some.inj H
   obtain ⟨Ao23, co23, eo23⟩ := Kd.R_slice HO460.out
   subst eo23
   go_wp2_with (first | (go_at_call 10; (with_reducible refine (treenaillaw05_line.calls k  t464 _ A22.out ?hT_).mono ?_); (case hT_ => exact Words.tab_below HT0.out (bx HB.out)); rintro e w24 ⟨rfl, hb⟩; replace BK455 := zm (kB (g := gb455) (o := .cells #[.slice A0_0 l0_0.length c0_0, .slice A0_1 l0_1.length c0_1] 25 (0, 0)) (by (with_reducible repeat first | apply kN | apply kD | apply kA); refine blk_far ?_ NB455_463.out _; (with_reducible repeat first | apply kN | apply kD | apply kA); refine blk_far ?_ NB455_463.out _; (with_reducible repeat first | apply kN | apply kD | apply kA); exact BK455.out) hb); replace BK463 := zm (kB (g := gb463) (o := .cells #[.int .i64 t461, .int .i64 t462] 31 (0, 0)) (by (with_reducible repeat first | apply kN | apply kD | apply kA); refine blk_put (cs := #[.int .i64 t461, .int .i64 0]) ?_ 1 _ rfl; (with_reducible repeat first | apply kN | apply kD | apply kA); refine blk_put (cs := #[.int .i64 0, .int .i64 0]) ?_ 0 _ rfl; (with_reducible repeat first | apply kN | apply kD | apply kA); exact BK463.out) hb); replace HB := zm (below_step (bx HB.out) hb); (try clear hb); (try clear hb2); (try clear hk); (try clear hi)))
   repeat (go_quiet (first | (go_at_call 10; (with_reducible refine (treenaillaw05_line.calls k  t464 _ A22.out ?hT_).mono ?_); (case hT_ => exact Words.tab_below HT0.out (bx HB.out)); rintro e w24 ⟨rfl, hb⟩; replace BK455 := zm (kB (g := gb455) (o := .cells #[.slice A0_0 l0_0.length c0_0, .slice A0_1 l0_1.length c0_1] 25 (0, 0)) (by (with_reducible repeat first | apply kN | apply kD | apply kA); refine blk_far ?_ NB455_463.out _; (with_reducible repeat first | apply kN | apply kD | apply kA); refine blk_far ?_ NB455_463.out _; (with_reducible repeat first | apply kN | apply kD | apply kA); exact BK455.out) hb); replace BK463 := zm (kB (g := gb463) (o := .cells #[.int .i64 t461, .int .i64 t462] 31 (0, 0)) (by (with_reducible repeat first | apply kN | apply kD | apply kA); refine blk_put (cs := #[.int .i64 t461, .int .i64 0]) ?_ 1 _ rfl; (with_reducible repeat first | apply kN | apply kD | apply kA); refine blk_put (cs := #[.int .i64 0, .int .i64 0]) ?_ 0 _ rfl; (with_reducible repeat first | apply kN | apply kD | apply kA); exact BK463.out) hb); replace HB := zm (below_step (bx HB.out) hb); (try clear hb); (try clear hb2); (try clear hk); (try clear hi))); try go_wp2_with (first | (go_at_call 10; (with_reducible refine (treenaillaw05_line.calls k  t464 _ A22.out ?hT_).mono ?_); (case hT_ => exact Words.tab_below HT0.out (bx HB.out)); rintro e w24 ⟨rfl, hb⟩; replace BK455 := zm (kB (g := gb455) (o := .cells #[.slice A0_0 l0_0.length c0_0, .slice A0_1 l0_1.length c0_1] 25 (0, 0)) (by (with_reducible repeat first | apply kN | apply kD | apply kA); refine blk_far ?_ NB455_463.out _; (with_reducible repeat first | apply kN | apply kD | apply kA); refine blk_far ?_ NB455_463.out _; (with_reducible repeat first | apply kN | apply kD | apply kA); exact BK455.out) hb); replace BK463 := zm (kB (g := gb463) (o := .cells #[.int .i64 t461, .int .i64 t462] 31 (0, 0)) (by (with_reducible repeat first | apply kN | apply kD | apply kA); refine blk_put (cs := #[.int .i64 t461, .int .i64 0]) ?_ 1 _ rfl; (with_reducible repeat first | apply kN | apply kD | apply kA); refine blk_put (cs := #[.int .i64 0, .int .i64 0]) ?_ 0 _ rfl; (with_reducible repeat first | apply kN | apply kD | apply kA); exact BK463.out) hb); replace HB := zm (below_step (bx HB.out) hb); (try clear hb); (try clear hb2); (try clear hk); (try clear hi))))
   go_ret
   exact ⟨xe, bx HB.out⟩
  rw [if_neg c21] at H
  have c21b0 := beq_eq_false_iff_ne.mpr c21
  have c21b1 := bne_iff_ne.mpr c21
  have c21b2 : ¬ (t458 = []) := fun h_ => c21 (by rw [h_]; rfl)
  obtain rfl := Option.some.inj H
  obtain ⟨Ao25, co25, eo25⟩ := Kd.R_slice HO460.out
  subst eo25
  go_wp2
  repeat (go_quiet (fail); try go_wp2)
  go_ret
  exact ⟨xe, bx HB.out⟩
 rw [if_neg c20] at H
 have c20b0 := beq_eq_false_iff_ne.mpr c20
 have c20b1 := bne_iff_ne.mpr c20
 (first | rw [c20b0] | (simp only [i64_w, i32_w]; rw [c20b0]) | rw [c20b1] | skip)
 have H' := zm H
 clear H
 go_wp2
 repeat (go_quiet (fail); try go_wp2)
 go_loopg [5, 6] k (fun kq v5 v6 w' => ∃ (x5_1 : Int) (x6_1 : Int), v5 = .int .i64 x5_1 ∧ v6 = .int .i64 x6_1 ∧ Aside0 (treenaillaw05_NetAll.l0 kq t458 x5_1 x6_1 l0_0 l0_1 t461 t462 = some r) ∧ Aside0 (kq ≤ k) ∧ Aside0 (Kd.R k47 47 w' w.heap.size (fun _ => True) v459 t458) ∧ Aside0 (w'.heap[gb455]? = some (.cells #[(.slice A0_0 l0_0.length c0_0), (.slice A0_1 l0_1.length c0_1)] 25 (0, 0))) ∧ Aside0 (w'.heap[gb463]? = some (.cells #[.int .i64 t461, .int .i64 t462] 31 (0, 0))) ∧ Aside0 (Below w.heap.size w w'))
 case atStart => exact ⟨(0), (0), (by first | rfl | (simp; done) | (simp [*]; done)), (by first | rfl | (simp; done) | (simp [*]; done)), H', ⟨Nat.le_refl _⟩, ⟨rx (Kd.R_mono (Kd.R_far (p := ⟨gb463, 1, none⟩) (Kd.R_far (p := ⟨gb463, 0, none⟩) (Kd.R_types HO460.out BK463.out (by decide)) (fun _ hk => hk.2) (.int .i64 t461)) (fun _ hk => hk.2) (.int .i64 t462)) (fun _ hk => trivial))⟩, ⟨by (with_reducible repeat first | apply kN | apply kD | apply kA); refine blk_far ?_ NB455_463.out _; (with_reducible repeat first | apply kN | apply kD | apply kA); refine blk_far ?_ NB455_463.out _; (with_reducible repeat first | apply kN | apply kD | apply kA); exact BK455.out⟩, ⟨by (with_reducible repeat first | apply kN | apply kD | apply kA); refine blk_put (cs := #[.int .i64 t461, .int .i64 0]) ?_ 1 _ rfl; (with_reducible repeat first | apply kN | apply kD | apply kA); refine blk_put (cs := #[.int .i64 0, .int .i64 0]) ?_ 0 _ rfl; (with_reducible repeat first | apply kN | apply kD | apply kA); exact BK463.out⟩, ⟨bx HB.out⟩⟩
 clear H'
 try clear c1
 try clear c2
 try clear p2
 try clear c6
 try clear c7
 try clear c18
 try clear c20
 try clear c20b0
 try clear c20b1
 try clear c21
 try clear c21b0
 try clear c21b1
 try clear c21b2
 try clear BK455
 try clear BK463
 obtain ⟨x5_1, x6_1, rfl, rfl, HA, HK1, HO_3, BK455, BK463, HB⟩ := hrel
 cases gk with
 | zero => exact absurd HA.out (by first | (intro h_; cases h_; done) | simp [treenaillaw05_NetAll.l0])
 | succ k1 =>
  have H := HA.out
  clear HA
  simp only [treenaillaw05_NetAll.l0] at H
  obtain ⟨ji26, hji26⟩ : ∃ j_ : Int, (mx (l0_0.length : Int) (l0_1.length : Int)) = j_ := ⟨_, rfl⟩
  replace H : (if x6_1 ≤ (ji26) then ((treenailref05_Is.f k1 l0_0 l0_1 t461 x6_1).bind fun t466 => (if x5_1 < (t458.length : Int) then (if 0 ≤ x5_1 then (if ((rd_T47 t458 x5_1).f1) = x6_1 then (treenaillaw05_NetAll.j1 k1 t458 x5_1 x6_1 t466 (((rd_T47 t458 x5_1).f0) == t461) l0_0 l0_1 t461 t462) else (treenaillaw05_NetAll.j1 k1 t458 x5_1 x6_1 t466 false l0_0 l0_1 t461 t462)) else (none)) else (treenaillaw05_NetAll.j1 k1 t458 x5_1 x6_1 t466 false l0_0 l0_1 t461 t462))) else (if x5_1 = (t458.length : Int) then (if x5_1 > 0 then ((treenaillaw05_line.f k1).bind fun t465 => (some t465)) else (some false)) else (some false))) = some r := by first | (rw [hji26] at H; exact H) | (simp only [hji26] at H ⊢; exact H)
  have hji26n_ : (if l0_0.length < l0_1.length then (l0_1.length : Int) else (l0_0.length : Int)) = ji26 := by have h_ := hji26; unfold mx at h_; rw [← h_]; split <;> split <;> omega
  have hji26_ : (if (l0_0.length : Int) < (l0_1.length : Int) then (l0_1.length : Int) else (l0_0.length : Int)) = ji26 := hji26
  by_cases c27 : x6_1 ≤ (ji26)
  ·rw [if_pos c27] at H
   have c27b0 := decide_eq_true c27
   clear c27
   replace H := Option.bind_eq_some_iff.mp H
   obtain ⟨t466, A280, H⟩ := H
   replace H : (if x5_1 < (t458.length : Int) then (if 0 ≤ x5_1 then (if ((rd_T47 t458 x5_1).f1) = x6_1 then (treenaillaw05_NetAll.j1 k1 t458 x5_1 x6_1 t466 (((rd_T47 t458 x5_1).f0) == t461) l0_0 l0_1 t461 t462) else (treenaillaw05_NetAll.j1 k1 t458 x5_1 x6_1 t466 false l0_0 l0_1 t461 t462)) else (none)) else (treenaillaw05_NetAll.j1 k1 t458 x5_1 x6_1 t466 false l0_0 l0_1 t461 t462)) = some r := H
   have A28 := zm A280
   clear A280
   have HC29 := zm H
   clear H
   have hnb30 := NB455_463.out
   have hnc30 := NB463_455.out
   have hcz31_0 := bc0 BK455.out
   have hcz31_1 := bc1 BK455.out
   have hfz31_0 := bF BK455.out 0
   have hfz31_1 := bF BK455.out 1
   have hcz32_0 := bc0 BK463.out
   have hcz32_1 := bc1 BK463.out
   have hfz32_0 := bF BK463.out 0
   have hfz32_1 := bF BK463.out 1
   go_upto_region 12 with (first | (go_at_call 19; (with_reducible refine (treenailref05_Is.calls k1 _ _ l0_0 _ _ l0_1 t461 x6_1 t466 _ ?side1 HC0_0.out ?side3 HC0_1.out A28.out).mono ?_); (case side1 => exact cx (Kd.C_below HR0_0.out HB.out)); (case side3 => exact cx (Kd.C_below HR0_1.out HB.out)); rintro e w33 ⟨rfl, hb⟩; replace HO_3 := zm (Kd.R_below (rx HO_3.out) hb); replace BK455 := zm (kB (kx BK455.out) hb); replace BK463 := zm (kB (kx BK463.out) hb); replace HB := zm (below_step (bx HB.out) hb); (try clear hb)))
   (try simp only [Act.put, sS, sZ, sC])
   go_cut [8] (fun v8 wc => ∃ (kq : Nat) (x8_28 : Bool), v8 = .bool x8_28 ∧ Aside0 (treenaillaw05_NetAll.j1 kq t458 x5_1 x6_1 t466 x8_28 l0_0 l0_1 t461 t462 = some r) ∧ Aside0 (kq ≤ k1) ∧ Aside0 (Kd.R k47 47 wc w.heap.size (fun _ => True) v459 t458) ∧ Aside0 (wc.heap[gb455]? = some (.cells #[(.slice A0_0 l0_0.length c0_0), (.slice A0_1 l0_1.length c0_1)] 25 (0, 0))) ∧ Aside0 (wc.heap[gb463]? = some (.cells #[.int .i64 t461, .int .i64 t462] 31 (0, 0))) ∧ Aside0 (Below w.heap.size w wc))
   case first =>
    have H := HC29.out
    clear HC29
    by_cases c34 : x5_1 < (t458.length : Int)
    ·rw [if_pos c34] at H
     have c34b0 := decide_eq_true c34
     clear c34
     (first | rw [c34b0] | (simp only [i64_w, i32_w]; rw [c34b0]) | skip)
     by_cases c35 : 0 ≤ x5_1
     ·rw [if_pos c35] at H
      have c35b0 := decide_eq_true c35
      clear c35
      by_cases c36 : ((rd_T47 t458 x5_1).f1) = x6_1
      ·rw [if_pos c36] at H
       have c36b0 := beq_iff_eq.mpr c36
       have c36b1 := bne_eq_false_iff_eq.mpr c36
       clear c36
       have H' := zm H
       clear H
       obtain ⟨Ao37, co37, eo37⟩ := Kd.R_slice HO_3.out
       subst eo37
       have p467 : 0 ≤ (x5_1 : Int) := od
       have q467 : x5_1 < (t458.length : Int) := od
       obtain ⟨ad467, e467, hx467_0, hx467_1⟩ := at_T47 (Kd.R_reads' HO_3.out).2.2 x5_1 p467 q467
       cases e467
       replace p467 := eq_true p467
       replace q467 := eq_true q467
       have p468 : 0 ≤ (x5_1 : Int) := od
       have q468 : x5_1 < (t458.length : Int) := od
       obtain ⟨ad468, e468, hx468_0, hx468_1⟩ := at_T47 (Kd.R_reads' HO_3.out).2.2 x5_1 p468 q468
       obtain rfl : ad467 = ad468 := (by injection e468)
       replace p468 := eq_true p468
       replace q468 := eq_true q468
       have hnb38 := NB463_455.out
       have hnc38 := NB455_463.out
       have hcz39_0 := bc0 BK463.out
       have hcz39_1 := bc1 BK463.out
       have hfz39_0 := bF BK463.out 0
       have hfz39_1 := bF BK463.out 1
       go_wp2
       repeat (go_quiet (fail); try go_wp2)
       go_meet
       case rel => exact ⟨_, ((((rd_T47 t458 x5_1).f0) == t461)), (by first | rfl | (simp; done) | (simp [*]; done)), H', ⟨by have := HK1.out; first | omega | exact Nat.le_refl _⟩, ⟨rx HO_3.out⟩, ⟨kx BK455.out⟩, ⟨kx BK463.out⟩, ⟨bx HB.out⟩⟩
      rw [if_neg c36] at H
      have c36b0 := beq_eq_false_iff_ne.mpr c36
      have c36b1 := bne_iff_ne.mpr c36
      have H' := zm H
      clear H
      obtain ⟨Ao40, co40, eo40⟩ := Kd.R_slice HO_3.out
      subst eo40
      have p467 : 0 ≤ (x5_1 : Int) := od
      have q467 : x5_1 < (t458.length : Int) := od
      obtain ⟨ad467, e467, hx467_0, hx467_1⟩ := at_T47 (Kd.R_reads' HO_3.out).2.2 x5_1 p467 q467
      cases e467
      replace p467 := eq_true p467
      replace q467 := eq_true q467
      go_wp2
      repeat (go_quiet (fail); try go_wp2)
      go_meet
      case rel => exact ⟨_, (false), (by first | rfl | (simp; done) | (simp [*]; done)), H', ⟨by have := HK1.out; first | omega | exact Nat.le_refl _⟩, ⟨rx HO_3.out⟩, ⟨kx BK455.out⟩, ⟨kx BK463.out⟩, ⟨bx HB.out⟩⟩
     rw [if_neg c35] at H
     exact absurd H (by simp)
    rw [if_neg c34] at H
    have c34b0 := decide_eq_false c34
    clear c34
    (first | rw [c34b0] | (simp only [i64_w, i32_w]; rw [c34b0]) | skip)
    have H' := zm H
    clear H
    obtain ⟨Ao41, co41, eo41⟩ := Kd.R_slice HO_3.out
    subst eo41
    go_wp2
    repeat (go_quiet (fail); try go_wp2)
    go_meet
    case rel => exact ⟨_, (false), (by first | rfl | (simp; done) | (simp [*]; done)), H', ⟨by have := HK1.out; first | omega | exact Nat.le_refl _⟩, ⟨rx HO_3.out⟩, ⟨kx BK455.out⟩, ⟨kx BK463.out⟩, ⟨bx HB.out⟩⟩
   clear HC29
   try clear c1
   try clear c2
   try clear p2
   try clear c3
   try clear p4
   try clear q4
   try clear hx4
   try clear c6
   try clear c7
   try clear c18
   try clear c20
   try clear c20b0
   try clear c20b1
   try clear c21
   try clear c21b0
   try clear c21b1
   try clear c21b2
   try clear c27
   try clear c27b0
   try clear c30
   try clear c34
   try clear c34b0
   try clear c35
   try clear c35b0
   try clear c36
   try clear c36b0
   try clear c36b1
   try clear c38
   try clear hx467_0
   try clear hx467_1
   try clear hx468_0
   try clear hx468_1
   try clear p2
   try clear p467
   try clear p468
   try clear q467
   try clear q468
   try clear BK455
   try clear BK463
   obtain ⟨kq, x8_28, rfl, HA, HJ28, HO_3, BK455, BK463, HB⟩ := hcut
   cases kq with
   | zero => exact absurd HA.out (by first | (intro h_; cases h_; done) | simp [treenaillaw05_NetAll.j1])
   | succ kj28 =>
    have H := HA.out
    clear HA
    simp only [treenaillaw05_NetAll.j1] at H
    by_cases c42 : (t466 != x8_28) = true
    ·rw [if_pos c42] at H
     have c42b0 : (t466 != x8_28) = true := c42
     (try (have c42b1 : decide (t466 = x8_28) = false := by simpa using c42))
     (try (have c42b2 : (t466 == x8_28) = false := by simpa using c42))
     (try (have c42b3 : ¬ (t466 = x8_28) := by simpa using c42))
     clear c42
     obtain rfl := Option.some.inj H
     go_wp2
     repeat (go_quiet (fail); try go_wp2)
     go_ret
     exact ⟨by first | rfl | (simp [errW_none, errW_some] <;> rfl) | (simp only [← hji26]; first | rfl | (simp [errW_none, errW_some] <;> rfl)) | (simp [*, errW_none, errW_some] <;> rfl), bx HB.out⟩
    rw [if_neg c42] at H
    have c42b0 : (t466 != x8_28) = false := by simpa using c42
    (try (have c42b1 : decide (t466 = x8_28) = true := by simpa using c42))
    (try (have c42b2 : (t466 == x8_28) = true := by simpa using c42))
    clear c42
    by_cases c43 : x8_28 = true
    ·subst c43
     rw [if_pos rfl] at H
     have H' := zm H
     clear H
     go_wp2
     repeat (go_quiet (fail); try go_wp2)
     go_roundg kj28
     case measure => have := HK1.out; have := HJ28.out; omega
     case rel => exact ⟨(wrap64 (x5_1 + 1)), (wrap64 (x6_1 + 1)), (by first | rfl | (simp; done) | (simp [*]; done)), (by first | rfl | (simp; done) | (simp [*]; done)), H', ⟨by have := HK1.out; have := HJ28.out; omega⟩, ⟨rx HO_3.out⟩, ⟨kx BK455.out⟩, ⟨kx BK463.out⟩, ⟨bx HB.out⟩⟩
    replace c43 := Bool.eq_false_iff.mpr c43
    subst c43
    rw [if_neg (show ¬ (false = true) by decide)] at H
    have H' := zm H
    clear H
    go_wp2
    repeat (go_quiet (fail); try go_wp2)
    go_roundg kj28
    case measure => have := HK1.out; have := HJ28.out; omega
    case rel => exact ⟨(x5_1), (wrap64 (x6_1 + 1)), (by first | rfl | (simp; done) | (simp [*]; done)), (by first | rfl | (simp; done) | (simp [*]; done)), H', ⟨by have := HK1.out; have := HJ28.out; omega⟩, ⟨rx HO_3.out⟩, ⟨kx BK455.out⟩, ⟨kx BK463.out⟩, ⟨bx HB.out⟩⟩
  rw [if_neg c27] at H
  have c27b0 := decide_eq_false c27
  clear c27
  by_cases c44 : x5_1 = (t458.length : Int)
  ·rw [if_pos c44] at H
   have c44b0 := beq_iff_eq.mpr c44
   have c44b1 := bne_eq_false_iff_eq.mpr c44
   clear c44
   by_cases c45 : x5_1 > 0
   ·rw [if_pos c45] at H
    have c45b0 : decide (0 < x5_1) = true := decide_eq_true c45
    clear c45
    replace H := Option.bind_eq_some_iff.mp H
    obtain ⟨t465, A460, H⟩ := H
    replace H : (some t465) = some r := H
    have A46 := zm A460
    clear A460
    obtain rfl := Option.some.inj H
    have hnb47 := NB455_463.out
    have hnc47 := NB463_455.out
    have hcz48_0 := bc0 BK455.out
    have hcz48_1 := bc1 BK455.out
    have hfz48_0 := bF BK455.out 0
    have hfz48_1 := bF BK455.out 1
    obtain ⟨Ao49, co49, eo49⟩ := Kd.R_slice HO_3.out
    subst eo49
    go_wp2_with (first | (go_at_call 10; (with_reducible refine (treenaillaw05_line.calls k1  t465 _ A46.out ?hT_).mono ?_); (case hT_ => exact Words.tab_below HT0.out (bx HB.out)); rintro e w50 ⟨rfl, hb⟩; replace BK455 := zm (kB (kx BK455.out) hb); replace BK463 := zm (kB (kx BK463.out) hb); replace HB := zm (below_step (bx HB.out) hb); (try clear hb)))
    repeat (go_quiet (first | (go_at_call 10; (with_reducible refine (treenaillaw05_line.calls k1  t465 _ A46.out ?hT_).mono ?_); (case hT_ => exact Words.tab_below HT0.out (bx HB.out)); rintro e w50 ⟨rfl, hb⟩; replace BK455 := zm (kB (kx BK455.out) hb); replace BK463 := zm (kB (kx BK463.out) hb); replace HB := zm (below_step (bx HB.out) hb); (try clear hb))); try go_wp2_with (first | (go_at_call 10; (with_reducible refine (treenaillaw05_line.calls k1  t465 _ A46.out ?hT_).mono ?_); (case hT_ => exact Words.tab_below HT0.out (bx HB.out)); rintro e w50 ⟨rfl, hb⟩; replace BK455 := zm (kB (kx BK455.out) hb); replace BK463 := zm (kB (kx BK463.out) hb); replace HB := zm (below_step (bx HB.out) hb); (try clear hb))))
    go_ret
    exact ⟨by first | rfl | (simp [errW_none, errW_some] <;> rfl) | (simp only [← hji26]; first | rfl | (simp [errW_none, errW_some] <;> rfl)) | (simp [*, errW_none, errW_some] <;> rfl), bx HB.out⟩
   rw [if_neg c45] at H
   have c45b0 : decide (0 < x5_1) = false := decide_eq_false c45
   clear c45
   obtain rfl := Option.some.inj H
   have hnb51 := NB455_463.out
   have hnc51 := NB463_455.out
   have hcz52_0 := bc0 BK455.out
   have hcz52_1 := bc1 BK455.out
   have hfz52_0 := bF BK455.out 0
   have hfz52_1 := bF BK455.out 1
   obtain ⟨Ao53, co53, eo53⟩ := Kd.R_slice HO_3.out
   subst eo53
   go_wp2
   repeat (go_quiet (fail); try go_wp2)
   go_ret
   exact ⟨by first | rfl | (simp [errW_none, errW_some] <;> rfl) | (simp only [← hji26]; first | rfl | (simp [errW_none, errW_some] <;> rfl)) | (simp [*, errW_none, errW_some] <;> rfl), bx HB.out⟩
  rw [if_neg c44] at H
  have c44b0 := beq_eq_false_iff_ne.mpr c44
  have c44b1 := bne_iff_ne.mpr c44
  obtain rfl := Option.some.inj H
  have hnb54 := NB455_463.out
  have hnc54 := NB463_455.out
  have hcz55_0 := bc0 BK455.out
  have hcz55_1 := bc1 BK455.out
  have hfz55_0 := bF BK455.out 0
  have hfz55_1 := bF BK455.out 1
  obtain ⟨Ao56, co56, eo56⟩ := Kd.R_slice HO_3.out
  subst eo56
  go_wp2
  repeat (go_quiet (fail); try go_wp2)
  go_ret
  exact ⟨by first | rfl | (simp [errW_none, errW_some] <;> rfl) | (simp only [← hji26]; first | rfl | (simp [errW_none, errW_some] <;> rfl)) | (simp [*, errW_none, errW_some] <;> rfl), bx HB.out⟩

end Go.Proofs.YtdaeiicdpfghlaaDoor.R
