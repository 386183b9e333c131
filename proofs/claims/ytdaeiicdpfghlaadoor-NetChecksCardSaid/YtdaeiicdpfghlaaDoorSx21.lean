import Derived.Test.YtdaeiicdpfghlaaDoorSx0
import Derived.Test.YtdaeiicdpfghlaaDoorSx1
import Derived.Test.YtdaeiicdpfghlaaDoorSx3
import Derived.Test.YtdaeiicdpfghlaaDoorSx5
import Derived.Test.YtdaeiicdpfghlaaDoorSx7
import Derived.Test.YtdaeiicdpfghlaaDoorSx11
import Derived.Test.YtdaeiicdpfghlaaDoorSx20
namespace Go.Proofs.YtdaeiicdpfghlaaDoor.R
open Go.RowKit Go.Proofs.YtdaeiicdpfghlaaDoorW.PrintWords Go.Proofs.YtdaeiicdpfghlaaDoorW.PrintLast Go.Proofs.YtdaeiicdpfghlaaDoorW.PrintMore
attribute [local go_sem] max2_int min2_int max_two min_two max_three min_three max_four min_four   -- for this text's walks alone
set_option linter.unusedVariables false
set_option linter.unusedSimpArgs false

def treenaillaw05_NetChecks.f (k : Nat) (l0_0 : List (S37)) (l0_1 : List (S53)) : Option (Bool) := (treenaillaw05_large.f k l0_0 l0_1).bind fun t411 => (if t411 = true then ((treenaillaw05_line.f k).bind fun t412 => (some t412)) else ((net_Check.f k l0_0 l0_1).bind fun bt413 => ((treenailref05_Check.f k l0_0 l0_1).bind fun bt415 => (if bt413.1 = bt415.1 then (if bt413.2 = bt415.2 then ((treenaillaw05_line.f k).bind fun t418 => (some t418)) else (some false)) else (some false)))))
set_option maxRecDepth 100000 in
theorem treenaillaw05_NetChecks.mono : ∀ a0 a1 k, LeO (treenaillaw05_NetChecks.f k a0 a1) (treenaillaw05_NetChecks.f (k + 1) a0 a1) := by
 intro a0 a1 k
 unfold treenaillaw05_NetChecks.f
 repeat' first
 | (with_reducible exact net_Check.mono _ _ _)
 | (with_reducible exact treenaillaw05_large.mono _ _ _)
 | (with_reducible exact treenaillaw05_line.mono _)
 | (with_reducible exact treenailref05_Check.mono _ _ _)
 | (with_reducible exact LeO.refl _)
 | (with_reducible exact LeO.none _)
 | (with_reducible refine LeO.ite ?_ ?_)
 | (with_reducible refine LeO.bind ?_ (fun _ => ?_))
 | refine LeO.ite ?_ ?_
 | refine LeO.bind ?_ (fun _ => ?_)
set_option maxHeartbeats 8000000 in
set_option maxRecDepth 100000 in
theorem treenaillaw05_NetChecks.calls (k : Nat) (A0_0 : Option Addr) (c0_0 : Nat) (l0_0 : List (S37)) (A0_1 : Option Addr) (c0_1 : Nat) (l0_1 : List (S53)) (r : Bool) (w : World) (hr0_0 : Kd.C k37 w A0_0 l0_0.length l0_0) (hc0_0 : l0_0.length ≤ c0_0) (hr0_1 : Kd.C k53 w A0_1 l0_1.length l0_1) (hc0_1 : l0_1.length ≤ c0_1) (h : treenaillaw05_NetChecks.f k l0_0 l0_1 = some r) (hT : Words.Tab w) :
  Calls Tryd.prog 3 #[.agg #[.slice A0_0 l0_0.length c0_0, .slice A0_1 l0_1.length c0_1]] w fun e w' => e = .returned (.bool r) ∧ Below w.heap.size w w' := by
 have hu25 := Tryd.underlying25
 have hu31 := Tryd.underlying31
 have HR0_0 := zm hr0_0
 have HC0_0 := zm hc0_0
 clear hr0_0 hc0_0
 have HR0_1 := zm hr0_1
 have HC0_1 := zm hc0_1
 clear hr0_1 hc0_1
 have HB := zm (Below.refl w.heap.size w)
 have HT0 := zm hT
 clear hT
 have H : ((treenaillaw05_large.f k l0_0 l0_1).bind fun t411 => (if t411 = true then ((treenaillaw05_line.f k).bind fun t412 => (some t412)) else ((net_Check.f k l0_0 l0_1).bind fun bt413 => ((treenailref05_Check.f k l0_0 l0_1).bind fun bt415 => (if bt413.1 = bt415.1 then (if bt413.2 = bt415.2 then ((treenaillaw05_line.f k).bind fun t418 => (some t418)) else (some false)) else (some false)))))) = some r := h
 clear h
 replace H := Option.bind_eq_some_iff.mp H
 obtain ⟨t411, A20, H⟩ := H
 replace H : (if t411 = true then ((treenaillaw05_line.f k).bind fun t412 => (some t412)) else ((net_Check.f k l0_0 l0_1).bind fun bt413 => ((treenailref05_Check.f k l0_0 l0_1).bind fun bt415 => (if bt413.1 = bt415.1 then (if bt413.2 = bt415.2 then ((treenaillaw05_line.f k).bind fun t418 => (some t418)) else (some false)) else (some false))))) = some r := H
 have A2 := zm A20
 clear A20
 have HC3 := zm H
 clear H
 go_enter Tryd.func3, Tryd.ntmps3
 go_upto_if 7 with (first | ((with_reducible refine gate_dst (N := 1) rfl ?_); refine box_event ?hg (N := 1) ?hd (cs := #[.slice A0_0 l0_0.length c0_0, .slice A0_1 l0_1.length c0_1]) (t := 25) ?hr ?_; (case hd => rfl); (case hg => rfl); (case hr => first | (go_simp; done) | (go_simp; rfl)); intro gb410 hg w4 hbox hb; have BK410 := zm (hbox); have GW410 := zm ((by rw [hg]; exact (below_size (bx HB.out)) : w.heap.size ≤ gb410)); have GE410 := zm ((by rw [hg]; exact (below_size (bx HB.out)) : w.heap.size ≤ gb410)); replace HB := zm (below_step (bx HB.out) hb); clear hb hbox hg; have hcz5_0 := bc0 BK410.out; have hcz5_1 := bc1 BK410.out; have hfz5_0 := bF BK410.out 0; have hfz5_1 := bF BK410.out 1) | ((with_reducible refine gate_callee (f := 9) rfl ?_); refine goesL_ (some 7) rfl rfl Tryd.func9 (by kernel_rfl) rfl #[.agg #[.slice A0_0 l0_0.length c0_0, .slice A0_1 l0_1.length c0_1]] rfl ag ?_; (with_reducible refine (treenaillaw05_large.calls k _ _ l0_0 _ _ l0_1 t411 _ ?side1 HC0_0.out ?side3 HC0_1.out A2.out).mono ?_); (case side1 => exact cx (Kd.C_below HR0_0.out HB.out)); (case side3 => exact cx (Kd.C_below HR0_1.out HB.out)); rintro e w6 ⟨rfl, hb⟩; refine ⟨_, rfl, ?_⟩; replace BK410 := zm (kB (kx BK410.out) hb); replace HB := zm (below_step (bx HB.out) hb); (try clear hb)))
 have H := HC3.out
 clear HC3
 by_cases c7 : t411 = true
 ·subst c7
  rw [if_pos rfl] at H
  replace H := Option.bind_eq_some_iff.mp H
  obtain ⟨t412, A80, H⟩ := H
  replace H : (some t412) = some r := H
  have A8 := zm A80
  clear A80
  obtain rfl := Option.some.inj H
  go_wp2_with (first | ((with_reducible refine gate_callee (f := 10) rfl ?_); refine goesL_ (some 8) rfl rfl Tryd.func10 (by kernel_rfl) rfl #[] rfl ag ?_; (with_reducible refine (treenaillaw05_line.calls k  t412 _ A8.out ?hT_).mono ?_); (case hT_ => exact Words.tab_below HT0.out (bx HB.out)); rintro e w9 ⟨rfl, hb⟩; refine ⟨_, rfl, ?_⟩; replace BK410 := zm (kB (kx BK410.out) hb); replace HB := zm (below_step (bx HB.out) hb); (try clear hb)))
  go_ret
  exact ⟨xe, bx HB.out⟩
 replace c7 := Bool.eq_false_iff.mpr c7
 subst c7
 rw [if_neg (show ¬ (false = true) by decide)] at H
 replace H := Option.bind_eq_some_iff.mp H
 obtain ⟨⟨t413, t414⟩, A100, H⟩ := H
 have A10 := zm A100
 clear A100
 replace H := Option.bind_eq_some_iff.mp H
 obtain ⟨⟨t415, t416⟩, A110, H⟩ := H
 replace H : (if t413 = t415 then (if t414 = t416 then ((treenaillaw05_line.f k).bind fun t418 => (some t418)) else (some false)) else (some false)) = some r := H
 have A11 := zm A110
 clear A110
 have HC12 := zm H
 clear H
 have hcz13_0 := bc0 BK410.out
 have hcz13_1 := bc1 BK410.out
 have hfz13_0 := bF BK410.out 0
 have hfz13_1 := bF BK410.out 1
 go_upto_region 5 with (first | ((with_reducible refine gate_callee (f := 11) rfl ?_); refine goesL_ (some 11) rfl rfl Tryd.func11 (by kernel_rfl) rfl #[.agg #[.slice A0_0 l0_0.length c0_0, .slice A0_1 l0_1.length c0_1]] rfl ag ?_; (with_reducible refine (net_Check.calls k _ _ l0_0 _ _ l0_1 t413 t414 _ ?side1 HC0_0.out ?side3 HC0_1.out A10.out ?hT_).mono ?_); (case hT_ => exact Words.tab_below HT0.out (bx HB.out)); (case side1 => exact cx (Kd.C_below HR0_0.out HB.out)); (case side3 => exact cx (Kd.C_below HR0_1.out HB.out)); rintro e w14 ⟨rfl, hb⟩; refine ⟨_, rfl, ?_⟩; replace BK410 := zm (kB (kx BK410.out) hb); replace HB := zm (below_step (bx HB.out) hb); (try clear hb); have hcz15_0 := bc0 BK410.out; have hcz15_1 := bc1 BK410.out; have hfz15_0 := bF BK410.out 0; have hfz15_1 := bF BK410.out 1) | ((with_reducible refine gate_callee (f := 12) rfl ?_); refine goesL_ (some 15) rfl rfl Tryd.func12 (by kernel_rfl) rfl #[.agg #[.slice A0_0 l0_0.length c0_0, .slice A0_1 l0_1.length c0_1]] rfl ag ?_; (with_reducible refine (treenailref05_Check.calls k _ _ l0_0 _ _ l0_1 t415 t416 _ ?side1 HC0_0.out ?side3 HC0_1.out A11.out).mono ?_); (case side1 => exact cx (Kd.C_below HR0_0.out HB.out)); (case side3 => exact cx (Kd.C_below HR0_1.out HB.out)); rintro e w16 ⟨rfl, hb⟩; refine ⟨_, rfl, ?_⟩; replace BK410 := zm (kB (kx BK410.out) hb); replace HB := zm (below_step (bx HB.out) hb); (try clear hb)) | ((with_reducible refine gate_dst (N := 5) rfl ?_); refine box_event ?hg (N := 5) ?hd (cs := #[.int .i64 0, .int .i64 0]) (t := 31) ?hr ?_; (case hd => rfl); (case hg => rfl); (case hr => first | (go_simp; done) | (go_simp; rfl)); intro gb417 hg w17 hbox hb; have BK417 := zm (hbox); have GW417 := zm ((by rw [hg]; exact (below_size (bx HB.out)) : w.heap.size ≤ gb417)); have GE417 := zm ((by rw [hg]; exact (below_size (bx HB.out)) : w.heap.size ≤ gb417)); replace HB := zm (below_step (bx HB.out) hb); have NB410_417 := zm ((by rw [hg]; exact Nat.ne_of_lt (blk_lt (g := gb410) (o := .cells #[.slice A0_0 l0_0.length c0_0, .slice A0_1 l0_1.length c0_1] 25 (0, 0)) (kx BK410.out)) : gb410 ≠ gb417)); have NB417_410 := zm ((by rw [hg]; exact Nat.ne_of_gt (blk_lt (g := gb410) (o := .cells #[.slice A0_0 l0_0.length c0_0, .slice A0_1 l0_1.length c0_1] 25 (0, 0)) (kx BK410.out)) : gb417 ≠ gb410)); replace BK410 := zm (kB (kx BK410.out) hb); clear hb hbox hg; have hnb18 := NB417_410.out; have hnc18 := NB410_417.out; have hcz19_0 := bc0 BK417.out; have hcz19_1 := bc1 BK417.out; have hfz19_0 := bF BK417.out 0; have hfz19_1 := bF BK417.out 1))
 have H := HC12.out
 clear HC12
 by_cases c20 : t413 = t415
 ·rw [if_pos c20] at H
  have c20b0 := beq_iff_eq.mpr c20
  have c20b1 := bne_eq_false_iff_eq.mpr c20
  clear c20
  by_cases c21 : t414 = t416
  ·rw [if_pos c21] at H
   have c21b0 := beq_iff_eq.mpr c21
   have c21b1 := bne_eq_false_iff_eq.mpr c21
   clear c21
   replace H := Option.bind_eq_some_iff.mp H
   obtain ⟨t418, A220, H⟩ := H
   replace H : (some t418) = some r := H
   have A22 := zm A220
   clear A220
   obtain rfl := Option.some.inj H
   have hnb23 := NB417_410.out
   have hnc23 := NB410_417.out
   have hcz24_0 := bc0 BK417.out
   have hcz24_1 := bc1 BK417.out
   have hfz24_0 := bF BK417.out 0
   have hfz24_1 := bF BK417.out 1
   go_wp2_with (first | (go_at_call 10; (with_reducible refine (treenaillaw05_line.calls k  t418 _ A22.out ?hT_).mono ?_); (case hT_ => exact Words.tab_below HT0.out (bx HB.out)); rintro e w25 ⟨rfl, hb⟩; replace BK410 := zm (kB (g := gb410) (o := .cells #[.slice A0_0 l0_0.length c0_0, .slice A0_1 l0_1.length c0_1] 25 (0, 0)) (by (with_reducible repeat first | apply kN | apply kD | apply kA); refine blk_far ?_ NB410_417.out _; (with_reducible repeat first | apply kN | apply kD | apply kA); refine blk_far ?_ NB410_417.out _; (with_reducible repeat first | apply kN | apply kD | apply kA); exact BK410.out) hb); replace BK417 := zm (kB (g := gb417) (o := .cells #[.int .i64 t415, .int .i64 t416] 31 (0, 0)) (by (with_reducible repeat first | apply kN | apply kD | apply kA); refine blk_put (cs := #[.int .i64 t415, .int .i64 0]) ?_ 1 _ rfl; (with_reducible repeat first | apply kN | apply kD | apply kA); refine blk_put (cs := #[.int .i64 0, .int .i64 0]) ?_ 0 _ rfl; (with_reducible repeat first | apply kN | apply kD | apply kA); exact BK417.out) hb); replace HB := zm (below_step (bx HB.out) hb); (try clear hb); (try clear hb2); (try clear hk); (try clear hi)))
   go_ret
   exact ⟨xe, bx HB.out⟩
  rw [if_neg c21] at H
  have c21b0 := beq_eq_false_iff_ne.mpr c21
  have c21b1 := bne_iff_ne.mpr c21
  obtain rfl := Option.some.inj H
  have hnb26 := NB417_410.out
  have hnc26 := NB410_417.out
  have hcz27_0 := bc0 BK417.out
  have hcz27_1 := bc1 BK417.out
  have hfz27_0 := bF BK417.out 0
  have hfz27_1 := bF BK417.out 1
  go_wp2
  go_ret
  exact ⟨xe, bx HB.out⟩
 rw [if_neg c20] at H
 have c20b0 := beq_eq_false_iff_ne.mpr c20
 have c20b1 := bne_iff_ne.mpr c20
 obtain rfl := Option.some.inj H
 have hnb28 := NB417_410.out
 have hnc28 := NB410_417.out
 have hcz29_0 := bc0 BK417.out
 have hcz29_1 := bc1 BK417.out
 have hfz29_0 := bF BK417.out 0
 have hfz29_1 := bF BK417.out 1
 go_wp2
 go_ret
 exact ⟨xe, bx HB.out⟩

end Go.Proofs.YtdaeiicdpfghlaaDoor.R
