import Derived.Test.YtdaeiicdpfghlaaDoorSx0
import Derived.Test.YtdaeiicdpfghlaaDoorSx1
import Derived.Test.YtdaeiicdpfghlaaDoorSx2
import Derived.Test.YtdaeiicdpfghlaaDoorSx3
import Derived.Test.YtdaeiicdpfghlaaDoorSx5
import Derived.Test.YtdaeiicdpfghlaaDoorSx7
import Derived.Test.YtdaeiicdpfghlaaDoorSx11
import Derived.Test.YtdaeiicdpfghlaaDoorSx14
import Derived.Test.YtdaeiicdpfghlaaDoorSx20
namespace Go.Proofs.YtdaeiicdpfghlaaDoor.R
open Go.RowKit Go.Proofs.YtdaeiicdpfghlaaDoorW.PrintWords Go.Proofs.YtdaeiicdpfghlaaDoorW.PrintLast Go.Proofs.YtdaeiicdpfghlaaDoorW.PrintMore
attribute [local go_sem] max2_int min2_int max_two min_two max_three min_three max_four min_four   -- for this text's walks alone
set_option linter.unusedVariables false
set_option linter.unusedSimpArgs false

mutual
def treenaillaw05_NetRoads.j0 : Nat → Int → Bool → List (S37) → List (S53) → Option (Bool)
 | 0, _, _, _, _ => none
 | k + 1, x1, x23, x470000, x470001 => if x23 = true then ((treenaillaw05_line.f k).bind fun t471 => (some t471)) else ((net_Check.f k x470000 x470001).bind fun bt472 => (if bt472.1 = 0 then ((treenailref05_Check.f k x470000 x470001).bind fun bt474 => (treenaillaw05_NetRoads.j1 k x1 (bt474.1 != 0) x470000 x470001)) else (treenaillaw05_NetRoads.j1 k x1 true x470000 x470001)))
def treenaillaw05_NetRoads.j1 : Nat → Int → Bool → List (S37) → List (S53) → Option (Bool)
 | 0, _, _, _, _ => none
 | k + 1, x1, x37, x470000, x470001 => if x37 = true then ((treenaillaw05_line.f k).bind fun t476 => (some t476)) else ((net_Start.f k x470000 x470001).bind fun t477 => ((net_End.f k x470000 x470001).bind fun t478 => (if t477 < 0 then (treenaillaw05_NetRoads.j2 k x1 t477 t478 true x470000 x470001) else (if t478 < 0 then (treenaillaw05_NetRoads.j2 k x1 t477 t478 true x470000 x470001) else (if t477 ≥ (x470000.length : Int) then (treenaillaw05_NetRoads.j2 k x1 t477 t478 true x470000 x470001) else (treenaillaw05_NetRoads.j2 k x1 t477 t478 (decide (t478 ≥ (x470000.length : Int))) x470000 x470001))))))
def treenaillaw05_NetRoads.j2 : Nat → Int → Int → Int → Bool → List (S37) → List (S53) → Option (Bool)
 | 0, _, _, _, _, _, _ => none
 | k + 1, x1, x7, x8, x62, x470000, x470001 => if x62 = true then (some false) else ((treenailref05_Reach.f k x470000 x470001 x7).bind fun t479 => ((treenailref05_Reach.f k x470000 x470001 x1).bind fun t482 => (if 0 ≤ x1 then (if x1 < (t479.length : Int) then (if rdOf false t479 x1 = true then (if 0 ≤ x8 then (if x8 < (t482.length : Int) then (if rdOf false t482 x8 = true then ((treenaillaw05_line.f k).bind fun t487 => (some t487)) else (some false)) else (none)) else (none)) else (some false)) else (none)) else (none))))
end
def treenaillaw05_NetRoads.f (k : Nat) (l0_0 : List (S37)) (l0_1 : List (S53)) (a1 : Int) : Option (Bool) := (treenaillaw05_large.f k l0_0 l0_1).bind fun t470 => (if t470 = true then (treenaillaw05_NetRoads.j0 k a1 true l0_0 l0_1) else (if a1 < 0 then (treenaillaw05_NetRoads.j0 k a1 true l0_0 l0_1) else (treenaillaw05_NetRoads.j0 k a1 (decide (a1 ≥ (l0_0.length : Int))) l0_0 l0_1)))
set_option maxRecDepth 100000 in
theorem treenaillaw05_NetRoads.mono_l : ∀ k, (∀ y0 y1 y2 y3, LeO (treenaillaw05_NetRoads.j0 k y0 y1 y2 y3) (treenaillaw05_NetRoads.j0 (k + 1) y0 y1 y2 y3)) ∧ (∀ y0 y1 y2 y3, LeO (treenaillaw05_NetRoads.j1 k y0 y1 y2 y3) (treenaillaw05_NetRoads.j1 (k + 1) y0 y1 y2 y3)) ∧ (∀ y0 y1 y2 y3 y4 y5, LeO (treenaillaw05_NetRoads.j2 k y0 y1 y2 y3 y4 y5) (treenaillaw05_NetRoads.j2 (k + 1) y0 y1 y2 y3 y4 y5))
 | 0 => ⟨fun _ _ _ _ r h => by first | (cases h; done) | simp [treenaillaw05_NetRoads.j0] at h, fun _ _ _ _ r h => by first | (cases h; done) | simp [treenaillaw05_NetRoads.j1] at h, fun _ _ _ _ _ _ r h => by first | (cases h; done) | simp [treenaillaw05_NetRoads.j2] at h⟩
 | k + 1 => by
  obtain ⟨ih0, ih1, ih2⟩ := treenaillaw05_NetRoads.mono_l k
  refine ⟨?_, ?_, ?_⟩
  all_goals intros
  all_goals first | unfold treenaillaw05_NetRoads.j0 | unfold treenaillaw05_NetRoads.j1 | unfold treenaillaw05_NetRoads.j2
  all_goals repeat' first
  | (with_reducible exact ih0 _ _ _ _)
  | (with_reducible exact ih1 _ _ _ _)
  | (with_reducible exact ih2 _ _ _ _ _ _)
  | (with_reducible exact net_Check.mono _ _ _)
  | (with_reducible exact net_End.mono _ _ _)
  | (with_reducible exact net_Start.mono _ _ _)
  | (with_reducible exact treenaillaw05_large.mono _ _ _)
  | (with_reducible exact treenaillaw05_line.mono _)
  | (with_reducible exact treenailref05_Check.mono _ _ _)
  | (with_reducible exact treenailref05_Reach.mono _ _ _ _)
  | (with_reducible exact LeO.refl _)
  | (with_reducible exact LeO.none _)
  | (with_reducible refine LeO.ite ?_ ?_)
  | (with_reducible refine LeO.bind ?_ (fun _ => ?_))
  | refine LeO.ite ?_ ?_
  | refine LeO.bind ?_ (fun _ => ?_)
set_option maxRecDepth 100000 in
theorem treenaillaw05_NetRoads.mono : ∀ a0 a1 a2 k, LeO (treenaillaw05_NetRoads.f k a0 a1 a2) (treenaillaw05_NetRoads.f (k + 1) a0 a1 a2) := by
 intro a0 a1 a2 k
 obtain ⟨ih0, ih1, ih2⟩ := treenaillaw05_NetRoads.mono_l k
 unfold treenaillaw05_NetRoads.f
 repeat' first
 | (with_reducible exact ih0 _ _ _ _)
 | (with_reducible exact ih1 _ _ _ _)
 | (with_reducible exact ih2 _ _ _ _ _ _)
 | (with_reducible exact net_Check.mono _ _ _)
 | (with_reducible exact net_End.mono _ _ _)
 | (with_reducible exact net_Start.mono _ _ _)
 | (with_reducible exact treenaillaw05_large.mono _ _ _)
 | (with_reducible exact treenaillaw05_line.mono _)
 | (with_reducible exact treenailref05_Check.mono _ _ _)
 | (with_reducible exact treenailref05_Reach.mono _ _ _ _)
 | (with_reducible exact LeO.refl _)
 | (with_reducible exact LeO.none _)
 | (with_reducible refine LeO.ite ?_ ?_)
 | (with_reducible refine LeO.bind ?_ (fun _ => ?_))
 | refine LeO.ite ?_ ?_
 | refine LeO.bind ?_ (fun _ => ?_)
set_option maxHeartbeats 8000000 in
set_option maxRecDepth 100000 in
theorem treenaillaw05_NetRoads.calls (k : Nat) (A0_0 : Option Addr) (c0_0 : Nat) (l0_0 : List (S37)) (A0_1 : Option Addr) (c0_1 : Nat) (l0_1 : List (S53)) (a1 : Int) (r : Bool) (w : World) (hr0_0 : Kd.C k37 w A0_0 l0_0.length l0_0) (hc0_0 : l0_0.length ≤ c0_0) (hr0_1 : Kd.C k53 w A0_1 l0_1.length l0_1) (hc0_1 : l0_1.length ≤ c0_1) (h : treenaillaw05_NetRoads.f k l0_0 l0_1 a1 = some r) (hT : Words.Tab w) :
  Calls Tryd.prog 5 #[.agg #[.slice A0_0 l0_0.length c0_0, .slice A0_1 l0_1.length c0_1], .int .i64 a1] w fun e w' => e = .returned (.bool r) ∧ Below w.heap.size w w' := by
 have hu25 := Tryd.underlying25
 have hfd31_0 : ∀ (b0 b1 : Value) (w : World), (Instr.field 31 (.agg #[b0, b1]) 0).run Tryd.prog w = .ok b0 w := fun _ _ _ => rfl
 have HR0_0 := zm hr0_0
 have HC0_0 := zm hc0_0
 clear hr0_0 hc0_0
 have HR0_1 := zm hr0_1
 have HC0_1 := zm hc0_1
 clear hr0_1 hc0_1
 have HB := zm (Below.refl w.heap.size w)
 have HT0 := zm hT
 clear hT
 have H : ((treenaillaw05_large.f k l0_0 l0_1).bind fun t470 => (if t470 = true then (treenaillaw05_NetRoads.j0 k a1 true l0_0 l0_1) else (if a1 < 0 then (treenaillaw05_NetRoads.j0 k a1 true l0_0 l0_1) else (treenaillaw05_NetRoads.j0 k a1 (decide (a1 ≥ (l0_0.length : Int))) l0_0 l0_1)))) = some r := h
 clear h
 have HC3 := zm H
 clear H
 go_enter Tryd.func5, Tryd.ntmps5
 go_upto_region 1 with (first | ((with_reducible refine gate_dst (N := 2) rfl ?_); (try (refine gate_guard (by rfl) ?_; dsimp only)); refine box_event ?hg (N := 2) ?hd (cs := #[.slice A0_0 l0_0.length c0_0, .slice A0_1 l0_1.length c0_1]) (t := 25) ?hr ?_; (case hd => rfl); (case hg => rfl); (case hr => first | (go_simp; done) | (go_simp; rfl)); intro gb469 hg w4 hbox hb; have BK469 := zm (hbox); have GW469 := zm ((by rw [hg]; exact (below_size (bx HB.out)) : w.heap.size ≤ gb469)); have GE469 := zm ((by rw [hg]; exact (below_size (bx HB.out)) : w.heap.size ≤ gb469)); replace HB := zm (below_step (bx HB.out) hb); clear hb hbox hg))
 (try simp only [Act.put, sS, sZ, sC])
 go_cut [23] (fun v23 wc => ∃ (kq : Nat) (x23_2 : Bool), v23 = .bool x23_2 ∧ Aside0 (treenaillaw05_NetRoads.j0 kq a1 x23_2 l0_0 l0_1 = some r) ∧ Aside0 (kq ≤ k) ∧ Aside0 (wc.heap[gb469]? = some (.cells #[(.slice A0_0 l0_0.length c0_0), (.slice A0_1 l0_1.length c0_1)] 25 (0, 0))) ∧ Aside0 (Below w.heap.size w wc))
 case first =>
  have H := HC3.out
  clear HC3
  replace H := Option.bind_eq_some_iff.mp H
  obtain ⟨t470, A50, H⟩ := H
  replace H : (if t470 = true then (treenaillaw05_NetRoads.j0 k a1 true l0_0 l0_1) else (if a1 < 0 then (treenaillaw05_NetRoads.j0 k a1 true l0_0 l0_1) else (treenaillaw05_NetRoads.j0 k a1 (decide (a1 ≥ (l0_0.length : Int))) l0_0 l0_1))) = some r := H
  have A5 := zm A50
  clear A50
  by_cases c6 : t470 = true
  ·subst c6
   rw [if_pos rfl] at H
   have H' := zm H
   clear H
   have hcz7_0 := bc0 BK469.out
   have hcz7_1 := bc1 BK469.out
   go_wp2_with (first | ((with_reducible refine gate_callee (f := 9) rfl ?_); refine goesL_ (some 12) rfl rfl Tryd.func9 (by kernel_rfl) rfl #[.agg #[.slice A0_0 l0_0.length c0_0, .slice A0_1 l0_1.length c0_1]] rfl ag ?_; (with_reducible refine (treenaillaw05_large.calls k _ _ l0_0 _ _ l0_1 true _ ?side1 HC0_0.out ?side3 HC0_1.out A5.out).mono ?_); (case side1 => exact cx (Kd.C_below HR0_0.out HB.out)); (case side3 => exact cx (Kd.C_below HR0_1.out HB.out)); rintro e w8 ⟨rfl, hb⟩; refine ⟨_, rfl, ?_⟩; replace BK469 := zm (kB (kx BK469.out) hb); replace HB := zm (below_step (bx HB.out) hb); (try clear hb)))
   go_meet
   case rel => exact ⟨_, (true), (by first | rfl | (simp; done) | (simp [*]; done)), H', ⟨by first | omega | exact Nat.le_refl _⟩, ⟨kx BK469.out⟩, ⟨bx HB.out⟩⟩
  replace c6 := Bool.eq_false_iff.mpr c6
  subst c6
  rw [if_neg (show ¬ (false = true) by decide)] at H
  by_cases c9 : a1 < 0
  ·rw [if_pos c9] at H
   have c9b0 := decide_eq_true c9
   clear c9
   (first | rw [c9b0] | (simp only [i64_w, i32_w]; rw [c9b0]) | skip)
   have H' := zm H
   clear H
   have hcz10_0 := bc0 BK469.out
   have hcz10_1 := bc1 BK469.out
   go_wp2_with (first | ((with_reducible refine gate_callee (f := 9) rfl ?_); refine goesL_ (some 12) rfl rfl Tryd.func9 (by kernel_rfl) rfl #[.agg #[.slice A0_0 l0_0.length c0_0, .slice A0_1 l0_1.length c0_1]] rfl ag ?_; (with_reducible refine (treenaillaw05_large.calls k _ _ l0_0 _ _ l0_1 false _ ?side1 HC0_0.out ?side3 HC0_1.out A5.out).mono ?_); (case side1 => exact cx (Kd.C_below HR0_0.out HB.out)); (case side3 => exact cx (Kd.C_below HR0_1.out HB.out)); rintro e w11 ⟨rfl, hb⟩; refine ⟨_, rfl, ?_⟩; replace BK469 := zm (kB (kx BK469.out) hb); replace HB := zm (below_step (bx HB.out) hb); (try clear hb)))
   go_meet
   case rel => exact ⟨_, (true), (by first | rfl | (simp; done) | (simp [*]; done)), H', ⟨by first | omega | exact Nat.le_refl _⟩, ⟨kx BK469.out⟩, ⟨bx HB.out⟩⟩
  rw [if_neg c9] at H
  have c9b0 := decide_eq_false c9
  clear c9
  (first | rw [c9b0] | (simp only [i64_w, i32_w]; rw [c9b0]) | skip)
  have H' := zm H
  clear H
  have hcz12_0 := bc0 BK469.out
  have hcz12_1 := bc1 BK469.out
  go_wp2_with (first | ((with_reducible refine gate_callee (f := 9) rfl ?_); refine goesL_ (some 12) rfl rfl Tryd.func9 (by kernel_rfl) rfl #[.agg #[.slice A0_0 l0_0.length c0_0, .slice A0_1 l0_1.length c0_1]] rfl ag ?_; (with_reducible refine (treenaillaw05_large.calls k _ _ l0_0 _ _ l0_1 false _ ?side1 HC0_0.out ?side3 HC0_1.out A5.out).mono ?_); (case side1 => exact cx (Kd.C_below HR0_0.out HB.out)); (case side3 => exact cx (Kd.C_below HR0_1.out HB.out)); rintro e w13 ⟨rfl, hb⟩; refine ⟨_, rfl, ?_⟩; replace BK469 := zm (kB (kx BK469.out) hb); replace HB := zm (below_step (bx HB.out) hb); (try clear hb); have hcz14_0 := bc0 BK469.out; have hcz14_1 := bc1 BK469.out))
  go_meet
  case rel => exact ⟨_, (decide (a1 ≥ (l0_0.length : Int))), (by first | rfl | (simp; done) | (simp [*]; done)), H', ⟨by first | omega | exact Nat.le_refl _⟩, ⟨kx BK469.out⟩, ⟨bx HB.out⟩⟩
 clear HC3
 try clear p2
 try clear c5
 try clear c6
 try clear c9
 try clear c9b0
 try clear BK469
 obtain ⟨kq, x23_2, rfl, HA, HJ2, BK469, HB⟩ := hcut
 cases kq with
 | zero => exact absurd HA.out (by first | (intro h_; cases h_; done) | simp [treenaillaw05_NetRoads.j0])
 | succ kj2 =>
  have H := HA.out
  clear HA
  simp only [treenaillaw05_NetRoads.j0] at H
  by_cases c15 : x23_2 = true
  ·subst c15
   rw [if_pos rfl] at H
   replace H := Option.bind_eq_some_iff.mp H
   obtain ⟨t471, A160, H⟩ := H
   replace H : (some t471) = some r := H
   have A16 := zm A160
   clear A160
   obtain rfl := Option.some.inj H
   go_wp2_with (first | ((with_reducible refine gate_callee (f := 10) rfl ?_); refine goesL_ (some 24) rfl rfl Tryd.func10 (by kernel_rfl) rfl #[] rfl ag ?_; (with_reducible refine (treenaillaw05_line.calls kj2  t471 _ A16.out ?hT_).mono ?_); (case hT_ => exact Words.tab_below HT0.out (bx HB.out)); rintro e w17 ⟨rfl, hb⟩; refine ⟨_, rfl, ?_⟩; replace BK469 := zm (kB (kx BK469.out) hb); replace HB := zm (below_step (bx HB.out) hb); (try clear hb)))
   go_ret
   exact ⟨xe, bx HB.out⟩
  replace c15 := Bool.eq_false_iff.mpr c15
  subst c15
  rw [if_neg (show ¬ (false = true) by decide)] at H
  replace H := Option.bind_eq_some_iff.mp H
  obtain ⟨⟨t472, t473⟩, A180, H⟩ := H
  replace H : (if t472 = 0 then ((treenailref05_Check.f kj2 l0_0 l0_1).bind fun bt474 => (treenaillaw05_NetRoads.j1 kj2 a1 (bt474.1 != 0) l0_0 l0_1)) else (treenaillaw05_NetRoads.j1 kj2 a1 true l0_0 l0_1)) = some r := H
  have A18 := zm A180
  clear A180
  have HC19 := zm H
  clear H
  have hcz20_0 := bc0 BK469.out
  have hcz20_1 := bc1 BK469.out
  go_upto_region 4 with (first | ((with_reducible refine gate_callee (f := 11) rfl ?_); refine goesL_ (some 27) rfl rfl Tryd.func11 (by kernel_rfl) rfl #[.agg #[.slice A0_0 l0_0.length c0_0, .slice A0_1 l0_1.length c0_1]] rfl ag ?_; (with_reducible refine (net_Check.calls kj2 _ _ l0_0 _ _ l0_1 t472 t473 _ ?side1 HC0_0.out ?side3 HC0_1.out A18.out ?hT_).mono ?_); (case hT_ => exact Words.tab_below HT0.out (bx HB.out)); (case side1 => exact cx (Kd.C_below HR0_0.out HB.out)); (case side3 => exact cx (Kd.C_below HR0_1.out HB.out)); rintro e w21 ⟨rfl, hb⟩; refine ⟨_, rfl, ?_⟩; replace BK469 := zm (kB (kx BK469.out) hb); replace HB := zm (below_step (bx HB.out) hb); (try clear hb)))
  (try simp only [Act.put, sS, sZ, sC])
  go_cut [37] (fun v37 wc => ∃ (kq : Nat) (x37_18 : Bool), v37 = .bool x37_18 ∧ Aside0 (treenaillaw05_NetRoads.j1 kq a1 x37_18 l0_0 l0_1 = some r) ∧ Aside0 (kq ≤ kj2) ∧ Aside0 (wc.heap[gb469]? = some (.cells #[(.slice A0_0 l0_0.length c0_0), (.slice A0_1 l0_1.length c0_1)] 25 (0, 0))) ∧ Aside0 (Below w.heap.size w wc))
  case first =>
   have H := HC19.out
   clear HC19
   by_cases c22 : t472 = 0
   ·rw [if_pos c22] at H
    have c22b0 := beq_iff_eq.mpr c22
    have c22b1 := bne_eq_false_iff_eq.mpr c22
    clear c22
    (first | rw [c22b0] | (simp only [i64_w, i32_w]; rw [c22b0]) | rw [c22b1] | skip)
    replace H := Option.bind_eq_some_iff.mp H
    obtain ⟨⟨t474, t475⟩, A230, H⟩ := H
    replace H : (treenaillaw05_NetRoads.j1 kj2 a1 (t474 != 0) l0_0 l0_1) = some r := H
    have A23 := zm A230
    clear A230
    have H' := zm H
    clear H
    have hcz24_0 := bc0 BK469.out
    have hcz24_1 := bc1 BK469.out
    go_wp2_with (first | (go_at_call 12; (with_reducible refine (treenailref05_Check.calls kj2 _ _ l0_0 _ _ l0_1 t474 t475 _ ?side1 HC0_0.out ?side3 HC0_1.out A23.out).mono ?_); (case side1 => exact cx (Kd.C_below HR0_0.out HB.out)); (case side3 => exact cx (Kd.C_below HR0_1.out HB.out)); rintro e w25 ⟨rfl, hb⟩; replace BK469 := zm (kB (kx BK469.out) hb); replace HB := zm (below_step (bx HB.out) hb); (try clear hb)))
    go_meet
    case rel => exact ⟨_, ((t474 != 0)), (by first | rfl | (simp; done) | (simp [*]; done)), H', ⟨by have := HJ2.out; first | omega | exact Nat.le_refl _⟩, ⟨kx BK469.out⟩, ⟨bx HB.out⟩⟩
   rw [if_neg c22] at H
   have c22b0 := beq_eq_false_iff_ne.mpr c22
   have c22b1 := bne_iff_ne.mpr c22
   (first | rw [c22b0] | (simp only [i64_w, i32_w]; rw [c22b0]) | rw [c22b1] | skip)
   have H' := zm H
   clear H
   go_wp2
   go_meet
   case rel => exact ⟨_, (true), (by first | rfl | (simp; done) | (simp [*]; done)), H', ⟨by have := HJ2.out; first | omega | exact Nat.le_refl _⟩, ⟨kx BK469.out⟩, ⟨bx HB.out⟩⟩
  clear HC19
  try clear c1
  try clear c2
  try clear p2
  try clear c5
  try clear c6
  try clear c9
  try clear c9b0
  try clear c10
  try clear c11
  try clear c15
  try clear c22
  try clear c22b0
  try clear c22b1
  try clear p2
  try clear BK469
  obtain ⟨kq, x37_18, rfl, HA, HJ18, BK469, HB⟩ := hcut
  cases kq with
  | zero => exact absurd HA.out (by first | (intro h_; cases h_; done) | simp [treenaillaw05_NetRoads.j1])
  | succ kj18 =>
   have H := HA.out
   clear HA
   simp only [treenaillaw05_NetRoads.j1] at H
   by_cases c26 : x37_18 = true
   ·subst c26
    rw [if_pos rfl] at H
    replace H := Option.bind_eq_some_iff.mp H
    obtain ⟨t476, A270, H⟩ := H
    replace H : (some t476) = some r := H
    have A27 := zm A270
    clear A270
    obtain rfl := Option.some.inj H
    go_wp2_with (first | ((with_reducible refine gate_callee (f := 10) rfl ?_); refine goesL_ (some 38) rfl rfl Tryd.func10 (by kernel_rfl) rfl #[] rfl ag ?_; (with_reducible refine (treenaillaw05_line.calls kj18  t476 _ A27.out ?hT_).mono ?_); (case hT_ => exact Words.tab_below HT0.out (bx HB.out)); rintro e w28 ⟨rfl, hb⟩; refine ⟨_, rfl, ?_⟩; replace BK469 := zm (kB (kx BK469.out) hb); replace HB := zm (below_step (bx HB.out) hb); (try clear hb)))
    go_ret
    exact ⟨xe, bx HB.out⟩
   replace c26 := Bool.eq_false_iff.mpr c26
   subst c26
   rw [if_neg (show ¬ (false = true) by decide)] at H
   replace H := Option.bind_eq_some_iff.mp H
   obtain ⟨t477, A290, H⟩ := H
   have A29 := zm A290
   clear A290
   replace H := Option.bind_eq_some_iff.mp H
   obtain ⟨t478, A300, H⟩ := H
   replace H : (if t477 < 0 then (treenaillaw05_NetRoads.j2 kj18 a1 t477 t478 true l0_0 l0_1) else (if t478 < 0 then (treenaillaw05_NetRoads.j2 kj18 a1 t477 t478 true l0_0 l0_1) else (if t477 ≥ (l0_0.length : Int) then (treenaillaw05_NetRoads.j2 kj18 a1 t477 t478 true l0_0 l0_1) else (treenaillaw05_NetRoads.j2 kj18 a1 t477 t478 (decide (t478 ≥ (l0_0.length : Int))) l0_0 l0_1)))) = some r := H
   have A30 := zm A300
   clear A300
   have HC31 := zm H
   clear H
   have hcz32_0 := bc0 BK469.out
   have hcz32_1 := bc1 BK469.out
   go_upto_region 8 with (first | ((with_reducible refine gate_callee (f := 15) rfl ?_); refine goesL_ (some 40) rfl rfl Tryd.func15 (by kernel_rfl) rfl #[.agg #[.slice A0_0 l0_0.length c0_0, .slice A0_1 l0_1.length c0_1]] rfl ag ?_; (with_reducible refine (net_Start.calls kj18 _ _ l0_0 _ _ l0_1 t477 _ ?side1 HC0_0.out ?side3 HC0_1.out A29.out).mono ?_); (case side1 => exact cx (Kd.C_below HR0_0.out HB.out)); (case side3 => exact cx (Kd.C_below HR0_1.out HB.out)); rintro e w33 ⟨rfl, hb⟩; refine ⟨_, rfl, ?_⟩; replace BK469 := zm (kB (kx BK469.out) hb); replace HB := zm (below_step (bx HB.out) hb); (try clear hb); have hcz34_0 := bc0 BK469.out; have hcz34_1 := bc1 BK469.out) | ((with_reducible refine gate_callee (f := 16) rfl ?_); refine goesL_ (some 42) rfl rfl Tryd.func16 (by kernel_rfl) rfl #[.agg #[.slice A0_0 l0_0.length c0_0, .slice A0_1 l0_1.length c0_1]] rfl ag ?_; (with_reducible refine (net_End.calls kj18 _ _ l0_0 _ _ l0_1 t478 _ ?side1 HC0_0.out ?side3 HC0_1.out A30.out).mono ?_); (case side1 => exact cx (Kd.C_below HR0_0.out HB.out)); (case side3 => exact cx (Kd.C_below HR0_1.out HB.out)); rintro e w35 ⟨rfl, hb⟩; refine ⟨_, rfl, ?_⟩; replace BK469 := zm (kB (kx BK469.out) hb); replace HB := zm (below_step (bx HB.out) hb); (try clear hb)))
   (try simp only [Act.put, sS, sZ, sC])
   go_cut [62] (fun v62 wc => ∃ (kq : Nat) (x62_30 : Bool), v62 = .bool x62_30 ∧ Aside0 (treenaillaw05_NetRoads.j2 kq a1 t477 t478 x62_30 l0_0 l0_1 = some r) ∧ Aside0 (kq ≤ kj18) ∧ Aside0 (wc.heap[gb469]? = some (.cells #[(.slice A0_0 l0_0.length c0_0), (.slice A0_1 l0_1.length c0_1)] 25 (0, 0))) ∧ Aside0 (Below w.heap.size w wc))
   case first =>
    have H := HC31.out
    clear HC31
    by_cases c36 : t477 < 0
    ·rw [if_pos c36] at H
     have c36b0 := decide_eq_true c36
     clear c36
     (first | rw [c36b0] | (simp only [i64_w, i32_w]; rw [c36b0]) | skip)
     have H' := zm H
     clear H
     go_wp2
     go_meet
     case rel => exact ⟨_, (true), (by first | rfl | (simp; done) | (simp [*]; done)), H', ⟨by have := HJ2.out; have := HJ18.out; first | omega | exact Nat.le_refl _⟩, ⟨kx BK469.out⟩, ⟨bx HB.out⟩⟩
    rw [if_neg c36] at H
    have c36b0 := decide_eq_false c36
    clear c36
    (first | rw [c36b0] | (simp only [i64_w, i32_w]; rw [c36b0]) | skip)
    by_cases c37 : t478 < 0
    ·rw [if_pos c37] at H
     have c37b0 := decide_eq_true c37
     clear c37
     have H' := zm H
     clear H
     go_wp2
     go_meet
     case rel => exact ⟨_, (true), (by first | rfl | (simp; done) | (simp [*]; done)), H', ⟨by have := HJ2.out; have := HJ18.out; first | omega | exact Nat.le_refl _⟩, ⟨kx BK469.out⟩, ⟨bx HB.out⟩⟩
    rw [if_neg c37] at H
    have c37b0 := decide_eq_false c37
    clear c37
    by_cases c38 : t477 ≥ (l0_0.length : Int)
    ·rw [if_pos c38] at H
     have c38b0 : decide ((l0_0.length : Int) ≤ t477) = true := decide_eq_true c38
     clear c38
     have H' := zm H
     clear H
     have hcz39_0 := bc0 BK469.out
     have hcz39_1 := bc1 BK469.out
     go_wp2
     go_meet
     case rel => exact ⟨_, (true), (by first | rfl | (simp; done) | (simp [*]; done)), H', ⟨by have := HJ2.out; have := HJ18.out; first | omega | exact Nat.le_refl _⟩, ⟨kx BK469.out⟩, ⟨bx HB.out⟩⟩
    rw [if_neg c38] at H
    have c38b0 : decide ((l0_0.length : Int) ≤ t477) = false := decide_eq_false c38
    clear c38
    have H' := zm H
    clear H
    have hcz40_0 := bc0 BK469.out
    have hcz40_1 := bc1 BK469.out
    go_wp2
    go_meet
    case rel => exact ⟨_, (decide (t478 ≥ (l0_0.length : Int))), (by first | rfl | (simp; done) | (simp [*]; done)), H', ⟨by have := HJ2.out; have := HJ18.out; first | omega | exact Nat.le_refl _⟩, ⟨kx BK469.out⟩, ⟨bx HB.out⟩⟩
   clear HC31
   try clear c1
   try clear c2
   try clear p2
   try clear c3
   try clear c5
   try clear c6
   try clear c9
   try clear c9b0
   try clear c10
   try clear c11
   try clear c15
   try clear c16
   try clear c22
   try clear c22b0
   try clear c22b1
   try clear c26
   try clear c36
   try clear c36b0
   try clear c37
   try clear c37b0
   try clear c38
   try clear c38b0
   try clear p2
   try clear BK469
   obtain ⟨kq, x62_30, rfl, HA, HJ30, BK469, HB⟩ := hcut
   cases kq with
   | zero => exact absurd HA.out (by first | (intro h_; cases h_; done) | simp [treenaillaw05_NetRoads.j2])
   | succ kj30 =>
    have H := HA.out
    clear HA
    simp only [treenaillaw05_NetRoads.j2] at H
    by_cases c41 : x62_30 = true
    ·subst c41
     rw [if_pos rfl] at H
     obtain rfl := Option.some.inj H
     go_wp2
     go_ret
     exact ⟨xe, bx HB.out⟩
    replace c41 := Bool.eq_false_iff.mpr c41
    subst c41
    rw [if_neg (show ¬ (false = true) by decide)] at H
    replace H := Option.bind_eq_some_iff.mp H
    obtain ⟨t479, A420, H⟩ := H
    have A42 := zm A420
    clear A420
    replace H := Option.bind_eq_some_iff.mp H
    obtain ⟨t482, A430, H⟩ := H
    replace H : (if 0 ≤ a1 then (if a1 < (t479.length : Int) then (if rdOf false t479 a1 = true then (if 0 ≤ t478 then (if t478 < (t482.length : Int) then (if rdOf false t482 t478 = true then ((treenaillaw05_line.f kj30).bind fun t487 => (some t487)) else (some false)) else (none)) else (none)) else (some false)) else (none)) else (none)) = some r := H
    have A43 := zm A430
    clear A430
    have HC44 := zm H
    clear H
    have hcz45_0 := bc0 BK469.out
    have hcz45_1 := bc1 BK469.out
    go_upto_region 12 with (first | ((with_reducible refine gate_callee (f := 17) rfl ?_); refine goesL_ (some 65) rfl rfl Tryd.func17 (by kernel_rfl) rfl #[.agg #[.slice A0_0 l0_0.length c0_0, .slice A0_1 l0_1.length c0_1], .int .i64 t477] rfl ag ?_; (with_reducible refine (treenailref05_Reach.calls kj30 _ _ l0_0 _ _ l0_1 t477 t479 _ ?side1 HC0_0.out ?side3 HC0_1.out A42.out).mono ?_); (case side1 => exact cx (Kd.C_below HR0_0.out HB.out)); (case side3 => exact cx (Kd.C_below HR0_1.out HB.out)); rintro e w46 ⟨v480, rfl, ho0, hb⟩; refine ⟨_, rfl, ?_⟩; have HO481 := zm (Kd.R_lower ho0 (below_size (bx HB.out))); replace BK469 := zm (kB (kx BK469.out) hb); replace HB := zm (below_step (bx HB.out) hb); (try clear hb); (try clear ho0); have hcz47_0 := bc0 BK469.out; have hcz47_1 := bc1 BK469.out) | ((with_reducible refine gate_callee (f := 17) rfl ?_); refine goesL_ (some 68) rfl rfl Tryd.func17 (by kernel_rfl) rfl #[.agg #[.slice A0_0 l0_0.length c0_0, .slice A0_1 l0_1.length c0_1], .int .i64 a1] rfl ag ?_; (with_reducible refine (treenailref05_Reach.calls kj30 _ _ l0_0 _ _ l0_1 a1 t482 _ ?side1 HC0_0.out ?side3 HC0_1.out A43.out).mono ?_); (case side1 => exact cx (Kd.C_below HR0_0.out HB.out)); (case side3 => exact cx (Kd.C_below HR0_1.out HB.out)); rintro e w48 ⟨v483, rfl, ho0, hb⟩; refine ⟨_, rfl, ?_⟩; have HO484 := zm (Kd.R_lower (Kd.R_new' ho0 (Kd.R_lt (rx HO481.out))) (below_size (bx HB.out))); replace HO481 := zm (Kd.R_elder' (rx HO481.out) (by first | exact Kd.R_base ho0 | exact Kd.N_base ho0 | exact Kd.S_base ho0 | exact Kd.R_base ho0) hb); replace BK469 := zm (kB (kx BK469.out) hb); replace HB := zm (below_step (bx HB.out) hb); (try clear hb); (try clear hb2); (try clear hk); (try clear hi); (try clear ho0)))
    have H := HC44.out
    clear HC44
    by_cases c49 : 0 ≤ a1
    ·rw [if_pos c49] at H
     have c49b0 := decide_eq_true c49
     clear c49
     by_cases c50 : a1 < (t479.length : Int)
     ·rw [if_pos c50] at H
      have c50b0 := decide_eq_true c50
      clear c50
      obtain ⟨bq51, hbq51⟩ : ∃ b_ : Bool, b_ = (rdOf false t479 a1) := ⟨_, rfl⟩
      replace H : (if bq51 = true then (if 0 ≤ t478 then (if t478 < (t482.length : Int) then (if rdOf false t482 t478 = true then ((treenaillaw05_line.f kj30).bind fun t487 => (some t487)) else (some false)) else (none)) else (none)) else (some false)) = some r := by rw [← hbq51] at H; exact H
      have Nbq51 := zm hbq51
      clear hbq51
      by_cases c52 : bq51 = true
      ·subst c52
       rw [if_pos rfl] at H
       by_cases c53 : 0 ≤ t478
       ·rw [if_pos c53] at H
        have c53b0 := decide_eq_true c53
        clear c53
        by_cases c54 : t478 < (t482.length : Int)
        ·rw [if_pos c54] at H
         have c54b0 := decide_eq_true c54
         clear c54
         obtain ⟨bq55, hbq55⟩ : ∃ b_ : Bool, b_ = (rdOf false t482 t478) := ⟨_, rfl⟩
         replace H : (if bq55 = true then ((treenaillaw05_line.f kj30).bind fun t487 => (some t487)) else (some false)) = some r := by rw [← hbq55] at H; exact H
         have Nbq55 := zm hbq55
         clear hbq55
         by_cases c56 : bq55 = true
         ·subst c56
          rw [if_pos rfl] at H
          replace H := Option.bind_eq_some_iff.mp H
          obtain ⟨t487, A570, H⟩ := H
          replace H : (some t487) = some r := H
          have A57 := zm A570
          clear A570
          obtain rfl := Option.some.inj H
          obtain ⟨Ao58, co58, eo58⟩ := Kd.R_slice HO481.out
          subst eo58
          have p485 : 0 ≤ (a1 : Int) := od
          have q485 : a1 < (t479.length : Int) := od
          obtain ⟨ad485, e485, hx485_0⟩ := Kd.at_bool (Kd.R_reads' HO481.out).2.2 a1 p485 q485
          (try rw [← Nbq51.out] at hx485_0)
          (try rw [← Nbq55.out] at hx485_0)
          (try rw [← Nbq51.out] at hw485_0)
          (try rw [← Nbq55.out] at hw485_0)
          cases e485
          replace p485 := eq_true p485
          replace q485 := eq_true q485
          obtain ⟨Ao59, co59, eo59⟩ := Kd.R_slice HO484.out
          subst eo59
          have p486 : 0 ≤ (t478 : Int) := od
          have q486 : t478 < (t482.length : Int) := od
          obtain ⟨ad486, e486, hx486_0⟩ := Kd.at_bool (Kd.R_reads' HO484.out).2.2 t478 p486 q486
          (try rw [← Nbq51.out] at hx486_0)
          (try rw [← Nbq55.out] at hx486_0)
          (try rw [← Nbq51.out] at hw486_0)
          (try rw [← Nbq55.out] at hw486_0)
          cases e486
          replace p486 := eq_true p486
          replace q486 := eq_true q486
          go_wp2_with (first | (go_at_call 10; (with_reducible refine (treenaillaw05_line.calls kj30  t487 _ A57.out ?hT_).mono ?_); (case hT_ => exact Words.tab_below HT0.out (bx HB.out)); rintro e w60 ⟨rfl, hb⟩; replace BK469 := zm (kB (kx BK469.out) hb); replace HB := zm (below_step (bx HB.out) hb); (try clear hb)))
          go_ret
          exact ⟨xe, bx HB.out⟩
         replace c56 := Bool.eq_false_iff.mpr c56
         subst c56
         rw [if_neg (show ¬ (false = true) by decide)] at H
         obtain rfl := Option.some.inj H
         obtain ⟨Ao61, co61, eo61⟩ := Kd.R_slice HO481.out
         subst eo61
         have p485 : 0 ≤ (a1 : Int) := od
         have q485 : a1 < (t479.length : Int) := od
         obtain ⟨ad485, e485, hx485_0⟩ := Kd.at_bool (Kd.R_reads' HO481.out).2.2 a1 p485 q485
         (try rw [← Nbq51.out] at hx485_0)
         (try rw [← Nbq55.out] at hx485_0)
         (try rw [← Nbq51.out] at hw485_0)
         (try rw [← Nbq55.out] at hw485_0)
         cases e485
         replace p485 := eq_true p485
         replace q485 := eq_true q485
         obtain ⟨Ao62, co62, eo62⟩ := Kd.R_slice HO484.out
         subst eo62
         have p486 : 0 ≤ (t478 : Int) := od
         have q486 : t478 < (t482.length : Int) := od
         obtain ⟨ad486, e486, hx486_0⟩ := Kd.at_bool (Kd.R_reads' HO484.out).2.2 t478 p486 q486
         (try rw [← Nbq51.out] at hx486_0)
         (try rw [← Nbq55.out] at hx486_0)
         (try rw [← Nbq51.out] at hw486_0)
         (try rw [← Nbq55.out] at hw486_0)
         cases e486
         replace p486 := eq_true p486
         replace q486 := eq_true q486
         go_wp2
         go_ret
         exact ⟨xe, bx HB.out⟩
        rw [if_neg c54] at H
        exact absurd H (by simp)
       rw [if_neg c53] at H
       exact absurd H (by simp)
      replace c52 := Bool.eq_false_iff.mpr c52
      subst c52
      rw [if_neg (show ¬ (false = true) by decide)] at H
      obtain rfl := Option.some.inj H
      obtain ⟨Ao63, co63, eo63⟩ := Kd.R_slice HO481.out
      subst eo63
      have p485 : 0 ≤ (a1 : Int) := od
      have q485 : a1 < (t479.length : Int) := od
      obtain ⟨ad485, e485, hx485_0⟩ := Kd.at_bool (Kd.R_reads' HO481.out).2.2 a1 p485 q485
      (try rw [← Nbq51.out] at hx485_0)
      (try rw [← Nbq51.out] at hw485_0)
      cases e485
      replace p485 := eq_true p485
      replace q485 := eq_true q485
      go_wp2
      go_ret
      exact ⟨xe, bx HB.out⟩
     rw [if_neg c50] at H
     exact absurd H (by simp)
    rw [if_neg c49] at H
    exact absurd H (by simp)

end Go.Proofs.YtdaeiicdpfghlaaDoor.R
