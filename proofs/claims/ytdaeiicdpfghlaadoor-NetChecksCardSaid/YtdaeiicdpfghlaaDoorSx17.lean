import Derived.Test.YtdaeiicdpfghlaaDoorSx0
import Derived.Test.YtdaeiicdpfghlaaDoorSx3
import Derived.Test.YtdaeiicdpfghlaaDoorSx5
import Derived.Test.YtdaeiicdpfghlaaDoorSx7
import Derived.Test.YtdaeiicdpfghlaaDoorSx16
namespace Go.Proofs.YtdaeiicdpfghlaaDoor.R
open Go.RowKit Go.Proofs.YtdaeiicdpfghlaaDoorW.PrintWords Go.Proofs.YtdaeiicdpfghlaaDoorW.PrintLast Go.Proofs.YtdaeiicdpfghlaaDoorW.PrintMore
attribute [local go_sem] max2_int min2_int max_two min_two max_three min_three max_four min_four   -- for this text's walks alone
set_option linter.unusedVariables false
set_option linter.unusedSimpArgs false

def treenailref05_one.j0 : Nat → Bool → Int → Int → Int → Int → List (S35) → Option (Bool)
 | 0, _, _, _, _, _, _ => none
 | k + 1, x16, x357000, x357001, x357002, x357003, x357004 => if x16 = true then (some false) else (if x357000 = 4 then (if x357001 < 4 then ((treenailref05_of.f k x357002 x357003 x357004 1).bind fun t357 => (some t357)) else (some false)) else (if x357000 = 3 then (if x357000 = 8 then (if x357001 ≤ 4 then ((treenailref05_none.f x357002 x357003 x357004).bind fun t358 => (some t358)) else (some false)) else (if x357001 ≤ 3 then ((treenailref05_none.f x357002 x357003 x357004).bind fun t359 => (some t359)) else (some false))) else (if x357000 = 8 then (if x357001 ≤ 4 then ((treenailref05_none.f x357002 x357003 x357004).bind fun t360 => (some t360)) else (some false)) else (if x357001 ≤ 0 then ((treenailref05_none.f x357002 x357003 x357004).bind fun t361 => (some t361)) else (some false)))))
def treenailref05_one.f (k : Nat) (a0_0 : Int) (a0_1 : Int) (a0_2 : Int) (a0_3 : Int) (l0_4 : List (S35)) : Option (Bool) := if a0_0 < 1 then (treenailref05_one.j0 k true a0_0 a0_1 a0_2 a0_3 l0_4) else (if a0_0 > 8 then (treenailref05_one.j0 k true a0_0 a0_1 a0_2 a0_3 l0_4) else (treenailref05_one.j0 k (decide (a0_1 < 0)) a0_0 a0_1 a0_2 a0_3 l0_4))
set_option maxRecDepth 100000 in
theorem treenailref05_one.mono_l : ∀ k, (∀ y0 y1 y2 y3 y4 y5, LeO (treenailref05_one.j0 k y0 y1 y2 y3 y4 y5) (treenailref05_one.j0 (k + 1) y0 y1 y2 y3 y4 y5))
 | 0 => fun _ _ _ _ _ _ r h => by first | (cases h; done) | simp [treenailref05_one.j0] at h
 | k + 1 => by
  have ih0 := treenailref05_one.mono_l k
  ·intro y0 y1 y2 y3 y4 y5
   unfold treenailref05_one.j0
   repeat' first
   | (with_reducible exact ih0 _ _ _ _ _ _)
   | (with_reducible exact treenailref05_of.mono _ _ _ _ _)
   | (with_reducible exact LeO.refl _)
   | (with_reducible exact LeO.none _)
   | (with_reducible refine LeO.ite ?_ ?_)
   | (with_reducible refine LeO.bind ?_ (fun _ => ?_))
   | refine LeO.ite ?_ ?_
   | refine LeO.bind ?_ (fun _ => ?_)
set_option maxRecDepth 100000 in
theorem treenailref05_one.mono : ∀ a0 a1 a2 a3 a4 k, LeO (treenailref05_one.f k a0 a1 a2 a3 a4) (treenailref05_one.f (k + 1) a0 a1 a2 a3 a4) := by
 intro a0 a1 a2 a3 a4 k
 have ih0 := treenailref05_one.mono_l k
 unfold treenailref05_one.f
 repeat' first
 | (with_reducible exact ih0 _ _ _ _ _ _)
 | (with_reducible exact treenailref05_of.mono _ _ _ _ _)
 | (with_reducible exact LeO.refl _)
 | (with_reducible exact LeO.none _)
 | (with_reducible refine LeO.ite ?_ ?_)
 | (with_reducible refine LeO.bind ?_ (fun _ => ?_))
 | refine LeO.ite ?_ ?_
 | refine LeO.bind ?_ (fun _ => ?_)
set_option maxHeartbeats 8000000 in
set_option maxRecDepth 100000 in
theorem treenailref05_one.calls (k : Nat) (a0_0 : Int) (a0_1 : Int) (a0_2 : Int) (a0_3 : Int) (A0_4 : Option Addr) (c0_4 : Nat) (l0_4 : List (S35)) (r : Bool) (w : World) (hr0_4 : Kd.C k35 w A0_4 l0_4.length l0_4) (hc0_4 : l0_4.length ≤ c0_4) (h : treenailref05_one.f k a0_0 a0_1 a0_2 a0_3 l0_4 = some r) :
  Calls Tryd.prog 28 #[.agg #[.int .i64 a0_0, .int .i64 a0_1, .int .i64 a0_2, .int .i64 a0_3, .slice A0_4 l0_4.length c0_4]] w fun e w' => e = .returned (.bool r) ∧ Below w.heap.size w w' := by
 have hu37 := Tryd.underlying37
 have hu35 := Tryd.underlying35
 have HR0_4 := zm hr0_4
 have HC0_4 := zm hc0_4
 clear hr0_4 hc0_4
 have HB := zm (Below.refl w.heap.size w)
 have H : (if a0_0 < 1 then (treenailref05_one.j0 k true a0_0 a0_1 a0_2 a0_3 l0_4) else (if a0_0 > 8 then (treenailref05_one.j0 k true a0_0 a0_1 a0_2 a0_3 l0_4) else (treenailref05_one.j0 k (decide (a0_1 < 0)) a0_0 a0_1 a0_2 a0_3 l0_4))) = some r := h
 clear h
 have HC2 := zm H
 clear H
 go_enter Tryd.func28, Tryd.ntmps28
 go_upto_region 1 with (first | ((with_reducible refine gate_dst (N := 1) rfl ?_); refine box_event ?hg (N := 1) ?hd (cs := #[.int .i64 a0_0, .int .i64 a0_1, .int .i64 a0_2, .int .i64 a0_3, .slice A0_4 l0_4.length c0_4]) (t := 37) ?hr ?_; (case hd => rfl); (case hg => rfl); (case hr => first | (go_simp; done) | (go_simp; rfl)); intro gb356 hg w3 hbox hb; have BK356 := zm (hbox); have GW356 := zm ((by rw [hg]; exact (below_size (bx HB.out)) : w.heap.size ≤ gb356)); have GE356 := zm ((by rw [hg]; exact (below_size (bx HB.out)) : w.heap.size ≤ gb356)); replace HB := zm (below_step (bx HB.out) hb); clear hb hbox hg))
 (try simp only [Act.put, sS, sZ, sC])
 go_cut [16] (fun v16 wc => ∃ (kq : Nat) (x16_1 : Bool), v16 = .bool x16_1 ∧ Aside0 (treenailref05_one.j0 kq x16_1 a0_0 a0_1 a0_2 a0_3 l0_4 = some r) ∧ Aside0 (kq ≤ k) ∧ Aside0 (wc.heap[gb356]? = some (.cells #[.int .i64 a0_0, .int .i64 a0_1, .int .i64 a0_2, .int .i64 a0_3, (.slice A0_4 l0_4.length c0_4)] 37 (0, 0))) ∧ Aside0 (Below w.heap.size w wc))
 case first =>
  have H := HC2.out
  clear HC2
  by_cases c4 : a0_0 < 1
  ·rw [if_pos c4] at H
   have c4b0 := decide_eq_true c4
   clear c4
   (first | rw [c4b0] | (simp only [i64_w, i32_w]; rw [c4b0]) | skip)
   have H' := zm H
   clear H
   have hcz5_0 := bc0 BK356.out
   have hcz5_1 := bc1 BK356.out
   have hcz5_2 := bc2 BK356.out
   have hcz5_3 := bc3 BK356.out
   have hcz5_4 := bc4 BK356.out
   go_wp2
   go_meet
   case rel => exact ⟨_, (true), (by first | rfl | (simp; done) | (simp [*]; done)), H', ⟨by first | omega | exact Nat.le_refl _⟩, ⟨kx BK356.out⟩, ⟨bx HB.out⟩⟩
  rw [if_neg c4] at H
  have c4b0 := decide_eq_false c4
  clear c4
  (first | rw [c4b0] | (simp only [i64_w, i32_w]; rw [c4b0]) | skip)
  by_cases c6 : a0_0 > 8
  ·rw [if_pos c6] at H
   have c6b0 : decide (8 < a0_0) = true := decide_eq_true c6
   clear c6
   have H' := zm H
   clear H
   have hcz7_0 := bc0 BK356.out
   have hcz7_1 := bc1 BK356.out
   have hcz7_2 := bc2 BK356.out
   have hcz7_3 := bc3 BK356.out
   have hcz7_4 := bc4 BK356.out
   go_wp2
   go_meet
   case rel => exact ⟨_, (true), (by first | rfl | (simp; done) | (simp [*]; done)), H', ⟨by first | omega | exact Nat.le_refl _⟩, ⟨kx BK356.out⟩, ⟨bx HB.out⟩⟩
  rw [if_neg c6] at H
  have c6b0 : decide (8 < a0_0) = false := decide_eq_false c6
  clear c6
  have H' := zm H
  clear H
  have hcz8_0 := bc0 BK356.out
  have hcz8_1 := bc1 BK356.out
  have hcz8_2 := bc2 BK356.out
  have hcz8_3 := bc3 BK356.out
  have hcz8_4 := bc4 BK356.out
  go_wp2
  go_meet
  case rel => exact ⟨_, (decide (a0_1 < 0)), (by first | rfl | (simp; done) | (simp [*]; done)), H', ⟨by first | omega | exact Nat.le_refl _⟩, ⟨kx BK356.out⟩, ⟨bx HB.out⟩⟩
 clear HC2
 try clear c2
 try clear p2
 try clear c4
 try clear c4b0
 try clear c6
 try clear c6b0
 try clear BK356
 obtain ⟨kq, x16_1, rfl, HA, HJ1, BK356, HB⟩ := hcut
 cases kq with
 | zero => exact absurd HA.out (by first | (intro h_; cases h_; done) | simp [treenailref05_one.j0])
 | succ kj1 =>
  have H := HA.out
  clear HA
  simp only [treenailref05_one.j0] at H
  by_cases c9 : x16_1 = true
  ·subst c9
   rw [if_pos rfl] at H
   obtain rfl := Option.some.inj H
   go_wp2
   go_ret
   exact ⟨xe, bx HB.out⟩
  replace c9 := Bool.eq_false_iff.mpr c9
  subst c9
  rw [if_neg (show ¬ (false = true) by decide)] at H
  by_cases c10 : a0_0 = 4
  ·rw [if_pos c10] at H
   have c10b0 := beq_iff_eq.mpr c10
   have c10b1 := bne_eq_false_iff_eq.mpr c10
   clear c10
   by_cases c11 : a0_1 < 4
   ·rw [if_pos c11] at H
    have c11b0 := decide_eq_true c11
    clear c11
    replace H := Option.bind_eq_some_iff.mp H
    obtain ⟨t357, A120, H⟩ := H
    replace H : (some t357) = some r := H
    have A12 := zm A120
    clear A120
    obtain rfl := Option.some.inj H
    have hcz13_0 := bc0 BK356.out
    have hcz13_1 := bc1 BK356.out
    have hcz13_2 := bc2 BK356.out
    have hcz13_3 := bc3 BK356.out
    have hcz13_4 := bc4 BK356.out
    go_wp2_with (first | (go_at_call 49; (with_reducible refine (treenailref05_of.calls kj1 a0_2 a0_3 _ _ l0_4 1 t357 _ ?side1 HC0_4.out A12.out).mono ?_); (case side1 => exact cx (Kd.C_below HR0_4.out HB.out)); rintro e w14 ⟨rfl, hb⟩; replace BK356 := zm (kB (kx BK356.out) hb); replace HB := zm (below_step (bx HB.out) hb); (try clear hb)))
    go_ret
    exact ⟨xe, bx HB.out⟩
   rw [if_neg c11] at H
   have c11b0 := decide_eq_false c11
   clear c11
   obtain rfl := Option.some.inj H
   have hcz15_0 := bc0 BK356.out
   have hcz15_1 := bc1 BK356.out
   have hcz15_2 := bc2 BK356.out
   have hcz15_3 := bc3 BK356.out
   have hcz15_4 := bc4 BK356.out
   go_wp2
   go_ret
   exact ⟨xe, bx HB.out⟩
  rw [if_neg c10] at H
  have c10b0 := beq_eq_false_iff_ne.mpr c10
  have c10b1 := bne_iff_ne.mpr c10
  by_cases c16 : a0_0 = 3
  ·rw [if_pos c16] at H
   have c16b0 := beq_iff_eq.mpr c16
   have c16b1 := bne_eq_false_iff_eq.mpr c16
   clear c16
   by_cases c17 : a0_0 = 8
   ·rw [if_pos c17] at H
    have c17b0 := beq_iff_eq.mpr c17
    have c17b1 := bne_eq_false_iff_eq.mpr c17
    clear c17
    by_cases c18 : a0_1 ≤ 4
    ·rw [if_pos c18] at H
     have c18b0 := decide_eq_true c18
     clear c18
     replace H := Option.bind_eq_some_iff.mp H
     obtain ⟨t358, A190, H⟩ := H
     replace H : (some t358) = some r := H
     have A19 := zm A190
     clear A190
     obtain rfl := Option.some.inj H
     have hcz20_0 := bc0 BK356.out
     have hcz20_1 := bc1 BK356.out
     have hcz20_2 := bc2 BK356.out
     have hcz20_3 := bc3 BK356.out
     have hcz20_4 := bc4 BK356.out
     go_wp2_with (first | (go_at_call 50; (with_reducible refine (treenailref05_none.calls a0_2 a0_3 _ _ l0_4 t358 _ ?side1 HC0_4.out A19.out).mono ?_); (case side1 => exact cx (Kd.C_below HR0_4.out HB.out)); rintro e w21 ⟨rfl, hb⟩; replace BK356 := zm (kB (kx BK356.out) hb); replace HB := zm (below_step (bx HB.out) hb); (try clear hb)))
     go_ret
     exact ⟨xe, bx HB.out⟩
    rw [if_neg c18] at H
    have c18b0 := decide_eq_false c18
    clear c18
    obtain rfl := Option.some.inj H
    have hcz22_0 := bc0 BK356.out
    have hcz22_1 := bc1 BK356.out
    have hcz22_2 := bc2 BK356.out
    have hcz22_3 := bc3 BK356.out
    have hcz22_4 := bc4 BK356.out
    go_wp2
    go_ret
    exact ⟨xe, bx HB.out⟩
   rw [if_neg c17] at H
   have c17b0 := beq_eq_false_iff_ne.mpr c17
   have c17b1 := bne_iff_ne.mpr c17
   by_cases c23 : a0_1 ≤ 3
   ·rw [if_pos c23] at H
    have c23b0 := decide_eq_true c23
    clear c23
    replace H := Option.bind_eq_some_iff.mp H
    obtain ⟨t359, A240, H⟩ := H
    replace H : (some t359) = some r := H
    have A24 := zm A240
    clear A240
    obtain rfl := Option.some.inj H
    have hcz25_0 := bc0 BK356.out
    have hcz25_1 := bc1 BK356.out
    have hcz25_2 := bc2 BK356.out
    have hcz25_3 := bc3 BK356.out
    have hcz25_4 := bc4 BK356.out
    go_wp2_with (first | (go_at_call 50; (with_reducible refine (treenailref05_none.calls a0_2 a0_3 _ _ l0_4 t359 _ ?side1 HC0_4.out A24.out).mono ?_); (case side1 => exact cx (Kd.C_below HR0_4.out HB.out)); rintro e w26 ⟨rfl, hb⟩; replace BK356 := zm (kB (kx BK356.out) hb); replace HB := zm (below_step (bx HB.out) hb); (try clear hb)))
    go_ret
    exact ⟨xe, bx HB.out⟩
   rw [if_neg c23] at H
   have c23b0 := decide_eq_false c23
   clear c23
   obtain rfl := Option.some.inj H
   have hcz27_0 := bc0 BK356.out
   have hcz27_1 := bc1 BK356.out
   have hcz27_2 := bc2 BK356.out
   have hcz27_3 := bc3 BK356.out
   have hcz27_4 := bc4 BK356.out
   go_wp2
   go_ret
   exact ⟨xe, bx HB.out⟩
  rw [if_neg c16] at H
  have c16b0 := beq_eq_false_iff_ne.mpr c16
  have c16b1 := bne_iff_ne.mpr c16
  by_cases c28 : a0_0 = 8
  ·rw [if_pos c28] at H
   have c28b0 := beq_iff_eq.mpr c28
   have c28b1 := bne_eq_false_iff_eq.mpr c28
   clear c28
   by_cases c29 : a0_1 ≤ 4
   ·rw [if_pos c29] at H
    have c29b0 := decide_eq_true c29
    clear c29
    replace H := Option.bind_eq_some_iff.mp H
    obtain ⟨t360, A300, H⟩ := H
    replace H : (some t360) = some r := H
    have A30 := zm A300
    clear A300
    obtain rfl := Option.some.inj H
    have hcz31_0 := bc0 BK356.out
    have hcz31_1 := bc1 BK356.out
    have hcz31_2 := bc2 BK356.out
    have hcz31_3 := bc3 BK356.out
    have hcz31_4 := bc4 BK356.out
    go_wp2_with (first | (go_at_call 50; (with_reducible refine (treenailref05_none.calls a0_2 a0_3 _ _ l0_4 t360 _ ?side1 HC0_4.out A30.out).mono ?_); (case side1 => exact cx (Kd.C_below HR0_4.out HB.out)); rintro e w32 ⟨rfl, hb⟩; replace BK356 := zm (kB (kx BK356.out) hb); replace HB := zm (below_step (bx HB.out) hb); (try clear hb)))
    go_ret
    exact ⟨xe, bx HB.out⟩
   rw [if_neg c29] at H
   have c29b0 := decide_eq_false c29
   clear c29
   obtain rfl := Option.some.inj H
   have hcz33_0 := bc0 BK356.out
   have hcz33_1 := bc1 BK356.out
   have hcz33_2 := bc2 BK356.out
   have hcz33_3 := bc3 BK356.out
   have hcz33_4 := bc4 BK356.out
   go_wp2
   go_ret
   exact ⟨xe, bx HB.out⟩
  rw [if_neg c28] at H
  have c28b0 := beq_eq_false_iff_ne.mpr c28
  have c28b1 := bne_iff_ne.mpr c28
  by_cases c34 : a0_1 ≤ 0
  ·rw [if_pos c34] at H
   have c34b0 := decide_eq_true c34
   clear c34
   replace H := Option.bind_eq_some_iff.mp H
   obtain ⟨t361, A350, H⟩ := H
   replace H : (some t361) = some r := H
   have A35 := zm A350
   clear A350
   obtain rfl := Option.some.inj H
   have hcz36_0 := bc0 BK356.out
   have hcz36_1 := bc1 BK356.out
   have hcz36_2 := bc2 BK356.out
   have hcz36_3 := bc3 BK356.out
   have hcz36_4 := bc4 BK356.out
   go_wp2_with (first | (go_at_call 50; (with_reducible refine (treenailref05_none.calls a0_2 a0_3 _ _ l0_4 t361 _ ?side1 HC0_4.out A35.out).mono ?_); (case side1 => exact cx (Kd.C_below HR0_4.out HB.out)); rintro e w37 ⟨rfl, hb⟩; replace BK356 := zm (kB (kx BK356.out) hb); replace HB := zm (below_step (bx HB.out) hb); (try clear hb)))
   go_ret
   exact ⟨xe, bx HB.out⟩
  rw [if_neg c34] at H
  have c34b0 := decide_eq_false c34
  clear c34
  obtain rfl := Option.some.inj H
  have hcz38_0 := bc0 BK356.out
  have hcz38_1 := bc1 BK356.out
  have hcz38_2 := bc2 BK356.out
  have hcz38_3 := bc3 BK356.out
  have hcz38_4 := bc4 BK356.out
  go_wp2
  go_ret
  exact ⟨xe, bx HB.out⟩

end Go.Proofs.YtdaeiicdpfghlaaDoor.R
