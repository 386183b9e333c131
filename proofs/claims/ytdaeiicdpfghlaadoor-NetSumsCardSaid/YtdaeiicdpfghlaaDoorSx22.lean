import Derived.Test.YtdaeiicdpfghlaaDoorSx0
import Derived.Test.YtdaeiicdpfghlaaDoorSx1
import Derived.Test.YtdaeiicdpfghlaaDoorSx3
import Derived.Test.YtdaeiicdpfghlaaDoorSx4
import Derived.Test.YtdaeiicdpfghlaaDoorSx5
import Derived.Test.YtdaeiicdpfghlaaDoorSx7
import Derived.Test.YtdaeiicdpfghlaaDoorSx11
namespace Go.Proofs.YtdaeiicdpfghlaaDoor.R
open Go.RowKit Go.Proofs.YtdaeiicdpfghlaaDoorW.PrintWords Go.Proofs.YtdaeiicdpfghlaaDoorW.PrintLast Go.Proofs.YtdaeiicdpfghlaaDoorW.PrintMore
attribute [local go_sem] max2_int min2_int max_two min_two max_three min_three max_four min_four   -- for this text's walks alone
set_option linter.unusedVariables false
set_option linter.unusedSimpArgs false

mutual
def treenaillaw05_NetSums.l0 : Nat → Int → Int → List (S37) → Int → Int → List (S37) → List (S53) → Option (Bool)
 | 0, _, _, _, _, _, _, _ => none
 | k + 1, x5, x6, x24, x25, x26, x420000, x420001 => if x26 < x25 then (if 0 ≤ x26 then (if x26 < (x24.length : Int) then ((net_Ins.f k x420000 x420001 x26).bind fun t428 => ((net_Outs.f k x420000 x420001 x26).bind fun t431 => (if ((rd_T37 x24 x26).f0) = 5 then (treenaillaw05_NetSums.j1 k (wrap64 (x5 + (t428.length : Int))) (wrap64 (x6 + (t431.length : Int))) (t428.length : Int) (t431.length : Int) true x24 x25 x26 x420000 x420001 ((rd_T37 x24 x26).f0) ((rd_T37 x24 x26).f1) ((rd_T37 x24 x26).f2.f0) ((rd_T37 x24 x26).f2.f1) ((rd_T37 x24 x26).f2.f2)) else (if ((rd_T37 x24 x26).f0) = 6 then (treenaillaw05_NetSums.j1 k (wrap64 (x5 + (t428.length : Int))) (wrap64 (x6 + (t431.length : Int))) (t428.length : Int) (t431.length : Int) true x24 x25 x26 x420000 x420001 ((rd_T37 x24 x26).f0) ((rd_T37 x24 x26).f1) ((rd_T37 x24 x26).f2.f0) ((rd_T37 x24 x26).f2.f1) ((rd_T37 x24 x26).f2.f2)) else (treenaillaw05_NetSums.j1 k (wrap64 (x5 + (t428.length : Int))) (wrap64 (x6 + (t431.length : Int))) (t428.length : Int) (t431.length : Int) (((rd_T37 x24 x26).f0) == 7) x24 x25 x26 x420000 x420001 ((rd_T37 x24 x26).f0) ((rd_T37 x24 x26).f1) ((rd_T37 x24 x26).f2.f0) ((rd_T37 x24 x26).f2.f1) ((rd_T37 x24 x26).f2.f2)))))) else (none)) else (none)) else (if x5 = (x420001.length : Int) then (if x6 = x5 then ((treenaillaw05_line.f k).bind fun t425 => (some t425)) else (some false)) else (some false))
def treenaillaw05_NetSums.j1 : Nat → Int → Int → Int → Int → Bool → List (S37) → Int → Int → List (S37) → List (S53) → Int → Int → Int → Int → List (S35) → Option (Bool)
 | 0, _, _, _, _, _, _, _, _, _, _, _, _, _, _, _ => none
 | k + 1, x5, x6, x9, x10, x11, x24, x25, x26, x420000, x420001, x428000, x428001, x428002, x428003, x428004 => if x9 > 1 then (if x10 > 1 then (treenaillaw05_NetSums.j2 k x5 x6 x24 x25 x26 true x420000 x420001) else (if (wrap64 (x9 + x10)) < 1 then (treenaillaw05_NetSums.j2 k x5 x6 x24 x25 x26 true x420000 x420001) else (if x11 = true then (if x9 = 0 then (if x428000 = 1 then (if x10 = 0 then (treenaillaw05_NetSums.j2 k x5 x6 x24 x25 x26 (x428000 != 2) x420000 x420001) else (treenaillaw05_NetSums.j2 k x5 x6 x24 x25 x26 false x420000 x420001)) else (treenaillaw05_NetSums.j2 k x5 x6 x24 x25 x26 true x420000 x420001)) else (if x10 = 0 then (treenaillaw05_NetSums.j2 k x5 x6 x24 x25 x26 (x428000 != 2) x420000 x420001) else (treenaillaw05_NetSums.j2 k x5 x6 x24 x25 x26 false x420000 x420001))) else (if (wrap64 (x9 + x10)) > 2 then (treenaillaw05_NetSums.j2 k x5 x6 x24 x25 x26 true x420000 x420001) else (if x9 = 0 then (if x428000 = 1 then (if x10 = 0 then (treenaillaw05_NetSums.j2 k x5 x6 x24 x25 x26 (x428000 != 2) x420000 x420001) else (treenaillaw05_NetSums.j2 k x5 x6 x24 x25 x26 false x420000 x420001)) else (treenaillaw05_NetSums.j2 k x5 x6 x24 x25 x26 true x420000 x420001)) else (if x10 = 0 then (treenaillaw05_NetSums.j2 k x5 x6 x24 x25 x26 (x428000 != 2) x420000 x420001) else (treenaillaw05_NetSums.j2 k x5 x6 x24 x25 x26 false x420000 x420001))))))) else (if (wrap64 (x9 + x10)) < 1 then (treenaillaw05_NetSums.j2 k x5 x6 x24 x25 x26 true x420000 x420001) else (if x11 = true then (if x9 = 0 then (if x428000 = 1 then (if x10 = 0 then (treenaillaw05_NetSums.j2 k x5 x6 x24 x25 x26 (x428000 != 2) x420000 x420001) else (treenaillaw05_NetSums.j2 k x5 x6 x24 x25 x26 false x420000 x420001)) else (treenaillaw05_NetSums.j2 k x5 x6 x24 x25 x26 true x420000 x420001)) else (if x10 = 0 then (treenaillaw05_NetSums.j2 k x5 x6 x24 x25 x26 (x428000 != 2) x420000 x420001) else (treenaillaw05_NetSums.j2 k x5 x6 x24 x25 x26 false x420000 x420001))) else (if (wrap64 (x9 + x10)) > 2 then (treenaillaw05_NetSums.j2 k x5 x6 x24 x25 x26 true x420000 x420001) else (if x9 = 0 then (if x428000 = 1 then (if x10 = 0 then (treenaillaw05_NetSums.j2 k x5 x6 x24 x25 x26 (x428000 != 2) x420000 x420001) else (treenaillaw05_NetSums.j2 k x5 x6 x24 x25 x26 false x420000 x420001)) else (treenaillaw05_NetSums.j2 k x5 x6 x24 x25 x26 true x420000 x420001)) else (if x10 = 0 then (treenaillaw05_NetSums.j2 k x5 x6 x24 x25 x26 (x428000 != 2) x420000 x420001) else (treenaillaw05_NetSums.j2 k x5 x6 x24 x25 x26 false x420000 x420001))))))
def treenaillaw05_NetSums.j2 : Nat → Int → Int → List (S37) → Int → Int → Bool → List (S37) → List (S53) → Option (Bool)
 | 0, _, _, _, _, _, _, _, _ => none
 | k + 1, x5, x6, x24, x25, x26, x97, x420000, x420001 => if x97 = true then (some false) else (treenaillaw05_NetSums.l0 k x5 x6 x24 x25 (wrap64 (x26 + 1)) x420000 x420001)
end
def treenaillaw05_NetSums.f (k : Nat) (l0_0 : List (S37)) (l0_1 : List (S53)) : Option (Bool) := (treenaillaw05_large.f k l0_0 l0_1).bind fun t420 => (if t420 = true then ((treenaillaw05_line.f k).bind fun t421 => (some t421)) else ((net_Check.f k l0_0 l0_1).bind fun bt422 => (if bt422.1 = 0 then (treenaillaw05_NetSums.l0 k 0 0 l0_0 (l0_0.length : Int) 0 l0_0 l0_1) else ((treenaillaw05_line.f k).bind fun t424 => (some t424)))))
set_option maxRecDepth 100000 in
theorem treenaillaw05_NetSums.mono_l : ∀ k, (∀ y0 y1 y2 y3 y4 y5 y6, LeO (treenaillaw05_NetSums.l0 k y0 y1 y2 y3 y4 y5 y6) (treenaillaw05_NetSums.l0 (k + 1) y0 y1 y2 y3 y4 y5 y6)) ∧ (∀ y0 y1 y2 y3 y4 y5 y6 y7 y8 y9 y10 y11 y12 y13 y14, LeO (treenaillaw05_NetSums.j1 k y0 y1 y2 y3 y4 y5 y6 y7 y8 y9 y10 y11 y12 y13 y14) (treenaillaw05_NetSums.j1 (k + 1) y0 y1 y2 y3 y4 y5 y6 y7 y8 y9 y10 y11 y12 y13 y14)) ∧ (∀ y0 y1 y2 y3 y4 y5 y6 y7, LeO (treenaillaw05_NetSums.j2 k y0 y1 y2 y3 y4 y5 y6 y7) (treenaillaw05_NetSums.j2 (k + 1) y0 y1 y2 y3 y4 y5 y6 y7))
 | 0 => ⟨fun _ _ _ _ _ _ _ r h => by first | (cases h; done) | simp [treenaillaw05_NetSums.l0] at h, fun _ _ _ _ _ _ _ _ _ _ _ _ _ _ _ r h => by first | (cases h; done) | simp [treenaillaw05_NetSums.j1] at h, fun _ _ _ _ _ _ _ _ r h => by first | (cases h; done) | simp [treenaillaw05_NetSums.j2] at h⟩
 | k + 1 => by
  obtain ⟨ih0, ih1, ih2⟩ := treenaillaw05_NetSums.mono_l k
  refine ⟨?_, ?_, ?_⟩
  all_goals intros
  all_goals first | unfold treenaillaw05_NetSums.l0 | unfold treenaillaw05_NetSums.j1 | unfold treenaillaw05_NetSums.j2
  all_goals repeat' first
  | (with_reducible exact ih0 _ _ _ _ _ _ _)
  | (with_reducible exact ih1 _ _ _ _ _ _ _ _ _ _ _ _ _ _ _)
  | (with_reducible exact ih2 _ _ _ _ _ _ _ _)
  | (with_reducible exact net_Check.mono _ _ _)
  | (with_reducible exact net_Ins.mono _ _ _ _)
  | (with_reducible exact net_Outs.mono _ _ _ _)
  | (with_reducible exact treenaillaw05_large.mono _ _ _)
  | (with_reducible exact treenaillaw05_line.mono _)
  | (with_reducible exact LeO.refl _)
  | (with_reducible exact LeO.none _)
  | (with_reducible refine LeO.ite ?_ ?_)
  | (with_reducible refine LeO.bind ?_ (fun _ => ?_))
  | refine LeO.ite ?_ ?_
  | refine LeO.bind ?_ (fun _ => ?_)
set_option maxRecDepth 100000 in
theorem treenaillaw05_NetSums.mono : ∀ a0 a1 k, LeO (treenaillaw05_NetSums.f k a0 a1) (treenaillaw05_NetSums.f (k + 1) a0 a1) := by
 intro a0 a1 k
 obtain ⟨ih0, ih1, ih2⟩ := treenaillaw05_NetSums.mono_l k
 unfold treenaillaw05_NetSums.f
 repeat' first
 | (with_reducible exact ih0 _ _ _ _ _ _ _)
 | (with_reducible exact ih1 _ _ _ _ _ _ _ _ _ _ _ _ _ _ _)
 | (with_reducible exact ih2 _ _ _ _ _ _ _ _)
 | (with_reducible exact net_Check.mono _ _ _)
 | (with_reducible exact net_Ins.mono _ _ _ _)
 | (with_reducible exact net_Outs.mono _ _ _ _)
 | (with_reducible exact treenaillaw05_large.mono _ _ _)
 | (with_reducible exact treenaillaw05_line.mono _)
 | (with_reducible exact LeO.refl _)
 | (with_reducible exact LeO.none _)
 | (with_reducible refine LeO.ite ?_ ?_)
 | (with_reducible refine LeO.bind ?_ (fun _ => ?_))
 | refine LeO.ite ?_ ?_
 | refine LeO.bind ?_ (fun _ => ?_)
set_option maxHeartbeats 8000000 in
set_option maxRecDepth 100000 in
theorem treenaillaw05_NetSums.calls (k : Nat) (A0_0 : Option Addr) (c0_0 : Nat) (l0_0 : List (S37)) (A0_1 : Option Addr) (c0_1 : Nat) (l0_1 : List (S53)) (r : Bool) (w : World) (hr0_0 : Kd.C k37 w A0_0 l0_0.length l0_0) (hc0_0 : l0_0.length ≤ c0_0) (hr0_1 : Kd.C k53 w A0_1 l0_1.length l0_1) (hc0_1 : l0_1.length ≤ c0_1) (h : treenaillaw05_NetSums.f k l0_0 l0_1 = some r) (hT : Words.Tab w) :
  Calls Tryd.prog 4 #[.agg #[.slice A0_0 l0_0.length c0_0, .slice A0_1 l0_1.length c0_1]] w fun e w' => e = .returned (.bool r) ∧ Below w.heap.size w w' := by
 have hu25 := Tryd.underlying25
 have hu37 := Tryd.underlying37
 have HR0_0 := zm hr0_0
 have HC0_0 := zm hc0_0
 clear hr0_0 hc0_0
 have HR0_1 := zm hr0_1
 have HC0_1 := zm hc0_1
 clear hr0_1 hc0_1
 have HB := zm (Below.refl w.heap.size w)
 have HT0 := zm hT
 clear hT
 have H : ((treenaillaw05_large.f k l0_0 l0_1).bind fun t420 => (if t420 = true then ((treenaillaw05_line.f k).bind fun t421 => (some t421)) else ((net_Check.f k l0_0 l0_1).bind fun bt422 => (if bt422.1 = 0 then (treenaillaw05_NetSums.l0 k 0 0 l0_0 (l0_0.length : Int) 0 l0_0 l0_1) else ((treenaillaw05_line.f k).bind fun t424 => (some t424)))))) = some r := h
 clear h
 replace H := Option.bind_eq_some_iff.mp H
 obtain ⟨t420, A20, H⟩ := H
 replace H : (if t420 = true then ((treenaillaw05_line.f k).bind fun t421 => (some t421)) else ((net_Check.f k l0_0 l0_1).bind fun bt422 => (if bt422.1 = 0 then (treenaillaw05_NetSums.l0 k 0 0 l0_0 (l0_0.length : Int) 0 l0_0 l0_1) else ((treenaillaw05_line.f k).bind fun t424 => (some t424))))) = some r := H
 have A2 := zm A20
 clear A20
 have HC3 := zm H
 clear H
 go_enter Tryd.func4, Tryd.ntmps4
 go_upto_if 13 with (first | ((with_reducible refine gate_dst (N := 1) rfl ?_); refine box_event ?hg (N := 1) ?hd (cs := #[.slice A0_0 l0_0.length c0_0, .slice A0_1 l0_1.length c0_1]) (t := 25) ?hr ?_; (case hd => rfl); (case hg => rfl); (case hr => first | (go_simp; done) | (go_simp; rfl)); intro gb419 hg w4 hbox hb; have BK419 := zm (hbox); have GW419 := zm ((by rw [hg]; exact (below_size (bx HB.out)) : w.heap.size ≤ gb419)); have GE419 := zm ((by rw [hg]; exact (below_size (bx HB.out)) : w.heap.size ≤ gb419)); replace HB := zm (below_step (bx HB.out) hb); clear hb hbox hg; have hcz5_0 := bc0 BK419.out; have hcz5_1 := bc1 BK419.out; have hfz5_0 := bF BK419.out 0; have hfz5_1 := bF BK419.out 1) | ((with_reducible refine gate_callee (f := 9) rfl ?_); refine goesL_ (some 13) rfl rfl Tryd.func9 (by kernel_rfl) rfl #[.agg #[.slice A0_0 l0_0.length c0_0, .slice A0_1 l0_1.length c0_1]] rfl ag ?_; (with_reducible refine (treenaillaw05_large.calls k _ _ l0_0 _ _ l0_1 t420 _ ?side1 HC0_0.out ?side3 HC0_1.out A2.out).mono ?_); (case side1 => exact cx (Kd.C_below HR0_0.out HB.out)); (case side3 => exact cx (Kd.C_below HR0_1.out HB.out)); rintro e w6 ⟨rfl, hb⟩; refine ⟨_, rfl, ?_⟩; replace BK419 := zm (kB (kx BK419.out) hb); replace HB := zm (below_step (bx HB.out) hb); (try clear hb)))
 have H := HC3.out
 clear HC3
 by_cases c7 : t420 = true
 ·subst c7
  rw [if_pos rfl] at H
  replace H := Option.bind_eq_some_iff.mp H
  obtain ⟨t421, A80, H⟩ := H
  replace H : (some t421) = some r := H
  have A8 := zm A80
  clear A80
  obtain rfl := Option.some.inj H
  go_wp2_with (first | ((with_reducible refine gate_callee (f := 10) rfl ?_); refine goesL_ (some 14) rfl rfl Tryd.func10 (by kernel_rfl) rfl #[] rfl ag ?_; (with_reducible refine (treenaillaw05_line.calls k  t421 _ A8.out ?hT_).mono ?_); (case hT_ => exact Words.tab_below HT0.out (bx HB.out)); rintro e w9 ⟨rfl, hb⟩; refine ⟨_, rfl, ?_⟩; replace BK419 := zm (kB (kx BK419.out) hb); replace HB := zm (below_step (bx HB.out) hb); (try clear hb)))
  go_ret
  exact ⟨xe, bx HB.out⟩
 replace c7 := Bool.eq_false_iff.mpr c7
 subst c7
 rw [if_neg (show ¬ (false = true) by decide)] at H
 replace H := Option.bind_eq_some_iff.mp H
 obtain ⟨⟨t422, t423⟩, A100, H⟩ := H
 replace H : (if t422 = 0 then (treenaillaw05_NetSums.l0 k 0 0 l0_0 (l0_0.length : Int) 0 l0_0 l0_1) else ((treenaillaw05_line.f k).bind fun t424 => (some t424))) = some r := H
 have A10 := zm A100
 clear A100
 have HC11 := zm H
 clear H
 have hcz12_0 := bc0 BK419.out
 have hcz12_1 := bc1 BK419.out
 have hfz12_0 := bF BK419.out 0
 have hfz12_1 := bF BK419.out 1
 go_upto_if 21 with (first | ((with_reducible refine gate_callee (f := 11) rfl ?_); refine goesL_ (some 17) rfl rfl Tryd.func11 (by kernel_rfl) rfl #[.agg #[.slice A0_0 l0_0.length c0_0, .slice A0_1 l0_1.length c0_1]] rfl ag ?_; (with_reducible refine (net_Check.calls k _ _ l0_0 _ _ l0_1 t422 t423 _ ?side1 HC0_0.out ?side3 HC0_1.out A10.out ?hT_).mono ?_); (case hT_ => exact Words.tab_below HT0.out (bx HB.out)); (case side1 => exact cx (Kd.C_below HR0_0.out HB.out)); (case side3 => exact cx (Kd.C_below HR0_1.out HB.out)); rintro e w13 ⟨rfl, hb⟩; refine ⟨_, rfl, ?_⟩; replace BK419 := zm (kB (kx BK419.out) hb); replace HB := zm (below_step (bx HB.out) hb); (try clear hb)))
 have H := HC11.out
 clear HC11
 by_cases c14 : t422 = 0
 ·rw [if_pos c14] at H
  have c14b0 := beq_iff_eq.mpr c14
  have c14b1 := bne_eq_false_iff_eq.mpr c14
  clear c14
  (first | rw [c14b0] | (simp only [i64_w, i32_w]; rw [c14b0]) | rw [c14b1] | skip)
  have H' := zm H
  clear H
  have hcz15_0 := bc0 BK419.out
  have hcz15_1 := bc1 BK419.out
  have hfz15_0 := bF BK419.out 0
  have hfz15_1 := bF BK419.out 1
  go_wp2
  go_loopg [5, 6, 26] k (fun kq v5 v6 v26 w' => ∃ (x5_1 : Int) (x6_1 : Int) (x26_1 : Int), v5 = .int .i64 x5_1 ∧ v6 = .int .i64 x6_1 ∧ v26 = .int .i64 x26_1 ∧ Aside0 (treenaillaw05_NetSums.l0 kq x5_1 x6_1 l0_0 (l0_0.length : Int) x26_1 l0_0 l0_1 = some r) ∧ Aside0 (kq ≤ k) ∧ Aside0 (w'.heap[gb419]? = some (.cells #[(.slice A0_0 l0_0.length c0_0), (.slice A0_1 l0_1.length c0_1)] 25 (0, 0))) ∧ Aside0 (Below w.heap.size w w'))
  case atStart => exact ⟨(0), (0), (0), (by first | rfl | (simp; done) | (simp [*]; done)), (by first | rfl | (simp; done) | (simp [*]; done)), (by first | rfl | (simp; done) | (simp [*]; done)), H', ⟨Nat.le_refl _⟩, ⟨kx BK419.out⟩, ⟨bx HB.out⟩⟩
  clear H'
  try clear c1
  try clear p2
  try clear c4
  try clear c7
  try clear c9
  try clear c10
  try clear c11
  try clear c14
  try clear c14b0
  try clear c14b1
  try clear BK419
  obtain ⟨x5_1, x6_1, x26_1, rfl, rfl, rfl, HA, HK1, BK419, HB⟩ := hrel
  cases gk with
  | zero => exact absurd HA.out (by first | (intro h_; cases h_; done) | simp [treenaillaw05_NetSums.l0])
  | succ k1 =>
   have H := HA.out
   clear HA
   simp only [treenaillaw05_NetSums.l0] at H
   by_cases c16 : x26_1 < (l0_0.length : Int)
   ·rw [if_pos c16] at H
    have c16b0 := decide_eq_true c16
    clear c16
    by_cases c17 : 0 ≤ x26_1
    ·rw [if_pos c17] at H
     have c17b0 := decide_eq_true c17
     clear c17
     by_cases c18 : x26_1 < (l0_0.length : Int)
     ·rw [if_pos c18] at H
      have c18b0 := decide_eq_true c18
      clear c18
      replace H := Option.bind_eq_some_iff.mp H
      obtain ⟨t428, A190, H⟩ := H
      have A19 := zm A190
      clear A190
      replace H := Option.bind_eq_some_iff.mp H
      obtain ⟨t431, A200, H⟩ := H
      replace H : (if ((rd_T37 l0_0 x26_1).f0) = 5 then (treenaillaw05_NetSums.j1 k1 (wrap64 (x5_1 + (t428.length : Int))) (wrap64 (x6_1 + (t431.length : Int))) (t428.length : Int) (t431.length : Int) true l0_0 (l0_0.length : Int) x26_1 l0_0 l0_1 ((rd_T37 l0_0 x26_1).f0) ((rd_T37 l0_0 x26_1).f1) ((rd_T37 l0_0 x26_1).f2.f0) ((rd_T37 l0_0 x26_1).f2.f1) ((rd_T37 l0_0 x26_1).f2.f2)) else (if ((rd_T37 l0_0 x26_1).f0) = 6 then (treenaillaw05_NetSums.j1 k1 (wrap64 (x5_1 + (t428.length : Int))) (wrap64 (x6_1 + (t431.length : Int))) (t428.length : Int) (t431.length : Int) true l0_0 (l0_0.length : Int) x26_1 l0_0 l0_1 ((rd_T37 l0_0 x26_1).f0) ((rd_T37 l0_0 x26_1).f1) ((rd_T37 l0_0 x26_1).f2.f0) ((rd_T37 l0_0 x26_1).f2.f1) ((rd_T37 l0_0 x26_1).f2.f2)) else (treenaillaw05_NetSums.j1 k1 (wrap64 (x5_1 + (t428.length : Int))) (wrap64 (x6_1 + (t431.length : Int))) (t428.length : Int) (t431.length : Int) (((rd_T37 l0_0 x26_1).f0) == 7) l0_0 (l0_0.length : Int) x26_1 l0_0 l0_1 ((rd_T37 l0_0 x26_1).f0) ((rd_T37 l0_0 x26_1).f1) ((rd_T37 l0_0 x26_1).f2.f0) ((rd_T37 l0_0 x26_1).f2.f1) ((rd_T37 l0_0 x26_1).f2.f2)))) = some r := H
      have A20 := zm A200
      clear A200
      have HC21 := zm H
      clear H
      have p426 : 0 ≤ (x26_1 : Int) := od
      have q426 : x26_1 < (l0_0.length : Int) := od
      obtain ⟨ad426, A426_4, c426_4, e426, hx426_0, hx426_1, hx426_2, hx426_3, hx426_4, hl426_4, hi426_4⟩ := at_T37 HR0_0.out x26_1 p426 q426
      cases e426
      replace hx426_0 := cb HB.out hx426_0
      replace hx426_1 := cb HB.out hx426_1
      replace hx426_2 := cb HB.out hx426_2
      replace hx426_3 := cb HB.out hx426_3
      replace hx426_4 := cb HB.out hx426_4
      have HR426_4 := zm hi426_4
      have HC426_4 := zm hl426_4
      clear hi426_4 hl426_4
      replace p426 := eq_true p426
      replace q426 := eq_true q426
      go_upto_region 15 with (first | ((with_reducible refine gate_dst (N := 8) rfl ?_); refine box_event ?hg (N := 8) ?hd (cs := #[.int .i64 0, .int .i64 0, .int .i64 0, .int .i64 0, .slice none 0 0]) (t := 37) ?hr ?_; (case hd => rfl); (case hg => rfl); (case hr => first | (go_simp; done) | (go_simp; rfl)); intro gb427 hg w22 hbox hb; have BK427 := zm (hbox); have GW427 := zm ((by rw [hg]; exact (below_size (bx HB.out)) : w.heap.size ≤ gb427)); have GE427 := zm ((by rw [hg]; exact (below_size (bx HB.out)) : w.heap.size ≤ gb427)); replace HB := zm (below_step (bx HB.out) hb); have NB419_427 := zm ((by rw [hg]; exact Nat.ne_of_lt (blk_lt (g := gb419) (o := .cells #[.slice (some ad426) l0_0.length c0_0, .slice A0_1 l0_1.length c0_1] 25 (0, 0)) (kx BK419.out)) : gb419 ≠ gb427)); have NB427_419 := zm ((by rw [hg]; exact Nat.ne_of_gt (blk_lt (g := gb419) (o := .cells #[.slice (some ad426) l0_0.length c0_0, .slice A0_1 l0_1.length c0_1] 25 (0, 0)) (kx BK419.out)) : gb427 ≠ gb419)); replace BK419 := zm (kB (kx BK419.out) hb); clear hb hbox hg; have hnb23 := NB427_419.out; have hnc23 := NB419_427.out; have hcz24_0 := bc0 BK427.out; have hcz24_1 := bc1 BK427.out; have hcz24_2 := bc2 BK427.out; have hcz24_3 := bc3 BK427.out; have hcz24_4 := bc4 BK427.out; have hfz24_0 := bF BK427.out 0; have hfz24_1 := bF BK427.out 1; have hfz24_2 := bF BK427.out 2; have hfz24_3 := bF BK427.out 3; have hfz24_4 := bF BK427.out 4; have hcz25_0 := bc0 BK419.out; have hcz25_1 := bc1 BK419.out; have hfz25_0 := bF BK419.out 0; have hfz25_1 := bF BK419.out 1) | ((with_reducible refine gate_callee (f := 13) rfl ?_); refine goesL_ (some 33) rfl rfl Tryd.func13 (by kernel_rfl) rfl #[.agg #[.slice (some ad426) l0_0.length c0_0, .slice A0_1 l0_1.length c0_1], .int .i64 x26_1] rfl ag ?_; (with_reducible refine (net_Ins.calls k1 _ _ l0_0 _ _ l0_1 x26_1 t428 _ ?side1 HC0_0.out ?side3 HC0_1.out A19.out).mono ?_); (case side1 => exact Kd.C_below HR0_0.out (bx HB.out)); (case side3 => exact Kd.C_below HR0_1.out (bx HB.out)); rintro e w26 ⟨v429, rfl, ho0, hb⟩; refine ⟨_, rfl, ?_⟩; have HO430 := zm (Kd.R_lower ho0 (below_size (bx HB.out))); replace BK419 := zm (kB (g := gb419) (o := .cells #[.slice (some ad426) l0_0.length c0_0, .slice A0_1 l0_1.length c0_1] 25 (0, 0)) (by (with_reducible repeat first | apply kN | apply kD | apply kA); refine blk_far ?_ NB419_427.out _; (with_reducible repeat first | apply kN | apply kD | apply kA); refine blk_far ?_ NB419_427.out _; (with_reducible repeat first | apply kN | apply kD | apply kA); refine blk_far ?_ NB419_427.out _; (with_reducible repeat first | apply kN | apply kD | apply kA); refine blk_far ?_ NB419_427.out _; (with_reducible repeat first | apply kN | apply kD | apply kA); refine blk_far ?_ NB419_427.out _; (with_reducible repeat first | apply kN | apply kD | apply kA); exact BK419.out) hb); replace BK427 := zm (kB (g := gb427) (o := .cells #[.int .i64 ((rd_T37 l0_0 x26_1).f0), .int .i64 ((rd_T37 l0_0 x26_1).f1), .int .i64 ((rd_T37 l0_0 x26_1).f2.f0), .int .i64 ((rd_T37 l0_0 x26_1).f2.f1), .slice A426_4 ((rd_T37 l0_0 x26_1).f2.f2).length c426_4] 37 (0, 0)) (by (with_reducible repeat first | apply kN | apply kD | apply kA); refine blk_put (cs := #[.int .i64 ((rd_T37 l0_0 x26_1).f0), .int .i64 ((rd_T37 l0_0 x26_1).f1), .int .i64 ((rd_T37 l0_0 x26_1).f2.f0), .int .i64 ((rd_T37 l0_0 x26_1).f2.f1), .slice none 0 0]) ?_ 4 _ rfl; (with_reducible repeat first | apply kN | apply kD | apply kA); refine blk_put (cs := #[.int .i64 ((rd_T37 l0_0 x26_1).f0), .int .i64 ((rd_T37 l0_0 x26_1).f1), .int .i64 ((rd_T37 l0_0 x26_1).f2.f0), .int .i64 0, .slice none 0 0]) ?_ 3 _ rfl; (with_reducible repeat first | apply kN | apply kD | apply kA); refine blk_put (cs := #[.int .i64 ((rd_T37 l0_0 x26_1).f0), .int .i64 ((rd_T37 l0_0 x26_1).f1), .int .i64 0, .int .i64 0, .slice none 0 0]) ?_ 2 _ rfl; (with_reducible repeat first | apply kN | apply kD | apply kA); refine blk_put (cs := #[.int .i64 ((rd_T37 l0_0 x26_1).f0), .int .i64 0, .int .i64 0, .int .i64 0, .slice none 0 0]) ?_ 1 _ rfl; (with_reducible repeat first | apply kN | apply kD | apply kA); refine blk_put (cs := #[.int .i64 0, .int .i64 0, .int .i64 0, .int .i64 0, .slice none 0 0]) ?_ 0 _ rfl; (with_reducible repeat first | apply kN | apply kD | apply kA); exact BK427.out) hb); replace HB := zm (below_step (bx HB.out) hb); (try clear hb); (try clear hb2); (try clear hk); (try clear hi); (try clear ho0); obtain ⟨Ao27, co27, eo27⟩ := Kd.R_slice HO430.out; subst eo27; have hcz28_0 := bc0 BK419.out; have hcz28_1 := bc1 BK419.out; have hfz28_0 := bF BK419.out 0; have hfz28_1 := bF BK419.out 1) | ((with_reducible refine gate_callee (f := 14) rfl ?_); refine goesL_ (some 37) rfl rfl Tryd.func14 (by kernel_rfl) rfl #[.agg #[.slice (some ad426) l0_0.length c0_0, .slice A0_1 l0_1.length c0_1], .int .i64 x26_1] rfl ag ?_; (with_reducible refine (net_Outs.calls k1 _ _ l0_0 _ _ l0_1 x26_1 t431 _ ?side1 HC0_0.out ?side3 HC0_1.out A20.out).mono ?_); (case side1 => exact cx (Kd.C_below HR0_0.out HB.out)); (case side3 => exact cx (Kd.C_below HR0_1.out HB.out)); rintro e w29 ⟨v432, rfl, ho0, hb⟩; refine ⟨_, rfl, ?_⟩; have HO433 := zm (Kd.R_lower (Kd.R_new' ho0 (Kd.R_lt (rx HO430.out))) (below_size (bx HB.out))); replace HO430 := zm (Kd.R_elder' (rx HO430.out) (by first | exact Kd.R_base ho0 | exact Kd.N_base ho0 | exact Kd.S_base ho0 | exact Kd.R_base ho0) hb); replace BK419 := zm (kB (kx BK419.out) hb); replace BK427 := zm (kB (kx BK427.out) hb); replace HB := zm (below_step (bx HB.out) hb); (try clear hb); (try clear hb2); (try clear hk); (try clear hi); (try clear ho0); obtain ⟨Ao30, co30, eo30⟩ := Kd.R_slice HO433.out; subst eo30))
      (try simp only [Act.put, sS, sZ, sC])
      go_cut [11] (fun v11 wc => ∃ (kq : Nat) (x11_20 : Bool), v11 = .bool x11_20 ∧ Aside0 (treenaillaw05_NetSums.j1 kq (wrap64 (x5_1 + (t428.length : Int))) (wrap64 (x6_1 + (t431.length : Int))) (t428.length : Int) (t431.length : Int) x11_20 l0_0 (l0_0.length : Int) x26_1 l0_0 l0_1 ((rd_T37 l0_0 x26_1).f0) ((rd_T37 l0_0 x26_1).f1) ((rd_T37 l0_0 x26_1).f2.f0) ((rd_T37 l0_0 x26_1).f2.f1) ((rd_T37 l0_0 x26_1).f2.f2) = some r) ∧ Aside0 (kq ≤ k1) ∧ Aside0 (wc.heap[gb419]? = some (.cells #[(.slice (some ad426) l0_0.length c0_0), (.slice A0_1 l0_1.length c0_1)] 25 (0, 0))) ∧ Aside0 (wc.heap[gb427]? = some (.cells #[.int .i64 ((rd_T37 l0_0 x26_1).f0), .int .i64 ((rd_T37 l0_0 x26_1).f1), .int .i64 ((rd_T37 l0_0 x26_1).f2.f0), .int .i64 ((rd_T37 l0_0 x26_1).f2.f1), (.slice A426_4 ((rd_T37 l0_0 x26_1).f2.f2).length c426_4)] 37 (0, 0))) ∧ Aside0 (Below w.heap.size w wc))
      case first =>
       have H := HC21.out
       clear HC21
       by_cases c31 : ((rd_T37 l0_0 x26_1).f0) = 5
       ·rw [if_pos c31] at H
        have c31b0 := beq_iff_eq.mpr c31
        have c31b1 := bne_eq_false_iff_eq.mpr c31
        clear c31
        (first | rw [c31b0] | (simp only [i64_w, i32_w]; rw [c31b0]) | rw [c31b1] | skip)
        have H' := zm H
        clear H
        have hnb32 := NB427_419.out
        have hnc32 := NB419_427.out
        have hcz33_0 := bc0 BK427.out
        have hcz33_1 := bc1 BK427.out
        have hcz33_2 := bc2 BK427.out
        have hcz33_3 := bc3 BK427.out
        have hcz33_4 := bc4 BK427.out
        have hfz33_0 := bF BK427.out 0
        have hfz33_1 := bF BK427.out 1
        have hfz33_2 := bF BK427.out 2
        have hfz33_3 := bF BK427.out 3
        have hfz33_4 := bF BK427.out 4
        go_wp2
        go_meet
        case rel => exact ⟨_, (true), (by first | rfl | (simp; done) | (simp [*]; done)), H', ⟨by have := HK1.out; first | omega | exact Nat.le_refl _⟩, ⟨kx BK419.out⟩, ⟨kx BK427.out⟩, ⟨bx HB.out⟩⟩
       rw [if_neg c31] at H
       have c31b0 := beq_eq_false_iff_ne.mpr c31
       have c31b1 := bne_iff_ne.mpr c31
       (first | rw [c31b0] | (simp only [i64_w, i32_w]; rw [c31b0]) | rw [c31b1] | skip)
       by_cases c34 : ((rd_T37 l0_0 x26_1).f0) = 6
       ·rw [if_pos c34] at H
        have c34b0 := beq_iff_eq.mpr c34
        have c34b1 := bne_eq_false_iff_eq.mpr c34
        clear c34
        have H' := zm H
        clear H
        have hnb35 := NB427_419.out
        have hnc35 := NB419_427.out
        have hcz36_0 := bc0 BK427.out
        have hcz36_1 := bc1 BK427.out
        have hcz36_2 := bc2 BK427.out
        have hcz36_3 := bc3 BK427.out
        have hcz36_4 := bc4 BK427.out
        have hfz36_0 := bF BK427.out 0
        have hfz36_1 := bF BK427.out 1
        have hfz36_2 := bF BK427.out 2
        have hfz36_3 := bF BK427.out 3
        have hfz36_4 := bF BK427.out 4
        go_wp2
        go_meet
        case rel => exact ⟨_, (true), (by first | rfl | (simp; done) | (simp [*]; done)), H', ⟨by have := HK1.out; first | omega | exact Nat.le_refl _⟩, ⟨kx BK419.out⟩, ⟨kx BK427.out⟩, ⟨bx HB.out⟩⟩
       rw [if_neg c34] at H
       have c34b0 := beq_eq_false_iff_ne.mpr c34
       have c34b1 := bne_iff_ne.mpr c34
       have H' := zm H
       clear H
       have hnb37 := NB427_419.out
       have hnc37 := NB419_427.out
       have hcz38_0 := bc0 BK427.out
       have hcz38_1 := bc1 BK427.out
       have hcz38_2 := bc2 BK427.out
       have hcz38_3 := bc3 BK427.out
       have hcz38_4 := bc4 BK427.out
       have hfz38_0 := bF BK427.out 0
       have hfz38_1 := bF BK427.out 1
       have hfz38_2 := bF BK427.out 2
       have hfz38_3 := bF BK427.out 3
       have hfz38_4 := bF BK427.out 4
       go_wp2
       go_meet
       case rel => exact ⟨_, ((((rd_T37 l0_0 x26_1).f0) == 7)), (by first | rfl | (simp; done) | (simp [*]; done)), H', ⟨by have := HK1.out; first | omega | exact Nat.le_refl _⟩, ⟨kx BK419.out⟩, ⟨kx BK427.out⟩, ⟨bx HB.out⟩⟩
      clear HC21
      try clear c1
      try clear c2
      try clear p2
      try clear c3
      try clear c4
      try clear p4
      try clear q4
      try clear hx4
      try clear p6
      try clear c7
      try clear c9
      try clear c10
      try clear c11
      try clear c13
      try clear c14
      try clear c14b0
      try clear c14b1
      try clear c16
      try clear c16b0
      try clear c17
      try clear c17b0
      try clear c18
      try clear c18b0
      try clear c23
      try clear c31
      try clear c31b0
      try clear c31b1
      try clear c32
      try clear c34
      try clear c34b0
      try clear c34b1
      try clear c35
      try clear c37
      try clear hx426_0
      try clear hx426_1
      try clear hx426_2
      try clear hx426_3
      try clear hx426_4
      try clear p2
      try clear p426
      try clear q426
      try clear BK419
      try clear BK427
      obtain ⟨kq, x11_20, rfl, HA, HJ20, BK419, BK427, HB⟩ := hcut
      cases kq with
      | zero => exact absurd HA.out (by first | (intro h_; cases h_; done) | simp [treenaillaw05_NetSums.j1])
      | succ kj20 =>
       have H := HA.out
       clear HA
       simp only [treenaillaw05_NetSums.j1] at H
       have HC39 := zm H
       clear H
       go_upto_region 16 with (fail)
       go_cut [97] (fun v97 wc => ∃ (kq : Nat) (x97_38 : Bool), v97 = .bool x97_38 ∧ Aside0 (treenaillaw05_NetSums.j2 kq (wrap64 (x5_1 + (t428.length : Int))) (wrap64 (x6_1 + (t431.length : Int))) l0_0 (l0_0.length : Int) x26_1 x97_38 l0_0 l0_1 = some r) ∧ Aside0 (kq ≤ kj20) ∧ Aside0 (wc.heap[gb419]? = some (.cells #[(.slice (some ad426) l0_0.length c0_0), (.slice A0_1 l0_1.length c0_1)] 25 (0, 0))) ∧ Aside0 (wc.heap[gb427]? = some (.cells #[.int .i64 ((rd_T37 l0_0 x26_1).f0), .int .i64 ((rd_T37 l0_0 x26_1).f1), .int .i64 ((rd_T37 l0_0 x26_1).f2.f0), .int .i64 ((rd_T37 l0_0 x26_1).f2.f1), (.slice A426_4 ((rd_T37 l0_0 x26_1).f2.f2).length c426_4)] 37 (0, 0))) ∧ Aside0 (Below w.heap.size w wc))
       case first =>
        have H := HC39.out
        clear HC39
        by_cases c40 : (t428.length : Int) > 1
        ·rw [if_pos c40] at H
         have c40b0 : decide (1 < (t428.length : Int)) = true := decide_eq_true c40
         have c40b1 : decide (1 < t428.length) = true := decide_eq_true (by omega)
         clear c40
         (first | rw [c40b0] | (simp only [i64_w, i32_w]; rw [c40b0]) | rw [c40b1] | skip)
         by_cases c41 : (t431.length : Int) > 1
         ·rw [if_pos c41] at H
          have c41b0 : decide (1 < (t431.length : Int)) = true := decide_eq_true c41
          have c41b1 : decide (1 < t431.length) = true := decide_eq_true (by omega)
          clear c41
          have H' := zm H
          clear H
          go_wp2
          go_meet
          case rel => exact ⟨_, (true), (by first | rfl | (simp; done) | (simp [*]; done)), H', ⟨by have := HK1.out; have := HJ20.out; first | omega | exact Nat.le_refl _⟩, ⟨kx BK419.out⟩, ⟨kx BK427.out⟩, ⟨bx HB.out⟩⟩
         rw [if_neg c41] at H
         have c41b0 : decide (1 < (t431.length : Int)) = false := decide_eq_false c41
         try (have c41b9 := c41b0; rw [hl426_4] at c41b9)
         have c41b1 : decide (1 < t431.length) = false := decide_eq_false (by omega)
         clear c41
         by_cases c42 : (wrap64 ((t428.length : Int) + (t431.length : Int))) < 1
         ·rw [if_pos c42] at H
          have c42b0 := decide_eq_true c42
          clear c42
          have H' := zm H
          clear H
          go_wp2
          go_meet
          case rel => exact ⟨_, (true), (by first | rfl | (simp; done) | (simp [*]; done)), H', ⟨by have := HK1.out; have := HJ20.out; first | omega | exact Nat.le_refl _⟩, ⟨kx BK419.out⟩, ⟨kx BK427.out⟩, ⟨bx HB.out⟩⟩
         rw [if_neg c42] at H
         have c42b0 := decide_eq_false c42
         clear c42
         by_cases c43 : x11_20 = true
         ·subst c43
          rw [if_pos rfl] at H
          by_cases c44 : (t428.length : Int) = 0
          ·rw [if_pos c44] at H
           have c44b0 := beq_iff_eq.mpr c44
           have c44b1 := bne_eq_false_iff_eq.mpr c44
           clear c44
           by_cases c45 : ((rd_T37 l0_0 x26_1).f0) = 1
           ·rw [if_pos c45] at H
            have c45b0 := beq_iff_eq.mpr c45
            have c45b1 := bne_eq_false_iff_eq.mpr c45
            clear c45
            by_cases c46 : (t431.length : Int) = 0
            ·rw [if_pos c46] at H
             have c46b0 := beq_iff_eq.mpr c46
             have c46b1 := bne_eq_false_iff_eq.mpr c46
             clear c46
             have H' := zm H
             clear H
             have hnb47 := NB427_419.out
             have hnc47 := NB419_427.out
             have hcz48_0 := bc0 BK427.out
             have hcz48_1 := bc1 BK427.out
             have hcz48_2 := bc2 BK427.out
             have hcz48_3 := bc3 BK427.out
             have hcz48_4 := bc4 BK427.out
             have hfz48_0 := bF BK427.out 0
             have hfz48_1 := bF BK427.out 1
             have hfz48_2 := bF BK427.out 2
             have hfz48_3 := bF BK427.out 3
             have hfz48_4 := bF BK427.out 4
             go_wp2
             go_meet
             case rel => exact ⟨_, ((((rd_T37 l0_0 x26_1).f0) != 2)), (by first | rfl | (simp; done) | (simp [*]; done)), H', ⟨by have := HK1.out; have := HJ20.out; first | omega | exact Nat.le_refl _⟩, ⟨kx BK419.out⟩, ⟨kx BK427.out⟩, ⟨bx HB.out⟩⟩
            rw [if_neg c46] at H
            have c46b0 := beq_eq_false_iff_ne.mpr c46
            have c46b1 := bne_iff_ne.mpr c46
            have c46b2 : ¬ (t431 = []) := fun h_ => c46 (by rw [h_]; rfl)
            have H' := zm H
            clear H
            have hnb49 := NB427_419.out
            have hnc49 := NB419_427.out
            have hcz50_0 := bc0 BK427.out
            have hcz50_1 := bc1 BK427.out
            have hcz50_2 := bc2 BK427.out
            have hcz50_3 := bc3 BK427.out
            have hcz50_4 := bc4 BK427.out
            have hfz50_0 := bF BK427.out 0
            have hfz50_1 := bF BK427.out 1
            have hfz50_2 := bF BK427.out 2
            have hfz50_3 := bF BK427.out 3
            have hfz50_4 := bF BK427.out 4
            go_wp2
            go_meet
            case rel => exact ⟨_, (false), (by first | rfl | (simp; done) | (simp [*]; done)), H', ⟨by have := HK1.out; have := HJ20.out; first | omega | exact Nat.le_refl _⟩, ⟨kx BK419.out⟩, ⟨kx BK427.out⟩, ⟨bx HB.out⟩⟩
           rw [if_neg c45] at H
           have c45b0 := beq_eq_false_iff_ne.mpr c45
           have c45b1 := bne_iff_ne.mpr c45
           have H' := zm H
           clear H
           have hnb51 := NB427_419.out
           have hnc51 := NB419_427.out
           have hcz52_0 := bc0 BK427.out
           have hcz52_1 := bc1 BK427.out
           have hcz52_2 := bc2 BK427.out
           have hcz52_3 := bc3 BK427.out
           have hcz52_4 := bc4 BK427.out
           have hfz52_0 := bF BK427.out 0
           have hfz52_1 := bF BK427.out 1
           have hfz52_2 := bF BK427.out 2
           have hfz52_3 := bF BK427.out 3
           have hfz52_4 := bF BK427.out 4
           go_wp2
           go_meet
           case rel => exact ⟨_, (true), (by first | rfl | (simp; done) | (simp [*]; done)), H', ⟨by have := HK1.out; have := HJ20.out; first | omega | exact Nat.le_refl _⟩, ⟨kx BK419.out⟩, ⟨kx BK427.out⟩, ⟨bx HB.out⟩⟩
          rw [if_neg c44] at H
          have c44b0 := beq_eq_false_iff_ne.mpr c44
          have c44b1 := bne_iff_ne.mpr c44
          have c44b2 : ¬ (t428 = []) := fun h_ => c44 (by rw [h_]; rfl)
          by_cases c53 : (t431.length : Int) = 0
          ·rw [if_pos c53] at H
           have c53b0 := beq_iff_eq.mpr c53
           have c53b1 := bne_eq_false_iff_eq.mpr c53
           clear c53
           have H' := zm H
           clear H
           have hnb54 := NB427_419.out
           have hnc54 := NB419_427.out
           have hcz55_0 := bc0 BK427.out
           have hcz55_1 := bc1 BK427.out
           have hcz55_2 := bc2 BK427.out
           have hcz55_3 := bc3 BK427.out
           have hcz55_4 := bc4 BK427.out
           have hfz55_0 := bF BK427.out 0
           have hfz55_1 := bF BK427.out 1
           have hfz55_2 := bF BK427.out 2
           have hfz55_3 := bF BK427.out 3
           have hfz55_4 := bF BK427.out 4
           go_wp2
           go_meet
           case rel => exact ⟨_, ((((rd_T37 l0_0 x26_1).f0) != 2)), (by first | rfl | (simp; done) | (simp [*]; done)), H', ⟨by have := HK1.out; have := HJ20.out; first | omega | exact Nat.le_refl _⟩, ⟨kx BK419.out⟩, ⟨kx BK427.out⟩, ⟨bx HB.out⟩⟩
          rw [if_neg c53] at H
          have c53b0 := beq_eq_false_iff_ne.mpr c53
          have c53b1 := bne_iff_ne.mpr c53
          have c53b2 : ¬ (t431 = []) := fun h_ => c53 (by rw [h_]; rfl)
          have H' := zm H
          clear H
          go_wp2
          go_meet
          case rel => exact ⟨_, (false), (by first | rfl | (simp; done) | (simp [*]; done)), H', ⟨by have := HK1.out; have := HJ20.out; first | omega | exact Nat.le_refl _⟩, ⟨kx BK419.out⟩, ⟨kx BK427.out⟩, ⟨bx HB.out⟩⟩
         replace c43 := Bool.eq_false_iff.mpr c43
         subst c43
         rw [if_neg (show ¬ (false = true) by decide)] at H
         by_cases c56 : (wrap64 ((t428.length : Int) + (t431.length : Int))) > 2
         ·rw [if_pos c56] at H
          have c56b0 : decide (2 < (wrap64 ((t428.length : Int) + (t431.length : Int)))) = true := decide_eq_true c56
          clear c56
          have H' := zm H
          clear H
          go_wp2
          go_meet
          case rel => exact ⟨_, (true), (by first | rfl | (simp; done) | (simp [*]; done)), H', ⟨by have := HK1.out; have := HJ20.out; first | omega | exact Nat.le_refl _⟩, ⟨kx BK419.out⟩, ⟨kx BK427.out⟩, ⟨bx HB.out⟩⟩
         rw [if_neg c56] at H
         have c56b0 : decide (2 < (wrap64 ((t428.length : Int) + (t431.length : Int)))) = false := decide_eq_false c56
         clear c56
         by_cases c57 : (t428.length : Int) = 0
         ·rw [if_pos c57] at H
          have c57b0 := beq_iff_eq.mpr c57
          have c57b1 := bne_eq_false_iff_eq.mpr c57
          clear c57
          by_cases c58 : ((rd_T37 l0_0 x26_1).f0) = 1
          ·rw [if_pos c58] at H
           have c58b0 := beq_iff_eq.mpr c58
           have c58b1 := bne_eq_false_iff_eq.mpr c58
           clear c58
           by_cases c59 : (t431.length : Int) = 0
           ·rw [if_pos c59] at H
            have c59b0 := beq_iff_eq.mpr c59
            have c59b1 := bne_eq_false_iff_eq.mpr c59
            clear c59
            have H' := zm H
            clear H
            have hnb60 := NB427_419.out
            have hnc60 := NB419_427.out
            have hcz61_0 := bc0 BK427.out
            have hcz61_1 := bc1 BK427.out
            have hcz61_2 := bc2 BK427.out
            have hcz61_3 := bc3 BK427.out
            have hcz61_4 := bc4 BK427.out
            have hfz61_0 := bF BK427.out 0
            have hfz61_1 := bF BK427.out 1
            have hfz61_2 := bF BK427.out 2
            have hfz61_3 := bF BK427.out 3
            have hfz61_4 := bF BK427.out 4
            go_wp2
            go_meet
            case rel => exact ⟨_, ((((rd_T37 l0_0 x26_1).f0) != 2)), (by first | rfl | (simp; done) | (simp [*]; done)), H', ⟨by have := HK1.out; have := HJ20.out; first | omega | exact Nat.le_refl _⟩, ⟨kx BK419.out⟩, ⟨kx BK427.out⟩, ⟨bx HB.out⟩⟩
           rw [if_neg c59] at H
           have c59b0 := beq_eq_false_iff_ne.mpr c59
           have c59b1 := bne_iff_ne.mpr c59
           have c59b2 : ¬ (t431 = []) := fun h_ => c59 (by rw [h_]; rfl)
           have H' := zm H
           clear H
           have hnb62 := NB427_419.out
           have hnc62 := NB419_427.out
           have hcz63_0 := bc0 BK427.out
           have hcz63_1 := bc1 BK427.out
           have hcz63_2 := bc2 BK427.out
           have hcz63_3 := bc3 BK427.out
           have hcz63_4 := bc4 BK427.out
           have hfz63_0 := bF BK427.out 0
           have hfz63_1 := bF BK427.out 1
           have hfz63_2 := bF BK427.out 2
           have hfz63_3 := bF BK427.out 3
           have hfz63_4 := bF BK427.out 4
           go_wp2
           go_meet
           case rel => exact ⟨_, (false), (by first | rfl | (simp; done) | (simp [*]; done)), H', ⟨by have := HK1.out; have := HJ20.out; first | omega | exact Nat.le_refl _⟩, ⟨kx BK419.out⟩, ⟨kx BK427.out⟩, ⟨bx HB.out⟩⟩
          rw [if_neg c58] at H
          have c58b0 := beq_eq_false_iff_ne.mpr c58
          have c58b1 := bne_iff_ne.mpr c58
          have H' := zm H
          clear H
          have hnb64 := NB427_419.out
          have hnc64 := NB419_427.out
          have hcz65_0 := bc0 BK427.out
          have hcz65_1 := bc1 BK427.out
          have hcz65_2 := bc2 BK427.out
          have hcz65_3 := bc3 BK427.out
          have hcz65_4 := bc4 BK427.out
          have hfz65_0 := bF BK427.out 0
          have hfz65_1 := bF BK427.out 1
          have hfz65_2 := bF BK427.out 2
          have hfz65_3 := bF BK427.out 3
          have hfz65_4 := bF BK427.out 4
          go_wp2
          go_meet
          case rel => exact ⟨_, (true), (by first | rfl | (simp; done) | (simp [*]; done)), H', ⟨by have := HK1.out; have := HJ20.out; first | omega | exact Nat.le_refl _⟩, ⟨kx BK419.out⟩, ⟨kx BK427.out⟩, ⟨bx HB.out⟩⟩
         rw [if_neg c57] at H
         have c57b0 := beq_eq_false_iff_ne.mpr c57
         have c57b1 := bne_iff_ne.mpr c57
         have c57b2 : ¬ (t428 = []) := fun h_ => c57 (by rw [h_]; rfl)
         by_cases c66 : (t431.length : Int) = 0
         ·rw [if_pos c66] at H
          have c66b0 := beq_iff_eq.mpr c66
          have c66b1 := bne_eq_false_iff_eq.mpr c66
          clear c66
          have H' := zm H
          clear H
          have hnb67 := NB427_419.out
          have hnc67 := NB419_427.out
          have hcz68_0 := bc0 BK427.out
          have hcz68_1 := bc1 BK427.out
          have hcz68_2 := bc2 BK427.out
          have hcz68_3 := bc3 BK427.out
          have hcz68_4 := bc4 BK427.out
          have hfz68_0 := bF BK427.out 0
          have hfz68_1 := bF BK427.out 1
          have hfz68_2 := bF BK427.out 2
          have hfz68_3 := bF BK427.out 3
          have hfz68_4 := bF BK427.out 4
          go_wp2
          go_meet
          case rel => exact ⟨_, ((((rd_T37 l0_0 x26_1).f0) != 2)), (by first | rfl | (simp; done) | (simp [*]; done)), H', ⟨by have := HK1.out; have := HJ20.out; first | omega | exact Nat.le_refl _⟩, ⟨kx BK419.out⟩, ⟨kx BK427.out⟩, ⟨bx HB.out⟩⟩
         rw [if_neg c66] at H
         have c66b0 := beq_eq_false_iff_ne.mpr c66
         have c66b1 := bne_iff_ne.mpr c66
         have c66b2 : ¬ (t431 = []) := fun h_ => c66 (by rw [h_]; rfl)
         have H' := zm H
         clear H
         go_wp2
         go_meet
         case rel => exact ⟨_, (false), (by first | rfl | (simp; done) | (simp [*]; done)), H', ⟨by have := HK1.out; have := HJ20.out; first | omega | exact Nat.le_refl _⟩, ⟨kx BK419.out⟩, ⟨kx BK427.out⟩, ⟨bx HB.out⟩⟩
        rw [if_neg c40] at H
        have c40b0 : decide (1 < (t428.length : Int)) = false := decide_eq_false c40
        try (have c40b9 := c40b0; rw [hl426_4] at c40b9)
        have c40b1 : decide (1 < t428.length) = false := decide_eq_false (by omega)
        clear c40
        (first | rw [c40b0] | (simp only [i64_w, i32_w]; rw [c40b0]) | rw [c40b1] | skip)
        by_cases c69 : (wrap64 ((t428.length : Int) + (t431.length : Int))) < 1
        ·rw [if_pos c69] at H
         have c69b0 := decide_eq_true c69
         clear c69
         have H' := zm H
         clear H
         go_wp2
         go_meet
         case rel => exact ⟨_, (true), (by first | rfl | (simp; done) | (simp [*]; done)), H', ⟨by have := HK1.out; have := HJ20.out; first | omega | exact Nat.le_refl _⟩, ⟨kx BK419.out⟩, ⟨kx BK427.out⟩, ⟨bx HB.out⟩⟩
        rw [if_neg c69] at H
        have c69b0 := decide_eq_false c69
        clear c69
        by_cases c70 : x11_20 = true
        ·subst c70
         rw [if_pos rfl] at H
         by_cases c71 : (t428.length : Int) = 0
         ·rw [if_pos c71] at H
          have c71b0 := beq_iff_eq.mpr c71
          have c71b1 := bne_eq_false_iff_eq.mpr c71
          clear c71
          by_cases c72 : ((rd_T37 l0_0 x26_1).f0) = 1
          ·rw [if_pos c72] at H
           have c72b0 := beq_iff_eq.mpr c72
           have c72b1 := bne_eq_false_iff_eq.mpr c72
           clear c72
           by_cases c73 : (t431.length : Int) = 0
           ·rw [if_pos c73] at H
            have c73b0 := beq_iff_eq.mpr c73
            have c73b1 := bne_eq_false_iff_eq.mpr c73
            clear c73
            have H' := zm H
            clear H
            have hnb74 := NB427_419.out
            have hnc74 := NB419_427.out
            have hcz75_0 := bc0 BK427.out
            have hcz75_1 := bc1 BK427.out
            have hcz75_2 := bc2 BK427.out
            have hcz75_3 := bc3 BK427.out
            have hcz75_4 := bc4 BK427.out
            have hfz75_0 := bF BK427.out 0
            have hfz75_1 := bF BK427.out 1
            have hfz75_2 := bF BK427.out 2
            have hfz75_3 := bF BK427.out 3
            have hfz75_4 := bF BK427.out 4
            go_wp2
            go_meet
            case rel => exact ⟨_, ((((rd_T37 l0_0 x26_1).f0) != 2)), (by first | rfl | (simp; done) | (simp [*]; done)), H', ⟨by have := HK1.out; have := HJ20.out; first | omega | exact Nat.le_refl _⟩, ⟨kx BK419.out⟩, ⟨kx BK427.out⟩, ⟨bx HB.out⟩⟩
           rw [if_neg c73] at H
           have c73b0 := beq_eq_false_iff_ne.mpr c73
           have c73b1 := bne_iff_ne.mpr c73
           have c73b2 : ¬ (t431 = []) := fun h_ => c73 (by rw [h_]; rfl)
           have H' := zm H
           clear H
           have hnb76 := NB427_419.out
           have hnc76 := NB419_427.out
           have hcz77_0 := bc0 BK427.out
           have hcz77_1 := bc1 BK427.out
           have hcz77_2 := bc2 BK427.out
           have hcz77_3 := bc3 BK427.out
           have hcz77_4 := bc4 BK427.out
           have hfz77_0 := bF BK427.out 0
           have hfz77_1 := bF BK427.out 1
           have hfz77_2 := bF BK427.out 2
           have hfz77_3 := bF BK427.out 3
           have hfz77_4 := bF BK427.out 4
           go_wp2
           go_meet
           case rel => exact ⟨_, (false), (by first | rfl | (simp; done) | (simp [*]; done)), H', ⟨by have := HK1.out; have := HJ20.out; first | omega | exact Nat.le_refl _⟩, ⟨kx BK419.out⟩, ⟨kx BK427.out⟩, ⟨bx HB.out⟩⟩
          rw [if_neg c72] at H
          have c72b0 := beq_eq_false_iff_ne.mpr c72
          have c72b1 := bne_iff_ne.mpr c72
          have H' := zm H
          clear H
          have hnb78 := NB427_419.out
          have hnc78 := NB419_427.out
          have hcz79_0 := bc0 BK427.out
          have hcz79_1 := bc1 BK427.out
          have hcz79_2 := bc2 BK427.out
          have hcz79_3 := bc3 BK427.out
          have hcz79_4 := bc4 BK427.out
          have hfz79_0 := bF BK427.out 0
          have hfz79_1 := bF BK427.out 1
          have hfz79_2 := bF BK427.out 2
          have hfz79_3 := bF BK427.out 3
          have hfz79_4 := bF BK427.out 4
          go_wp2
          go_meet
          case rel => exact ⟨_, (true), (by first | rfl | (simp; done) | (simp [*]; done)), H', ⟨by have := HK1.out; have := HJ20.out; first | omega | exact Nat.le_refl _⟩, ⟨kx BK419.out⟩, ⟨kx BK427.out⟩, ⟨bx HB.out⟩⟩
         rw [if_neg c71] at H
         have c71b0 := beq_eq_false_iff_ne.mpr c71
         have c71b1 := bne_iff_ne.mpr c71
         have c71b2 : ¬ (t428 = []) := fun h_ => c71 (by rw [h_]; rfl)
         by_cases c80 : (t431.length : Int) = 0
         ·rw [if_pos c80] at H
          have c80b0 := beq_iff_eq.mpr c80
          have c80b1 := bne_eq_false_iff_eq.mpr c80
          clear c80
          have H' := zm H
          clear H
          have hnb81 := NB427_419.out
          have hnc81 := NB419_427.out
          have hcz82_0 := bc0 BK427.out
          have hcz82_1 := bc1 BK427.out
          have hcz82_2 := bc2 BK427.out
          have hcz82_3 := bc3 BK427.out
          have hcz82_4 := bc4 BK427.out
          have hfz82_0 := bF BK427.out 0
          have hfz82_1 := bF BK427.out 1
          have hfz82_2 := bF BK427.out 2
          have hfz82_3 := bF BK427.out 3
          have hfz82_4 := bF BK427.out 4
          go_wp2
          go_meet
          case rel => exact ⟨_, ((((rd_T37 l0_0 x26_1).f0) != 2)), (by first | rfl | (simp; done) | (simp [*]; done)), H', ⟨by have := HK1.out; have := HJ20.out; first | omega | exact Nat.le_refl _⟩, ⟨kx BK419.out⟩, ⟨kx BK427.out⟩, ⟨bx HB.out⟩⟩
         rw [if_neg c80] at H
         have c80b0 := beq_eq_false_iff_ne.mpr c80
         have c80b1 := bne_iff_ne.mpr c80
         have c80b2 : ¬ (t431 = []) := fun h_ => c80 (by rw [h_]; rfl)
         have H' := zm H
         clear H
         go_wp2
         go_meet
         case rel => exact ⟨_, (false), (by first | rfl | (simp; done) | (simp [*]; done)), H', ⟨by have := HK1.out; have := HJ20.out; first | omega | exact Nat.le_refl _⟩, ⟨kx BK419.out⟩, ⟨kx BK427.out⟩, ⟨bx HB.out⟩⟩
        replace c70 := Bool.eq_false_iff.mpr c70
        subst c70
        rw [if_neg (show ¬ (false = true) by decide)] at H
        by_cases c83 : (wrap64 ((t428.length : Int) + (t431.length : Int))) > 2
        ·rw [if_pos c83] at H
         have c83b0 : decide (2 < (wrap64 ((t428.length : Int) + (t431.length : Int)))) = true := decide_eq_true c83
         clear c83
         have H' := zm H
         clear H
         go_wp2
         go_meet
         case rel => exact ⟨_, (true), (by first | rfl | (simp; done) | (simp [*]; done)), H', ⟨by have := HK1.out; have := HJ20.out; first | omega | exact Nat.le_refl _⟩, ⟨kx BK419.out⟩, ⟨kx BK427.out⟩, ⟨bx HB.out⟩⟩
        rw [if_neg c83] at H
        have c83b0 : decide (2 < (wrap64 ((t428.length : Int) + (t431.length : Int)))) = false := decide_eq_false c83
        clear c83
        by_cases c84 : (t428.length : Int) = 0
        ·rw [if_pos c84] at H
         have c84b0 := beq_iff_eq.mpr c84
         have c84b1 := bne_eq_false_iff_eq.mpr c84
         clear c84
         by_cases c85 : ((rd_T37 l0_0 x26_1).f0) = 1
         ·rw [if_pos c85] at H
          have c85b0 := beq_iff_eq.mpr c85
          have c85b1 := bne_eq_false_iff_eq.mpr c85
          clear c85
          by_cases c86 : (t431.length : Int) = 0
          ·rw [if_pos c86] at H
           have c86b0 := beq_iff_eq.mpr c86
           have c86b1 := bne_eq_false_iff_eq.mpr c86
           clear c86
           have H' := zm H
           clear H
           have hnb87 := NB427_419.out
           have hnc87 := NB419_427.out
           have hcz88_0 := bc0 BK427.out
           have hcz88_1 := bc1 BK427.out
           have hcz88_2 := bc2 BK427.out
           have hcz88_3 := bc3 BK427.out
           have hcz88_4 := bc4 BK427.out
           have hfz88_0 := bF BK427.out 0
           have hfz88_1 := bF BK427.out 1
           have hfz88_2 := bF BK427.out 2
           have hfz88_3 := bF BK427.out 3
           have hfz88_4 := bF BK427.out 4
           go_wp2
           go_meet
           case rel => exact ⟨_, ((((rd_T37 l0_0 x26_1).f0) != 2)), (by first | rfl | (simp; done) | (simp [*]; done)), H', ⟨by have := HK1.out; have := HJ20.out; first | omega | exact Nat.le_refl _⟩, ⟨kx BK419.out⟩, ⟨kx BK427.out⟩, ⟨bx HB.out⟩⟩
          rw [if_neg c86] at H
          have c86b0 := beq_eq_false_iff_ne.mpr c86
          have c86b1 := bne_iff_ne.mpr c86
          have c86b2 : ¬ (t431 = []) := fun h_ => c86 (by rw [h_]; rfl)
          have H' := zm H
          clear H
          have hnb89 := NB427_419.out
          have hnc89 := NB419_427.out
          have hcz90_0 := bc0 BK427.out
          have hcz90_1 := bc1 BK427.out
          have hcz90_2 := bc2 BK427.out
          have hcz90_3 := bc3 BK427.out
          have hcz90_4 := bc4 BK427.out
          have hfz90_0 := bF BK427.out 0
          have hfz90_1 := bF BK427.out 1
          have hfz90_2 := bF BK427.out 2
          have hfz90_3 := bF BK427.out 3
          have hfz90_4 := bF BK427.out 4
          go_wp2
          go_meet
          case rel => exact ⟨_, (false), (by first | rfl | (simp; done) | (simp [*]; done)), H', ⟨by have := HK1.out; have := HJ20.out; first | omega | exact Nat.le_refl _⟩, ⟨kx BK419.out⟩, ⟨kx BK427.out⟩, ⟨bx HB.out⟩⟩
         rw [if_neg c85] at H
         have c85b0 := beq_eq_false_iff_ne.mpr c85
         have c85b1 := bne_iff_ne.mpr c85
         have H' := zm H
         clear H
         have hnb91 := NB427_419.out
         have hnc91 := NB419_427.out
         have hcz92_0 := bc0 BK427.out
         have hcz92_1 := bc1 BK427.out
         have hcz92_2 := bc2 BK427.out
         have hcz92_3 := bc3 BK427.out
         have hcz92_4 := bc4 BK427.out
         have hfz92_0 := bF BK427.out 0
         have hfz92_1 := bF BK427.out 1
         have hfz92_2 := bF BK427.out 2
         have hfz92_3 := bF BK427.out 3
         have hfz92_4 := bF BK427.out 4
         go_wp2
         go_meet
         case rel => exact ⟨_, (true), (by first | rfl | (simp; done) | (simp [*]; done)), H', ⟨by have := HK1.out; have := HJ20.out; first | omega | exact Nat.le_refl _⟩, ⟨kx BK419.out⟩, ⟨kx BK427.out⟩, ⟨bx HB.out⟩⟩
        rw [if_neg c84] at H
        have c84b0 := beq_eq_false_iff_ne.mpr c84
        have c84b1 := bne_iff_ne.mpr c84
        have c84b2 : ¬ (t428 = []) := fun h_ => c84 (by rw [h_]; rfl)
        by_cases c93 : (t431.length : Int) = 0
        ·rw [if_pos c93] at H
         have c93b0 := beq_iff_eq.mpr c93
         have c93b1 := bne_eq_false_iff_eq.mpr c93
         clear c93
         have H' := zm H
         clear H
         have hnb94 := NB427_419.out
         have hnc94 := NB419_427.out
         have hcz95_0 := bc0 BK427.out
         have hcz95_1 := bc1 BK427.out
         have hcz95_2 := bc2 BK427.out
         have hcz95_3 := bc3 BK427.out
         have hcz95_4 := bc4 BK427.out
         have hfz95_0 := bF BK427.out 0
         have hfz95_1 := bF BK427.out 1
         have hfz95_2 := bF BK427.out 2
         have hfz95_3 := bF BK427.out 3
         have hfz95_4 := bF BK427.out 4
         go_wp2
         go_meet
         case rel => exact ⟨_, ((((rd_T37 l0_0 x26_1).f0) != 2)), (by first | rfl | (simp; done) | (simp [*]; done)), H', ⟨by have := HK1.out; have := HJ20.out; first | omega | exact Nat.le_refl _⟩, ⟨kx BK419.out⟩, ⟨kx BK427.out⟩, ⟨bx HB.out⟩⟩
        rw [if_neg c93] at H
        have c93b0 := beq_eq_false_iff_ne.mpr c93
        have c93b1 := bne_iff_ne.mpr c93
        have c93b2 : ¬ (t431 = []) := fun h_ => c93 (by rw [h_]; rfl)
        have H' := zm H
        clear H
        go_wp2
        go_meet
        case rel => exact ⟨_, (false), (by first | rfl | (simp; done) | (simp [*]; done)), H', ⟨by have := HK1.out; have := HJ20.out; first | omega | exact Nat.le_refl _⟩, ⟨kx BK419.out⟩, ⟨kx BK427.out⟩, ⟨bx HB.out⟩⟩
       clear HC39
       try clear p2
       try clear c4
       try clear p4
       try clear q4
       try clear hx4
       try clear c5
       try clear c6
       try clear p6
       try clear c7
       try clear c8
       try clear c9
       try clear c40
       try clear c40b0
       try clear c40b1
       try clear c41
       try clear c41b0
       try clear c41b1
       try clear c42
       try clear c42b0
       try clear p42
       try clear q42
       try clear hx42
       try clear c43
       try clear c44
       try clear c44b0
       try clear c44b1
       try clear c44b2
       try clear c45
       try clear c45b0
       try clear c45b1
       try clear c46
       try clear c46b0
       try clear c46b1
       try clear c46b2
       try clear c47
       try clear c49
       try clear c51
       try clear c53
       try clear c53b0
       try clear c53b1
       try clear c53b2
       try clear c54
       try clear c56
       try clear c56b0
       try clear c57
       try clear c57b0
       try clear c57b1
       try clear c57b2
       try clear c58
       try clear c58b0
       try clear c58b1
       try clear c59
       try clear c59b0
       try clear c59b1
       try clear c59b2
       try clear c60
       try clear c62
       try clear c64
       try clear p64
       try clear c66
       try clear c66b0
       try clear c66b1
       try clear c66b2
       try clear c67
       try clear c69
       try clear c69b0
       try clear c70
       try clear c71
       try clear c71b0
       try clear c71b1
       try clear c71b2
       try clear c72
       try clear c72b0
       try clear c72b1
       try clear c73
       try clear c73b0
       try clear c73b1
       try clear c73b2
       try clear c74
       try clear c76
       try clear c78
       try clear c80
       try clear c80b0
       try clear c80b1
       try clear c80b2
       try clear c81
       try clear c83
       try clear c83b0
       try clear c84
       try clear c84b0
       try clear c84b1
       try clear c84b2
       try clear c85
       try clear c85b0
       try clear c85b1
       try clear c86
       try clear c86b0
       try clear c86b1
       try clear c86b2
       try clear c87
       try clear c89
       try clear c91
       try clear c93
       try clear c93b0
       try clear c93b1
       try clear c93b2
       try clear c94
       try clear hx426_0
       try clear hx426_1
       try clear hx426_2
       try clear hx426_3
       try clear hx426_4
       try clear p2
       try clear p426
       try clear q426
       try clear BK419
       try clear BK427
       obtain ⟨kq, x97_38, rfl, HA, HJ38, BK419, BK427, HB⟩ := hcut
       cases kq with
       | zero => exact absurd HA.out (by first | (intro h_; cases h_; done) | simp [treenaillaw05_NetSums.j2])
       | succ kj38 =>
        have H := HA.out
        clear HA
        simp only [treenaillaw05_NetSums.j2] at H
        by_cases c96 : x97_38 = true
        ·subst c96
         rw [if_pos rfl] at H
         obtain rfl := Option.some.inj H
         go_wp2
         go_ret
         exact ⟨xe, bx HB.out⟩
        replace c96 := Bool.eq_false_iff.mpr c96
        subst c96
        rw [if_neg (show ¬ (false = true) by decide)] at H
        have H' := zm H
        clear H
        go_wp2
        go_roundg kj38
        case measure => have := HK1.out; have := HJ20.out; have := HJ38.out; omega
        case rel => exact ⟨((wrap64 (x5_1 + (t428.length : Int)))), ((wrap64 (x6_1 + (t431.length : Int)))), (wrap64 (x26_1 + 1)), (by first | rfl | (simp; done) | (simp [*]; done)), (by first | rfl | (simp; done) | (simp [*]; done)), (by first | rfl | (simp; done) | (simp [*]; done)), H', ⟨by have := HK1.out; have := HJ20.out; have := HJ38.out; omega⟩, ⟨kx BK419.out⟩, ⟨bx HB.out⟩⟩
     rw [if_neg c18] at H
     exact absurd H (by simp)
    rw [if_neg c17] at H
    exact absurd H (by simp)
   rw [if_neg c16] at H
   have c16b0 := decide_eq_false c16
   try (have c16b9 := c16b0; rw [hl426_4] at c16b9)
   clear c16
   by_cases c97 : x5_1 = (l0_1.length : Int)
   ·rw [if_pos c97] at H
    have c97b0 := beq_iff_eq.mpr c97
    have c97b1 := bne_eq_false_iff_eq.mpr c97
    clear c97
    by_cases c98 : x6_1 = x5_1
    ·rw [if_pos c98] at H
     have c98b0 := beq_iff_eq.mpr c98
     have c98b1 := bne_eq_false_iff_eq.mpr c98
     clear c98
     replace H := Option.bind_eq_some_iff.mp H
     obtain ⟨t425, A990, H⟩ := H
     replace H : (some t425) = some r := H
     have A99 := zm A990
     clear A990
     obtain rfl := Option.some.inj H
     have hcz100_0 := bc0 BK419.out
     have hcz100_1 := bc1 BK419.out
     have hfz100_0 := bF BK419.out 0
     have hfz100_1 := bF BK419.out 1
     go_wp2_with (first | (go_at_call 10; (with_reducible refine (treenaillaw05_line.calls k1  t425 _ A99.out ?hT_).mono ?_); (case hT_ => exact Words.tab_below HT0.out (bx HB.out)); rintro e w101 ⟨rfl, hb⟩; replace BK419 := zm (kB (kx BK419.out) hb); replace HB := zm (below_step (bx HB.out) hb); (try clear hb)))
     go_ret
     exact ⟨xe, bx HB.out⟩
    rw [if_neg c98] at H
    have c98b0 := beq_eq_false_iff_ne.mpr c98
    have c98b1 := bne_iff_ne.mpr c98
    obtain rfl := Option.some.inj H
    have hcz102_0 := bc0 BK419.out
    have hcz102_1 := bc1 BK419.out
    have hfz102_0 := bF BK419.out 0
    have hfz102_1 := bF BK419.out 1
    go_wp2
    go_ret
    exact ⟨xe, bx HB.out⟩
   rw [if_neg c97] at H
   have c97b0 := beq_eq_false_iff_ne.mpr c97
   have c97b1 := bne_iff_ne.mpr c97
   obtain rfl := Option.some.inj H
   have hcz103_0 := bc0 BK419.out
   have hcz103_1 := bc1 BK419.out
   have hfz103_0 := bF BK419.out 0
   have hfz103_1 := bF BK419.out 1
   go_wp2
   go_ret
   exact ⟨xe, bx HB.out⟩
 rw [if_neg c14] at H
 have c14b0 := beq_eq_false_iff_ne.mpr c14
 have c14b1 := bne_iff_ne.mpr c14
 (first | rw [c14b0] | (simp only [i64_w, i32_w]; rw [c14b0]) | rw [c14b1] | skip)
 replace H := Option.bind_eq_some_iff.mp H
 obtain ⟨t424, A1040, H⟩ := H
 replace H : (some t424) = some r := H
 have A104 := zm A1040
 clear A1040
 obtain rfl := Option.some.inj H
 go_wp2_with (first | ((with_reducible refine gate_callee (f := 10) rfl ?_); refine goesL_ (some 22) rfl rfl Tryd.func10 (by kernel_rfl) rfl #[] rfl ag ?_; (with_reducible refine (treenaillaw05_line.calls k  t424 _ A104.out ?hT_).mono ?_); (case hT_ => exact Words.tab_below HT0.out (bx HB.out)); rintro e w105 ⟨rfl, hb⟩; refine ⟨_, rfl, ?_⟩; replace BK419 := zm (kB (kx BK419.out) hb); replace HB := zm (below_step (bx HB.out) hb); (try clear hb)))
 go_ret
 exact ⟨xe, bx HB.out⟩

end Go.Proofs.YtdaeiicdpfghlaaDoor.R
