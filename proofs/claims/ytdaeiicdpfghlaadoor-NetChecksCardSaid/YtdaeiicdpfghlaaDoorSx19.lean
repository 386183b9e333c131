import Derived.Test.YtdaeiicdpfghlaaDoorSx0
import Derived.Test.YtdaeiicdpfghlaaDoorSx3
import Derived.Test.YtdaeiicdpfghlaaDoorSx5
import Derived.Test.YtdaeiicdpfghlaaDoorSx7
import Derived.Test.YtdaeiicdpfghlaaDoorSx11
namespace Go.Proofs.YtdaeiicdpfghlaaDoor.R
open Go.RowKit Go.Proofs.YtdaeiicdpfghlaaDoorW.PrintWords Go.Proofs.YtdaeiicdpfghlaaDoorW.PrintLast Go.Proofs.YtdaeiicdpfghlaaDoorW.PrintMore
attribute [local go_sem] max2_int min2_int max_two min_two max_three min_three max_four min_four   -- for this text's walks alone
set_option linter.unusedVariables false
set_option linter.unusedSimpArgs false

def treenailref05_three.l0 : Nat → Int → Int → Int → Int → Int → List Int → Int → Int → List (S37) → List (S53) → Option (Bool)
 | 0, _, _, _, _, _, _, _, _, _, _ => none
 | k + 1, x1, x5, x7, x8, x9, x21, x22, x23, x376000, x376001 => if x23 < x22 then (if 0 ≤ x23 then (if x23 < (x21.length : Int) then (if 0 ≤ (rd x21 x23) then (if (rd x21 x23) < (x376001.length : Int) then (if (rd_T53 x376001 (rd x21 x23)).f2 = true then (if 0 ≤ ((rd_T53 x376001 (rd x21 x23)).f1) then (if ((rd_T53 x376001 (rd x21 x23)).f1) < (x376000.length : Int) then (if ((rd_T37 x376000 ((rd_T53 x376001 (rd x21 x23)).f1)).f0) = 8 then (treenailref05_three.l0 k x1 x5 x7 (wrap64 (x8 + 1)) x9 x21 x22 (wrap64 (x23 + 1)) x376000 x376001) else (treenailref05_three.l0 k x1 x5 x7 (wrap64 (x8 + 1)) (wrap64 (x9 + 1)) x21 x22 (wrap64 (x23 + 1)) x376000 x376001)) else (none)) else (none)) else (if 0 ≤ ((rd_T53 x376001 (rd x21 x23)).f1) then (if ((rd_T53 x376001 (rd x21 x23)).f1) < (x376000.length : Int) then (if ((rd_T37 x376000 ((rd_T53 x376001 (rd x21 x23)).f1)).f0) = 8 then (treenailref05_three.l0 k x1 x5 x7 x8 x9 x21 x22 (wrap64 (x23 + 1)) x376000 x376001) else (treenailref05_three.l0 k x1 x5 x7 x8 (wrap64 (x9 + 1)) x21 x22 (wrap64 (x23 + 1)) x376000 x376001)) else (none)) else (none))) else (none)) else (none)) else (none)) else (none)) else (if 0 ≤ x1 then (if x1 < (x376000.length : Int) then (if ((rd_T37 x376000 x1).f0) = 1 then (if x5 = 0 then (some (x7 == 1)) else (some false)) else (if ((rd_T37 x376000 x1).f0) = 2 then (if x5 = 1 then (some (x7 == 0)) else (some false)) else (if ((rd_T37 x376000 x1).f0) = 5 then (if x5 = 1 then (if x7 ≥ 2 then (if x8 = 1 then (some true) else (if x5 ≥ 2 then (some (x7 == 1)) else (some false))) else (if x5 ≥ 2 then (some (x7 == 1)) else (some false))) else (if x5 ≥ 2 then (some (x7 == 1)) else (some false))) else (if ((rd_T37 x376000 x1).f0) = 6 then (if x5 = 1 then (if x7 ≥ 2 then (some true) else (if x5 ≥ 2 then (some (x7 == 1)) else (some false))) else (if x5 ≥ 2 then (some (x7 == 1)) else (some false))) else (if ((rd_T37 x376000 x1).f0) = 7 then (if x5 = 1 then (if x7 ≥ 2 then (some (x9 == 0)) else (some false)) else (some false)) else (if x5 = 1 then (some (x7 == 1)) else (some false))))))) else (none)) else (none))
def treenailref05_three.f (k : Nat) (l0_0 : List (S37)) (l0_1 : List (S53)) (a1 : Int) : Option (Bool) := (treenailref05_Ins.f k l0_0 l0_1 a1).bind fun t376 => ((treenailref05_Outs.f k l0_0 l0_1 a1).bind fun t379 => (treenailref05_three.l0 k a1 (t376.length : Int) (t379.length : Int) 0 0 t379 (t379.length : Int) 0 l0_0 l0_1))
set_option maxRecDepth 100000 in
theorem treenailref05_three.mono_l : ∀ k, (∀ y0 y1 y2 y3 y4 y5 y6 y7 y8 y9, LeO (treenailref05_three.l0 k y0 y1 y2 y3 y4 y5 y6 y7 y8 y9) (treenailref05_three.l0 (k + 1) y0 y1 y2 y3 y4 y5 y6 y7 y8 y9))
 | 0 => fun _ _ _ _ _ _ _ _ _ _ r h => by first | (cases h; done) | simp [treenailref05_three.l0] at h
 | k + 1 => by
  have ih0 := treenailref05_three.mono_l k
  ·intro y0 y1 y2 y3 y4 y5 y6 y7 y8 y9
   unfold treenailref05_three.l0
   repeat' first
   | (with_reducible exact ih0 _ _ _ _ _ _ _ _ _ _)
   | (with_reducible exact treenailref05_Ins.mono _ _ _ _)
   | (with_reducible exact treenailref05_Outs.mono _ _ _ _)
   | (with_reducible exact LeO.refl _)
   | (with_reducible exact LeO.none _)
   | (with_reducible refine LeO.ite ?_ ?_)
   | (with_reducible refine LeO.bind ?_ (fun _ => ?_))
   | refine LeO.ite ?_ ?_
   | refine LeO.bind ?_ (fun _ => ?_)
set_option maxRecDepth 100000 in
theorem treenailref05_three.mono : ∀ a0 a1 a2 k, LeO (treenailref05_three.f k a0 a1 a2) (treenailref05_three.f (k + 1) a0 a1 a2) := by
 intro a0 a1 a2 k
 have ih0 := treenailref05_three.mono_l k
 unfold treenailref05_three.f
 repeat' first
 | (with_reducible exact ih0 _ _ _ _ _ _ _ _ _ _)
 | (with_reducible exact treenailref05_Ins.mono _ _ _ _)
 | (with_reducible exact treenailref05_Outs.mono _ _ _ _)
 | (with_reducible exact LeO.refl _)
 | (with_reducible exact LeO.none _)
 | (with_reducible refine LeO.ite ?_ ?_)
 | (with_reducible refine LeO.bind ?_ (fun _ => ?_))
 | refine LeO.ite ?_ ?_
 | refine LeO.bind ?_ (fun _ => ?_)
set_option maxHeartbeats 8000000 in
set_option maxRecDepth 100000 in
theorem treenailref05_three.calls (k : Nat) (A0_0 : Option Addr) (c0_0 : Nat) (l0_0 : List (S37)) (A0_1 : Option Addr) (c0_1 : Nat) (l0_1 : List (S53)) (a1 : Int) (r : Bool) (w : World) (hr0_0 : Kd.C k37 w A0_0 l0_0.length l0_0) (hc0_0 : l0_0.length ≤ c0_0) (hr0_1 : Kd.C k53 w A0_1 l0_1.length l0_1) (hc0_1 : l0_1.length ≤ c0_1) (h : treenailref05_three.f k l0_0 l0_1 a1 = some r) :
  Calls Tryd.prog 30 #[.agg #[.slice A0_0 l0_0.length c0_0, .slice A0_1 l0_1.length c0_1], .int .i64 a1] w fun e w' => e = .returned (.bool r) ∧ Below w.heap.size w w' := by
 have hu25 := Tryd.underlying25
 have HR0_0 := zm hr0_0
 have HC0_0 := zm hc0_0
 clear hr0_0 hc0_0
 have HR0_1 := zm hr0_1
 have HC0_1 := zm hc0_1
 clear hr0_1 hc0_1
 have HB := zm (Below.refl w.heap.size w)
 have H : ((treenailref05_Ins.f k l0_0 l0_1 a1).bind fun t376 => ((treenailref05_Outs.f k l0_0 l0_1 a1).bind fun t379 => (treenailref05_three.l0 k a1 (t376.length : Int) (t379.length : Int) 0 0 t379 (t379.length : Int) 0 l0_0 l0_1))) = some r := h
 clear h
 replace H := Option.bind_eq_some_iff.mp H
 obtain ⟨t376, A30, H⟩ := H
 have A3 := zm A30
 clear A30
 replace H := Option.bind_eq_some_iff.mp H
 obtain ⟨t379, A40, H⟩ := H
 replace H : (treenailref05_three.l0 k a1 (t376.length : Int) (t379.length : Int) 0 0 t379 (t379.length : Int) 0 l0_0 l0_1) = some r := H
 have A4 := zm A40
 clear A40
 have H' := zm H
 clear H
 go_enter Tryd.func30, Tryd.ntmps30
 go_wp2_with (first | ((with_reducible refine gate_dst (N := 2) rfl ?_); refine box_event ?hg (N := 2) ?hd (cs := #[.slice A0_0 l0_0.length c0_0, .slice A0_1 l0_1.length c0_1]) (t := 25) ?hr ?_; (case hd => rfl); (case hg => rfl); (case hr => first | (go_simp; done) | (go_simp; rfl)); intro gb375 hg w5 hbox hb; have BK375 := zm (hbox); have GW375 := zm ((by rw [hg]; exact (below_size (bx HB.out)) : w.heap.size ≤ gb375)); have GE375 := zm ((by rw [hg]; exact (below_size (bx HB.out)) : w.heap.size ≤ gb375)); replace HB := zm (below_step (bx HB.out) hb); clear hb hbox hg; have hcz6_0 := bc0 BK375.out; have hcz6_1 := bc1 BK375.out) | (go_at_call 21; (with_reducible refine (treenailref05_Ins.calls k _ _ l0_0 _ _ l0_1 a1 t376 _ ?side1 HC0_0.out ?side3 HC0_1.out A3.out).mono ?_); (case side1 => exact cx (Kd.C_below HR0_0.out HB.out)); (case side3 => exact cx (Kd.C_below HR0_1.out HB.out)); rintro e w7 ⟨v377, rfl, ho0, hb⟩; have HO378 := zm (Kd.R_lower ho0 (below_size (bx HB.out))); replace BK375 := zm (kB (kx BK375.out) hb); replace HB := zm (below_step (bx HB.out) hb); (try clear hb); (try clear ho0); obtain ⟨Ao8, co8, eo8⟩ := Kd.R_slice HO378.out; subst eo8; have hcz9_0 := bc0 BK375.out; have hcz9_1 := bc1 BK375.out) | (go_at_call 22; (with_reducible refine (treenailref05_Outs.calls k _ _ l0_0 _ _ l0_1 a1 t379 _ ?side1 HC0_0.out ?side3 HC0_1.out A4.out).mono ?_); (case side1 => exact cx (Kd.C_below HR0_0.out HB.out)); (case side3 => exact cx (Kd.C_below HR0_1.out HB.out)); rintro e w10 ⟨v380, rfl, ho0, hb⟩; have HO381 := zm (Kd.R_lower (Kd.R_new' ho0 (Kd.R_lt (rx HO378.out))) (below_size (bx HB.out))); replace HO378 := zm (Kd.R_elder' (rx HO378.out) (by first | exact Kd.R_base ho0 | exact Kd.N_base ho0 | exact Kd.S_base ho0 | exact Kd.R_base ho0) hb); replace BK375 := zm (kB (kx BK375.out) hb); replace HB := zm (below_step (bx HB.out) hb); (try clear hb); (try clear hb2); (try clear hk); (try clear hi); (try clear ho0); obtain ⟨Ao11, co11, eo11⟩ := Kd.R_slice HO381.out; subst eo11))
 repeat (go_quiet (first | ((with_reducible refine gate_dst (N := 2) rfl ?_); refine box_event ?hg (N := 2) ?hd (cs := #[.slice A0_0 l0_0.length c0_0, .slice A0_1 l0_1.length c0_1]) (t := 25) ?hr ?_; (case hd => rfl); (case hg => rfl); (case hr => first | (go_simp; done) | (go_simp; rfl)); intro gb375 hg w5 hbox hb; have BK375 := zm (hbox); have GW375 := zm ((by rw [hg]; exact (below_size (bx HB.out)) : w.heap.size ≤ gb375)); have GE375 := zm ((by rw [hg]; exact (below_size (bx HB.out)) : w.heap.size ≤ gb375)); replace HB := zm (below_step (bx HB.out) hb); clear hb hbox hg; have hcz6_0 := bc0 BK375.out; have hcz6_1 := bc1 BK375.out) | (go_at_call 21; (with_reducible refine (treenailref05_Ins.calls k _ _ l0_0 _ _ l0_1 a1 t376 _ ?side1 HC0_0.out ?side3 HC0_1.out A3.out).mono ?_); (case side1 => exact cx (Kd.C_below HR0_0.out HB.out)); (case side3 => exact cx (Kd.C_below HR0_1.out HB.out)); rintro e w7 ⟨v377, rfl, ho0, hb⟩; have HO378 := zm (Kd.R_lower ho0 (below_size (bx HB.out))); replace BK375 := zm (kB (kx BK375.out) hb); replace HB := zm (below_step (bx HB.out) hb); (try clear hb); (try clear ho0); obtain ⟨Ao8, co8, eo8⟩ := Kd.R_slice HO378.out; subst eo8; have hcz9_0 := bc0 BK375.out; have hcz9_1 := bc1 BK375.out) | (go_at_call 22; (with_reducible refine (treenailref05_Outs.calls k _ _ l0_0 _ _ l0_1 a1 t379 _ ?side1 HC0_0.out ?side3 HC0_1.out A4.out).mono ?_); (case side1 => exact cx (Kd.C_below HR0_0.out HB.out)); (case side3 => exact cx (Kd.C_below HR0_1.out HB.out)); rintro e w10 ⟨v380, rfl, ho0, hb⟩; have HO381 := zm (Kd.R_lower (Kd.R_new' ho0 (Kd.R_lt (rx HO378.out))) (below_size (bx HB.out))); replace HO378 := zm (Kd.R_elder' (rx HO378.out) (by first | exact Kd.R_base ho0 | exact Kd.N_base ho0 | exact Kd.S_base ho0 | exact Kd.R_base ho0) hb); replace BK375 := zm (kB (kx BK375.out) hb); replace HB := zm (below_step (bx HB.out) hb); (try clear hb); (try clear hb2); (try clear hk); (try clear hi); (try clear ho0); obtain ⟨Ao11, co11, eo11⟩ := Kd.R_slice HO381.out; subst eo11)); try go_wp2_with (first | ((with_reducible refine gate_dst (N := 2) rfl ?_); refine box_event ?hg (N := 2) ?hd (cs := #[.slice A0_0 l0_0.length c0_0, .slice A0_1 l0_1.length c0_1]) (t := 25) ?hr ?_; (case hd => rfl); (case hg => rfl); (case hr => first | (go_simp; done) | (go_simp; rfl)); intro gb375 hg w5 hbox hb; have BK375 := zm (hbox); have GW375 := zm ((by rw [hg]; exact (below_size (bx HB.out)) : w.heap.size ≤ gb375)); have GE375 := zm ((by rw [hg]; exact (below_size (bx HB.out)) : w.heap.size ≤ gb375)); replace HB := zm (below_step (bx HB.out) hb); clear hb hbox hg; have hcz6_0 := bc0 BK375.out; have hcz6_1 := bc1 BK375.out) | (go_at_call 21; (with_reducible refine (treenailref05_Ins.calls k _ _ l0_0 _ _ l0_1 a1 t376 _ ?side1 HC0_0.out ?side3 HC0_1.out A3.out).mono ?_); (case side1 => exact cx (Kd.C_below HR0_0.out HB.out)); (case side3 => exact cx (Kd.C_below HR0_1.out HB.out)); rintro e w7 ⟨v377, rfl, ho0, hb⟩; have HO378 := zm (Kd.R_lower ho0 (below_size (bx HB.out))); replace BK375 := zm (kB (kx BK375.out) hb); replace HB := zm (below_step (bx HB.out) hb); (try clear hb); (try clear ho0); obtain ⟨Ao8, co8, eo8⟩ := Kd.R_slice HO378.out; subst eo8; have hcz9_0 := bc0 BK375.out; have hcz9_1 := bc1 BK375.out) | (go_at_call 22; (with_reducible refine (treenailref05_Outs.calls k _ _ l0_0 _ _ l0_1 a1 t379 _ ?side1 HC0_0.out ?side3 HC0_1.out A4.out).mono ?_); (case side1 => exact cx (Kd.C_below HR0_0.out HB.out)); (case side3 => exact cx (Kd.C_below HR0_1.out HB.out)); rintro e w10 ⟨v380, rfl, ho0, hb⟩; have HO381 := zm (Kd.R_lower (Kd.R_new' ho0 (Kd.R_lt (rx HO378.out))) (below_size (bx HB.out))); replace HO378 := zm (Kd.R_elder' (rx HO378.out) (by first | exact Kd.R_base ho0 | exact Kd.N_base ho0 | exact Kd.S_base ho0 | exact Kd.R_base ho0) hb); replace BK375 := zm (kB (kx BK375.out) hb); replace HB := zm (below_step (bx HB.out) hb); (try clear hb); (try clear hb2); (try clear hk); (try clear hi); (try clear ho0); obtain ⟨Ao11, co11, eo11⟩ := Kd.R_slice HO381.out; subst eo11)))
 go_loopg [8, 9, 23] k (fun kq v8 v9 v23 w' => ∃ (x8_1 : Int) (x9_1 : Int) (x23_1 : Int), v8 = .int .i64 x8_1 ∧ v9 = .int .i64 x9_1 ∧ v23 = .int .i64 x23_1 ∧ Aside0 (treenailref05_three.l0 kq a1 (t376.length : Int) (t379.length : Int) x8_1 x9_1 t379 (t379.length : Int) x23_1 l0_0 l0_1 = some r) ∧ Aside0 (kq ≤ k) ∧ Aside0 (Kd.R (Kd.int .i64) 3 w' w.heap.size (fun _ => True) (.slice Ao11 t379.length co11) t379) ∧ Aside0 (w'.heap[gb375]? = some (.cells #[(.slice A0_0 l0_0.length c0_0), (.slice A0_1 l0_1.length c0_1)] 25 (0, 0))) ∧ Aside0 (Below w.heap.size w w'))
 case atStart => exact ⟨(0), (0), (0), (by first | rfl | (simp; done) | (simp [*]; done)), (by first | rfl | (simp; done) | (simp [*]; done)), (by first | rfl | (simp; done) | (simp [*]; done)), H', ⟨Nat.le_refl _⟩, ⟨rx (Kd.R_mono HO381.out (fun _ hk => trivial))⟩, ⟨kx BK375.out⟩, ⟨bx HB.out⟩⟩
 clear H'
 try clear p2
 try clear c3
 try clear BK375
 obtain ⟨x8_1, x9_1, x23_1, rfl, rfl, rfl, HA, HK1, HO_21, BK375, HB⟩ := hrel
 cases gk with
 | zero => exact absurd HA.out (by first | (intro h_; cases h_; done) | simp [treenailref05_three.l0])
 | succ k1 =>
  have H := HA.out
  clear HA
  simp only [treenailref05_three.l0] at H
  by_cases c12 : x23_1 < (t379.length : Int)
  ·rw [if_pos c12] at H
   have c12b0 := decide_eq_true c12
   clear c12
   by_cases c13 : 0 ≤ x23_1
   ·rw [if_pos c13] at H
    have c13b0 := decide_eq_true c13
    clear c13
    by_cases c14 : x23_1 < (t379.length : Int)
    ·rw [if_pos c14] at H
     have c14b0 := decide_eq_true c14
     clear c14
     by_cases c15 : 0 ≤ (rd t379 x23_1)
     ·rw [if_pos c15] at H
      have c15b0 := decide_eq_true c15
      clear c15
      by_cases c16 : (rd t379 x23_1) < (l0_1.length : Int)
      ·rw [if_pos c16] at H
       have c16b0 := decide_eq_true c16
       clear c16
       obtain ⟨bq17, hbq17⟩ : ∃ b_ : Bool, b_ = ((rd_T53 l0_1 (rd t379 x23_1)).f2) := ⟨_, rfl⟩
       replace H : (if bq17 = true then (if 0 ≤ ((rd_T53 l0_1 (rd t379 x23_1)).f1) then (if ((rd_T53 l0_1 (rd t379 x23_1)).f1) < (l0_0.length : Int) then (if ((rd_T37 l0_0 ((rd_T53 l0_1 (rd t379 x23_1)).f1)).f0) = 8 then (treenailref05_three.l0 k1 a1 (t376.length : Int) (t379.length : Int) (wrap64 (x8_1 + 1)) x9_1 t379 (t379.length : Int) (wrap64 (x23_1 + 1)) l0_0 l0_1) else (treenailref05_three.l0 k1 a1 (t376.length : Int) (t379.length : Int) (wrap64 (x8_1 + 1)) (wrap64 (x9_1 + 1)) t379 (t379.length : Int) (wrap64 (x23_1 + 1)) l0_0 l0_1)) else (none)) else (none)) else (if 0 ≤ ((rd_T53 l0_1 (rd t379 x23_1)).f1) then (if ((rd_T53 l0_1 (rd t379 x23_1)).f1) < (l0_0.length : Int) then (if ((rd_T37 l0_0 ((rd_T53 l0_1 (rd t379 x23_1)).f1)).f0) = 8 then (treenailref05_three.l0 k1 a1 (t376.length : Int) (t379.length : Int) x8_1 x9_1 t379 (t379.length : Int) (wrap64 (x23_1 + 1)) l0_0 l0_1) else (treenailref05_three.l0 k1 a1 (t376.length : Int) (t379.length : Int) x8_1 (wrap64 (x9_1 + 1)) t379 (t379.length : Int) (wrap64 (x23_1 + 1)) l0_0 l0_1)) else (none)) else (none))) = some r := by rw [← hbq17] at H; exact H
       have Nbq17 := zm hbq17
       clear hbq17
       by_cases c18 : bq17 = true
       ·subst c18
        rw [if_pos rfl] at H
        by_cases c19 : 0 ≤ ((rd_T53 l0_1 (rd t379 x23_1)).f1)
        ·rw [if_pos c19] at H
         have c19b0 := decide_eq_true c19
         clear c19
         by_cases c20 : ((rd_T53 l0_1 (rd t379 x23_1)).f1) < (l0_0.length : Int)
         ·rw [if_pos c20] at H
          have c20b0 := decide_eq_true c20
          clear c20
          by_cases c21 : ((rd_T37 l0_0 ((rd_T53 l0_1 (rd t379 x23_1)).f1)).f0) = 8
          ·rw [if_pos c21] at H
           have c21b0 := beq_iff_eq.mpr c21
           have c21b1 := bne_eq_false_iff_eq.mpr c21
           clear c21
           have H' := zm H
           clear H
           have p382 : 0 ≤ (x23_1 : Int) := od
           have q382 : x23_1 < (t379.length : Int) := od
           obtain ⟨ad382, e382, hx382_0⟩ := Kd.at_int (Kd.R_reads' HO_21.out).2.2 x23_1 p382 q382
           cases e382
           replace p382 := eq_true p382
           replace q382 := eq_true q382
           have hcz22_0 := bc0 BK375.out
           have hcz22_1 := bc1 BK375.out
           have p383 : 0 ≤ ((rd t379 x23_1) : Int) := od
           have q383 : (rd t379 x23_1) < (l0_1.length : Int) := od
           obtain ⟨ad383, A383_5, c383_5, e383, hx383_0, hx383_1, hx383_2, hx383_3, hx383_4, hx383_5, hl383_5, hi383_5⟩ := at_T53 HR0_1.out (rd t379 x23_1) p383 q383
           (try rw [← Nbq17.out] at hx383_2)
           (try rw [← Nbq17.out] at hw383_2)
           cases e383
           replace hx383_0 := cb HB.out hx383_0
           replace hx383_1 := cb HB.out hx383_1
           replace hx383_2 := cb HB.out hx383_2
           replace hx383_3 := cb HB.out hx383_3
           replace hx383_4 := cb HB.out hx383_4
           replace hx383_5 := cb HB.out hx383_5
           have HR383_5 := zm hi383_5
           have HC383_5 := zm hl383_5
           clear hi383_5 hl383_5
           replace p383 := eq_true p383
           replace q383 := eq_true q383
           have p384 : 0 ≤ ((rd t379 x23_1) : Int) := od
           have q384 : (rd t379 x23_1) < (l0_1.length : Int) := od
           obtain ⟨ad384, A384_5, c384_5, e384, hx384_0, hx384_1, hx384_2, hx384_3, hx384_4, hx384_5, hl384_5, hi384_5⟩ := at_T53 HR0_1.out (rd t379 x23_1) p384 q384
           (try rw [← Nbq17.out] at hx384_2)
           (try rw [← Nbq17.out] at hw384_2)
           obtain rfl : ad383 = ad384 := (by injection e384)
           replace hx384_0 := cb HB.out hx384_0
           replace hx384_1 := cb HB.out hx384_1
           replace hx384_2 := cb HB.out hx384_2
           replace hx384_3 := cb HB.out hx384_3
           replace hx384_4 := cb HB.out hx384_4
           replace hx384_5 := cb HB.out hx384_5
           have HR384_5 := zm hi384_5
           have HC384_5 := zm hl384_5
           clear hi384_5 hl384_5
           replace p384 := eq_true p384
           replace q384 := eq_true q384
           have ea_ := Option.some.inj (hx383_5.symm.trans hx384_5)
           injection ea_ with ea_ en_ ec_
           subst ea_
           subst ec_
           clear en_
           have p385 : 0 ≤ (((rd_T53 l0_1 (rd t379 x23_1)).f1) : Int) := od
           have q385 : ((rd_T53 l0_1 (rd t379 x23_1)).f1) < (l0_0.length : Int) := od
           obtain ⟨ad385, A385_4, c385_4, e385, hx385_0, hx385_1, hx385_2, hx385_3, hx385_4, hl385_4, hi385_4⟩ := at_T37 HR0_0.out ((rd_T53 l0_1 (rd t379 x23_1)).f1) p385 q385
           cases e385
           replace hx385_0 := cb HB.out hx385_0
           replace hx385_1 := cb HB.out hx385_1
           replace hx385_2 := cb HB.out hx385_2
           replace hx385_3 := cb HB.out hx385_3
           replace hx385_4 := cb HB.out hx385_4
           have HR385_4 := zm hi385_4
           have HC385_4 := zm hl385_4
           clear hi385_4 hl385_4
           replace p385 := eq_true p385
           replace q385 := eq_true q385
           go_wp2
           repeat (go_quiet (fail); try go_wp2)
           go_roundg k1
           case measure => have := HK1.out; omega
           case rel => exact ⟨(wrap64 (x8_1 + 1)), (x9_1), (wrap64 (x23_1 + 1)), (by first | rfl | (simp; done) | (simp [*]; done)), (by first | rfl | (simp; done) | (simp [*]; done)), (by first | rfl | (simp; done) | (simp [*]; done)), H', ⟨by have := HK1.out; omega⟩, ⟨rx HO_21.out⟩, ⟨kx BK375.out⟩, ⟨bx HB.out⟩⟩
          rw [if_neg c21] at H
          have c21b0 := beq_eq_false_iff_ne.mpr c21
          have c21b1 := bne_iff_ne.mpr c21
          have H' := zm H
          clear H
          have p382 : 0 ≤ (x23_1 : Int) := od
          have q382 : x23_1 < (t379.length : Int) := od
          obtain ⟨ad382, e382, hx382_0⟩ := Kd.at_int (Kd.R_reads' HO_21.out).2.2 x23_1 p382 q382
          cases e382
          replace p382 := eq_true p382
          replace q382 := eq_true q382
          have hcz23_0 := bc0 BK375.out
          have hcz23_1 := bc1 BK375.out
          have p383 : 0 ≤ ((rd t379 x23_1) : Int) := od
          have q383 : (rd t379 x23_1) < (l0_1.length : Int) := od
          obtain ⟨ad383, A383_5, c383_5, e383, hx383_0, hx383_1, hx383_2, hx383_3, hx383_4, hx383_5, hl383_5, hi383_5⟩ := at_T53 HR0_1.out (rd t379 x23_1) p383 q383
          (try rw [← Nbq17.out] at hx383_2)
          (try rw [← Nbq17.out] at hw383_2)
          cases e383
          replace hx383_0 := cb HB.out hx383_0
          replace hx383_1 := cb HB.out hx383_1
          replace hx383_2 := cb HB.out hx383_2
          replace hx383_3 := cb HB.out hx383_3
          replace hx383_4 := cb HB.out hx383_4
          replace hx383_5 := cb HB.out hx383_5
          have HR383_5 := zm hi383_5
          have HC383_5 := zm hl383_5
          clear hi383_5 hl383_5
          replace p383 := eq_true p383
          replace q383 := eq_true q383
          have p384 : 0 ≤ ((rd t379 x23_1) : Int) := od
          have q384 : (rd t379 x23_1) < (l0_1.length : Int) := od
          obtain ⟨ad384, A384_5, c384_5, e384, hx384_0, hx384_1, hx384_2, hx384_3, hx384_4, hx384_5, hl384_5, hi384_5⟩ := at_T53 HR0_1.out (rd t379 x23_1) p384 q384
          (try rw [← Nbq17.out] at hx384_2)
          (try rw [← Nbq17.out] at hw384_2)
          obtain rfl : ad383 = ad384 := (by injection e384)
          replace hx384_0 := cb HB.out hx384_0
          replace hx384_1 := cb HB.out hx384_1
          replace hx384_2 := cb HB.out hx384_2
          replace hx384_3 := cb HB.out hx384_3
          replace hx384_4 := cb HB.out hx384_4
          replace hx384_5 := cb HB.out hx384_5
          have HR384_5 := zm hi384_5
          have HC384_5 := zm hl384_5
          clear hi384_5 hl384_5
          replace p384 := eq_true p384
          replace q384 := eq_true q384
          have ea_ := Option.some.inj (hx383_5.symm.trans hx384_5)
          injection ea_ with ea_ en_ ec_
          subst ea_
          subst ec_
          clear en_
          have p385 : 0 ≤ (((rd_T53 l0_1 (rd t379 x23_1)).f1) : Int) := od
          have q385 : ((rd_T53 l0_1 (rd t379 x23_1)).f1) < (l0_0.length : Int) := od
          obtain ⟨ad385, A385_4, c385_4, e385, hx385_0, hx385_1, hx385_2, hx385_3, hx385_4, hl385_4, hi385_4⟩ := at_T37 HR0_0.out ((rd_T53 l0_1 (rd t379 x23_1)).f1) p385 q385
          cases e385
          replace hx385_0 := cb HB.out hx385_0
          replace hx385_1 := cb HB.out hx385_1
          replace hx385_2 := cb HB.out hx385_2
          replace hx385_3 := cb HB.out hx385_3
          replace hx385_4 := cb HB.out hx385_4
          have HR385_4 := zm hi385_4
          have HC385_4 := zm hl385_4
          clear hi385_4 hl385_4
          replace p385 := eq_true p385
          replace q385 := eq_true q385
          go_wp2
          repeat (go_quiet (fail); try go_wp2)
          go_roundg k1
          case measure => have := HK1.out; omega
          case rel => exact ⟨(wrap64 (x8_1 + 1)), (wrap64 (x9_1 + 1)), (wrap64 (x23_1 + 1)), (by first | rfl | (simp; done) | (simp [*]; done)), (by first | rfl | (simp; done) | (simp [*]; done)), (by first | rfl | (simp; done) | (simp [*]; done)), H', ⟨by have := HK1.out; omega⟩, ⟨rx HO_21.out⟩, ⟨kx BK375.out⟩, ⟨bx HB.out⟩⟩
         rw [if_neg c20] at H
         exact absurd H (by simp)
        rw [if_neg c19] at H
        exact absurd H (by simp)
       replace c18 := Bool.eq_false_iff.mpr c18
       subst c18
       rw [if_neg (show ¬ (false = true) by decide)] at H
       by_cases c24 : 0 ≤ ((rd_T53 l0_1 (rd t379 x23_1)).f1)
       ·rw [if_pos c24] at H
        have c24b0 := decide_eq_true c24
        clear c24
        by_cases c25 : ((rd_T53 l0_1 (rd t379 x23_1)).f1) < (l0_0.length : Int)
        ·rw [if_pos c25] at H
         have c25b0 := decide_eq_true c25
         clear c25
         by_cases c26 : ((rd_T37 l0_0 ((rd_T53 l0_1 (rd t379 x23_1)).f1)).f0) = 8
         ·rw [if_pos c26] at H
          have c26b0 := beq_iff_eq.mpr c26
          have c26b1 := bne_eq_false_iff_eq.mpr c26
          clear c26
          have H' := zm H
          clear H
          have p382 : 0 ≤ (x23_1 : Int) := od
          have q382 : x23_1 < (t379.length : Int) := od
          obtain ⟨ad382, e382, hx382_0⟩ := Kd.at_int (Kd.R_reads' HO_21.out).2.2 x23_1 p382 q382
          cases e382
          replace p382 := eq_true p382
          replace q382 := eq_true q382
          have hcz27_0 := bc0 BK375.out
          have hcz27_1 := bc1 BK375.out
          have p383 : 0 ≤ ((rd t379 x23_1) : Int) := od
          have q383 : (rd t379 x23_1) < (l0_1.length : Int) := od
          obtain ⟨ad383, A383_5, c383_5, e383, hx383_0, hx383_1, hx383_2, hx383_3, hx383_4, hx383_5, hl383_5, hi383_5⟩ := at_T53 HR0_1.out (rd t379 x23_1) p383 q383
          (try rw [← Nbq17.out] at hx383_2)
          (try rw [← Nbq17.out] at hw383_2)
          cases e383
          replace hx383_0 := cb HB.out hx383_0
          replace hx383_1 := cb HB.out hx383_1
          replace hx383_2 := cb HB.out hx383_2
          replace hx383_3 := cb HB.out hx383_3
          replace hx383_4 := cb HB.out hx383_4
          replace hx383_5 := cb HB.out hx383_5
          have HR383_5 := zm hi383_5
          have HC383_5 := zm hl383_5
          clear hi383_5 hl383_5
          replace p383 := eq_true p383
          replace q383 := eq_true q383
          have p386 : 0 ≤ ((rd t379 x23_1) : Int) := od
          have q386 : (rd t379 x23_1) < (l0_1.length : Int) := od
          obtain ⟨ad386, A386_5, c386_5, e386, hx386_0, hx386_1, hx386_2, hx386_3, hx386_4, hx386_5, hl386_5, hi386_5⟩ := at_T53 HR0_1.out (rd t379 x23_1) p386 q386
          (try rw [← Nbq17.out] at hx386_2)
          (try rw [← Nbq17.out] at hw386_2)
          obtain rfl : ad383 = ad386 := (by injection e386)
          replace hx386_0 := cb HB.out hx386_0
          replace hx386_1 := cb HB.out hx386_1
          replace hx386_2 := cb HB.out hx386_2
          replace hx386_3 := cb HB.out hx386_3
          replace hx386_4 := cb HB.out hx386_4
          replace hx386_5 := cb HB.out hx386_5
          have HR386_5 := zm hi386_5
          have HC386_5 := zm hl386_5
          clear hi386_5 hl386_5
          replace p386 := eq_true p386
          replace q386 := eq_true q386
          have ea_ := Option.some.inj (hx383_5.symm.trans hx386_5)
          injection ea_ with ea_ en_ ec_
          subst ea_
          subst ec_
          clear en_
          have p387 : 0 ≤ (((rd_T53 l0_1 (rd t379 x23_1)).f1) : Int) := od
          have q387 : ((rd_T53 l0_1 (rd t379 x23_1)).f1) < (l0_0.length : Int) := od
          obtain ⟨ad387, A387_4, c387_4, e387, hx387_0, hx387_1, hx387_2, hx387_3, hx387_4, hl387_4, hi387_4⟩ := at_T37 HR0_0.out ((rd_T53 l0_1 (rd t379 x23_1)).f1) p387 q387
          cases e387
          replace hx387_0 := cb HB.out hx387_0
          replace hx387_1 := cb HB.out hx387_1
          replace hx387_2 := cb HB.out hx387_2
          replace hx387_3 := cb HB.out hx387_3
          replace hx387_4 := cb HB.out hx387_4
          have HR387_4 := zm hi387_4
          have HC387_4 := zm hl387_4
          clear hi387_4 hl387_4
          replace p387 := eq_true p387
          replace q387 := eq_true q387
          go_wp2
          repeat (go_quiet (fail); try go_wp2)
          go_roundg k1
          case measure => have := HK1.out; omega
          case rel => exact ⟨(x8_1), (x9_1), (wrap64 (x23_1 + 1)), (by first | rfl | (simp; done) | (simp [*]; done)), (by first | rfl | (simp; done) | (simp [*]; done)), (by first | rfl | (simp; done) | (simp [*]; done)), H', ⟨by have := HK1.out; omega⟩, ⟨rx HO_21.out⟩, ⟨kx BK375.out⟩, ⟨bx HB.out⟩⟩
         rw [if_neg c26] at H
         have c26b0 := beq_eq_false_iff_ne.mpr c26
         have c26b1 := bne_iff_ne.mpr c26
         have H' := zm H
         clear H
         have p382 : 0 ≤ (x23_1 : Int) := od
         have q382 : x23_1 < (t379.length : Int) := od
         obtain ⟨ad382, e382, hx382_0⟩ := Kd.at_int (Kd.R_reads' HO_21.out).2.2 x23_1 p382 q382
         cases e382
         replace p382 := eq_true p382
         replace q382 := eq_true q382
         have hcz28_0 := bc0 BK375.out
         have hcz28_1 := bc1 BK375.out
         have p383 : 0 ≤ ((rd t379 x23_1) : Int) := od
         have q383 : (rd t379 x23_1) < (l0_1.length : Int) := od
         obtain ⟨ad383, A383_5, c383_5, e383, hx383_0, hx383_1, hx383_2, hx383_3, hx383_4, hx383_5, hl383_5, hi383_5⟩ := at_T53 HR0_1.out (rd t379 x23_1) p383 q383
         (try rw [← Nbq17.out] at hx383_2)
         (try rw [← Nbq17.out] at hw383_2)
         cases e383
         replace hx383_0 := cb HB.out hx383_0
         replace hx383_1 := cb HB.out hx383_1
         replace hx383_2 := cb HB.out hx383_2
         replace hx383_3 := cb HB.out hx383_3
         replace hx383_4 := cb HB.out hx383_4
         replace hx383_5 := cb HB.out hx383_5
         have HR383_5 := zm hi383_5
         have HC383_5 := zm hl383_5
         clear hi383_5 hl383_5
         replace p383 := eq_true p383
         replace q383 := eq_true q383
         have p386 : 0 ≤ ((rd t379 x23_1) : Int) := od
         have q386 : (rd t379 x23_1) < (l0_1.length : Int) := od
         obtain ⟨ad386, A386_5, c386_5, e386, hx386_0, hx386_1, hx386_2, hx386_3, hx386_4, hx386_5, hl386_5, hi386_5⟩ := at_T53 HR0_1.out (rd t379 x23_1) p386 q386
         (try rw [← Nbq17.out] at hx386_2)
         (try rw [← Nbq17.out] at hw386_2)
         obtain rfl : ad383 = ad386 := (by injection e386)
         replace hx386_0 := cb HB.out hx386_0
         replace hx386_1 := cb HB.out hx386_1
         replace hx386_2 := cb HB.out hx386_2
         replace hx386_3 := cb HB.out hx386_3
         replace hx386_4 := cb HB.out hx386_4
         replace hx386_5 := cb HB.out hx386_5
         have HR386_5 := zm hi386_5
         have HC386_5 := zm hl386_5
         clear hi386_5 hl386_5
         replace p386 := eq_true p386
         replace q386 := eq_true q386
         have ea_ := Option.some.inj (hx383_5.symm.trans hx386_5)
         injection ea_ with ea_ en_ ec_
         subst ea_
         subst ec_
         clear en_
         have p387 : 0 ≤ (((rd_T53 l0_1 (rd t379 x23_1)).f1) : Int) := od
         have q387 : ((rd_T53 l0_1 (rd t379 x23_1)).f1) < (l0_0.length : Int) := od
         obtain ⟨ad387, A387_4, c387_4, e387, hx387_0, hx387_1, hx387_2, hx387_3, hx387_4, hl387_4, hi387_4⟩ := at_T37 HR0_0.out ((rd_T53 l0_1 (rd t379 x23_1)).f1) p387 q387
         cases e387
         replace hx387_0 := cb HB.out hx387_0
         replace hx387_1 := cb HB.out hx387_1
         replace hx387_2 := cb HB.out hx387_2
         replace hx387_3 := cb HB.out hx387_3
         replace hx387_4 := cb HB.out hx387_4
         have HR387_4 := zm hi387_4
         have HC387_4 := zm hl387_4
         clear hi387_4 hl387_4
         replace p387 := eq_true p387
         replace q387 := eq_true q387
         go_wp2
         repeat (go_quiet (fail); try go_wp2)
         go_roundg k1
         case measure => have := HK1.out; omega
         case rel => exact ⟨(x8_1), (wrap64 (x9_1 + 1)), (wrap64 (x23_1 + 1)), (by first | rfl | (simp; done) | (simp [*]; done)), (by first | rfl | (simp; done) | (simp [*]; done)), (by first | rfl | (simp; done) | (simp [*]; done)), H', ⟨by have := HK1.out; omega⟩, ⟨rx HO_21.out⟩, ⟨kx BK375.out⟩, ⟨bx HB.out⟩⟩
        rw [if_neg c25] at H
        exact absurd H (by simp)
       rw [if_neg c24] at H
       exact absurd H (by simp)
      rw [if_neg c16] at H
      exact absurd H (by simp)
     rw [if_neg c15] at H
     exact absurd H (by simp)
    rw [if_neg c14] at H
    exact absurd H (by simp)
   rw [if_neg c13] at H
   exact absurd H (by simp)
  rw [if_neg c12] at H
  have c12b0 := decide_eq_false c12
  try (have c12b9 := c12b0; rw [hl388_4] at c12b9)
  try (have c12b9 := c12b0; rw [hl387_4] at c12b9)
  try (have c12b9 := c12b0; rw [hl386_5] at c12b9)
  try (have c12b9 := c12b0; rw [hl385_4] at c12b9)
  try (have c12b9 := c12b0; rw [hl384_5] at c12b9)
  try (have c12b9 := c12b0; rw [hl383_5] at c12b9)
  clear c12
  by_cases c29 : 0 ≤ a1
  ·rw [if_pos c29] at H
   have c29b0 := decide_eq_true c29
   clear c29
   by_cases c30 : a1 < (l0_0.length : Int)
   ·rw [if_pos c30] at H
    have c30b0 := decide_eq_true c30
    clear c30
    by_cases c31 : ((rd_T37 l0_0 a1).f0) = 1
    ·rw [if_pos c31] at H
     have c31b0 := beq_iff_eq.mpr c31
     have c31b1 := bne_eq_false_iff_eq.mpr c31
     clear c31
     by_cases c32 : (t376.length : Int) = 0
     ·rw [if_pos c32] at H
      have c32b0 := beq_iff_eq.mpr c32
      have c32b1 := bne_eq_false_iff_eq.mpr c32
      clear c32
      obtain rfl := Option.some.inj H
      have hcz33_0 := bc0 BK375.out
      have hcz33_1 := bc1 BK375.out
      have p388 : 0 ≤ (a1 : Int) := od
      have q388 : a1 < (l0_0.length : Int) := od
      obtain ⟨ad388, A388_4, c388_4, e388, hx388_0, hx388_1, hx388_2, hx388_3, hx388_4, hl388_4, hi388_4⟩ := at_T37 HR0_0.out a1 p388 q388
      cases e388
      replace hx388_0 := cb HB.out hx388_0
      replace hx388_1 := cb HB.out hx388_1
      replace hx388_2 := cb HB.out hx388_2
      replace hx388_3 := cb HB.out hx388_3
      replace hx388_4 := cb HB.out hx388_4
      have HR388_4 := zm hi388_4
      have HC388_4 := zm hl388_4
      clear hi388_4 hl388_4
      replace p388 := eq_true p388
      replace q388 := eq_true q388
      go_wp2
      repeat (go_quiet (fail); try go_wp2)
      go_ret
      exact ⟨xe, bx HB.out⟩
     rw [if_neg c32] at H
     have c32b0 := beq_eq_false_iff_ne.mpr c32
     have c32b1 := bne_iff_ne.mpr c32
     have c32b2 : ¬ (t376 = []) := fun h_ => c32 (by rw [h_]; rfl)
     obtain rfl := Option.some.inj H
     have hcz34_0 := bc0 BK375.out
     have hcz34_1 := bc1 BK375.out
     have p388 : 0 ≤ (a1 : Int) := od
     have q388 : a1 < (l0_0.length : Int) := od
     obtain ⟨ad388, A388_4, c388_4, e388, hx388_0, hx388_1, hx388_2, hx388_3, hx388_4, hl388_4, hi388_4⟩ := at_T37 HR0_0.out a1 p388 q388
     cases e388
     replace hx388_0 := cb HB.out hx388_0
     replace hx388_1 := cb HB.out hx388_1
     replace hx388_2 := cb HB.out hx388_2
     replace hx388_3 := cb HB.out hx388_3
     replace hx388_4 := cb HB.out hx388_4
     have HR388_4 := zm hi388_4
     have HC388_4 := zm hl388_4
     clear hi388_4 hl388_4
     replace p388 := eq_true p388
     replace q388 := eq_true q388
     go_wp2
     repeat (go_quiet (fail); try go_wp2)
     go_ret
     exact ⟨xe, bx HB.out⟩
    rw [if_neg c31] at H
    have c31b0 := beq_eq_false_iff_ne.mpr c31
    have c31b1 := bne_iff_ne.mpr c31
    by_cases c35 : ((rd_T37 l0_0 a1).f0) = 2
    ·rw [if_pos c35] at H
     have c35b0 := beq_iff_eq.mpr c35
     have c35b1 := bne_eq_false_iff_eq.mpr c35
     clear c35
     by_cases c36 : (t376.length : Int) = 1
     ·rw [if_pos c36] at H
      have c36b0 := beq_iff_eq.mpr c36
      have c36b1 := bne_eq_false_iff_eq.mpr c36
      clear c36
      obtain rfl := Option.some.inj H
      have hcz37_0 := bc0 BK375.out
      have hcz37_1 := bc1 BK375.out
      have p388 : 0 ≤ (a1 : Int) := od
      have q388 : a1 < (l0_0.length : Int) := od
      obtain ⟨ad388, A388_4, c388_4, e388, hx388_0, hx388_1, hx388_2, hx388_3, hx388_4, hl388_4, hi388_4⟩ := at_T37 HR0_0.out a1 p388 q388
      cases e388
      replace hx388_0 := cb HB.out hx388_0
      replace hx388_1 := cb HB.out hx388_1
      replace hx388_2 := cb HB.out hx388_2
      replace hx388_3 := cb HB.out hx388_3
      replace hx388_4 := cb HB.out hx388_4
      have HR388_4 := zm hi388_4
      have HC388_4 := zm hl388_4
      clear hi388_4 hl388_4
      replace p388 := eq_true p388
      replace q388 := eq_true q388
      go_wp2
      repeat (go_quiet (fail); try go_wp2)
      go_ret
      exact ⟨xe, bx HB.out⟩
     rw [if_neg c36] at H
     have c36b0 := beq_eq_false_iff_ne.mpr c36
     have c36b1 := bne_iff_ne.mpr c36
     obtain rfl := Option.some.inj H
     have hcz38_0 := bc0 BK375.out
     have hcz38_1 := bc1 BK375.out
     have p388 : 0 ≤ (a1 : Int) := od
     have q388 : a1 < (l0_0.length : Int) := od
     obtain ⟨ad388, A388_4, c388_4, e388, hx388_0, hx388_1, hx388_2, hx388_3, hx388_4, hl388_4, hi388_4⟩ := at_T37 HR0_0.out a1 p388 q388
     cases e388
     replace hx388_0 := cb HB.out hx388_0
     replace hx388_1 := cb HB.out hx388_1
     replace hx388_2 := cb HB.out hx388_2
     replace hx388_3 := cb HB.out hx388_3
     replace hx388_4 := cb HB.out hx388_4
     have HR388_4 := zm hi388_4
     have HC388_4 := zm hl388_4
     clear hi388_4 hl388_4
     replace p388 := eq_true p388
     replace q388 := eq_true q388
     go_wp2
     repeat (go_quiet (fail); try go_wp2)
     go_ret
     exact ⟨xe, bx HB.out⟩
    rw [if_neg c35] at H
    have c35b0 := beq_eq_false_iff_ne.mpr c35
    have c35b1 := bne_iff_ne.mpr c35
    by_cases c39 : ((rd_T37 l0_0 a1).f0) = 5
    ·rw [if_pos c39] at H
     have c39b0 := beq_iff_eq.mpr c39
     have c39b1 := bne_eq_false_iff_eq.mpr c39
     clear c39
     by_cases c40 : (t376.length : Int) = 1
     ·rw [if_pos c40] at H
      have c40b0 := beq_iff_eq.mpr c40
      have c40b1 := bne_eq_false_iff_eq.mpr c40
      clear c40
      by_cases c41 : (t379.length : Int) ≥ 2
      ·rw [if_pos c41] at H
       have c41b0 : decide (2 ≤ (t379.length : Int)) = true := decide_eq_true c41
       have c41b1 : decide (2 ≤ t379.length) = true := decide_eq_true (by omega)
       clear c41
       by_cases c42 : x8_1 = 1
       ·rw [if_pos c42] at H
        have c42b0 := beq_iff_eq.mpr c42
        have c42b1 := bne_eq_false_iff_eq.mpr c42
        clear c42
        obtain rfl := Option.some.inj H
        have hcz43_0 := bc0 BK375.out
        have hcz43_1 := bc1 BK375.out
        have p388 : 0 ≤ (a1 : Int) := od
        have q388 : a1 < (l0_0.length : Int) := od
        obtain ⟨ad388, A388_4, c388_4, e388, hx388_0, hx388_1, hx388_2, hx388_3, hx388_4, hl388_4, hi388_4⟩ := at_T37 HR0_0.out a1 p388 q388
        cases e388
        replace hx388_0 := cb HB.out hx388_0
        replace hx388_1 := cb HB.out hx388_1
        replace hx388_2 := cb HB.out hx388_2
        replace hx388_3 := cb HB.out hx388_3
        replace hx388_4 := cb HB.out hx388_4
        have HR388_4 := zm hi388_4
        have HC388_4 := zm hl388_4
        clear hi388_4 hl388_4
        replace p388 := eq_true p388
        replace q388 := eq_true q388
        go_wp2
        repeat (go_quiet (fail); try go_wp2)
        go_ret
        exact ⟨xe, bx HB.out⟩
       rw [if_neg c42] at H
       have c42b0 := beq_eq_false_iff_ne.mpr c42
       have c42b1 := bne_iff_ne.mpr c42
       by_cases c44 : (t376.length : Int) ≥ 2
       ·rw [if_pos c44] at H
        have c44b0 : decide (2 ≤ (t376.length : Int)) = true := decide_eq_true c44
        have c44b1 : decide (2 ≤ t376.length) = true := decide_eq_true (by omega)
        clear c44
        obtain rfl := Option.some.inj H
        have hcz45_0 := bc0 BK375.out
        have hcz45_1 := bc1 BK375.out
        have p388 : 0 ≤ (a1 : Int) := od
        have q388 : a1 < (l0_0.length : Int) := od
        obtain ⟨ad388, A388_4, c388_4, e388, hx388_0, hx388_1, hx388_2, hx388_3, hx388_4, hl388_4, hi388_4⟩ := at_T37 HR0_0.out a1 p388 q388
        cases e388
        replace hx388_0 := cb HB.out hx388_0
        replace hx388_1 := cb HB.out hx388_1
        replace hx388_2 := cb HB.out hx388_2
        replace hx388_3 := cb HB.out hx388_3
        replace hx388_4 := cb HB.out hx388_4
        have HR388_4 := zm hi388_4
        have HC388_4 := zm hl388_4
        clear hi388_4 hl388_4
        replace p388 := eq_true p388
        replace q388 := eq_true q388
        go_wp2
        repeat (go_quiet (fail); try go_wp2)
        go_ret
        exact ⟨xe, bx HB.out⟩
       rw [if_neg c44] at H
       have c44b0 : decide (2 ≤ (t376.length : Int)) = false := decide_eq_false c44
       have c44b1 : decide (2 ≤ t376.length) = false := decide_eq_false (by omega)
       clear c44
       obtain rfl := Option.some.inj H
       have hcz46_0 := bc0 BK375.out
       have hcz46_1 := bc1 BK375.out
       have p388 : 0 ≤ (a1 : Int) := od
       have q388 : a1 < (l0_0.length : Int) := od
       obtain ⟨ad388, A388_4, c388_4, e388, hx388_0, hx388_1, hx388_2, hx388_3, hx388_4, hl388_4, hi388_4⟩ := at_T37 HR0_0.out a1 p388 q388
       cases e388
       replace hx388_0 := cb HB.out hx388_0
       replace hx388_1 := cb HB.out hx388_1
       replace hx388_2 := cb HB.out hx388_2
       replace hx388_3 := cb HB.out hx388_3
       replace hx388_4 := cb HB.out hx388_4
       have HR388_4 := zm hi388_4
       have HC388_4 := zm hl388_4
       clear hi388_4 hl388_4
       replace p388 := eq_true p388
       replace q388 := eq_true q388
       go_wp2
       repeat (go_quiet (fail); try go_wp2)
       go_ret
       exact ⟨xe, bx HB.out⟩
      rw [if_neg c41] at H
      have c41b0 : decide (2 ≤ (t379.length : Int)) = false := decide_eq_false c41
      have c41b1 : decide (2 ≤ t379.length) = false := decide_eq_false (by omega)
      clear c41
      by_cases c47 : (t376.length : Int) ≥ 2
      ·rw [if_pos c47] at H
       have c47b0 : decide (2 ≤ (t376.length : Int)) = true := decide_eq_true c47
       have c47b1 : decide (2 ≤ t376.length) = true := decide_eq_true (by omega)
       clear c47
       obtain rfl := Option.some.inj H
       have hcz48_0 := bc0 BK375.out
       have hcz48_1 := bc1 BK375.out
       have p388 : 0 ≤ (a1 : Int) := od
       have q388 : a1 < (l0_0.length : Int) := od
       obtain ⟨ad388, A388_4, c388_4, e388, hx388_0, hx388_1, hx388_2, hx388_3, hx388_4, hl388_4, hi388_4⟩ := at_T37 HR0_0.out a1 p388 q388
       cases e388
       replace hx388_0 := cb HB.out hx388_0
       replace hx388_1 := cb HB.out hx388_1
       replace hx388_2 := cb HB.out hx388_2
       replace hx388_3 := cb HB.out hx388_3
       replace hx388_4 := cb HB.out hx388_4
       have HR388_4 := zm hi388_4
       have HC388_4 := zm hl388_4
       clear hi388_4 hl388_4
       replace p388 := eq_true p388
       replace q388 := eq_true q388
       go_wp2
       repeat (go_quiet (fail); try go_wp2)
       go_ret
       exact ⟨xe, bx HB.out⟩
      rw [if_neg c47] at H
      have c47b0 : decide (2 ≤ (t376.length : Int)) = false := decide_eq_false c47
      have c47b1 : decide (2 ≤ t376.length) = false := decide_eq_false (by omega)
      clear c47
      obtain rfl := Option.some.inj H
      have hcz49_0 := bc0 BK375.out
      have hcz49_1 := bc1 BK375.out
      have p388 : 0 ≤ (a1 : Int) := od
      have q388 : a1 < (l0_0.length : Int) := od
      obtain ⟨ad388, A388_4, c388_4, e388, hx388_0, hx388_1, hx388_2, hx388_3, hx388_4, hl388_4, hi388_4⟩ := at_T37 HR0_0.out a1 p388 q388
      cases e388
      replace hx388_0 := cb HB.out hx388_0
      replace hx388_1 := cb HB.out hx388_1
      replace hx388_2 := cb HB.out hx388_2
      replace hx388_3 := cb HB.out hx388_3
      replace hx388_4 := cb HB.out hx388_4
      have HR388_4 := zm hi388_4
      have HC388_4 := zm hl388_4
      clear hi388_4 hl388_4
      replace p388 := eq_true p388
      replace q388 := eq_true q388
      go_wp2
      repeat (go_quiet (fail); try go_wp2)
      go_ret
      exact ⟨xe, bx HB.out⟩
     rw [if_neg c40] at H
     have c40b0 := beq_eq_false_iff_ne.mpr c40
     have c40b1 := bne_iff_ne.mpr c40
     by_cases c50 : (t376.length : Int) ≥ 2
     ·rw [if_pos c50] at H
      have c50b0 : decide (2 ≤ (t376.length : Int)) = true := decide_eq_true c50
      have c50b1 : decide (2 ≤ t376.length) = true := decide_eq_true (by omega)
      clear c50
      obtain rfl := Option.some.inj H
      have hcz51_0 := bc0 BK375.out
      have hcz51_1 := bc1 BK375.out
      have p388 : 0 ≤ (a1 : Int) := od
      have q388 : a1 < (l0_0.length : Int) := od
      obtain ⟨ad388, A388_4, c388_4, e388, hx388_0, hx388_1, hx388_2, hx388_3, hx388_4, hl388_4, hi388_4⟩ := at_T37 HR0_0.out a1 p388 q388
      cases e388
      replace hx388_0 := cb HB.out hx388_0
      replace hx388_1 := cb HB.out hx388_1
      replace hx388_2 := cb HB.out hx388_2
      replace hx388_3 := cb HB.out hx388_3
      replace hx388_4 := cb HB.out hx388_4
      have HR388_4 := zm hi388_4
      have HC388_4 := zm hl388_4
      clear hi388_4 hl388_4
      replace p388 := eq_true p388
      replace q388 := eq_true q388
      go_wp2
      repeat (go_quiet (fail); try go_wp2)
      go_ret
      exact ⟨xe, bx HB.out⟩
     rw [if_neg c50] at H
     have c50b0 : decide (2 ≤ (t376.length : Int)) = false := decide_eq_false c50
     have c50b1 : decide (2 ≤ t376.length) = false := decide_eq_false (by omega)
     clear c50
     obtain rfl := Option.some.inj H
     have hcz52_0 := bc0 BK375.out
     have hcz52_1 := bc1 BK375.out
     have p388 : 0 ≤ (a1 : Int) := od
     have q388 : a1 < (l0_0.length : Int) := od
     obtain ⟨ad388, A388_4, c388_4, e388, hx388_0, hx388_1, hx388_2, hx388_3, hx388_4, hl388_4, hi388_4⟩ := at_T37 HR0_0.out a1 p388 q388
     cases e388
     replace hx388_0 := cb HB.out hx388_0
     replace hx388_1 := cb HB.out hx388_1
     replace hx388_2 := cb HB.out hx388_2
     replace hx388_3 := cb HB.out hx388_3
     replace hx388_4 := cb HB.out hx388_4
     have HR388_4 := zm hi388_4
     have HC388_4 := zm hl388_4
     clear hi388_4 hl388_4
     replace p388 := eq_true p388
     replace q388 := eq_true q388
     go_wp2
     repeat (go_quiet (fail); try go_wp2)
     go_ret
     exact ⟨xe, bx HB.out⟩
    rw [if_neg c39] at H
    have c39b0 := beq_eq_false_iff_ne.mpr c39
    have c39b1 := bne_iff_ne.mpr c39
    by_cases c53 : ((rd_T37 l0_0 a1).f0) = 6
    ·rw [if_pos c53] at H
     have c53b0 := beq_iff_eq.mpr c53
     have c53b1 := bne_eq_false_iff_eq.mpr c53
     clear c53
     by_cases c54 : (t376.length : Int) = 1
     ·rw [if_pos c54] at H
      have c54b0 := beq_iff_eq.mpr c54
      have c54b1 := bne_eq_false_iff_eq.mpr c54
      clear c54
      by_cases c55 : (t379.length : Int) ≥ 2
      ·rw [if_pos c55] at H
       have c55b0 : decide (2 ≤ (t379.length : Int)) = true := decide_eq_true c55
       have c55b1 : decide (2 ≤ t379.length) = true := decide_eq_true (by omega)
       clear c55
       obtain rfl := Option.some.inj H
       have hcz56_0 := bc0 BK375.out
       have hcz56_1 := bc1 BK375.out
       have p388 : 0 ≤ (a1 : Int) := od
       have q388 : a1 < (l0_0.length : Int) := od
       obtain ⟨ad388, A388_4, c388_4, e388, hx388_0, hx388_1, hx388_2, hx388_3, hx388_4, hl388_4, hi388_4⟩ := at_T37 HR0_0.out a1 p388 q388
       cases e388
       replace hx388_0 := cb HB.out hx388_0
       replace hx388_1 := cb HB.out hx388_1
       replace hx388_2 := cb HB.out hx388_2
       replace hx388_3 := cb HB.out hx388_3
       replace hx388_4 := cb HB.out hx388_4
       have HR388_4 := zm hi388_4
       have HC388_4 := zm hl388_4
       clear hi388_4 hl388_4
       replace p388 := eq_true p388
       replace q388 := eq_true q388
       go_wp2
       repeat (go_quiet (fail); try go_wp2)
       go_ret
       exact ⟨xe, bx HB.out⟩
      rw [if_neg c55] at H
      have c55b0 : decide (2 ≤ (t379.length : Int)) = false := decide_eq_false c55
      have c55b1 : decide (2 ≤ t379.length) = false := decide_eq_false (by omega)
      clear c55
      by_cases c57 : (t376.length : Int) ≥ 2
      ·rw [if_pos c57] at H
       have c57b0 : decide (2 ≤ (t376.length : Int)) = true := decide_eq_true c57
       have c57b1 : decide (2 ≤ t376.length) = true := decide_eq_true (by omega)
       clear c57
       obtain rfl := Option.some.inj H
       have hcz58_0 := bc0 BK375.out
       have hcz58_1 := bc1 BK375.out
       have p388 : 0 ≤ (a1 : Int) := od
       have q388 : a1 < (l0_0.length : Int) := od
       obtain ⟨ad388, A388_4, c388_4, e388, hx388_0, hx388_1, hx388_2, hx388_3, hx388_4, hl388_4, hi388_4⟩ := at_T37 HR0_0.out a1 p388 q388
       cases e388
       replace hx388_0 := cb HB.out hx388_0
       replace hx388_1 := cb HB.out hx388_1
       replace hx388_2 := cb HB.out hx388_2
       replace hx388_3 := cb HB.out hx388_3
       replace hx388_4 := cb HB.out hx388_4
       have HR388_4 := zm hi388_4
       have HC388_4 := zm hl388_4
       clear hi388_4 hl388_4
       replace p388 := eq_true p388
       replace q388 := eq_true q388
       go_wp2
       repeat (go_quiet (fail); try go_wp2)
       go_ret
       exact ⟨xe, bx HB.out⟩
      rw [if_neg c57] at H
      have c57b0 : decide (2 ≤ (t376.length : Int)) = false := decide_eq_false c57
      have c57b1 : decide (2 ≤ t376.length) = false := decide_eq_false (by omega)
      clear c57
      obtain rfl := Option.some.inj H
      have hcz59_0 := bc0 BK375.out
      have hcz59_1 := bc1 BK375.out
      have p388 : 0 ≤ (a1 : Int) := od
      have q388 : a1 < (l0_0.length : Int) := od
      obtain ⟨ad388, A388_4, c388_4, e388, hx388_0, hx388_1, hx388_2, hx388_3, hx388_4, hl388_4, hi388_4⟩ := at_T37 HR0_0.out a1 p388 q388
      cases e388
      replace hx388_0 := cb HB.out hx388_0
      replace hx388_1 := cb HB.out hx388_1
      replace hx388_2 := cb HB.out hx388_2
      replace hx388_3 := cb HB.out hx388_3
      replace hx388_4 := cb HB.out hx388_4
      have HR388_4 := zm hi388_4
      have HC388_4 := zm hl388_4
      clear hi388_4 hl388_4
      replace p388 := eq_true p388
      replace q388 := eq_true q388
      go_wp2
      repeat (go_quiet (fail); try go_wp2)
      go_ret
      exact ⟨xe, bx HB.out⟩
     rw [if_neg c54] at H
     have c54b0 := beq_eq_false_iff_ne.mpr c54
     have c54b1 := bne_iff_ne.mpr c54
     by_cases c60 : (t376.length : Int) ≥ 2
     ·rw [if_pos c60] at H
      have c60b0 : decide (2 ≤ (t376.length : Int)) = true := decide_eq_true c60
      have c60b1 : decide (2 ≤ t376.length) = true := decide_eq_true (by omega)
      clear c60
      obtain rfl := Option.some.inj H
      have hcz61_0 := bc0 BK375.out
      have hcz61_1 := bc1 BK375.out
      have p388 : 0 ≤ (a1 : Int) := od
      have q388 : a1 < (l0_0.length : Int) := od
      obtain ⟨ad388, A388_4, c388_4, e388, hx388_0, hx388_1, hx388_2, hx388_3, hx388_4, hl388_4, hi388_4⟩ := at_T37 HR0_0.out a1 p388 q388
      cases e388
      replace hx388_0 := cb HB.out hx388_0
      replace hx388_1 := cb HB.out hx388_1
      replace hx388_2 := cb HB.out hx388_2
      replace hx388_3 := cb HB.out hx388_3
      replace hx388_4 := cb HB.out hx388_4
      have HR388_4 := zm hi388_4
      have HC388_4 := zm hl388_4
      clear hi388_4 hl388_4
      replace p388 := eq_true p388
      replace q388 := eq_true q388
      go_wp2
      repeat (go_quiet (fail); try go_wp2)
      go_ret
      exact ⟨xe, bx HB.out⟩
     rw [if_neg c60] at H
     have c60b0 : decide (2 ≤ (t376.length : Int)) = false := decide_eq_false c60
     have c60b1 : decide (2 ≤ t376.length) = false := decide_eq_false (by omega)
     clear c60
     obtain rfl := Option.some.inj H
     have hcz62_0 := bc0 BK375.out
     have hcz62_1 := bc1 BK375.out
     have p388 : 0 ≤ (a1 : Int) := od
     have q388 : a1 < (l0_0.length : Int) := od
     obtain ⟨ad388, A388_4, c388_4, e388, hx388_0, hx388_1, hx388_2, hx388_3, hx388_4, hl388_4, hi388_4⟩ := at_T37 HR0_0.out a1 p388 q388
     cases e388
     replace hx388_0 := cb HB.out hx388_0
     replace hx388_1 := cb HB.out hx388_1
     replace hx388_2 := cb HB.out hx388_2
     replace hx388_3 := cb HB.out hx388_3
     replace hx388_4 := cb HB.out hx388_4
     have HR388_4 := zm hi388_4
     have HC388_4 := zm hl388_4
     clear hi388_4 hl388_4
     replace p388 := eq_true p388
     replace q388 := eq_true q388
     go_wp2
     repeat (go_quiet (fail); try go_wp2)
     go_ret
     exact ⟨xe, bx HB.out⟩
    rw [if_neg c53] at H
    have c53b0 := beq_eq_false_iff_ne.mpr c53
    have c53b1 := bne_iff_ne.mpr c53
    by_cases c63 : ((rd_T37 l0_0 a1).f0) = 7
    ·rw [if_pos c63] at H
     have c63b0 := beq_iff_eq.mpr c63
     have c63b1 := bne_eq_false_iff_eq.mpr c63
     clear c63
     by_cases c64 : (t376.length : Int) = 1
     ·rw [if_pos c64] at H
      have c64b0 := beq_iff_eq.mpr c64
      have c64b1 := bne_eq_false_iff_eq.mpr c64
      clear c64
      by_cases c65 : (t379.length : Int) ≥ 2
      ·rw [if_pos c65] at H
       have c65b0 : decide (2 ≤ (t379.length : Int)) = true := decide_eq_true c65
       have c65b1 : decide (2 ≤ t379.length) = true := decide_eq_true (by omega)
       clear c65
       obtain rfl := Option.some.inj H
       have hcz66_0 := bc0 BK375.out
       have hcz66_1 := bc1 BK375.out
       have p388 : 0 ≤ (a1 : Int) := od
       have q388 : a1 < (l0_0.length : Int) := od
       obtain ⟨ad388, A388_4, c388_4, e388, hx388_0, hx388_1, hx388_2, hx388_3, hx388_4, hl388_4, hi388_4⟩ := at_T37 HR0_0.out a1 p388 q388
       cases e388
       replace hx388_0 := cb HB.out hx388_0
       replace hx388_1 := cb HB.out hx388_1
       replace hx388_2 := cb HB.out hx388_2
       replace hx388_3 := cb HB.out hx388_3
       replace hx388_4 := cb HB.out hx388_4
       have HR388_4 := zm hi388_4
       have HC388_4 := zm hl388_4
       clear hi388_4 hl388_4
       replace p388 := eq_true p388
       replace q388 := eq_true q388
       go_wp2
       repeat (go_quiet (fail); try go_wp2)
       go_ret
       exact ⟨xe, bx HB.out⟩
      rw [if_neg c65] at H
      have c65b0 : decide (2 ≤ (t379.length : Int)) = false := decide_eq_false c65
      have c65b1 : decide (2 ≤ t379.length) = false := decide_eq_false (by omega)
      clear c65
      obtain rfl := Option.some.inj H
      have hcz67_0 := bc0 BK375.out
      have hcz67_1 := bc1 BK375.out
      have p388 : 0 ≤ (a1 : Int) := od
      have q388 : a1 < (l0_0.length : Int) := od
      obtain ⟨ad388, A388_4, c388_4, e388, hx388_0, hx388_1, hx388_2, hx388_3, hx388_4, hl388_4, hi388_4⟩ := at_T37 HR0_0.out a1 p388 q388
      cases e388
      replace hx388_0 := cb HB.out hx388_0
      replace hx388_1 := cb HB.out hx388_1
      replace hx388_2 := cb HB.out hx388_2
      replace hx388_3 := cb HB.out hx388_3
      replace hx388_4 := cb HB.out hx388_4
      have HR388_4 := zm hi388_4
      have HC388_4 := zm hl388_4
      clear hi388_4 hl388_4
      replace p388 := eq_true p388
      replace q388 := eq_true q388
      go_wp2
      repeat (go_quiet (fail); try go_wp2)
      go_ret
      exact ⟨xe, bx HB.out⟩
     rw [if_neg c64] at H
     have c64b0 := beq_eq_false_iff_ne.mpr c64
     have c64b1 := bne_iff_ne.mpr c64
     obtain rfl := Option.some.inj H
     have hcz68_0 := bc0 BK375.out
     have hcz68_1 := bc1 BK375.out
     have p388 : 0 ≤ (a1 : Int) := od
     have q388 : a1 < (l0_0.length : Int) := od
     obtain ⟨ad388, A388_4, c388_4, e388, hx388_0, hx388_1, hx388_2, hx388_3, hx388_4, hl388_4, hi388_4⟩ := at_T37 HR0_0.out a1 p388 q388
     cases e388
     replace hx388_0 := cb HB.out hx388_0
     replace hx388_1 := cb HB.out hx388_1
     replace hx388_2 := cb HB.out hx388_2
     replace hx388_3 := cb HB.out hx388_3
     replace hx388_4 := cb HB.out hx388_4
     have HR388_4 := zm hi388_4
     have HC388_4 := zm hl388_4
     clear hi388_4 hl388_4
     replace p388 := eq_true p388
     replace q388 := eq_true q388
     go_wp2
     repeat (go_quiet (fail); try go_wp2)
     go_ret
     exact ⟨xe, bx HB.out⟩
    rw [if_neg c63] at H
    have c63b0 := beq_eq_false_iff_ne.mpr c63
    have c63b1 := bne_iff_ne.mpr c63
    by_cases c69 : (t376.length : Int) = 1
    ·rw [if_pos c69] at H
     have c69b0 := beq_iff_eq.mpr c69
     have c69b1 := bne_eq_false_iff_eq.mpr c69
     clear c69
     obtain rfl := Option.some.inj H
     have hcz70_0 := bc0 BK375.out
     have hcz70_1 := bc1 BK375.out
     have p388 : 0 ≤ (a1 : Int) := od
     have q388 : a1 < (l0_0.length : Int) := od
     obtain ⟨ad388, A388_4, c388_4, e388, hx388_0, hx388_1, hx388_2, hx388_3, hx388_4, hl388_4, hi388_4⟩ := at_T37 HR0_0.out a1 p388 q388
     cases e388
     replace hx388_0 := cb HB.out hx388_0
     replace hx388_1 := cb HB.out hx388_1
     replace hx388_2 := cb HB.out hx388_2
     replace hx388_3 := cb HB.out hx388_3
     replace hx388_4 := cb HB.out hx388_4
     have HR388_4 := zm hi388_4
     have HC388_4 := zm hl388_4
     clear hi388_4 hl388_4
     replace p388 := eq_true p388
     replace q388 := eq_true q388
     go_wp2
     repeat (go_quiet (fail); try go_wp2)
     go_ret
     exact ⟨xe, bx HB.out⟩
    rw [if_neg c69] at H
    have c69b0 := beq_eq_false_iff_ne.mpr c69
    have c69b1 := bne_iff_ne.mpr c69
    obtain rfl := Option.some.inj H
    have hcz71_0 := bc0 BK375.out
    have hcz71_1 := bc1 BK375.out
    have p388 : 0 ≤ (a1 : Int) := od
    have q388 : a1 < (l0_0.length : Int) := od
    obtain ⟨ad388, A388_4, c388_4, e388, hx388_0, hx388_1, hx388_2, hx388_3, hx388_4, hl388_4, hi388_4⟩ := at_T37 HR0_0.out a1 p388 q388
    cases e388
    replace hx388_0 := cb HB.out hx388_0
    replace hx388_1 := cb HB.out hx388_1
    replace hx388_2 := cb HB.out hx388_2
    replace hx388_3 := cb HB.out hx388_3
    replace hx388_4 := cb HB.out hx388_4
    have HR388_4 := zm hi388_4
    have HC388_4 := zm hl388_4
    clear hi388_4 hl388_4
    replace p388 := eq_true p388
    replace q388 := eq_true q388
    go_wp2
    repeat (go_quiet (fail); try go_wp2)
    go_ret
    exact ⟨xe, bx HB.out⟩
   rw [if_neg c30] at H
   exact absurd H (by simp)
  rw [if_neg c29] at H
  exact absurd H (by simp)

end Go.Proofs.YtdaeiicdpfghlaaDoor.R
