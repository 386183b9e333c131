import Derived.Test.YtdaeiicdpfghlaaDoorSx0
import Derived.Test.YtdaeiicdpfghlaaDoorSx2
import Derived.Test.YtdaeiicdpfghlaaDoorSx3
import Derived.Test.YtdaeiicdpfghlaaDoorSx4
namespace Go.Proofs.YtdaeiicdpfghlaaDoor.R
open Go.RowKit Go.Proofs.YtdaeiicdpfghlaaDoorW.PrintWords Go.Proofs.YtdaeiicdpfghlaaDoorW.PrintLast Go.Proofs.YtdaeiicdpfghlaaDoorW.PrintMore
attribute [local go_sem] max2_int min2_int max_two min_two max_three min_three max_four min_four   -- for this text's walks alone
set_option linter.unusedVariables false
set_option linter.unusedSimpArgs false

mutual
def net_leads.j0 : Nat → Bool → List (S37) → List (S53) → Int → Int → Bool → Int → Int → List (S35) → Option (Bool)
 | 0, _, _, _, _, _, _, _, _, _ => none
 | k + 1, x7, x161000, x161001, x162000, x162001, x162002, x162003, x162004, x162005 => if x7 = true then (some false) else (if 0 ≤ x162000 then (if x162000 < (x161000.length : Int) then (if ((rd_T37 x161000 x162000).f0) = 5 then ((net_Outs.f k x161000 x161001 x162000).bind fun t165 => (net_leads.j1 k (decide ((t165.length : Int) < 2)) x162000 x162001 x162002 x162003 x162004 x162005)) else (net_leads.j1 k true x162000 x162001 x162002 x162003 x162004 x162005)) else (none)) else (none))
def net_leads.j1 : Nat → Bool → Int → Int → Bool → Int → Int → List (S35) → Option (Bool)
 | 0, _, _, _, _, _, _, _ => none
 | k + 1, x27, x162000, x162001, x162002, x162003, x162004, x162005 => if x27 = true then (if x162002 = true then (some false) else ((net_none.f x162003 x162004 x162005).bind fun t168 => (some t168))) else (if x162002 = true then ((net_none.f x162003 x162004 x162005).bind fun t169 => (some t169)) else ((net_of.f k x162003 x162004 x162005 2).bind fun t170 => (some t170)))
end
def net_leads.f (k : Nat) (l0_0 : List (S37)) (l0_1 : List (S53)) (a1_0 : Int) (a1_1 : Int) (a1_2 : Bool) (a1_3 : Int) (a1_4 : Int) (l1_5 : List (S35)) : Option (Bool) := (QF64.f a1_0 (net_leads_1.q l0_0 l0_1)).bind fun t162 => (if t162 = true then ((QF64.f a1_1 (net_leads_1.q l0_0 l0_1)).bind fun t163 => (if t163 = true then (net_leads.j0 k (a1_0 == a1_1) l0_0 l0_1 a1_0 a1_1 a1_2 a1_3 a1_4 l1_5) else (net_leads.j0 k true l0_0 l0_1 a1_0 a1_1 a1_2 a1_3 a1_4 l1_5))) else (net_leads.j0 k true l0_0 l0_1 a1_0 a1_1 a1_2 a1_3 a1_4 l1_5))
set_option maxRecDepth 100000 in
theorem net_leads.mono_l : ∀ k, (∀ y0 y1 y2 y3 y4 y5 y6 y7 y8, LeO (net_leads.j0 k y0 y1 y2 y3 y4 y5 y6 y7 y8) (net_leads.j0 (k + 1) y0 y1 y2 y3 y4 y5 y6 y7 y8)) ∧ (∀ y0 y1 y2 y3 y4 y5 y6, LeO (net_leads.j1 k y0 y1 y2 y3 y4 y5 y6) (net_leads.j1 (k + 1) y0 y1 y2 y3 y4 y5 y6))
 | 0 => ⟨fun _ _ _ _ _ _ _ _ _ r h => by first | (cases h; done) | simp [net_leads.j0] at h, fun _ _ _ _ _ _ _ r h => by first | (cases h; done) | simp [net_leads.j1] at h⟩
 | k + 1 => by
  obtain ⟨ih0, ih1⟩ := net_leads.mono_l k
  refine ⟨?_, ?_⟩
  all_goals intros
  all_goals first | unfold net_leads.j0 | unfold net_leads.j1
  all_goals repeat' first
  | (with_reducible exact ih0 _ _ _ _ _ _ _ _ _)
  | (with_reducible exact ih1 _ _ _ _ _ _ _)
  | (with_reducible exact net_Outs.mono _ _ _ _)
  | (with_reducible exact net_of.mono _ _ _ _ _)
  | (with_reducible exact LeO.refl _)
  | (with_reducible exact LeO.none _)
  | (with_reducible refine LeO.ite ?_ ?_)
  | (with_reducible refine LeO.bind ?_ (fun _ => ?_))
  | refine LeO.ite ?_ ?_
  | refine LeO.bind ?_ (fun _ => ?_)
set_option maxRecDepth 100000 in
theorem net_leads.mono : ∀ a0 a1 a2 a3 a4 a5 a6 a7 k, LeO (net_leads.f k a0 a1 a2 a3 a4 a5 a6 a7) (net_leads.f (k + 1) a0 a1 a2 a3 a4 a5 a6 a7) := by
 intro a0 a1 a2 a3 a4 a5 a6 a7 k
 obtain ⟨ih0, ih1⟩ := net_leads.mono_l k
 unfold net_leads.f
 repeat' first
 | (with_reducible exact ih0 _ _ _ _ _ _ _ _ _)
 | (with_reducible exact ih1 _ _ _ _ _ _ _)
 | (with_reducible exact net_Outs.mono _ _ _ _)
 | (with_reducible exact net_of.mono _ _ _ _ _)
 | (with_reducible exact LeO.refl _)
 | (with_reducible exact LeO.none _)
 | (with_reducible refine LeO.ite ?_ ?_)
 | (with_reducible refine LeO.bind ?_ (fun _ => ?_))
 | refine LeO.ite ?_ ?_
 | refine LeO.bind ?_ (fun _ => ?_)
set_option maxHeartbeats 8000000 in
set_option maxRecDepth 100000 in
theorem net_leads.calls (k : Nat) (A0_0 : Option Addr) (c0_0 : Nat) (l0_0 : List (S37)) (A0_1 : Option Addr) (c0_1 : Nat) (l0_1 : List (S53)) (a1_0 : Int) (a1_1 : Int) (a1_2 : Bool) (a1_3 : Int) (a1_4 : Int) (A1_5 : Option Addr) (c1_5 : Nat) (l1_5 : List (S35)) (r : Bool) (w : World) (hr0_0 : Kd.C k37 w A0_0 l0_0.length l0_0) (hc0_0 : l0_0.length ≤ c0_0) (hr0_1 : Kd.C k53 w A0_1 l0_1.length l0_1) (hc0_1 : l0_1.length ≤ c0_1) (hr1_5 : Kd.C k35 w A1_5 l1_5.length l1_5) (hc1_5 : l1_5.length ≤ c1_5) (h : net_leads.f k l0_0 l0_1 a1_0 a1_1 a1_2 a1_3 a1_4 l1_5 = some r) (hT : Words.Tab w) :
  Calls Tryd.prog 41 #[.agg #[.slice A0_0 l0_0.length c0_0, .slice A0_1 l0_1.length c0_1], .agg #[.int .i64 a1_0, .int .i64 a1_1, .bool a1_2, .int .i64 a1_3, .int .i64 a1_4, .slice A1_5 l1_5.length c1_5]] w fun e w' => e = .returned (.bool r) ∧ Below w.heap.size w w' := by
 have hu25 := Tryd.underlying25
 have hu53 := Tryd.underlying53
 have hu35 := Tryd.underlying35
 have HR0_0 := zm hr0_0
 have HC0_0 := zm hc0_0
 clear hr0_0 hc0_0
 have HR0_1 := zm hr0_1
 have HC0_1 := zm hc0_1
 clear hr0_1 hc0_1
 have HR1_5 := zm hr1_5
 have HC1_5 := zm hc1_5
 clear hr1_5 hc1_5
 have HB := zm (Below.refl w.heap.size w)
 have HT0 := zm hT
 clear hT
 have H : ((QF64.f a1_0 (net_leads_1.q l0_0 l0_1)).bind fun t162 => (if t162 = true then ((QF64.f a1_1 (net_leads_1.q l0_0 l0_1)).bind fun t163 => (if t163 = true then (net_leads.j0 k (a1_0 == a1_1) l0_0 l0_1 a1_0 a1_1 a1_2 a1_3 a1_4 l1_5) else (net_leads.j0 k true l0_0 l0_1 a1_0 a1_1 a1_2 a1_3 a1_4 l1_5))) else (net_leads.j0 k true l0_0 l0_1 a1_0 a1_1 a1_2 a1_3 a1_4 l1_5))) = some r := h
 clear h
 have HC3 := zm H
 clear H
 go_enter Tryd.func41, Tryd.ntmps41
 go_upto_region 2 with (first | ((with_reducible refine gate_dst (N := 2) rfl ?_); (try (refine gate_guard (by rfl) ?_; dsimp only)); refine box_event ?hg (N := 2) ?hd (cs := #[.slice A0_0 l0_0.length c0_0, .slice A0_1 l0_1.length c0_1]) (t := 25) ?hr ?_; (case hd => rfl); (case hg => rfl); (case hr => first | (go_simp; done) | (go_simp; rfl)); intro gb160 hg w4 hbox hb; have BK160 := zm (hbox); have GW160 := zm ((by rw [hg]; exact (below_size (bx HB.out)) : w.heap.size ≤ gb160)); have GE160 := zm ((by rw [hg]; exact (below_size (bx HB.out)) : w.heap.size ≤ gb160)); replace HB := zm (below_step (bx HB.out) hb); clear hb hbox hg) | ((with_reducible refine gate_dst (N := 3) rfl ?_); (try (refine gate_guard (by rfl) ?_; dsimp only)); refine box_event ?hg (N := 3) ?hd (cs := #[.int .i64 a1_0, .int .i64 a1_1, .bool a1_2, .int .i64 a1_3, .int .i64 a1_4, .slice A1_5 l1_5.length c1_5]) (t := 53) ?hr ?_; (case hd => rfl); (case hg => rfl); (case hr => first | (go_simp; done) | (go_simp; rfl)); intro gb161 hg w5 hbox hb; have BK161 := zm (hbox); have GW161 := zm ((by rw [hg]; exact (below_size (bx HB.out)) : w.heap.size ≤ gb161)); have GE161 := zm ((by rw [hg]; exact (below_size (bx HB.out)) : w.heap.size ≤ gb161)); replace HB := zm (below_step (bx HB.out) hb); have NB160_161 := zm ((by rw [hg]; exact Nat.ne_of_lt (blk_lt (g := gb160) (o := .cells #[.slice A0_0 l0_0.length c0_0, .slice A0_1 l0_1.length c0_1] 25 (0, 0)) (kx BK160.out)) : gb160 ≠ gb161)); have NB161_160 := zm ((by rw [hg]; exact Nat.ne_of_gt (blk_lt (g := gb160) (o := .cells #[.slice A0_0 l0_0.length c0_0, .slice A0_1 l0_1.length c0_1] 25 (0, 0)) (kx BK160.out)) : gb161 ≠ gb160)); replace BK160 := zm (kB (kx BK160.out) hb); clear hb hbox hg))
 (try simp only [Act.put, sS, sZ, sC])
 go_cut [7] (fun v7 wc => ∃ (kq : Nat) (x7_2 : Bool), v7 = .bool x7_2 ∧ Aside0 (net_leads.j0 kq x7_2 l0_0 l0_1 a1_0 a1_1 a1_2 a1_3 a1_4 l1_5 = some r) ∧ Aside0 (kq ≤ k) ∧ Aside0 (wc.heap[gb160]? = some (.cells #[(.slice A0_0 l0_0.length c0_0), (.slice A0_1 l0_1.length c0_1)] 25 (0, 0))) ∧ Aside0 (wc.heap[gb161]? = some (.cells #[.int .i64 a1_0, .int .i64 a1_1, .bool a1_2, .int .i64 a1_3, .int .i64 a1_4, (.slice A1_5 l1_5.length c1_5)] 53 (0, 0))) ∧ Aside0 (Below w.heap.size w wc))
 case first =>
  have H := HC3.out
  clear HC3
  replace H := Option.bind_eq_some_iff.mp H
  obtain ⟨t162, A60, H⟩ := H
  replace H : (if t162 = true then ((QF64.f a1_1 (net_leads_1.q l0_0 l0_1)).bind fun t163 => (if t163 = true then (net_leads.j0 k (a1_0 == a1_1) l0_0 l0_1 a1_0 a1_1 a1_2 a1_3 a1_4 l1_5) else (net_leads.j0 k true l0_0 l0_1 a1_0 a1_1 a1_2 a1_3 a1_4 l1_5))) else (net_leads.j0 k true l0_0 l0_1 a1_0 a1_1 a1_2 a1_3 a1_4 l1_5)) = some r := H
  have A6 := zm A60
  clear A60
  by_cases c7 : t162 = true
  ·subst c7
   rw [if_pos rfl] at H
   replace H := Option.bind_eq_some_iff.mp H
   obtain ⟨t163, A80, H⟩ := H
   replace H : (if t163 = true then (net_leads.j0 k (a1_0 == a1_1) l0_0 l0_1 a1_0 a1_1 a1_2 a1_3 a1_4 l1_5) else (net_leads.j0 k true l0_0 l0_1 a1_0 a1_1 a1_2 a1_3 a1_4 l1_5)) = some r := H
   have A8 := zm A80
   clear A80
   by_cases c9 : t163 = true
   ·subst c9
    rw [if_pos rfl] at H
    have H' := zm H
    clear H
    have hnb10 := NB161_160.out
    have hnc10 := NB160_161.out
    have hcz11_0 := bc0 BK161.out
    have hcz11_1 := bc1 BK161.out
    have hcz11_2 := bc2 BK161.out
    have hcz11_3 := bc3 BK161.out
    have hcz11_4 := bc4 BK161.out
    have hcz11_5 := bc5 BK161.out
    go_wp2_with (first | (go_at_call 53; refine calls_of_args (args' := #[.int .i64 a1_0] ++ #[.pointer (some ⟨gb160, 0, none⟩)]) ?hargs_ ?_; (case hargs_ => first | rfl | (simp; done)); (with_reducible refine (QF64.calls a1_0 _ _ _ true _ ?side1 ?side2 A6.out).mono ?_); (case side1 => exact fun args_ w_ => enters_ Tryd.func53 (by kernel_rfl) rfl args_ w_); (case side2 => exact net_leads_1.ok (kx BK160.out) (cx (Kd.C_below HR0_0.out HB.out)) (by exact HC0_0.out) (cx (Kd.C_below HR0_1.out HB.out)) (by exact HC0_1.out)); rintro e w12 ⟨rfl, hb⟩; replace BK160 := zm (kB (kx BK160.out) hb); replace BK161 := zm (kB (kx BK161.out) hb); replace HB := zm (below_step (bx HB.out) hb); (try clear hb); have hcz13_0 := bc0 BK161.out; have hcz13_1 := bc1 BK161.out; have hcz13_2 := bc2 BK161.out; have hcz13_3 := bc3 BK161.out; have hcz13_4 := bc4 BK161.out; have hcz13_5 := bc5 BK161.out) | (go_at_call 53; refine calls_of_args (args' := #[.int .i64 a1_1] ++ #[.pointer (some ⟨gb160, 0, none⟩)]) ?hargs_ ?_; (case hargs_ => first | rfl | (simp; done)); (with_reducible refine (QF64.calls a1_1 _ _ _ true _ ?side1 ?side2 A8.out).mono ?_); (case side1 => exact fun args_ w_ => enters_ Tryd.func53 (by kernel_rfl) rfl args_ w_); (case side2 => exact net_leads_1.ok (kx BK160.out) (cx (Kd.C_below HR0_0.out HB.out)) (by exact HC0_0.out) (cx (Kd.C_below HR0_1.out HB.out)) (by exact HC0_1.out)); rintro e w14 ⟨rfl, hb⟩; replace BK160 := zm (kB (kx BK160.out) hb); replace BK161 := zm (kB (kx BK161.out) hb); replace HB := zm (below_step (bx HB.out) hb); (try clear hb); have hcz15_0 := bc0 BK161.out; have hcz15_1 := bc1 BK161.out; have hcz15_2 := bc2 BK161.out; have hcz15_3 := bc3 BK161.out; have hcz15_4 := bc4 BK161.out; have hcz15_5 := bc5 BK161.out))
    go_meet
    case rel => exact ⟨_, ((a1_0 == a1_1)), (by first | rfl | (simp; done) | (simp [*]; done)), H', ⟨by first | omega | exact Nat.le_refl _⟩, ⟨kx BK160.out⟩, ⟨kx BK161.out⟩, ⟨bx HB.out⟩⟩
   replace c9 := Bool.eq_false_iff.mpr c9
   subst c9
   rw [if_neg (show ¬ (false = true) by decide)] at H
   have H' := zm H
   clear H
   have hnb16 := NB161_160.out
   have hnc16 := NB160_161.out
   have hcz17_0 := bc0 BK161.out
   have hcz17_1 := bc1 BK161.out
   have hcz17_2 := bc2 BK161.out
   have hcz17_3 := bc3 BK161.out
   have hcz17_4 := bc4 BK161.out
   have hcz17_5 := bc5 BK161.out
   go_wp2_with (first | (go_at_call 53; refine calls_of_args (args' := #[.int .i64 a1_0] ++ #[.pointer (some ⟨gb160, 0, none⟩)]) ?hargs_ ?_; (case hargs_ => first | rfl | (simp; done)); (with_reducible refine (QF64.calls a1_0 _ _ _ true _ ?side1 ?side2 A6.out).mono ?_); (case side1 => exact fun args_ w_ => enters_ Tryd.func53 (by kernel_rfl) rfl args_ w_); (case side2 => exact net_leads_1.ok (kx BK160.out) (cx (Kd.C_below HR0_0.out HB.out)) (by exact HC0_0.out) (cx (Kd.C_below HR0_1.out HB.out)) (by exact HC0_1.out)); rintro e w18 ⟨rfl, hb⟩; replace BK160 := zm (kB (kx BK160.out) hb); replace BK161 := zm (kB (kx BK161.out) hb); replace HB := zm (below_step (bx HB.out) hb); (try clear hb); have hcz19_0 := bc0 BK161.out; have hcz19_1 := bc1 BK161.out; have hcz19_2 := bc2 BK161.out; have hcz19_3 := bc3 BK161.out; have hcz19_4 := bc4 BK161.out; have hcz19_5 := bc5 BK161.out) | (go_at_call 53; refine calls_of_args (args' := #[.int .i64 a1_1] ++ #[.pointer (some ⟨gb160, 0, none⟩)]) ?hargs_ ?_; (case hargs_ => first | rfl | (simp; done)); (with_reducible refine (QF64.calls a1_1 _ _ _ false _ ?side1 ?side2 A8.out).mono ?_); (case side1 => exact fun args_ w_ => enters_ Tryd.func53 (by kernel_rfl) rfl args_ w_); (case side2 => exact net_leads_1.ok (kx BK160.out) (cx (Kd.C_below HR0_0.out HB.out)) (by exact HC0_0.out) (cx (Kd.C_below HR0_1.out HB.out)) (by exact HC0_1.out)); rintro e w20 ⟨rfl, hb⟩; replace BK160 := zm (kB (kx BK160.out) hb); replace BK161 := zm (kB (kx BK161.out) hb); replace HB := zm (below_step (bx HB.out) hb); (try clear hb)))
   go_meet
   case rel => exact ⟨_, (true), (by first | rfl | (simp; done) | (simp [*]; done)), H', ⟨by first | omega | exact Nat.le_refl _⟩, ⟨kx BK160.out⟩, ⟨kx BK161.out⟩, ⟨bx HB.out⟩⟩
  replace c7 := Bool.eq_false_iff.mpr c7
  subst c7
  rw [if_neg (show ¬ (false = true) by decide)] at H
  have H' := zm H
  clear H
  have hnb21 := NB161_160.out
  have hnc21 := NB160_161.out
  have hcz22_0 := bc0 BK161.out
  have hcz22_1 := bc1 BK161.out
  have hcz22_2 := bc2 BK161.out
  have hcz22_3 := bc3 BK161.out
  have hcz22_4 := bc4 BK161.out
  have hcz22_5 := bc5 BK161.out
  go_wp2_with (first | (go_at_call 53; refine calls_of_args (args' := #[.int .i64 a1_0] ++ #[.pointer (some ⟨gb160, 0, none⟩)]) ?hargs_ ?_; (case hargs_ => first | rfl | (simp; done)); (with_reducible refine (QF64.calls a1_0 _ _ _ false _ ?side1 ?side2 A6.out).mono ?_); (case side1 => exact fun args_ w_ => enters_ Tryd.func53 (by kernel_rfl) rfl args_ w_); (case side2 => exact net_leads_1.ok (kx BK160.out) (cx (Kd.C_below HR0_0.out HB.out)) (by exact HC0_0.out) (cx (Kd.C_below HR0_1.out HB.out)) (by exact HC0_1.out)); rintro e w23 ⟨rfl, hb⟩; replace BK160 := zm (kB (kx BK160.out) hb); replace BK161 := zm (kB (kx BK161.out) hb); replace HB := zm (below_step (bx HB.out) hb); (try clear hb)))
  go_meet
  case rel => exact ⟨_, (true), (by first | rfl | (simp; done) | (simp [*]; done)), H', ⟨by first | omega | exact Nat.le_refl _⟩, ⟨kx BK160.out⟩, ⟨kx BK161.out⟩, ⟨bx HB.out⟩⟩
 clear HC3
 try clear c1
 try clear c2
 try clear p2
 try clear c4
 try clear c5
 try clear c7
 try clear c9
 try clear c10
 try clear c16
 try clear c21
 try clear BK160
 try clear BK161
 obtain ⟨kq, x7_2, rfl, HA, HJ2, BK160, BK161, HB⟩ := hcut
 cases kq with
 | zero => exact absurd HA.out (by first | (intro h_; cases h_; done) | simp [net_leads.j0])
 | succ kj2 =>
  have H := HA.out
  clear HA
  simp only [net_leads.j0] at H
  by_cases c24 : x7_2 = true
  ·subst c24
   rw [if_pos rfl] at H
   obtain rfl := Option.some.inj H
   go_wp2
   go_ret
   exact ⟨xe, bx HB.out⟩
  replace c24 := Bool.eq_false_iff.mpr c24
  subst c24
  rw [if_neg (show ¬ (false = true) by decide)] at H
  have HC25 := zm H
  clear H
  go_upto_region 4 with (fail)
  go_cut [27] (fun v27 wc => ∃ (kq : Nat) (x27_24 : Bool), v27 = .bool x27_24 ∧ Aside0 (net_leads.j1 kq x27_24 a1_0 a1_1 a1_2 a1_3 a1_4 l1_5 = some r) ∧ Aside0 (kq ≤ kj2) ∧ Aside0 (wc.heap[gb160]? = some (.cells #[(.slice A0_0 l0_0.length c0_0), (.slice A0_1 l0_1.length c0_1)] 25 (0, 0))) ∧ Aside0 (wc.heap[gb161]? = some (.cells #[.int .i64 a1_0, .int .i64 a1_1, .bool a1_2, .int .i64 a1_3, .int .i64 a1_4, (.slice A1_5 l1_5.length c1_5)] 53 (0, 0))) ∧ Aside0 (Below w.heap.size w wc))
  case first =>
   have H := HC25.out
   clear HC25
   by_cases c26 : 0 ≤ a1_0
   ·rw [if_pos c26] at H
    have c26b0 := decide_eq_true c26
    clear c26
    (first | rw [c26b0] | (simp only [i64_w, i32_w]; rw [c26b0]) | skip)
    by_cases c27 : a1_0 < (l0_0.length : Int)
    ·rw [if_pos c27] at H
     have c27b0 := decide_eq_true c27
     clear c27
     by_cases c28 : ((rd_T37 l0_0 a1_0).f0) = 5
     ·rw [if_pos c28] at H
      have c28b0 := beq_iff_eq.mpr c28
      have c28b1 := bne_eq_false_iff_eq.mpr c28
      clear c28
      replace H := Option.bind_eq_some_iff.mp H
      obtain ⟨t165, A290, H⟩ := H
      replace H : (net_leads.j1 kj2 (decide ((t165.length : Int) < 2)) a1_0 a1_1 a1_2 a1_3 a1_4 l1_5) = some r := H
      have A29 := zm A290
      clear A290
      have H' := zm H
      clear H
      have hnb30 := NB160_161.out
      have hnc30 := NB161_160.out
      have hcz31_0 := bc0 BK160.out
      have hcz31_1 := bc1 BK160.out
      have hcz32_0 := bc0 BK161.out
      have hcz32_1 := bc1 BK161.out
      have hcz32_2 := bc2 BK161.out
      have hcz32_3 := bc3 BK161.out
      have hcz32_4 := bc4 BK161.out
      have hcz32_5 := bc5 BK161.out
      have p164 : 0 ≤ (a1_0 : Int) := od
      have q164 : a1_0 < (l0_0.length : Int) := od
      obtain ⟨ad164, A164_4, c164_4, e164, hx164_0, hx164_1, hx164_2, hx164_3, hx164_4, hl164_4, hi164_4⟩ := at_T37 HR0_0.out a1_0 p164 q164
      cases e164
      replace hx164_0 := cb HB.out hx164_0
      replace hx164_1 := cb HB.out hx164_1
      replace hx164_2 := cb HB.out hx164_2
      replace hx164_3 := cb HB.out hx164_3
      replace hx164_4 := cb HB.out hx164_4
      have HR164_4 := zm hi164_4
      have HC164_4 := zm hl164_4
      clear hi164_4 hl164_4
      replace p164 := eq_true p164
      replace q164 := eq_true q164
      go_wp2_with (first | (go_at_call 14; (with_reducible refine (net_Outs.calls kj2 _ _ l0_0 _ _ l0_1 a1_0 t165 _ ?side1 HC0_0.out ?side3 HC0_1.out A29.out).mono ?_); (case side1 => exact cx (Kd.C_below HR0_0.out HB.out)); (case side3 => exact cx (Kd.C_below HR0_1.out HB.out)); rintro e w33 ⟨v166, rfl, ho0, hb⟩; have HO167 := zm (Kd.R_lower ho0 (below_size (bx HB.out))); replace BK160 := zm (kB (kx BK160.out) hb); replace BK161 := zm (kB (kx BK161.out) hb); replace HB := zm (below_step (bx HB.out) hb); (try clear hb); (try clear ho0); obtain ⟨Ao34, co34, eo34⟩ := Kd.R_slice HO167.out; subst eo34))
      go_meet
      case rel => exact ⟨_, (decide ((t165.length : Int) < 2)), (by first | rfl | (simp; done) | (simp [*]; done)), H', ⟨by have := HJ2.out; first | omega | exact Nat.le_refl _⟩, ⟨kx BK160.out⟩, ⟨kx BK161.out⟩, ⟨bx HB.out⟩⟩
     rw [if_neg c28] at H
     have c28b0 := beq_eq_false_iff_ne.mpr c28
     have c28b1 := bne_iff_ne.mpr c28
     have H' := zm H
     clear H
     have hnb35 := NB160_161.out
     have hnc35 := NB161_160.out
     have hcz36_0 := bc0 BK160.out
     have hcz36_1 := bc1 BK160.out
     have hcz37_0 := bc0 BK161.out
     have hcz37_1 := bc1 BK161.out
     have hcz37_2 := bc2 BK161.out
     have hcz37_3 := bc3 BK161.out
     have hcz37_4 := bc4 BK161.out
     have hcz37_5 := bc5 BK161.out
     have p164 : 0 ≤ (a1_0 : Int) := od
     have q164 : a1_0 < (l0_0.length : Int) := od
     obtain ⟨ad164, A164_4, c164_4, e164, hx164_0, hx164_1, hx164_2, hx164_3, hx164_4, hl164_4, hi164_4⟩ := at_T37 HR0_0.out a1_0 p164 q164
     cases e164
     replace hx164_0 := cb HB.out hx164_0
     replace hx164_1 := cb HB.out hx164_1
     replace hx164_2 := cb HB.out hx164_2
     replace hx164_3 := cb HB.out hx164_3
     replace hx164_4 := cb HB.out hx164_4
     have HR164_4 := zm hi164_4
     have HC164_4 := zm hl164_4
     clear hi164_4 hl164_4
     replace p164 := eq_true p164
     replace q164 := eq_true q164
     go_wp2
     go_meet
     case rel => exact ⟨_, (true), (by first | rfl | (simp; done) | (simp [*]; done)), H', ⟨by have := HJ2.out; first | omega | exact Nat.le_refl _⟩, ⟨kx BK160.out⟩, ⟨kx BK161.out⟩, ⟨bx HB.out⟩⟩
    rw [if_neg c27] at H
    exact absurd H (by simp)
   rw [if_neg c26] at H
   exact absurd H (by simp)
  clear HC25
  try clear c1
  try clear p1
  try clear q1
  try clear hx1
  try clear c2
  try clear p2
  try clear c3
  try clear c4
  try clear c5
  try clear c7
  try clear c9
  try clear c10
  try clear c16
  try clear p16
  try clear q16
  try clear hx16
  try clear c21
  try clear c24
  try clear c26
  try clear c26b0
  try clear c27
  try clear c27b0
  try clear c28
  try clear c28b0
  try clear c28b1
  try clear c30
  try clear c35
  try clear hx164_0
  try clear hx164_1
  try clear hx164_2
  try clear hx164_3
  try clear hx164_4
  try clear p164
  try clear p2
  try clear q164
  try clear BK160
  try clear BK161
  obtain ⟨kq, x27_24, rfl, HA, HJ24, BK160, BK161, HB⟩ := hcut
  cases kq with
  | zero => exact absurd HA.out (by first | (intro h_; cases h_; done) | simp [net_leads.j1])
  | succ kj24 =>
   have H := HA.out
   clear HA
   simp only [net_leads.j1] at H
   by_cases c38 : x27_24 = true
   ·subst c38
    rw [if_pos rfl] at H
    by_cases c39 : a1_2 = true
    ·subst c39
     rw [if_pos rfl] at H
     obtain rfl := Option.some.inj H
     have hnb40 := NB161_160.out
     have hnc40 := NB160_161.out
     have hcz41_0 := bc0 BK161.out
     have hcz41_1 := bc1 BK161.out
     have hcz41_2 := bc2 BK161.out
     have hcz41_3 := bc3 BK161.out
     have hcz41_4 := bc4 BK161.out
     have hcz41_5 := bc5 BK161.out
     go_wp2
     go_ret
     exact ⟨xe, bx HB.out⟩
    replace c39 := Bool.eq_false_iff.mpr c39
    subst c39
    rw [if_neg (show ¬ (false = true) by decide)] at H
    replace H := Option.bind_eq_some_iff.mp H
    obtain ⟨t168, A420, H⟩ := H
    replace H : (some t168) = some r := H
    have A42 := zm A420
    clear A420
    obtain rfl := Option.some.inj H
    have hnb43 := NB161_160.out
    have hnc43 := NB160_161.out
    have hcz44_0 := bc0 BK161.out
    have hcz44_1 := bc1 BK161.out
    have hcz44_2 := bc2 BK161.out
    have hcz44_3 := bc3 BK161.out
    have hcz44_4 := bc4 BK161.out
    have hcz44_5 := bc5 BK161.out
    go_wp2_with (first | (go_at_call 52; (with_reducible refine (net_none.calls a1_3 a1_4 _ _ l1_5 t168 _ ?side1 HC1_5.out A42.out).mono ?_); (case side1 => exact cx (Kd.C_below HR1_5.out HB.out)); rintro e w45 ⟨rfl, hb⟩; replace BK160 := zm (kB (kx BK160.out) hb); replace BK161 := zm (kB (kx BK161.out) hb); replace HB := zm (below_step (bx HB.out) hb); (try clear hb)))
    go_ret
    exact ⟨xe, bx HB.out⟩
   replace c38 := Bool.eq_false_iff.mpr c38
   subst c38
   rw [if_neg (show ¬ (false = true) by decide)] at H
   by_cases c46 : a1_2 = true
   ·subst c46
    rw [if_pos rfl] at H
    replace H := Option.bind_eq_some_iff.mp H
    obtain ⟨t169, A470, H⟩ := H
    replace H : (some t169) = some r := H
    have A47 := zm A470
    clear A470
    obtain rfl := Option.some.inj H
    have hnb48 := NB161_160.out
    have hnc48 := NB160_161.out
    have hcz49_0 := bc0 BK161.out
    have hcz49_1 := bc1 BK161.out
    have hcz49_2 := bc2 BK161.out
    have hcz49_3 := bc3 BK161.out
    have hcz49_4 := bc4 BK161.out
    have hcz49_5 := bc5 BK161.out
    go_wp2_with (first | ((with_reducible refine gate_callee (f := 52) rfl ?_); refine goesL_ (some 57) rfl rfl Tryd.func52 (by kernel_rfl) rfl #[.agg #[.int .i64 a1_3, .int .i64 a1_4, .slice A1_5 l1_5.length c1_5]] rfl ag ?_; (with_reducible refine (net_none.calls a1_3 a1_4 _ _ l1_5 t169 _ ?side1 HC1_5.out A47.out).mono ?_); (case side1 => exact cx (Kd.C_below HR1_5.out HB.out)); rintro e w50 ⟨rfl, hb⟩; refine ⟨_, rfl, ?_⟩; replace BK160 := zm (kB (kx BK160.out) hb); replace BK161 := zm (kB (kx BK161.out) hb); replace HB := zm (below_step (bx HB.out) hb); (try clear hb)))
    go_ret
    exact ⟨xe, bx HB.out⟩
   replace c46 := Bool.eq_false_iff.mpr c46
   subst c46
   rw [if_neg (show ¬ (false = true) by decide)] at H
   replace H := Option.bind_eq_some_iff.mp H
   obtain ⟨t170, A510, H⟩ := H
   replace H : (some t170) = some r := H
   have A51 := zm A510
   clear A510
   obtain rfl := Option.some.inj H
   have hnb52 := NB161_160.out
   have hnc52 := NB160_161.out
   have hcz53_0 := bc0 BK161.out
   have hcz53_1 := bc1 BK161.out
   have hcz53_2 := bc2 BK161.out
   have hcz53_3 := bc3 BK161.out
   have hcz53_4 := bc4 BK161.out
   have hcz53_5 := bc5 BK161.out
   go_wp2_with (first | ((with_reducible refine gate_callee (f := 51) rfl ?_); refine goesL_ (some 60) rfl rfl Tryd.func51 (by kernel_rfl) rfl #[.agg #[.int .i64 a1_3, .int .i64 a1_4, .slice A1_5 l1_5.length c1_5], .int .i64 2] rfl ag ?_; (with_reducible refine (net_of.calls kj24 a1_3 a1_4 _ _ l1_5 2 t170 _ ?side1 HC1_5.out A51.out ?hT_).mono ?_); (case hT_ => exact Words.tab_below HT0.out (bx HB.out)); (case side1 => exact cx (Kd.C_below HR1_5.out HB.out)); rintro e w54 ⟨rfl, hb⟩; refine ⟨_, rfl, ?_⟩; replace BK160 := zm (kB (kx BK160.out) hb); replace BK161 := zm (kB (kx BK161.out) hb); replace HB := zm (below_step (bx HB.out) hb); (try clear hb)))
   go_ret
   exact ⟨xe, bx HB.out⟩

def net_All_2.q (k : Nat) (l0 : List S37) (l1 : List S53) : Int → Option Bool := fun i =>
 if 0 ≤ i then (if i < (l1.length : Int) then ((net_leads.f k l0 l1 (rd_T53 l1 i).f0 (rd_T53 l1 i).f1 (rd_T53 l1 i).f2 (rd_T53 l1 i).f3.f0 (rd_T53 l1 i).f3.f1 (rd_T53 l1 i).f3.f2).bind fun b => some (!b)) else none) else none
theorem net_All_2.qmono {k : Nat} {l0 : List S37} {l1 : List S53} {i : Int} : LeO (net_All_2.q k l0 l1 i) (net_All_2.q (k + 1) l0 l1 i) := by
 unfold net_All_2.q
 exact LeO.ite (LeO.ite (LeO.bind (net_leads.mono _ _ _ _ _ _ _ _ k) (fun _ => LeO.refl _)) (LeO.none _)) (LeO.none _)
theorem net_All_2.up_net_places {a0 a1 : Int} {k : Nat} {y0 : List S37} {y1 : List S53} : LeO (net_places.f k a0 a1 (net_All_2.q k y0 y1)) (net_places.f (k + 1) a0 a1 (net_All_2.q (k + 1) y0 y1)) := by
 unfold net_places.f
 exact net_places.upq (fun x => net_All_2.qmono) k _ _ _ _
set_option maxHeartbeats 8000000 in
set_option maxRecDepth 100000 in
theorem net_All_2.ok {k g : Nat} {A0 : Option Addr} {c0 : Nat} {l0 : List S37} {A1 : Option Addr} {c1 : Nat} {l1 : List S53} {w : World} (hG0 : w.heap[g]? = some (.cells #[.slice A0 l0.length c0, .slice A1 l1.length c1] 25 (0, 0)))
  (hr0 : Kd.C k37 w A0 l0.length l0) (hc0 : l0.length ≤ c0) (hr1 : Kd.C k53 w A1 l1.length l1) (hc1 : l1.length ≤ c1) (hT : Words.Tab w) : FnOk64 40 #[.pointer (some ⟨g, 0, none⟩)] (net_All_2.q k l0 l1) w := by
 intro W x b hb0 hq
 simp only [net_All_2.q] at hq
 have z0 : W.cell? ⟨g, 0, none⟩ = some (.slice A0 l0.length c0) := (blk_cell (blk_below hG0 hb0) 0).trans rfl
 have z1 : W.cell? ⟨g, 1, none⟩ = some (.slice A1 l1.length c1) := (blk_cell (blk_below hG0 hb0) 1).trans rfl
 have HT := zm (Words.tab_below hT hb0)
 have HR0 := zm (Kd.C_below hr0 hb0)
 have HR1 := zm (Kd.C_below hr1 hb0)
 have HC0 := zm hc0
 have HC1 := zm hc1
 have HB := zm (Below.refl W.heap.size W)
 clear hG0 hb0 hr0 hr1 hc0 hc1 hT
 by_cases h0 : 0 ≤ x
 rotate_left
 ·rw [if_neg h0] at hq; exact absurd hq (by simp)
 rw [if_pos h0] at hq
 by_cases h1 : x < (l1.length : Int)
 rotate_left
 ·rw [if_neg h1] at hq; exact absurd hq (by simp)
 rw [if_pos h1] at hq
 obtain ⟨b2, hq2, h2⟩ := Option.bind_eq_some_iff.mp hq
 obtain rfl := Option.some.inj h2
 clear h2 hq
 have H := zm hq2
 clear hq2
 obtain ⟨ad0, A5, c5, e0, hx0, hx1, hx2, hx3, hx4, hx5, hl5, hg5⟩ := at_T53 HR1.out x h0 h1
 cases e0
 have HL := zm hl5
 have HG := zm hg5
 clear hl5 hg5
 have p0 := eq_true h0
 have q0 := eq_true h1
 clear h0 h1
 have hu := Tryd.underlying53
 have hu2 := Tryd.underlying25
 show Calls Tryd.prog 40 #[.int .i64 x, .pointer (some ⟨g, 0, none⟩)] W _
 go_enter Tryd.func40, Tryd.ntmps40
 go_wp2
 go_region_held3 (fun w' => w'.cell? ⟨g, 0, none⟩ = some (.slice A0 l0.length c0) ∧ w'.cell? ⟨g, 1, none⟩ = some (.slice (some ad0) l1.length c1) ∧ w'.cell? (ad0.add (x.toNat * 6)) = some (.int .i64 (rd_T53 l1 x).f0) ∧ w'.cell? ⟨(ad0.add (x.toNat * 6)).block, (ad0.add (x.toNat * 6)).off + 1, none⟩ = some (.int .i64 (rd_T53 l1 x).f1) ∧ w'.cell? ⟨(ad0.add (x.toNat * 6)).block, (ad0.add (x.toNat * 6)).off + 2, none⟩ = some (.bool (rd_T53 l1 x).f2) ∧ w'.cell? ⟨(ad0.add (x.toNat * 6)).block, (ad0.add (x.toNat * 6)).off + 3, none⟩ = some (.int .i64 (rd_T53 l1 x).f3.f0) ∧ w'.cell? ⟨(ad0.add (x.toNat * 6)).block, (ad0.add (x.toNat * 6)).off + 4, none⟩ = some (.int .i64 (rd_T53 l1 x).f3.f1) ∧ w'.cell? ⟨(ad0.add (x.toNat * 6)).block, (ad0.add (x.toNat * 6)).off + 5, none⟩ = some (.slice A5 (rd_T53 l1 x).f3.f2.length c5))
  (first | exact ⟨z0, z1, hx0, hx1, hx2, hx3, hx4, hx5⟩)
  (first | (go_at_call 41; refine (net_leads.calls k A0 c0 l0 (some ad0) c1 l1 _ _ _ _ _ A5 c5 _ b2 _ (Kd.C_drew HR0.out) HC0.out (Kd.C_drew HR1.out) HC1.out (Kd.C_drew HG.out) HL.out H.out (Words.tab_below HT.out (below_drew1 (Below.refl _ _)))).mono ?_; rintro e w3 ⟨rfl, hb⟩; replace HB := zm (below_step (below_drew1 HB.out) hb); replace z0 := (hb.cell (World.block_lt_of_cell? W _ z0)).trans z0; replace z1 := (hb.cell (World.block_lt_of_cell? W _ z1)).trans z1; replace hx0 := (hb.cell (World.block_lt_of_cell? W _ hx0)).trans hx0; replace hx1 := (hb.cell (World.block_lt_of_cell? W _ hx1)).trans hx1; replace hx2 := (hb.cell (World.block_lt_of_cell? W _ hx2)).trans hx2; replace hx3 := (hb.cell (World.block_lt_of_cell? W _ hx3)).trans hx3; replace hx4 := (hb.cell (World.block_lt_of_cell? W _ hx4)).trans hx4; replace hx5 := (hb.cell (World.block_lt_of_cell? W _ hx5)).trans hx5; clear hb))
 all_goals go_wp2
 all_goals go_ret
 all_goals exact ⟨by first | rfl | (simp; done) | (simp [*]; done), by repeat (first | exact HB.out | apply bA | apply bN | apply bD)⟩

def net_Ins_1.q (i : Int) : S53 → Option Bool := fun x => some (x.f1 == i)
set_option maxHeartbeats 8000000 in
set_option maxRecDepth 100000 in
theorem net_Ins_1.ok {g : Nat} {i : Int} {w : World} (hG0 : w.heap[g]? = some (.cells #[.int .i64 i] 3 (0, 0))) : FnOk61 32 #[.pointer (some ⟨g, 0, none⟩)] (net_Ins_1.q i) w := by
 intro W x cs b hb0 hk hq
 simp only [net_Ins_1.q, Option.some.injEq] at hq
 subst hq
 have hG := blk_below hG0 hb0
 clear hG0 hb0
 obtain ⟨A5, c5, rfl, hl5, hg5⟩ := k53_open hk
 clear hk
 have hu := Tryd.underlying53
 show Calls Tryd.prog 32 #[.agg #[.int .i64 x.f0, .int .i64 x.f1, .bool x.f2, .int .i64 x.f3.f0, .int .i64 x.f3.f1, .slice A5 x.f3.f2.length c5], .pointer (some ⟨g, 0, none⟩)] W _
 go_enter Tryd.func32, Tryd.ntmps32
 go_wp2_with (first | ((with_reducible refine gate_dst (N := 2) rfl ?_); refine box_event ?hg (N := 2) ?hd (cs := #[.int .i64 x.f0, .int .i64 x.f1, .bool x.f2, .int .i64 x.f3.f0, .int .i64 x.f3.f1, .slice A5 x.f3.f2.length c5]) (t := 53) ?hr ?_; (case hd => rfl); (case hg => rfl); (case hr => first | (go_simp; done) | (go_simp; rfl)); intro gb hg w2 hbox hb; have z0 : w2.cell? ⟨g, 0, none⟩ = some (.int .i64 i) := (blk_cell (blk_below hG hb) 0).trans rfl; have y0 : w2.cell? ⟨gb, 0, none⟩ = some (.int .i64 x.f0) := bc0 hbox; have y1 : w2.cell? ⟨gb, 1, none⟩ = some (.int .i64 x.f1) := bc1 hbox; have y2 : w2.cell? ⟨gb, 2, none⟩ = some (.bool x.f2) := bc2 hbox; have y3 : w2.cell? ⟨gb, 3, none⟩ = some (.int .i64 x.f3.f0) := bc3 hbox; have y4 : w2.cell? ⟨gb, 4, none⟩ = some (.int .i64 x.f3.f1) := bc4 hbox; have y5 : w2.cell? ⟨gb, 5, none⟩ = some (.slice A5 x.f3.f2.length c5) := bc5 hbox; have HB := zm hb; clear hb hbox hg))
 all_goals go_ret
 all_goals exact ⟨by first | rfl | (simp; done) | (simp [*]; done), by repeat (first | exact HB.out | apply bA | apply bN | apply bD)⟩

def net_Ins.f (k : Nat) (l0_0 : List (S37)) (l0_1 : List (S53)) (a1 : Int) : Option (List Int) := (net_flows.f k l0_0 l0_1 (net_Ins_1.q a1)).bind fun t173 => (some t173)
set_option maxRecDepth 100000 in
theorem net_Ins.mono : ∀ a0 a1 a2 k, LeO (net_Ins.f k a0 a1 a2) (net_Ins.f (k + 1) a0 a1 a2) := by
 intro a0 a1 a2 k
 unfold net_Ins.f
 repeat' first
 | (with_reducible exact net_flows.mono _ _ _ _)
 | (with_reducible exact LeO.refl _)
 | (with_reducible exact LeO.none _)
 | (with_reducible refine LeO.ite ?_ ?_)
 | (with_reducible refine LeO.bind ?_ (fun _ => ?_))
 | refine LeO.ite ?_ ?_
 | refine LeO.bind ?_ (fun _ => ?_)
set_option maxHeartbeats 8000000 in
set_option maxRecDepth 100000 in
theorem net_Ins.calls (k : Nat) (A0_0 : Option Addr) (c0_0 : Nat) (l0_0 : List (S37)) (A0_1 : Option Addr) (c0_1 : Nat) (l0_1 : List (S53)) (a1 : Int) (r : List Int) (w : World) (hr0_0 : Kd.C k37 w A0_0 l0_0.length l0_0) (hc0_0 : l0_0.length ≤ c0_0) (hr0_1 : Kd.C k53 w A0_1 l0_1.length l0_1) (hc0_1 : l0_1.length ≤ c0_1) (h : net_Ins.f k l0_0 l0_1 a1 = some r) :
  Calls Tryd.prog 13 #[.agg #[.slice A0_0 l0_0.length c0_0, .slice A0_1 l0_1.length c0_1], .int .i64 a1] w fun e w' => ∃ v0_ : Value, e = .returned (v0_) ∧ Kd.R (Kd.int .i64) 3 w' w.heap.size (fun _ => True) v0_ r ∧ Below w.heap.size w w' := by
 have hu25 := Tryd.underlying25
 have HR0_0 := zm hr0_0
 have HC0_0 := zm hc0_0
 clear hr0_0 hc0_0
 have HR0_1 := zm hr0_1
 have HC0_1 := zm hc0_1
 clear hr0_1 hc0_1
 have HB := zm (Below.refl w.heap.size w)
 have H : ((net_flows.f k l0_0 l0_1 (net_Ins_1.q a1)).bind fun t173 => (some t173)) = some r := h
 clear h
 replace H := Option.bind_eq_some_iff.mp H
 obtain ⟨t173, A30, H⟩ := H
 replace H : (some t173) = some r := H
 have A3 := zm A30
 clear A30
 obtain rfl := Option.some.inj H
 go_enter Tryd.func13, Tryd.ntmps13
 go_wp2_with (first | ((with_reducible refine gate_dst (N := 2) rfl ?_); refine box_event ?hg (N := 2) ?hd (cs := #[.slice A0_0 l0_0.length c0_0, .slice A0_1 l0_1.length c0_1]) (t := 25) ?hr ?_; (case hd => rfl); (case hg => rfl); (case hr => first | (go_simp; done) | (go_simp; rfl)); intro gb171 hg w4 hbox hb; have BK171 := zm (hbox); have GW171 := zm ((by rw [hg]; exact (below_size (bx HB.out)) : w.heap.size ≤ gb171)); have GE171 := zm ((by rw [hg]; exact (below_size (bx HB.out)) : w.heap.size ≤ gb171)); replace HB := zm (below_step (bx HB.out) hb); clear hb hbox hg) | ((with_reducible refine gate_dst (N := 3) rfl ?_); refine box_event ?hg (N := 3) ?hd (cs := #[.int .i64 a1]) (t := 3) ?hr ?_; (case hd => rfl); (case hg => rfl); (case hr => first | (go_simp; done) | (go_simp; rfl)); intro gb172 hg w5 hbox hb; have BK172 := zm (hbox); have GW172 := zm ((by rw [hg]; exact (below_size (bx HB.out)) : w.heap.size ≤ gb172)); have GE172 := zm ((by rw [hg]; exact (below_size (bx HB.out)) : w.heap.size ≤ gb172)); replace HB := zm (below_step (bx HB.out) hb); have NB171_172 := zm ((by rw [hg]; exact Nat.ne_of_lt (blk_lt (g := gb171) (o := .cells #[.slice A0_0 l0_0.length c0_0, .slice A0_1 l0_1.length c0_1] 25 (0, 0)) (kx BK171.out)) : gb171 ≠ gb172)); have NB172_171 := zm ((by rw [hg]; exact Nat.ne_of_gt (blk_lt (g := gb171) (o := .cells #[.slice A0_0 l0_0.length c0_0, .slice A0_1 l0_1.length c0_1] 25 (0, 0)) (kx BK171.out)) : gb172 ≠ gb171)); replace BK171 := zm (kB (kx BK171.out) hb); clear hb hbox hg; have hnb6 := NB171_172.out; have hnc6 := NB172_171.out; have hcz7_0 := bc0 BK171.out; have hcz7_1 := bc1 BK171.out) | ((with_reducible refine gate_callee (f := 31) rfl ?_); refine goesL_ (some 7) rfl rfl Tryd.func31 (by kernel_rfl) rfl #[.agg #[.slice A0_0 l0_0.length c0_0, .slice A0_1 l0_1.length c0_1], .func (.func 32) #[] #[.pointer (some ⟨gb172, 0, none⟩)]] rfl ag ?_; (with_reducible refine (net_flows.calls k _ _ l0_0 _ _ l0_1 _ _ _ t173 _ ?side1 HC0_0.out ?side3 HC0_1.out ?side5 ?side6 A3.out).mono ?_); (case side1 => exact cx (Kd.C_below HR0_0.out HB.out)); (case side3 => exact cx (Kd.C_below HR0_1.out HB.out)); (case side5 => exact fun args_ w_ => enters_ Tryd.func32 (by kernel_rfl) rfl args_ w_); (case side6 => exact net_Ins_1.ok (kx BK172.out)); rintro e w8 ⟨v174, rfl, ho0, hb⟩; refine ⟨_, rfl, ?_⟩; have HO175 := zm (Kd.R_lower (Kd.R_newB ho0 (g := gb172) (o := .cells #[.int .i64 a1] 3 (0, 0)) (kx BK172.out)) (below_size (bx HB.out))); replace BK171 := zm (kB (kx BK171.out) hb); replace BK172 := zm (kB (kx BK172.out) hb); replace HB := zm (below_step (bx HB.out) hb); (try clear hb); (try clear ho0)))
 go_ret
 exact ⟨_, xe, rx (Kd.R_mono HO175.out (fun _ hk => trivial)), bx HB.out⟩

end Go.Proofs.YtdaeiicdpfghlaaDoor.R
