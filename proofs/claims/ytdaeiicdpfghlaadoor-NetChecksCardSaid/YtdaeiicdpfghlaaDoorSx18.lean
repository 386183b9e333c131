import Derived.Test.YtdaeiicdpfghlaaDoorSx0
import Derived.Test.YtdaeiicdpfghlaaDoorSx3
import Derived.Test.YtdaeiicdpfghlaaDoorSx5
import Derived.Test.YtdaeiicdpfghlaaDoorSx7
import Derived.Test.YtdaeiicdpfghlaaDoorSx11
import Derived.Test.YtdaeiicdpfghlaaDoorSx16
namespace Go.Proofs.YtdaeiicdpfghlaaDoor.R
open Go.RowKit Go.Proofs.YtdaeiicdpfghlaaDoorW.PrintWords Go.Proofs.YtdaeiicdpfghlaaDoorW.PrintLast Go.Proofs.YtdaeiicdpfghlaaDoorW.PrintMore
attribute [local go_sem] max2_int min2_int max_two min_two max_three min_three max_four min_four   -- for this text's walks alone
set_option linter.unusedVariables false
set_option linter.unusedSimpArgs false

mutual
def treenailref05_two.j0 : Nat → Bool → List (S37) → List (S53) → Int → Int → Bool → Int → Int → List (S35) → Option (Bool)
 | 0, _, _, _, _, _, _, _, _, _ => none
 | k + 1, x35, x363000, x363001, x364000, x364001, x364002, x364003, x364004, x364005 => if x35 = true then (some false) else (if 0 ≤ x364000 then (if x364000 < (x363000.length : Int) then (if ((rd_T37 x363000 x364000).f0) = 5 then ((treenailref05_Outs.f k x363000 x363001 x364000).bind fun t365 => (if (t365.length : Int) ≥ 2 then (treenailref05_two.j1 k (!x364002) x363000 x363001 x364000 x364001 x364002 x364003 x364004 x364005) else (treenailref05_two.j1 k false x363000 x363001 x364000 x364001 x364002 x364003 x364004 x364005))) else (treenailref05_two.j1 k false x363000 x363001 x364000 x364001 x364002 x364003 x364004 x364005)) else (none)) else (none))
def treenailref05_two.j1 : Nat → Bool → List (S37) → List (S53) → Int → Int → Bool → Int → Int → List (S35) → Option (Bool)
 | 0, _, _, _, _, _, _, _, _, _ => none
 | k + 1, x56, x363000, x363001, x364000, x364001, x364002, x364003, x364004, x364005 => if x56 = true then ((treenailref05_of.f k x364003 x364004 x364005 2).bind fun t368 => (some t368)) else (if x364002 = true then (if 0 ≤ x364000 then (if x364000 < (x363000.length : Int) then (if ((rd_T37 x363000 x364000).f0) = 5 then ((treenailref05_Outs.f k x363000 x363001 x364000).bind fun t370 => (if (t370.length : Int) < 2 then (some false) else ((treenailref05_none.f x364003 x364004 x364005).bind fun t373 => (some t373)))) else (some false)) else (none)) else (none)) else ((treenailref05_none.f x364003 x364004 x364005).bind fun t374 => (some t374)))
end
def treenailref05_two.f (k : Nat) (l0_0 : List (S37)) (l0_1 : List (S53)) (a1_0 : Int) (a1_1 : Int) (a1_2 : Bool) (a1_3 : Int) (a1_4 : Int) (l1_5 : List (S35)) : Option (Bool) := if a1_0 < 0 then (treenailref05_two.j0 k true l0_0 l0_1 a1_0 a1_1 a1_2 a1_3 a1_4 l1_5) else (if a1_0 ≥ (l0_0.length : Int) then (treenailref05_two.j0 k true l0_0 l0_1 a1_0 a1_1 a1_2 a1_3 a1_4 l1_5) else (if a1_1 < 0 then (treenailref05_two.j0 k true l0_0 l0_1 a1_0 a1_1 a1_2 a1_3 a1_4 l1_5) else (if a1_1 ≥ (l0_0.length : Int) then (treenailref05_two.j0 k true l0_0 l0_1 a1_0 a1_1 a1_2 a1_3 a1_4 l1_5) else (treenailref05_two.j0 k (a1_0 == a1_1) l0_0 l0_1 a1_0 a1_1 a1_2 a1_3 a1_4 l1_5))))
set_option maxRecDepth 100000 in
theorem treenailref05_two.mono_l : ∀ k, (∀ y0 y1 y2 y3 y4 y5 y6 y7 y8, LeO (treenailref05_two.j0 k y0 y1 y2 y3 y4 y5 y6 y7 y8) (treenailref05_two.j0 (k + 1) y0 y1 y2 y3 y4 y5 y6 y7 y8)) ∧ (∀ y0 y1 y2 y3 y4 y5 y6 y7 y8, LeO (treenailref05_two.j1 k y0 y1 y2 y3 y4 y5 y6 y7 y8) (treenailref05_two.j1 (k + 1) y0 y1 y2 y3 y4 y5 y6 y7 y8))
 | 0 => ⟨fun _ _ _ _ _ _ _ _ _ r h => by first | (cases h; done) | simp [treenailref05_two.j0] at h, fun _ _ _ _ _ _ _ _ _ r h => by first | (cases h; done) | simp [treenailref05_two.j1] at h⟩
 | k + 1 => by
  obtain ⟨ih0, ih1⟩ := treenailref05_two.mono_l k
  refine ⟨?_, ?_⟩
  all_goals intros
  all_goals first | unfold treenailref05_two.j0 | unfold treenailref05_two.j1
  all_goals repeat' first
  | (with_reducible exact ih0 _ _ _ _ _ _ _ _ _)
  | (with_reducible exact ih1 _ _ _ _ _ _ _ _ _)
  | (with_reducible exact treenailref05_Outs.mono _ _ _ _)
  | (with_reducible exact treenailref05_of.mono _ _ _ _ _)
  | (with_reducible exact LeO.refl _)
  | (with_reducible exact LeO.none _)
  | (with_reducible refine LeO.ite ?_ ?_)
  | (with_reducible refine LeO.bind ?_ (fun _ => ?_))
  | refine LeO.ite ?_ ?_
  | refine LeO.bind ?_ (fun _ => ?_)
set_option maxRecDepth 100000 in
theorem treenailref05_two.mono : ∀ a0 a1 a2 a3 a4 a5 a6 a7 k, LeO (treenailref05_two.f k a0 a1 a2 a3 a4 a5 a6 a7) (treenailref05_two.f (k + 1) a0 a1 a2 a3 a4 a5 a6 a7) := by
 intro a0 a1 a2 a3 a4 a5 a6 a7 k
 obtain ⟨ih0, ih1⟩ := treenailref05_two.mono_l k
 unfold treenailref05_two.f
 repeat' first
 | (with_reducible exact ih0 _ _ _ _ _ _ _ _ _)
 | (with_reducible exact ih1 _ _ _ _ _ _ _ _ _)
 | (with_reducible exact treenailref05_Outs.mono _ _ _ _)
 | (with_reducible exact treenailref05_of.mono _ _ _ _ _)
 | (with_reducible exact LeO.refl _)
 | (with_reducible exact LeO.none _)
 | (with_reducible refine LeO.ite ?_ ?_)
 | (with_reducible refine LeO.bind ?_ (fun _ => ?_))
 | refine LeO.ite ?_ ?_
 | refine LeO.bind ?_ (fun _ => ?_)
set_option maxHeartbeats 8000000 in
set_option maxRecDepth 100000 in
theorem treenailref05_two.calls (k : Nat) (A0_0 : Option Addr) (c0_0 : Nat) (l0_0 : List (S37)) (A0_1 : Option Addr) (c0_1 : Nat) (l0_1 : List (S53)) (a1_0 : Int) (a1_1 : Int) (a1_2 : Bool) (a1_3 : Int) (a1_4 : Int) (A1_5 : Option Addr) (c1_5 : Nat) (l1_5 : List (S35)) (r : Bool) (w : World) (hr0_0 : Kd.C k37 w A0_0 l0_0.length l0_0) (hc0_0 : l0_0.length ≤ c0_0) (hr0_1 : Kd.C k53 w A0_1 l0_1.length l0_1) (hc0_1 : l0_1.length ≤ c0_1) (hr1_5 : Kd.C k35 w A1_5 l1_5.length l1_5) (hc1_5 : l1_5.length ≤ c1_5) (h : treenailref05_two.f k l0_0 l0_1 a1_0 a1_1 a1_2 a1_3 a1_4 l1_5 = some r) :
  Calls Tryd.prog 29 #[.agg #[.slice A0_0 l0_0.length c0_0, .slice A0_1 l0_1.length c0_1], .agg #[.int .i64 a1_0, .int .i64 a1_1, .bool a1_2, .int .i64 a1_3, .int .i64 a1_4, .slice A1_5 l1_5.length c1_5]] w fun e w' => e = .returned (.bool r) ∧ Below w.heap.size w w' := by
 have hu25 := Tryd.underlying25
 have hu53 := Tryd.underlying53
 have hu35 := Tryd.underlying35
 have HR0_0 := zm hr0_0
 have HC0_0 := zm hc0_0
 clear hr0_0 hc0_0
 have HR0_1 := zm hr0_1
 have HC0_1 := zm hc0_1
 clear hr0_1 hc0_1
 have HR1_5 := zm hr1_5
 have HC1_5 := zm hc1_5
 clear hr1_5 hc1_5
 have HB := zm (Below.refl w.heap.size w)
 have H : (if a1_0 < 0 then (treenailref05_two.j0 k true l0_0 l0_1 a1_0 a1_1 a1_2 a1_3 a1_4 l1_5) else (if a1_0 ≥ (l0_0.length : Int) then (treenailref05_two.j0 k true l0_0 l0_1 a1_0 a1_1 a1_2 a1_3 a1_4 l1_5) else (if a1_1 < 0 then (treenailref05_two.j0 k true l0_0 l0_1 a1_0 a1_1 a1_2 a1_3 a1_4 l1_5) else (if a1_1 ≥ (l0_0.length : Int) then (treenailref05_two.j0 k true l0_0 l0_1 a1_0 a1_1 a1_2 a1_3 a1_4 l1_5) else (treenailref05_two.j0 k (a1_0 == a1_1) l0_0 l0_1 a1_0 a1_1 a1_2 a1_3 a1_4 l1_5))))) = some r := h
 clear h
 have HC3 := zm H
 clear H
 go_enter Tryd.func29, Tryd.ntmps29
 go_upto_region 2 with (first | ((with_reducible refine gate_dst (N := 2) rfl ?_); (try (refine gate_guard (by rfl) ?_; dsimp only)); refine box_event ?hg (N := 2) ?hd (cs := #[.slice A0_0 l0_0.length c0_0, .slice A0_1 l0_1.length c0_1]) (t := 25) ?hr ?_; (case hd => rfl); (case hg => rfl); (case hr => first | (go_simp; done) | (go_simp; rfl)); intro gb362 hg w4 hbox hb; have BK362 := zm (hbox); have GW362 := zm ((by rw [hg]; exact (below_size (bx HB.out)) : w.heap.size ≤ gb362)); have GE362 := zm ((by rw [hg]; exact (below_size (bx HB.out)) : w.heap.size ≤ gb362)); replace HB := zm (below_step (bx HB.out) hb); clear hb hbox hg) | ((with_reducible refine gate_dst (N := 3) rfl ?_); (try (refine gate_guard (by rfl) ?_; dsimp only)); refine box_event ?hg (N := 3) ?hd (cs := #[.int .i64 a1_0, .int .i64 a1_1, .bool a1_2, .int .i64 a1_3, .int .i64 a1_4, .slice A1_5 l1_5.length c1_5]) (t := 53) ?hr ?_; (case hd => rfl); (case hg => rfl); (case hr => first | (go_simp; done) | (go_simp; rfl)); intro gb363 hg w5 hbox hb; have BK363 := zm (hbox); have GW363 := zm ((by rw [hg]; exact (below_size (bx HB.out)) : w.heap.size ≤ gb363)); have GE363 := zm ((by rw [hg]; exact (below_size (bx HB.out)) : w.heap.size ≤ gb363)); replace HB := zm (below_step (bx HB.out) hb); have NB362_363 := zm ((by rw [hg]; exact Nat.ne_of_lt (blk_lt (g := gb362) (o := .cells #[.slice A0_0 l0_0.length c0_0, .slice A0_1 l0_1.length c0_1] 25 (0, 0)) (kx BK362.out)) : gb362 ≠ gb363)); have NB363_362 := zm ((by rw [hg]; exact Nat.ne_of_gt (blk_lt (g := gb362) (o := .cells #[.slice A0_0 l0_0.length c0_0, .slice A0_1 l0_1.length c0_1] 25 (0, 0)) (kx BK362.out)) : gb363 ≠ gb362)); replace BK362 := zm (kB (kx BK362.out) hb); clear hb hbox hg; have hnb6 := NB362_363.out; have hnc6 := NB363_362.out; have hcz7_0 := bc0 BK362.out; have hcz7_1 := bc1 BK362.out))
 (try simp only [Act.put, sS, sZ, sC])
 go_cut [35] (fun v35 wc => ∃ (kq : Nat) (x35_2 : Bool), v35 = .bool x35_2 ∧ Aside0 (treenailref05_two.j0 kq x35_2 l0_0 l0_1 a1_0 a1_1 a1_2 a1_3 a1_4 l1_5 = some r) ∧ Aside0 (kq ≤ k) ∧ Aside0 (wc.heap[gb362]? = some (.cells #[(.slice A0_0 l0_0.length c0_0), (.slice A0_1 l0_1.length c0_1)] 25 (0, 0))) ∧ Aside0 (wc.heap[gb363]? = some (.cells #[.int .i64 a1_0, .int .i64 a1_1, .bool a1_2, .int .i64 a1_3, .int .i64 a1_4, (.slice A1_5 l1_5.length c1_5)] 53 (0, 0))) ∧ Aside0 (Below w.heap.size w wc))
 case first =>
  have H := HC3.out
  clear HC3
  by_cases c8 : a1_0 < 0
  ·rw [if_pos c8] at H
   have c8b0 := decide_eq_true c8
   clear c8
   (first | rw [c8b0] | (simp only [i64_w, i32_w]; rw [c8b0]) | skip)
   have H' := zm H
   clear H
   have hnb9 := NB363_362.out
   have hnc9 := NB362_363.out
   have hcz10_0 := bc0 BK363.out
   have hcz10_1 := bc1 BK363.out
   have hcz10_2 := bc2 BK363.out
   have hcz10_3 := bc3 BK363.out
   have hcz10_4 := bc4 BK363.out
   have hcz10_5 := bc5 BK363.out
   go_wp2
   go_meet
   case rel => exact ⟨_, (true), (by first | rfl | (simp; done) | (simp [*]; done)), H', ⟨by first | omega | exact Nat.le_refl _⟩, ⟨kx BK362.out⟩, ⟨kx BK363.out⟩, ⟨bx HB.out⟩⟩
  rw [if_neg c8] at H
  have c8b0 := decide_eq_false c8
  clear c8
  (first | rw [c8b0] | (simp only [i64_w, i32_w]; rw [c8b0]) | skip)
  by_cases c11 : a1_0 ≥ (l0_0.length : Int)
  ·rw [if_pos c11] at H
   have c11b0 : decide ((l0_0.length : Int) ≤ a1_0) = true := decide_eq_true c11
   clear c11
   have H' := zm H
   clear H
   have hnb12 := NB363_362.out
   have hnc12 := NB362_363.out
   have hcz13_0 := bc0 BK363.out
   have hcz13_1 := bc1 BK363.out
   have hcz13_2 := bc2 BK363.out
   have hcz13_3 := bc3 BK363.out
   have hcz13_4 := bc4 BK363.out
   have hcz13_5 := bc5 BK363.out
   go_wp2
   go_meet
   case rel => exact ⟨_, (true), (by first | rfl | (simp; done) | (simp [*]; done)), H', ⟨by first | omega | exact Nat.le_refl _⟩, ⟨kx BK362.out⟩, ⟨kx BK363.out⟩, ⟨bx HB.out⟩⟩
  rw [if_neg c11] at H
  have c11b0 : decide ((l0_0.length : Int) ≤ a1_0) = false := decide_eq_false c11
  clear c11
  by_cases c14 : a1_1 < 0
  ·rw [if_pos c14] at H
   have c14b0 := decide_eq_true c14
   clear c14
   have H' := zm H
   clear H
   have hnb15 := NB363_362.out
   have hnc15 := NB362_363.out
   have hcz16_0 := bc0 BK363.out
   have hcz16_1 := bc1 BK363.out
   have hcz16_2 := bc2 BK363.out
   have hcz16_3 := bc3 BK363.out
   have hcz16_4 := bc4 BK363.out
   have hcz16_5 := bc5 BK363.out
   go_wp2
   go_meet
   case rel => exact ⟨_, (true), (by first | rfl | (simp; done) | (simp [*]; done)), H', ⟨by first | omega | exact Nat.le_refl _⟩, ⟨kx BK362.out⟩, ⟨kx BK363.out⟩, ⟨bx HB.out⟩⟩
  rw [if_neg c14] at H
  have c14b0 := decide_eq_false c14
  clear c14
  by_cases c17 : a1_1 ≥ (l0_0.length : Int)
  ·rw [if_pos c17] at H
   have c17b0 : decide ((l0_0.length : Int) ≤ a1_1) = true := decide_eq_true c17
   clear c17
   have H' := zm H
   clear H
   have hnb18 := NB363_362.out
   have hnc18 := NB362_363.out
   have hcz19_0 := bc0 BK363.out
   have hcz19_1 := bc1 BK363.out
   have hcz19_2 := bc2 BK363.out
   have hcz19_3 := bc3 BK363.out
   have hcz19_4 := bc4 BK363.out
   have hcz19_5 := bc5 BK363.out
   go_wp2
   go_meet
   case rel => exact ⟨_, (true), (by first | rfl | (simp; done) | (simp [*]; done)), H', ⟨by first | omega | exact Nat.le_refl _⟩, ⟨kx BK362.out⟩, ⟨kx BK363.out⟩, ⟨bx HB.out⟩⟩
  rw [if_neg c17] at H
  have c17b0 : decide ((l0_0.length : Int) ≤ a1_1) = false := decide_eq_false c17
  clear c17
  have H' := zm H
  clear H
  have hnb20 := NB363_362.out
  have hnc20 := NB362_363.out
  have hcz21_0 := bc0 BK363.out
  have hcz21_1 := bc1 BK363.out
  have hcz21_2 := bc2 BK363.out
  have hcz21_3 := bc3 BK363.out
  have hcz21_4 := bc4 BK363.out
  have hcz21_5 := bc5 BK363.out
  go_wp2
  go_meet
  case rel => exact ⟨_, ((a1_0 == a1_1)), (by first | rfl | (simp; done) | (simp [*]; done)), H', ⟨by first | omega | exact Nat.le_refl _⟩, ⟨kx BK362.out⟩, ⟨kx BK363.out⟩, ⟨bx HB.out⟩⟩
 clear HC3
 try clear c1
 try clear c2
 try clear p2
 try clear c6
 try clear c8
 try clear c8b0
 try clear c9
 try clear c11
 try clear c11b0
 try clear c12
 try clear c14
 try clear c14b0
 try clear c15
 try clear c17
 try clear c17b0
 try clear c18
 try clear c20
 try clear BK362
 try clear BK363
 obtain ⟨kq, x35_2, rfl, HA, HJ2, BK362, BK363, HB⟩ := hcut
 cases kq with
 | zero => exact absurd HA.out (by first | (intro h_; cases h_; done) | simp [treenailref05_two.j0])
 | succ kj2 =>
  have H := HA.out
  clear HA
  simp only [treenailref05_two.j0] at H
  by_cases c22 : x35_2 = true
  ·subst c22
   rw [if_pos rfl] at H
   obtain rfl := Option.some.inj H
   go_wp2
   go_ret
   exact ⟨xe, bx HB.out⟩
  replace c22 := Bool.eq_false_iff.mpr c22
  subst c22
  rw [if_neg (show ¬ (false = true) by decide)] at H
  have HC23 := zm H
  clear H
  go_upto_region 4 with (fail)
  go_cut [56] (fun v56 wc => ∃ (kq : Nat) (x56_22 : Bool), v56 = .bool x56_22 ∧ Aside0 (treenailref05_two.j1 kq x56_22 l0_0 l0_1 a1_0 a1_1 a1_2 a1_3 a1_4 l1_5 = some r) ∧ Aside0 (kq ≤ kj2) ∧ Aside0 (wc.heap[gb362]? = some (.cells #[(.slice A0_0 l0_0.length c0_0), (.slice A0_1 l0_1.length c0_1)] 25 (0, 0))) ∧ Aside0 (wc.heap[gb363]? = some (.cells #[.int .i64 a1_0, .int .i64 a1_1, .bool a1_2, .int .i64 a1_3, .int .i64 a1_4, (.slice A1_5 l1_5.length c1_5)] 53 (0, 0))) ∧ Aside0 (Below w.heap.size w wc))
  case first =>
   have H := HC23.out
   clear HC23
   by_cases c24 : 0 ≤ a1_0
   ·rw [if_pos c24] at H
    have c24b0 := decide_eq_true c24
    clear c24
    (first | rw [c24b0] | (simp only [i64_w, i32_w]; rw [c24b0]) | skip)
    by_cases c25 : a1_0 < (l0_0.length : Int)
    ·rw [if_pos c25] at H
     have c25b0 := decide_eq_true c25
     clear c25
     by_cases c26 : ((rd_T37 l0_0 a1_0).f0) = 5
     ·rw [if_pos c26] at H
      have c26b0 := beq_iff_eq.mpr c26
      have c26b1 := bne_eq_false_iff_eq.mpr c26
      clear c26
      replace H := Option.bind_eq_some_iff.mp H
      obtain ⟨t365, A270, H⟩ := H
      replace H : (if (t365.length : Int) ≥ 2 then (treenailref05_two.j1 kj2 (!a1_2) l0_0 l0_1 a1_0 a1_1 a1_2 a1_3 a1_4 l1_5) else (treenailref05_two.j1 kj2 false l0_0 l0_1 a1_0 a1_1 a1_2 a1_3 a1_4 l1_5)) = some r := H
      have A27 := zm A270
      clear A270
      by_cases c28 : (t365.length : Int) ≥ 2
      ·rw [if_pos c28] at H
       have c28b0 : decide (2 ≤ (t365.length : Int)) = true := decide_eq_true c28
       have c28b1 : decide (2 ≤ t365.length) = true := decide_eq_true (by omega)
       clear c28
       have H' := zm H
       clear H
       have hnb29 := NB362_363.out
       have hnc29 := NB363_362.out
       have hcz30_0 := bc0 BK362.out
       have hcz30_1 := bc1 BK362.out
       have hcz31_0 := bc0 BK363.out
       have hcz31_1 := bc1 BK363.out
       have hcz31_2 := bc2 BK363.out
       have hcz31_3 := bc3 BK363.out
       have hcz31_4 := bc4 BK363.out
       have hcz31_5 := bc5 BK363.out
       have p364 : 0 ≤ (a1_0 : Int) := od
       have q364 : a1_0 < (l0_0.length : Int) := od
       obtain ⟨ad364, A364_4, c364_4, e364, hx364_0, hx364_1, hx364_2, hx364_3, hx364_4, hl364_4, hi364_4⟩ := at_T37 HR0_0.out a1_0 p364 q364
       cases e364
       replace hx364_0 := cb HB.out hx364_0
       replace hx364_1 := cb HB.out hx364_1
       replace hx364_2 := cb HB.out hx364_2
       replace hx364_3 := cb HB.out hx364_3
       replace hx364_4 := cb HB.out hx364_4
       have HR364_4 := zm hi364_4
       have HC364_4 := zm hl364_4
       clear hi364_4 hl364_4
       replace p364 := eq_true p364
       replace q364 := eq_true q364
       go_wp2_with (first | (go_at_call 22; (with_reducible refine (treenailref05_Outs.calls kj2 _ _ l0_0 _ _ l0_1 a1_0 t365 _ ?side1 HC0_0.out ?side3 HC0_1.out A27.out).mono ?_); (case side1 => exact cx (Kd.C_below HR0_0.out HB.out)); (case side3 => exact cx (Kd.C_below HR0_1.out HB.out)); rintro e w32 ⟨v366, rfl, ho0, hb⟩; have HO367 := zm (Kd.R_lower ho0 (below_size (bx HB.out))); replace BK362 := zm (kB (kx BK362.out) hb); replace BK363 := zm (kB (kx BK363.out) hb); replace HB := zm (below_step (bx HB.out) hb); (try clear hb); (try clear ho0); obtain ⟨Ao33, co33, eo33⟩ := Kd.R_slice HO367.out; subst eo33; have hcz34_0 := bc0 BK363.out; have hcz34_1 := bc1 BK363.out; have hcz34_2 := bc2 BK363.out; have hcz34_3 := bc3 BK363.out; have hcz34_4 := bc4 BK363.out; have hcz34_5 := bc5 BK363.out))
       go_meet
       case rel => exact ⟨_, (!a1_2), (by first | rfl | (simp; done) | (simp [*]; done)), H', ⟨by have := HJ2.out; first | omega | exact Nat.le_refl _⟩, ⟨kx BK362.out⟩, ⟨kx BK363.out⟩, ⟨bx HB.out⟩⟩
      rw [if_neg c28] at H
      have c28b0 : decide (2 ≤ (t365.length : Int)) = false := decide_eq_false c28
      have c28b1 : decide (2 ≤ t365.length) = false := decide_eq_false (by omega)
      clear c28
      have H' := zm H
      clear H
      have hnb35 := NB362_363.out
      have hnc35 := NB363_362.out
      have hcz36_0 := bc0 BK362.out
      have hcz36_1 := bc1 BK362.out
      have hcz37_0 := bc0 BK363.out
      have hcz37_1 := bc1 BK363.out
      have hcz37_2 := bc2 BK363.out
      have hcz37_3 := bc3 BK363.out
      have hcz37_4 := bc4 BK363.out
      have hcz37_5 := bc5 BK363.out
      have p364 : 0 ≤ (a1_0 : Int) := od
      have q364 : a1_0 < (l0_0.length : Int) := od
      obtain ⟨ad364, A364_4, c364_4, e364, hx364_0, hx364_1, hx364_2, hx364_3, hx364_4, hl364_4, hi364_4⟩ := at_T37 HR0_0.out a1_0 p364 q364
      cases e364
      replace hx364_0 := cb HB.out hx364_0
      replace hx364_1 := cb HB.out hx364_1
      replace hx364_2 := cb HB.out hx364_2
      replace hx364_3 := cb HB.out hx364_3
      replace hx364_4 := cb HB.out hx364_4
      have HR364_4 := zm hi364_4
      have HC364_4 := zm hl364_4
      clear hi364_4 hl364_4
      replace p364 := eq_true p364
      replace q364 := eq_true q364
      go_wp2_with (first | (go_at_call 22; (with_reducible refine (treenailref05_Outs.calls kj2 _ _ l0_0 _ _ l0_1 a1_0 t365 _ ?side1 HC0_0.out ?side3 HC0_1.out A27.out).mono ?_); (case side1 => exact cx (Kd.C_below HR0_0.out HB.out)); (case side3 => exact cx (Kd.C_below HR0_1.out HB.out)); rintro e w38 ⟨v366, rfl, ho0, hb⟩; have HO367 := zm (Kd.R_lower ho0 (below_size (bx HB.out))); replace BK362 := zm (kB (kx BK362.out) hb); replace BK363 := zm (kB (kx BK363.out) hb); replace HB := zm (below_step (bx HB.out) hb); (try clear hb); (try clear ho0); obtain ⟨Ao39, co39, eo39⟩ := Kd.R_slice HO367.out; subst eo39))
      go_meet
      case rel => exact ⟨_, (false), (by first | rfl | (simp; done) | (simp [*]; done)), H', ⟨by have := HJ2.out; first | omega | exact Nat.le_refl _⟩, ⟨kx BK362.out⟩, ⟨kx BK363.out⟩, ⟨bx HB.out⟩⟩
     rw [if_neg c26] at H
     have c26b0 := beq_eq_false_iff_ne.mpr c26
     have c26b1 := bne_iff_ne.mpr c26
     have H' := zm H
     clear H
     have hnb40 := NB362_363.out
     have hnc40 := NB363_362.out
     have hcz41_0 := bc0 BK362.out
     have hcz41_1 := bc1 BK362.out
     have hcz42_0 := bc0 BK363.out
     have hcz42_1 := bc1 BK363.out
     have hcz42_2 := bc2 BK363.out
     have hcz42_3 := bc3 BK363.out
     have hcz42_4 := bc4 BK363.out
     have hcz42_5 := bc5 BK363.out
     have p364 : 0 ≤ (a1_0 : Int) := od
     have q364 : a1_0 < (l0_0.length : Int) := od
     obtain ⟨ad364, A364_4, c364_4, e364, hx364_0, hx364_1, hx364_2, hx364_3, hx364_4, hl364_4, hi364_4⟩ := at_T37 HR0_0.out a1_0 p364 q364
     cases e364
     replace hx364_0 := cb HB.out hx364_0
     replace hx364_1 := cb HB.out hx364_1
     replace hx364_2 := cb HB.out hx364_2
     replace hx364_3 := cb HB.out hx364_3
     replace hx364_4 := cb HB.out hx364_4
     have HR364_4 := zm hi364_4
     have HC364_4 := zm hl364_4
     clear hi364_4 hl364_4
     replace p364 := eq_true p364
     replace q364 := eq_true q364
     go_wp2
     go_meet
     case rel => exact ⟨_, (false), (by first | rfl | (simp; done) | (simp [*]; done)), H', ⟨by have := HJ2.out; first | omega | exact Nat.le_refl _⟩, ⟨kx BK362.out⟩, ⟨kx BK363.out⟩, ⟨bx HB.out⟩⟩
    rw [if_neg c25] at H
    exact absurd H (by simp)
   rw [if_neg c24] at H
   exact absurd H (by simp)
  clear HC23
  try clear c1
  try clear c2
  try clear p2
  try clear c3
  try clear p3
  try clear q3
  try clear hx3
  try clear c4
  try clear c6
  try clear c8
  try clear c8b0
  try clear c9
  try clear c11
  try clear c11b0
  try clear c12
  try clear c14
  try clear c14b0
  try clear c15
  try clear c17
  try clear c17b0
  try clear c18
  try clear c20
  try clear c22
  try clear c24
  try clear c24b0
  try clear c25
  try clear c25b0
  try clear c26
  try clear c26b0
  try clear c26b1
  try clear c28
  try clear c28b0
  try clear c28b1
  try clear c29
  try clear c35
  try clear c36
  try clear p36
  try clear q36
  try clear hx36
  try clear c40
  try clear hx364_0
  try clear hx364_1
  try clear hx364_2
  try clear hx364_3
  try clear hx364_4
  try clear p2
  try clear p364
  try clear q364
  try clear BK362
  try clear BK363
  obtain ⟨kq, x56_22, rfl, HA, HJ22, BK362, BK363, HB⟩ := hcut
  cases kq with
  | zero => exact absurd HA.out (by first | (intro h_; cases h_; done) | simp [treenailref05_two.j1])
  | succ kj22 =>
   have H := HA.out
   clear HA
   simp only [treenailref05_two.j1] at H
   by_cases c43 : x56_22 = true
   ·subst c43
    rw [if_pos rfl] at H
    replace H := Option.bind_eq_some_iff.mp H
    obtain ⟨t368, A440, H⟩ := H
    replace H : (some t368) = some r := H
    have A44 := zm A440
    clear A440
    obtain rfl := Option.some.inj H
    have hnb45 := NB363_362.out
    have hnc45 := NB362_363.out
    have hcz46_0 := bc0 BK363.out
    have hcz46_1 := bc1 BK363.out
    have hcz46_2 := bc2 BK363.out
    have hcz46_3 := bc3 BK363.out
    have hcz46_4 := bc4 BK363.out
    have hcz46_5 := bc5 BK363.out
    go_wp2_with (first | ((with_reducible refine gate_callee (f := 49) rfl ?_); refine goesL_ (some 59) rfl rfl Tryd.func49 (by kernel_rfl) rfl #[.agg #[.int .i64 a1_3, .int .i64 a1_4, .slice A1_5 l1_5.length c1_5], .int .i64 2] rfl ag ?_; (with_reducible refine (treenailref05_of.calls kj22 a1_3 a1_4 _ _ l1_5 2 t368 _ ?side1 HC1_5.out A44.out).mono ?_); (case side1 => exact cx (Kd.C_below HR1_5.out HB.out)); rintro e w47 ⟨rfl, hb⟩; refine ⟨_, rfl, ?_⟩; replace BK362 := zm (kB (kx BK362.out) hb); replace BK363 := zm (kB (kx BK363.out) hb); replace HB := zm (below_step (bx HB.out) hb); (try clear hb)))
    go_ret
    exact ⟨xe, bx HB.out⟩
   replace c43 := Bool.eq_false_iff.mpr c43
   subst c43
   rw [if_neg (show ¬ (false = true) by decide)] at H
   by_cases c48 : a1_2 = true
   ·subst c48
    rw [if_pos rfl] at H
    by_cases c49 : 0 ≤ a1_0
    ·rw [if_pos c49] at H
     have c49b0 := decide_eq_true c49
     clear c49
     by_cases c50 : a1_0 < (l0_0.length : Int)
     ·rw [if_pos c50] at H
      have c50b0 := decide_eq_true c50
      clear c50
      by_cases c51 : ((rd_T37 l0_0 a1_0).f0) = 5
      ·rw [if_pos c51] at H
       have c51b0 := beq_iff_eq.mpr c51
       have c51b1 := bne_eq_false_iff_eq.mpr c51
       clear c51
       replace H := Option.bind_eq_some_iff.mp H
       obtain ⟨t370, A520, H⟩ := H
       replace H : (if (t370.length : Int) < 2 then (some false) else ((treenailref05_none.f a1_3 a1_4 l1_5).bind fun t373 => (some t373))) = some r := H
       have A52 := zm A520
       clear A520
       have HC53 := zm H
       clear H
       have hnb54 := NB363_362.out
       have hnc54 := NB362_363.out
       have hcz55_0 := bc0 BK363.out
       have hcz55_1 := bc1 BK363.out
       have hcz55_2 := bc2 BK363.out
       have hcz55_3 := bc3 BK363.out
       have hcz55_4 := bc4 BK363.out
       have hcz55_5 := bc5 BK363.out
       have hcz56_0 := bc0 BK362.out
       have hcz56_1 := bc1 BK362.out
       have p369 : 0 ≤ (a1_0 : Int) := od
       have q369 : a1_0 < (l0_0.length : Int) := od
       obtain ⟨ad369, A369_4, c369_4, e369, hx369_0, hx369_1, hx369_2, hx369_3, hx369_4, hl369_4, hi369_4⟩ := at_T37 HR0_0.out a1_0 p369 q369
       cases e369
       replace hx369_0 := cb HB.out hx369_0
       replace hx369_1 := cb HB.out hx369_1
       replace hx369_2 := cb HB.out hx369_2
       replace hx369_3 := cb HB.out hx369_3
       replace hx369_4 := cb HB.out hx369_4
       have HR369_4 := zm hi369_4
       have HC369_4 := zm hl369_4
       clear hi369_4 hl369_4
       replace p369 := eq_true p369
       replace q369 := eq_true q369
       go_upto_if 79 with (first | (go_at_call 22; (with_reducible refine (treenailref05_Outs.calls kj22 _ _ l0_0 _ _ l0_1 a1_0 t370 _ ?side1 HC0_0.out ?side3 HC0_1.out A52.out).mono ?_); (case side1 => exact cx (Kd.C_below HR0_0.out HB.out)); (case side3 => exact cx (Kd.C_below HR0_1.out HB.out)); rintro e w57 ⟨v371, rfl, ho0, hb⟩; have HO372 := zm (Kd.R_lower ho0 (below_size (bx HB.out))); replace BK362 := zm (kB (kx BK362.out) hb); replace BK363 := zm (kB (kx BK363.out) hb); replace HB := zm (below_step (bx HB.out) hb); (try clear hb); (try clear ho0); obtain ⟨Ao58, co58, eo58⟩ := Kd.R_slice HO372.out; subst eo58))
       have H := HC53.out
       clear HC53
       by_cases c59 : (t370.length : Int) < 2
       ·rw [if_pos c59] at H
        have c59b0 := decide_eq_true c59
        have c59b1 : decide (t370.length < 2) = true := decide_eq_true (by omega)
        clear c59
        (first | rw [c59b0] | (simp only [i64_w, i32_w]; rw [c59b0]) | rw [c59b1] | skip)
        obtain rfl := Option.some.inj H
        go_wp2
        go_ret
        exact ⟨xe, bx HB.out⟩
       rw [if_neg c59] at H
       have c59b0 := decide_eq_false c59
       have c59b1 : decide (t370.length < 2) = false := decide_eq_false (by omega)
       clear c59
       (first | rw [c59b0] | (simp only [i64_w, i32_w]; rw [c59b0]) | rw [c59b1] | skip)
       replace H := Option.bind_eq_some_iff.mp H
       obtain ⟨t373, A600, H⟩ := H
       replace H : (some t373) = some r := H
       have A60 := zm A600
       clear A600
       obtain rfl := Option.some.inj H
       have hnb61 := NB363_362.out
       have hnc61 := NB362_363.out
       have hcz62_0 := bc0 BK363.out
       have hcz62_1 := bc1 BK363.out
       have hcz62_2 := bc2 BK363.out
       have hcz62_3 := bc3 BK363.out
       have hcz62_4 := bc4 BK363.out
       have hcz62_5 := bc5 BK363.out
       go_wp2_with (first | ((with_reducible refine gate_callee (f := 50) rfl ?_); refine goesL_ (some 82) rfl rfl Tryd.func50 (by kernel_rfl) rfl #[.agg #[.int .i64 a1_3, .int .i64 a1_4, .slice A1_5 l1_5.length c1_5]] rfl ag ?_; (with_reducible refine (treenailref05_none.calls a1_3 a1_4 _ _ l1_5 t373 _ ?side1 HC1_5.out A60.out).mono ?_); (case side1 => exact cx (Kd.C_below HR1_5.out HB.out)); rintro e w63 ⟨rfl, hb⟩; refine ⟨_, rfl, ?_⟩; replace BK362 := zm (kB (kx BK362.out) hb); replace BK363 := zm (kB (kx BK363.out) hb); replace HB := zm (below_step (bx HB.out) hb); (try clear hb)))
       go_ret
       exact ⟨xe, bx HB.out⟩
      rw [if_neg c51] at H
      have c51b0 := beq_eq_false_iff_ne.mpr c51
      have c51b1 := bne_iff_ne.mpr c51
      obtain rfl := Option.some.inj H
      have hnb64 := NB363_362.out
      have hnc64 := NB362_363.out
      have hcz65_0 := bc0 BK363.out
      have hcz65_1 := bc1 BK363.out
      have hcz65_2 := bc2 BK363.out
      have hcz65_3 := bc3 BK363.out
      have hcz65_4 := bc4 BK363.out
      have hcz65_5 := bc5 BK363.out
      have hcz66_0 := bc0 BK362.out
      have hcz66_1 := bc1 BK362.out
      have p369 : 0 ≤ (a1_0 : Int) := od
      have q369 : a1_0 < (l0_0.length : Int) := od
      obtain ⟨ad369, A369_4, c369_4, e369, hx369_0, hx369_1, hx369_2, hx369_3, hx369_4, hl369_4, hi369_4⟩ := at_T37 HR0_0.out a1_0 p369 q369
      cases e369
      replace hx369_0 := cb HB.out hx369_0
      replace hx369_1 := cb HB.out hx369_1
      replace hx369_2 := cb HB.out hx369_2
      replace hx369_3 := cb HB.out hx369_3
      replace hx369_4 := cb HB.out hx369_4
      have HR369_4 := zm hi369_4
      have HC369_4 := zm hl369_4
      clear hi369_4 hl369_4
      replace p369 := eq_true p369
      replace q369 := eq_true q369
      go_wp2
      go_ret
      exact ⟨xe, bx HB.out⟩
     rw [if_neg c50] at H
     exact absurd H (by simp)
    rw [if_neg c49] at H
    exact absurd H (by simp)
   replace c48 := Bool.eq_false_iff.mpr c48
   subst c48
   rw [if_neg (show ¬ (false = true) by decide)] at H
   replace H := Option.bind_eq_some_iff.mp H
   obtain ⟨t374, A670, H⟩ := H
   replace H : (some t374) = some r := H
   have A67 := zm A670
   clear A670
   obtain rfl := Option.some.inj H
   have hnb68 := NB363_362.out
   have hnc68 := NB362_363.out
   have hcz69_0 := bc0 BK363.out
   have hcz69_1 := bc1 BK363.out
   have hcz69_2 := bc2 BK363.out
   have hcz69_3 := bc3 BK363.out
   have hcz69_4 := bc4 BK363.out
   have hcz69_5 := bc5 BK363.out
   go_wp2_with (first | ((with_reducible refine gate_callee (f := 50) rfl ?_); refine goesL_ (some 82) rfl rfl Tryd.func50 (by kernel_rfl) rfl #[.agg #[.int .i64 a1_3, .int .i64 a1_4, .slice A1_5 l1_5.length c1_5]] rfl ag ?_; (with_reducible refine (treenailref05_none.calls a1_3 a1_4 _ _ l1_5 t374 _ ?side1 HC1_5.out A67.out).mono ?_); (case side1 => exact cx (Kd.C_below HR1_5.out HB.out)); rintro e w70 ⟨rfl, hb⟩; refine ⟨_, rfl, ?_⟩; replace BK362 := zm (kB (kx BK362.out) hb); replace BK363 := zm (kB (kx BK363.out) hb); replace HB := zm (below_step (bx HB.out) hb); (try clear hb)))
   go_ret
   exact ⟨xe, bx HB.out⟩

end Go.Proofs.YtdaeiicdpfghlaaDoor.R
