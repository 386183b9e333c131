import Derived.Test.YtdaeiicdpfghlaaDoorSx0
import Derived.Test.YtdaeiicdpfghlaaDoorSx3
import Derived.Test.YtdaeiicdpfghlaaDoorSx5
import Derived.Test.YtdaeiicdpfghlaaDoorSx7
import Derived.Test.YtdaeiicdpfghlaaDoorSx12
import Derived.Test.YtdaeiicdpfghlaaDoorSx14
import Derived.Test.YtdaeiicdpfghlaaDoorSx17
import Derived.Test.YtdaeiicdpfghlaaDoorSx18
import Derived.Test.YtdaeiicdpfghlaaDoorSx19
namespace Go.Proofs.YtdaeiicdpfghlaaDoor.R
open Go.RowKit Go.Proofs.YtdaeiicdpfghlaaDoorW.PrintWords Go.Proofs.YtdaeiicdpfghlaaDoorW.PrintLast Go.Proofs.YtdaeiicdpfghlaaDoorW.PrintMore
attribute [local go_sem] max2_int min2_int max_two min_two max_three min_three max_four min_four   -- for this text's walks alone
set_option linter.unusedVariables false
set_option linter.unusedSimpArgs false

mutual
def treenailref05_Check.j0 : Nat → Bool → List (S37) → List (S53) → Option (Int × Int)
 | 0, _, _, _ => none
 | k + 1, x23, x390000, x390001 => if x23 = true then (some (1, 0)) else (treenailref05_Check.l0 k x390000 (x390000.length : Int) 0 x390000 x390001)
def treenailref05_Check.l0 : Nat → List (S37) → Int → Int → List (S37) → List (S53) → Option (Int × Int)
 | 0, _, _, _, _, _ => none
 | k + 1, x26, x27, x28, x390000, x390001 => if x28 < x27 then (if 0 ≤ x28 then (if x28 < (x26.length : Int) then ((treenailref05_one.f k ((rd_T37 x26 x28).f0) ((rd_T37 x26 x28).f1) ((rd_T37 x26 x28).f2.f0) ((rd_T37 x26 x28).f2.f1) ((rd_T37 x26 x28).f2.f2)).bind fun t393 => (if t393 = true then (treenailref05_Check.l0 k x26 x27 (wrap64 (x28 + 1)) x390000 x390001) else (some (1, x28)))) else (none)) else (none)) else (treenailref05_Check.l1 k x390001 (x390001.length : Int) 0 x390000 x390001)
def treenailref05_Check.l1 : Nat → List (S53) → Int → Int → List (S37) → List (S53) → Option (Int × Int)
 | 0, _, _, _, _, _ => none
 | k + 1, x40, x41, x42, x390000, x390001 => if x42 < x41 then (if 0 ≤ x42 then (if x42 < (x40.length : Int) then ((treenailref05_two.f k x390000 x390001 ((rd_T53 x40 x42).f0) ((rd_T53 x40 x42).f1) ((rd_T53 x40 x42).f2) ((rd_T53 x40 x42).f3.f0) ((rd_T53 x40 x42).f3.f1) ((rd_T53 x40 x42).f3.f2)).bind fun t396 => (if t396 = true then (treenailref05_Check.l1 k x40 x41 (wrap64 (x42 + 1)) x390000 x390001) else (some (2, x42)))) else (none)) else (none)) else ((treenailref05_First.f k x390000 x390001 1).bind fun t397 => ((treenailref05_First.f k x390000 x390001 2).bind fun t398 => (treenailref05_Check.l2 k t397 t398 x390000 (x390000.length : Int) 0 x390000 x390001)))
def treenailref05_Check.l2 : Nat → Int → Int → List (S37) → Int → Int → List (S37) → List (S53) → Option (Int × Int)
 | 0, _, _, _, _, _, _, _ => none
 | k + 1, x7, x8, x59, x60, x61, x390000, x390001 => if x61 < x60 then (if 0 ≤ x61 then (if x61 < (x59.length : Int) then ((treenailref05_three.f k x390000 x390001 x61).bind fun t401 => (if t401 = true then (if ((rd_T37 x59 x61).f0) = 1 then (if x61 > x7 then (some (3, x61)) else (if ((rd_T37 x59 x61).f0) = 2 then (if x61 > x8 then (some (3, x61)) else (treenailref05_Check.l2 k x7 x8 x59 x60 (wrap64 (x61 + 1)) x390000 x390001)) else (treenailref05_Check.l2 k x7 x8 x59 x60 (wrap64 (x61 + 1)) x390000 x390001))) else (if ((rd_T37 x59 x61).f0) = 2 then (if x61 > x8 then (some (3, x61)) else (treenailref05_Check.l2 k x7 x8 x59 x60 (wrap64 (x61 + 1)) x390000 x390001)) else (treenailref05_Check.l2 k x7 x8 x59 x60 (wrap64 (x61 + 1)) x390000 x390001))) else (some (3, x61)))) else (none)) else (none)) else (if x7 < 0 then (treenailref05_Check.j4 k x7 x8 true x390000 x390001) else (treenailref05_Check.j4 k x7 x8 (decide (x8 < 0)) x390000 x390001))
def treenailref05_Check.j4 : Nat → Int → Int → Bool → List (S37) → List (S53) → Option (Int × Int)
 | 0, _, _, _, _, _ => none
 | k + 1, x7, x8, x98, x390000, x390001 => if x98 = true then (some (3, (x390000.length : Int))) else ((treenailref05_Reach.f k x390000 x390001 x7).bind fun t402 => (treenailref05_Check.l3 k x8 t402 (x390000.length : Int) 0 x390000 x390001))
def treenailref05_Check.l3 : Nat → Int → List Bool → Int → Int → List (S37) → List (S53) → Option (Int × Int)
 | 0, _, _, _, _, _, _ => none
 | k + 1, x8, x11, x108, x109, x390000, x390001 => if x109 < x108 then ((treenailref05_Reach.f k x390000 x390001 x109).bind fun t405 => (if 0 ≤ x109 then (if x109 < (x11.length : Int) then (if rdOf false x11 x109 = true then (if 0 ≤ x8 then (if x8 < (t405.length : Int) then (if rdOf false t405 x8 = true then (treenailref05_Check.l3 k x8 x11 x108 (wrap64 (x109 + 1)) x390000 x390001) else (some (4, x109))) else (none)) else (none)) else (some (4, x109))) else (none)) else (none))) else (some (0, 0))
end
def treenailref05_Check.f (k : Nat) (l0_0 : List (S37)) (l0_1 : List (S53)) : Option (Int × Int) := if (l0_0.length : Int) > 24 then (treenailref05_Check.j0 k true l0_0 l0_1) else (treenailref05_Check.j0 k (decide ((l0_1.length : Int) > 40)) l0_0 l0_1)
set_option maxRecDepth 100000 in
theorem treenailref05_Check.mono_l : ∀ k, (∀ y0 y1 y2, LeO (treenailref05_Check.j0 k y0 y1 y2) (treenailref05_Check.j0 (k + 1) y0 y1 y2)) ∧ (∀ y0 y1 y2 y3 y4, LeO (treenailref05_Check.l0 k y0 y1 y2 y3 y4) (treenailref05_Check.l0 (k + 1) y0 y1 y2 y3 y4)) ∧ (∀ y0 y1 y2 y3 y4, LeO (treenailref05_Check.l1 k y0 y1 y2 y3 y4) (treenailref05_Check.l1 (k + 1) y0 y1 y2 y3 y4)) ∧ (∀ y0 y1 y2 y3 y4 y5 y6, LeO (treenailref05_Check.l2 k y0 y1 y2 y3 y4 y5 y6) (treenailref05_Check.l2 (k + 1) y0 y1 y2 y3 y4 y5 y6)) ∧ (∀ y0 y1 y2 y3 y4, LeO (treenailref05_Check.j4 k y0 y1 y2 y3 y4) (treenailref05_Check.j4 (k + 1) y0 y1 y2 y3 y4)) ∧ (∀ y0 y1 y2 y3 y4 y5, LeO (treenailref05_Check.l3 k y0 y1 y2 y3 y4 y5) (treenailref05_Check.l3 (k + 1) y0 y1 y2 y3 y4 y5))
 | 0 => ⟨fun _ _ _ r h => by first | (cases h; done) | simp [treenailref05_Check.j0] at h, fun _ _ _ _ _ r h => by first | (cases h; done) | simp [treenailref05_Check.l0] at h, fun _ _ _ _ _ r h => by first | (cases h; done) | simp [treenailref05_Check.l1] at h, fun _ _ _ _ _ _ _ r h => by first | (cases h; done) | simp [treenailref05_Check.l2] at h, fun _ _ _ _ _ r h => by first | (cases h; done) | simp [treenailref05_Check.j4] at h, fun _ _ _ _ _ _ r h => by first | (cases h; done) | simp [treenailref05_Check.l3] at h⟩
 | k + 1 => by
  obtain ⟨ih0, ih1, ih2, ih3, ih4, ih5⟩ := treenailref05_Check.mono_l k
  refine ⟨?_, ?_, ?_, ?_, ?_, ?_⟩
  all_goals intros
  all_goals first | unfold treenailref05_Check.j0 | unfold treenailref05_Check.l0 | unfold treenailref05_Check.l1 | unfold treenailref05_Check.l2 | unfold treenailref05_Check.j4 | unfold treenailref05_Check.l3
  all_goals repeat' first
  | (with_reducible exact ih0 _ _ _)
  | (with_reducible exact ih1 _ _ _ _ _)
  | (with_reducible exact ih2 _ _ _ _ _)
  | (with_reducible exact ih3 _ _ _ _ _ _ _)
  | (with_reducible exact ih4 _ _ _ _ _)
  | (with_reducible exact ih5 _ _ _ _ _ _)
  | (with_reducible exact treenailref05_First.mono _ _ _ _)
  | (with_reducible exact treenailref05_Reach.mono _ _ _ _)
  | (with_reducible exact treenailref05_one.mono _ _ _ _ _ _)
  | (with_reducible exact treenailref05_three.mono _ _ _ _)
  | (with_reducible exact treenailref05_two.mono _ _ _ _ _ _ _ _ _)
  | (with_reducible exact LeO.refl _)
  | (with_reducible exact LeO.none _)
  | (with_reducible refine LeO.ite ?_ ?_)
  | (with_reducible refine LeO.bind ?_ (fun _ => ?_))
  | refine LeO.ite ?_ ?_
  | refine LeO.bind ?_ (fun _ => ?_)
set_option maxRecDepth 100000 in
theorem treenailref05_Check.mono : ∀ a0 a1 k, LeO (treenailref05_Check.f k a0 a1) (treenailref05_Check.f (k + 1) a0 a1) := by
 intro a0 a1 k
 obtain ⟨ih0, ih1, ih2, ih3, ih4, ih5⟩ := treenailref05_Check.mono_l k
 unfold treenailref05_Check.f
 repeat' first
 | (with_reducible exact ih0 _ _ _)
 | (with_reducible exact ih1 _ _ _ _ _)
 | (with_reducible exact ih2 _ _ _ _ _)
 | (with_reducible exact ih3 _ _ _ _ _ _ _)
 | (with_reducible exact ih4 _ _ _ _ _)
 | (with_reducible exact ih5 _ _ _ _ _ _)
 | (with_reducible exact treenailref05_First.mono _ _ _ _)
 | (with_reducible exact treenailref05_Reach.mono _ _ _ _)
 | (with_reducible exact treenailref05_one.mono _ _ _ _ _ _)
 | (with_reducible exact treenailref05_three.mono _ _ _ _)
 | (with_reducible exact treenailref05_two.mono _ _ _ _ _ _ _ _ _)
 | (with_reducible exact LeO.refl _)
 | (with_reducible exact LeO.none _)
 | (with_reducible refine LeO.ite ?_ ?_)
 | (with_reducible refine LeO.bind ?_ (fun _ => ?_))
 | refine LeO.ite ?_ ?_
 | refine LeO.bind ?_ (fun _ => ?_)
set_option maxHeartbeats 8000000 in
set_option maxRecDepth 100000 in
theorem treenailref05_Check.calls (k : Nat) (A0_0 : Option Addr) (c0_0 : Nat) (l0_0 : List (S37)) (A0_1 : Option Addr) (c0_1 : Nat) (l0_1 : List (S53)) (r1 : Int) (r2 : Int) (w : World) (hr0_0 : Kd.C k37 w A0_0 l0_0.length l0_0) (hc0_0 : l0_0.length ≤ c0_0) (hr0_1 : Kd.C k53 w A0_1 l0_1.length l0_1) (hc0_1 : l0_1.length ≤ c0_1) (h : treenailref05_Check.f k l0_0 l0_1 = some (r1, r2)) :
  Calls Tryd.prog 12 #[.agg #[.slice A0_0 l0_0.length c0_0, .slice A0_1 l0_1.length c0_1]] w fun e w' => e = .returned (.agg #[.int .i64 r1, .int .i64 r2]) ∧ Below w.heap.size w w' := by
 have hu25 := Tryd.underlying25
 have hu31 := Tryd.underlying31
 have hu37 := Tryd.underlying37
 have hu53 := Tryd.underlying53
 have HR0_0 := zm hr0_0
 have HC0_0 := zm hc0_0
 clear hr0_0 hc0_0
 have HR0_1 := zm hr0_1
 have HC0_1 := zm hc0_1
 clear hr0_1 hc0_1
 have HB := zm (Below.refl w.heap.size w)
 have H : (if (l0_0.length : Int) > 24 then (treenailref05_Check.j0 k true l0_0 l0_1) else (treenailref05_Check.j0 k (decide ((l0_1.length : Int) > 40)) l0_0 l0_1)) = some (r1, r2) := h
 clear h
 have HC2 := zm H
 clear H
 go_enter Tryd.func12, Tryd.ntmps12
 go_upto_region 1 with (first | ((with_reducible refine gate_dst (N := 1) rfl ?_); (try (refine gate_guard (by rfl) ?_; dsimp only)); refine box_event ?hg (N := 1) ?hd (cs := #[.slice A0_0 l0_0.length c0_0, .slice A0_1 l0_1.length c0_1]) (t := 25) ?hr ?_; (case hd => rfl); (case hg => rfl); (case hr => first | (go_simp; done) | (go_simp; rfl)); intro gb389 hg w3 hbox hb; have BK389 := zm (hbox); have GW389 := zm ((by rw [hg]; exact (below_size (bx HB.out)) : w.heap.size ≤ gb389)); have GE389 := zm ((by rw [hg]; exact (below_size (bx HB.out)) : w.heap.size ≤ gb389)); replace HB := zm (below_step (bx HB.out) hb); clear hb hbox hg) | ((with_reducible refine gate_dst (N := 2) rfl ?_); (try (refine gate_guard (by rfl) ?_; dsimp only)); refine box_event ?hg (N := 2) ?hd (cs := #[.int .i64 0, .int .i64 0]) (t := 31) ?hr ?_; (case hd => rfl); (case hg => rfl); (case hr => first | (go_simp; done) | (go_simp; rfl)); intro gb390 hg w4 hbox hb; have BK390 := zm (hbox); have GW390 := zm ((by rw [hg]; exact (below_size (bx HB.out)) : w.heap.size ≤ gb390)); have GE390 := zm ((by rw [hg]; exact (below_size (bx HB.out)) : w.heap.size ≤ gb390)); replace HB := zm (below_step (bx HB.out) hb); have NB389_390 := zm ((by rw [hg]; exact Nat.ne_of_lt (blk_lt (g := gb389) (o := .cells #[.slice A0_0 l0_0.length c0_0, .slice A0_1 l0_1.length c0_1] 25 (0, 0)) (kx BK389.out)) : gb389 ≠ gb390)); have NB390_389 := zm ((by rw [hg]; exact Nat.ne_of_gt (blk_lt (g := gb389) (o := .cells #[.slice A0_0 l0_0.length c0_0, .slice A0_1 l0_1.length c0_1] 25 (0, 0)) (kx BK389.out)) : gb390 ≠ gb389)); replace BK389 := zm (kB (kx BK389.out) hb); clear hb hbox hg))
 (try simp only [Act.put, sS, sZ, sC])
 go_cut [23] (fun v23 wc => ∃ (kq : Nat) (x23_1 : Bool), v23 = .bool x23_1 ∧ Aside0 (treenailref05_Check.j0 kq x23_1 l0_0 l0_1 = some (r1, r2)) ∧ Aside0 (kq ≤ k) ∧ Aside0 (wc.heap[gb389]? = some (.cells #[(.slice A0_0 l0_0.length c0_0), (.slice A0_1 l0_1.length c0_1)] 25 (0, 0))) ∧ Aside0 (wc.heap[gb390]? = some (.cells #[.int .i64 0, .int .i64 0] 31 (0, 0))) ∧ Aside0 (Below w.heap.size w wc))
 case first =>
  have H := HC2.out
  clear HC2
  by_cases c5 : (l0_0.length : Int) > 24
  ·rw [if_pos c5] at H
   have c5b0 : decide (24 < (l0_0.length : Int)) = true := decide_eq_true c5
   have c5b1 : decide (24 < l0_0.length) = true := decide_eq_true (by omega)
   clear c5
   (first | rw [c5b0] | (simp only [i64_w, i32_w]; rw [c5b0]) | rw [c5b1] | skip)
   have H' := zm H
   clear H
   have hnb6 := NB389_390.out
   have hnc6 := NB390_389.out
   have hcz7_0 := bc0 BK389.out
   have hcz7_1 := bc1 BK389.out
   have hfz7_0 := bF BK389.out 0
   have hfz7_1 := bF BK389.out 1
   go_wp2
   go_meet
   case rel => exact ⟨_, (true), (by first | rfl | (simp; done) | (simp [*]; done)), H', ⟨by first | omega | exact Nat.le_refl _⟩, ⟨kx BK389.out⟩, ⟨kx BK390.out⟩, ⟨bx HB.out⟩⟩
  rw [if_neg c5] at H
  have c5b0 : decide (24 < (l0_0.length : Int)) = false := decide_eq_false c5
  try (have c5b9 := c5b0; rw [hl399_4] at c5b9)
  try (have c5b9 := c5b0; rw [hl394_5] at c5b9)
  try (have c5b9 := c5b0; rw [hl391_4] at c5b9)
  have c5b1 : decide (24 < l0_0.length) = false := decide_eq_false (by omega)
  clear c5
  (first | rw [c5b0] | (simp only [i64_w, i32_w]; rw [c5b0]) | rw [c5b1] | skip)
  have H' := zm H
  clear H
  have hnb8 := NB389_390.out
  have hnc8 := NB390_389.out
  have hcz9_0 := bc0 BK389.out
  have hcz9_1 := bc1 BK389.out
  have hfz9_0 := bF BK389.out 0
  have hfz9_1 := bF BK389.out 1
  go_wp2
  go_meet
  case rel => exact ⟨_, (decide ((l0_1.length : Int) > 40)), (by first | rfl | (simp; done) | (simp [*]; done)), H', ⟨by first | omega | exact Nat.le_refl _⟩, ⟨kx BK389.out⟩, ⟨kx BK390.out⟩, ⟨bx HB.out⟩⟩
 clear HC2
 try clear c1
 try clear p2
 try clear c5
 try clear c5b0
 try clear c5b1
 try clear c6
 try clear c8
 try clear BK389
 try clear BK390
 obtain ⟨kq, x23_1, rfl, HA, HJ1, BK389, BK390, HB⟩ := hcut
 cases kq with
 | zero => exact absurd HA.out (by first | (intro h_; cases h_; done) | simp [treenailref05_Check.j0])
 | succ kj1 =>
  have H := HA.out
  clear HA
  simp only [treenailref05_Check.j0] at H
  by_cases c10 : x23_1 = true
  ·subst c10
   rw [if_pos rfl] at H
   simp only [Option.some.injEq, Prod.mk.injEq] at H
   obtain ⟨rfl, rfl⟩ := H
   have hnb11 := NB390_389.out
   have hnc11 := NB389_390.out
   have hcz12_0 := bc0 BK390.out
   have hcz12_1 := bc1 BK390.out
   have hfz12_0 := bF BK390.out 0
   have hfz12_1 := bF BK390.out 1
   go_wp2
   refine bodyPost_ret (results_cell_row rfl _ _ gb390 31 #[.int .i64 1, .int .i64 0] (0, 0) _ rfl (by (with_reducible repeat first | apply kN | apply kD | apply kA); refine blk_put (cs := #[.int .i64 1, .int .i64 0]) ?_ 1 _ rfl; (with_reducible repeat first | apply kN | apply kD | apply kA); refine blk_put (cs := #[.int .i64 0, .int .i64 0]) ?_ 0 _ rfl; (with_reducible repeat first | apply kN | apply kD | apply kA); exact BK390.out) Tryd.underlying31 rfl (by kernel_rfl)) rfl ?_
   exact ⟨xe, bx HB.out⟩
  replace c10 := Bool.eq_false_iff.mpr c10
  subst c10
  rw [if_neg (show ¬ (false = true) by decide)] at H
  have H' := zm H
  clear H
  have hnb13 := NB389_390.out
  have hnc13 := NB390_389.out
  have hcz14_0 := bc0 BK389.out
  have hcz14_1 := bc1 BK389.out
  have hfz14_0 := bF BK389.out 0
  have hfz14_1 := bF BK389.out 1
  go_wp2
  go_loopg [28] kj1 (fun kq v28 w' => ∃ (x28_2 : Int) (x391000_2 : Int) (x391001_2 : Int), v28 = .int .i64 x28_2 ∧ Aside0 (treenailref05_Check.l0 kq l0_0 (l0_0.length : Int) x28_2 l0_0 l0_1 = some (r1, r2)) ∧ Aside0 (kq ≤ kj1) ∧ Aside0 (w'.heap[gb389]? = some (.cells #[(.slice A0_0 l0_0.length c0_0), (.slice A0_1 l0_1.length c0_1)] 25 (0, 0))) ∧ Aside0 (w'.heap[gb390]? = some (.cells #[.int .i64 x391000_2, .int .i64 x391001_2] 31 (0, 0))) ∧ Aside0 (Below w.heap.size w w'))
  case atStart => exact ⟨(0), (0), (0), (by first | rfl | (simp; done) | (simp [*]; done)), H', ⟨Nat.le_refl _⟩, ⟨kx BK389.out⟩, ⟨kx BK390.out⟩, ⟨bx HB.out⟩⟩
  clear H'
  try clear c1
  try clear p2
  try clear c5
  try clear c5b0
  try clear c5b1
  try clear c6
  try clear c8
  try clear c10
  try clear c11
  try clear c12
  try clear c13
  try clear p2
  try clear BK389
  try clear BK390
  obtain ⟨x28_2, x391000_2, x391001_2, rfl, HA, HK2, BK389, BK390, HB⟩ := hrel
  cases gk with
  | zero => exact absurd HA.out (by first | (intro h_; cases h_; done) | simp [treenailref05_Check.l0])
  | succ k2 =>
   have H := HA.out
   clear HA
   simp only [treenailref05_Check.l0] at H
   by_cases c15 : x28_2 < (l0_0.length : Int)
   ·rw [if_pos c15] at H
    have c15b0 := decide_eq_true c15
    clear c15
    by_cases c16 : 0 ≤ x28_2
    ·rw [if_pos c16] at H
     have c16b0 := decide_eq_true c16
     clear c16
     by_cases c17 : x28_2 < (l0_0.length : Int)
     ·rw [if_pos c17] at H
      have c17b0 := decide_eq_true c17
      clear c17
      replace H := Option.bind_eq_some_iff.mp H
      obtain ⟨t393, A180, H⟩ := H
      replace H : (if t393 = true then (treenailref05_Check.l0 k2 l0_0 (l0_0.length : Int) (wrap64 (x28_2 + 1)) l0_0 l0_1) else (some (1, x28_2))) = some (r1, r2) := H
      have A18 := zm A180
      clear A180
      have HC19 := zm H
      clear H
      have p391 : 0 ≤ (x28_2 : Int) := od
      have q391 : x28_2 < (l0_0.length : Int) := od
      obtain ⟨ad391, A391_4, c391_4, e391, hx391_0, hx391_1, hx391_2, hx391_3, hx391_4, hl391_4, hi391_4⟩ := at_T37 HR0_0.out x28_2 p391 q391
      cases e391
      replace hx391_0 := cb HB.out hx391_0
      replace hx391_1 := cb HB.out hx391_1
      replace hx391_2 := cb HB.out hx391_2
      replace hx391_3 := cb HB.out hx391_3
      replace hx391_4 := cb HB.out hx391_4
      have HR391_4 := zm hi391_4
      have HC391_4 := zm hl391_4
      clear hi391_4 hl391_4
      replace p391 := eq_true p391
      replace q391 := eq_true q391
      go_upto_if 35 with (first | ((with_reducible refine gate_dst (N := 4) rfl ?_); (try (refine gate_guard (by rfl) ?_; dsimp only)); refine box_event ?hg (N := 4) ?hd (cs := #[.int .i64 0, .int .i64 0, .int .i64 0, .int .i64 0, .slice none 0 0]) (t := 37) ?hr ?_; (case hd => rfl); (case hg => rfl); (case hr => first | (go_simp; done) | (go_simp; rfl)); intro gb392 hg w20 hbox hb; have BK392 := zm (hbox); have GW392 := zm ((by rw [hg]; exact (below_size (bx HB.out)) : w.heap.size ≤ gb392)); have GE392 := zm ((by rw [hg]; exact (below_size (bx HB.out)) : w.heap.size ≤ gb392)); replace HB := zm (below_step (bx HB.out) hb); have NB389_392 := zm ((by rw [hg]; exact Nat.ne_of_lt (blk_lt (g := gb389) (o := .cells #[.slice (some ad391) l0_0.length c0_0, .slice A0_1 l0_1.length c0_1] 25 (0, 0)) (kx BK389.out)) : gb389 ≠ gb392)); have NB392_389 := zm ((by rw [hg]; exact Nat.ne_of_gt (blk_lt (g := gb389) (o := .cells #[.slice (some ad391) l0_0.length c0_0, .slice A0_1 l0_1.length c0_1] 25 (0, 0)) (kx BK389.out)) : gb392 ≠ gb389)); replace BK389 := zm (kB (kx BK389.out) hb); have NB390_392 := zm ((by rw [hg]; exact Nat.ne_of_lt (blk_lt (g := gb390) (o := .cells #[.int .i64 x391000_2, .int .i64 x391001_2] 31 (0, 0)) (kx BK390.out)) : gb390 ≠ gb392)); have NB392_390 := zm ((by rw [hg]; exact Nat.ne_of_gt (blk_lt (g := gb390) (o := .cells #[.int .i64 x391000_2, .int .i64 x391001_2] 31 (0, 0)) (kx BK390.out)) : gb392 ≠ gb390)); replace BK390 := zm (kB (kx BK390.out) hb); clear hb hbox hg; have hnb21 := NB392_389.out; have hnc21 := NB389_392.out; have hnb22 := NB392_390.out; have hnc22 := NB390_392.out; have hcz23_0 := bc0 BK392.out; have hcz23_1 := bc1 BK392.out; have hcz23_2 := bc2 BK392.out; have hcz23_3 := bc3 BK392.out; have hcz23_4 := bc4 BK392.out; have hfz23_0 := bF BK392.out 0; have hfz23_1 := bF BK392.out 1; have hfz23_2 := bF BK392.out 2; have hfz23_3 := bF BK392.out 3; have hfz23_4 := bF BK392.out 4) | ((with_reducible refine gate_callee (f := 28) rfl ?_); refine goesL_ (some 34) rfl rfl Tryd.func28 (by kernel_rfl) rfl #[.agg #[.int .i64 ((rd_T37 l0_0 x28_2).f0), .int .i64 ((rd_T37 l0_0 x28_2).f1), .int .i64 ((rd_T37 l0_0 x28_2).f2.f0), .int .i64 ((rd_T37 l0_0 x28_2).f2.f1), .slice A391_4 ((rd_T37 l0_0 x28_2).f2.f2).length c391_4]] rfl ag ?_; (with_reducible refine (treenailref05_one.calls k2 ((rd_T37 l0_0 x28_2).f0) ((rd_T37 l0_0 x28_2).f1) ((rd_T37 l0_0 x28_2).f2.f0) ((rd_T37 l0_0 x28_2).f2.f1) _ _ ((rd_T37 l0_0 x28_2).f2.f2) t393 _ ?side1 HC391_4.out A18.out).mono ?_); (case side1 => exact Kd.C_below HR391_4.out (bx HB.out)); rintro e w24 ⟨rfl, hb⟩; refine ⟨_, rfl, ?_⟩; replace BK389 := zm (kB (g := gb389) (o := .cells #[.slice (some ad391) l0_0.length c0_0, .slice A0_1 l0_1.length c0_1] 25 (0, 0)) (by (with_reducible repeat first | apply kN | apply kD | apply kA); refine blk_far ?_ NB389_392.out _; (with_reducible repeat first | apply kN | apply kD | apply kA); refine blk_far ?_ NB389_392.out _; (with_reducible repeat first | apply kN | apply kD | apply kA); refine blk_far ?_ NB389_392.out _; (with_reducible repeat first | apply kN | apply kD | apply kA); refine blk_far ?_ NB389_392.out _; (with_reducible repeat first | apply kN | apply kD | apply kA); refine blk_far ?_ NB389_392.out _; (with_reducible repeat first | apply kN | apply kD | apply kA); exact BK389.out) hb); replace BK390 := zm (kB (g := gb390) (o := .cells #[.int .i64 x391000_2, .int .i64 x391001_2] 31 (0, 0)) (by (with_reducible repeat first | apply kN | apply kD | apply kA); refine blk_far ?_ NB390_392.out _; (with_reducible repeat first | apply kN | apply kD | apply kA); refine blk_far ?_ NB390_392.out _; (with_reducible repeat first | apply kN | apply kD | apply kA); refine blk_far ?_ NB390_392.out _; (with_reducible repeat first | apply kN | apply kD | apply kA); refine blk_far ?_ NB390_392.out _; (with_reducible repeat first | apply kN | apply kD | apply kA); refine blk_far ?_ NB390_392.out _; (with_reducible repeat first | apply kN | apply kD | apply kA); exact BK390.out) hb); replace BK392 := zm (kB (g := gb392) (o := .cells #[.int .i64 ((rd_T37 l0_0 x28_2).f0), .int .i64 ((rd_T37 l0_0 x28_2).f1), .int .i64 ((rd_T37 l0_0 x28_2).f2.f0), .int .i64 ((rd_T37 l0_0 x28_2).f2.f1), .slice A391_4 ((rd_T37 l0_0 x28_2).f2.f2).length c391_4] 37 (0, 0)) (by (with_reducible repeat first | apply kN | apply kD | apply kA); refine blk_put (cs := #[.int .i64 ((rd_T37 l0_0 x28_2).f0), .int .i64 ((rd_T37 l0_0 x28_2).f1), .int .i64 ((rd_T37 l0_0 x28_2).f2.f0), .int .i64 ((rd_T37 l0_0 x28_2).f2.f1), .slice none 0 0]) ?_ 4 _ rfl; (with_reducible repeat first | apply kN | apply kD | apply kA); refine blk_put (cs := #[.int .i64 ((rd_T37 l0_0 x28_2).f0), .int .i64 ((rd_T37 l0_0 x28_2).f1), .int .i64 ((rd_T37 l0_0 x28_2).f2.f0), .int .i64 0, .slice none 0 0]) ?_ 3 _ rfl; (with_reducible repeat first | apply kN | apply kD | apply kA); refine blk_put (cs := #[.int .i64 ((rd_T37 l0_0 x28_2).f0), .int .i64 ((rd_T37 l0_0 x28_2).f1), .int .i64 0, .int .i64 0, .slice none 0 0]) ?_ 2 _ rfl; (with_reducible repeat first | apply kN | apply kD | apply kA); refine blk_put (cs := #[.int .i64 ((rd_T37 l0_0 x28_2).f0), .int .i64 0, .int .i64 0, .int .i64 0, .slice none 0 0]) ?_ 1 _ rfl; (with_reducible repeat first | apply kN | apply kD | apply kA); refine blk_put (cs := #[.int .i64 0, .int .i64 0, .int .i64 0, .int .i64 0, .slice none 0 0]) ?_ 0 _ rfl; (with_reducible repeat first | apply kN | apply kD | apply kA); exact BK392.out) hb); replace HB := zm (below_step (bx HB.out) hb); (try clear hb); (try clear hb2); (try clear hk); (try clear hi)))
      have H := HC19.out
      clear HC19
      by_cases c25 : t393 = true
      ·subst c25
       rw [if_pos rfl] at H
       have H' := zm H
       clear H
       go_wp2
       go_roundg k2
       case measure => have := HJ1.out; have := HK2.out; omega
       case rel => exact ⟨(wrap64 (x28_2 + 1)), (x391000_2), (x391001_2), (by first | rfl | (simp; done) | (simp [*]; done)), H', ⟨by have := HJ1.out; have := HK2.out; omega⟩, ⟨kx BK389.out⟩, ⟨kx BK390.out⟩, ⟨bx HB.out⟩⟩
      replace c25 := Bool.eq_false_iff.mpr c25
      subst c25
      rw [if_neg (show ¬ (false = true) by decide)] at H
      simp only [Option.some.injEq, Prod.mk.injEq] at H
      obtain ⟨rfl, rfl⟩ := H
      have hnb26 := NB390_389.out
      have hnc26 := NB389_390.out
      have hnb27 := NB390_392.out
      have hnc27 := NB392_390.out
      have hcz28_0 := bc0 BK390.out
      have hcz28_1 := bc1 BK390.out
      have hfz28_0 := bF BK390.out 0
      have hfz28_1 := bF BK390.out 1
      go_wp2
      refine bodyPost_ret (results_cell_row rfl _ _ gb390 31 #[.int .i64 1, .int .i64 x28_2] (0, 0) _ rfl (by (with_reducible repeat first | apply kN | apply kD | apply kA); refine blk_put (cs := #[.int .i64 1, .int .i64 x391001_2]) ?_ 1 _ rfl; (with_reducible repeat first | apply kN | apply kD | apply kA); refine blk_put (cs := #[.int .i64 x391000_2, .int .i64 x391001_2]) ?_ 0 _ rfl; (with_reducible repeat first | apply kN | apply kD | apply kA); exact BK390.out) Tryd.underlying31 rfl (by kernel_rfl)) rfl ?_
      exact ⟨xe, bx HB.out⟩
     rw [if_neg c17] at H
     exact absurd H (by simp)
    rw [if_neg c16] at H
    exact absurd H (by simp)
   rw [if_neg c15] at H
   have c15b0 := decide_eq_false c15
   try (have c15b9 := c15b0; rw [hl399_4] at c15b9)
   try (have c15b9 := c15b0; rw [hl394_5] at c15b9)
   try (have c15b9 := c15b0; rw [hl391_4] at c15b9)
   clear c15
   have H' := zm H
   clear H
   have hnb29 := NB389_390.out
   have hnc29 := NB390_389.out
   have hcz30_0 := bc0 BK389.out
   have hcz30_1 := bc1 BK389.out
   have hfz30_0 := bF BK389.out 0
   have hfz30_1 := bF BK389.out 1
   go_wp2
   go_loopg [42] k2 (fun kq v42 w' => ∃ (x42_3 : Int) (x391000_3 : Int) (x391001_3 : Int), v42 = .int .i64 x42_3 ∧ Aside0 (treenailref05_Check.l1 kq l0_1 (l0_1.length : Int) x42_3 l0_0 l0_1 = some (r1, r2)) ∧ Aside0 (kq ≤ k2) ∧ Aside0 (w'.heap[gb389]? = some (.cells #[(.slice A0_0 l0_0.length c0_0), (.slice A0_1 l0_1.length c0_1)] 25 (0, 0))) ∧ Aside0 (w'.heap[gb390]? = some (.cells #[.int .i64 x391000_3, .int .i64 x391001_3] 31 (0, 0))) ∧ Aside0 (Below w.heap.size w w'))
   case atStart => exact ⟨(0), (x391000_2), (x391001_2), (by first | rfl | (simp; done) | (simp [*]; done)), H', ⟨Nat.le_refl _⟩, ⟨kx BK389.out⟩, ⟨kx BK390.out⟩, ⟨bx HB.out⟩⟩
   clear H'
   try clear c1
   try clear c2
   try clear p2
   try clear c3
   try clear p3
   try clear q3
   try clear hx3
   try clear c5
   try clear c5b0
   try clear c5b1
   try clear c6
   try clear p6
   try clear c8
   try clear c10
   try clear c11
   try clear c12
   try clear c13
   try clear c15
   try clear c15b0
   try clear c16
   try clear c16b0
   try clear c17
   try clear c17b0
   try clear c21
   try clear c22
   try clear c25
   try clear c26
   try clear c27
   try clear c28
   try clear c29
   try clear hx391_0
   try clear hx391_1
   try clear hx391_2
   try clear hx391_3
   try clear hx391_4
   try clear p2
   try clear p391
   try clear q391
   try clear BK389
   try clear BK390
   obtain ⟨x42_3, x391000_3, x391001_3, rfl, HA, HK3, BK389, BK390, HB⟩ := hrel
   cases gk with
   | zero => exact absurd HA.out (by first | (intro h_; cases h_; done) | simp [treenailref05_Check.l1])
   | succ k3 =>
    have H := HA.out
    clear HA
    simp only [treenailref05_Check.l1] at H
    by_cases c31 : x42_3 < (l0_1.length : Int)
    ·rw [if_pos c31] at H
     have c31b0 := decide_eq_true c31
     clear c31
     by_cases c32 : 0 ≤ x42_3
     ·rw [if_pos c32] at H
      have c32b0 := decide_eq_true c32
      clear c32
      by_cases c33 : x42_3 < (l0_1.length : Int)
      ·rw [if_pos c33] at H
       have c33b0 := decide_eq_true c33
       clear c33
       replace H := Option.bind_eq_some_iff.mp H
       obtain ⟨t396, A340, H⟩ := H
       replace H : (if t396 = true then (treenailref05_Check.l1 k3 l0_1 (l0_1.length : Int) (wrap64 (x42_3 + 1)) l0_0 l0_1) else (some (2, x42_3))) = some (r1, r2) := H
       have A34 := zm A340
       clear A340
       have HC35 := zm H
       clear H
       have p394 : 0 ≤ (x42_3 : Int) := od
       have q394 : x42_3 < (l0_1.length : Int) := od
       obtain ⟨ad394, A394_5, c394_5, e394, hx394_0, hx394_1, hx394_2, hx394_3, hx394_4, hx394_5, hl394_5, hi394_5⟩ := at_T53 HR0_1.out x42_3 p394 q394
       cases e394
       replace hx394_0 := cb HB.out hx394_0
       replace hx394_1 := cb HB.out hx394_1
       replace hx394_2 := cb HB.out hx394_2
       replace hx394_3 := cb HB.out hx394_3
       replace hx394_4 := cb HB.out hx394_4
       replace hx394_5 := cb HB.out hx394_5
       have HR394_5 := zm hi394_5
       have HC394_5 := zm hl394_5
       clear hi394_5 hl394_5
       replace p394 := eq_true p394
       replace q394 := eq_true q394
       go_upto_if 50 with (first | ((with_reducible refine gate_dst (N := 6) rfl ?_); (try (refine gate_guard (by rfl) ?_; dsimp only)); refine box_event ?hg (N := 6) ?hd (cs := #[.int .i64 0, .int .i64 0, .bool false, .int .i64 0, .int .i64 0, .slice none 0 0]) (t := 53) ?hr ?_; (case hd => rfl); (case hg => rfl); (case hr => first | (go_simp; done) | (go_simp; rfl)); intro gb395 hg w36 hbox hb; have BK395 := zm (hbox); have GW395 := zm ((by rw [hg]; exact (below_size (bx HB.out)) : w.heap.size ≤ gb395)); have GE395 := zm ((by rw [hg]; exact (below_size (bx HB.out)) : w.heap.size ≤ gb395)); replace HB := zm (below_step (bx HB.out) hb); have NB389_395 := zm ((by rw [hg]; exact Nat.ne_of_lt (blk_lt (g := gb389) (o := .cells #[.slice A0_0 l0_0.length c0_0, .slice (some ad394) l0_1.length c0_1] 25 (0, 0)) (kx BK389.out)) : gb389 ≠ gb395)); have NB395_389 := zm ((by rw [hg]; exact Nat.ne_of_gt (blk_lt (g := gb389) (o := .cells #[.slice A0_0 l0_0.length c0_0, .slice (some ad394) l0_1.length c0_1] 25 (0, 0)) (kx BK389.out)) : gb395 ≠ gb389)); replace BK389 := zm (kB (kx BK389.out) hb); have NB390_395 := zm ((by rw [hg]; exact Nat.ne_of_lt (blk_lt (g := gb390) (o := .cells #[.int .i64 x391000_3, .int .i64 x391001_3] 31 (0, 0)) (kx BK390.out)) : gb390 ≠ gb395)); have NB395_390 := zm ((by rw [hg]; exact Nat.ne_of_gt (blk_lt (g := gb390) (o := .cells #[.int .i64 x391000_3, .int .i64 x391001_3] 31 (0, 0)) (kx BK390.out)) : gb395 ≠ gb390)); replace BK390 := zm (kB (kx BK390.out) hb); clear hb hbox hg; have hnb37 := NB395_389.out; have hnc37 := NB389_395.out; have hnb38 := NB395_390.out; have hnc38 := NB390_395.out; have hcz39_0 := bc0 BK395.out; have hcz39_1 := bc1 BK395.out; have hcz39_2 := bc2 BK395.out; have hcz39_3 := bc3 BK395.out; have hcz39_4 := bc4 BK395.out; have hcz39_5 := bc5 BK395.out; have hfz39_0 := bF BK395.out 0; have hfz39_1 := bF BK395.out 1; have hfz39_2 := bF BK395.out 2; have hfz39_3 := bF BK395.out 3; have hfz39_4 := bF BK395.out 4; have hfz39_5 := bF BK395.out 5; have hnb40 := NB389_390.out; have hnc40 := NB390_389.out; have hcz41_0 := bc0 BK389.out; have hcz41_1 := bc1 BK389.out; have hfz41_0 := bF BK389.out 0; have hfz41_1 := bF BK389.out 1) | ((with_reducible refine gate_callee (f := 29) rfl ?_); refine goesL_ (some 49) rfl rfl Tryd.func29 (by kernel_rfl) rfl #[.agg #[.slice A0_0 l0_0.length c0_0, .slice (some ad394) l0_1.length c0_1], .agg #[.int .i64 ((rd_T53 l0_1 x42_3).f0), .int .i64 ((rd_T53 l0_1 x42_3).f1), .bool ((rd_T53 l0_1 x42_3).f2), .int .i64 ((rd_T53 l0_1 x42_3).f3.f0), .int .i64 ((rd_T53 l0_1 x42_3).f3.f1), .slice A394_5 ((rd_T53 l0_1 x42_3).f3.f2).length c394_5]] rfl ag ?_; (with_reducible refine (treenailref05_two.calls k3 _ _ l0_0 _ _ l0_1 ((rd_T53 l0_1 x42_3).f0) ((rd_T53 l0_1 x42_3).f1) ((rd_T53 l0_1 x42_3).f2) ((rd_T53 l0_1 x42_3).f3.f0) ((rd_T53 l0_1 x42_3).f3.f1) _ _ ((rd_T53 l0_1 x42_3).f3.f2) t396 _ ?side1 HC0_0.out ?side3 HC0_1.out ?side5 HC394_5.out A34.out).mono ?_); (case side1 => exact Kd.C_below HR0_0.out (bx HB.out)); (case side3 => exact Kd.C_below HR0_1.out (bx HB.out)); (case side5 => exact Kd.C_below HR394_5.out (bx HB.out)); rintro e w42 ⟨rfl, hb⟩; refine ⟨_, rfl, ?_⟩; replace BK389 := zm (kB (g := gb389) (o := .cells #[.slice A0_0 l0_0.length c0_0, .slice (some ad394) l0_1.length c0_1] 25 (0, 0)) (by (with_reducible repeat first | apply kN | apply kD | apply kA); refine blk_far ?_ NB389_395.out _; (with_reducible repeat first | apply kN | apply kD | apply kA); refine blk_far ?_ NB389_395.out _; (with_reducible repeat first | apply kN | apply kD | apply kA); refine blk_far ?_ NB389_395.out _; (with_reducible repeat first | apply kN | apply kD | apply kA); refine blk_far ?_ NB389_395.out _; (with_reducible repeat first | apply kN | apply kD | apply kA); refine blk_far ?_ NB389_395.out _; (with_reducible repeat first | apply kN | apply kD | apply kA); refine blk_far ?_ NB389_395.out _; (with_reducible repeat first | apply kN | apply kD | apply kA); exact BK389.out) hb); replace BK390 := zm (kB (g := gb390) (o := .cells #[.int .i64 x391000_3, .int .i64 x391001_3] 31 (0, 0)) (by (with_reducible repeat first | apply kN | apply kD | apply kA); refine blk_far ?_ NB390_395.out _; (with_reducible repeat first | apply kN | apply kD | apply kA); refine blk_far ?_ NB390_395.out _; (with_reducible repeat first | apply kN | apply kD | apply kA); refine blk_far ?_ NB390_395.out _; (with_reducible repeat first | apply kN | apply kD | apply kA); refine blk_far ?_ NB390_395.out _; (with_reducible repeat first | apply kN | apply kD | apply kA); refine blk_far ?_ NB390_395.out _; (with_reducible repeat first | apply kN | apply kD | apply kA); refine blk_far ?_ NB390_395.out _; (with_reducible repeat first | apply kN | apply kD | apply kA); exact BK390.out) hb); replace BK395 := zm (kB (g := gb395) (o := .cells #[.int .i64 ((rd_T53 l0_1 x42_3).f0), .int .i64 ((rd_T53 l0_1 x42_3).f1), .bool ((rd_T53 l0_1 x42_3).f2), .int .i64 ((rd_T53 l0_1 x42_3).f3.f0), .int .i64 ((rd_T53 l0_1 x42_3).f3.f1), .slice A394_5 ((rd_T53 l0_1 x42_3).f3.f2).length c394_5] 53 (0, 0)) (by (with_reducible repeat first | apply kN | apply kD | apply kA); refine blk_put (cs := #[.int .i64 ((rd_T53 l0_1 x42_3).f0), .int .i64 ((rd_T53 l0_1 x42_3).f1), .bool ((rd_T53 l0_1 x42_3).f2), .int .i64 ((rd_T53 l0_1 x42_3).f3.f0), .int .i64 ((rd_T53 l0_1 x42_3).f3.f1), .slice none 0 0]) ?_ 5 _ rfl; (with_reducible repeat first | apply kN | apply kD | apply kA); refine blk_put (cs := #[.int .i64 ((rd_T53 l0_1 x42_3).f0), .int .i64 ((rd_T53 l0_1 x42_3).f1), .bool ((rd_T53 l0_1 x42_3).f2), .int .i64 ((rd_T53 l0_1 x42_3).f3.f0), .int .i64 0, .slice none 0 0]) ?_ 4 _ rfl; (with_reducible repeat first | apply kN | apply kD | apply kA); refine blk_put (cs := #[.int .i64 ((rd_T53 l0_1 x42_3).f0), .int .i64 ((rd_T53 l0_1 x42_3).f1), .bool ((rd_T53 l0_1 x42_3).f2), .int .i64 0, .int .i64 0, .slice none 0 0]) ?_ 3 _ rfl; (with_reducible repeat first | apply kN | apply kD | apply kA); refine blk_put (cs := #[.int .i64 ((rd_T53 l0_1 x42_3).f0), .int .i64 ((rd_T53 l0_1 x42_3).f1), .bool false, .int .i64 0, .int .i64 0, .slice none 0 0]) ?_ 2 _ rfl; (with_reducible repeat first | apply kN | apply kD | apply kA); refine blk_put (cs := #[.int .i64 ((rd_T53 l0_1 x42_3).f0), .int .i64 0, .bool false, .int .i64 0, .int .i64 0, .slice none 0 0]) ?_ 1 _ rfl; (with_reducible repeat first | apply kN | apply kD | apply kA); refine blk_put (cs := #[.int .i64 0, .int .i64 0, .bool false, .int .i64 0, .int .i64 0, .slice none 0 0]) ?_ 0 _ rfl; (with_reducible repeat first | apply kN | apply kD | apply kA); exact BK395.out) hb); replace HB := zm (below_step (bx HB.out) hb); (try clear hb); (try clear hb2); (try clear hk); (try clear hi)))
       have H := HC35.out
       clear HC35
       by_cases c43 : t396 = true
       ·subst c43
        rw [if_pos rfl] at H
        have H' := zm H
        clear H
        go_wp2
        go_roundg k3
        case measure => have := HJ1.out; have := HK2.out; have := HK3.out; omega
        case rel => exact ⟨(wrap64 (x42_3 + 1)), (x391000_3), (x391001_3), (by first | rfl | (simp; done) | (simp [*]; done)), H', ⟨by have := HJ1.out; have := HK2.out; have := HK3.out; omega⟩, ⟨kx BK389.out⟩, ⟨kx BK390.out⟩, ⟨bx HB.out⟩⟩
       replace c43 := Bool.eq_false_iff.mpr c43
       subst c43
       rw [if_neg (show ¬ (false = true) by decide)] at H
       simp only [Option.some.injEq, Prod.mk.injEq] at H
       obtain ⟨rfl, rfl⟩ := H
       have hnb44 := NB390_389.out
       have hnc44 := NB389_390.out
       have hnb45 := NB390_395.out
       have hnc45 := NB395_390.out
       have hcz46_0 := bc0 BK390.out
       have hcz46_1 := bc1 BK390.out
       have hfz46_0 := bF BK390.out 0
       have hfz46_1 := bF BK390.out 1
       go_wp2
       refine bodyPost_ret (results_cell_row rfl _ _ gb390 31 #[.int .i64 2, .int .i64 x42_3] (0, 0) _ rfl (by (with_reducible repeat first | apply kN | apply kD | apply kA); refine blk_put (cs := #[.int .i64 2, .int .i64 x391001_3]) ?_ 1 _ rfl; (with_reducible repeat first | apply kN | apply kD | apply kA); refine blk_put (cs := #[.int .i64 x391000_3, .int .i64 x391001_3]) ?_ 0 _ rfl; (with_reducible repeat first | apply kN | apply kD | apply kA); exact BK390.out) Tryd.underlying31 rfl (by kernel_rfl)) rfl ?_
       exact ⟨xe, bx HB.out⟩
      rw [if_neg c33] at H
      exact absurd H (by simp)
     rw [if_neg c32] at H
     exact absurd H (by simp)
    rw [if_neg c31] at H
    have c31b0 := decide_eq_false c31
    try (have c31b9 := c31b0; rw [hl399_4] at c31b9)
    try (have c31b9 := c31b0; rw [hl394_5] at c31b9)
    try (have c31b9 := c31b0; rw [hl391_4] at c31b9)
    clear c31
    replace H := Option.bind_eq_some_iff.mp H
    obtain ⟨t397, A470, H⟩ := H
    have A47 := zm A470
    clear A470
    replace H := Option.bind_eq_some_iff.mp H
    obtain ⟨t398, A480, H⟩ := H
    replace H : (treenailref05_Check.l2 k3 t397 t398 l0_0 (l0_0.length : Int) 0 l0_0 l0_1) = some (r1, r2) := H
    have A48 := zm A480
    clear A480
    have H' := zm H
    clear H
    have hnb49 := NB389_390.out
    have hnc49 := NB390_389.out
    have hcz50_0 := bc0 BK389.out
    have hcz50_1 := bc1 BK389.out
    have hfz50_0 := bF BK389.out 0
    have hfz50_1 := bF BK389.out 1
    go_wp2_with (first | ((with_reducible refine gate_callee (f := 23) rfl ?_); refine goesL_ (some 55) rfl rfl Tryd.func23 (by kernel_rfl) rfl #[.agg #[.slice A0_0 l0_0.length c0_0, .slice A0_1 l0_1.length c0_1], .int .i64 1] rfl ag ?_; (with_reducible refine (treenailref05_First.calls k3 _ _ l0_0 _ _ l0_1 1 t397 _ ?side1 HC0_0.out ?side3 HC0_1.out A47.out).mono ?_); (case side1 => exact cx (Kd.C_below HR0_0.out HB.out)); (case side3 => exact cx (Kd.C_below HR0_1.out HB.out)); rintro e w51 ⟨rfl, hb⟩; refine ⟨_, rfl, ?_⟩; replace BK389 := zm (kB (kx BK389.out) hb); replace BK390 := zm (kB (kx BK390.out) hb); replace HB := zm (below_step (bx HB.out) hb); (try clear hb); have hcz52_0 := bc0 BK389.out; have hcz52_1 := bc1 BK389.out; have hfz52_0 := bF BK389.out 0; have hfz52_1 := bF BK389.out 1) | ((with_reducible refine gate_callee (f := 23) rfl ?_); refine goesL_ (some 57) rfl rfl Tryd.func23 (by kernel_rfl) rfl #[.agg #[.slice A0_0 l0_0.length c0_0, .slice A0_1 l0_1.length c0_1], .int .i64 2] rfl ag ?_; (with_reducible refine (treenailref05_First.calls k3 _ _ l0_0 _ _ l0_1 2 t398 _ ?side1 HC0_0.out ?side3 HC0_1.out A48.out).mono ?_); (case side1 => exact cx (Kd.C_below HR0_0.out HB.out)); (case side3 => exact cx (Kd.C_below HR0_1.out HB.out)); rintro e w53 ⟨rfl, hb⟩; refine ⟨_, rfl, ?_⟩; replace BK389 := zm (kB (kx BK389.out) hb); replace BK390 := zm (kB (kx BK390.out) hb); replace HB := zm (below_step (bx HB.out) hb); (try clear hb); have hcz54_0 := bc0 BK389.out; have hcz54_1 := bc1 BK389.out; have hfz54_0 := bF BK389.out 0; have hfz54_1 := bF BK389.out 1))
    go_loopg [61] k3 (fun kq v61 w' => ∃ (x61_4 : Int) (x391000_4 : Int) (x391001_4 : Int), v61 = .int .i64 x61_4 ∧ Aside0 (treenailref05_Check.l2 kq t397 t398 l0_0 (l0_0.length : Int) x61_4 l0_0 l0_1 = some (r1, r2)) ∧ Aside0 (kq ≤ k3) ∧ Aside0 (w'.heap[gb389]? = some (.cells #[(.slice A0_0 l0_0.length c0_0), (.slice A0_1 l0_1.length c0_1)] 25 (0, 0))) ∧ Aside0 (w'.heap[gb390]? = some (.cells #[.int .i64 x391000_4, .int .i64 x391001_4] 31 (0, 0))) ∧ Aside0 (Below w.heap.size w w'))
    case atStart => exact ⟨(0), (x391000_3), (x391001_3), (by first | rfl | (simp; done) | (simp [*]; done)), H', ⟨Nat.le_refl _⟩, ⟨kx BK389.out⟩, ⟨kx BK390.out⟩, ⟨bx HB.out⟩⟩
    clear H'
    try clear c1
    try clear c2
    try clear p2
    try clear c3
    try clear p3
    try clear q3
    try clear hx3
    try clear c4
    try clear c5
    try clear c5b0
    try clear c5b1
    try clear c6
    try clear p6
    try clear c8
    try clear c10
    try clear c11
    try clear c12
    try clear c13
    try clear c15
    try clear c15b0
    try clear c16
    try clear c16b0
    try clear c17
    try clear c17b0
    try clear c21
    try clear c22
    try clear c23
    try clear c25
    try clear c26
    try clear c27
    try clear c28
    try clear c29
    try clear c31
    try clear c31b0
    try clear c32
    try clear c32b0
    try clear c33
    try clear c33b0
    try clear c37
    try clear c38
    try clear c39
    try clear p39
    try clear q39
    try clear hx39
    try clear c40
    try clear c43
    try clear c44
    try clear c45
    try clear c49
    try clear hx391_0
    try clear hx391_1
    try clear hx391_2
    try clear hx391_3
    try clear hx391_4
    try clear hx394_0
    try clear hx394_1
    try clear hx394_2
    try clear hx394_3
    try clear hx394_4
    try clear hx394_5
    try clear p2
    try clear p3
    try clear p391
    try clear p394
    try clear p6
    try clear q3
    try clear q391
    try clear q394
    try clear BK389
    try clear BK390
    obtain ⟨x61_4, x391000_4, x391001_4, rfl, HA, HK4, BK389, BK390, HB⟩ := hrel
    cases gk with
    | zero => exact absurd HA.out (by first | (intro h_; cases h_; done) | simp [treenailref05_Check.l2])
    | succ k4 =>
     have H := HA.out
     clear HA
     simp only [treenailref05_Check.l2] at H
     by_cases c55 : x61_4 < (l0_0.length : Int)
     ·rw [if_pos c55] at H
      have c55b0 := decide_eq_true c55
      clear c55
      by_cases c56 : 0 ≤ x61_4
      ·rw [if_pos c56] at H
       have c56b0 := decide_eq_true c56
       clear c56
       by_cases c57 : x61_4 < (l0_0.length : Int)
       ·rw [if_pos c57] at H
        have c57b0 := decide_eq_true c57
        clear c57
        have HC58 := zm H
        clear H
        have p399 : 0 ≤ (x61_4 : Int) := od
        have q399 : x61_4 < (l0_0.length : Int) := od
        obtain ⟨ad399, A399_4, c399_4, e399, hx399_0, hx399_1, hx399_2, hx399_3, hx399_4, hl399_4, hi399_4⟩ := at_T37 HR0_0.out x61_4 p399 q399
        cases e399
        replace hx399_0 := cb HB.out hx399_0
        replace hx399_1 := cb HB.out hx399_1
        replace hx399_2 := cb HB.out hx399_2
        replace hx399_3 := cb HB.out hx399_3
        replace hx399_4 := cb HB.out hx399_4
        have HR399_4 := zm hi399_4
        have HC399_4 := zm hl399_4
        clear hi399_4 hl399_4
        replace p399 := eq_true p399
        replace q399 := eq_true q399
        go_upto_region 20 with (first | ((with_reducible refine gate_dst (N := 10) rfl ?_); (try (refine gate_guard (by rfl) ?_; dsimp only)); refine box_event ?hg (N := 10) ?hd (cs := #[.int .i64 0, .int .i64 0, .int .i64 0, .int .i64 0, .slice none 0 0]) (t := 37) ?hr ?_; (case hd => rfl); (case hg => rfl); (case hr => first | (go_simp; done) | (go_simp; rfl)); intro gb400 hg w59 hbox hb; have BK400 := zm (hbox); have GW400 := zm ((by rw [hg]; exact (below_size (bx HB.out)) : w.heap.size ≤ gb400)); have GE400 := zm ((by rw [hg]; exact (below_size (bx HB.out)) : w.heap.size ≤ gb400)); replace HB := zm (below_step (bx HB.out) hb); have NB389_400 := zm ((by rw [hg]; exact Nat.ne_of_lt (blk_lt (g := gb389) (o := .cells #[.slice (some ad399) l0_0.length c0_0, .slice A0_1 l0_1.length c0_1] 25 (0, 0)) (kx BK389.out)) : gb389 ≠ gb400)); have NB400_389 := zm ((by rw [hg]; exact Nat.ne_of_gt (blk_lt (g := gb389) (o := .cells #[.slice (some ad399) l0_0.length c0_0, .slice A0_1 l0_1.length c0_1] 25 (0, 0)) (kx BK389.out)) : gb400 ≠ gb389)); replace BK389 := zm (kB (kx BK389.out) hb); have NB390_400 := zm ((by rw [hg]; exact Nat.ne_of_lt (blk_lt (g := gb390) (o := .cells #[.int .i64 x391000_4, .int .i64 x391001_4] 31 (0, 0)) (kx BK390.out)) : gb390 ≠ gb400)); have NB400_390 := zm ((by rw [hg]; exact Nat.ne_of_gt (blk_lt (g := gb390) (o := .cells #[.int .i64 x391000_4, .int .i64 x391001_4] 31 (0, 0)) (kx BK390.out)) : gb400 ≠ gb390)); replace BK390 := zm (kB (kx BK390.out) hb); clear hb hbox hg; have hnb60 := NB400_389.out; have hnc60 := NB389_400.out; have hnb61 := NB400_390.out; have hnc61 := NB390_400.out; have hcz62_0 := bc0 BK400.out; have hcz62_1 := bc1 BK400.out; have hcz62_2 := bc2 BK400.out; have hcz62_3 := bc3 BK400.out; have hcz62_4 := bc4 BK400.out; have hfz62_0 := bF BK400.out 0; have hfz62_1 := bF BK400.out 1; have hfz62_2 := bF BK400.out 2; have hfz62_3 := bF BK400.out 3; have hfz62_4 := bF BK400.out 4))
        have H := HC58.out
        clear HC58
        replace H := Option.bind_eq_some_iff.mp H
        obtain ⟨t401, A630, H⟩ := H
        replace H : (if t401 = true then (if ((rd_T37 l0_0 x61_4).f0) = 1 then (if x61_4 > t397 then (some (3, x61_4)) else (if ((rd_T37 l0_0 x61_4).f0) = 2 then (if x61_4 > t398 then (some (3, x61_4)) else (treenailref05_Check.l2 k4 t397 t398 l0_0 (l0_0.length : Int) (wrap64 (x61_4 + 1)) l0_0 l0_1)) else (treenailref05_Check.l2 k4 t397 t398 l0_0 (l0_0.length : Int) (wrap64 (x61_4 + 1)) l0_0 l0_1))) else (if ((rd_T37 l0_0 x61_4).f0) = 2 then (if x61_4 > t398 then (some (3, x61_4)) else (treenailref05_Check.l2 k4 t397 t398 l0_0 (l0_0.length : Int) (wrap64 (x61_4 + 1)) l0_0 l0_1)) else (treenailref05_Check.l2 k4 t397 t398 l0_0 (l0_0.length : Int) (wrap64 (x61_4 + 1)) l0_0 l0_1))) else (some (3, x61_4))) = some (r1, r2) := H
        have A63 := zm A630
        clear A630
        by_cases c64 : t401 = true
        ·subst c64
         rw [if_pos rfl] at H
         by_cases c65 : ((rd_T37 l0_0 x61_4).f0) = 1
         ·rw [if_pos c65] at H
          have c65b0 := beq_iff_eq.mpr c65
          have c65b1 := bne_eq_false_iff_eq.mpr c65
          clear c65
          by_cases c66 : x61_4 > t397
          ·rw [if_pos c66] at H
           have c66b0 : decide (t397 < x61_4) = true := decide_eq_true c66
           clear c66
           simp only [Option.some.injEq, Prod.mk.injEq] at H
           obtain ⟨rfl, rfl⟩ := H
           have hnb67 := NB389_390.out
           have hnc67 := NB390_389.out
           have hnb68 := NB389_400.out
           have hnc68 := NB400_389.out
           have hcz69_0 := bc0 BK389.out
           have hcz69_1 := bc1 BK389.out
           have hfz69_0 := bF BK389.out 0
           have hfz69_1 := bF BK389.out 1
           go_wp2_with (first | ((with_reducible refine gate_callee (f := 30) rfl ?_); refine goesL_ (some 68) rfl rfl Tryd.func30 (by kernel_rfl) rfl #[.agg #[.slice (some ad399) l0_0.length c0_0, .slice A0_1 l0_1.length c0_1], .int .i64 x61_4] rfl ag ?_; (with_reducible refine (treenailref05_three.calls k4 _ _ l0_0 _ _ l0_1 x61_4 true _ ?side1 HC0_0.out ?side3 HC0_1.out A63.out).mono ?_); (case side1 => exact Kd.C_below HR0_0.out (bx HB.out)); (case side3 => exact Kd.C_below HR0_1.out (bx HB.out)); rintro e w70 ⟨rfl, hb⟩; refine ⟨_, rfl, ?_⟩; replace BK389 := zm (kB (g := gb389) (o := .cells #[.slice (some ad399) l0_0.length c0_0, .slice A0_1 l0_1.length c0_1] 25 (0, 0)) (by (with_reducible repeat first | apply kN | apply kD | apply kA); refine blk_far ?_ NB389_400.out _; (with_reducible repeat first | apply kN | apply kD | apply kA); refine blk_far ?_ NB389_400.out _; (with_reducible repeat first | apply kN | apply kD | apply kA); refine blk_far ?_ NB389_400.out _; (with_reducible repeat first | apply kN | apply kD | apply kA); refine blk_far ?_ NB389_400.out _; (with_reducible repeat first | apply kN | apply kD | apply kA); refine blk_far ?_ NB389_400.out _; (with_reducible repeat first | apply kN | apply kD | apply kA); exact BK389.out) hb); replace BK390 := zm (kB (g := gb390) (o := .cells #[.int .i64 x391000_4, .int .i64 x391001_4] 31 (0, 0)) (by (with_reducible repeat first | apply kN | apply kD | apply kA); refine blk_far ?_ NB390_400.out _; (with_reducible repeat first | apply kN | apply kD | apply kA); refine blk_far ?_ NB390_400.out _; (with_reducible repeat first | apply kN | apply kD | apply kA); refine blk_far ?_ NB390_400.out _; (with_reducible repeat first | apply kN | apply kD | apply kA); refine blk_far ?_ NB390_400.out _; (with_reducible repeat first | apply kN | apply kD | apply kA); refine blk_far ?_ NB390_400.out _; (with_reducible repeat first | apply kN | apply kD | apply kA); exact BK390.out) hb); replace BK400 := zm (kB (g := gb400) (o := .cells #[.int .i64 ((rd_T37 l0_0 x61_4).f0), .int .i64 ((rd_T37 l0_0 x61_4).f1), .int .i64 ((rd_T37 l0_0 x61_4).f2.f0), .int .i64 ((rd_T37 l0_0 x61_4).f2.f1), .slice A399_4 ((rd_T37 l0_0 x61_4).f2.f2).length c399_4] 37 (0, 0)) (by (with_reducible repeat first | apply kN | apply kD | apply kA); refine blk_put (cs := #[.int .i64 ((rd_T37 l0_0 x61_4).f0), .int .i64 ((rd_T37 l0_0 x61_4).f1), .int .i64 ((rd_T37 l0_0 x61_4).f2.f0), .int .i64 ((rd_T37 l0_0 x61_4).f2.f1), .slice none 0 0]) ?_ 4 _ rfl; (with_reducible repeat first | apply kN | apply kD | apply kA); refine blk_put (cs := #[.int .i64 ((rd_T37 l0_0 x61_4).f0), .int .i64 ((rd_T37 l0_0 x61_4).f1), .int .i64 ((rd_T37 l0_0 x61_4).f2.f0), .int .i64 0, .slice none 0 0]) ?_ 3 _ rfl; (with_reducible repeat first | apply kN | apply kD | apply kA); refine blk_put (cs := #[.int .i64 ((rd_T37 l0_0 x61_4).f0), .int .i64 ((rd_T37 l0_0 x61_4).f1), .int .i64 0, .int .i64 0, .slice none 0 0]) ?_ 2 _ rfl; (with_reducible repeat first | apply kN | apply kD | apply kA); refine blk_put (cs := #[.int .i64 ((rd_T37 l0_0 x61_4).f0), .int .i64 0, .int .i64 0, .int .i64 0, .slice none 0 0]) ?_ 1 _ rfl; (with_reducible repeat first | apply kN | apply kD | apply kA); refine blk_put (cs := #[.int .i64 0, .int .i64 0, .int .i64 0, .int .i64 0, .slice none 0 0]) ?_ 0 _ rfl; (with_reducible repeat first | apply kN | apply kD | apply kA); exact BK400.out) hb); replace HB := zm (below_step (bx HB.out) hb); (try clear hb); (try clear hb2); (try clear hk); (try clear hi); have hnb71 := NB400_390.out; have hnc71 := NB390_400.out; have hcz72_0 := bc0 BK400.out; have hcz72_1 := bc1 BK400.out; have hcz72_2 := bc2 BK400.out; have hcz72_3 := bc3 BK400.out; have hcz72_4 := bc4 BK400.out; have hfz72_0 := bF BK400.out 0; have hfz72_1 := bF BK400.out 1; have hfz72_2 := bF BK400.out 2; have hfz72_3 := bF BK400.out 3; have hfz72_4 := bF BK400.out 4; have hcz73_0 := bc0 BK390.out; have hcz73_1 := bc1 BK390.out; have hfz73_0 := bF BK390.out 0; have hfz73_1 := bF BK390.out 1))
           refine bodyPost_ret (results_cell_row rfl _ _ gb390 31 #[.int .i64 3, .int .i64 x61_4] (0, 0) _ rfl (by (with_reducible repeat first | apply kN | apply kD | apply kA); refine blk_put (cs := #[.int .i64 3, .int .i64 x391001_4]) ?_ 1 _ rfl; (with_reducible repeat first | apply kN | apply kD | apply kA); refine blk_put (cs := #[.int .i64 x391000_4, .int .i64 x391001_4]) ?_ 0 _ rfl; (with_reducible repeat first | apply kN | apply kD | apply kA); exact BK390.out) Tryd.underlying31 rfl (by kernel_rfl)) rfl ?_
           exact ⟨xe, bx HB.out⟩
          rw [if_neg c66] at H
          have c66b0 : decide (t397 < x61_4) = false := decide_eq_false c66
          clear c66
          by_cases c74 : ((rd_T37 l0_0 x61_4).f0) = 2
          ·rw [if_pos c74] at H
           have c74b0 := beq_iff_eq.mpr c74
           have c74b1 := bne_eq_false_iff_eq.mpr c74
           clear c74
           have HC75 := zm H
           clear H
           have hnb76 := NB389_390.out
           have hnc76 := NB390_389.out
           have hnb77 := NB389_400.out
           have hnc77 := NB400_389.out
           have hcz78_0 := bc0 BK389.out
           have hcz78_1 := bc1 BK389.out
           have hfz78_0 := bF BK389.out 0
           have hfz78_1 := bF BK389.out 1
           go_upto_if 89 with (first | ((with_reducible refine gate_callee (f := 30) rfl ?_); refine goesL_ (some 68) rfl rfl Tryd.func30 (by kernel_rfl) rfl #[.agg #[.slice (some ad399) l0_0.length c0_0, .slice A0_1 l0_1.length c0_1], .int .i64 x61_4] rfl ag ?_; (with_reducible refine (treenailref05_three.calls k4 _ _ l0_0 _ _ l0_1 x61_4 true _ ?side1 HC0_0.out ?side3 HC0_1.out A63.out).mono ?_); (case side1 => exact Kd.C_below HR0_0.out (bx HB.out)); (case side3 => exact Kd.C_below HR0_1.out (bx HB.out)); rintro e w79 ⟨rfl, hb⟩; refine ⟨_, rfl, ?_⟩; replace BK389 := zm (kB (g := gb389) (o := .cells #[.slice (some ad399) l0_0.length c0_0, .slice A0_1 l0_1.length c0_1] 25 (0, 0)) (by (with_reducible repeat first | apply kN | apply kD | apply kA); refine blk_far ?_ NB389_400.out _; (with_reducible repeat first | apply kN | apply kD | apply kA); refine blk_far ?_ NB389_400.out _; (with_reducible repeat first | apply kN | apply kD | apply kA); refine blk_far ?_ NB389_400.out _; (with_reducible repeat first | apply kN | apply kD | apply kA); refine blk_far ?_ NB389_400.out _; (with_reducible repeat first | apply kN | apply kD | apply kA); refine blk_far ?_ NB389_400.out _; (with_reducible repeat first | apply kN | apply kD | apply kA); exact BK389.out) hb); replace BK390 := zm (kB (g := gb390) (o := .cells #[.int .i64 x391000_4, .int .i64 x391001_4] 31 (0, 0)) (by (with_reducible repeat first | apply kN | apply kD | apply kA); refine blk_far ?_ NB390_400.out _; (with_reducible repeat first | apply kN | apply kD | apply kA); refine blk_far ?_ NB390_400.out _; (with_reducible repeat first | apply kN | apply kD | apply kA); refine blk_far ?_ NB390_400.out _; (with_reducible repeat first | apply kN | apply kD | apply kA); refine blk_far ?_ NB390_400.out _; (with_reducible repeat first | apply kN | apply kD | apply kA); refine blk_far ?_ NB390_400.out _; (with_reducible repeat first | apply kN | apply kD | apply kA); exact BK390.out) hb); replace BK400 := zm (kB (g := gb400) (o := .cells #[.int .i64 ((rd_T37 l0_0 x61_4).f0), .int .i64 ((rd_T37 l0_0 x61_4).f1), .int .i64 ((rd_T37 l0_0 x61_4).f2.f0), .int .i64 ((rd_T37 l0_0 x61_4).f2.f1), .slice A399_4 ((rd_T37 l0_0 x61_4).f2.f2).length c399_4] 37 (0, 0)) (by (with_reducible repeat first | apply kN | apply kD | apply kA); refine blk_put (cs := #[.int .i64 ((rd_T37 l0_0 x61_4).f0), .int .i64 ((rd_T37 l0_0 x61_4).f1), .int .i64 ((rd_T37 l0_0 x61_4).f2.f0), .int .i64 ((rd_T37 l0_0 x61_4).f2.f1), .slice none 0 0]) ?_ 4 _ rfl; (with_reducible repeat first | apply kN | apply kD | apply kA); refine blk_put (cs := #[.int .i64 ((rd_T37 l0_0 x61_4).f0), .int .i64 ((rd_T37 l0_0 x61_4).f1), .int .i64 ((rd_T37 l0_0 x61_4).f2.f0), .int .i64 0, .slice none 0 0]) ?_ 3 _ rfl; (with_reducible repeat first | apply kN | apply kD | apply kA); refine blk_put (cs := #[.int .i64 ((rd_T37 l0_0 x61_4).f0), .int .i64 ((rd_T37 l0_0 x61_4).f1), .int .i64 0, .int .i64 0, .slice none 0 0]) ?_ 2 _ rfl; (with_reducible repeat first | apply kN | apply kD | apply kA); refine blk_put (cs := #[.int .i64 ((rd_T37 l0_0 x61_4).f0), .int .i64 0, .int .i64 0, .int .i64 0, .slice none 0 0]) ?_ 1 _ rfl; (with_reducible repeat first | apply kN | apply kD | apply kA); refine blk_put (cs := #[.int .i64 0, .int .i64 0, .int .i64 0, .int .i64 0, .slice none 0 0]) ?_ 0 _ rfl; (with_reducible repeat first | apply kN | apply kD | apply kA); exact BK400.out) hb); replace HB := zm (below_step (bx HB.out) hb); (try clear hb); (try clear hb2); (try clear hk); (try clear hi); have hnb80 := NB400_390.out; have hnc80 := NB390_400.out; have hcz81_0 := bc0 BK400.out; have hcz81_1 := bc1 BK400.out; have hcz81_2 := bc2 BK400.out; have hcz81_3 := bc3 BK400.out; have hcz81_4 := bc4 BK400.out; have hfz81_0 := bF BK400.out 0; have hfz81_1 := bF BK400.out 1; have hfz81_2 := bF BK400.out 2; have hfz81_3 := bF BK400.out 3; have hfz81_4 := bF BK400.out 4))
           have H := HC75.out
           clear HC75
           by_cases c82 : x61_4 > t398
           ·rw [if_pos c82] at H
            have c82b0 : decide (t398 < x61_4) = true := decide_eq_true c82
            clear c82
            (first | rw [c82b0] | (simp only [i64_w, i32_w]; rw [c82b0]) | skip)
            simp only [Option.some.injEq, Prod.mk.injEq] at H
            obtain ⟨rfl, rfl⟩ := H
            have hnb83 := NB390_389.out
            have hnc83 := NB389_390.out
            have hnb84 := NB390_400.out
            have hnc84 := NB400_390.out
            have hcz85_0 := bc0 BK390.out
            have hcz85_1 := bc1 BK390.out
            have hfz85_0 := bF BK390.out 0
            have hfz85_1 := bF BK390.out 1
            go_wp2
            refine bodyPost_ret (results_cell_row rfl _ _ gb390 31 #[.int .i64 3, .int .i64 x61_4] (0, 0) _ rfl (by (with_reducible repeat first | apply kN | apply kD | apply kA); refine blk_put (cs := #[.int .i64 3, .int .i64 x391001_4]) ?_ 1 _ rfl; (with_reducible repeat first | apply kN | apply kD | apply kA); refine blk_put (cs := #[.int .i64 x391000_4, .int .i64 x391001_4]) ?_ 0 _ rfl; (with_reducible repeat first | apply kN | apply kD | apply kA); exact BK390.out) Tryd.underlying31 rfl (by kernel_rfl)) rfl ?_
            exact ⟨xe, bx HB.out⟩
           rw [if_neg c82] at H
           have c82b0 : decide (t398 < x61_4) = false := decide_eq_false c82
           clear c82
           (first | rw [c82b0] | (simp only [i64_w, i32_w]; rw [c82b0]) | skip)
           have H' := zm H
           clear H
           go_wp2
           go_roundg k4
           case measure => have := HJ1.out; have := HK2.out; have := HK3.out; have := HK4.out; omega
           case rel => exact ⟨(wrap64 (x61_4 + 1)), (x391000_4), (x391001_4), (by first | rfl | (simp; done) | (simp [*]; done)), H', ⟨by have := HJ1.out; have := HK2.out; have := HK3.out; have := HK4.out; omega⟩, ⟨kx BK389.out⟩, ⟨kx BK390.out⟩, ⟨bx HB.out⟩⟩
          rw [if_neg c74] at H
          have c74b0 := beq_eq_false_iff_ne.mpr c74
          have c74b1 := bne_iff_ne.mpr c74
          have H' := zm H
          clear H
          have hnb86 := NB389_390.out
          have hnc86 := NB390_389.out
          have hnb87 := NB389_400.out
          have hnc87 := NB400_389.out
          have hcz88_0 := bc0 BK389.out
          have hcz88_1 := bc1 BK389.out
          have hfz88_0 := bF BK389.out 0
          have hfz88_1 := bF BK389.out 1
          go_wp2_with (first | ((with_reducible refine gate_callee (f := 30) rfl ?_); refine goesL_ (some 68) rfl rfl Tryd.func30 (by kernel_rfl) rfl #[.agg #[.slice (some ad399) l0_0.length c0_0, .slice A0_1 l0_1.length c0_1], .int .i64 x61_4] rfl ag ?_; (with_reducible refine (treenailref05_three.calls k4 _ _ l0_0 _ _ l0_1 x61_4 true _ ?side1 HC0_0.out ?side3 HC0_1.out A63.out).mono ?_); (case side1 => exact Kd.C_below HR0_0.out (bx HB.out)); (case side3 => exact Kd.C_below HR0_1.out (bx HB.out)); rintro e w89 ⟨rfl, hb⟩; refine ⟨_, rfl, ?_⟩; replace BK389 := zm (kB (g := gb389) (o := .cells #[.slice (some ad399) l0_0.length c0_0, .slice A0_1 l0_1.length c0_1] 25 (0, 0)) (by (with_reducible repeat first | apply kN | apply kD | apply kA); refine blk_far ?_ NB389_400.out _; (with_reducible repeat first | apply kN | apply kD | apply kA); refine blk_far ?_ NB389_400.out _; (with_reducible repeat first | apply kN | apply kD | apply kA); refine blk_far ?_ NB389_400.out _; (with_reducible repeat first | apply kN | apply kD | apply kA); refine blk_far ?_ NB389_400.out _; (with_reducible repeat first | apply kN | apply kD | apply kA); refine blk_far ?_ NB389_400.out _; (with_reducible repeat first | apply kN | apply kD | apply kA); exact BK389.out) hb); replace BK390 := zm (kB (g := gb390) (o := .cells #[.int .i64 x391000_4, .int .i64 x391001_4] 31 (0, 0)) (by (with_reducible repeat first | apply kN | apply kD | apply kA); refine blk_far ?_ NB390_400.out _; (with_reducible repeat first | apply kN | apply kD | apply kA); refine blk_far ?_ NB390_400.out _; (with_reducible repeat first | apply kN | apply kD | apply kA); refine blk_far ?_ NB390_400.out _; (with_reducible repeat first | apply kN | apply kD | apply kA); refine blk_far ?_ NB390_400.out _; (with_reducible repeat first | apply kN | apply kD | apply kA); refine blk_far ?_ NB390_400.out _; (with_reducible repeat first | apply kN | apply kD | apply kA); exact BK390.out) hb); replace BK400 := zm (kB (g := gb400) (o := .cells #[.int .i64 ((rd_T37 l0_0 x61_4).f0), .int .i64 ((rd_T37 l0_0 x61_4).f1), .int .i64 ((rd_T37 l0_0 x61_4).f2.f0), .int .i64 ((rd_T37 l0_0 x61_4).f2.f1), .slice A399_4 ((rd_T37 l0_0 x61_4).f2.f2).length c399_4] 37 (0, 0)) (by (with_reducible repeat first | apply kN | apply kD | apply kA); refine blk_put (cs := #[.int .i64 ((rd_T37 l0_0 x61_4).f0), .int .i64 ((rd_T37 l0_0 x61_4).f1), .int .i64 ((rd_T37 l0_0 x61_4).f2.f0), .int .i64 ((rd_T37 l0_0 x61_4).f2.f1), .slice none 0 0]) ?_ 4 _ rfl; (with_reducible repeat first | apply kN | apply kD | apply kA); refine blk_put (cs := #[.int .i64 ((rd_T37 l0_0 x61_4).f0), .int .i64 ((rd_T37 l0_0 x61_4).f1), .int .i64 ((rd_T37 l0_0 x61_4).f2.f0), .int .i64 0, .slice none 0 0]) ?_ 3 _ rfl; (with_reducible repeat first | apply kN | apply kD | apply kA); refine blk_put (cs := #[.int .i64 ((rd_T37 l0_0 x61_4).f0), .int .i64 ((rd_T37 l0_0 x61_4).f1), .int .i64 0, .int .i64 0, .slice none 0 0]) ?_ 2 _ rfl; (with_reducible repeat first | apply kN | apply kD | apply kA); refine blk_put (cs := #[.int .i64 ((rd_T37 l0_0 x61_4).f0), .int .i64 0, .int .i64 0, .int .i64 0, .slice none 0 0]) ?_ 1 _ rfl; (with_reducible repeat first | apply kN | apply kD | apply kA); refine blk_put (cs := #[.int .i64 0, .int .i64 0, .int .i64 0, .int .i64 0, .slice none 0 0]) ?_ 0 _ rfl; (with_reducible repeat first | apply kN | apply kD | apply kA); exact BK400.out) hb); replace HB := zm (below_step (bx HB.out) hb); (try clear hb); (try clear hb2); (try clear hk); (try clear hi); have hnb90 := NB400_390.out; have hnc90 := NB390_400.out; have hcz91_0 := bc0 BK400.out; have hcz91_1 := bc1 BK400.out; have hcz91_2 := bc2 BK400.out; have hcz91_3 := bc3 BK400.out; have hcz91_4 := bc4 BK400.out; have hfz91_0 := bF BK400.out 0; have hfz91_1 := bF BK400.out 1; have hfz91_2 := bF BK400.out 2; have hfz91_3 := bF BK400.out 3; have hfz91_4 := bF BK400.out 4))
          go_roundg k4
          case measure => have := HJ1.out; have := HK2.out; have := HK3.out; have := HK4.out; omega
          case rel => exact ⟨(wrap64 (x61_4 + 1)), (x391000_4), (x391001_4), (by first | rfl | (simp; done) | (simp [*]; done)), H', ⟨by have := HJ1.out; have := HK2.out; have := HK3.out; have := HK4.out; omega⟩, ⟨kx BK389.out⟩, ⟨kx BK390.out⟩, ⟨bx HB.out⟩⟩
         rw [if_neg c65] at H
         have c65b0 := beq_eq_false_iff_ne.mpr c65
         have c65b1 := bne_iff_ne.mpr c65
         by_cases c92 : ((rd_T37 l0_0 x61_4).f0) = 2
         ·rw [if_pos c92] at H
          have c92b0 := beq_iff_eq.mpr c92
          have c92b1 := bne_eq_false_iff_eq.mpr c92
          clear c92
          have HC93 := zm H
          clear H
          have hnb94 := NB389_390.out
          have hnc94 := NB390_389.out
          have hnb95 := NB389_400.out
          have hnc95 := NB400_389.out
          have hcz96_0 := bc0 BK389.out
          have hcz96_1 := bc1 BK389.out
          have hfz96_0 := bF BK389.out 0
          have hfz96_1 := bF BK389.out 1
          go_upto_if 89 with (first | ((with_reducible refine gate_callee (f := 30) rfl ?_); refine goesL_ (some 68) rfl rfl Tryd.func30 (by kernel_rfl) rfl #[.agg #[.slice (some ad399) l0_0.length c0_0, .slice A0_1 l0_1.length c0_1], .int .i64 x61_4] rfl ag ?_; (with_reducible refine (treenailref05_three.calls k4 _ _ l0_0 _ _ l0_1 x61_4 true _ ?side1 HC0_0.out ?side3 HC0_1.out A63.out).mono ?_); (case side1 => exact Kd.C_below HR0_0.out (bx HB.out)); (case side3 => exact Kd.C_below HR0_1.out (bx HB.out)); rintro e w97 ⟨rfl, hb⟩; refine ⟨_, rfl, ?_⟩; replace BK389 := zm (kB (g := gb389) (o := .cells #[.slice (some ad399) l0_0.length c0_0, .slice A0_1 l0_1.length c0_1] 25 (0, 0)) (by (with_reducible repeat first | apply kN | apply kD | apply kA); refine blk_far ?_ NB389_400.out _; (with_reducible repeat first | apply kN | apply kD | apply kA); refine blk_far ?_ NB389_400.out _; (with_reducible repeat first | apply kN | apply kD | apply kA); refine blk_far ?_ NB389_400.out _; (with_reducible repeat first | apply kN | apply kD | apply kA); refine blk_far ?_ NB389_400.out _; (with_reducible repeat first | apply kN | apply kD | apply kA); refine blk_far ?_ NB389_400.out _; (with_reducible repeat first | apply kN | apply kD | apply kA); exact BK389.out) hb); replace BK390 := zm (kB (g := gb390) (o := .cells #[.int .i64 x391000_4, .int .i64 x391001_4] 31 (0, 0)) (by (with_reducible repeat first | apply kN | apply kD | apply kA); refine blk_far ?_ NB390_400.out _; (with_reducible repeat first | apply kN | apply kD | apply kA); refine blk_far ?_ NB390_400.out _; (with_reducible repeat first | apply kN | apply kD | apply kA); refine blk_far ?_ NB390_400.out _; (with_reducible repeat first | apply kN | apply kD | apply kA); refine blk_far ?_ NB390_400.out _; (with_reducible repeat first | apply kN | apply kD | apply kA); refine blk_far ?_ NB390_400.out _; (with_reducible repeat first | apply kN | apply kD | apply kA); exact BK390.out) hb); replace BK400 := zm (kB (g := gb400) (o := .cells #[.int .i64 ((rd_T37 l0_0 x61_4).f0), .int .i64 ((rd_T37 l0_0 x61_4).f1), .int .i64 ((rd_T37 l0_0 x61_4).f2.f0), .int .i64 ((rd_T37 l0_0 x61_4).f2.f1), .slice A399_4 ((rd_T37 l0_0 x61_4).f2.f2).length c399_4] 37 (0, 0)) (by (with_reducible repeat first | apply kN | apply kD | apply kA); refine blk_put (cs := #[.int .i64 ((rd_T37 l0_0 x61_4).f0), .int .i64 ((rd_T37 l0_0 x61_4).f1), .int .i64 ((rd_T37 l0_0 x61_4).f2.f0), .int .i64 ((rd_T37 l0_0 x61_4).f2.f1), .slice none 0 0]) ?_ 4 _ rfl; (with_reducible repeat first | apply kN | apply kD | apply kA); refine blk_put (cs := #[.int .i64 ((rd_T37 l0_0 x61_4).f0), .int .i64 ((rd_T37 l0_0 x61_4).f1), .int .i64 ((rd_T37 l0_0 x61_4).f2.f0), .int .i64 0, .slice none 0 0]) ?_ 3 _ rfl; (with_reducible repeat first | apply kN | apply kD | apply kA); refine blk_put (cs := #[.int .i64 ((rd_T37 l0_0 x61_4).f0), .int .i64 ((rd_T37 l0_0 x61_4).f1), .int .i64 0, .int .i64 0, .slice none 0 0]) ?_ 2 _ rfl; (with_reducible repeat first | apply kN | apply kD | apply kA); refine blk_put (cs := #[.int .i64 ((rd_T37 l0_0 x61_4).f0), .int .i64 0, .int .i64 0, .int .i64 0, .slice none 0 0]) ?_ 1 _ rfl; (with_reducible repeat first | apply kN | apply kD | apply kA); refine blk_put (cs := #[.int .i64 0, .int .i64 0, .int .i64 0, .int .i64 0, .slice none 0 0]) ?_ 0 _ rfl; (with_reducible repeat first | apply kN | apply kD | apply kA); exact BK400.out) hb); replace HB := zm (below_step (bx HB.out) hb); (try clear hb); (try clear hb2); (try clear hk); (try clear hi); have hnb98 := NB400_390.out; have hnc98 := NB390_400.out; have hcz99_0 := bc0 BK400.out; have hcz99_1 := bc1 BK400.out; have hcz99_2 := bc2 BK400.out; have hcz99_3 := bc3 BK400.out; have hcz99_4 := bc4 BK400.out; have hfz99_0 := bF BK400.out 0; have hfz99_1 := bF BK400.out 1; have hfz99_2 := bF BK400.out 2; have hfz99_3 := bF BK400.out 3; have hfz99_4 := bF BK400.out 4))
          have H := HC93.out
          clear HC93
          by_cases c100 : x61_4 > t398
          ·rw [if_pos c100] at H
           have c100b0 : decide (t398 < x61_4) = true := decide_eq_true c100
           clear c100
           (first | rw [c100b0] | (simp only [i64_w, i32_w]; rw [c100b0]) | skip)
           simp only [Option.some.injEq, Prod.mk.injEq] at H
           obtain ⟨rfl, rfl⟩ := H
           have hnb101 := NB390_389.out
           have hnc101 := NB389_390.out
           have hnb102 := NB390_400.out
           have hnc102 := NB400_390.out
           have hcz103_0 := bc0 BK390.out
           have hcz103_1 := bc1 BK390.out
           have hfz103_0 := bF BK390.out 0
           have hfz103_1 := bF BK390.out 1
           go_wp2
           refine bodyPost_ret (results_cell_row rfl _ _ gb390 31 #[.int .i64 3, .int .i64 x61_4] (0, 0) _ rfl (by (with_reducible repeat first | apply kN | apply kD | apply kA); refine blk_put (cs := #[.int .i64 3, .int .i64 x391001_4]) ?_ 1 _ rfl; (with_reducible repeat first | apply kN | apply kD | apply kA); refine blk_put (cs := #[.int .i64 x391000_4, .int .i64 x391001_4]) ?_ 0 _ rfl; (with_reducible repeat first | apply kN | apply kD | apply kA); exact BK390.out) Tryd.underlying31 rfl (by kernel_rfl)) rfl ?_
           exact ⟨xe, bx HB.out⟩
          rw [if_neg c100] at H
          have c100b0 : decide (t398 < x61_4) = false := decide_eq_false c100
          clear c100
          (first | rw [c100b0] | (simp only [i64_w, i32_w]; rw [c100b0]) | skip)
          have H' := zm H
          clear H
          go_wp2
          go_roundg k4
          case measure => have := HJ1.out; have := HK2.out; have := HK3.out; have := HK4.out; omega
          case rel => exact ⟨(wrap64 (x61_4 + 1)), (x391000_4), (x391001_4), (by first | rfl | (simp; done) | (simp [*]; done)), H', ⟨by have := HJ1.out; have := HK2.out; have := HK3.out; have := HK4.out; omega⟩, ⟨kx BK389.out⟩, ⟨kx BK390.out⟩, ⟨bx HB.out⟩⟩
         rw [if_neg c92] at H
         have c92b0 := beq_eq_false_iff_ne.mpr c92
         have c92b1 := bne_iff_ne.mpr c92
         have H' := zm H
         clear H
         have hnb104 := NB389_390.out
         have hnc104 := NB390_389.out
         have hnb105 := NB389_400.out
         have hnc105 := NB400_389.out
         have hcz106_0 := bc0 BK389.out
         have hcz106_1 := bc1 BK389.out
         have hfz106_0 := bF BK389.out 0
         have hfz106_1 := bF BK389.out 1
         go_wp2_with (first | ((with_reducible refine gate_callee (f := 30) rfl ?_); refine goesL_ (some 68) rfl rfl Tryd.func30 (by kernel_rfl) rfl #[.agg #[.slice (some ad399) l0_0.length c0_0, .slice A0_1 l0_1.length c0_1], .int .i64 x61_4] rfl ag ?_; (with_reducible refine (treenailref05_three.calls k4 _ _ l0_0 _ _ l0_1 x61_4 true _ ?side1 HC0_0.out ?side3 HC0_1.out A63.out).mono ?_); (case side1 => exact Kd.C_below HR0_0.out (bx HB.out)); (case side3 => exact Kd.C_below HR0_1.out (bx HB.out)); rintro e w107 ⟨rfl, hb⟩; refine ⟨_, rfl, ?_⟩; replace BK389 := zm (kB (g := gb389) (o := .cells #[.slice (some ad399) l0_0.length c0_0, .slice A0_1 l0_1.length c0_1] 25 (0, 0)) (by (with_reducible repeat first | apply kN | apply kD | apply kA); refine blk_far ?_ NB389_400.out _; (with_reducible repeat first | apply kN | apply kD | apply kA); refine blk_far ?_ NB389_400.out _; (with_reducible repeat first | apply kN | apply kD | apply kA); refine blk_far ?_ NB389_400.out _; (with_reducible repeat first | apply kN | apply kD | apply kA); refine blk_far ?_ NB389_400.out _; (with_reducible repeat first | apply kN | apply kD | apply kA); refine blk_far ?_ NB389_400.out _; (with_reducible repeat first | apply kN | apply kD | apply kA); exact BK389.out) hb); replace BK390 := zm (kB (g := gb390) (o := .cells #[.int .i64 x391000_4, .int .i64 x391001_4] 31 (0, 0)) (by (with_reducible repeat first | apply kN | apply kD | apply kA); refine blk_far ?_ NB390_400.out _; (with_reducible repeat first | apply kN | apply kD | apply kA); refine blk_far ?_ NB390_400.out _; (with_reducible repeat first | apply kN | apply kD | apply kA); refine blk_far ?_ NB390_400.out _; (with_reducible repeat first | apply kN | apply kD | apply kA); refine blk_far ?_ NB390_400.out _; (with_reducible repeat first | apply kN | apply kD | apply kA); refine blk_far ?_ NB390_400.out _; (with_reducible repeat first | apply kN | apply kD | apply kA); exact BK390.out) hb); replace BK400 := zm (kB (g := gb400) (o := .cells #[.int .i64 ((rd_T37 l0_0 x61_4).f0), .int .i64 ((rd_T37 l0_0 x61_4).f1), .int .i64 ((rd_T37 l0_0 x61_4).f2.f0), .int .i64 ((rd_T37 l0_0 x61_4).f2.f1), .slice A399_4 ((rd_T37 l0_0 x61_4).f2.f2).length c399_4] 37 (0, 0)) (by (with_reducible repeat first | apply kN | apply kD | apply kA); refine blk_put (cs := #[.int .i64 ((rd_T37 l0_0 x61_4).f0), .int .i64 ((rd_T37 l0_0 x61_4).f1), .int .i64 ((rd_T37 l0_0 x61_4).f2.f0), .int .i64 ((rd_T37 l0_0 x61_4).f2.f1), .slice none 0 0]) ?_ 4 _ rfl; (with_reducible repeat first | apply kN | apply kD | apply kA); refine blk_put (cs := #[.int .i64 ((rd_T37 l0_0 x61_4).f0), .int .i64 ((rd_T37 l0_0 x61_4).f1), .int .i64 ((rd_T37 l0_0 x61_4).f2.f0), .int .i64 0, .slice none 0 0]) ?_ 3 _ rfl; (with_reducible repeat first | apply kN | apply kD | apply kA); refine blk_put (cs := #[.int .i64 ((rd_T37 l0_0 x61_4).f0), .int .i64 ((rd_T37 l0_0 x61_4).f1), .int .i64 0, .int .i64 0, .slice none 0 0]) ?_ 2 _ rfl; (with_reducible repeat first | apply kN | apply kD | apply kA); refine blk_put (cs := #[.int .i64 ((rd_T37 l0_0 x61_4).f0), .int .i64 0, .int .i64 0, .int .i64 0, .slice none 0 0]) ?_ 1 _ rfl; (with_reducible repeat first | apply kN | apply kD | apply kA); refine blk_put (cs := #[.int .i64 0, .int .i64 0, .int .i64 0, .int .i64 0, .slice none 0 0]) ?_ 0 _ rfl; (with_reducible repeat first | apply kN | apply kD | apply kA); exact BK400.out) hb); replace HB := zm (below_step (bx HB.out) hb); (try clear hb); (try clear hb2); (try clear hk); (try clear hi); have hnb108 := NB400_390.out; have hnc108 := NB390_400.out; have hcz109_0 := bc0 BK400.out; have hcz109_1 := bc1 BK400.out; have hcz109_2 := bc2 BK400.out; have hcz109_3 := bc3 BK400.out; have hcz109_4 := bc4 BK400.out; have hfz109_0 := bF BK400.out 0; have hfz109_1 := bF BK400.out 1; have hfz109_2 := bF BK400.out 2; have hfz109_3 := bF BK400.out 3; have hfz109_4 := bF BK400.out 4))
         go_roundg k4
         case measure => have := HJ1.out; have := HK2.out; have := HK3.out; have := HK4.out; omega
         case rel => exact ⟨(wrap64 (x61_4 + 1)), (x391000_4), (x391001_4), (by first | rfl | (simp; done) | (simp [*]; done)), H', ⟨by have := HJ1.out; have := HK2.out; have := HK3.out; have := HK4.out; omega⟩, ⟨kx BK389.out⟩, ⟨kx BK390.out⟩, ⟨bx HB.out⟩⟩
        replace c64 := Bool.eq_false_iff.mpr c64
        subst c64
        rw [if_neg (show ¬ (false = true) by decide)] at H
        simp only [Option.some.injEq, Prod.mk.injEq] at H
        obtain ⟨rfl, rfl⟩ := H
        have hnb110 := NB389_390.out
        have hnc110 := NB390_389.out
        have hnb111 := NB389_400.out
        have hnc111 := NB400_389.out
        have hcz112_0 := bc0 BK389.out
        have hcz112_1 := bc1 BK389.out
        have hfz112_0 := bF BK389.out 0
        have hfz112_1 := bF BK389.out 1
        go_wp2_with (first | ((with_reducible refine gate_callee (f := 30) rfl ?_); refine goesL_ (some 68) rfl rfl Tryd.func30 (by kernel_rfl) rfl #[.agg #[.slice (some ad399) l0_0.length c0_0, .slice A0_1 l0_1.length c0_1], .int .i64 x61_4] rfl ag ?_; (with_reducible refine (treenailref05_three.calls k4 _ _ l0_0 _ _ l0_1 x61_4 false _ ?side1 HC0_0.out ?side3 HC0_1.out A63.out).mono ?_); (case side1 => exact Kd.C_below HR0_0.out (bx HB.out)); (case side3 => exact Kd.C_below HR0_1.out (bx HB.out)); rintro e w113 ⟨rfl, hb⟩; refine ⟨_, rfl, ?_⟩; replace BK389 := zm (kB (g := gb389) (o := .cells #[.slice (some ad399) l0_0.length c0_0, .slice A0_1 l0_1.length c0_1] 25 (0, 0)) (by (with_reducible repeat first | apply kN | apply kD | apply kA); refine blk_far ?_ NB389_400.out _; (with_reducible repeat first | apply kN | apply kD | apply kA); refine blk_far ?_ NB389_400.out _; (with_reducible repeat first | apply kN | apply kD | apply kA); refine blk_far ?_ NB389_400.out _; (with_reducible repeat first | apply kN | apply kD | apply kA); refine blk_far ?_ NB389_400.out _; (with_reducible repeat first | apply kN | apply kD | apply kA); refine blk_far ?_ NB389_400.out _; (with_reducible repeat first | apply kN | apply kD | apply kA); exact BK389.out) hb); replace BK390 := zm (kB (g := gb390) (o := .cells #[.int .i64 x391000_4, .int .i64 x391001_4] 31 (0, 0)) (by (with_reducible repeat first | apply kN | apply kD | apply kA); refine blk_far ?_ NB390_400.out _; (with_reducible repeat first | apply kN | apply kD | apply kA); refine blk_far ?_ NB390_400.out _; (with_reducible repeat first | apply kN | apply kD | apply kA); refine blk_far ?_ NB390_400.out _; (with_reducible repeat first | apply kN | apply kD | apply kA); refine blk_far ?_ NB390_400.out _; (with_reducible repeat first | apply kN | apply kD | apply kA); refine blk_far ?_ NB390_400.out _; (with_reducible repeat first | apply kN | apply kD | apply kA); exact BK390.out) hb); replace BK400 := zm (kB (g := gb400) (o := .cells #[.int .i64 ((rd_T37 l0_0 x61_4).f0), .int .i64 ((rd_T37 l0_0 x61_4).f1), .int .i64 ((rd_T37 l0_0 x61_4).f2.f0), .int .i64 ((rd_T37 l0_0 x61_4).f2.f1), .slice A399_4 ((rd_T37 l0_0 x61_4).f2.f2).length c399_4] 37 (0, 0)) (by (with_reducible repeat first | apply kN | apply kD | apply kA); refine blk_put (cs := #[.int .i64 ((rd_T37 l0_0 x61_4).f0), .int .i64 ((rd_T37 l0_0 x61_4).f1), .int .i64 ((rd_T37 l0_0 x61_4).f2.f0), .int .i64 ((rd_T37 l0_0 x61_4).f2.f1), .slice none 0 0]) ?_ 4 _ rfl; (with_reducible repeat first | apply kN | apply kD | apply kA); refine blk_put (cs := #[.int .i64 ((rd_T37 l0_0 x61_4).f0), .int .i64 ((rd_T37 l0_0 x61_4).f1), .int .i64 ((rd_T37 l0_0 x61_4).f2.f0), .int .i64 0, .slice none 0 0]) ?_ 3 _ rfl; (with_reducible repeat first | apply kN | apply kD | apply kA); refine blk_put (cs := #[.int .i64 ((rd_T37 l0_0 x61_4).f0), .int .i64 ((rd_T37 l0_0 x61_4).f1), .int .i64 0, .int .i64 0, .slice none 0 0]) ?_ 2 _ rfl; (with_reducible repeat first | apply kN | apply kD | apply kA); refine blk_put (cs := #[.int .i64 ((rd_T37 l0_0 x61_4).f0), .int .i64 0, .int .i64 0, .int .i64 0, .slice none 0 0]) ?_ 1 _ rfl; (with_reducible repeat first | apply kN | apply kD | apply kA); refine blk_put (cs := #[.int .i64 0, .int .i64 0, .int .i64 0, .int .i64 0, .slice none 0 0]) ?_ 0 _ rfl; (with_reducible repeat first | apply kN | apply kD | apply kA); exact BK400.out) hb); replace HB := zm (below_step (bx HB.out) hb); (try clear hb); (try clear hb2); (try clear hk); (try clear hi); have hnb114 := NB390_400.out; have hnc114 := NB400_390.out; have hcz115_0 := bc0 BK390.out; have hcz115_1 := bc1 BK390.out; have hfz115_0 := bF BK390.out 0; have hfz115_1 := bF BK390.out 1))
        refine bodyPost_ret (results_cell_row rfl _ _ gb390 31 #[.int .i64 3, .int .i64 x61_4] (0, 0) _ rfl (by (with_reducible repeat first | apply kN | apply kD | apply kA); refine blk_put (cs := #[.int .i64 3, .int .i64 x391001_4]) ?_ 1 _ rfl; (with_reducible repeat first | apply kN | apply kD | apply kA); refine blk_put (cs := #[.int .i64 x391000_4, .int .i64 x391001_4]) ?_ 0 _ rfl; (with_reducible repeat first | apply kN | apply kD | apply kA); exact BK390.out) Tryd.underlying31 rfl (by kernel_rfl)) rfl ?_
        exact ⟨xe, bx HB.out⟩
       rw [if_neg c57] at H
       exact absurd H (by simp)
      rw [if_neg c56] at H
      exact absurd H (by simp)
     rw [if_neg c55] at H
     have c55b0 := decide_eq_false c55
     try (have c55b9 := c55b0; rw [hl399_4] at c55b9)
     try (have c55b9 := c55b0; rw [hl394_5] at c55b9)
     try (have c55b9 := c55b0; rw [hl391_4] at c55b9)
     clear c55
     have HC116 := zm H
     clear H
     go_upto_region 23 with (fail)
     go_cut [98] (fun v98 wc => ∃ (kq : Nat) (x98_115 : Bool), v98 = .bool x98_115 ∧ Aside0 (treenailref05_Check.j4 kq t397 t398 x98_115 l0_0 l0_1 = some (r1, r2)) ∧ Aside0 (kq ≤ k4) ∧ Aside0 (wc.heap[gb389]? = some (.cells #[(.slice A0_0 l0_0.length c0_0), (.slice A0_1 l0_1.length c0_1)] 25 (0, 0))) ∧ Aside0 (wc.heap[gb390]? = some (.cells #[.int .i64 x391000_4, .int .i64 x391001_4] 31 (0, 0))) ∧ Aside0 (Below w.heap.size w wc))
     case first =>
      have H := HC116.out
      clear HC116
      by_cases c117 : t397 < 0
      ·rw [if_pos c117] at H
       have c117b0 := decide_eq_true c117
       clear c117
       (first | rw [c117b0] | (simp only [i64_w, i32_w]; rw [c117b0]) | skip)
       have H' := zm H
       clear H
       go_wp2
       go_meet
       case rel => exact ⟨_, (true), (by first | rfl | (simp; done) | (simp [*]; done)), H', ⟨by have := HJ1.out; have := HK2.out; have := HK3.out; have := HK4.out; first | omega | exact Nat.le_refl _⟩, ⟨kx BK389.out⟩, ⟨kx BK390.out⟩, ⟨bx HB.out⟩⟩
      rw [if_neg c117] at H
      have c117b0 := decide_eq_false c117
      clear c117
      (first | rw [c117b0] | (simp only [i64_w, i32_w]; rw [c117b0]) | skip)
      have H' := zm H
      clear H
      go_wp2
      go_meet
      case rel => exact ⟨_, (decide (t398 < 0)), (by first | rfl | (simp; done) | (simp [*]; done)), H', ⟨by have := HJ1.out; have := HK2.out; have := HK3.out; have := HK4.out; first | omega | exact Nat.le_refl _⟩, ⟨kx BK389.out⟩, ⟨kx BK390.out⟩, ⟨bx HB.out⟩⟩
     clear HC116
     try clear c1
     try clear c2
     try clear p2
     try clear c3
     try clear p3
     try clear q3
     try clear hx3
     try clear c4
     try clear c5
     try clear c5b0
     try clear c5b1
     try clear c6
     try clear p6
     try clear c7
     try clear c8
     try clear c9
     try clear c10
     try clear c11
     try clear c12
     try clear c13
     try clear c15
     try clear c15b0
     try clear c16
     try clear c16b0
     try clear c17
     try clear c17b0
     try clear c21
     try clear c22
     try clear c23
     try clear c25
     try clear c26
     try clear c27
     try clear c28
     try clear c29
     try clear c30
     try clear c31
     try clear c31b0
     try clear c32
     try clear c32b0
     try clear c33
     try clear c33b0
     try clear c37
     try clear c38
     try clear c39
     try clear p39
     try clear q39
     try clear hx39
     try clear c40
     try clear c43
     try clear c44
     try clear c45
     try clear c49
     try clear c55
     try clear c55b0
     try clear c56
     try clear c56b0
     try clear c57
     try clear c57b0
     try clear c60
     try clear c61
     try clear c64
     try clear p64
     try clear c65
     try clear c65b0
     try clear c65b1
     try clear c66
     try clear c66b0
     try clear c67
     try clear c68
     try clear c71
     try clear c74
     try clear c74b0
     try clear c74b1
     try clear c76
     try clear c77
     try clear c80
     try clear c82
     try clear c82b0
     try clear c83
     try clear c84
     try clear c86
     try clear c87
     try clear c90
     try clear c92
     try clear c92b0
     try clear c92b1
     try clear c94
     try clear c95
     try clear c98
     try clear c100
     try clear c100b0
     try clear c101
     try clear c102
     try clear c104
     try clear c105
     try clear c108
     try clear c110
     try clear c111
     try clear c114
     try clear c117
     try clear c117b0
     try clear hx391_0
     try clear hx391_1
     try clear hx391_2
     try clear hx391_3
     try clear hx391_4
     try clear hx394_0
     try clear hx394_1
     try clear hx394_2
     try clear hx394_3
     try clear hx394_4
     try clear hx394_5
     try clear hx399_0
     try clear hx399_1
     try clear hx399_2
     try clear hx399_3
     try clear hx399_4
     try clear p2
     try clear p3
     try clear p39
     try clear p391
     try clear p394
     try clear p399
     try clear p6
     try clear q3
     try clear q39
     try clear q391
     try clear q394
     try clear q399
     try clear BK389
     try clear BK390
     obtain ⟨kq, x98_115, rfl, HA, HJ115, BK389, BK390, HB⟩ := hcut
     cases kq with
     | zero => exact absurd HA.out (by first | (intro h_; cases h_; done) | simp [treenailref05_Check.j4])
     | succ kj115 =>
      have H := HA.out
      clear HA
      simp only [treenailref05_Check.j4] at H
      by_cases c118 : x98_115 = true
      ·subst c118
       rw [if_pos rfl] at H
       simp only [Option.some.injEq, Prod.mk.injEq] at H
       obtain ⟨rfl, rfl⟩ := H
       have hnb119 := NB389_390.out
       have hnc119 := NB390_389.out
       have hcz120_0 := bc0 BK389.out
       have hcz120_1 := bc1 BK389.out
       have hfz120_0 := bF BK389.out 0
       have hfz120_1 := bF BK389.out 1
       have hcz121_0 := bc0 BK390.out
       have hcz121_1 := bc1 BK390.out
       have hfz121_0 := bF BK390.out 0
       have hfz121_1 := bF BK390.out 1
       go_wp2
       refine bodyPost_ret (results_cell_row rfl _ _ gb390 31 #[.int .i64 3, .int .i64 (l0_0.length : Int)] (0, 0) _ rfl (by (with_reducible repeat first | apply kN | apply kD | apply kA); refine blk_put (cs := #[.int .i64 3, .int .i64 x391001_4]) ?_ 1 _ rfl; (with_reducible repeat first | apply kN | apply kD | apply kA); refine blk_put (cs := #[.int .i64 x391000_4, .int .i64 x391001_4]) ?_ 0 _ rfl; (with_reducible repeat first | apply kN | apply kD | apply kA); exact BK390.out) Tryd.underlying31 rfl (by kernel_rfl)) rfl ?_
       exact ⟨xe, bx HB.out⟩
      replace c118 := Bool.eq_false_iff.mpr c118
      subst c118
      rw [if_neg (show ¬ (false = true) by decide)] at H
      replace H := Option.bind_eq_some_iff.mp H
      obtain ⟨t402, A1220, H⟩ := H
      replace H : (treenailref05_Check.l3 kj115 t398 t402 (l0_0.length : Int) 0 l0_0 l0_1) = some (r1, r2) := H
      have A122 := zm A1220
      clear A1220
      have H' := zm H
      clear H
      have hnb123 := NB389_390.out
      have hnc123 := NB390_389.out
      have hcz124_0 := bc0 BK389.out
      have hcz124_1 := bc1 BK389.out
      have hfz124_0 := bF BK389.out 0
      have hfz124_1 := bF BK389.out 1
      go_wp2_with (first | ((with_reducible refine gate_callee (f := 17) rfl ?_); refine goesL_ (some 105) rfl rfl Tryd.func17 (by kernel_rfl) rfl #[.agg #[.slice A0_0 l0_0.length c0_0, .slice A0_1 l0_1.length c0_1], .int .i64 t397] rfl ag ?_; (with_reducible refine (treenailref05_Reach.calls kj115 _ _ l0_0 _ _ l0_1 t397 t402 _ ?side1 HC0_0.out ?side3 HC0_1.out A122.out).mono ?_); (case side1 => exact cx (Kd.C_below HR0_0.out HB.out)); (case side3 => exact cx (Kd.C_below HR0_1.out HB.out)); rintro e w125 ⟨v403, rfl, ho0, hb⟩; refine ⟨_, rfl, ?_⟩; have HO404 := zm (Kd.R_lower ho0 (below_size (bx HB.out))); replace BK389 := zm (kB (kx BK389.out) hb); replace BK390 := zm (kB (kx BK390.out) hb); replace HB := zm (below_step (bx HB.out) hb); (try clear hb); (try clear ho0); have hcz126_0 := bc0 BK389.out; have hcz126_1 := bc1 BK389.out; have hfz126_0 := bF BK389.out 0; have hfz126_1 := bF BK389.out 1))
      go_loopg [109] kj115 (fun kq v109 w' => ∃ (x109_6 : Int) (x391000_6 : Int) (x391001_6 : Int), v109 = .int .i64 x109_6 ∧ Aside0 (treenailref05_Check.l3 kq t398 t402 (l0_0.length : Int) x109_6 l0_0 l0_1 = some (r1, r2)) ∧ Aside0 (kq ≤ kj115) ∧ Aside0 (Kd.R Kd.bool 4 w' w.heap.size (fun _ => True) v403 t402) ∧ Aside0 (w'.heap[gb389]? = some (.cells #[(.slice A0_0 l0_0.length c0_0), (.slice A0_1 l0_1.length c0_1)] 25 (0, 0))) ∧ Aside0 (w'.heap[gb390]? = some (.cells #[.int .i64 x391000_6, .int .i64 x391001_6] 31 (0, 0))) ∧ Aside0 (Below w.heap.size w w'))
      case atStart => exact ⟨(0), (x391000_4), (x391001_4), (by first | rfl | (simp; done) | (simp [*]; done)), H', ⟨Nat.le_refl _⟩, ⟨rx HO404.out⟩, ⟨kx BK389.out⟩, ⟨kx BK390.out⟩, ⟨bx HB.out⟩⟩
      clear H'
      try clear c1
      try clear c2
      try clear p2
      try clear c3
      try clear p3
      try clear q3
      try clear hx3
      try clear c4
      try clear c5
      try clear c5b0
      try clear c5b1
      try clear c6
      try clear p6
      try clear c7
      try clear c8
      try clear c9
      try clear c10
      try clear c11
      try clear c12
      try clear c13
      try clear c15
      try clear c15b0
      try clear c16
      try clear c16b0
      try clear c17
      try clear c17b0
      try clear c21
      try clear c22
      try clear c23
      try clear c25
      try clear c26
      try clear c27
      try clear c28
      try clear c29
      try clear c30
      try clear c31
      try clear c31b0
      try clear c32
      try clear c32b0
      try clear c33
      try clear c33b0
      try clear c37
      try clear c38
      try clear c39
      try clear p39
      try clear q39
      try clear hx39
      try clear c40
      try clear c43
      try clear c44
      try clear c45
      try clear c49
      try clear c55
      try clear c55b0
      try clear c56
      try clear c56b0
      try clear c57
      try clear c57b0
      try clear c60
      try clear c61
      try clear c64
      try clear p64
      try clear c65
      try clear c65b0
      try clear c65b1
      try clear c66
      try clear c66b0
      try clear c67
      try clear c68
      try clear c71
      try clear c74
      try clear c74b0
      try clear c74b1
      try clear c76
      try clear c77
      try clear c80
      try clear c82
      try clear c82b0
      try clear c83
      try clear c84
      try clear c86
      try clear c87
      try clear c90
      try clear c92
      try clear c92b0
      try clear c92b1
      try clear c94
      try clear c95
      try clear c98
      try clear c100
      try clear c100b0
      try clear c101
      try clear c102
      try clear c104
      try clear c105
      try clear c108
      try clear c110
      try clear c111
      try clear c114
      try clear c117
      try clear c117b0
      try clear c118
      try clear c119
      try clear c123
      try clear hx391_0
      try clear hx391_1
      try clear hx391_2
      try clear hx391_3
      try clear hx391_4
      try clear hx394_0
      try clear hx394_1
      try clear hx394_2
      try clear hx394_3
      try clear hx394_4
      try clear hx394_5
      try clear hx399_0
      try clear hx399_1
      try clear hx399_2
      try clear hx399_3
      try clear hx399_4
      try clear p2
      try clear p3
      try clear p39
      try clear p391
      try clear p394
      try clear p399
      try clear p6
      try clear p64
      try clear q3
      try clear q39
      try clear q391
      try clear q394
      try clear q399
      try clear BK389
      try clear BK390
      obtain ⟨x109_6, x391000_6, x391001_6, rfl, HA, HK6, HO_11, BK389, BK390, HB⟩ := hrel
      cases gk with
      | zero => exact absurd HA.out (by first | (intro h_; cases h_; done) | simp [treenailref05_Check.l3])
      | succ k6 =>
       have H := HA.out
       clear HA
       simp only [treenailref05_Check.l3] at H
       by_cases c127 : x109_6 < (l0_0.length : Int)
       ·rw [if_pos c127] at H
        have c127b0 := decide_eq_true c127
        clear c127
        replace H := Option.bind_eq_some_iff.mp H
        obtain ⟨t405, A1280, H⟩ := H
        replace H : (if 0 ≤ x109_6 then (if x109_6 < (t402.length : Int) then (if rdOf false t402 x109_6 = true then (if 0 ≤ t398 then (if t398 < (t405.length : Int) then (if rdOf false t405 t398 = true then (treenailref05_Check.l3 k6 t398 t402 (l0_0.length : Int) (wrap64 (x109_6 + 1)) l0_0 l0_1) else (some (4, x109_6))) else (none)) else (none)) else (some (4, x109_6))) else (none)) else (none)) = some (r1, r2) := H
        have A128 := zm A1280
        clear A1280
        have HC129 := zm H
        clear H
        have hnb130 := NB389_390.out
        have hnc130 := NB390_389.out
        have hcz131_0 := bc0 BK389.out
        have hcz131_1 := bc1 BK389.out
        have hfz131_0 := bF BK389.out 0
        have hfz131_1 := bF BK389.out 1
        go_upto_region 30 with (first | ((with_reducible refine gate_callee (f := 17) rfl ?_); refine goesL_ (some 114) rfl rfl Tryd.func17 (by kernel_rfl) rfl #[.agg #[.slice A0_0 l0_0.length c0_0, .slice A0_1 l0_1.length c0_1], .int .i64 x109_6] rfl ag ?_; (with_reducible refine (treenailref05_Reach.calls k6 _ _ l0_0 _ _ l0_1 x109_6 t405 _ ?side1 HC0_0.out ?side3 HC0_1.out A128.out).mono ?_); (case side1 => exact cx (Kd.C_below HR0_0.out HB.out)); (case side3 => exact cx (Kd.C_below HR0_1.out HB.out)); rintro e w132 ⟨v406, rfl, ho0, hb⟩; refine ⟨_, rfl, ?_⟩; have HO407 := zm (Kd.R_lower (Kd.R_new' ho0 (Kd.R_lt (rx HO_11.out))) (below_size (bx HB.out))); replace HO_11 := zm (Kd.R_elder' (rx HO_11.out) (by first | exact Kd.R_base ho0 | exact Kd.N_base ho0 | exact Kd.S_base ho0 | exact Kd.R_base ho0) hb); replace BK389 := zm (kB (kx BK389.out) hb); replace BK390 := zm (kB (kx BK390.out) hb); replace HB := zm (below_step (bx HB.out) hb); (try clear hb); (try clear hb2); (try clear hk); (try clear hi); (try clear ho0)))
        have H := HC129.out
        clear HC129
        by_cases c133 : 0 ≤ x109_6
        ·rw [if_pos c133] at H
         have c133b0 := decide_eq_true c133
         clear c133
         by_cases c134 : x109_6 < (t402.length : Int)
         ·rw [if_pos c134] at H
          have c134b0 := decide_eq_true c134
          clear c134
          obtain ⟨bq135, hbq135⟩ : ∃ b_ : Bool, b_ = (rdOf false t402 x109_6) := ⟨_, rfl⟩
          replace H : (if bq135 = true then (if 0 ≤ t398 then (if t398 < (t405.length : Int) then (if rdOf false t405 t398 = true then (treenailref05_Check.l3 k6 t398 t402 (l0_0.length : Int) (wrap64 (x109_6 + 1)) l0_0 l0_1) else (some (4, x109_6))) else (none)) else (none)) else (some (4, x109_6))) = some (r1, r2) := by rw [← hbq135] at H; exact H
          have Nbq135 := zm hbq135
          clear hbq135
          by_cases c136 : bq135 = true
          ·subst c136
           rw [if_pos rfl] at H
           by_cases c137 : 0 ≤ t398
           ·rw [if_pos c137] at H
            have c137b0 := decide_eq_true c137
            clear c137
            by_cases c138 : t398 < (t405.length : Int)
            ·rw [if_pos c138] at H
             have c138b0 := decide_eq_true c138
             clear c138
             obtain ⟨bq139, hbq139⟩ : ∃ b_ : Bool, b_ = (rdOf false t405 t398) := ⟨_, rfl⟩
             replace H : (if bq139 = true then (treenailref05_Check.l3 k6 t398 t402 (l0_0.length : Int) (wrap64 (x109_6 + 1)) l0_0 l0_1) else (some (4, x109_6))) = some (r1, r2) := by rw [← hbq139] at H; exact H
             have Nbq139 := zm hbq139
             clear hbq139
             by_cases c140 : bq139 = true
             ·subst c140
              rw [if_pos rfl] at H
              have H' := zm H
              clear H
              obtain ⟨Ao141, co141, eo141⟩ := Kd.R_slice HO_11.out
              subst eo141
              have p408 : 0 ≤ (x109_6 : Int) := od
              have q408 : x109_6 < (t402.length : Int) := od
              obtain ⟨ad408, e408, hx408_0⟩ := Kd.at_bool (Kd.R_reads' HO_11.out).2.2 x109_6 p408 q408
              (try rw [← Nbq135.out] at hx408_0)
              (try rw [← Nbq139.out] at hx408_0)
              (try rw [← Nbq135.out] at hw408_0)
              (try rw [← Nbq139.out] at hw408_0)
              cases e408
              replace p408 := eq_true p408
              replace q408 := eq_true q408
              obtain ⟨Ao142, co142, eo142⟩ := Kd.R_slice HO407.out
              subst eo142
              have p409 : 0 ≤ (t398 : Int) := od
              have q409 : t398 < (t405.length : Int) := od
              obtain ⟨ad409, e409, hx409_0⟩ := Kd.at_bool (Kd.R_reads' HO407.out).2.2 t398 p409 q409
              (try rw [← Nbq135.out] at hx409_0)
              (try rw [← Nbq139.out] at hx409_0)
              (try rw [← Nbq135.out] at hw409_0)
              (try rw [← Nbq139.out] at hw409_0)
              cases e409
              replace p409 := eq_true p409
              replace q409 := eq_true q409
              go_wp2
              go_roundg k6
              case measure => have := HJ1.out; have := HK2.out; have := HK3.out; have := HK4.out; have := HJ115.out; have := HK6.out; omega
              case rel => exact ⟨(wrap64 (x109_6 + 1)), (x391000_6), (x391001_6), (by first | rfl | (simp; done) | (simp [*]; done)), H', ⟨by have := HJ1.out; have := HK2.out; have := HK3.out; have := HK4.out; have := HJ115.out; have := HK6.out; omega⟩, ⟨rx (Kd.R_mono HO_11.out (fun _ hk => trivial))⟩, ⟨kx BK389.out⟩, ⟨kx BK390.out⟩, ⟨bx HB.out⟩⟩
             replace c140 := Bool.eq_false_iff.mpr c140
             subst c140
             rw [if_neg (show ¬ (false = true) by decide)] at H
             simp only [Option.some.injEq, Prod.mk.injEq] at H
             obtain ⟨rfl, rfl⟩ := H
             obtain ⟨Ao143, co143, eo143⟩ := Kd.R_slice HO_11.out
             subst eo143
             have p408 : 0 ≤ (x109_6 : Int) := od
             have q408 : x109_6 < (t402.length : Int) := od
             obtain ⟨ad408, e408, hx408_0⟩ := Kd.at_bool (Kd.R_reads' HO_11.out).2.2 x109_6 p408 q408
             (try rw [← Nbq135.out] at hx408_0)
             (try rw [← Nbq139.out] at hx408_0)
             (try rw [← Nbq135.out] at hw408_0)
             (try rw [← Nbq139.out] at hw408_0)
             cases e408
             replace p408 := eq_true p408
             replace q408 := eq_true q408
             obtain ⟨Ao144, co144, eo144⟩ := Kd.R_slice HO407.out
             subst eo144
             have p409 : 0 ≤ (t398 : Int) := od
             have q409 : t398 < (t405.length : Int) := od
             obtain ⟨ad409, e409, hx409_0⟩ := Kd.at_bool (Kd.R_reads' HO407.out).2.2 t398 p409 q409
             (try rw [← Nbq135.out] at hx409_0)
             (try rw [← Nbq139.out] at hx409_0)
             (try rw [← Nbq135.out] at hw409_0)
             (try rw [← Nbq139.out] at hw409_0)
             cases e409
             replace p409 := eq_true p409
             replace q409 := eq_true q409
             have hnb145 := NB390_389.out
             have hnc145 := NB389_390.out
             have hcz146_0 := bc0 BK390.out
             have hcz146_1 := bc1 BK390.out
             have hfz146_0 := bF BK390.out 0
             have hfz146_1 := bF BK390.out 1
             go_wp2
             refine bodyPost_ret (results_cell_row rfl _ _ gb390 31 #[.int .i64 4, .int .i64 x109_6] (0, 0) _ rfl (by (with_reducible repeat first | apply kN | apply kD | apply kA); refine blk_put (cs := #[.int .i64 4, .int .i64 x391001_6]) ?_ 1 _ rfl; (with_reducible repeat first | apply kN | apply kD | apply kA); refine blk_put (cs := #[.int .i64 x391000_6, .int .i64 x391001_6]) ?_ 0 _ rfl; (with_reducible repeat first | apply kN | apply kD | apply kA); exact BK390.out) Tryd.underlying31 rfl (by kernel_rfl)) rfl ?_
             exact ⟨xe, bx HB.out⟩
            rw [if_neg c138] at H
            exact absurd H (by simp)
           rw [if_neg c137] at H
           exact absurd H (by simp)
          replace c136 := Bool.eq_false_iff.mpr c136
          subst c136
          rw [if_neg (show ¬ (false = true) by decide)] at H
          simp only [Option.some.injEq, Prod.mk.injEq] at H
          obtain ⟨rfl, rfl⟩ := H
          obtain ⟨Ao147, co147, eo147⟩ := Kd.R_slice HO_11.out
          subst eo147
          have p408 : 0 ≤ (x109_6 : Int) := od
          have q408 : x109_6 < (t402.length : Int) := od
          obtain ⟨ad408, e408, hx408_0⟩ := Kd.at_bool (Kd.R_reads' HO_11.out).2.2 x109_6 p408 q408
          (try rw [← Nbq135.out] at hx408_0)
          (try rw [← Nbq135.out] at hw408_0)
          cases e408
          replace p408 := eq_true p408
          replace q408 := eq_true q408
          have hnb148 := NB390_389.out
          have hnc148 := NB389_390.out
          have hcz149_0 := bc0 BK390.out
          have hcz149_1 := bc1 BK390.out
          have hfz149_0 := bF BK390.out 0
          have hfz149_1 := bF BK390.out 1
          go_wp2
          refine bodyPost_ret (results_cell_row rfl _ _ gb390 31 #[.int .i64 4, .int .i64 x109_6] (0, 0) _ rfl (by (with_reducible repeat first | apply kN | apply kD | apply kA); refine blk_put (cs := #[.int .i64 4, .int .i64 x391001_6]) ?_ 1 _ rfl; (with_reducible repeat first | apply kN | apply kD | apply kA); refine blk_put (cs := #[.int .i64 x391000_6, .int .i64 x391001_6]) ?_ 0 _ rfl; (with_reducible repeat first | apply kN | apply kD | apply kA); exact BK390.out) Tryd.underlying31 rfl (by kernel_rfl)) rfl ?_
          exact ⟨xe, bx HB.out⟩
         rw [if_neg c134] at H
         exact absurd H (by simp)
        rw [if_neg c133] at H
        exact absurd H (by simp)
       rw [if_neg c127] at H
       have c127b0 := decide_eq_false c127
       try (have c127b9 := c127b0; rw [hl399_4] at c127b9)
       try (have c127b9 := c127b0; rw [hl394_5] at c127b9)
       try (have c127b9 := c127b0; rw [hl391_4] at c127b9)
       clear c127
       simp only [Option.some.injEq, Prod.mk.injEq] at H
       obtain ⟨rfl, rfl⟩ := H
       have hnb150 := NB390_389.out
       have hnc150 := NB389_390.out
       have hcz151_0 := bc0 BK390.out
       have hcz151_1 := bc1 BK390.out
       have hfz151_0 := bF BK390.out 0
       have hfz151_1 := bF BK390.out 1
       go_wp2
       refine bodyPost_ret (results_cell_row rfl _ _ gb390 31 #[.int .i64 0, .int .i64 0] (0, 0) _ rfl (by (with_reducible repeat first | apply kN | apply kD | apply kA); refine blk_put (cs := #[.int .i64 0, .int .i64 x391001_6]) ?_ 1 _ rfl; (with_reducible repeat first | apply kN | apply kD | apply kA); refine blk_put (cs := #[.int .i64 x391000_6, .int .i64 x391001_6]) ?_ 0 _ rfl; (with_reducible repeat first | apply kN | apply kD | apply kA); exact BK390.out) Tryd.underlying31 rfl (by kernel_rfl)) rfl ?_
       exact ⟨xe, bx HB.out⟩

end Go.Proofs.YtdaeiicdpfghlaaDoor.R
