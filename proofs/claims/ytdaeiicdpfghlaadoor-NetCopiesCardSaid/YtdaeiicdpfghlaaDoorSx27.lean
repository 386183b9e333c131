import Derived.Test.YtdaeiicdpfghlaaDoorSx0
import Derived.Test.YtdaeiicdpfghlaaDoorSx3
import Derived.Test.YtdaeiicdpfghlaaDoorSx5
import Derived.Test.YtdaeiicdpfghlaaDoorSx7
namespace Go.Proofs.YtdaeiicdpfghlaaDoor.R
open Go.RowKit Go.Proofs.YtdaeiicdpfghlaaDoorW.PrintWords Go.Proofs.YtdaeiicdpfghlaaDoorW.PrintLast Go.Proofs.YtdaeiicdpfghlaaDoorW.PrintMore
attribute [local go_sem] max2_int min2_int max_two min_two max_three min_three max_four min_four   -- for this text's walks alone
set_option linter.unusedVariables false
set_option linter.unusedSimpArgs false

mutual
def treenailplain_Term.j0 : Nat → Bool → Int → Int → List (S35) → Int → Int → List (S35) → Option (Bool)
 | 0, _, _, _, _, _, _, _ => none
 | k + 1, x26, x524000, x524001, x524002, x525000, x525001, x525002 => if x26 = true then (some false) else (treenailplain_Term.l0 k (x524002.length : Int) 0 x524000 x524001 x524002 x525000 x525001 x525002)
def treenailplain_Term.l0 : Nat → Int → Int → Int → Int → List (S35) → Int → Int → List (S35) → Option (Bool)
 | 0, _, _, _, _, _, _, _, _ => none
 | k + 1, x29, x30, x524000, x524001, x524002, x525000, x525001, x525002 => if x30 < x29 then (if 0 ≤ x30 then (if x30 < (x524002.length : Int) then (if x30 < (x525002.length : Int) then ((treenailplain_Term.f k ((rd_T35 x524002 x30).f0) ((rd_T35 x524002 x30).f1) ((rd_T35 x524002 x30).f2) ((rd_T35 x525002 x30).f0) ((rd_T35 x525002 x30).f1) ((rd_T35 x525002 x30).f2)).bind fun t527 => (if t527 = true then (treenailplain_Term.l0 k x29 (wrap64 (x30 + 1)) x524000 x524001 x524002 x525000 x525001 x525002) else (some false))) else (none)) else (none)) else (none)) else (some true)
def treenailplain_Term.f : Nat → Int → Int → List (S35) → Int → Int → List (S35) → Option (Bool)
 | 0, _, _, _, _, _, _ => none
 | k + 1, a0_0, a0_1, l0_2, a1_0, a1_1, l1_2 => if a0_0 = a1_0 then (if a0_1 = a1_1 then (treenailplain_Term.j0 k ((l0_2.length : Int) != (l1_2.length : Int)) a0_0 a0_1 l0_2 a1_0 a1_1 l1_2) else (treenailplain_Term.j0 k true a0_0 a0_1 l0_2 a1_0 a1_1 l1_2)) else (treenailplain_Term.j0 k true a0_0 a0_1 l0_2 a1_0 a1_1 l1_2)
end
set_option maxRecDepth 100000 in
theorem treenailplain_Term.mono_l : ∀ k, (∀ y0 y1 y2 y3 y4 y5, LeO (treenailplain_Term.f k y0 y1 y2 y3 y4 y5) (treenailplain_Term.f (k + 1) y0 y1 y2 y3 y4 y5)) ∧ (∀ y0 y1 y2 y3 y4 y5 y6, LeO (treenailplain_Term.j0 k y0 y1 y2 y3 y4 y5 y6) (treenailplain_Term.j0 (k + 1) y0 y1 y2 y3 y4 y5 y6)) ∧ (∀ y0 y1 y2 y3 y4 y5 y6 y7, LeO (treenailplain_Term.l0 k y0 y1 y2 y3 y4 y5 y6 y7) (treenailplain_Term.l0 (k + 1) y0 y1 y2 y3 y4 y5 y6 y7))
 | 0 => ⟨fun _ _ _ _ _ _ r h => by first | (cases h; done) | simp [treenailplain_Term.f] at h, fun _ _ _ _ _ _ _ r h => by first | (cases h; done) | simp [treenailplain_Term.j0] at h, fun _ _ _ _ _ _ _ _ r h => by first | (cases h; done) | simp [treenailplain_Term.l0] at h⟩
 | k + 1 => by
  obtain ⟨ih0, ih1, ih2⟩ := treenailplain_Term.mono_l k
  refine ⟨?_, ?_, ?_⟩
  all_goals intros
  all_goals first | unfold treenailplain_Term.f | unfold treenailplain_Term.j0 | unfold treenailplain_Term.l0
  all_goals repeat' first
  | (with_reducible exact ih0 _ _ _ _ _ _)
  | (with_reducible exact ih1 _ _ _ _ _ _ _)
  | (with_reducible exact ih2 _ _ _ _ _ _ _ _)
  | (with_reducible exact LeO.refl _)
  | (with_reducible exact LeO.none _)
  | (with_reducible refine LeO.ite ?_ ?_)
  | (with_reducible refine LeO.bind ?_ (fun _ => ?_))
  | refine LeO.ite ?_ ?_
  | refine LeO.bind ?_ (fun _ => ?_)
set_option maxRecDepth 100000 in
theorem treenailplain_Term.mono : ∀ a0 a1 a2 a3 a4 a5 k, LeO (treenailplain_Term.f k a0 a1 a2 a3 a4 a5) (treenailplain_Term.f (k + 1) a0 a1 a2 a3 a4 a5) := by
 intro a0 a1 a2 a3 a4 a5 k
 obtain ⟨ih0, ih1, ih2⟩ := treenailplain_Term.mono_l k
 exact ih0 a0 a1 a2 a3 a4 a5
def treenailplain_Term.T6 : Bool × List (List Nat × List Nat) := (true, [([], []), ([0], [0]), ([], []), ([1, 2], [1, 2]), ([3], [3]), ([], []), ([5], [5]), ([], []), ([6, 7], [6, 7]), ([8], [8]), ([4, 9], [4, 9]), ([10], [10])])
def treenailplain_Term.B6 : List Nat := [0, 1, 0, 7, 15, 0, 32, 0, 224, 480, 1023, 2047]
theorem treenailplain_Term.tab6 : rtab .any (opsOf Tryd.f48 6) = treenailplain_Term.T6 := by kernel_rfl
theorem treenailplain_Term.bits6 : waitsOk treenailplain_Term.T6.2 treenailplain_Term.B6 = true := by kernel_rfl
set_option maxHeartbeats 8000000 in
set_option maxRecDepth 100000 in
theorem treenailplain_Term.calls (k : Nat) : ∀ (a0_0 : Int) (a0_1 : Int) (A0_2 : Option Addr) (c0_2 : Nat) (l0_2 : List (S35)) (a1_0 : Int) (a1_1 : Int) (A1_2 : Option Addr) (c1_2 : Nat) (l1_2 : List (S35)) (r : Bool) (w : World) (hr0_2 : Kd.C k35 w A0_2 l0_2.length l0_2) (hc0_2 : l0_2.length ≤ c0_2) (hr1_2 : Kd.C k35 w A1_2 l1_2.length l1_2) (hc1_2 : l1_2.length ≤ c1_2) (h : treenailplain_Term.f k a0_0 a0_1 l0_2 a1_0 a1_1 l1_2 = some r),
  Calls Tryd.prog 48 #[.agg #[.int .i64 a0_0, .int .i64 a0_1, .slice A0_2 l0_2.length c0_2], .agg #[.int .i64 a1_0, .int .i64 a1_1, .slice A1_2 l1_2.length c1_2]] w fun e w' => e = .returned (.bool r) ∧ Below w.heap.size w w' := by
 induction k using Nat.strongRecOn with
 | _ k ih =>
 intro a0_0 a0_1 A0_2 c0_2 l0_2 a1_0 a1_1 A1_2 c1_2 l1_2 r w hr0_2 hc0_2 hr1_2 hc1_2 h
 cases k with
 | zero => exact absurd h (by first | (intro h_; cases h_; done) | simp [treenailplain_Term.f])
 | succ k =>
 simp only [treenailplain_Term.f] at h
 have hu35 := Tryd.underlying35
 have HR0_2 := zm hr0_2
 have HC0_2 := zm hc0_2
 clear hr0_2 hc0_2
 have HR1_2 := zm hr1_2
 have HC1_2 := zm hc1_2
 clear hr1_2 hc1_2
 have HB := zm (Below.refl w.heap.size w)
 have H : (if a0_0 = a1_0 then (if a0_1 = a1_1 then (treenailplain_Term.j0 k ((l0_2.length : Int) != (l1_2.length : Int)) a0_0 a0_1 l0_2 a1_0 a1_1 l1_2) else (treenailplain_Term.j0 k true a0_0 a0_1 l0_2 a1_0 a1_1 l1_2)) else (treenailplain_Term.j0 k true a0_0 a0_1 l0_2 a1_0 a1_1 l1_2)) = some r := h
 clear h
 have HC3 := zm H
 clear H
 go_enter Tryd.func48, Tryd.ntmps48
 go_upto_region 1 with (first | ((with_reducible refine gate_dst (N := 2) rfl ?_); (try (refine gate_guard (by rfl) ?_; dsimp only)); refine box_event ?hg (N := 2) ?hd (cs := #[.int .i64 a0_0, .int .i64 a0_1, .slice A0_2 l0_2.length c0_2]) (t := 35) ?hr ?_; (case hd => rfl); (case hg => rfl); (case hr => first | (go_simp; done) | (go_simp; rfl)); intro gb523 hg w4 hbox hb; have BK523 := zm (hbox); have GW523 := zm ((by rw [hg]; exact (below_size (bx HB.out)) : w.heap.size ≤ gb523)); have GE523 := zm ((by rw [hg]; exact (below_size (bx HB.out)) : w.heap.size ≤ gb523)); replace HB := zm (below_step (bx HB.out) hb); clear hb hbox hg) | ((with_reducible refine gate_dst (N := 3) rfl ?_); (try (refine gate_guard (by rfl) ?_; dsimp only)); refine box_event ?hg (N := 3) ?hd (cs := #[.int .i64 a1_0, .int .i64 a1_1, .slice A1_2 l1_2.length c1_2]) (t := 35) ?hr ?_; (case hd => rfl); (case hg => rfl); (case hr => first | (go_simp; done) | (go_simp; rfl)); intro gb524 hg w5 hbox hb; have BK524 := zm (hbox); have GW524 := zm ((by rw [hg]; exact (below_size (bx HB.out)) : w.heap.size ≤ gb524)); have GE524 := zm ((by rw [hg]; exact (below_size (bx HB.out)) : w.heap.size ≤ gb524)); replace HB := zm (below_step (bx HB.out) hb); have NB523_524 := zm ((by rw [hg]; exact Nat.ne_of_lt (blk_lt (g := gb523) (o := .cells #[.int .i64 a0_0, .int .i64 a0_1, .slice A0_2 l0_2.length c0_2] 35 (0, 0)) (kx BK523.out)) : gb523 ≠ gb524)); have NB524_523 := zm ((by rw [hg]; exact Nat.ne_of_gt (blk_lt (g := gb523) (o := .cells #[.int .i64 a0_0, .int .i64 a0_1, .slice A0_2 l0_2.length c0_2] 35 (0, 0)) (kx BK523.out)) : gb524 ≠ gb523)); replace BK523 := zm (kB (kx BK523.out) hb); clear hb hbox hg))
 (try simp only [Act.put, sS, sZ, sC])
 go_cut [26] (fun v26 wc => ∃ (kq : Nat) (x26_2 : Bool), v26 = .bool x26_2 ∧ Aside0 (treenailplain_Term.j0 kq x26_2 a0_0 a0_1 l0_2 a1_0 a1_1 l1_2 = some r) ∧ Aside0 (kq ≤ k) ∧ Aside0 (wc.heap[gb523]? = some (.cells #[.int .i64 a0_0, .int .i64 a0_1, (.slice A0_2 l0_2.length c0_2)] 35 (0, 0))) ∧ Aside0 (wc.heap[gb524]? = some (.cells #[.int .i64 a1_0, .int .i64 a1_1, (.slice A1_2 l1_2.length c1_2)] 35 (0, 0))) ∧ Aside0 (Below w.heap.size w wc))
 case first =>
  have H := HC3.out
  clear HC3
  by_cases c6 : a0_0 = a1_0
  ·rw [if_pos c6] at H
   have c6b0 := beq_iff_eq.mpr c6
   have c6b1 := bne_eq_false_iff_eq.mpr c6
   clear c6
   (first | rw [c6b0] | (simp only [i64_w, i32_w]; rw [c6b0]) | rw [c6b1] | skip)
   by_cases c7 : a0_1 = a1_1
   ·rw [if_pos c7] at H
    have c7b0 := beq_iff_eq.mpr c7
    have c7b1 := bne_eq_false_iff_eq.mpr c7
    clear c7
    have H' := zm H
    clear H
    have hnb8 := NB523_524.out
    have hnc8 := NB524_523.out
    have hcz9_0 := bc0 BK523.out
    have hcz9_1 := bc1 BK523.out
    have hcz9_2 := bc2 BK523.out
    have hcz10_0 := bc0 BK524.out
    have hcz10_1 := bc1 BK524.out
    have hcz10_2 := bc2 BK524.out
    go_wp2
    go_meet
    case rel => exact ⟨_, (((l0_2.length : Int) != (l1_2.length : Int))), (by first | rfl | (simp; done) | (simp [*]; done)), H', ⟨by first | omega | exact Nat.le_refl _⟩, ⟨kx BK523.out⟩, ⟨kx BK524.out⟩, ⟨bx HB.out⟩⟩
   rw [if_neg c7] at H
   have c7b0 := beq_eq_false_iff_ne.mpr c7
   have c7b1 := bne_iff_ne.mpr c7
   have H' := zm H
   clear H
   have hnb11 := NB523_524.out
   have hnc11 := NB524_523.out
   have hcz12_0 := bc0 BK523.out
   have hcz12_1 := bc1 BK523.out
   have hcz12_2 := bc2 BK523.out
   have hcz13_0 := bc0 BK524.out
   have hcz13_1 := bc1 BK524.out
   have hcz13_2 := bc2 BK524.out
   go_wp2
   go_meet
   case rel => exact ⟨_, (true), (by first | rfl | (simp; done) | (simp [*]; done)), H', ⟨by first | omega | exact Nat.le_refl _⟩, ⟨kx BK523.out⟩, ⟨kx BK524.out⟩, ⟨bx HB.out⟩⟩
  rw [if_neg c6] at H
  have c6b0 := beq_eq_false_iff_ne.mpr c6
  have c6b1 := bne_iff_ne.mpr c6
  (first | rw [c6b0] | (simp only [i64_w, i32_w]; rw [c6b0]) | rw [c6b1] | skip)
  have H' := zm H
  clear H
  have hnb14 := NB523_524.out
  have hnc14 := NB524_523.out
  have hcz15_0 := bc0 BK523.out
  have hcz15_1 := bc1 BK523.out
  have hcz15_2 := bc2 BK523.out
  have hcz16_0 := bc0 BK524.out
  have hcz16_1 := bc1 BK524.out
  have hcz16_2 := bc2 BK524.out
  go_wp2
  go_meet
  case rel => exact ⟨_, (true), (by first | rfl | (simp; done) | (simp [*]; done)), H', ⟨by first | omega | exact Nat.le_refl _⟩, ⟨kx BK523.out⟩, ⟨kx BK524.out⟩, ⟨bx HB.out⟩⟩
 clear HC3
 try clear c1
 try clear p2
 try clear c4
 try clear c6
 try clear c6b0
 try clear c6b1
 try clear c7
 try clear c7b0
 try clear c7b1
 try clear c8
 try clear c11
 try clear c14
 try clear BK523
 try clear BK524
 obtain ⟨kq, x26_2, rfl, HA, HJ2, BK523, BK524, HB⟩ := hcut
 cases kq with
 | zero => exact absurd HA.out (by first | (intro h_; cases h_; done) | simp [treenailplain_Term.j0])
 | succ kj2 =>
  have H := HA.out
  clear HA
  simp only [treenailplain_Term.j0] at H
  by_cases c17 : x26_2 = true
  ·subst c17
   rw [if_pos rfl] at H
   obtain rfl := Option.some.inj H
   go_wp2
   go_ret
   exact ⟨xe, bx HB.out⟩
  replace c17 := Bool.eq_false_iff.mpr c17
  subst c17
  rw [if_neg (show ¬ (false = true) by decide)] at H
  have H' := zm H
  clear H
  have hnb18 := NB523_524.out
  have hnc18 := NB524_523.out
  have hcz19_0 := bc0 BK523.out
  have hcz19_1 := bc1 BK523.out
  have hcz19_2 := bc2 BK523.out
  go_wp2
  go_loopg [30] kj2 (fun kq v30 w' => ∃ (x30_2 : Int), v30 = .int .i64 x30_2 ∧ Aside0 (treenailplain_Term.l0 kq (l0_2.length : Int) x30_2 a0_0 a0_1 l0_2 a1_0 a1_1 l1_2 = some r) ∧ Aside0 (kq ≤ kj2) ∧ Aside0 (w'.heap[gb523]? = some (.cells #[.int .i64 a0_0, .int .i64 a0_1, (.slice A0_2 l0_2.length c0_2)] 35 (0, 0))) ∧ Aside0 (w'.heap[gb524]? = some (.cells #[.int .i64 a1_0, .int .i64 a1_1, (.slice A1_2 l1_2.length c1_2)] 35 (0, 0))) ∧ Aside0 (Below w.heap.size w w'))
  case atStart => exact ⟨(0), (by first | rfl | (simp; done) | (simp [*]; done)), H', ⟨Nat.le_refl _⟩, ⟨kx BK523.out⟩, ⟨kx BK524.out⟩, ⟨bx HB.out⟩⟩
  clear H'
  try clear c1
  try clear p2
  try clear c4
  try clear c6
  try clear c6b0
  try clear c6b1
  try clear c7
  try clear c7b0
  try clear c7b1
  try clear c8
  try clear c11
  try clear c14
  try clear c17
  try clear c18
  try clear p2
  try clear BK523
  try clear BK524
  obtain ⟨x30_2, rfl, HA, HK2, BK523, BK524, HB⟩ := hrel
  cases gk with
  | zero => exact absurd HA.out (by first | (intro h_; cases h_; done) | simp [treenailplain_Term.l0])
  | succ k2 =>
   have H := HA.out
   clear HA
   simp only [treenailplain_Term.l0] at H
   by_cases c20 : x30_2 < (l0_2.length : Int)
   ·rw [if_pos c20] at H
    have c20b0 := decide_eq_true c20
    clear c20
    by_cases c21 : 0 ≤ x30_2
    ·rw [if_pos c21] at H
     have c21b0 := decide_eq_true c21
     clear c21
     by_cases c22 : x30_2 < (l0_2.length : Int)
     ·rw [if_pos c22] at H
      have c22b0 := decide_eq_true c22
      clear c22
      by_cases c23 : x30_2 < (l1_2.length : Int)
      ·rw [if_pos c23] at H
       have c23b0 := decide_eq_true c23
       clear c23
       replace H := Option.bind_eq_some_iff.mp H
       obtain ⟨t527, A240, H⟩ := H
       replace H : (if t527 = true then (treenailplain_Term.l0 k2 (l0_2.length : Int) (wrap64 (x30_2 + 1)) a0_0 a0_1 l0_2 a1_0 a1_1 l1_2) else (some false)) = some r := H
       have A24 := zm A240
       clear A240
       have HC25 := zm H
       clear H
       try go_wp2
       replace BK523 := zm (blk_drew BK523.out)
       replace BK524 := zm (blk_drew BK524.out)
       replace HB := zm (below_drew1 HB.out)
       have p525 : 0 ≤ (x30_2 : Int) := od
       have q525 : x30_2 < (l0_2.length : Int) := od
       obtain ⟨ad525, A525_2, c525_2, e525, hx525_0, hx525_1, hx525_2, hl525_2, hi525_2⟩ := at_T35 HR0_2.out x30_2 p525 q525
       have hw525_2 := hx525_2
       have hw525_1 := hx525_1
       have hw525_0 := hx525_0
       cases e525
       replace hx525_0 := cb HB.out hx525_0
       replace hx525_1 := cb HB.out hx525_1
       replace hx525_2 := cb HB.out hx525_2
       have HR525_2 := zm hi525_2
       have HC525_2 := zm hl525_2
       clear hi525_2 hl525_2
       replace p525 := eq_true p525
       replace q525 := eq_true q525
       have p526 : 0 ≤ (x30_2 : Int) := od
       have q526 : x30_2 < (l1_2.length : Int) := od
       obtain ⟨ad526, A526_2, c526_2, e526, hx526_0, hx526_1, hx526_2, hl526_2, hi526_2⟩ := at_T35 HR1_2.out x30_2 p526 q526
       have hw526_2 := hx526_2
       have hw526_1 := hx526_1
       have hw526_0 := hx526_0
       cases e526
       replace hx526_0 := cb HB.out hx526_0
       replace hx526_1 := cb HB.out hx526_1
       replace hx526_2 := cb HB.out hx526_2
       have HR526_2 := zm hi526_2
       have HC526_2 := zm hl526_2
       clear hi526_2 hl526_2
       replace p526 := eq_true p526
       replace q526 := eq_true q526
       refine start_ (n := 12) (S := fun w' => w'.cell? ⟨gb523, 0, none⟩ = some (.int .i64 a0_0) ∧ w'.cell? ⟨gb523, 1, none⟩ = some (.int .i64 a0_1) ∧ w'.cell? ⟨gb523, 2, none⟩ = some (.slice (some ad525) l0_2.length c0_2) ∧ w'.cell? ⟨gb524, 0, none⟩ = some (.int .i64 a1_0) ∧ w'.cell? ⟨gb524, 1, none⟩ = some (.int .i64 a1_1) ∧ w'.cell? ⟨gb524, 2, none⟩ = some (.slice (some ad526) l1_2.length c1_2) ∧ w'.cell? (ad525.add ((x30_2).toNat * 3)) = some (.int .i64 ((rd_T35 l0_2 x30_2).f0)) ∧ w'.cell? ⟨(ad525.add ((x30_2).toNat * 3)).block, (ad525.add ((x30_2).toNat * 3)).off + 1, none⟩ = some (.int .i64 ((rd_T35 l0_2 x30_2).f1)) ∧ w'.cell? ⟨(ad525.add ((x30_2).toNat * 3)).block, (ad525.add ((x30_2).toNat * 3)).off + 2, none⟩ = some (.slice A525_2 ((rd_T35 l0_2 x30_2).f2).length c525_2) ∧ w'.cell? (ad526.add ((x30_2).toNat * 3)) = some (.int .i64 ((rd_T35 l1_2 x30_2).f0)) ∧ w'.cell? ⟨(ad526.add ((x30_2).toNat * 3)).block, (ad526.add ((x30_2).toNat * 3)).off + 1, none⟩ = some (.int .i64 ((rd_T35 l1_2 x30_2).f1)) ∧ w'.cell? ⟨(ad526.add ((x30_2).toNat * 3)).block, (ad526.add ((x30_2).toNat * 3)).off + 2, none⟩ = some (.slice A526_2 ((rd_T35 l1_2 x30_2).f2).length c526_2)) (ds := []) #[Z,Z,Z,Z,Z,Z,Z,Z,Z,Z,Z,Z] (by kernel_rfl) rfl rfl ⟨bc0 BK523.out, bc1 BK523.out, bc2 BK523.out, bc0 BK524.out, bc1 BK524.out, bc2 BK524.out, (cb HB.out hw525_0), (cb HB.out hw525_1), (cb HB.out hw525_2), (cb HB.out hw526_0), (cb HB.out hw526_1), (cb HB.out hw526_2)⟩ (fun hHeld => ?_); refine with_tabW treenailplain_Term.tab6 treenailplain_Term.bits6 (fun HT_ HW_ => ?_)
       generalize wr.drew = w26 at BK523 BK524 HB HR525_2 HR526_2 hx525_0 hx525_1 hx525_2 hx526_0 hx526_1 hx526_2 hHeld ⊢
       refine pure_ (i := 0) (N := some 33) (v := ?_) (a' := ?_) #[Y,Z,Z,Z,Z,Z,Z,Z,Z,Z,Z,Z] rfl rfl (any_of HT_.out (by kernel_rfl)) (fun _ _ _ h => h) (Or.inl ⟨by rfl, ?_⟩) ?_ ?_
       rotate_left
       ·intro w'
        go_simp
        with_reducible rfl
       rotate_left
       ·simp only [Act.put, sS, sZ, sC, i64_w, i32_w]
        rfl
       refine pure_ (i := 2) (N := some 35) (v := ?_) (a' := ?_) #[Y,Z,Y,Z,Z,Z,Z,Z,Z,Z,Z,Z] rfl rfl (any_of HT_.out (by kernel_rfl)) (fun _ _ _ h => h) (Or.inl ⟨by rfl, ?_⟩) ?_ ?_
       rotate_left
       ·intro w'
        go_simp
        with_reducible rfl
       rotate_left
       ·simp only [Act.put, sS, sZ, sC, i64_w, i32_w]
        rfl
       refine pure_ (i := 5) (N := some 38) (v := ?_) (a' := ?_) #[Y,Z,Y,Z,Z,Y,Z,Z,Z,Z,Z,Z] rfl rfl (any_of HT_.out (by kernel_rfl)) (fun _ _ _ h => h) (Or.inl ⟨by rfl, ?_⟩) ?_ ?_
       rotate_left
       ·intro w'
        go_simp
        with_reducible rfl
       rotate_left
       ·simp only [Act.put, sS, sZ, sC, i64_w, i32_w]
        rfl
       refine pure_ (i := 7) (N := some 40) (v := ?_) (a' := ?_) #[Y,Z,Y,Z,Z,Y,Z,Y,Z,Z,Z,Z] rfl rfl (any_of HT_.out (by kernel_rfl)) (fun _ _ _ h => h) (Or.inl ⟨by rfl, ?_⟩) ?_ ?_
       rotate_left
       ·intro w'
        go_simp
        with_reducible rfl
       rotate_left
       ·simp only [Act.put, sS, sZ, sC, i64_w, i32_w]
        rfl
       refine take_ (i := 1) (N := some 34) (v := ?_) (a' := ?_) #[Y,Y,Y,Z,Z,Y,Z,Y,Z,Z,Z,Z] rfl rfl (take_ofW HT_.out HW_.out (by kernel_rfl)) (fun _ _ _ h => h) (Or.inl ⟨by rfl, ?_⟩) hHeld ?_ ?_
       rotate_left
       ·rintro w' ⟨s0, s1, s2, s3, s4, s5, s6, s7, s8, s9, s10, s11⟩
        go_simp
        with_reducible rfl
       rotate_left
       ·simp only [Act.put, sS, sZ, sC, i64_w, i32_w]
        rfl
       refine pure_ (i := 3) (N := some 36) (v := ?_) (a' := ?_) #[Y,Y,Y,Y,Z,Y,Z,Y,Z,Z,Z,Z] rfl rfl (any_of HT_.out (by kernel_rfl)) (fun _ _ _ h => h) (Or.inl ⟨by rfl, ?_⟩) ?_ ?_
       rotate_left
       ·intro w'
        go_simp
        with_reducible rfl
       rotate_left
       ·simp only [Act.put, sS, sZ, sC, i64_w, i32_w]
        rfl
       refine take_ (i := 4) (N := some 37) (v := ?_) (a' := ?_) #[Y,Y,Y,Y,Y,Y,Z,Y,Z,Z,Z,Z] rfl rfl (take_ofW HT_.out HW_.out (by kernel_rfl)) (fun _ _ _ h => h) (Or.inl ⟨by rfl, ?_⟩) hHeld ?_ ?_
       rotate_left
       ·rintro w' ⟨s0, s1, s2, s3, s4, s5, s6, s7, s8, s9, s10, s11⟩
        go_simp
        with_reducible rfl
       rotate_left
       ·simp only [Act.put, sS, sZ, sC, i64_w, i32_w]
        rfl
       refine take_ (i := 6) (N := some 39) (v := ?_) (a' := ?_) #[Y,Y,Y,Y,Y,Y,Y,Y,Z,Z,Z,Z] rfl rfl (take_ofW HT_.out HW_.out (by kernel_rfl)) (fun _ _ _ h => h) (Or.inl ⟨by rfl, ?_⟩) hHeld ?_ ?_
       rotate_left
       ·rintro w' ⟨s0, s1, s2, s3, s4, s5, s6, s7, s8, s9, s10, s11⟩
        go_simp
        with_reducible rfl
       rotate_left
       ·simp only [Act.put, sS, sZ, sC, i64_w, i32_w]
        rfl
       refine pure_ (i := 8) (N := some 41) (v := ?_) (a' := ?_) #[Y,Y,Y,Y,Y,Y,Y,Y,Y,Z,Z,Z] rfl rfl (any_of HT_.out (by kernel_rfl)) (fun _ _ _ h => h) (Or.inl ⟨by rfl, ?_⟩) ?_ ?_
       rotate_left
       ·intro w'
        go_simp
        with_reducible rfl
       rotate_left
       ·simp only [Act.put, sS, sZ, sC, i64_w, i32_w]
        rfl
       refine take_ (i := 9) (N := some 42) (v := ?_) (a' := ?_) #[Y,Y,Y,Y,Y,Y,Y,Y,Y,Y,Z,Z] rfl rfl (take_ofW HT_.out HW_.out (by kernel_rfl)) (fun _ _ _ h => h) (Or.inl ⟨by rfl, ?_⟩) hHeld ?_ ?_
       rotate_left
       ·rintro w' ⟨s0, s1, s2, s3, s4, s5, s6, s7, s8, s9, s10, s11⟩
        go_simp
        with_reducible rfl
       rotate_left
       ·simp only [Act.put, sS, sZ, sC, i64_w, i32_w]
        rfl
       refine one_ (i := 10) (N := some 43) #[Y,Y,Y,Y,Y,Y,Y,Y,Y,Y,Y,Z] rfl rfl (one_of HT_.out (by kernel_rfl)) (by decide) (fun K hK => ?_)
       refine goes_ Tryd.func48 (by kernel_rfl) rfl #[.agg #[.int .i64 ((rd_T35 l0_2 x30_2).f0), .int .i64 ((rd_T35 l0_2 x30_2).f1), .slice A525_2 ((rd_T35 l0_2 x30_2).f2).length c525_2], .agg #[.int .i64 ((rd_T35 l1_2 x30_2).f0), .int .i64 ((rd_T35 l1_2 x30_2).f1), .slice A526_2 ((rd_T35 l1_2 x30_2).f2).length c526_2]] (by rfl) rfl rfl ag ?_
       with_reducible refine (ih k2 (by have := HJ2.out; have := HK2.out; omega) ((rd_T35 l0_2 x30_2).f0) ((rd_T35 l0_2 x30_2).f1) _ _ ((rd_T35 l0_2 x30_2).f2) ((rd_T35 l1_2 x30_2).f0) ((rd_T35 l1_2 x30_2).f1) _ _ ((rd_T35 l1_2 x30_2).f2) t527 _ ?side1 ?side2 ?side3 ?side4 A24.out).mono ?_
       (case side1 => exact cx (Kd.C_below HR525_2.out HB.out))
       (case side2 => exact HC525_2.out)
       (case side3 => exact cx (Kd.C_below HR526_2.out HB.out))
       (case side4 => exact HC526_2.out)
       rintro e w27 ⟨rfl, hb⟩
       refine ⟨_, rfl, ?_⟩
       replace BK523 := zm (kB (kx BK523.out) hb)
       replace BK524 := zm (kB (kx BK524.out) hb)
       replace HB := zm (below_step (bx HB.out) hb)
       (try clear hb)
       (try clear hb2)
       (try clear hk)
       (try clear hi)
       refine hK.out _ _ ⟨bc0 BK523.out, bc1 BK523.out, bc2 BK523.out, bc0 BK524.out, bc1 BK524.out, bc2 BK524.out, (cb HB.out hw525_0), (cb HB.out hw525_1), (cb HB.out hw525_2), (cb HB.out hw526_0), (cb HB.out hw526_1), (cb HB.out hw526_2)⟩ (fun hHeld => ?_)
       clear hK K
       refine norm_ (a' := ?_) ?_ ?_
       rotate_left
       ·show Act.put _ (some 43) _ = _
        simp only [Act.put, sS, sZ, sC, i64_w, i32_w]
        rfl
       refine pure_ (i := 11) (N := some 44) (v := ?_) (a' := ?_) #[Y,Y,Y,Y,Y,Y,Y,Y,Y,Y,Y,Y] rfl rfl (any_of HT_.out (by kernel_rfl)) (fun _ _ _ h => h) (Or.inl ⟨by rfl, ?_⟩) ?_ ?_
       rotate_left
       ·intro w'
        go_simp
        with_reducible rfl
       rotate_left
       ·simp only [Act.put, sS, sZ, sC, i64_w, i32_w]
        rfl
       refine done_ (done_of HT_.out (by kernel_rfl)) ?_
       go_upto_if 44 with (fail)
       have H := HC25.out
       clear HC25
       by_cases c28 : t527 = true
       ·subst c28
        rw [if_pos rfl] at H
        have H' := zm H
        clear H
        go_wp2
        go_roundg k2
        case measure => have := HJ2.out; have := HK2.out; omega
        case rel => exact ⟨(wrap64 (x30_2 + 1)), (by first | rfl | (simp; done) | (simp [*]; done)), H', ⟨by have := HJ2.out; have := HK2.out; omega⟩, ⟨kx BK523.out⟩, ⟨kx BK524.out⟩, ⟨bx HB.out⟩⟩
       replace c28 := Bool.eq_false_iff.mpr c28
       subst c28
       rw [if_neg (show ¬ (false = true) by decide)] at H
       obtain rfl := Option.some.inj H
       go_wp2
       go_ret
       exact ⟨xe, bx HB.out⟩
      rw [if_neg c23] at H
      exact absurd H (by simp)
     rw [if_neg c22] at H
     exact absurd H (by simp)
    rw [if_neg c21] at H
    exact absurd H (by simp)
   rw [if_neg c20] at H
   have c20b0 := decide_eq_false c20
   try (have c20b9 := c20b0; rw [hl526_2] at c20b9)
   try (have c20b9 := c20b0; rw [hl525_2] at c20b9)
   clear c20
   obtain rfl := Option.some.inj H
   go_wp2
   go_ret
   exact ⟨xe, bx HB.out⟩

end Go.Proofs.YtdaeiicdpfghlaaDoor.R
