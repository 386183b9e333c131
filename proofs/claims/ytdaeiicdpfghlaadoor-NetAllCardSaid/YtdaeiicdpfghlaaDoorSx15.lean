import Derived.Test.YtdaeiicdpfghlaaDoorSx0
import Derived.Test.YtdaeiicdpfghlaaDoorSx3
import Derived.Test.YtdaeiicdpfghlaaDoorSx5
import Derived.Test.YtdaeiicdpfghlaaDoorSx7
import Derived.Test.YtdaeiicdpfghlaaDoorSx14
namespace Go.Proofs.YtdaeiicdpfghlaaDoor.R
open Go.RowKit Go.Proofs.YtdaeiicdpfghlaaDoorW.PrintWords Go.Proofs.YtdaeiicdpfghlaaDoorW.PrintLast Go.Proofs.YtdaeiicdpfghlaaDoorW.PrintMore
attribute [local go_sem] max2_int min2_int max_two min_two max_three min_three max_four min_four   -- for this text's walks alone
set_option linter.unusedVariables false
set_option linter.unusedSimpArgs false

mutual
def treenailref03_form.j0 : Nat → Bool → Int → Int → List (S35) → Option (Bool)
 | 0, _, _, _, _ => none
 | k + 1, x26, x336000, x336001, x336002 => if x26 = true then (some false) else (if x336000 = 1 then (if x336001 > 1099511627776 then (treenailref03_form.j1 k true x336000 x336001 x336002) else (if x336000 = 2 then (if x336001 > 3 then (treenailref03_form.j1 k true x336000 x336001 x336002) else (if x336000 > 2 then (treenailref03_form.j1 k (x336001 != 0) x336000 x336001 x336002) else (treenailref03_form.j1 k false x336000 x336001 x336002))) else (if x336000 > 2 then (treenailref03_form.j1 k (x336001 != 0) x336000 x336001 x336002) else (treenailref03_form.j1 k false x336000 x336001 x336002)))) else (if x336000 = 2 then (if x336001 > 3 then (treenailref03_form.j1 k true x336000 x336001 x336002) else (if x336000 > 2 then (treenailref03_form.j1 k (x336001 != 0) x336000 x336001 x336002) else (treenailref03_form.j1 k false x336000 x336001 x336002))) else (if x336000 > 2 then (treenailref03_form.j1 k (x336001 != 0) x336000 x336001 x336002) else (treenailref03_form.j1 k false x336000 x336001 x336002))))
def treenailref03_form.j1 : Nat → Bool → Int → Int → List (S35) → Option (Bool)
 | 0, _, _, _, _ => none
 | k + 1, x54, x336000, x336001, x336002 => if x54 = true then (some false) else (treenailref03_form.l0 k x336002 (x336002.length : Int) 0)
def treenailref03_form.l0 : Nat → List (S35) → Int → Int → Option (Bool)
 | 0, _, _, _ => none
 | k + 1, x56, x57, x58 => if x58 < x57 then (if 0 ≤ x58 then (if x58 < (x56.length : Int) then ((treenailref03_form.f k ((rd_T35 x56 x58).f0) ((rd_T35 x56 x58).f1) ((rd_T35 x56 x58).f2)).bind fun t339 => (if t339 = true then (treenailref03_form.l0 k x56 x57 (wrap64 (x58 + 1))) else (some false))) else (none)) else (none)) else (some true)
def treenailref03_form.f : Nat → Int → Int → List (S35) → Option (Bool)
 | 0, _, _, _ => none
 | k + 1, a0_0, a0_1, l0_2 => if a0_0 < 1 then (treenailref03_form.j0 k true a0_0 a0_1 l0_2) else (if a0_0 > 14 then (treenailref03_form.j0 k true a0_0 a0_1 l0_2) else ((treenailref03_kids.f a0_0).bind fun t336 => (if (l0_2.length : Int) = t336 then (treenailref03_form.j0 k (decide (a0_1 < 0)) a0_0 a0_1 l0_2) else (treenailref03_form.j0 k true a0_0 a0_1 l0_2))))
end
set_option maxRecDepth 100000 in
theorem treenailref03_form.mono_l : ∀ k, (∀ y0 y1 y2, LeO (treenailref03_form.f k y0 y1 y2) (treenailref03_form.f (k + 1) y0 y1 y2)) ∧ (∀ y0 y1 y2 y3, LeO (treenailref03_form.j0 k y0 y1 y2 y3) (treenailref03_form.j0 (k + 1) y0 y1 y2 y3)) ∧ (∀ y0 y1 y2 y3, LeO (treenailref03_form.j1 k y0 y1 y2 y3) (treenailref03_form.j1 (k + 1) y0 y1 y2 y3)) ∧ (∀ y0 y1 y2, LeO (treenailref03_form.l0 k y0 y1 y2) (treenailref03_form.l0 (k + 1) y0 y1 y2))
 | 0 => ⟨fun _ _ _ r h => by first | (cases h; done) | simp [treenailref03_form.f] at h, fun _ _ _ _ r h => by first | (cases h; done) | simp [treenailref03_form.j0] at h, fun _ _ _ _ r h => by first | (cases h; done) | simp [treenailref03_form.j1] at h, fun _ _ _ r h => by first | (cases h; done) | simp [treenailref03_form.l0] at h⟩
 | k + 1 => by
  obtain ⟨ih0, ih1, ih2, ih3⟩ := treenailref03_form.mono_l k
  refine ⟨?_, ?_, ?_, ?_⟩
  all_goals intros
  all_goals first | unfold treenailref03_form.f | unfold treenailref03_form.j0 | unfold treenailref03_form.j1 | unfold treenailref03_form.l0
  all_goals repeat' first
  | (with_reducible exact ih0 _ _ _)
  | (with_reducible exact ih1 _ _ _ _)
  | (with_reducible exact ih2 _ _ _ _)
  | (with_reducible exact ih3 _ _ _)
  | (with_reducible exact LeO.refl _)
  | (with_reducible exact LeO.none _)
  | (with_reducible refine LeO.ite ?_ ?_)
  | (with_reducible refine LeO.bind ?_ (fun _ => ?_))
  | refine LeO.ite ?_ ?_
  | refine LeO.bind ?_ (fun _ => ?_)
set_option maxRecDepth 100000 in
theorem treenailref03_form.mono : ∀ a0 a1 a2 k, LeO (treenailref03_form.f k a0 a1 a2) (treenailref03_form.f (k + 1) a0 a1 a2) := by
 intro a0 a1 a2 k
 obtain ⟨ih0, ih1, ih2, ih3⟩ := treenailref03_form.mono_l k
 exact ih0 a0 a1 a2
set_option maxHeartbeats 8000000 in
set_option maxRecDepth 100000 in
theorem treenailref03_form.calls (k : Nat) : ∀ (a0_0 : Int) (a0_1 : Int) (A0_2 : Option Addr) (c0_2 : Nat) (l0_2 : List (S35)) (r : Bool) (w : World) (hr0_2 : Kd.C k35 w A0_2 l0_2.length l0_2) (hc0_2 : l0_2.length ≤ c0_2) (h : treenailref03_form.f k a0_0 a0_1 l0_2 = some r),
  Calls Tryd.prog 64 #[.agg #[.int .i64 a0_0, .int .i64 a0_1, .slice A0_2 l0_2.length c0_2]] w fun e w' => e = .returned (.bool r) ∧ Below w.heap.size w w' := by
 induction k using Nat.strongRecOn with
 | _ k ih =>
 intro a0_0 a0_1 A0_2 c0_2 l0_2 r w hr0_2 hc0_2 h
 cases k with
 | zero => exact absurd h (by first | (intro h_; cases h_; done) | simp [treenailref03_form.f])
 | succ k =>
 simp only [treenailref03_form.f] at h
 have hu35 := Tryd.underlying35
 have HR0_2 := zm hr0_2
 have HC0_2 := zm hc0_2
 clear hr0_2 hc0_2
 have HB := zm (Below.refl w.heap.size w)
 have H : (if a0_0 < 1 then (treenailref03_form.j0 k true a0_0 a0_1 l0_2) else (if a0_0 > 14 then (treenailref03_form.j0 k true a0_0 a0_1 l0_2) else ((treenailref03_kids.f a0_0).bind fun t336 => (if (l0_2.length : Int) = t336 then (treenailref03_form.j0 k (decide (a0_1 < 0)) a0_0 a0_1 l0_2) else (treenailref03_form.j0 k true a0_0 a0_1 l0_2))))) = some r := h
 clear h
 have HC2 := zm H
 clear H
 go_enter Tryd.func64, Tryd.ntmps64
 go_upto_region 1 with (first | ((with_reducible refine gate_dst (N := 1) rfl ?_); (try (refine gate_guard (by rfl) ?_; dsimp only)); refine box_event ?hg (N := 1) ?hd (cs := #[.int .i64 a0_0, .int .i64 a0_1, .slice A0_2 l0_2.length c0_2]) (t := 35) ?hr ?_; (case hd => rfl); (case hg => rfl); (case hr => first | (go_simp; done) | (go_simp; rfl)); intro gb335 hg w3 hbox hb; have BK335 := zm (hbox); have GW335 := zm ((by rw [hg]; exact (below_size (bx HB.out)) : w.heap.size ≤ gb335)); have GE335 := zm ((by rw [hg]; exact (below_size (bx HB.out)) : w.heap.size ≤ gb335)); replace HB := zm (below_step (bx HB.out) hb); clear hb hbox hg))
 (try simp only [Act.put, sS, sZ, sC])
 go_cut [26] (fun v26 wc => ∃ (kq : Nat) (x26_1 : Bool), v26 = .bool x26_1 ∧ Aside0 (treenailref03_form.j0 kq x26_1 a0_0 a0_1 l0_2 = some r) ∧ Aside0 (kq ≤ k) ∧ Aside0 (wc.heap[gb335]? = some (.cells #[.int .i64 a0_0, .int .i64 a0_1, (.slice A0_2 l0_2.length c0_2)] 35 (0, 0))) ∧ Aside0 (Below w.heap.size w wc))
 case first =>
  have H := HC2.out
  clear HC2
  by_cases c4 : a0_0 < 1
  ·rw [if_pos c4] at H
   have c4b0 := decide_eq_true c4
   clear c4
   (first | rw [c4b0] | (simp only [i64_w, i32_w]; rw [c4b0]) | skip)
   have H' := zm H
   clear H
   have hcz5_0 := bc0 BK335.out
   have hcz5_1 := bc1 BK335.out
   have hcz5_2 := bc2 BK335.out
   have hfz5_0 := bF BK335.out 0
   have hfz5_1 := bF BK335.out 1
   have hfz5_2 := bF BK335.out 2
   go_wp2
   repeat (go_quiet (fail); try go_wp2)
   go_meet
   case rel => exact ⟨_, (true), (by first | rfl | (simp; done) | (simp [*]; done)), H', ⟨by first | omega | exact Nat.le_refl _⟩, ⟨kx BK335.out⟩, ⟨bx HB.out⟩⟩
  rw [if_neg c4] at H
  have c4b0 := decide_eq_false c4
  clear c4
  (first | rw [c4b0] | (simp only [i64_w, i32_w]; rw [c4b0]) | skip)
  by_cases c6 : a0_0 > 14
  ·rw [if_pos c6] at H
   have c6b0 : decide (14 < a0_0) = true := decide_eq_true c6
   clear c6
   have H' := zm H
   clear H
   have hcz7_0 := bc0 BK335.out
   have hcz7_1 := bc1 BK335.out
   have hcz7_2 := bc2 BK335.out
   have hfz7_0 := bF BK335.out 0
   have hfz7_1 := bF BK335.out 1
   have hfz7_2 := bF BK335.out 2
   go_wp2
   repeat (go_quiet (fail); try go_wp2)
   go_meet
   case rel => exact ⟨_, (true), (by first | rfl | (simp; done) | (simp [*]; done)), H', ⟨by first | omega | exact Nat.le_refl _⟩, ⟨kx BK335.out⟩, ⟨bx HB.out⟩⟩
  rw [if_neg c6] at H
  have c6b0 : decide (14 < a0_0) = false := decide_eq_false c6
  clear c6
  replace H := Option.bind_eq_some_iff.mp H
  obtain ⟨t336, A80, H⟩ := H
  replace H : (if (l0_2.length : Int) = t336 then (treenailref03_form.j0 k (decide (a0_1 < 0)) a0_0 a0_1 l0_2) else (treenailref03_form.j0 k true a0_0 a0_1 l0_2)) = some r := H
  have A8 := zm A80
  clear A80
  by_cases c9 : (l0_2.length : Int) = t336
  ·rw [if_pos c9] at H
   have c9b0 := beq_iff_eq.mpr c9
   have c9b1 := bne_eq_false_iff_eq.mpr c9
   clear c9
   have H' := zm H
   clear H
   have hcz10_0 := bc0 BK335.out
   have hcz10_1 := bc1 BK335.out
   have hcz10_2 := bc2 BK335.out
   have hfz10_0 := bF BK335.out 0
   have hfz10_1 := bF BK335.out 1
   have hfz10_2 := bF BK335.out 2
   go_wp2_with (first | (go_at_call 69; (with_reducible refine (treenailref03_kids.calls a0_0 t336 _ A8.out).mono ?_); rintro e w' ⟨rfl, ⟨nd, rfl⟩⟩; (try first | exact ⟨rfl, _, World.drewN_drewN _ _ _⟩ | exact ⟨rfl, _, Eq.trans (World.drewN_drewN _ _ _) (congrArg (World.drewN _) (Nat.add_assoc _ _ _))⟩)))
   repeat (go_quiet (first | (go_at_call 69; (with_reducible refine (treenailref03_kids.calls a0_0 t336 _ A8.out).mono ?_); rintro e w' ⟨rfl, ⟨nd, rfl⟩⟩; (try first | exact ⟨rfl, _, World.drewN_drewN _ _ _⟩ | exact ⟨rfl, _, Eq.trans (World.drewN_drewN _ _ _) (congrArg (World.drewN _) (Nat.add_assoc _ _ _))⟩))); try go_wp2_with (first | (go_at_call 69; (with_reducible refine (treenailref03_kids.calls a0_0 t336 _ A8.out).mono ?_); rintro e w' ⟨rfl, ⟨nd, rfl⟩⟩; (try first | exact ⟨rfl, _, World.drewN_drewN _ _ _⟩ | exact ⟨rfl, _, Eq.trans (World.drewN_drewN _ _ _) (congrArg (World.drewN _) (Nat.add_assoc _ _ _))⟩))))
   go_meet
   case rel => exact ⟨_, (decide (a0_1 < 0)), (by first | rfl | (simp; done) | (simp [*]; done)), H', ⟨by first | omega | exact Nat.le_refl _⟩, ⟨kx BK335.out⟩, ⟨bx HB.out⟩⟩
  rw [if_neg c9] at H
  have c9b0 := beq_eq_false_iff_ne.mpr c9
  have c9b1 := bne_iff_ne.mpr c9
  have H' := zm H
  clear H
  have hcz11_0 := bc0 BK335.out
  have hcz11_1 := bc1 BK335.out
  have hcz11_2 := bc2 BK335.out
  have hfz11_0 := bF BK335.out 0
  have hfz11_1 := bF BK335.out 1
  have hfz11_2 := bF BK335.out 2
  go_wp2_with (first | (go_at_call 69; (with_reducible refine (treenailref03_kids.calls a0_0 t336 _ A8.out).mono ?_); rintro e w' ⟨rfl, ⟨nd, rfl⟩⟩; (try first | exact ⟨rfl, _, World.drewN_drewN _ _ _⟩ | exact ⟨rfl, _, Eq.trans (World.drewN_drewN _ _ _) (congrArg (World.drewN _) (Nat.add_assoc _ _ _))⟩)))
  repeat (go_quiet (first | (go_at_call 69; (with_reducible refine (treenailref03_kids.calls a0_0 t336 _ A8.out).mono ?_); rintro e w' ⟨rfl, ⟨nd, rfl⟩⟩; (try first | exact ⟨rfl, _, World.drewN_drewN _ _ _⟩ | exact ⟨rfl, _, Eq.trans (World.drewN_drewN _ _ _) (congrArg (World.drewN _) (Nat.add_assoc _ _ _))⟩))); try go_wp2_with (first | (go_at_call 69; (with_reducible refine (treenailref03_kids.calls a0_0 t336 _ A8.out).mono ?_); rintro e w' ⟨rfl, ⟨nd, rfl⟩⟩; (try first | exact ⟨rfl, _, World.drewN_drewN _ _ _⟩ | exact ⟨rfl, _, Eq.trans (World.drewN_drewN _ _ _) (congrArg (World.drewN _) (Nat.add_assoc _ _ _))⟩))))
  go_meet
  case rel => exact ⟨_, (true), (by first | rfl | (simp; done) | (simp [*]; done)), H', ⟨by first | omega | exact Nat.le_refl _⟩, ⟨kx BK335.out⟩, ⟨bx HB.out⟩⟩
 clear HC2
 try clear p2
 try clear c4
 try clear c4b0
 try clear c6
 try clear c6b0
 try clear c9
 try clear c9b0
 try clear c9b1
 try clear BK335
 obtain ⟨kq, x26_1, rfl, HA, HJ1, BK335, HB⟩ := hcut
 cases kq with
 | zero => exact absurd HA.out (by first | (intro h_; cases h_; done) | simp [treenailref03_form.j0])
 | succ kj1 =>
  have H := HA.out
  clear HA
  simp only [treenailref03_form.j0] at H
  by_cases c12 : x26_1 = true
  ·subst c12
   rw [if_pos rfl] at H
   obtain rfl := Option.some.inj H
   go_wp2
   repeat (go_quiet (fail); try go_wp2)
   go_ret
   exact ⟨xe, bx HB.out⟩
  replace c12 := Bool.eq_false_iff.mpr c12
  subst c12
  rw [if_neg (show ¬ (false = true) by decide)] at H
  have HC13 := zm H
  clear H
  go_upto_region 3 with (fail)
  repeat (go_quiet (fail); go_upto_region 3 with (fail))
  go_cut [54] (fun v54 wc => ∃ (kq : Nat) (x54_12 : Bool), v54 = .bool x54_12 ∧ Aside0 (treenailref03_form.j1 kq x54_12 a0_0 a0_1 l0_2 = some r) ∧ Aside0 (kq ≤ kj1) ∧ Aside0 (wc.heap[gb335]? = some (.cells #[.int .i64 a0_0, .int .i64 a0_1, (.slice A0_2 l0_2.length c0_2)] 35 (0, 0))) ∧ Aside0 (Below w.heap.size w wc))
  case first =>
   have H := HC13.out
   clear HC13
   by_cases c14 : a0_0 = 1
   ·rw [if_pos c14] at H
    have c14b0 := beq_iff_eq.mpr c14
    have c14b1 := bne_eq_false_iff_eq.mpr c14
    clear c14
    (first | rw [c14b0] | (simp only [i64_w, i32_w]; rw [c14b0]) | rw [c14b1] | skip)
    by_cases c15 : a0_1 > 1099511627776
    ·rw [if_pos c15] at H
     have c15b0 : decide (1099511627776 < a0_1) = true := decide_eq_true c15
     clear c15
     have H' := zm H
     clear H
     have hcz16_0 := bc0 BK335.out
     have hcz16_1 := bc1 BK335.out
     have hcz16_2 := bc2 BK335.out
     have hfz16_0 := bF BK335.out 0
     have hfz16_1 := bF BK335.out 1
     have hfz16_2 := bF BK335.out 2
     go_wp2
     repeat (go_quiet (fail); try go_wp2)
     go_meet
     case rel => exact ⟨_, (true), (by first | rfl | (simp; done) | (simp [*]; done)), H', ⟨by have := HJ1.out; first | omega | exact Nat.le_refl _⟩, ⟨kx BK335.out⟩, ⟨bx HB.out⟩⟩
    rw [if_neg c15] at H
    have c15b0 : decide (1099511627776 < a0_1) = false := decide_eq_false c15
    clear c15
    by_cases c17 : a0_0 = 2
    ·rw [if_pos c17] at H
     have c17b0 := beq_iff_eq.mpr c17
     have c17b1 := bne_eq_false_iff_eq.mpr c17
     clear c17
     by_cases c18 : a0_1 > 3
     ·rw [if_pos c18] at H
      have c18b0 : decide (3 < a0_1) = true := decide_eq_true c18
      clear c18
      have H' := zm H
      clear H
      have hcz19_0 := bc0 BK335.out
      have hcz19_1 := bc1 BK335.out
      have hcz19_2 := bc2 BK335.out
      have hfz19_0 := bF BK335.out 0
      have hfz19_1 := bF BK335.out 1
      have hfz19_2 := bF BK335.out 2
      go_wp2
      repeat (go_quiet (fail); try go_wp2)
      go_meet
      case rel => exact ⟨_, (true), (by first | rfl | (simp; done) | (simp [*]; done)), H', ⟨by have := HJ1.out; first | omega | exact Nat.le_refl _⟩, ⟨kx BK335.out⟩, ⟨bx HB.out⟩⟩
     rw [if_neg c18] at H
     have c18b0 : decide (3 < a0_1) = false := decide_eq_false c18
     clear c18
     by_cases c20 : a0_0 > 2
     ·rw [if_pos c20] at H
      have c20b0 : decide (2 < a0_0) = true := decide_eq_true c20
      clear c20
      have H' := zm H
      clear H
      have hcz21_0 := bc0 BK335.out
      have hcz21_1 := bc1 BK335.out
      have hcz21_2 := bc2 BK335.out
      have hfz21_0 := bF BK335.out 0
      have hfz21_1 := bF BK335.out 1
      have hfz21_2 := bF BK335.out 2
      go_wp2
      repeat (go_quiet (fail); try go_wp2)
      go_meet
      case rel => exact ⟨_, ((a0_1 != 0)), (by first | rfl | (simp; done) | (simp [*]; done)), H', ⟨by have := HJ1.out; first | omega | exact Nat.le_refl _⟩, ⟨kx BK335.out⟩, ⟨bx HB.out⟩⟩
     rw [if_neg c20] at H
     have c20b0 : decide (2 < a0_0) = false := decide_eq_false c20
     clear c20
     have H' := zm H
     clear H
     have hcz22_0 := bc0 BK335.out
     have hcz22_1 := bc1 BK335.out
     have hcz22_2 := bc2 BK335.out
     have hfz22_0 := bF BK335.out 0
     have hfz22_1 := bF BK335.out 1
     have hfz22_2 := bF BK335.out 2
     go_wp2
     repeat (go_quiet (fail); try go_wp2)
     go_meet
     case rel => exact ⟨_, (false), (by first | rfl | (simp; done) | (simp [*]; done)), H', ⟨by have := HJ1.out; first | omega | exact Nat.le_refl _⟩, ⟨kx BK335.out⟩, ⟨bx HB.out⟩⟩
    rw [if_neg c17] at H
    have c17b0 := beq_eq_false_iff_ne.mpr c17
    have c17b1 := bne_iff_ne.mpr c17
    by_cases c23 : a0_0 > 2
    ·rw [if_pos c23] at H
     have c23b0 : decide (2 < a0_0) = true := decide_eq_true c23
     clear c23
     have H' := zm H
     clear H
     have hcz24_0 := bc0 BK335.out
     have hcz24_1 := bc1 BK335.out
     have hcz24_2 := bc2 BK335.out
     have hfz24_0 := bF BK335.out 0
     have hfz24_1 := bF BK335.out 1
     have hfz24_2 := bF BK335.out 2
     go_wp2
     repeat (go_quiet (fail); try go_wp2)
     go_meet
     case rel => exact ⟨_, ((a0_1 != 0)), (by first | rfl | (simp; done) | (simp [*]; done)), H', ⟨by have := HJ1.out; first | omega | exact Nat.le_refl _⟩, ⟨kx BK335.out⟩, ⟨bx HB.out⟩⟩
    rw [if_neg c23] at H
    have c23b0 : decide (2 < a0_0) = false := decide_eq_false c23
    clear c23
    have H' := zm H
    clear H
    have hcz25_0 := bc0 BK335.out
    have hcz25_1 := bc1 BK335.out
    have hcz25_2 := bc2 BK335.out
    have hfz25_0 := bF BK335.out 0
    have hfz25_1 := bF BK335.out 1
    have hfz25_2 := bF BK335.out 2
    go_wp2
    repeat (go_quiet (fail); try go_wp2)
    go_meet
    case rel => exact ⟨_, (false), (by first | rfl | (simp; done) | (simp [*]; done)), H', ⟨by have := HJ1.out; first | omega | exact Nat.le_refl _⟩, ⟨kx BK335.out⟩, ⟨bx HB.out⟩⟩
   rw [if_neg c14] at H
   have c14b0 := beq_eq_false_iff_ne.mpr c14
   have c14b1 := bne_iff_ne.mpr c14
   (first | rw [c14b0] | (simp only [i64_w, i32_w]; rw [c14b0]) | rw [c14b1] | skip)
   by_cases c26 : a0_0 = 2
   ·rw [if_pos c26] at H
    have c26b0 := beq_iff_eq.mpr c26
    have c26b1 := bne_eq_false_iff_eq.mpr c26
    clear c26
    by_cases c27 : a0_1 > 3
    ·rw [if_pos c27] at H
     have c27b0 : decide (3 < a0_1) = true := decide_eq_true c27
     clear c27
     have H' := zm H
     clear H
     have hcz28_0 := bc0 BK335.out
     have hcz28_1 := bc1 BK335.out
     have hcz28_2 := bc2 BK335.out
     have hfz28_0 := bF BK335.out 0
     have hfz28_1 := bF BK335.out 1
     have hfz28_2 := bF BK335.out 2
     go_wp2
     repeat (go_quiet (fail); try go_wp2)
     go_meet
     case rel => exact ⟨_, (true), (by first | rfl | (simp; done) | (simp [*]; done)), H', ⟨by have := HJ1.out; first | omega | exact Nat.le_refl _⟩, ⟨kx BK335.out⟩, ⟨bx HB.out⟩⟩
    rw [if_neg c27] at H
    have c27b0 : decide (3 < a0_1) = false := decide_eq_false c27
    clear c27
    by_cases c29 : a0_0 > 2
    ·rw [if_pos c29] at H
     have c29b0 : decide (2 < a0_0) = true := decide_eq_true c29
     clear c29
     have H' := zm H
     clear H
     have hcz30_0 := bc0 BK335.out
     have hcz30_1 := bc1 BK335.out
     have hcz30_2 := bc2 BK335.out
     have hfz30_0 := bF BK335.out 0
     have hfz30_1 := bF BK335.out 1
     have hfz30_2 := bF BK335.out 2
     go_wp2
     repeat (go_quiet (fail); try go_wp2)
     go_meet
     case rel => exact ⟨_, ((a0_1 != 0)), (by first | rfl | (simp; done) | (simp [*]; done)), H', ⟨by have := HJ1.out; first | omega | exact Nat.le_refl _⟩, ⟨kx BK335.out⟩, ⟨bx HB.out⟩⟩
    rw [if_neg c29] at H
    have c29b0 : decide (2 < a0_0) = false := decide_eq_false c29
    clear c29
    have H' := zm H
    clear H
    have hcz31_0 := bc0 BK335.out
    have hcz31_1 := bc1 BK335.out
    have hcz31_2 := bc2 BK335.out
    have hfz31_0 := bF BK335.out 0
    have hfz31_1 := bF BK335.out 1
    have hfz31_2 := bF BK335.out 2
    go_wp2
    repeat (go_quiet (fail); try go_wp2)
    go_meet
    case rel => exact ⟨_, (false), (by first | rfl | (simp; done) | (simp [*]; done)), H', ⟨by have := HJ1.out; first | omega | exact Nat.le_refl _⟩, ⟨kx BK335.out⟩, ⟨bx HB.out⟩⟩
   rw [if_neg c26] at H
   have c26b0 := beq_eq_false_iff_ne.mpr c26
   have c26b1 := bne_iff_ne.mpr c26
   by_cases c32 : a0_0 > 2
   ·rw [if_pos c32] at H
    have c32b0 : decide (2 < a0_0) = true := decide_eq_true c32
    clear c32
    have H' := zm H
    clear H
    have hcz33_0 := bc0 BK335.out
    have hcz33_1 := bc1 BK335.out
    have hcz33_2 := bc2 BK335.out
    have hfz33_0 := bF BK335.out 0
    have hfz33_1 := bF BK335.out 1
    have hfz33_2 := bF BK335.out 2
    go_wp2
    repeat (go_quiet (fail); try go_wp2)
    go_meet
    case rel => exact ⟨_, ((a0_1 != 0)), (by first | rfl | (simp; done) | (simp [*]; done)), H', ⟨by have := HJ1.out; first | omega | exact Nat.le_refl _⟩, ⟨kx BK335.out⟩, ⟨bx HB.out⟩⟩
   rw [if_neg c32] at H
   have c32b0 : decide (2 < a0_0) = false := decide_eq_false c32
   clear c32
   have H' := zm H
   clear H
   have hcz34_0 := bc0 BK335.out
   have hcz34_1 := bc1 BK335.out
   have hcz34_2 := bc2 BK335.out
   have hfz34_0 := bF BK335.out 0
   have hfz34_1 := bF BK335.out 1
   have hfz34_2 := bF BK335.out 2
   go_wp2
   repeat (go_quiet (fail); try go_wp2)
   go_meet
   case rel => exact ⟨_, (false), (by first | rfl | (simp; done) | (simp [*]; done)), H', ⟨by have := HJ1.out; first | omega | exact Nat.le_refl _⟩, ⟨kx BK335.out⟩, ⟨bx HB.out⟩⟩
  clear HC13
  try clear c1
  try clear c2
  try clear p2
  try clear c3
  try clear c4
  try clear c4b0
  try clear c6
  try clear c6b0
  try clear c9
  try clear c9b0
  try clear c9b1
  try clear c12
  try clear c14
  try clear c14b0
  try clear c14b1
  try clear c15
  try clear c15b0
  try clear c17
  try clear c17b0
  try clear c17b1
  try clear c18
  try clear c18b0
  try clear c20
  try clear c20b0
  try clear c23
  try clear c23b0
  try clear c26
  try clear c26b0
  try clear c26b1
  try clear c27
  try clear c27b0
  try clear c29
  try clear c29b0
  try clear c32
  try clear c32b0
  try clear p2
  try clear BK335
  obtain ⟨kq, x54_12, rfl, HA, HJ12, BK335, HB⟩ := hcut
  cases kq with
  | zero => exact absurd HA.out (by first | (intro h_; cases h_; done) | simp [treenailref03_form.j1])
  | succ kj12 =>
   have H := HA.out
   clear HA
   simp only [treenailref03_form.j1] at H
   by_cases c35 : x54_12 = true
   ·subst c35
    rw [if_pos rfl] at H
    obtain rfl := Option.some.inj H
    go_wp2
    repeat (go_quiet (fail); try go_wp2)
    go_ret
    exact ⟨xe, bx HB.out⟩
   replace c35 := Bool.eq_false_iff.mpr c35
   subst c35
   rw [if_neg (show ¬ (false = true) by decide)] at H
   have H' := zm H
   clear H
   have hcz36_0 := bc0 BK335.out
   have hcz36_1 := bc1 BK335.out
   have hcz36_2 := bc2 BK335.out
   have hfz36_0 := bF BK335.out 0
   have hfz36_1 := bF BK335.out 1
   have hfz36_2 := bF BK335.out 2
   go_wp2
   repeat (go_quiet (fail); try go_wp2)
   go_loopg [58] kj12 (fun kq v58 w' => ∃ (x58_3 : Int), v58 = .int .i64 x58_3 ∧ Aside0 (treenailref03_form.l0 kq l0_2 (l0_2.length : Int) x58_3 = some r) ∧ Aside0 (kq ≤ kj12) ∧ Aside0 (w'.heap[gb335]? = some (.cells #[.int .i64 a0_0, .int .i64 a0_1, (.slice A0_2 l0_2.length c0_2)] 35 (0, 0))) ∧ Aside0 (Below w.heap.size w w'))
   case atStart => exact ⟨(0), (by first | rfl | (simp; done) | (simp [*]; done)), H', ⟨Nat.le_refl _⟩, ⟨kx BK335.out⟩, ⟨bx HB.out⟩⟩
   clear H'
   try clear c1
   try clear c2
   try clear p2
   try clear c3
   try clear c4
   try clear c4b0
   try clear c6
   try clear c6b0
   try clear c9
   try clear c9b0
   try clear c9b1
   try clear c12
   try clear c14
   try clear c14b0
   try clear c14b1
   try clear c15
   try clear c15b0
   try clear c17
   try clear c17b0
   try clear c17b1
   try clear c18
   try clear c18b0
   try clear c20
   try clear c20b0
   try clear c23
   try clear c23b0
   try clear c26
   try clear c26b0
   try clear c26b1
   try clear c27
   try clear c27b0
   try clear c29
   try clear c29b0
   try clear c32
   try clear c32b0
   try clear c35
   try clear p2
   try clear BK335
   obtain ⟨x58_3, rfl, HA, HK3, BK335, HB⟩ := hrel
   cases gk with
   | zero => exact absurd HA.out (by first | (intro h_; cases h_; done) | simp [treenailref03_form.l0])
   | succ k3 =>
    have H := HA.out
    clear HA
    simp only [treenailref03_form.l0] at H
    by_cases c37 : x58_3 < (l0_2.length : Int)
    ·rw [if_pos c37] at H
     have c37b0 := decide_eq_true c37
     clear c37
     by_cases c38 : 0 ≤ x58_3
     ·rw [if_pos c38] at H
      have c38b0 := decide_eq_true c38
      clear c38
      by_cases c39 : x58_3 < (l0_2.length : Int)
      ·rw [if_pos c39] at H
       have c39b0 := decide_eq_true c39
       clear c39
       replace H := Option.bind_eq_some_iff.mp H
       obtain ⟨t339, A400, H⟩ := H
       replace H : (if t339 = true then (treenailref03_form.l0 k3 l0_2 (l0_2.length : Int) (wrap64 (x58_3 + 1))) else (some false)) = some r := H
       have A40 := zm A400
       clear A400
       have HC41 := zm H
       clear H
       have p337 : 0 ≤ (x58_3 : Int) := od
       have q337 : x58_3 < (l0_2.length : Int) := od
       obtain ⟨ad337, A337_2, c337_2, e337, hx337_0, hx337_1, hx337_2, hl337_2, hi337_2⟩ := at_T35 HR0_2.out x58_3 p337 q337
       cases e337
       replace hx337_0 := cb HB.out hx337_0
       replace hx337_1 := cb HB.out hx337_1
       replace hx337_2 := cb HB.out hx337_2
       have HR337_2 := zm hi337_2
       have HC337_2 := zm hl337_2
       clear hi337_2 hl337_2
       replace p337 := eq_true p337
       replace q337 := eq_true q337
       go_upto_if 64 with (first | ((with_reducible refine gate_dst (N := 4) rfl ?_); (try (refine gate_guard (by rfl) ?_; dsimp only)); refine box_event ?hg (N := 4) ?hd (cs := #[.int .i64 0, .int .i64 0, .slice none 0 0]) (t := 35) ?hr ?_; (case hd => rfl); (case hg => rfl); (case hr => first | (go_simp; done) | (go_simp; rfl)); intro gb338 hg w42 hbox hb; have BK338 := zm (hbox); have GW338 := zm ((by rw [hg]; exact (below_size (bx HB.out)) : w.heap.size ≤ gb338)); have GE338 := zm ((by rw [hg]; exact (below_size (bx HB.out)) : w.heap.size ≤ gb338)); replace HB := zm (below_step (bx HB.out) hb); have NB335_338 := zm ((by rw [hg]; exact Nat.ne_of_lt (blk_lt (g := gb335) (o := .cells #[.int .i64 a0_0, .int .i64 a0_1, .slice (some ad337) l0_2.length c0_2] 35 (0, 0)) (kx BK335.out)) : gb335 ≠ gb338)); have NB338_335 := zm ((by rw [hg]; exact Nat.ne_of_gt (blk_lt (g := gb335) (o := .cells #[.int .i64 a0_0, .int .i64 a0_1, .slice (some ad337) l0_2.length c0_2] 35 (0, 0)) (kx BK335.out)) : gb338 ≠ gb335)); replace BK335 := zm (kB (kx BK335.out) hb); clear hb hbox hg; have hnb43 := NB338_335.out; have hnc43 := NB335_338.out; have hcz44_0 := bc0 BK338.out; have hcz44_1 := bc1 BK338.out; have hcz44_2 := bc2 BK338.out; have hfz44_0 := bF BK338.out 0; have hfz44_1 := bF BK338.out 1; have hfz44_2 := bF BK338.out 2) | (go_at_call 64; (with_reducible refine (ih k3 (by have := HJ1.out; have := HJ12.out; have := HK3.out; omega) ((rd_T35 l0_2 x58_3).f0) ((rd_T35 l0_2 x58_3).f1) _ _ ((rd_T35 l0_2 x58_3).f2) t339 _ ?side1 ?side2 A40.out).mono ?_); (case side1 => exact Kd.C_below HR337_2.out (bx HB.out)); (case side2 => exact HC337_2.out); rintro e w45 ⟨rfl, hb⟩; replace BK335 := zm (kB (g := gb335) (o := .cells #[.int .i64 a0_0, .int .i64 a0_1, .slice (some ad337) l0_2.length c0_2] 35 (0, 0)) (by (with_reducible repeat first | apply kN | apply kD | apply kA); refine blk_far ?_ NB335_338.out _; (with_reducible repeat first | apply kN | apply kD | apply kA); refine blk_far ?_ NB335_338.out _; (with_reducible repeat first | apply kN | apply kD | apply kA); refine blk_far ?_ NB335_338.out _; (with_reducible repeat first | apply kN | apply kD | apply kA); exact BK335.out) hb); replace BK338 := zm (kB (g := gb338) (o := .cells #[.int .i64 ((rd_T35 l0_2 x58_3).f0), .int .i64 ((rd_T35 l0_2 x58_3).f1), .slice A337_2 ((rd_T35 l0_2 x58_3).f2).length c337_2] 35 (0, 0)) (by (with_reducible repeat first | apply kN | apply kD | apply kA); refine blk_put (cs := #[.int .i64 ((rd_T35 l0_2 x58_3).f0), .int .i64 ((rd_T35 l0_2 x58_3).f1), .slice none 0 0]) ?_ 2 _ rfl; (with_reducible repeat first | apply kN | apply kD | apply kA); refine blk_put (cs := #[.int .i64 ((rd_T35 l0_2 x58_3).f0), .int .i64 0, .slice none 0 0]) ?_ 1 _ rfl; (with_reducible repeat first | apply kN | apply kD | apply kA); refine blk_put (cs := #[.int .i64 0, .int .i64 0, .slice none 0 0]) ?_ 0 _ rfl; (with_reducible repeat first | apply kN | apply kD | apply kA); exact BK338.out) hb); replace HB := zm (below_step (bx HB.out) hb); (try clear hb); (try clear hb2); (try clear hk); (try clear hi)))
       have H := HC41.out
       clear HC41
       by_cases c46 : t339 = true
       ·subst c46
        rw [if_pos rfl] at H
        have H' := zm H
        clear H
        go_wp2
        repeat (go_quiet (fail); try go_wp2)
        go_roundg k3
        case measure => have := HJ1.out; have := HJ12.out; have := HK3.out; omega
        case rel => exact ⟨(wrap64 (x58_3 + 1)), (by first | rfl | (simp; done) | (simp [*]; done)), H', ⟨by have := HJ1.out; have := HJ12.out; have := HK3.out; omega⟩, ⟨kx BK335.out⟩, ⟨bx HB.out⟩⟩
       replace c46 := Bool.eq_false_iff.mpr c46
       subst c46
       rw [if_neg (show ¬ (false = true) by decide)] at H
       obtain rfl := Option.some.inj H
       go_wp2
       repeat (go_quiet (fail); try go_wp2)
       go_ret
       exact ⟨xe, bx HB.out⟩
      rw [if_neg c39] at H
      exact absurd H (by simp)
     rw [if_neg c38] at H
     exact absurd H (by simp)
    rw [if_neg c37] at H
    have c37b0 := decide_eq_false c37
    try (have c37b9 := c37b0; rw [hl337_2] at c37b9)
    clear c37
    obtain rfl := Option.some.inj H
    go_wp2
    repeat (go_quiet (fail); try go_wp2)
    go_ret
    exact ⟨xe, bx HB.out⟩

end Go.Proofs.YtdaeiicdpfghlaaDoor.R
