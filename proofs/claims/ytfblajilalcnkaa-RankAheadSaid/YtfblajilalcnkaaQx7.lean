-- By a program of this session, over the kit's print.py, with contracts of this session's own. Not trusted: Lean checks it.
import Derived.Test.YtfblajilalcnkaaQx0
import Derived.Test.YtfblajilalcnkaaQx2
import Derived.Test.YtfblajilalcnkaaQx3
namespace Go.Proofs.Ytfblajilalcnkaa.Q
open Go.RowKit Go.Proofs.YtfblajilalcnkaaW.PrintWords Go.Proofs.YtfblajilalcnkaaW.PrintLast Go.Proofs.YtfblajilalcnkaaW.PrintMore
attribute [local go_sem] max2_int min2_int max_two min_two max_three min_three max_four min_four   -- for this text's walks alone
set_option linter.unusedVariables false
set_option linter.unusedSimpArgs false

/-! ### treenaillaw09_RankAhead: function 4 -/
mutual
def treenaillaw09_RankAhead.j0 : Nat → Int → List (S36) → Bool → Option (Bool)
  | 0, _, _, _ => none
  | k + 1, x0, x1, x25 => if x25 = true then ((treenaillaw09_three.f k).bind fun t254 => (some t254)) else ((rank_Order.f k x0 x1).bind fun bt255 => ((rank_Round.f k x0 x1).bind fun bt259 => (if bt259.2 = 0 then (if (bt259.1.length : Int) > 0 then (if bt255.2 = 7 then (if (bt255.1.length : Int) = 0 then ((treenaillaw09_three.f k).bind fun t264 => (some t264)) else (some false)) else (some false)) else (if bt255.2 = 0 then (treenaillaw09_RankAhead.j1 k x0 x1 bt255.1 ((bt255.1.length : Int) != x0)) else (treenaillaw09_RankAhead.j1 k x0 x1 bt255.1 true))) else (if bt255.2 = bt259.2 then ((treenaillaw09_three.f k).bind fun t263 => (some t263)) else (some false)))))
def treenaillaw09_RankAhead.j1 : Nat → Int → List (S36) → List Int → Bool → Option (Bool)
  | 0, _, _, _, _ => none
  | k + 1, x0, x1, x5, x67 => if x67 = true then (some false) else (if 0 ≤ x0 then (if (x0 : Int).toNat ≤ 35184372088832 then (if (x0 : Int).toNat ≤ 281474976710656 then (treenaillaw09_RankAhead.l0 k x0 x1 (List.replicate (x0 : Int).toNat 0) (List.replicate (x0 : Int).toNat false) x5 (x5.length : Int) 0) else (none)) else (none)) else (none))
def treenaillaw09_RankAhead.l0 : Nat → Int → List (S36) → List Int → List Bool → List Int → Int → Int → Option (Bool)
  | 0, _, _, _, _, _, _, _ => none
  | k + 1, x0, x1, x9, x10, x72, x73, x74 => if x74 < x73 then (if 0 ≤ x74 then (if x74 < (x72.length : Int) then (if (rd x72 x74) < 0 then (some false) else (if (rd x72 x74) ≥ x0 then (some false) else (if 0 ≤ (rd x72 x74) then (if (rd x72 x74) < (x10.length : Int) then (if rdOf false x10 (rd x72 x74) = true then (some false) else (if (rd x72 x74) < (x9.length : Int) then (treenaillaw09_RankAhead.l0 k x0 x1 (x9.set ((rd x72 x74) : Int).toNat x74) (x10.set ((rd x72 x74) : Int).toNat true) x72 x73 (wrap64 (x74 + 1))) else (none))) else (none)) else (none)))) else (none)) else (none)) else (treenaillaw09_RankAhead.l1 k x9 x1 (x1.length : Int) 0)
def treenaillaw09_RankAhead.l1 : Nat → List Int → List (S36) → Int → Int → Option (Bool)
  | 0, _, _, _, _ => none
  | k + 1, x9, x100, x101, x102 => if x102 < x101 then (if 0 ≤ x102 then (if x102 < (x100.length : Int) then (if 0 ≤ ((rd_T36 x100 x102).f0) then (if ((rd_T36 x100 x102).f0) < (x9.length : Int) then (if 0 ≤ ((rd_T36 x100 x102).f1) then (if ((rd_T36 x100 x102).f1) < (x9.length : Int) then (if (rd x9 ((rd_T36 x100 x102).f0)) ≥ (rd x9 ((rd_T36 x100 x102).f1)) then (some false) else (treenaillaw09_RankAhead.l1 k x9 x100 x101 (wrap64 (x102 + 1)))) else (none)) else (none)) else (none)) else (none)) else (none)) else (none)) else ((treenaillaw09_three.f k).bind fun t279 => (some t279))
end
def treenaillaw09_RankAhead.f (k : Nat) (a0 : Int) (l1 : List (S36)) : Option (Bool) := if a0 > 40 then (if a0 ≤ 64 then (treenaillaw09_RankAhead.j0 k a0 l1 true) else (treenaillaw09_RankAhead.j0 k a0 l1 (decide ((l1.length : Int) > 300)))) else (treenaillaw09_RankAhead.j0 k a0 l1 (decide ((l1.length : Int) > 300)))
set_option maxRecDepth 100000 in
theorem treenaillaw09_RankAhead.mono_l : ∀ k, (∀ y0 y1 y2, LeO (treenaillaw09_RankAhead.j0 k y0 y1 y2) (treenaillaw09_RankAhead.j0 (k + 1) y0 y1 y2)) ∧ (∀ y0 y1 y2 y3, LeO (treenaillaw09_RankAhead.j1 k y0 y1 y2 y3) (treenaillaw09_RankAhead.j1 (k + 1) y0 y1 y2 y3)) ∧ (∀ y0 y1 y2 y3 y4 y5 y6, LeO (treenaillaw09_RankAhead.l0 k y0 y1 y2 y3 y4 y5 y6) (treenaillaw09_RankAhead.l0 (k + 1) y0 y1 y2 y3 y4 y5 y6)) ∧ (∀ y0 y1 y2 y3, LeO (treenaillaw09_RankAhead.l1 k y0 y1 y2 y3) (treenaillaw09_RankAhead.l1 (k + 1) y0 y1 y2 y3))
  | 0 => ⟨fun _ _ _ r h => by first | (cases h; done) | simp [treenaillaw09_RankAhead.j0] at h, fun _ _ _ _ r h => by first | (cases h; done) | simp [treenaillaw09_RankAhead.j1] at h, fun _ _ _ _ _ _ _ r h => by first | (cases h; done) | simp [treenaillaw09_RankAhead.l0] at h, fun _ _ _ _ r h => by first | (cases h; done) | simp [treenaillaw09_RankAhead.l1] at h⟩
  | k + 1 => by
    obtain ⟨ih0, ih1, ih2, ih3⟩ := treenaillaw09_RankAhead.mono_l k
    refine ⟨?_, ?_, ?_, ?_⟩
    · intro y0 y1 y2
      unfold treenaillaw09_RankAhead.j0
      repeat' first
      | (with_reducible exact ih0 _ _ _)
      | (with_reducible exact ih1 _ _ _ _)
      | (with_reducible exact ih2 _ _ _ _ _ _ _)
      | (with_reducible exact ih3 _ _ _ _)
      | (with_reducible exact rank_Order.mono _ _ _)
      | (with_reducible exact rank_Round.mono _ _ _)
      | (with_reducible exact treenaillaw09_three.mono _)
      | (with_reducible exact LeO.refl _)
      | (with_reducible exact LeO.none _)
      | (with_reducible refine LeO.ite ?_ ?_)
      | (with_reducible refine LeO.bind ?_ (fun _ => ?_))
      | exact ih0 _ _ _
      | exact ih1 _ _ _ _
      | exact ih2 _ _ _ _ _ _ _
      | exact ih3 _ _ _ _
      | exact rank_Order.mono _ _ _
      | exact rank_Round.mono _ _ _
      | exact treenaillaw09_three.mono _
      | exact LeO.none _
      | refine LeO.ite ?_ ?_
      | refine LeO.bind ?_ (fun _ => ?_)
    · intro y0 y1 y2 y3
      unfold treenaillaw09_RankAhead.j1
      repeat' first
      | (with_reducible exact ih0 _ _ _)
      | (with_reducible exact ih1 _ _ _ _)
      | (with_reducible exact ih2 _ _ _ _ _ _ _)
      | (with_reducible exact ih3 _ _ _ _)
      | (with_reducible exact rank_Order.mono _ _ _)
      | (with_reducible exact rank_Round.mono _ _ _)
      | (with_reducible exact treenaillaw09_three.mono _)
      | (with_reducible exact LeO.refl _)
      | (with_reducible exact LeO.none _)
      | (with_reducible refine LeO.ite ?_ ?_)
      | (with_reducible refine LeO.bind ?_ (fun _ => ?_))
      | exact ih0 _ _ _
      | exact ih1 _ _ _ _
      | exact ih2 _ _ _ _ _ _ _
      | exact ih3 _ _ _ _
      | exact rank_Order.mono _ _ _
      | exact rank_Round.mono _ _ _
      | exact treenaillaw09_three.mono _
      | exact LeO.none _
      | refine LeO.ite ?_ ?_
      | refine LeO.bind ?_ (fun _ => ?_)
    · intro y0 y1 y2 y3 y4 y5 y6
      unfold treenaillaw09_RankAhead.l0
      repeat' first
      | (with_reducible exact ih0 _ _ _)
      | (with_reducible exact ih1 _ _ _ _)
      | (with_reducible exact ih2 _ _ _ _ _ _ _)
      | (with_reducible exact ih3 _ _ _ _)
      | (with_reducible exact rank_Order.mono _ _ _)
      | (with_reducible exact rank_Round.mono _ _ _)
      | (with_reducible exact treenaillaw09_three.mono _)
      | (with_reducible exact LeO.refl _)
      | (with_reducible exact LeO.none _)
      | (with_reducible refine LeO.ite ?_ ?_)
      | (with_reducible refine LeO.bind ?_ (fun _ => ?_))
      | exact ih0 _ _ _
      | exact ih1 _ _ _ _
      | exact ih2 _ _ _ _ _ _ _
      | exact ih3 _ _ _ _
      | exact rank_Order.mono _ _ _
      | exact rank_Round.mono _ _ _
      | exact treenaillaw09_three.mono _
      | exact LeO.none _
      | refine LeO.ite ?_ ?_
      | refine LeO.bind ?_ (fun _ => ?_)
    · intro y0 y1 y2 y3
      unfold treenaillaw09_RankAhead.l1
      repeat' first
      | (with_reducible exact ih0 _ _ _)
      | (with_reducible exact ih1 _ _ _ _)
      | (with_reducible exact ih2 _ _ _ _ _ _ _)
      | (with_reducible exact ih3 _ _ _ _)
      | (with_reducible exact rank_Order.mono _ _ _)
      | (with_reducible exact rank_Round.mono _ _ _)
      | (with_reducible exact treenaillaw09_three.mono _)
      | (with_reducible exact LeO.refl _)
      | (with_reducible exact LeO.none _)
      | (with_reducible refine LeO.ite ?_ ?_)
      | (with_reducible refine LeO.bind ?_ (fun _ => ?_))
      | exact ih0 _ _ _
      | exact ih1 _ _ _ _
      | exact ih2 _ _ _ _ _ _ _
      | exact ih3 _ _ _ _
      | exact rank_Order.mono _ _ _
      | exact rank_Round.mono _ _ _
      | exact treenaillaw09_three.mono _
      | exact LeO.none _
      | refine LeO.ite ?_ ?_
      | refine LeO.bind ?_ (fun _ => ?_)
set_option maxRecDepth 100000 in
theorem treenaillaw09_RankAhead.mono : ∀ a0 a1 k, LeO (treenaillaw09_RankAhead.f k a0 a1) (treenaillaw09_RankAhead.f (k + 1) a0 a1) := by
  intro a0 a1 k
  obtain ⟨ih0, ih1, ih2, ih3⟩ := treenaillaw09_RankAhead.mono_l k
  unfold treenaillaw09_RankAhead.f
  repeat' first
      | (with_reducible exact ih0 _ _ _)
      | (with_reducible exact ih1 _ _ _ _)
      | (with_reducible exact ih2 _ _ _ _ _ _ _)
      | (with_reducible exact ih3 _ _ _ _)
      | (with_reducible exact rank_Order.mono _ _ _)
      | (with_reducible exact rank_Round.mono _ _ _)
      | (with_reducible exact treenaillaw09_three.mono _)
      | (with_reducible exact LeO.refl _)
      | (with_reducible exact LeO.none _)
      | (with_reducible refine LeO.ite ?_ ?_)
      | (with_reducible refine LeO.bind ?_ (fun _ => ?_))
      | exact ih0 _ _ _
      | exact ih1 _ _ _ _
      | exact ih2 _ _ _ _ _ _ _
      | exact ih3 _ _ _ _
      | exact rank_Order.mono _ _ _
      | exact rank_Round.mono _ _ _
      | exact treenaillaw09_three.mono _
      | exact LeO.none _
      | refine LeO.ite ?_ ?_
      | refine LeO.bind ?_ (fun _ => ?_)
set_option maxHeartbeats 8000000 in
set_option maxRecDepth 100000 in
theorem treenaillaw09_RankAhead.calls (k : Nat) (a0 : Int) (A1 : Option Addr) (c1 : Nat) (l1 : List (S36)) (r : Bool) (w : World) (hr1 : Kd.C k36 w A1 l1.length l1) (hc1 : l1.length ≤ c1) (h : treenaillaw09_RankAhead.f k a0 l1 = some r) :
    Calls Try.prog 4 #[.int .i64 a0, .slice A1 l1.length c1] w fun e w' => e = .returned (.bool r) ∧ Below w.heap.size w w' := by
  have hu36 := Try.underlying36
  have HR1 := Aside0.mk hr1
  have HC1 := Aside0.mk hc1
  clear hr1 hc1
  have HB := Aside0.mk (Below.refl w.heap.size w)
  have H : (if a0 > 40 then (if a0 ≤ 64 then (treenaillaw09_RankAhead.j0 k a0 l1 true) else (treenaillaw09_RankAhead.j0 k a0 l1 (decide ((l1.length : Int) > 300)))) else (treenaillaw09_RankAhead.j0 k a0 l1 (decide ((l1.length : Int) > 300)))) = some r := h
  clear h
  have HC3 := Aside0.mk H
  clear H
  go_enter Try.func4, Try.ntmps4
  go_upto_region 1 with (fail)
  repeat (go_quiet (fail); go_upto_region 1 with (fail))
  go_cut [25] (fun v25 wc => ∃ (kq : Nat) (x25_2 : Bool), v25 = .bool x25_2 ∧ Aside0 (treenaillaw09_RankAhead.j0 kq a0 l1 x25_2 = some r) ∧ Aside0 (kq ≤ k) ∧ Aside0 (Below w.heap.size w wc))
  case first =>
    have H := HC3.out
    clear HC3
    by_cases c4 : a0 > 40
    · rw [if_pos c4] at H
      have c4b0 : decide (40 < a0) = true := decide_eq_true c4
      clear c4
      (first | rw [c4b0] | (simp only [i64_w, i32_w]; rw [c4b0]) | skip)
      by_cases c5 : a0 ≤ 64
      · rw [if_pos c5] at H
        have c5b0 : decide (a0 ≤ 64) = true := decide_eq_true c5
        clear c5
        have H' := Aside0.mk H
        clear H
        go_wp2
        repeat (go_quiet (fail); try go_wp2)
        go_meet
        case rel => exact ⟨_, (true), (by first | rfl | (simp; done) | (simp [*]; done)), H', ⟨by first | omega | exact Nat.le_refl _⟩, ⟨by repeat (first | (with_reducible first | exact HB.out | apply below_alloc | apply pw_below_drewN | apply below_drew1) | exact HB.out)⟩⟩
      · rw [if_neg c5] at H
        have c5b0 : decide (a0 ≤ 64) = false := decide_eq_false c5
        clear c5
        have H' := Aside0.mk H
        clear H
        go_wp2
        repeat (go_quiet (fail); try go_wp2)
        go_meet
        case rel => exact ⟨_, (decide ((l1.length : Int) > 300)), (by first | rfl | (simp; done) | (simp [*]; done)), H', ⟨by first | omega | exact Nat.le_refl _⟩, ⟨by repeat (first | (with_reducible first | exact HB.out | apply below_alloc | apply pw_below_drewN | apply below_drew1) | exact HB.out)⟩⟩
    · rw [if_neg c4] at H
      have c4b0 : decide (40 < a0) = false := decide_eq_false c4
      clear c4
      (first | rw [c4b0] | (simp only [i64_w, i32_w]; rw [c4b0]) | skip)
      have H' := Aside0.mk H
      clear H
      go_wp2
      repeat (go_quiet (fail); try go_wp2)
      go_meet
      case rel => exact ⟨_, (decide ((l1.length : Int) > 300)), (by first | rfl | (simp; done) | (simp [*]; done)), H', ⟨by first | omega | exact Nat.le_refl _⟩, ⟨by repeat (first | (with_reducible first | exact HB.out | apply below_alloc | apply pw_below_drewN | apply below_drew1) | exact HB.out)⟩⟩
  case rest =>
    clear HC3
    try clear c1
    try clear p2
    try clear c4
    try clear c4b0
    try clear c5
    try clear c5b0
    obtain ⟨kq, x25_2, rfl, HA, HJ2, HB⟩ := hcut
    cases kq with
    | zero => exact absurd HA.out (by first | (intro h_; cases h_; done) | simp [treenaillaw09_RankAhead.j0])
    | succ kj2 =>
      have H := HA.out
      clear HA
      simp only [treenaillaw09_RankAhead.j0] at H
      by_cases c6 : x25_2 = true
      · subst c6
        have H1 : ((treenaillaw09_three.f kj2).bind fun t254 => (some t254)) = some r := by rw [if_pos rfl] at H; exact H
        clear H
        have H := H1
        clear H1
        replace H := Option.bind_eq_some_iff.mp H
        obtain ⟨t254, A70, H⟩ := H
        replace H : (some t254) = some r := H
        have A7 := Aside0.mk A70
        clear A70
        obtain rfl := Option.some.inj H
        go_wp2_with (first | (go_at_call 8; (with_reducible refine (treenaillaw09_three.calls kj2  t254 _ A7.out).mono ?_); rintro e w8 ⟨rfl, hb⟩; have n0_ := Aside0.mk (below_step (by repeat (first | (with_reducible first | exact HB.out | apply below_alloc | apply pw_below_drewN | apply below_drew1) | exact HB.out)) hb); clear HB; have HB := n0_; clear n0_; (try clear hb); (try clear hb2); (try clear hk); (try clear hi)))
        repeat (go_quiet (first | (go_at_call 8; (with_reducible refine (treenaillaw09_three.calls kj2  t254 _ A7.out).mono ?_); rintro e w8 ⟨rfl, hb⟩; have n0_ := Aside0.mk (below_step (by repeat (first | (with_reducible first | exact HB.out | apply below_alloc | apply pw_below_drewN | apply below_drew1) | exact HB.out)) hb); clear HB; have HB := n0_; clear n0_; (try clear hb); (try clear hb2); (try clear hk); (try clear hi))); try go_wp2_with (first | (go_at_call 8; (with_reducible refine (treenaillaw09_three.calls kj2  t254 _ A7.out).mono ?_); rintro e w8 ⟨rfl, hb⟩; have n0_ := Aside0.mk (below_step (by repeat (first | (with_reducible first | exact HB.out | apply below_alloc | apply pw_below_drewN | apply below_drew1) | exact HB.out)) hb); clear HB; have HB := n0_; clear n0_; (try clear hb); (try clear hb2); (try clear hk); (try clear hi))))
        go_ret
        exact ⟨by first | rfl | (simp [errW_none, errW_some] <;> rfl) | (simp [*, errW_none, errW_some] <;> rfl), by repeat (first | (with_reducible first | exact HB.out | apply below_alloc | apply pw_below_drewN | apply below_drew1) | exact HB.out)⟩
      · replace c6 := Bool.eq_false_iff.mpr c6
        subst c6
        have H1 : ((rank_Order.f kj2 a0 l1).bind fun bt255 => ((rank_Round.f kj2 a0 l1).bind fun bt259 => (if bt259.2 = 0 then (if (bt259.1.length : Int) > 0 then (if bt255.2 = 7 then (if (bt255.1.length : Int) = 0 then ((treenaillaw09_three.f kj2).bind fun t264 => (some t264)) else (some false)) else (some false)) else (if bt255.2 = 0 then (treenaillaw09_RankAhead.j1 kj2 a0 l1 bt255.1 ((bt255.1.length : Int) != a0)) else (treenaillaw09_RankAhead.j1 kj2 a0 l1 bt255.1 true))) else (if bt255.2 = bt259.2 then ((treenaillaw09_three.f kj2).bind fun t263 => (some t263)) else (some false))))) = some r := by rw [if_neg (show ¬ (false = true) by decide)] at H; exact H
        clear H
        have H := H1
        clear H1
        replace H := Option.bind_eq_some_iff.mp H
        obtain ⟨⟨t255, t256⟩, A90, H⟩ := H
        replace H : ((rank_Round.f kj2 a0 l1).bind fun bt259 => (if bt259.2 = 0 then (if (bt259.1.length : Int) > 0 then (if t256 = 7 then (if (t255.length : Int) = 0 then ((treenaillaw09_three.f kj2).bind fun t264 => (some t264)) else (some false)) else (some false)) else (if t256 = 0 then (treenaillaw09_RankAhead.j1 kj2 a0 l1 t255 ((t255.length : Int) != a0)) else (treenaillaw09_RankAhead.j1 kj2 a0 l1 t255 true))) else (if t256 = bt259.2 then ((treenaillaw09_three.f kj2).bind fun t263 => (some t263)) else (some false)))) = some r := H
        have A9 := Aside0.mk A90
        clear A90
        replace H := Option.bind_eq_some_iff.mp H
        obtain ⟨⟨t259, t260⟩, A100, H⟩ := H
        replace H : (if t260 = 0 then (if (t259.length : Int) > 0 then (if t256 = 7 then (if (t255.length : Int) = 0 then ((treenaillaw09_three.f kj2).bind fun t264 => (some t264)) else (some false)) else (some false)) else (if t256 = 0 then (treenaillaw09_RankAhead.j1 kj2 a0 l1 t255 ((t255.length : Int) != a0)) else (treenaillaw09_RankAhead.j1 kj2 a0 l1 t255 true))) else (if t256 = t260 then ((treenaillaw09_three.f kj2).bind fun t263 => (some t263)) else (some false))) = some r := H
        have A10 := Aside0.mk A100
        clear A100
        by_cases c11 : t260 = 0
        · rw [if_pos c11] at H
          have c11b0 : (t260 == 0) = true := beq_iff_eq.mpr c11
          have c11b1 : (t260 != 0) = false := bne_eq_false_iff_eq.mpr c11
          clear c11
          by_cases c12 : (t259.length : Int) > 0
          · rw [if_pos c12] at H
            have c12b0 : decide (0 < (t259.length : Int)) = true := decide_eq_true c12
            have c12b1 : decide (0 < t259.length) = true := decide_eq_true (by omega)
            clear c12
            by_cases c13 : t256 = 7
            · rw [if_pos c13] at H
              have c13b0 : (t256 == 7) = true := beq_iff_eq.mpr c13
              have c13b1 : (t256 != 7) = false := bne_eq_false_iff_eq.mpr c13
              clear c13
              by_cases c14 : (t255.length : Int) = 0
              · rw [if_pos c14] at H
                have c14b0 : ((t255.length : Int) == 0) = true := beq_iff_eq.mpr c14
                have c14b1 : ((t255.length : Int) != 0) = false := bne_eq_false_iff_eq.mpr c14
                clear c14
                replace H := Option.bind_eq_some_iff.mp H
                obtain ⟨t264, A150, H⟩ := H
                replace H : (some t264) = some r := H
                have A15 := Aside0.mk A150
                clear A150
                obtain rfl := Option.some.inj H
                go_wp2_with (first | (go_at_call 9; (with_reducible refine (rank_Order.calls kj2 a0 _ _ l1 t255 t256 _ ?side1 ?side2 A9.out).mono ?_); (case side1 => repeat (first | exact (Kd.C_below HR1.out HB.out) | (with_reducible refine Kd.C_alloc ?_ _) | (with_reducible refine Kd.C_drewN ?_ _) | (with_reducible refine Kd.C_drew ?_))); (case side2 => exact HC1.out); rintro e w16 ⟨v257, rfl, ho0, hb⟩; have n0_ := Aside0.mk (Kd.R_lower ho0 (below_size (by repeat (first | (with_reducible first | exact HB.out | apply below_alloc | apply pw_below_drewN | apply below_drew1) | exact HB.out)))); have n1_ := Aside0.mk (below_step (by repeat (first | (with_reducible first | exact HB.out | apply below_alloc | apply pw_below_drewN | apply below_drew1) | exact HB.out)) hb); clear HB; have HO258 := n0_; have HB := n1_; clear n0_ n1_; (try clear hb); (try clear hb2); (try clear hk); (try clear hi); (try clear ho0)) | (go_at_call 13; (with_reducible refine (rank_Round.calls kj2 a0 _ _ l1 t259 t260 _ ?side1 ?side2 A10.out).mono ?_); (case side1 => repeat (first | exact (Kd.C_below HR1.out HB.out) | (with_reducible refine Kd.C_alloc ?_ _) | (with_reducible refine Kd.C_drewN ?_ _) | (with_reducible refine Kd.C_drew ?_))); (case side2 => exact HC1.out); rintro e w17 ⟨v261, rfl, ho0, hb⟩; have n0_ := Aside0.mk (Kd.R_elder' (by (with_reducible repeat (first | apply Kd.R_alloc | apply Kd.R_drewN | apply Kd.R_drew)); exact HO258.out) (Kd.R_base ho0) hb); have n1_ := Aside0.mk (Kd.R_lower (Kd.R_new' ho0 (Kd.R_lt (by (with_reducible repeat (first | apply Kd.R_alloc | apply Kd.R_drewN | apply Kd.R_drew)); exact HO258.out))) (below_size (by repeat (first | (with_reducible first | exact HB.out | apply below_alloc | apply pw_below_drewN | apply below_drew1) | exact HB.out)))); have n2_ := Aside0.mk (below_step (by repeat (first | (with_reducible first | exact HB.out | apply below_alloc | apply pw_below_drewN | apply below_drew1) | exact HB.out)) hb); clear HO258; clear HB; have HO258 := n0_; have HO262 := n1_; have HB := n2_; clear n0_ n1_ n2_; (try clear hb); (try clear hb2); (try clear hk); (try clear hi); (try clear ho0); obtain ⟨Ao18, co18, eo18⟩ := Kd.R_slice HO262.out; subst eo18; obtain ⟨Ao19, co19, eo19⟩ := Kd.R_slice HO258.out; subst eo19) | (go_at_call 8; (with_reducible refine (treenaillaw09_three.calls kj2  t264 _ A15.out).mono ?_); rintro e w20 ⟨rfl, hb⟩; have n0_ := Aside0.mk (Kd.R_below (by (with_reducible repeat (first | apply Kd.R_alloc | apply Kd.R_drewN | apply Kd.R_drew)); exact HO258.out) hb); have n1_ := Aside0.mk (Kd.R_below (by (with_reducible repeat (first | apply Kd.R_alloc | apply Kd.R_drewN | apply Kd.R_drew)); exact HO262.out) hb); have n2_ := Aside0.mk (below_step (by repeat (first | (with_reducible first | exact HB.out | apply below_alloc | apply pw_below_drewN | apply below_drew1) | exact HB.out)) hb); clear HO258; clear HO262; clear HB; have HO258 := n0_; have HO262 := n1_; have HB := n2_; clear n0_ n1_ n2_; (try clear hb); (try clear hb2); (try clear hk); (try clear hi)))
                repeat (go_quiet (first | (go_at_call 9; (with_reducible refine (rank_Order.calls kj2 a0 _ _ l1 t255 t256 _ ?side1 ?side2 A9.out).mono ?_); (case side1 => repeat (first | exact (Kd.C_below HR1.out HB.out) | (with_reducible refine Kd.C_alloc ?_ _) | (with_reducible refine Kd.C_drewN ?_ _) | (with_reducible refine Kd.C_drew ?_))); (case side2 => exact HC1.out); rintro e w16 ⟨v257, rfl, ho0, hb⟩; have n0_ := Aside0.mk (Kd.R_lower ho0 (below_size (by repeat (first | (with_reducible first | exact HB.out | apply below_alloc | apply pw_below_drewN | apply below_drew1) | exact HB.out)))); have n1_ := Aside0.mk (below_step (by repeat (first | (with_reducible first | exact HB.out | apply below_alloc | apply pw_below_drewN | apply below_drew1) | exact HB.out)) hb); clear HB; have HO258 := n0_; have HB := n1_; clear n0_ n1_; (try clear hb); (try clear hb2); (try clear hk); (try clear hi); (try clear ho0)) | (go_at_call 13; (with_reducible refine (rank_Round.calls kj2 a0 _ _ l1 t259 t260 _ ?side1 ?side2 A10.out).mono ?_); (case side1 => repeat (first | exact (Kd.C_below HR1.out HB.out) | (with_reducible refine Kd.C_alloc ?_ _) | (with_reducible refine Kd.C_drewN ?_ _) | (with_reducible refine Kd.C_drew ?_))); (case side2 => exact HC1.out); rintro e w17 ⟨v261, rfl, ho0, hb⟩; have n0_ := Aside0.mk (Kd.R_elder' (by (with_reducible repeat (first | apply Kd.R_alloc | apply Kd.R_drewN | apply Kd.R_drew)); exact HO258.out) (Kd.R_base ho0) hb); have n1_ := Aside0.mk (Kd.R_lower (Kd.R_new' ho0 (Kd.R_lt (by (with_reducible repeat (first | apply Kd.R_alloc | apply Kd.R_drewN | apply Kd.R_drew)); exact HO258.out))) (below_size (by repeat (first | (with_reducible first | exact HB.out | apply below_alloc | apply pw_below_drewN | apply below_drew1) | exact HB.out)))); have n2_ := Aside0.mk (below_step (by repeat (first | (with_reducible first | exact HB.out | apply below_alloc | apply pw_below_drewN | apply below_drew1) | exact HB.out)) hb); clear HO258; clear HB; have HO258 := n0_; have HO262 := n1_; have HB := n2_; clear n0_ n1_ n2_; (try clear hb); (try clear hb2); (try clear hk); (try clear hi); (try clear ho0); obtain ⟨Ao18, co18, eo18⟩ := Kd.R_slice HO262.out; subst eo18; obtain ⟨Ao19, co19, eo19⟩ := Kd.R_slice HO258.out; subst eo19) | (go_at_call 8; (with_reducible refine (treenaillaw09_three.calls kj2  t264 _ A15.out).mono ?_); rintro e w20 ⟨rfl, hb⟩; have n0_ := Aside0.mk (Kd.R_below (by (with_reducible repeat (first | apply Kd.R_alloc | apply Kd.R_drewN | apply Kd.R_drew)); exact HO258.out) hb); have n1_ := Aside0.mk (Kd.R_below (by (with_reducible repeat (first | apply Kd.R_alloc | apply Kd.R_drewN | apply Kd.R_drew)); exact HO262.out) hb); have n2_ := Aside0.mk (below_step (by repeat (first | (with_reducible first | exact HB.out | apply below_alloc | apply pw_below_drewN | apply below_drew1) | exact HB.out)) hb); clear HO258; clear HO262; clear HB; have HO258 := n0_; have HO262 := n1_; have HB := n2_; clear n0_ n1_ n2_; (try clear hb); (try clear hb2); (try clear hk); (try clear hi))); try go_wp2_with (first | (go_at_call 9; (with_reducible refine (rank_Order.calls kj2 a0 _ _ l1 t255 t256 _ ?side1 ?side2 A9.out).mono ?_); (case side1 => repeat (first | exact (Kd.C_below HR1.out HB.out) | (with_reducible refine Kd.C_alloc ?_ _) | (with_reducible refine Kd.C_drewN ?_ _) | (with_reducible refine Kd.C_drew ?_))); (case side2 => exact HC1.out); rintro e w16 ⟨v257, rfl, ho0, hb⟩; have n0_ := Aside0.mk (Kd.R_lower ho0 (below_size (by repeat (first | (with_reducible first | exact HB.out | apply below_alloc | apply pw_below_drewN | apply below_drew1) | exact HB.out)))); have n1_ := Aside0.mk (below_step (by repeat (first | (with_reducible first | exact HB.out | apply below_alloc | apply pw_below_drewN | apply below_drew1) | exact HB.out)) hb); clear HB; have HO258 := n0_; have HB := n1_; clear n0_ n1_; (try clear hb); (try clear hb2); (try clear hk); (try clear hi); (try clear ho0)) | (go_at_call 13; (with_reducible refine (rank_Round.calls kj2 a0 _ _ l1 t259 t260 _ ?side1 ?side2 A10.out).mono ?_); (case side1 => repeat (first | exact (Kd.C_below HR1.out HB.out) | (with_reducible refine Kd.C_alloc ?_ _) | (with_reducible refine Kd.C_drewN ?_ _) | (with_reducible refine Kd.C_drew ?_))); (case side2 => exact HC1.out); rintro e w17 ⟨v261, rfl, ho0, hb⟩; have n0_ := Aside0.mk (Kd.R_elder' (by (with_reducible repeat (first | apply Kd.R_alloc | apply Kd.R_drewN | apply Kd.R_drew)); exact HO258.out) (Kd.R_base ho0) hb); have n1_ := Aside0.mk (Kd.R_lower (Kd.R_new' ho0 (Kd.R_lt (by (with_reducible repeat (first | apply Kd.R_alloc | apply Kd.R_drewN | apply Kd.R_drew)); exact HO258.out))) (below_size (by repeat (first | (with_reducible first | exact HB.out | apply below_alloc | apply pw_below_drewN | apply below_drew1) | exact HB.out)))); have n2_ := Aside0.mk (below_step (by repeat (first | (with_reducible first | exact HB.out | apply below_alloc | apply pw_below_drewN | apply below_drew1) | exact HB.out)) hb); clear HO258; clear HB; have HO258 := n0_; have HO262 := n1_; have HB := n2_; clear n0_ n1_ n2_; (try clear hb); (try clear hb2); (try clear hk); (try clear hi); (try clear ho0); obtain ⟨Ao18, co18, eo18⟩ := Kd.R_slice HO262.out; subst eo18; obtain ⟨Ao19, co19, eo19⟩ := Kd.R_slice HO258.out; subst eo19) | (go_at_call 8; (with_reducible refine (treenaillaw09_three.calls kj2  t264 _ A15.out).mono ?_); rintro e w20 ⟨rfl, hb⟩; have n0_ := Aside0.mk (Kd.R_below (by (with_reducible repeat (first | apply Kd.R_alloc | apply Kd.R_drewN | apply Kd.R_drew)); exact HO258.out) hb); have n1_ := Aside0.mk (Kd.R_below (by (with_reducible repeat (first | apply Kd.R_alloc | apply Kd.R_drewN | apply Kd.R_drew)); exact HO262.out) hb); have n2_ := Aside0.mk (below_step (by repeat (first | (with_reducible first | exact HB.out | apply below_alloc | apply pw_below_drewN | apply below_drew1) | exact HB.out)) hb); clear HO258; clear HO262; clear HB; have HO258 := n0_; have HO262 := n1_; have HB := n2_; clear n0_ n1_ n2_; (try clear hb); (try clear hb2); (try clear hk); (try clear hi))))
                go_ret
                exact ⟨by first | rfl | (simp [errW_none, errW_some] <;> rfl) | (simp [*, errW_none, errW_some] <;> rfl), by repeat (first | (with_reducible first | exact HB.out | apply below_alloc | apply pw_below_drewN | apply below_drew1) | exact HB.out)⟩
              · rw [if_neg c14] at H
                have c14b0 : ((t255.length : Int) == 0) = false := beq_eq_false_iff_ne.mpr c14
                have c14b1 : ((t255.length : Int) != 0) = true := bne_iff_ne.mpr c14
                have c14b2 : ¬ (t255 = []) := fun h_ => c14 (by rw [h_]; rfl)
                obtain rfl := Option.some.inj H
                go_wp2_with (first | (go_at_call 9; (with_reducible refine (rank_Order.calls kj2 a0 _ _ l1 t255 t256 _ ?side1 ?side2 A9.out).mono ?_); (case side1 => repeat (first | exact (Kd.C_below HR1.out HB.out) | (with_reducible refine Kd.C_alloc ?_ _) | (with_reducible refine Kd.C_drewN ?_ _) | (with_reducible refine Kd.C_drew ?_))); (case side2 => exact HC1.out); rintro e w21 ⟨v257, rfl, ho0, hb⟩; have n0_ := Aside0.mk (Kd.R_lower ho0 (below_size (by repeat (first | (with_reducible first | exact HB.out | apply below_alloc | apply pw_below_drewN | apply below_drew1) | exact HB.out)))); have n1_ := Aside0.mk (below_step (by repeat (first | (with_reducible first | exact HB.out | apply below_alloc | apply pw_below_drewN | apply below_drew1) | exact HB.out)) hb); clear HB; have HO258 := n0_; have HB := n1_; clear n0_ n1_; (try clear hb); (try clear hb2); (try clear hk); (try clear hi); (try clear ho0)) | (go_at_call 13; (with_reducible refine (rank_Round.calls kj2 a0 _ _ l1 t259 t260 _ ?side1 ?side2 A10.out).mono ?_); (case side1 => repeat (first | exact (Kd.C_below HR1.out HB.out) | (with_reducible refine Kd.C_alloc ?_ _) | (with_reducible refine Kd.C_drewN ?_ _) | (with_reducible refine Kd.C_drew ?_))); (case side2 => exact HC1.out); rintro e w22 ⟨v261, rfl, ho0, hb⟩; have n0_ := Aside0.mk (Kd.R_elder' (by (with_reducible repeat (first | apply Kd.R_alloc | apply Kd.R_drewN | apply Kd.R_drew)); exact HO258.out) (Kd.R_base ho0) hb); have n1_ := Aside0.mk (Kd.R_lower (Kd.R_new' ho0 (Kd.R_lt (by (with_reducible repeat (first | apply Kd.R_alloc | apply Kd.R_drewN | apply Kd.R_drew)); exact HO258.out))) (below_size (by repeat (first | (with_reducible first | exact HB.out | apply below_alloc | apply pw_below_drewN | apply below_drew1) | exact HB.out)))); have n2_ := Aside0.mk (below_step (by repeat (first | (with_reducible first | exact HB.out | apply below_alloc | apply pw_below_drewN | apply below_drew1) | exact HB.out)) hb); clear HO258; clear HB; have HO258 := n0_; have HO262 := n1_; have HB := n2_; clear n0_ n1_ n2_; (try clear hb); (try clear hb2); (try clear hk); (try clear hi); (try clear ho0); obtain ⟨Ao23, co23, eo23⟩ := Kd.R_slice HO262.out; subst eo23; obtain ⟨Ao24, co24, eo24⟩ := Kd.R_slice HO258.out; subst eo24))
                repeat (go_quiet (first | (go_at_call 9; (with_reducible refine (rank_Order.calls kj2 a0 _ _ l1 t255 t256 _ ?side1 ?side2 A9.out).mono ?_); (case side1 => repeat (first | exact (Kd.C_below HR1.out HB.out) | (with_reducible refine Kd.C_alloc ?_ _) | (with_reducible refine Kd.C_drewN ?_ _) | (with_reducible refine Kd.C_drew ?_))); (case side2 => exact HC1.out); rintro e w21 ⟨v257, rfl, ho0, hb⟩; have n0_ := Aside0.mk (Kd.R_lower ho0 (below_size (by repeat (first | (with_reducible first | exact HB.out | apply below_alloc | apply pw_below_drewN | apply below_drew1) | exact HB.out)))); have n1_ := Aside0.mk (below_step (by repeat (first | (with_reducible first | exact HB.out | apply below_alloc | apply pw_below_drewN | apply below_drew1) | exact HB.out)) hb); clear HB; have HO258 := n0_; have HB := n1_; clear n0_ n1_; (try clear hb); (try clear hb2); (try clear hk); (try clear hi); (try clear ho0)) | (go_at_call 13; (with_reducible refine (rank_Round.calls kj2 a0 _ _ l1 t259 t260 _ ?side1 ?side2 A10.out).mono ?_); (case side1 => repeat (first | exact (Kd.C_below HR1.out HB.out) | (with_reducible refine Kd.C_alloc ?_ _) | (with_reducible refine Kd.C_drewN ?_ _) | (with_reducible refine Kd.C_drew ?_))); (case side2 => exact HC1.out); rintro e w22 ⟨v261, rfl, ho0, hb⟩; have n0_ := Aside0.mk (Kd.R_elder' (by (with_reducible repeat (first | apply Kd.R_alloc | apply Kd.R_drewN | apply Kd.R_drew)); exact HO258.out) (Kd.R_base ho0) hb); have n1_ := Aside0.mk (Kd.R_lower (Kd.R_new' ho0 (Kd.R_lt (by (with_reducible repeat (first | apply Kd.R_alloc | apply Kd.R_drewN | apply Kd.R_drew)); exact HO258.out))) (below_size (by repeat (first | (with_reducible first | exact HB.out | apply below_alloc | apply pw_below_drewN | apply below_drew1) | exact HB.out)))); have n2_ := Aside0.mk (below_step (by repeat (first | (with_reducible first | exact HB.out | apply below_alloc | apply pw_below_drewN | apply below_drew1) | exact HB.out)) hb); clear HO258; clear HB; have HO258 := n0_; have HO262 := n1_; have HB := n2_; clear n0_ n1_ n2_; (try clear hb); (try clear hb2); (try clear hk); (try clear hi); (try clear ho0); obtain ⟨Ao23, co23, eo23⟩ := Kd.R_slice HO262.out; subst eo23; obtain ⟨Ao24, co24, eo24⟩ := Kd.R_slice HO258.out; subst eo24)); try go_wp2_with (first | (go_at_call 9; (with_reducible refine (rank_Order.calls kj2 a0 _ _ l1 t255 t256 _ ?side1 ?side2 A9.out).mono ?_); (case side1 => repeat (first | exact (Kd.C_below HR1.out HB.out) | (with_reducible refine Kd.C_alloc ?_ _) | (with_reducible refine Kd.C_drewN ?_ _) | (with_reducible refine Kd.C_drew ?_))); (case side2 => exact HC1.out); rintro e w21 ⟨v257, rfl, ho0, hb⟩; have n0_ := Aside0.mk (Kd.R_lower ho0 (below_size (by repeat (first | (with_reducible first | exact HB.out | apply below_alloc | apply pw_below_drewN | apply below_drew1) | exact HB.out)))); have n1_ := Aside0.mk (below_step (by repeat (first | (with_reducible first | exact HB.out | apply below_alloc | apply pw_below_drewN | apply below_drew1) | exact HB.out)) hb); clear HB; have HO258 := n0_; have HB := n1_; clear n0_ n1_; (try clear hb); (try clear hb2); (try clear hk); (try clear hi); (try clear ho0)) | (go_at_call 13; (with_reducible refine (rank_Round.calls kj2 a0 _ _ l1 t259 t260 _ ?side1 ?side2 A10.out).mono ?_); (case side1 => repeat (first | exact (Kd.C_below HR1.out HB.out) | (with_reducible refine Kd.C_alloc ?_ _) | (with_reducible refine Kd.C_drewN ?_ _) | (with_reducible refine Kd.C_drew ?_))); (case side2 => exact HC1.out); rintro e w22 ⟨v261, rfl, ho0, hb⟩; have n0_ := Aside0.mk (Kd.R_elder' (by (with_reducible repeat (first | apply Kd.R_alloc | apply Kd.R_drewN | apply Kd.R_drew)); exact HO258.out) (Kd.R_base ho0) hb); have n1_ := Aside0.mk (Kd.R_lower (Kd.R_new' ho0 (Kd.R_lt (by (with_reducible repeat (first | apply Kd.R_alloc | apply Kd.R_drewN | apply Kd.R_drew)); exact HO258.out))) (below_size (by repeat (first | (with_reducible first | exact HB.out | apply below_alloc | apply pw_below_drewN | apply below_drew1) | exact HB.out)))); have n2_ := Aside0.mk (below_step (by repeat (first | (with_reducible first | exact HB.out | apply below_alloc | apply pw_below_drewN | apply below_drew1) | exact HB.out)) hb); clear HO258; clear HB; have HO258 := n0_; have HO262 := n1_; have HB := n2_; clear n0_ n1_ n2_; (try clear hb); (try clear hb2); (try clear hk); (try clear hi); (try clear ho0); obtain ⟨Ao23, co23, eo23⟩ := Kd.R_slice HO262.out; subst eo23; obtain ⟨Ao24, co24, eo24⟩ := Kd.R_slice HO258.out; subst eo24)))
                go_ret
                exact ⟨by first | rfl | (simp [errW_none, errW_some] <;> rfl) | (simp [*, errW_none, errW_some] <;> rfl), by repeat (first | (with_reducible first | exact HB.out | apply below_alloc | apply pw_below_drewN | apply below_drew1) | exact HB.out)⟩
            · rw [if_neg c13] at H
              have c13b0 : (t256 == 7) = false := beq_eq_false_iff_ne.mpr c13
              have c13b1 : (t256 != 7) = true := bne_iff_ne.mpr c13
              obtain rfl := Option.some.inj H
              go_wp2_with (first | (go_at_call 9; (with_reducible refine (rank_Order.calls kj2 a0 _ _ l1 t255 t256 _ ?side1 ?side2 A9.out).mono ?_); (case side1 => repeat (first | exact (Kd.C_below HR1.out HB.out) | (with_reducible refine Kd.C_alloc ?_ _) | (with_reducible refine Kd.C_drewN ?_ _) | (with_reducible refine Kd.C_drew ?_))); (case side2 => exact HC1.out); rintro e w25 ⟨v257, rfl, ho0, hb⟩; have n0_ := Aside0.mk (Kd.R_lower ho0 (below_size (by repeat (first | (with_reducible first | exact HB.out | apply below_alloc | apply pw_below_drewN | apply below_drew1) | exact HB.out)))); have n1_ := Aside0.mk (below_step (by repeat (first | (with_reducible first | exact HB.out | apply below_alloc | apply pw_below_drewN | apply below_drew1) | exact HB.out)) hb); clear HB; have HO258 := n0_; have HB := n1_; clear n0_ n1_; (try clear hb); (try clear hb2); (try clear hk); (try clear hi); (try clear ho0)) | (go_at_call 13; (with_reducible refine (rank_Round.calls kj2 a0 _ _ l1 t259 t260 _ ?side1 ?side2 A10.out).mono ?_); (case side1 => repeat (first | exact (Kd.C_below HR1.out HB.out) | (with_reducible refine Kd.C_alloc ?_ _) | (with_reducible refine Kd.C_drewN ?_ _) | (with_reducible refine Kd.C_drew ?_))); (case side2 => exact HC1.out); rintro e w26 ⟨v261, rfl, ho0, hb⟩; have n0_ := Aside0.mk (Kd.R_elder' (by (with_reducible repeat (first | apply Kd.R_alloc | apply Kd.R_drewN | apply Kd.R_drew)); exact HO258.out) (Kd.R_base ho0) hb); have n1_ := Aside0.mk (Kd.R_lower (Kd.R_new' ho0 (Kd.R_lt (by (with_reducible repeat (first | apply Kd.R_alloc | apply Kd.R_drewN | apply Kd.R_drew)); exact HO258.out))) (below_size (by repeat (first | (with_reducible first | exact HB.out | apply below_alloc | apply pw_below_drewN | apply below_drew1) | exact HB.out)))); have n2_ := Aside0.mk (below_step (by repeat (first | (with_reducible first | exact HB.out | apply below_alloc | apply pw_below_drewN | apply below_drew1) | exact HB.out)) hb); clear HO258; clear HB; have HO258 := n0_; have HO262 := n1_; have HB := n2_; clear n0_ n1_ n2_; (try clear hb); (try clear hb2); (try clear hk); (try clear hi); (try clear ho0); obtain ⟨Ao27, co27, eo27⟩ := Kd.R_slice HO262.out; subst eo27))
              repeat (go_quiet (first | (go_at_call 9; (with_reducible refine (rank_Order.calls kj2 a0 _ _ l1 t255 t256 _ ?side1 ?side2 A9.out).mono ?_); (case side1 => repeat (first | exact (Kd.C_below HR1.out HB.out) | (with_reducible refine Kd.C_alloc ?_ _) | (with_reducible refine Kd.C_drewN ?_ _) | (with_reducible refine Kd.C_drew ?_))); (case side2 => exact HC1.out); rintro e w25 ⟨v257, rfl, ho0, hb⟩; have n0_ := Aside0.mk (Kd.R_lower ho0 (below_size (by repeat (first | (with_reducible first | exact HB.out | apply below_alloc | apply pw_below_drewN | apply below_drew1) | exact HB.out)))); have n1_ := Aside0.mk (below_step (by repeat (first | (with_reducible first | exact HB.out | apply below_alloc | apply pw_below_drewN | apply below_drew1) | exact HB.out)) hb); clear HB; have HO258 := n0_; have HB := n1_; clear n0_ n1_; (try clear hb); (try clear hb2); (try clear hk); (try clear hi); (try clear ho0)) | (go_at_call 13; (with_reducible refine (rank_Round.calls kj2 a0 _ _ l1 t259 t260 _ ?side1 ?side2 A10.out).mono ?_); (case side1 => repeat (first | exact (Kd.C_below HR1.out HB.out) | (with_reducible refine Kd.C_alloc ?_ _) | (with_reducible refine Kd.C_drewN ?_ _) | (with_reducible refine Kd.C_drew ?_))); (case side2 => exact HC1.out); rintro e w26 ⟨v261, rfl, ho0, hb⟩; have n0_ := Aside0.mk (Kd.R_elder' (by (with_reducible repeat (first | apply Kd.R_alloc | apply Kd.R_drewN | apply Kd.R_drew)); exact HO258.out) (Kd.R_base ho0) hb); have n1_ := Aside0.mk (Kd.R_lower (Kd.R_new' ho0 (Kd.R_lt (by (with_reducible repeat (first | apply Kd.R_alloc | apply Kd.R_drewN | apply Kd.R_drew)); exact HO258.out))) (below_size (by repeat (first | (with_reducible first | exact HB.out | apply below_alloc | apply pw_below_drewN | apply below_drew1) | exact HB.out)))); have n2_ := Aside0.mk (below_step (by repeat (first | (with_reducible first | exact HB.out | apply below_alloc | apply pw_below_drewN | apply below_drew1) | exact HB.out)) hb); clear HO258; clear HB; have HO258 := n0_; have HO262 := n1_; have HB := n2_; clear n0_ n1_ n2_; (try clear hb); (try clear hb2); (try clear hk); (try clear hi); (try clear ho0); obtain ⟨Ao27, co27, eo27⟩ := Kd.R_slice HO262.out; subst eo27)); try go_wp2_with (first | (go_at_call 9; (with_reducible refine (rank_Order.calls kj2 a0 _ _ l1 t255 t256 _ ?side1 ?side2 A9.out).mono ?_); (case side1 => repeat (first | exact (Kd.C_below HR1.out HB.out) | (with_reducible refine Kd.C_alloc ?_ _) | (with_reducible refine Kd.C_drewN ?_ _) | (with_reducible refine Kd.C_drew ?_))); (case side2 => exact HC1.out); rintro e w25 ⟨v257, rfl, ho0, hb⟩; have n0_ := Aside0.mk (Kd.R_lower ho0 (below_size (by repeat (first | (with_reducible first | exact HB.out | apply below_alloc | apply pw_below_drewN | apply below_drew1) | exact HB.out)))); have n1_ := Aside0.mk (below_step (by repeat (first | (with_reducible first | exact HB.out | apply below_alloc | apply pw_below_drewN | apply below_drew1) | exact HB.out)) hb); clear HB; have HO258 := n0_; have HB := n1_; clear n0_ n1_; (try clear hb); (try clear hb2); (try clear hk); (try clear hi); (try clear ho0)) | (go_at_call 13; (with_reducible refine (rank_Round.calls kj2 a0 _ _ l1 t259 t260 _ ?side1 ?side2 A10.out).mono ?_); (case side1 => repeat (first | exact (Kd.C_below HR1.out HB.out) | (with_reducible refine Kd.C_alloc ?_ _) | (with_reducible refine Kd.C_drewN ?_ _) | (with_reducible refine Kd.C_drew ?_))); (case side2 => exact HC1.out); rintro e w26 ⟨v261, rfl, ho0, hb⟩; have n0_ := Aside0.mk (Kd.R_elder' (by (with_reducible repeat (first | apply Kd.R_alloc | apply Kd.R_drewN | apply Kd.R_drew)); exact HO258.out) (Kd.R_base ho0) hb); have n1_ := Aside0.mk (Kd.R_lower (Kd.R_new' ho0 (Kd.R_lt (by (with_reducible repeat (first | apply Kd.R_alloc | apply Kd.R_drewN | apply Kd.R_drew)); exact HO258.out))) (below_size (by repeat (first | (with_reducible first | exact HB.out | apply below_alloc | apply pw_below_drewN | apply below_drew1) | exact HB.out)))); have n2_ := Aside0.mk (below_step (by repeat (first | (with_reducible first | exact HB.out | apply below_alloc | apply pw_below_drewN | apply below_drew1) | exact HB.out)) hb); clear HO258; clear HB; have HO258 := n0_; have HO262 := n1_; have HB := n2_; clear n0_ n1_ n2_; (try clear hb); (try clear hb2); (try clear hk); (try clear hi); (try clear ho0); obtain ⟨Ao27, co27, eo27⟩ := Kd.R_slice HO262.out; subst eo27)))
              go_ret
              exact ⟨by first | rfl | (simp [errW_none, errW_some] <;> rfl) | (simp [*, errW_none, errW_some] <;> rfl), by repeat (first | (with_reducible first | exact HB.out | apply below_alloc | apply pw_below_drewN | apply below_drew1) | exact HB.out)⟩
          · rw [if_neg c12] at H
            have c12b0 : decide (0 < (t259.length : Int)) = false := decide_eq_false c12
            have c12b1 : decide (0 < t259.length) = false := decide_eq_false (by omega)
            clear c12
            have HC28 := Aside0.mk H
            clear H
            go_upto_region 9 with (first | (go_at_call 9; (with_reducible refine (rank_Order.calls kj2 a0 _ _ l1 t255 t256 _ ?side1 ?side2 A9.out).mono ?_); (case side1 => repeat (first | exact (Kd.C_below HR1.out HB.out) | (with_reducible refine Kd.C_alloc ?_ _) | (with_reducible refine Kd.C_drewN ?_ _) | (with_reducible refine Kd.C_drew ?_))); (case side2 => exact HC1.out); rintro e w29 ⟨v257, rfl, ho0, hb⟩; have n0_ := Aside0.mk (Kd.R_lower ho0 (below_size (by repeat (first | (with_reducible first | exact HB.out | apply below_alloc | apply pw_below_drewN | apply below_drew1) | exact HB.out)))); have n1_ := Aside0.mk (below_step (by repeat (first | (with_reducible first | exact HB.out | apply below_alloc | apply pw_below_drewN | apply below_drew1) | exact HB.out)) hb); clear HB; have HO258 := n0_; have HB := n1_; clear n0_ n1_; (try clear hb); (try clear hb2); (try clear hk); (try clear hi); (try clear ho0)) | (go_at_call 13; (with_reducible refine (rank_Round.calls kj2 a0 _ _ l1 t259 t260 _ ?side1 ?side2 A10.out).mono ?_); (case side1 => repeat (first | exact (Kd.C_below HR1.out HB.out) | (with_reducible refine Kd.C_alloc ?_ _) | (with_reducible refine Kd.C_drewN ?_ _) | (with_reducible refine Kd.C_drew ?_))); (case side2 => exact HC1.out); rintro e w30 ⟨v261, rfl, ho0, hb⟩; have n0_ := Aside0.mk (Kd.R_elder' (by (with_reducible repeat (first | apply Kd.R_alloc | apply Kd.R_drewN | apply Kd.R_drew)); exact HO258.out) (Kd.R_base ho0) hb); have n1_ := Aside0.mk (Kd.R_lower (Kd.R_new' ho0 (Kd.R_lt (by (with_reducible repeat (first | apply Kd.R_alloc | apply Kd.R_drewN | apply Kd.R_drew)); exact HO258.out))) (below_size (by repeat (first | (with_reducible first | exact HB.out | apply below_alloc | apply pw_below_drewN | apply below_drew1) | exact HB.out)))); have n2_ := Aside0.mk (below_step (by repeat (first | (with_reducible first | exact HB.out | apply below_alloc | apply pw_below_drewN | apply below_drew1) | exact HB.out)) hb); clear HO258; clear HB; have HO258 := n0_; have HO262 := n1_; have HB := n2_; clear n0_ n1_ n2_; (try clear hb); (try clear hb2); (try clear hk); (try clear hi); (try clear ho0); obtain ⟨Ao31, co31, eo31⟩ := Kd.R_slice HO262.out; subst eo31))
            repeat (go_quiet (first | (go_at_call 9; (with_reducible refine (rank_Order.calls kj2 a0 _ _ l1 t255 t256 _ ?side1 ?side2 A9.out).mono ?_); (case side1 => repeat (first | exact (Kd.C_below HR1.out HB.out) | (with_reducible refine Kd.C_alloc ?_ _) | (with_reducible refine Kd.C_drewN ?_ _) | (with_reducible refine Kd.C_drew ?_))); (case side2 => exact HC1.out); rintro e w29 ⟨v257, rfl, ho0, hb⟩; have n0_ := Aside0.mk (Kd.R_lower ho0 (below_size (by repeat (first | (with_reducible first | exact HB.out | apply below_alloc | apply pw_below_drewN | apply below_drew1) | exact HB.out)))); have n1_ := Aside0.mk (below_step (by repeat (first | (with_reducible first | exact HB.out | apply below_alloc | apply pw_below_drewN | apply below_drew1) | exact HB.out)) hb); clear HB; have HO258 := n0_; have HB := n1_; clear n0_ n1_; (try clear hb); (try clear hb2); (try clear hk); (try clear hi); (try clear ho0)) | (go_at_call 13; (with_reducible refine (rank_Round.calls kj2 a0 _ _ l1 t259 t260 _ ?side1 ?side2 A10.out).mono ?_); (case side1 => repeat (first | exact (Kd.C_below HR1.out HB.out) | (with_reducible refine Kd.C_alloc ?_ _) | (with_reducible refine Kd.C_drewN ?_ _) | (with_reducible refine Kd.C_drew ?_))); (case side2 => exact HC1.out); rintro e w30 ⟨v261, rfl, ho0, hb⟩; have n0_ := Aside0.mk (Kd.R_elder' (by (with_reducible repeat (first | apply Kd.R_alloc | apply Kd.R_drewN | apply Kd.R_drew)); exact HO258.out) (Kd.R_base ho0) hb); have n1_ := Aside0.mk (Kd.R_lower (Kd.R_new' ho0 (Kd.R_lt (by (with_reducible repeat (first | apply Kd.R_alloc | apply Kd.R_drewN | apply Kd.R_drew)); exact HO258.out))) (below_size (by repeat (first | (with_reducible first | exact HB.out | apply below_alloc | apply pw_below_drewN | apply below_drew1) | exact HB.out)))); have n2_ := Aside0.mk (below_step (by repeat (first | (with_reducible first | exact HB.out | apply below_alloc | apply pw_below_drewN | apply below_drew1) | exact HB.out)) hb); clear HO258; clear HB; have HO258 := n0_; have HO262 := n1_; have HB := n2_; clear n0_ n1_ n2_; (try clear hb); (try clear hb2); (try clear hk); (try clear hi); (try clear ho0); obtain ⟨Ao31, co31, eo31⟩ := Kd.R_slice HO262.out; subst eo31)); go_upto_region 9 with (first | (go_at_call 9; (with_reducible refine (rank_Order.calls kj2 a0 _ _ l1 t255 t256 _ ?side1 ?side2 A9.out).mono ?_); (case side1 => repeat (first | exact (Kd.C_below HR1.out HB.out) | (with_reducible refine Kd.C_alloc ?_ _) | (with_reducible refine Kd.C_drewN ?_ _) | (with_reducible refine Kd.C_drew ?_))); (case side2 => exact HC1.out); rintro e w29 ⟨v257, rfl, ho0, hb⟩; have n0_ := Aside0.mk (Kd.R_lower ho0 (below_size (by repeat (first | (with_reducible first | exact HB.out | apply below_alloc | apply pw_below_drewN | apply below_drew1) | exact HB.out)))); have n1_ := Aside0.mk (below_step (by repeat (first | (with_reducible first | exact HB.out | apply below_alloc | apply pw_below_drewN | apply below_drew1) | exact HB.out)) hb); clear HB; have HO258 := n0_; have HB := n1_; clear n0_ n1_; (try clear hb); (try clear hb2); (try clear hk); (try clear hi); (try clear ho0)) | (go_at_call 13; (with_reducible refine (rank_Round.calls kj2 a0 _ _ l1 t259 t260 _ ?side1 ?side2 A10.out).mono ?_); (case side1 => repeat (first | exact (Kd.C_below HR1.out HB.out) | (with_reducible refine Kd.C_alloc ?_ _) | (with_reducible refine Kd.C_drewN ?_ _) | (with_reducible refine Kd.C_drew ?_))); (case side2 => exact HC1.out); rintro e w30 ⟨v261, rfl, ho0, hb⟩; have n0_ := Aside0.mk (Kd.R_elder' (by (with_reducible repeat (first | apply Kd.R_alloc | apply Kd.R_drewN | apply Kd.R_drew)); exact HO258.out) (Kd.R_base ho0) hb); have n1_ := Aside0.mk (Kd.R_lower (Kd.R_new' ho0 (Kd.R_lt (by (with_reducible repeat (first | apply Kd.R_alloc | apply Kd.R_drewN | apply Kd.R_drew)); exact HO258.out))) (below_size (by repeat (first | (with_reducible first | exact HB.out | apply below_alloc | apply pw_below_drewN | apply below_drew1) | exact HB.out)))); have n2_ := Aside0.mk (below_step (by repeat (first | (with_reducible first | exact HB.out | apply below_alloc | apply pw_below_drewN | apply below_drew1) | exact HB.out)) hb); clear HO258; clear HB; have HO258 := n0_; have HO262 := n1_; have HB := n2_; clear n0_ n1_ n2_; (try clear hb); (try clear hb2); (try clear hk); (try clear hi); (try clear ho0); obtain ⟨Ao31, co31, eo31⟩ := Kd.R_slice HO262.out; subst eo31)))
            (try simp only [Act.put, List.setIfInBounds_toArray, List.set_cons_zero, List.set_cons_succ])
            go_cut [67] (fun v67 wc => ∃ (kq : Nat) (x67_27 : Bool), v67 = .bool x67_27 ∧ Aside0 (treenaillaw09_RankAhead.j1 kq a0 l1 t255 x67_27 = some r) ∧ Aside0 (kq ≤ kj2) ∧ Aside0 (Kd.R (Kd.int .i64) 3 wc w.heap.size (fun _ => True) v257 t255) ∧ Aside0 (Below w.heap.size w wc))
            case first =>
              have H := HC28.out
              clear HC28
              by_cases c32 : t256 = 0
              · rw [if_pos c32] at H
                have c32b0 : (t256 == 0) = true := beq_iff_eq.mpr c32
                have c32b1 : (t256 != 0) = false := bne_eq_false_iff_eq.mpr c32
                clear c32
                (first | rw [c32b0] | (simp only [i64_w, i32_w]; rw [c32b0]) | skip)
                have H' := Aside0.mk H
                clear H
                obtain ⟨Ao33, co33, eo33⟩ := Kd.R_slice HO258.out
                subst eo33
                go_wp2
                repeat (go_quiet (fail); try go_wp2)
                go_meet
                case rel => exact ⟨_, (((t255.length : Int) != a0)), (by first | rfl | (simp; done) | (simp [*]; done)), H', ⟨by have := HJ2.out; first | omega | exact Nat.le_refl _⟩, ⟨by (with_reducible repeat (first | apply Kd.R_alloc | apply Kd.R_drewN | apply Kd.R_drew)); exact Kd.R_mono HO258.out (fun _ hk => trivial)⟩, ⟨by repeat (first | (with_reducible first | exact HB.out | apply below_alloc | apply pw_below_drewN | apply below_drew1) | exact HB.out)⟩⟩
              · rw [if_neg c32] at H
                have c32b0 : (t256 == 0) = false := beq_eq_false_iff_ne.mpr c32
                have c32b1 : (t256 != 0) = true := bne_iff_ne.mpr c32
                (first | rw [c32b0] | (simp only [i64_w, i32_w]; rw [c32b0]) | skip)
                have H' := Aside0.mk H
                clear H
                go_wp2
                repeat (go_quiet (fail); try go_wp2)
                go_meet
                case rel => exact ⟨_, (true), (by first | rfl | (simp; done) | (simp [*]; done)), H', ⟨by have := HJ2.out; first | omega | exact Nat.le_refl _⟩, ⟨by (with_reducible repeat (first | apply Kd.R_alloc | apply Kd.R_drewN | apply Kd.R_drew)); exact Kd.R_mono HO258.out (fun _ hk => trivial)⟩, ⟨by repeat (first | (with_reducible first | exact HB.out | apply below_alloc | apply pw_below_drewN | apply below_drew1) | exact HB.out)⟩⟩
            case rest =>
              clear HC28
              try clear c1
              try clear p2
              try clear c3
              try clear c4
              try clear c4b0
              try clear c5
              try clear c5b0
              try clear c6
              try clear c11
              try clear c11b0
              try clear c11b1
              try clear c12
              try clear c12b0
              try clear c12b1
              try clear c13
              try clear c13b0
              try clear c13b1
              try clear c14
              try clear c14b0
              try clear c14b1
              try clear c14b2
              try clear c32
              try clear c32b0
              try clear c32b1
              try clear p2
              obtain ⟨kq, x67_27, rfl, HA, HJ27, HO_5, HB⟩ := hcut
              cases kq with
              | zero => exact absurd HA.out (by first | (intro h_; cases h_; done) | simp [treenaillaw09_RankAhead.j1])
              | succ kj27 =>
                have H := HA.out
                clear HA
                simp only [treenaillaw09_RankAhead.j1] at H
                by_cases c34 : x67_27 = true
                · subst c34
                  have H1 : (some false) = some r := by rw [if_pos rfl] at H; exact H
                  clear H
                  have H := H1
                  clear H1
                  obtain rfl := Option.some.inj H
                  go_wp2
                  repeat (go_quiet (fail); try go_wp2)
                  go_ret
                  exact ⟨by first | rfl | (simp [errW_none, errW_some] <;> rfl) | (simp [*, errW_none, errW_some] <;> rfl), by repeat (first | (with_reducible first | exact HB.out | apply below_alloc | apply pw_below_drewN | apply below_drew1) | exact HB.out)⟩
                · replace c34 := Bool.eq_false_iff.mpr c34
                  subst c34
                  have H1 : (if 0 ≤ a0 then (if (a0 : Int).toNat ≤ 35184372088832 then (if (a0 : Int).toNat ≤ 281474976710656 then (treenaillaw09_RankAhead.l0 kj27 a0 l1 (List.replicate (a0 : Int).toNat 0) (List.replicate (a0 : Int).toNat false) t255 (t255.length : Int) 0) else (none)) else (none)) else (none)) = some r := by rw [if_neg (show ¬ (false = true) by decide)] at H; exact H
                  clear H
                  have H := H1
                  clear H1
                  by_cases c35 : 0 ≤ a0
                  · rw [if_pos c35] at H
                    have c35b0 := eq_true c35
                    have c35b1 : decide (0 ≤ a0) = true := decide_eq_true c35
                    clear c35
                    by_cases c36 : (a0 : Int).toNat ≤ 35184372088832
                    · rw [if_pos c36] at H
                      have c36b0 := eq_true c36
                      have c36b1 : decide ((a0 : Int).toNat ≤ 35184372088832) = true := decide_eq_true c36
                      clear c36
                      obtain ⟨y265, hy265⟩ : ∃ y_ : List Int, y_ = (List.replicate (a0 : Int).toNat 0) := ⟨_, rfl⟩
                      replace H : (if (a0 : Int).toNat ≤ 281474976710656 then (treenaillaw09_RankAhead.l0 kj27 a0 l1 y265 (List.replicate (a0 : Int).toNat false) t255 (t255.length : Int) 0) else (none)) = some r := by first | (rw [hy265]; with_reducible exact H) | (have H2_ := (Option.bind_some _ _).symm.trans H; rw [hy265]; with_reducible exact H2_) | (have H2_ := (Option.bind_some _ _).symm.trans H; with_reducible exact H2_) | with_reducible exact H | (rw [hy265]; exact H) | exact H
                      have Ny265 := Aside0.mk hy265
                      clear hy265
                      by_cases c37 : (a0 : Int).toNat ≤ 281474976710656
                      · rw [if_pos c37] at H
                        have c37b0 := eq_true c37
                        have c37b1 : decide ((a0 : Int).toNat ≤ 281474976710656) = true := decide_eq_true c37
                        clear c37
                        obtain ⟨y268, hy268⟩ : ∃ y_ : List Bool, y_ = (List.replicate (a0 : Int).toNat false) := ⟨_, rfl⟩
                        replace H : (treenaillaw09_RankAhead.l0 kj27 a0 l1 y265 y268 t255 (t255.length : Int) 0) = some r := by first | (rw [hy268]; with_reducible exact H) | (have H2_ := (Option.bind_some _ _).symm.trans H; rw [hy268]; with_reducible exact H2_) | (have H2_ := (Option.bind_some _ _).symm.trans H; with_reducible exact H2_) | with_reducible exact H | (rw [hy268]; exact H) | exact H
                        have Ny268 := Aside0.mk hy268
                        clear hy268
                        have H' := Aside0.mk H
                        clear H
                        go_wp2_with (first | ((with_reducible refine gate_dst (N := 69) rfl ?_); (try (refine gate_guard (by rfl) ?_; dsimp only)); refine Kd.R_make (Kd.int .i64) _ 3 rfl (N := 69) rfl 24 _ _ rfl a0 rfl rfl Try.underlying24 (.int .i64 0) 8 info3 rfl (by decide) (by omega) 0 (ok := fun _ => True) (okp := fun _ => True) rfl (fun _ hk => hk) trivial (of_decide_eq_true (by first | (with_reducible assumption) | assumption)) (Nat.le_trans (Nat.mul_le_mul_right _ (of_decide_eq_true (by first | (with_reducible assumption) | assumption) : a0.toNat ≤ 35184372088832)) (by omega)) (Below.refl _ _) (Nat.le_refl _) ?_; intro v266 w38 ho39 hb hg_ hnew_; clear hg_ hnew_; (first | rw [← Ny265.out] at ho39 | (simp only [Int.reduceToNat] at ho39; rw [← Ny265.out] at ho39)); have n0_ := Aside0.mk (Kd.R_elder' (by (with_reducible repeat (first | apply Kd.R_alloc | apply Kd.R_drewN | apply Kd.R_drew)); exact HO_5.out) (Kd.R_base ho39) hb); have n1_ := Aside0.mk (Kd.R_lower (Kd.R_new' ho39 (Kd.R_lt (by (with_reducible repeat (first | apply Kd.R_alloc | apply Kd.R_drewN | apply Kd.R_drew)); exact HO_5.out))) (below_size (by repeat (first | (with_reducible first | exact HB.out | apply below_alloc | apply pw_below_drewN | apply below_drew1) | exact HB.out)))); have n2_ := Aside0.mk (below_step (by repeat (first | (with_reducible first | exact HB.out | apply below_alloc | apply pw_below_drewN | apply below_drew1) | exact HB.out)) hb); clear HO_5; clear HB; have HO_5 := n0_; have HO267 := n1_; have HB := n2_; clear n0_ n1_ n2_; clear hb ho39) | ((with_reducible refine gate_dst (N := 71) rfl ?_); (try (refine gate_guard (by rfl) ?_; dsimp only)); refine Kd.R_make Kd.bool _ 4 rfl (N := 71) rfl 34 _ _ rfl a0 rfl rfl Try.underlying34 (.bool false) 1 info4 rfl (by decide) (by omega) false (ok := fun _ => True) (okp := fun _ => True) rfl (fun _ hk => hk) trivial (of_decide_eq_true (by first | (with_reducible assumption) | assumption)) (Nat.le_trans (Nat.mul_le_mul_right _ (of_decide_eq_true (by first | (with_reducible assumption) | assumption) : a0.toNat ≤ 281474976710656)) (by omega)) (Below.refl _ _) (Nat.le_refl _) ?_; intro v269 w40 ho41 hb hg_ hnew_; clear hg_ hnew_; (first | rw [← Ny268.out] at ho41 | (simp only [Int.reduceToNat] at ho41; rw [← Ny268.out] at ho41)); have n0_ := Aside0.mk (Kd.R_below (by (with_reducible repeat (first | apply Kd.R_alloc | apply Kd.R_drewN | apply Kd.R_drew)); exact HO_5.out) hb); have n1_ := Aside0.mk (Kd.R_below (by (with_reducible repeat (first | apply Kd.R_alloc | apply Kd.R_drewN | apply Kd.R_drew)); exact HO267.out) hb); have n2_ := Aside0.mk (Kd.R_lower ho41 (below_size (by repeat (first | (with_reducible first | exact HB.out | apply below_alloc | apply pw_below_drewN | apply below_drew1) | exact HB.out)))); have n3_ := Aside0.mk (below_step (by repeat (first | (with_reducible first | exact HB.out | apply below_alloc | apply pw_below_drewN | apply below_drew1) | exact HB.out)) hb); clear HO_5; clear HO267; clear HB; have HO_5 := n0_; have HO267 := n1_; have HO270 := n2_; have HB := n3_; clear n0_ n1_ n2_ n3_; clear hb ho41; obtain ⟨Ao42, co42, eo42⟩ := Kd.R_slice HO_5.out; subst eo42))
                        repeat (go_quiet (first | ((with_reducible refine gate_dst (N := 69) rfl ?_); (try (refine gate_guard (by rfl) ?_; dsimp only)); refine Kd.R_make (Kd.int .i64) _ 3 rfl (N := 69) rfl 24 _ _ rfl a0 rfl rfl Try.underlying24 (.int .i64 0) 8 info3 rfl (by decide) (by omega) 0 (ok := fun _ => True) (okp := fun _ => True) rfl (fun _ hk => hk) trivial (of_decide_eq_true (by first | (with_reducible assumption) | assumption)) (Nat.le_trans (Nat.mul_le_mul_right _ (of_decide_eq_true (by first | (with_reducible assumption) | assumption) : a0.toNat ≤ 35184372088832)) (by omega)) (Below.refl _ _) (Nat.le_refl _) ?_; intro v266 w38 ho39 hb hg_ hnew_; clear hg_ hnew_; (first | rw [← Ny265.out] at ho39 | (simp only [Int.reduceToNat] at ho39; rw [← Ny265.out] at ho39)); have n0_ := Aside0.mk (Kd.R_elder' (by (with_reducible repeat (first | apply Kd.R_alloc | apply Kd.R_drewN | apply Kd.R_drew)); exact HO_5.out) (Kd.R_base ho39) hb); have n1_ := Aside0.mk (Kd.R_lower (Kd.R_new' ho39 (Kd.R_lt (by (with_reducible repeat (first | apply Kd.R_alloc | apply Kd.R_drewN | apply Kd.R_drew)); exact HO_5.out))) (below_size (by repeat (first | (with_reducible first | exact HB.out | apply below_alloc | apply pw_below_drewN | apply below_drew1) | exact HB.out)))); have n2_ := Aside0.mk (below_step (by repeat (first | (with_reducible first | exact HB.out | apply below_alloc | apply pw_below_drewN | apply below_drew1) | exact HB.out)) hb); clear HO_5; clear HB; have HO_5 := n0_; have HO267 := n1_; have HB := n2_; clear n0_ n1_ n2_; clear hb ho39) | ((with_reducible refine gate_dst (N := 71) rfl ?_); (try (refine gate_guard (by rfl) ?_; dsimp only)); refine Kd.R_make Kd.bool _ 4 rfl (N := 71) rfl 34 _ _ rfl a0 rfl rfl Try.underlying34 (.bool false) 1 info4 rfl (by decide) (by omega) false (ok := fun _ => True) (okp := fun _ => True) rfl (fun _ hk => hk) trivial (of_decide_eq_true (by first | (with_reducible assumption) | assumption)) (Nat.le_trans (Nat.mul_le_mul_right _ (of_decide_eq_true (by first | (with_reducible assumption) | assumption) : a0.toNat ≤ 281474976710656)) (by omega)) (Below.refl _ _) (Nat.le_refl _) ?_; intro v269 w40 ho41 hb hg_ hnew_; clear hg_ hnew_; (first | rw [← Ny268.out] at ho41 | (simp only [Int.reduceToNat] at ho41; rw [← Ny268.out] at ho41)); have n0_ := Aside0.mk (Kd.R_below (by (with_reducible repeat (first | apply Kd.R_alloc | apply Kd.R_drewN | apply Kd.R_drew)); exact HO_5.out) hb); have n1_ := Aside0.mk (Kd.R_below (by (with_reducible repeat (first | apply Kd.R_alloc | apply Kd.R_drewN | apply Kd.R_drew)); exact HO267.out) hb); have n2_ := Aside0.mk (Kd.R_lower ho41 (below_size (by repeat (first | (with_reducible first | exact HB.out | apply below_alloc | apply pw_below_drewN | apply below_drew1) | exact HB.out)))); have n3_ := Aside0.mk (below_step (by repeat (first | (with_reducible first | exact HB.out | apply below_alloc | apply pw_below_drewN | apply below_drew1) | exact HB.out)) hb); clear HO_5; clear HO267; clear HB; have HO_5 := n0_; have HO267 := n1_; have HO270 := n2_; have HB := n3_; clear n0_ n1_ n2_ n3_; clear hb ho41; obtain ⟨Ao42, co42, eo42⟩ := Kd.R_slice HO_5.out; subst eo42)); try go_wp2_with (first | ((with_reducible refine gate_dst (N := 69) rfl ?_); (try (refine gate_guard (by rfl) ?_; dsimp only)); refine Kd.R_make (Kd.int .i64) _ 3 rfl (N := 69) rfl 24 _ _ rfl a0 rfl rfl Try.underlying24 (.int .i64 0) 8 info3 rfl (by decide) (by omega) 0 (ok := fun _ => True) (okp := fun _ => True) rfl (fun _ hk => hk) trivial (of_decide_eq_true (by first | (with_reducible assumption) | assumption)) (Nat.le_trans (Nat.mul_le_mul_right _ (of_decide_eq_true (by first | (with_reducible assumption) | assumption) : a0.toNat ≤ 35184372088832)) (by omega)) (Below.refl _ _) (Nat.le_refl _) ?_; intro v266 w38 ho39 hb hg_ hnew_; clear hg_ hnew_; (first | rw [← Ny265.out] at ho39 | (simp only [Int.reduceToNat] at ho39; rw [← Ny265.out] at ho39)); have n0_ := Aside0.mk (Kd.R_elder' (by (with_reducible repeat (first | apply Kd.R_alloc | apply Kd.R_drewN | apply Kd.R_drew)); exact HO_5.out) (Kd.R_base ho39) hb); have n1_ := Aside0.mk (Kd.R_lower (Kd.R_new' ho39 (Kd.R_lt (by (with_reducible repeat (first | apply Kd.R_alloc | apply Kd.R_drewN | apply Kd.R_drew)); exact HO_5.out))) (below_size (by repeat (first | (with_reducible first | exact HB.out | apply below_alloc | apply pw_below_drewN | apply below_drew1) | exact HB.out)))); have n2_ := Aside0.mk (below_step (by repeat (first | (with_reducible first | exact HB.out | apply below_alloc | apply pw_below_drewN | apply below_drew1) | exact HB.out)) hb); clear HO_5; clear HB; have HO_5 := n0_; have HO267 := n1_; have HB := n2_; clear n0_ n1_ n2_; clear hb ho39) | ((with_reducible refine gate_dst (N := 71) rfl ?_); (try (refine gate_guard (by rfl) ?_; dsimp only)); refine Kd.R_make Kd.bool _ 4 rfl (N := 71) rfl 34 _ _ rfl a0 rfl rfl Try.underlying34 (.bool false) 1 info4 rfl (by decide) (by omega) false (ok := fun _ => True) (okp := fun _ => True) rfl (fun _ hk => hk) trivial (of_decide_eq_true (by first | (with_reducible assumption) | assumption)) (Nat.le_trans (Nat.mul_le_mul_right _ (of_decide_eq_true (by first | (with_reducible assumption) | assumption) : a0.toNat ≤ 281474976710656)) (by omega)) (Below.refl _ _) (Nat.le_refl _) ?_; intro v269 w40 ho41 hb hg_ hnew_; clear hg_ hnew_; (first | rw [← Ny268.out] at ho41 | (simp only [Int.reduceToNat] at ho41; rw [← Ny268.out] at ho41)); have n0_ := Aside0.mk (Kd.R_below (by (with_reducible repeat (first | apply Kd.R_alloc | apply Kd.R_drewN | apply Kd.R_drew)); exact HO_5.out) hb); have n1_ := Aside0.mk (Kd.R_below (by (with_reducible repeat (first | apply Kd.R_alloc | apply Kd.R_drewN | apply Kd.R_drew)); exact HO267.out) hb); have n2_ := Aside0.mk (Kd.R_lower ho41 (below_size (by repeat (first | (with_reducible first | exact HB.out | apply below_alloc | apply pw_below_drewN | apply below_drew1) | exact HB.out)))); have n3_ := Aside0.mk (below_step (by repeat (first | (with_reducible first | exact HB.out | apply below_alloc | apply pw_below_drewN | apply below_drew1) | exact HB.out)) hb); clear HO_5; clear HO267; clear HB; have HO_5 := n0_; have HO267 := n1_; have HO270 := n2_; have HB := n3_; clear n0_ n1_ n2_ n3_; clear hb ho41; obtain ⟨Ao42, co42, eo42⟩ := Kd.R_slice HO_5.out; subst eo42)))
                        go_loopg [74] kj27 (fun kq v74 w' => ∃ (x9_3 : List Int) (x10_3 : List Bool) (x74_3 : Int), v74 = .int .i64 x74_3 ∧ Aside0 (treenaillaw09_RankAhead.l0 kq a0 l1 x9_3 x10_3 t255 (t255.length : Int) x74_3 = some r) ∧ Aside0 (kq ≤ kj27) ∧ Aside0 (Kd.R (Kd.int .i64) 3 w' w.heap.size (fun k_ => some k_ ≠ ((.slice Ao42 t255.length co42) : Value).ownBlock) v266 x9_3) ∧ Aside0 (Kd.R Kd.bool 4 w' w.heap.size (fun _ => True) v269 x10_3) ∧ Aside0 (Kd.R (Kd.int .i64) 3 w' w.heap.size (fun k_ => some k_ ≠ (v266 : Value).ownBlock) (.slice Ao42 t255.length co42) t255) ∧ Aside0 (Below w.heap.size w w'))
                        case atStart => exact ⟨(y265), (y268), (0), (by first | rfl | (simp; done) | (simp [*]; done)), H', ⟨Nat.le_refl _⟩, ⟨by (with_reducible repeat (first | apply Kd.R_alloc | apply Kd.R_drewN | apply Kd.R_drew)); exact Kd.R_mono HO267.out (fun _ hk => hk.2)⟩, ⟨by (with_reducible repeat (first | apply Kd.R_alloc | apply Kd.R_drewN | apply Kd.R_drew)); exact HO270.out⟩, ⟨by (with_reducible repeat (first | apply Kd.R_alloc | apply Kd.R_drewN | apply Kd.R_drew)); exact Kd.R_mono HO_5.out (fun _ hk => hk.2)⟩, ⟨by repeat (first | (with_reducible first | exact HB.out | apply below_alloc | apply pw_below_drewN | apply below_drew1) | exact HB.out)⟩⟩
                        case round =>
                          clear H'
                          try clear c1
                          try clear p2
                          try clear c3
                          try clear c4
                          try clear c4b0
                          try clear c5
                          try clear c5b0
                          try clear c6
                          try clear c11
                          try clear c11b0
                          try clear c11b1
                          try clear c12
                          try clear c12b0
                          try clear c12b1
                          try clear c13
                          try clear c13b0
                          try clear c13b1
                          try clear c14
                          try clear c14b0
                          try clear c14b1
                          try clear c14b2
                          try clear c32
                          try clear c32b0
                          try clear c32b1
                          try clear c34
                          try clear c35
                          try clear c35b0
                          try clear c35b1
                          try clear c36
                          try clear c36b0
                          try clear c36b1
                          try clear c37
                          try clear c37b0
                          try clear c37b1
                          try clear p2
                          obtain ⟨x9_3, x10_3, x74_3, rfl, HA, HK3, HO_9, HO_10, HO_72, HB⟩ := hrel
                          cases gk with
                          | zero => exact absurd HA.out (by first | (intro h_; cases h_; done) | simp [treenaillaw09_RankAhead.l0])
                          | succ k3 =>
                            have H := HA.out
                            clear HA
                            simp only [treenaillaw09_RankAhead.l0] at H
                            by_cases c43 : x74_3 < (t255.length : Int)
                            · rw [if_pos c43] at H
                              have c43b0 : decide (x74_3 < (t255.length : Int)) = true := decide_eq_true c43
                              clear c43
                              by_cases c44 : 0 ≤ x74_3
                              · rw [if_pos c44] at H
                                have c44b0 : decide (0 ≤ x74_3) = true := decide_eq_true c44
                                clear c44
                                by_cases c45 : x74_3 < (t255.length : Int)
                                · rw [if_pos c45] at H
                                  have c45b0 : decide (x74_3 < (t255.length : Int)) = true := decide_eq_true c45
                                  clear c45
                                  by_cases c46 : (rd t255 x74_3) < 0
                                  · rw [if_pos c46] at H
                                    have c46b0 : decide ((rd t255 x74_3) < 0) = true := decide_eq_true c46
                                    clear c46
                                    obtain rfl := Option.some.inj H
                                    have p271 : 0 ≤ (x74_3 : Int) := of_decide_eq_true (by first | (with_reducible assumption) | assumption)
                                    have q271 : x74_3 < (t255.length : Int) := of_decide_eq_true (by first | (with_reducible assumption) | assumption)
                                    obtain ⟨ad271, e271, hx271_0⟩ := Kd.at_int (Kd.R_reads' HO_72.out).2.2 x74_3 p271 q271
                                    cases e271
                                    replace p271 := eq_true p271
                                    replace q271 := eq_true q271
                                    go_wp2
                                    repeat (go_quiet (fail); try go_wp2)
                                    go_ret
                                    exact ⟨by first | rfl | (simp [errW_none, errW_some] <;> rfl) | (simp [*, errW_none, errW_some] <;> rfl), by repeat (first | (with_reducible first | exact HB.out | apply below_alloc | apply pw_below_drewN | apply below_drew1) | exact HB.out)⟩
                                  · rw [if_neg c46] at H
                                    have c46b0 : decide ((rd t255 x74_3) < 0) = false := decide_eq_false c46
                                    clear c46
                                    by_cases c47 : (rd t255 x74_3) ≥ a0
                                    · rw [if_pos c47] at H
                                      have c47b0 : decide (a0 ≤ (rd t255 x74_3)) = true := decide_eq_true c47
                                      clear c47
                                      obtain rfl := Option.some.inj H
                                      have p271 : 0 ≤ (x74_3 : Int) := of_decide_eq_true (by first | (with_reducible assumption) | assumption)
                                      have q271 : x74_3 < (t255.length : Int) := of_decide_eq_true (by first | (with_reducible assumption) | assumption)
                                      obtain ⟨ad271, e271, hx271_0⟩ := Kd.at_int (Kd.R_reads' HO_72.out).2.2 x74_3 p271 q271
                                      cases e271
                                      replace p271 := eq_true p271
                                      replace q271 := eq_true q271
                                      go_wp2
                                      repeat (go_quiet (fail); try go_wp2)
                                      go_ret
                                      exact ⟨by first | rfl | (simp [errW_none, errW_some] <;> rfl) | (simp [*, errW_none, errW_some] <;> rfl), by repeat (first | (with_reducible first | exact HB.out | apply below_alloc | apply pw_below_drewN | apply below_drew1) | exact HB.out)⟩
                                    · rw [if_neg c47] at H
                                      have c47b0 : decide (a0 ≤ (rd t255 x74_3)) = false := decide_eq_false c47
                                      clear c47
                                      by_cases c48 : 0 ≤ (rd t255 x74_3)
                                      · rw [if_pos c48] at H
                                        have c48b0 : decide (0 ≤ (rd t255 x74_3)) = true := decide_eq_true c48
                                        clear c48
                                        by_cases c49 : (rd t255 x74_3) < (x10_3.length : Int)
                                        · rw [if_pos c49] at H
                                          have c49b0 : decide ((rd t255 x74_3) < (x10_3.length : Int)) = true := decide_eq_true c49
                                          clear c49
                                          obtain ⟨bq50, hbq50⟩ : ∃ b_ : Bool, b_ = (rdOf false x10_3 (rd t255 x74_3)) := ⟨_, rfl⟩
                                          replace H : (if bq50 = true then (some false) else (if (rd t255 x74_3) < (x9_3.length : Int) then (treenaillaw09_RankAhead.l0 k3 a0 l1 (x9_3.set ((rd t255 x74_3) : Int).toNat x74_3) (x10_3.set ((rd t255 x74_3) : Int).toNat true) t255 (t255.length : Int) (wrap64 (x74_3 + 1))) else (none))) = some r := by rw [← hbq50] at H; exact H
                                          have Nbq50 := Aside0.mk hbq50
                                          clear hbq50
                                          by_cases c51 : bq50 = true
                                          · subst c51
                                            have H1 : (some false) = some r := by rw [if_pos rfl] at H; exact H
                                            clear H
                                            have H := H1
                                            clear H1
                                            obtain rfl := Option.some.inj H
                                            have p271 : 0 ≤ (x74_3 : Int) := of_decide_eq_true (by first | (with_reducible assumption) | assumption)
                                            have q271 : x74_3 < (t255.length : Int) := of_decide_eq_true (by first | (with_reducible assumption) | assumption)
                                            obtain ⟨ad271, e271, hx271_0⟩ := Kd.at_int (Kd.R_reads' HO_72.out).2.2 x74_3 p271 q271
                                            cases e271
                                            replace p271 := eq_true p271
                                            replace q271 := eq_true q271
                                            obtain ⟨Ao52, co52, eo52⟩ := Kd.R_slice HO_10.out
                                            subst eo52
                                            have p272 : 0 ≤ ((rd t255 x74_3) : Int) := of_decide_eq_true (by first | (with_reducible assumption) | assumption)
                                            have q272 : (rd t255 x74_3) < (x10_3.length : Int) := of_decide_eq_true (by first | (with_reducible assumption) | assumption)
                                            obtain ⟨ad272, e272, hx272_0⟩ := Kd.at_bool (Kd.R_reads' HO_10.out).2.2 (rd t255 x74_3) p272 q272
                                            (try rw [← Nbq50.out] at hx272_0)
                                            cases e272
                                            replace p272 := eq_true p272
                                            replace q272 := eq_true q272
                                            go_wp2
                                            repeat (go_quiet (fail); try go_wp2)
                                            go_ret
                                            exact ⟨by first | rfl | (simp [errW_none, errW_some] <;> rfl) | (simp [*, errW_none, errW_some] <;> rfl), by repeat (first | (with_reducible first | exact HB.out | apply below_alloc | apply pw_below_drewN | apply below_drew1) | exact HB.out)⟩
                                          · replace c51 := Bool.eq_false_iff.mpr c51
                                            subst c51
                                            have H1 : (if (rd t255 x74_3) < (x9_3.length : Int) then (treenaillaw09_RankAhead.l0 k3 a0 l1 (x9_3.set ((rd t255 x74_3) : Int).toNat x74_3) (x10_3.set ((rd t255 x74_3) : Int).toNat true) t255 (t255.length : Int) (wrap64 (x74_3 + 1))) else (none)) = some r := by rw [if_neg (show ¬ (false = true) by decide)] at H; exact H
                                            clear H
                                            have H := H1
                                            clear H1
                                            obtain ⟨y273, hy273⟩ : ∃ y_ : List Bool, y_ = (x10_3.set ((rd t255 x74_3) : Int).toNat true) := ⟨_, rfl⟩
                                            replace H : (if (rd t255 x74_3) < (x9_3.length : Int) then (treenaillaw09_RankAhead.l0 k3 a0 l1 (x9_3.set ((rd t255 x74_3) : Int).toNat x74_3) y273 t255 (t255.length : Int) (wrap64 (x74_3 + 1))) else (none)) = some r := by first | (rw [hy273]; with_reducible exact H) | (have H2_ := (Option.bind_some _ _).symm.trans H; rw [hy273]; with_reducible exact H2_) | (have H2_ := (Option.bind_some _ _).symm.trans H; with_reducible exact H2_) | with_reducible exact H | (rw [hy273]; exact H) | exact H
                                            have Ny273 := Aside0.mk hy273
                                            clear hy273
                                            by_cases c54 : (rd t255 x74_3) < (x9_3.length : Int)
                                            · rw [if_pos c54] at H
                                              have c54b0 : decide ((rd t255 x74_3) < (x9_3.length : Int)) = true := decide_eq_true c54
                                              clear c54
                                              obtain ⟨y274, hy274⟩ : ∃ y_ : List Int, y_ = (x9_3.set ((rd t255 x74_3) : Int).toNat x74_3) := ⟨_, rfl⟩
                                              replace H : (treenaillaw09_RankAhead.l0 k3 a0 l1 y274 y273 t255 (t255.length : Int) (wrap64 (x74_3 + 1))) = some r := by first | (rw [hy274]; with_reducible exact H) | (have H2_ := (Option.bind_some _ _).symm.trans H; rw [hy274]; with_reducible exact H2_) | (have H2_ := (Option.bind_some _ _).symm.trans H; with_reducible exact H2_) | with_reducible exact H | (rw [hy274]; exact H) | exact H
                                              have Ny274 := Aside0.mk hy274
                                              clear hy274
                                              have H' := Aside0.mk H
                                              clear H
                                              have p271 : 0 ≤ (x74_3 : Int) := of_decide_eq_true (by first | (with_reducible assumption) | assumption)
                                              have q271 : x74_3 < (t255.length : Int) := of_decide_eq_true (by first | (with_reducible assumption) | assumption)
                                              obtain ⟨ad271, e271, hx271_0⟩ := Kd.at_int (Kd.R_reads' HO_72.out).2.2 x74_3 p271 q271
                                              cases e271
                                              replace p271 := eq_true p271
                                              replace q271 := eq_true q271
                                              obtain ⟨Ao56, co56, eo56⟩ := Kd.R_slice HO_10.out
                                              subst eo56
                                              have p272 : 0 ≤ ((rd t255 x74_3) : Int) := of_decide_eq_true (by first | (with_reducible assumption) | assumption)
                                              have q272 : (rd t255 x74_3) < (x10_3.length : Int) := of_decide_eq_true (by first | (with_reducible assumption) | assumption)
                                              obtain ⟨ad272, e272, hx272_0⟩ := Kd.at_bool (Kd.R_reads' HO_10.out).2.2 (rd t255 x74_3) p272 q272
                                              (try rw [← Nbq50.out] at hx272_0)
                                              cases e272
                                              replace p272 := eq_true p272
                                              replace q272 := eq_true q272
                                              have p53 : 0 ≤ ((rd t255 x74_3) : Int) := of_decide_eq_true (by first | (with_reducible assumption) | assumption)
                                              have q53 : ((rd t255 x74_3) : Int) < ((x10_3.length : Int) : Int) := of_decide_eq_true (by first | (with_reducible assumption) | assumption)
                                              obtain ⟨go53, co53, eo53, gb53, gl53, cl53, HG53⟩ := Kd.R_form HO_10.out (by omega)
                                              (first | cases eo53 | (injection eo53 with ea_ en_ ec_; (first | subst ea_ | (injection ea_ with ea_; subst ea_)); subst ec_; clear en_))
                                              have GB53 := Aside0.mk gb53
                                              have GG53 := Aside0.mk HG53
                                              clear gb53 gl53 HG53
                                              (first | simp only [add_plain] at hx272_0 | skip)
                                              obtain ⟨hx53_0, hf53_0⟩ := Kd.R_celln false HO_10.out ((rd t255 x74_3) : Int) p53 q53
                                              replace p53 := eq_true p53
                                              replace q53 := eq_true q53
                                              have HP57 := Kd.R_putg HO_10.out ((rd t255 x74_3) : Int) true
                                              go_wp2_with (first | ((with_reducible refine gate_store (t := 4) (p := 94) rfl ?_); (try (rw [drewN_self wr]; generalize hq_ : World.drewN wr _ = wr; have n0_ := Aside0.mk (Kd.R_at hq_ HO_9.out); have n1_ := Aside0.mk (Kd.R_at hq_ HO_10.out); have n2_ := Aside0.mk (Kd.R_at hq_ HO_72.out); have n3_ := Aside0.mk (below_at hq_ HB.out); clear hq_ HO_9 HO_10 HO_72 HB; have HO_9 := n0_; have HO_10 := n1_; have HO_72 := n2_; have HB := n3_; clear n0_ n1_ n2_ n3_; (try (have HP57 := Kd.R_putg HO_10.out ((rd t255 x74_3) : Int) true)))); refine store_event (t := 4) (p := 94) (v := ?vo_w58) (w1 := (wr.setCell ⟨go53, ((rd t255 x74_3) : Int).toNat, none⟩ (.bool true))) ?hg ?ho ?hn ?hr ?_; (case ho => rfl); (case hg => rfl); (case hn => rfl); (case hr => first | (go_simp; done) | (go_simp; rfl)); intro w58 hw; have hg : wr.grownBy w58 (some go53) := (by rw [hw]; exact HP57.2); have hp_ : Kd.R Kd.bool 4 w58 w.heap.size (fun _ => True) (.slice (some ⟨go53, 0, none⟩) x10_3.length co56) y273 := (by rw [hw, Ny273.out]; exact HP57.1); clear HP57; have n0_ := Aside0.mk (Kd.R_over' (v := (.slice (some ⟨go53, 0, none⟩) x10_3.length co56)) (by (with_reducible repeat (first | apply Kd.R_alloc | apply Kd.R_drewN | apply Kd.R_drew)); exact HO_9.out) (Kd.R_typed HO_10.out) (by decide) hg); have n1_ := Aside0.mk (hp_); have n2_ := Aside0.mk (Kd.R_over' (v := (.slice (some ⟨go53, 0, none⟩) x10_3.length co56)) (by (with_reducible repeat (first | apply Kd.R_alloc | apply Kd.R_drewN | apply Kd.R_drew)); exact HO_72.out) (Kd.R_typed HO_10.out) (by decide) hg); have n3_ := Aside0.mk ((by rw [hw]; exact below_set (HB.out) GB53.out : Below w.heap.size w w58)); clear HO_9; clear HO_10; clear HO_72; clear HB; have HO_9 := n0_; have HO_10 := n1_; have HO_72 := n2_; have HB := n3_; clear n0_ n1_ n2_ n3_; clear hg hw hp_; have p55 : 0 ≤ ((rd t255 x74_3) : Int) := of_decide_eq_true (by first | (with_reducible assumption) | assumption); have q55 : ((rd t255 x74_3) : Int) < ((x9_3.length : Int) : Int) := of_decide_eq_true (by first | (with_reducible assumption) | assumption); obtain ⟨go55, co55, eo55, gb55, gl55, cl55, HG55⟩ := Kd.R_form HO_9.out (by omega); (first | cases eo55 | (injection eo55 with ea_ en_ ec_; (first | subst ea_ | (injection ea_ with ea_; subst ea_)); subst ec_; clear en_)); have GB55 := Aside0.mk gb55; have GG55 := Aside0.mk HG55; clear gb55 gl55 HG55; obtain ⟨hx55_0, hf55_0⟩ := Kd.R_celln 0 HO_9.out ((rd t255 x74_3) : Int) p55 q55; replace p55 := eq_true p55; replace q55 := eq_true q55; obtain ⟨hy59_, hz59_⟩ := Kd.R_celln 0 HO_9.out ((rd t255 x74_3) : Int) (of_decide_eq_true (by first | (with_reducible assumption) | assumption)) (of_decide_eq_true (by first | (with_reducible assumption) | assumption)); have HP59 := Kd.R_putg HO_9.out ((rd t255 x74_3) : Int) x74_3) | ((with_reducible refine gate_store (t := 3) (p := 98) rfl ?_); (try (rw [drewN_self w58]; generalize hq_ : World.drewN w58 _ = w58; have n0_ := Aside0.mk (Kd.R_at hq_ HO_9.out); have n1_ := Aside0.mk (Kd.R_at hq_ HO_10.out); have n2_ := Aside0.mk (Kd.R_at hq_ HO_72.out); have n3_ := Aside0.mk (below_at hq_ HB.out); clear hq_ HO_9 HO_10 HO_72 HB; have HO_9 := n0_; have HO_10 := n1_; have HO_72 := n2_; have HB := n3_; clear n0_ n1_ n2_ n3_; (try (obtain ⟨hy59_, hz59_⟩ := Kd.R_celln 0 HO_9.out ((rd t255 x74_3) : Int) (of_decide_eq_true (by first | (with_reducible assumption) | assumption)) (of_decide_eq_true (by first | (with_reducible assumption) | assumption)))); (try (have HP59 := Kd.R_putg HO_9.out ((rd t255 x74_3) : Int) x74_3)))); refine store_event (t := 3) (p := 98) (v := ?vo_w60) (w1 := (w58.setCell ⟨go55, ((rd t255 x74_3) : Int).toNat, none⟩ (.int .i64 x74_3))) ?hg ?ho ?hn ?hr ?_; (case ho => rfl); (case hg => rfl); (case hn => rfl); (case hr => first | (go_simp; done) | (go_simp; rfl)); intro w60 hw; have hg : w58.grownBy w60 (some go55) := (by rw [hw]; exact HP59.2); have hp_ : Kd.R (Kd.int .i64) 3 w60 w.heap.size (fun k_ => some k_ ≠ (.slice (some ad271) t255.length co42 : Value).ownBlock) (.slice (some ⟨go55, 0, none⟩) x9_3.length co55) y274 := (by rw [hw, Ny274.out]; exact HP59.1); clear HP59; have n0_ := Aside0.mk (hp_); have n1_ := Aside0.mk (Kd.R_over' (v := (.slice (some ⟨go55, 0, none⟩) x9_3.length co55)) (by (with_reducible repeat (first | apply Kd.R_alloc | apply Kd.R_drewN | apply Kd.R_drew)); exact HO_10.out) (Kd.R_typed HO_9.out) (by decide) hg); have n2_ := Aside0.mk (Kd.R_after (v := (.slice (some ⟨go55, 0, none⟩) x9_3.length co55)) (v1 := (.slice (some ⟨go55, 0, none⟩) x9_3.length co55)) (ok := (fun _ => True)) (by (with_reducible repeat (first | apply Kd.R_alloc | apply Kd.R_drewN | apply Kd.R_drew)); exact Kd.R_mono HO_72.out (fun _ hk => ⟨trivial, hk⟩)) hg (.inl rfl)); have n3_ := Aside0.mk ((by rw [hw]; exact below_set (HB.out) GB55.out : Below w.heap.size w w60)); clear HO_9; clear HO_10; clear HO_72; clear HB; have HO_9 := n0_; have HO_10 := n1_; have HO_72 := n2_; have HB := n3_; clear n0_ n1_ n2_ n3_; clear hg hw hp_))
                                              repeat (go_quiet (first | ((with_reducible refine gate_store (t := 4) (p := 94) rfl ?_); (try (rw [drewN_self wr]; generalize hq_ : World.drewN wr _ = wr; have n0_ := Aside0.mk (Kd.R_at hq_ HO_9.out); have n1_ := Aside0.mk (Kd.R_at hq_ HO_10.out); have n2_ := Aside0.mk (Kd.R_at hq_ HO_72.out); have n3_ := Aside0.mk (below_at hq_ HB.out); clear hq_ HO_9 HO_10 HO_72 HB; have HO_9 := n0_; have HO_10 := n1_; have HO_72 := n2_; have HB := n3_; clear n0_ n1_ n2_ n3_; (try (have HP57 := Kd.R_putg HO_10.out ((rd t255 x74_3) : Int) true)))); refine store_event (t := 4) (p := 94) (v := ?vo_w58) (w1 := (wr.setCell ⟨go53, ((rd t255 x74_3) : Int).toNat, none⟩ (.bool true))) ?hg ?ho ?hn ?hr ?_; (case ho => rfl); (case hg => rfl); (case hn => rfl); (case hr => first | (go_simp; done) | (go_simp; rfl)); intro w58 hw; have hg : wr.grownBy w58 (some go53) := (by rw [hw]; exact HP57.2); have hp_ : Kd.R Kd.bool 4 w58 w.heap.size (fun _ => True) (.slice (some ⟨go53, 0, none⟩) x10_3.length co56) y273 := (by rw [hw, Ny273.out]; exact HP57.1); clear HP57; have n0_ := Aside0.mk (Kd.R_over' (v := (.slice (some ⟨go53, 0, none⟩) x10_3.length co56)) (by (with_reducible repeat (first | apply Kd.R_alloc | apply Kd.R_drewN | apply Kd.R_drew)); exact HO_9.out) (Kd.R_typed HO_10.out) (by decide) hg); have n1_ := Aside0.mk (hp_); have n2_ := Aside0.mk (Kd.R_over' (v := (.slice (some ⟨go53, 0, none⟩) x10_3.length co56)) (by (with_reducible repeat (first | apply Kd.R_alloc | apply Kd.R_drewN | apply Kd.R_drew)); exact HO_72.out) (Kd.R_typed HO_10.out) (by decide) hg); have n3_ := Aside0.mk ((by rw [hw]; exact below_set (HB.out) GB53.out : Below w.heap.size w w58)); clear HO_9; clear HO_10; clear HO_72; clear HB; have HO_9 := n0_; have HO_10 := n1_; have HO_72 := n2_; have HB := n3_; clear n0_ n1_ n2_ n3_; clear hg hw hp_; have p55 : 0 ≤ ((rd t255 x74_3) : Int) := of_decide_eq_true (by first | (with_reducible assumption) | assumption); have q55 : ((rd t255 x74_3) : Int) < ((x9_3.length : Int) : Int) := of_decide_eq_true (by first | (with_reducible assumption) | assumption); obtain ⟨go55, co55, eo55, gb55, gl55, cl55, HG55⟩ := Kd.R_form HO_9.out (by omega); (first | cases eo55 | (injection eo55 with ea_ en_ ec_; (first | subst ea_ | (injection ea_ with ea_; subst ea_)); subst ec_; clear en_)); have GB55 := Aside0.mk gb55; have GG55 := Aside0.mk HG55; clear gb55 gl55 HG55; obtain ⟨hx55_0, hf55_0⟩ := Kd.R_celln 0 HO_9.out ((rd t255 x74_3) : Int) p55 q55; replace p55 := eq_true p55; replace q55 := eq_true q55; obtain ⟨hy59_, hz59_⟩ := Kd.R_celln 0 HO_9.out ((rd t255 x74_3) : Int) (of_decide_eq_true (by first | (with_reducible assumption) | assumption)) (of_decide_eq_true (by first | (with_reducible assumption) | assumption)); have HP59 := Kd.R_putg HO_9.out ((rd t255 x74_3) : Int) x74_3) | ((with_reducible refine gate_store (t := 3) (p := 98) rfl ?_); (try (rw [drewN_self w58]; generalize hq_ : World.drewN w58 _ = w58; have n0_ := Aside0.mk (Kd.R_at hq_ HO_9.out); have n1_ := Aside0.mk (Kd.R_at hq_ HO_10.out); have n2_ := Aside0.mk (Kd.R_at hq_ HO_72.out); have n3_ := Aside0.mk (below_at hq_ HB.out); clear hq_ HO_9 HO_10 HO_72 HB; have HO_9 := n0_; have HO_10 := n1_; have HO_72 := n2_; have HB := n3_; clear n0_ n1_ n2_ n3_; (try (obtain ⟨hy59_, hz59_⟩ := Kd.R_celln 0 HO_9.out ((rd t255 x74_3) : Int) (of_decide_eq_true (by first | (with_reducible assumption) | assumption)) (of_decide_eq_true (by first | (with_reducible assumption) | assumption)))); (try (have HP59 := Kd.R_putg HO_9.out ((rd t255 x74_3) : Int) x74_3)))); refine store_event (t := 3) (p := 98) (v := ?vo_w60) (w1 := (w58.setCell ⟨go55, ((rd t255 x74_3) : Int).toNat, none⟩ (.int .i64 x74_3))) ?hg ?ho ?hn ?hr ?_; (case ho => rfl); (case hg => rfl); (case hn => rfl); (case hr => first | (go_simp; done) | (go_simp; rfl)); intro w60 hw; have hg : w58.grownBy w60 (some go55) := (by rw [hw]; exact HP59.2); have hp_ : Kd.R (Kd.int .i64) 3 w60 w.heap.size (fun k_ => some k_ ≠ (.slice (some ad271) t255.length co42 : Value).ownBlock) (.slice (some ⟨go55, 0, none⟩) x9_3.length co55) y274 := (by rw [hw, Ny274.out]; exact HP59.1); clear HP59; have n0_ := Aside0.mk (hp_); have n1_ := Aside0.mk (Kd.R_over' (v := (.slice (some ⟨go55, 0, none⟩) x9_3.length co55)) (by (with_reducible repeat (first | apply Kd.R_alloc | apply Kd.R_drewN | apply Kd.R_drew)); exact HO_10.out) (Kd.R_typed HO_9.out) (by decide) hg); have n2_ := Aside0.mk (Kd.R_after (v := (.slice (some ⟨go55, 0, none⟩) x9_3.length co55)) (v1 := (.slice (some ⟨go55, 0, none⟩) x9_3.length co55)) (ok := (fun _ => True)) (by (with_reducible repeat (first | apply Kd.R_alloc | apply Kd.R_drewN | apply Kd.R_drew)); exact Kd.R_mono HO_72.out (fun _ hk => ⟨trivial, hk⟩)) hg (.inl rfl)); have n3_ := Aside0.mk ((by rw [hw]; exact below_set (HB.out) GB55.out : Below w.heap.size w w60)); clear HO_9; clear HO_10; clear HO_72; clear HB; have HO_9 := n0_; have HO_10 := n1_; have HO_72 := n2_; have HB := n3_; clear n0_ n1_ n2_ n3_; clear hg hw hp_)); try go_wp2_with (first | ((with_reducible refine gate_store (t := 4) (p := 94) rfl ?_); (try (rw [drewN_self wr]; generalize hq_ : World.drewN wr _ = wr; have n0_ := Aside0.mk (Kd.R_at hq_ HO_9.out); have n1_ := Aside0.mk (Kd.R_at hq_ HO_10.out); have n2_ := Aside0.mk (Kd.R_at hq_ HO_72.out); have n3_ := Aside0.mk (below_at hq_ HB.out); clear hq_ HO_9 HO_10 HO_72 HB; have HO_9 := n0_; have HO_10 := n1_; have HO_72 := n2_; have HB := n3_; clear n0_ n1_ n2_ n3_; (try (have HP57 := Kd.R_putg HO_10.out ((rd t255 x74_3) : Int) true)))); refine store_event (t := 4) (p := 94) (v := ?vo_w58) (w1 := (wr.setCell ⟨go53, ((rd t255 x74_3) : Int).toNat, none⟩ (.bool true))) ?hg ?ho ?hn ?hr ?_; (case ho => rfl); (case hg => rfl); (case hn => rfl); (case hr => first | (go_simp; done) | (go_simp; rfl)); intro w58 hw; have hg : wr.grownBy w58 (some go53) := (by rw [hw]; exact HP57.2); have hp_ : Kd.R Kd.bool 4 w58 w.heap.size (fun _ => True) (.slice (some ⟨go53, 0, none⟩) x10_3.length co56) y273 := (by rw [hw, Ny273.out]; exact HP57.1); clear HP57; have n0_ := Aside0.mk (Kd.R_over' (v := (.slice (some ⟨go53, 0, none⟩) x10_3.length co56)) (by (with_reducible repeat (first | apply Kd.R_alloc | apply Kd.R_drewN | apply Kd.R_drew)); exact HO_9.out) (Kd.R_typed HO_10.out) (by decide) hg); have n1_ := Aside0.mk (hp_); have n2_ := Aside0.mk (Kd.R_over' (v := (.slice (some ⟨go53, 0, none⟩) x10_3.length co56)) (by (with_reducible repeat (first | apply Kd.R_alloc | apply Kd.R_drewN | apply Kd.R_drew)); exact HO_72.out) (Kd.R_typed HO_10.out) (by decide) hg); have n3_ := Aside0.mk ((by rw [hw]; exact below_set (HB.out) GB53.out : Below w.heap.size w w58)); clear HO_9; clear HO_10; clear HO_72; clear HB; have HO_9 := n0_; have HO_10 := n1_; have HO_72 := n2_; have HB := n3_; clear n0_ n1_ n2_ n3_; clear hg hw hp_; have p55 : 0 ≤ ((rd t255 x74_3) : Int) := of_decide_eq_true (by first | (with_reducible assumption) | assumption); have q55 : ((rd t255 x74_3) : Int) < ((x9_3.length : Int) : Int) := of_decide_eq_true (by first | (with_reducible assumption) | assumption); obtain ⟨go55, co55, eo55, gb55, gl55, cl55, HG55⟩ := Kd.R_form HO_9.out (by omega); (first | cases eo55 | (injection eo55 with ea_ en_ ec_; (first | subst ea_ | (injection ea_ with ea_; subst ea_)); subst ec_; clear en_)); have GB55 := Aside0.mk gb55; have GG55 := Aside0.mk HG55; clear gb55 gl55 HG55; obtain ⟨hx55_0, hf55_0⟩ := Kd.R_celln 0 HO_9.out ((rd t255 x74_3) : Int) p55 q55; replace p55 := eq_true p55; replace q55 := eq_true q55; obtain ⟨hy59_, hz59_⟩ := Kd.R_celln 0 HO_9.out ((rd t255 x74_3) : Int) (of_decide_eq_true (by first | (with_reducible assumption) | assumption)) (of_decide_eq_true (by first | (with_reducible assumption) | assumption)); have HP59 := Kd.R_putg HO_9.out ((rd t255 x74_3) : Int) x74_3) | ((with_reducible refine gate_store (t := 3) (p := 98) rfl ?_); (try (rw [drewN_self w58]; generalize hq_ : World.drewN w58 _ = w58; have n0_ := Aside0.mk (Kd.R_at hq_ HO_9.out); have n1_ := Aside0.mk (Kd.R_at hq_ HO_10.out); have n2_ := Aside0.mk (Kd.R_at hq_ HO_72.out); have n3_ := Aside0.mk (below_at hq_ HB.out); clear hq_ HO_9 HO_10 HO_72 HB; have HO_9 := n0_; have HO_10 := n1_; have HO_72 := n2_; have HB := n3_; clear n0_ n1_ n2_ n3_; (try (obtain ⟨hy59_, hz59_⟩ := Kd.R_celln 0 HO_9.out ((rd t255 x74_3) : Int) (of_decide_eq_true (by first | (with_reducible assumption) | assumption)) (of_decide_eq_true (by first | (with_reducible assumption) | assumption)))); (try (have HP59 := Kd.R_putg HO_9.out ((rd t255 x74_3) : Int) x74_3)))); refine store_event (t := 3) (p := 98) (v := ?vo_w60) (w1 := (w58.setCell ⟨go55, ((rd t255 x74_3) : Int).toNat, none⟩ (.int .i64 x74_3))) ?hg ?ho ?hn ?hr ?_; (case ho => rfl); (case hg => rfl); (case hn => rfl); (case hr => first | (go_simp; done) | (go_simp; rfl)); intro w60 hw; have hg : w58.grownBy w60 (some go55) := (by rw [hw]; exact HP59.2); have hp_ : Kd.R (Kd.int .i64) 3 w60 w.heap.size (fun k_ => some k_ ≠ (.slice (some ad271) t255.length co42 : Value).ownBlock) (.slice (some ⟨go55, 0, none⟩) x9_3.length co55) y274 := (by rw [hw, Ny274.out]; exact HP59.1); clear HP59; have n0_ := Aside0.mk (hp_); have n1_ := Aside0.mk (Kd.R_over' (v := (.slice (some ⟨go55, 0, none⟩) x9_3.length co55)) (by (with_reducible repeat (first | apply Kd.R_alloc | apply Kd.R_drewN | apply Kd.R_drew)); exact HO_10.out) (Kd.R_typed HO_9.out) (by decide) hg); have n2_ := Aside0.mk (Kd.R_after (v := (.slice (some ⟨go55, 0, none⟩) x9_3.length co55)) (v1 := (.slice (some ⟨go55, 0, none⟩) x9_3.length co55)) (ok := (fun _ => True)) (by (with_reducible repeat (first | apply Kd.R_alloc | apply Kd.R_drewN | apply Kd.R_drew)); exact Kd.R_mono HO_72.out (fun _ hk => ⟨trivial, hk⟩)) hg (.inl rfl)); have n3_ := Aside0.mk ((by rw [hw]; exact below_set (HB.out) GB55.out : Below w.heap.size w w60)); clear HO_9; clear HO_10; clear HO_72; clear HB; have HO_9 := n0_; have HO_10 := n1_; have HO_72 := n2_; have HB := n3_; clear n0_ n1_ n2_ n3_; clear hg hw hp_)))
                                              go_roundg k3
                                              case measure => have := HJ2.out; have := HJ27.out; have := HK3.out; omega
                                              case rel => exact ⟨(y274), (y273), (wrap64 (x74_3 + 1)), (by first | rfl | (simp; done) | (simp [*]; done)), H', ⟨by have := HJ2.out; have := HJ27.out; have := HK3.out; omega⟩, ⟨by (with_reducible repeat (first | apply Kd.R_alloc | apply Kd.R_drewN | apply Kd.R_drew)); exact HO_9.out⟩, ⟨by (with_reducible repeat (first | apply Kd.R_alloc | apply Kd.R_drewN | apply Kd.R_drew)); exact HO_10.out⟩, ⟨by (with_reducible repeat (first | apply Kd.R_alloc | apply Kd.R_drewN | apply Kd.R_drew)); exact Kd.R_mono HO_72.out (fun _ hk => hk.2)⟩, ⟨by repeat (first | (with_reducible first | exact HB.out | apply below_alloc | apply pw_below_drewN | apply below_drew1) | exact HB.out)⟩⟩
                                            · rw [if_neg c54] at H
                                              exact absurd H (by simp)
                                        · rw [if_neg c49] at H
                                          exact absurd H (by simp)
                                      · rw [if_neg c48] at H
                                        exact absurd H (by simp)
                                · rw [if_neg c45] at H
                                  exact absurd H (by simp)
                              · rw [if_neg c44] at H
                                exact absurd H (by simp)
                            · rw [if_neg c43] at H
                              have c43b0 : decide (x74_3 < (t255.length : Int)) = false := decide_eq_false c43
                              clear c43
                              have H' := Aside0.mk H
                              clear H
                              go_wp2
                              repeat (go_quiet (fail); try go_wp2)
                              go_loopg [102] k3 (fun kq v102 w' => ∃ (x102_4 : Int), v102 = .int .i64 x102_4 ∧ Aside0 (treenaillaw09_RankAhead.l1 kq x9_3 l1 (l1.length : Int) x102_4 = some r) ∧ Aside0 (kq ≤ k3) ∧ Aside0 (Kd.R (Kd.int .i64) 3 w' w.heap.size (fun _ => True) v266 x9_3) ∧ Aside0 (Below w.heap.size w w'))
                              case atStart => exact ⟨(0), (by first | rfl | (simp; done) | (simp [*]; done)), H', ⟨Nat.le_refl _⟩, ⟨by (with_reducible repeat (first | apply Kd.R_alloc | apply Kd.R_drewN | apply Kd.R_drew)); exact Kd.R_mono HO_9.out (fun _ hk => trivial)⟩, ⟨by repeat (first | (with_reducible first | exact HB.out | apply below_alloc | apply pw_below_drewN | apply below_drew1) | exact HB.out)⟩⟩
                              case round =>
                                clear H'
                                try clear c1
                                try clear p2
                                try clear q2
                                try clear hx2
                                try clear c3
                                try clear c4
                                try clear c4b0
                                try clear c5
                                try clear c5b0
                                try clear p5
                                try clear q5
                                try clear hx5
                                try clear hf5
                                try clear c6
                                try clear p6
                                try clear c11
                                try clear c11b0
                                try clear c11b1
                                try clear c12
                                try clear c12b0
                                try clear c12b1
                                try clear c13
                                try clear c13b0
                                try clear c13b1
                                try clear c14
                                try clear c14b0
                                try clear c14b1
                                try clear c14b2
                                try clear p27
                                try clear q27
                                try clear hx27
                                try clear c32
                                try clear c32b0
                                try clear c32b1
                                try clear c34
                                try clear c35
                                try clear c35b0
                                try clear c35b1
                                try clear c36
                                try clear c36b0
                                try clear c36b1
                                try clear c37
                                try clear c37b0
                                try clear c37b1
                                try clear c43
                                try clear c43b0
                                try clear c44
                                try clear c44b0
                                try clear c45
                                try clear c45b0
                                try clear c46
                                try clear c46b0
                                try clear c47
                                try clear c47b0
                                try clear c48
                                try clear c48b0
                                try clear c49
                                try clear c49b0
                                try clear q50
                                try clear c51
                                try clear p53
                                try clear q53
                                try clear hx53
                                try clear hf53
                                try clear c54
                                try clear c54b0
                                try clear p55
                                try clear q55
                                try clear hx55
                                try clear hf55
                                try clear hx271_0
                                try clear hx272_0
                                try clear hx53_0
                                try clear hx55_0
                                try clear p2
                                try clear p271
                                try clear p272
                                try clear p53
                                try clear p55
                                try clear q271
                                try clear q272
                                try clear q53
                                try clear q55
                                obtain ⟨x102_4, rfl, HA, HK4, HO_9, HB⟩ := hrel
                                cases gk with
                                | zero => exact absurd HA.out (by first | (intro h_; cases h_; done) | simp [treenaillaw09_RankAhead.l1])
                                | succ k4 =>
                                  have H := HA.out
                                  clear HA
                                  simp only [treenaillaw09_RankAhead.l1] at H
                                  by_cases c61 : x102_4 < (l1.length : Int)
                                  · rw [if_pos c61] at H
                                    have c61b0 : decide (x102_4 < (l1.length : Int)) = true := decide_eq_true c61
                                    clear c61
                                    by_cases c62 : 0 ≤ x102_4
                                    · rw [if_pos c62] at H
                                      have c62b0 : decide (0 ≤ x102_4) = true := decide_eq_true c62
                                      clear c62
                                      by_cases c63 : x102_4 < (l1.length : Int)
                                      · rw [if_pos c63] at H
                                        have c63b0 : decide (x102_4 < (l1.length : Int)) = true := decide_eq_true c63
                                        clear c63
                                        by_cases c64 : 0 ≤ ((rd_T36 l1 x102_4).f0)
                                        · rw [if_pos c64] at H
                                          have c64b0 : decide (0 ≤ ((rd_T36 l1 x102_4).f0)) = true := decide_eq_true c64
                                          clear c64
                                          by_cases c65 : ((rd_T36 l1 x102_4).f0) < (x9_3.length : Int)
                                          · rw [if_pos c65] at H
                                            have c65b0 : decide (((rd_T36 l1 x102_4).f0) < (x9_3.length : Int)) = true := decide_eq_true c65
                                            clear c65
                                            by_cases c66 : 0 ≤ ((rd_T36 l1 x102_4).f1)
                                            · rw [if_pos c66] at H
                                              have c66b0 : decide (0 ≤ ((rd_T36 l1 x102_4).f1)) = true := decide_eq_true c66
                                              clear c66
                                              by_cases c67 : ((rd_T36 l1 x102_4).f1) < (x9_3.length : Int)
                                              · rw [if_pos c67] at H
                                                have c67b0 : decide (((rd_T36 l1 x102_4).f1) < (x9_3.length : Int)) = true := decide_eq_true c67
                                                clear c67
                                                by_cases c68 : (rd x9_3 ((rd_T36 l1 x102_4).f0)) ≥ (rd x9_3 ((rd_T36 l1 x102_4).f1))
                                                · rw [if_pos c68] at H
                                                  have c68b0 : decide ((rd x9_3 ((rd_T36 l1 x102_4).f1)) ≤ (rd x9_3 ((rd_T36 l1 x102_4).f0))) = true := decide_eq_true c68
                                                  clear c68
                                                  obtain rfl := Option.some.inj H
                                                  have p275 : 0 ≤ (x102_4 : Int) := of_decide_eq_true (by first | (with_reducible assumption) | assumption)
                                                  have q275 : x102_4 < (l1.length : Int) := of_decide_eq_true (by first | (with_reducible assumption) | assumption)
                                                  obtain ⟨ad275, e275, hx275_0, hx275_1⟩ := at_T36 HR1.out x102_4 p275 q275
                                                  cases e275
                                                  replace hx275_0 := (HB.out.cell (World.block_lt_of_cell? w _ hx275_0)).trans hx275_0
                                                  replace hx275_1 := (HB.out.cell (World.block_lt_of_cell? w _ hx275_1)).trans hx275_1
                                                  replace p275 := eq_true p275
                                                  replace q275 := eq_true q275
                                                  go_wp2_with (first | ((with_reducible refine gate_dst (N := 14) rfl ?_); (try (refine gate_guard (by rfl) ?_; dsimp only)); refine box_event ?hg (N := 14) ?hd (cs := #[.int .i64 0, .int .i64 0]) (t := 36) ?hr ?_; (case hd => rfl); (case hg => rfl); (case hr => first | (go_simp; done) | (go_simp; rfl)); intro gb276 hg w69 hbox hb; have n0_ := Aside0.mk (Kd.R_below (by (with_reducible repeat (first | apply Kd.R_alloc | apply Kd.R_drewN | apply Kd.R_drew)); exact HO_9.out) hb); have n1_ := Aside0.mk (below_step (by repeat (first | (with_reducible first | exact HB.out | apply below_alloc | apply pw_below_drewN | apply below_drew1) | exact HB.out)) hb); have n2_ := Aside0.mk (hbox); have n3_ := Aside0.mk ((by rw [hg]; exact (below_size (by repeat (first | (with_reducible first | exact HB.out | apply below_alloc | apply pw_below_drewN | apply below_drew1) | exact HB.out))) : w.heap.size ≤ gb276)); have n4_ := Aside0.mk ((by rw [hg]; exact (below_size (by repeat (first | (with_reducible first | exact HB.out | apply below_alloc | apply pw_below_drewN | apply below_drew1) | exact HB.out))) : w.heap.size ≤ gb276)); clear HO_9; clear HB; have HO_9 := n0_; have HB := n1_; have BK276 := n2_; have GW276 := n3_; have GE276 := n4_; clear n0_ n1_ n2_ n3_ n4_; clear hb hbox hg; have hcz70_0 : w69.cell? ⟨gb276, 0, none⟩ = some (.int .i64 0) := (blk_cell BK276.out 0).trans rfl; have hcz70_1 : w69.cell? ⟨gb276, 1, none⟩ = some (.int .i64 0) := (blk_cell BK276.out 1).trans rfl; have hfz70_0 := blk_frozen BK276.out 0; have hfz70_1 := blk_frozen BK276.out 1; obtain ⟨Ao71, co71, eo71⟩ := Kd.R_slice HO_9.out; subst eo71; have p277 : 0 ≤ (((rd_T36 l1 x102_4).f0) : Int) := of_decide_eq_true (by first | (with_reducible assumption) | assumption); have q277 : ((rd_T36 l1 x102_4).f0) < (x9_3.length : Int) := of_decide_eq_true (by first | (with_reducible assumption) | assumption); obtain ⟨ad277, e277, hx277_0⟩ := Kd.at_int (Kd.R_reads' HO_9.out).2.2 ((rd_T36 l1 x102_4).f0) p277 q277; cases e277; have hn277_0 : ad277.block ≠ gb276 := Kd.own_blk (Kd.R_ne HO_9.out BK276.out (by decide)); have hn277_1 : ad277.block ≠ gb276 := Kd.own_blk (Kd.R_ne HO_9.out BK276.out (by decide)); replace hx277_0 := (cell_far (p := ⟨gb276, 0, none⟩) (by first | (rw [add_block]; exact hn277_0) | (show (Addr.add _ _).block ≠ _; rw [add_block]; exact hn277_0) | exact hn277_0) (.int .i64 ((rd_T36 l1 x102_4).f0))).trans hx277_0; replace hx277_0 := (cell_far (p := ⟨gb276, 1, none⟩) (by first | (rw [add_block]; exact hn277_1) | (show (Addr.add _ _).block ≠ _; rw [add_block]; exact hn277_1) | exact hn277_1) (.int .i64 ((rd_T36 l1 x102_4).f1))).trans hx277_0; (try have hy277_0 := fun (n_ : Nat) => (show ((((w69.drewN n_).setCell ⟨gb276, 0, none⟩ (.int .i64 ((rd_T36 l1 x102_4).f0))).setCell ⟨gb276, 1, none⟩ (.int .i64 ((rd_T36 l1 x102_4).f1)))).cell? _ = some _ from hx277_0)); clear hn277_0; clear hn277_1; replace p277 := eq_true p277; replace q277 := eq_true q277; have p278 : 0 ≤ (((rd_T36 l1 x102_4).f1) : Int) := of_decide_eq_true (by first | (with_reducible assumption) | assumption); have q278 : ((rd_T36 l1 x102_4).f1) < (x9_3.length : Int) := of_decide_eq_true (by first | (with_reducible assumption) | assumption); obtain ⟨ad278, e278, hx278_0⟩ := Kd.at_int (Kd.R_reads' HO_9.out).2.2 ((rd_T36 l1 x102_4).f1) p278 q278; obtain rfl : ad277 = ad278 := (by injection e278); have hn278_0 : ad277.block ≠ gb276 := Kd.own_blk (Kd.R_ne HO_9.out BK276.out (by decide)); have hn278_1 : ad277.block ≠ gb276 := Kd.own_blk (Kd.R_ne HO_9.out BK276.out (by decide)); replace hx278_0 := (cell_far (p := ⟨gb276, 0, none⟩) (by first | (rw [add_block]; exact hn278_0) | (show (Addr.add _ _).block ≠ _; rw [add_block]; exact hn278_0) | exact hn278_0) (.int .i64 ((rd_T36 l1 x102_4).f0))).trans hx278_0; replace hx278_0 := (cell_far (p := ⟨gb276, 1, none⟩) (by first | (rw [add_block]; exact hn278_1) | (show (Addr.add _ _).block ≠ _; rw [add_block]; exact hn278_1) | exact hn278_1) (.int .i64 ((rd_T36 l1 x102_4).f1))).trans hx278_0; (try have hy278_0 := fun (n_ : Nat) => (show ((((w69.drewN n_).setCell ⟨gb276, 0, none⟩ (.int .i64 ((rd_T36 l1 x102_4).f0))).setCell ⟨gb276, 1, none⟩ (.int .i64 ((rd_T36 l1 x102_4).f1)))).cell? _ = some _ from hx278_0)); clear hn278_0; clear hn278_1; replace p278 := eq_true p278; replace q278 := eq_true q278))
                                                  repeat (go_quiet (first | ((with_reducible refine gate_dst (N := 14) rfl ?_); (try (refine gate_guard (by rfl) ?_; dsimp only)); refine box_event ?hg (N := 14) ?hd (cs := #[.int .i64 0, .int .i64 0]) (t := 36) ?hr ?_; (case hd => rfl); (case hg => rfl); (case hr => first | (go_simp; done) | (go_simp; rfl)); intro gb276 hg w69 hbox hb; have n0_ := Aside0.mk (Kd.R_below (by (with_reducible repeat (first | apply Kd.R_alloc | apply Kd.R_drewN | apply Kd.R_drew)); exact HO_9.out) hb); have n1_ := Aside0.mk (below_step (by repeat (first | (with_reducible first | exact HB.out | apply below_alloc | apply pw_below_drewN | apply below_drew1) | exact HB.out)) hb); have n2_ := Aside0.mk (hbox); have n3_ := Aside0.mk ((by rw [hg]; exact (below_size (by repeat (first | (with_reducible first | exact HB.out | apply below_alloc | apply pw_below_drewN | apply below_drew1) | exact HB.out))) : w.heap.size ≤ gb276)); have n4_ := Aside0.mk ((by rw [hg]; exact (below_size (by repeat (first | (with_reducible first | exact HB.out | apply below_alloc | apply pw_below_drewN | apply below_drew1) | exact HB.out))) : w.heap.size ≤ gb276)); clear HO_9; clear HB; have HO_9 := n0_; have HB := n1_; have BK276 := n2_; have GW276 := n3_; have GE276 := n4_; clear n0_ n1_ n2_ n3_ n4_; clear hb hbox hg; have hcz70_0 : w69.cell? ⟨gb276, 0, none⟩ = some (.int .i64 0) := (blk_cell BK276.out 0).trans rfl; have hcz70_1 : w69.cell? ⟨gb276, 1, none⟩ = some (.int .i64 0) := (blk_cell BK276.out 1).trans rfl; have hfz70_0 := blk_frozen BK276.out 0; have hfz70_1 := blk_frozen BK276.out 1; obtain ⟨Ao71, co71, eo71⟩ := Kd.R_slice HO_9.out; subst eo71; have p277 : 0 ≤ (((rd_T36 l1 x102_4).f0) : Int) := of_decide_eq_true (by first | (with_reducible assumption) | assumption); have q277 : ((rd_T36 l1 x102_4).f0) < (x9_3.length : Int) := of_decide_eq_true (by first | (with_reducible assumption) | assumption); obtain ⟨ad277, e277, hx277_0⟩ := Kd.at_int (Kd.R_reads' HO_9.out).2.2 ((rd_T36 l1 x102_4).f0) p277 q277; cases e277; have hn277_0 : ad277.block ≠ gb276 := Kd.own_blk (Kd.R_ne HO_9.out BK276.out (by decide)); have hn277_1 : ad277.block ≠ gb276 := Kd.own_blk (Kd.R_ne HO_9.out BK276.out (by decide)); replace hx277_0 := (cell_far (p := ⟨gb276, 0, none⟩) (by first | (rw [add_block]; exact hn277_0) | (show (Addr.add _ _).block ≠ _; rw [add_block]; exact hn277_0) | exact hn277_0) (.int .i64 ((rd_T36 l1 x102_4).f0))).trans hx277_0; replace hx277_0 := (cell_far (p := ⟨gb276, 1, none⟩) (by first | (rw [add_block]; exact hn277_1) | (show (Addr.add _ _).block ≠ _; rw [add_block]; exact hn277_1) | exact hn277_1) (.int .i64 ((rd_T36 l1 x102_4).f1))).trans hx277_0; (try have hy277_0 := fun (n_ : Nat) => (show ((((w69.drewN n_).setCell ⟨gb276, 0, none⟩ (.int .i64 ((rd_T36 l1 x102_4).f0))).setCell ⟨gb276, 1, none⟩ (.int .i64 ((rd_T36 l1 x102_4).f1)))).cell? _ = some _ from hx277_0)); clear hn277_0; clear hn277_1; replace p277 := eq_true p277; replace q277 := eq_true q277; have p278 : 0 ≤ (((rd_T36 l1 x102_4).f1) : Int) := of_decide_eq_true (by first | (with_reducible assumption) | assumption); have q278 : ((rd_T36 l1 x102_4).f1) < (x9_3.length : Int) := of_decide_eq_true (by first | (with_reducible assumption) | assumption); obtain ⟨ad278, e278, hx278_0⟩ := Kd.at_int (Kd.R_reads' HO_9.out).2.2 ((rd_T36 l1 x102_4).f1) p278 q278; obtain rfl : ad277 = ad278 := (by injection e278); have hn278_0 : ad277.block ≠ gb276 := Kd.own_blk (Kd.R_ne HO_9.out BK276.out (by decide)); have hn278_1 : ad277.block ≠ gb276 := Kd.own_blk (Kd.R_ne HO_9.out BK276.out (by decide)); replace hx278_0 := (cell_far (p := ⟨gb276, 0, none⟩) (by first | (rw [add_block]; exact hn278_0) | (show (Addr.add _ _).block ≠ _; rw [add_block]; exact hn278_0) | exact hn278_0) (.int .i64 ((rd_T36 l1 x102_4).f0))).trans hx278_0; replace hx278_0 := (cell_far (p := ⟨gb276, 1, none⟩) (by first | (rw [add_block]; exact hn278_1) | (show (Addr.add _ _).block ≠ _; rw [add_block]; exact hn278_1) | exact hn278_1) (.int .i64 ((rd_T36 l1 x102_4).f1))).trans hx278_0; (try have hy278_0 := fun (n_ : Nat) => (show ((((w69.drewN n_).setCell ⟨gb276, 0, none⟩ (.int .i64 ((rd_T36 l1 x102_4).f0))).setCell ⟨gb276, 1, none⟩ (.int .i64 ((rd_T36 l1 x102_4).f1)))).cell? _ = some _ from hx278_0)); clear hn278_0; clear hn278_1; replace p278 := eq_true p278; replace q278 := eq_true q278)); try go_wp2_with (first | ((with_reducible refine gate_dst (N := 14) rfl ?_); (try (refine gate_guard (by rfl) ?_; dsimp only)); refine box_event ?hg (N := 14) ?hd (cs := #[.int .i64 0, .int .i64 0]) (t := 36) ?hr ?_; (case hd => rfl); (case hg => rfl); (case hr => first | (go_simp; done) | (go_simp; rfl)); intro gb276 hg w69 hbox hb; have n0_ := Aside0.mk (Kd.R_below (by (with_reducible repeat (first | apply Kd.R_alloc | apply Kd.R_drewN | apply Kd.R_drew)); exact HO_9.out) hb); have n1_ := Aside0.mk (below_step (by repeat (first | (with_reducible first | exact HB.out | apply below_alloc | apply pw_below_drewN | apply below_drew1) | exact HB.out)) hb); have n2_ := Aside0.mk (hbox); have n3_ := Aside0.mk ((by rw [hg]; exact (below_size (by repeat (first | (with_reducible first | exact HB.out | apply below_alloc | apply pw_below_drewN | apply below_drew1) | exact HB.out))) : w.heap.size ≤ gb276)); have n4_ := Aside0.mk ((by rw [hg]; exact (below_size (by repeat (first | (with_reducible first | exact HB.out | apply below_alloc | apply pw_below_drewN | apply below_drew1) | exact HB.out))) : w.heap.size ≤ gb276)); clear HO_9; clear HB; have HO_9 := n0_; have HB := n1_; have BK276 := n2_; have GW276 := n3_; have GE276 := n4_; clear n0_ n1_ n2_ n3_ n4_; clear hb hbox hg; have hcz70_0 : w69.cell? ⟨gb276, 0, none⟩ = some (.int .i64 0) := (blk_cell BK276.out 0).trans rfl; have hcz70_1 : w69.cell? ⟨gb276, 1, none⟩ = some (.int .i64 0) := (blk_cell BK276.out 1).trans rfl; have hfz70_0 := blk_frozen BK276.out 0; have hfz70_1 := blk_frozen BK276.out 1; obtain ⟨Ao71, co71, eo71⟩ := Kd.R_slice HO_9.out; subst eo71; have p277 : 0 ≤ (((rd_T36 l1 x102_4).f0) : Int) := of_decide_eq_true (by first | (with_reducible assumption) | assumption); have q277 : ((rd_T36 l1 x102_4).f0) < (x9_3.length : Int) := of_decide_eq_true (by first | (with_reducible assumption) | assumption); obtain ⟨ad277, e277, hx277_0⟩ := Kd.at_int (Kd.R_reads' HO_9.out).2.2 ((rd_T36 l1 x102_4).f0) p277 q277; cases e277; have hn277_0 : ad277.block ≠ gb276 := Kd.own_blk (Kd.R_ne HO_9.out BK276.out (by decide)); have hn277_1 : ad277.block ≠ gb276 := Kd.own_blk (Kd.R_ne HO_9.out BK276.out (by decide)); replace hx277_0 := (cell_far (p := ⟨gb276, 0, none⟩) (by first | (rw [add_block]; exact hn277_0) | (show (Addr.add _ _).block ≠ _; rw [add_block]; exact hn277_0) | exact hn277_0) (.int .i64 ((rd_T36 l1 x102_4).f0))).trans hx277_0; replace hx277_0 := (cell_far (p := ⟨gb276, 1, none⟩) (by first | (rw [add_block]; exact hn277_1) | (show (Addr.add _ _).block ≠ _; rw [add_block]; exact hn277_1) | exact hn277_1) (.int .i64 ((rd_T36 l1 x102_4).f1))).trans hx277_0; (try have hy277_0 := fun (n_ : Nat) => (show ((((w69.drewN n_).setCell ⟨gb276, 0, none⟩ (.int .i64 ((rd_T36 l1 x102_4).f0))).setCell ⟨gb276, 1, none⟩ (.int .i64 ((rd_T36 l1 x102_4).f1)))).cell? _ = some _ from hx277_0)); clear hn277_0; clear hn277_1; replace p277 := eq_true p277; replace q277 := eq_true q277; have p278 : 0 ≤ (((rd_T36 l1 x102_4).f1) : Int) := of_decide_eq_true (by first | (with_reducible assumption) | assumption); have q278 : ((rd_T36 l1 x102_4).f1) < (x9_3.length : Int) := of_decide_eq_true (by first | (with_reducible assumption) | assumption); obtain ⟨ad278, e278, hx278_0⟩ := Kd.at_int (Kd.R_reads' HO_9.out).2.2 ((rd_T36 l1 x102_4).f1) p278 q278; obtain rfl : ad277 = ad278 := (by injection e278); have hn278_0 : ad277.block ≠ gb276 := Kd.own_blk (Kd.R_ne HO_9.out BK276.out (by decide)); have hn278_1 : ad277.block ≠ gb276 := Kd.own_blk (Kd.R_ne HO_9.out BK276.out (by decide)); replace hx278_0 := (cell_far (p := ⟨gb276, 0, none⟩) (by first | (rw [add_block]; exact hn278_0) | (show (Addr.add _ _).block ≠ _; rw [add_block]; exact hn278_0) | exact hn278_0) (.int .i64 ((rd_T36 l1 x102_4).f0))).trans hx278_0; replace hx278_0 := (cell_far (p := ⟨gb276, 1, none⟩) (by first | (rw [add_block]; exact hn278_1) | (show (Addr.add _ _).block ≠ _; rw [add_block]; exact hn278_1) | exact hn278_1) (.int .i64 ((rd_T36 l1 x102_4).f1))).trans hx278_0; (try have hy278_0 := fun (n_ : Nat) => (show ((((w69.drewN n_).setCell ⟨gb276, 0, none⟩ (.int .i64 ((rd_T36 l1 x102_4).f0))).setCell ⟨gb276, 1, none⟩ (.int .i64 ((rd_T36 l1 x102_4).f1)))).cell? _ = some _ from hx278_0)); clear hn278_0; clear hn278_1; replace p278 := eq_true p278; replace q278 := eq_true q278)))
                                                  go_ret
                                                  exact ⟨by first | rfl | (simp [errW_none, errW_some] <;> rfl) | (simp [*, errW_none, errW_some] <;> rfl), by repeat (first | (with_reducible first | exact HB.out | apply below_alloc | apply pw_below_drewN | apply below_drew1 | refine below_set ?_ GE276.out) | exact HB.out)⟩
                                                · rw [if_neg c68] at H
                                                  have c68b0 : decide ((rd x9_3 ((rd_T36 l1 x102_4).f1)) ≤ (rd x9_3 ((rd_T36 l1 x102_4).f0))) = false := decide_eq_false c68
                                                  clear c68
                                                  have H' := Aside0.mk H
                                                  clear H
                                                  have p275 : 0 ≤ (x102_4 : Int) := of_decide_eq_true (by first | (with_reducible assumption) | assumption)
                                                  have q275 : x102_4 < (l1.length : Int) := of_decide_eq_true (by first | (with_reducible assumption) | assumption)
                                                  obtain ⟨ad275, e275, hx275_0, hx275_1⟩ := at_T36 HR1.out x102_4 p275 q275
                                                  cases e275
                                                  replace hx275_0 := (HB.out.cell (World.block_lt_of_cell? w _ hx275_0)).trans hx275_0
                                                  replace hx275_1 := (HB.out.cell (World.block_lt_of_cell? w _ hx275_1)).trans hx275_1
                                                  replace p275 := eq_true p275
                                                  replace q275 := eq_true q275
                                                  go_wp2_with (first | ((with_reducible refine gate_dst (N := 14) rfl ?_); (try (refine gate_guard (by rfl) ?_; dsimp only)); refine box_event ?hg (N := 14) ?hd (cs := #[.int .i64 0, .int .i64 0]) (t := 36) ?hr ?_; (case hd => rfl); (case hg => rfl); (case hr => first | (go_simp; done) | (go_simp; rfl)); intro gb276 hg w72 hbox hb; have n0_ := Aside0.mk (Kd.R_below (by (with_reducible repeat (first | apply Kd.R_alloc | apply Kd.R_drewN | apply Kd.R_drew)); exact HO_9.out) hb); have n1_ := Aside0.mk (below_step (by repeat (first | (with_reducible first | exact HB.out | apply below_alloc | apply pw_below_drewN | apply below_drew1) | exact HB.out)) hb); have n2_ := Aside0.mk (hbox); have n3_ := Aside0.mk ((by rw [hg]; exact (below_size (by repeat (first | (with_reducible first | exact HB.out | apply below_alloc | apply pw_below_drewN | apply below_drew1) | exact HB.out))) : w.heap.size ≤ gb276)); have n4_ := Aside0.mk ((by rw [hg]; exact (below_size (by repeat (first | (with_reducible first | exact HB.out | apply below_alloc | apply pw_below_drewN | apply below_drew1) | exact HB.out))) : w.heap.size ≤ gb276)); clear HO_9; clear HB; have HO_9 := n0_; have HB := n1_; have BK276 := n2_; have GW276 := n3_; have GE276 := n4_; clear n0_ n1_ n2_ n3_ n4_; clear hb hbox hg; have hcz73_0 : w72.cell? ⟨gb276, 0, none⟩ = some (.int .i64 0) := (blk_cell BK276.out 0).trans rfl; have hcz73_1 : w72.cell? ⟨gb276, 1, none⟩ = some (.int .i64 0) := (blk_cell BK276.out 1).trans rfl; have hfz73_0 := blk_frozen BK276.out 0; have hfz73_1 := blk_frozen BK276.out 1; obtain ⟨Ao74, co74, eo74⟩ := Kd.R_slice HO_9.out; subst eo74; have p277 : 0 ≤ (((rd_T36 l1 x102_4).f0) : Int) := of_decide_eq_true (by first | (with_reducible assumption) | assumption); have q277 : ((rd_T36 l1 x102_4).f0) < (x9_3.length : Int) := of_decide_eq_true (by first | (with_reducible assumption) | assumption); obtain ⟨ad277, e277, hx277_0⟩ := Kd.at_int (Kd.R_reads' HO_9.out).2.2 ((rd_T36 l1 x102_4).f0) p277 q277; cases e277; have hn277_0 : ad277.block ≠ gb276 := Kd.own_blk (Kd.R_ne HO_9.out BK276.out (by decide)); have hn277_1 : ad277.block ≠ gb276 := Kd.own_blk (Kd.R_ne HO_9.out BK276.out (by decide)); replace hx277_0 := (cell_far (p := ⟨gb276, 0, none⟩) (by first | (rw [add_block]; exact hn277_0) | (show (Addr.add _ _).block ≠ _; rw [add_block]; exact hn277_0) | exact hn277_0) (.int .i64 ((rd_T36 l1 x102_4).f0))).trans hx277_0; replace hx277_0 := (cell_far (p := ⟨gb276, 1, none⟩) (by first | (rw [add_block]; exact hn277_1) | (show (Addr.add _ _).block ≠ _; rw [add_block]; exact hn277_1) | exact hn277_1) (.int .i64 ((rd_T36 l1 x102_4).f1))).trans hx277_0; (try have hy277_0 := fun (n_ : Nat) => (show ((((w72.drewN n_).setCell ⟨gb276, 0, none⟩ (.int .i64 ((rd_T36 l1 x102_4).f0))).setCell ⟨gb276, 1, none⟩ (.int .i64 ((rd_T36 l1 x102_4).f1)))).cell? _ = some _ from hx277_0)); clear hn277_0; clear hn277_1; replace p277 := eq_true p277; replace q277 := eq_true q277; have p278 : 0 ≤ (((rd_T36 l1 x102_4).f1) : Int) := of_decide_eq_true (by first | (with_reducible assumption) | assumption); have q278 : ((rd_T36 l1 x102_4).f1) < (x9_3.length : Int) := of_decide_eq_true (by first | (with_reducible assumption) | assumption); obtain ⟨ad278, e278, hx278_0⟩ := Kd.at_int (Kd.R_reads' HO_9.out).2.2 ((rd_T36 l1 x102_4).f1) p278 q278; obtain rfl : ad277 = ad278 := (by injection e278); have hn278_0 : ad277.block ≠ gb276 := Kd.own_blk (Kd.R_ne HO_9.out BK276.out (by decide)); have hn278_1 : ad277.block ≠ gb276 := Kd.own_blk (Kd.R_ne HO_9.out BK276.out (by decide)); replace hx278_0 := (cell_far (p := ⟨gb276, 0, none⟩) (by first | (rw [add_block]; exact hn278_0) | (show (Addr.add _ _).block ≠ _; rw [add_block]; exact hn278_0) | exact hn278_0) (.int .i64 ((rd_T36 l1 x102_4).f0))).trans hx278_0; replace hx278_0 := (cell_far (p := ⟨gb276, 1, none⟩) (by first | (rw [add_block]; exact hn278_1) | (show (Addr.add _ _).block ≠ _; rw [add_block]; exact hn278_1) | exact hn278_1) (.int .i64 ((rd_T36 l1 x102_4).f1))).trans hx278_0; (try have hy278_0 := fun (n_ : Nat) => (show ((((w72.drewN n_).setCell ⟨gb276, 0, none⟩ (.int .i64 ((rd_T36 l1 x102_4).f0))).setCell ⟨gb276, 1, none⟩ (.int .i64 ((rd_T36 l1 x102_4).f1)))).cell? _ = some _ from hx278_0)); clear hn278_0; clear hn278_1; replace p278 := eq_true p278; replace q278 := eq_true q278))
                                                  repeat (go_quiet (first | ((with_reducible refine gate_dst (N := 14) rfl ?_); (try (refine gate_guard (by rfl) ?_; dsimp only)); refine box_event ?hg (N := 14) ?hd (cs := #[.int .i64 0, .int .i64 0]) (t := 36) ?hr ?_; (case hd => rfl); (case hg => rfl); (case hr => first | (go_simp; done) | (go_simp; rfl)); intro gb276 hg w72 hbox hb; have n0_ := Aside0.mk (Kd.R_below (by (with_reducible repeat (first | apply Kd.R_alloc | apply Kd.R_drewN | apply Kd.R_drew)); exact HO_9.out) hb); have n1_ := Aside0.mk (below_step (by repeat (first | (with_reducible first | exact HB.out | apply below_alloc | apply pw_below_drewN | apply below_drew1) | exact HB.out)) hb); have n2_ := Aside0.mk (hbox); have n3_ := Aside0.mk ((by rw [hg]; exact (below_size (by repeat (first | (with_reducible first | exact HB.out | apply below_alloc | apply pw_below_drewN | apply below_drew1) | exact HB.out))) : w.heap.size ≤ gb276)); have n4_ := Aside0.mk ((by rw [hg]; exact (below_size (by repeat (first | (with_reducible first | exact HB.out | apply below_alloc | apply pw_below_drewN | apply below_drew1) | exact HB.out))) : w.heap.size ≤ gb276)); clear HO_9; clear HB; have HO_9 := n0_; have HB := n1_; have BK276 := n2_; have GW276 := n3_; have GE276 := n4_; clear n0_ n1_ n2_ n3_ n4_; clear hb hbox hg; have hcz73_0 : w72.cell? ⟨gb276, 0, none⟩ = some (.int .i64 0) := (blk_cell BK276.out 0).trans rfl; have hcz73_1 : w72.cell? ⟨gb276, 1, none⟩ = some (.int .i64 0) := (blk_cell BK276.out 1).trans rfl; have hfz73_0 := blk_frozen BK276.out 0; have hfz73_1 := blk_frozen BK276.out 1; obtain ⟨Ao74, co74, eo74⟩ := Kd.R_slice HO_9.out; subst eo74; have p277 : 0 ≤ (((rd_T36 l1 x102_4).f0) : Int) := of_decide_eq_true (by first | (with_reducible assumption) | assumption); have q277 : ((rd_T36 l1 x102_4).f0) < (x9_3.length : Int) := of_decide_eq_true (by first | (with_reducible assumption) | assumption); obtain ⟨ad277, e277, hx277_0⟩ := Kd.at_int (Kd.R_reads' HO_9.out).2.2 ((rd_T36 l1 x102_4).f0) p277 q277; cases e277; have hn277_0 : ad277.block ≠ gb276 := Kd.own_blk (Kd.R_ne HO_9.out BK276.out (by decide)); have hn277_1 : ad277.block ≠ gb276 := Kd.own_blk (Kd.R_ne HO_9.out BK276.out (by decide)); replace hx277_0 := (cell_far (p := ⟨gb276, 0, none⟩) (by first | (rw [add_block]; exact hn277_0) | (show (Addr.add _ _).block ≠ _; rw [add_block]; exact hn277_0) | exact hn277_0) (.int .i64 ((rd_T36 l1 x102_4).f0))).trans hx277_0; replace hx277_0 := (cell_far (p := ⟨gb276, 1, none⟩) (by first | (rw [add_block]; exact hn277_1) | (show (Addr.add _ _).block ≠ _; rw [add_block]; exact hn277_1) | exact hn277_1) (.int .i64 ((rd_T36 l1 x102_4).f1))).trans hx277_0; (try have hy277_0 := fun (n_ : Nat) => (show ((((w72.drewN n_).setCell ⟨gb276, 0, none⟩ (.int .i64 ((rd_T36 l1 x102_4).f0))).setCell ⟨gb276, 1, none⟩ (.int .i64 ((rd_T36 l1 x102_4).f1)))).cell? _ = some _ from hx277_0)); clear hn277_0; clear hn277_1; replace p277 := eq_true p277; replace q277 := eq_true q277; have p278 : 0 ≤ (((rd_T36 l1 x102_4).f1) : Int) := of_decide_eq_true (by first | (with_reducible assumption) | assumption); have q278 : ((rd_T36 l1 x102_4).f1) < (x9_3.length : Int) := of_decide_eq_true (by first | (with_reducible assumption) | assumption); obtain ⟨ad278, e278, hx278_0⟩ := Kd.at_int (Kd.R_reads' HO_9.out).2.2 ((rd_T36 l1 x102_4).f1) p278 q278; obtain rfl : ad277 = ad278 := (by injection e278); have hn278_0 : ad277.block ≠ gb276 := Kd.own_blk (Kd.R_ne HO_9.out BK276.out (by decide)); have hn278_1 : ad277.block ≠ gb276 := Kd.own_blk (Kd.R_ne HO_9.out BK276.out (by decide)); replace hx278_0 := (cell_far (p := ⟨gb276, 0, none⟩) (by first | (rw [add_block]; exact hn278_0) | (show (Addr.add _ _).block ≠ _; rw [add_block]; exact hn278_0) | exact hn278_0) (.int .i64 ((rd_T36 l1 x102_4).f0))).trans hx278_0; replace hx278_0 := (cell_far (p := ⟨gb276, 1, none⟩) (by first | (rw [add_block]; exact hn278_1) | (show (Addr.add _ _).block ≠ _; rw [add_block]; exact hn278_1) | exact hn278_1) (.int .i64 ((rd_T36 l1 x102_4).f1))).trans hx278_0; (try have hy278_0 := fun (n_ : Nat) => (show ((((w72.drewN n_).setCell ⟨gb276, 0, none⟩ (.int .i64 ((rd_T36 l1 x102_4).f0))).setCell ⟨gb276, 1, none⟩ (.int .i64 ((rd_T36 l1 x102_4).f1)))).cell? _ = some _ from hx278_0)); clear hn278_0; clear hn278_1; replace p278 := eq_true p278; replace q278 := eq_true q278)); try go_wp2_with (first | ((with_reducible refine gate_dst (N := 14) rfl ?_); (try (refine gate_guard (by rfl) ?_; dsimp only)); refine box_event ?hg (N := 14) ?hd (cs := #[.int .i64 0, .int .i64 0]) (t := 36) ?hr ?_; (case hd => rfl); (case hg => rfl); (case hr => first | (go_simp; done) | (go_simp; rfl)); intro gb276 hg w72 hbox hb; have n0_ := Aside0.mk (Kd.R_below (by (with_reducible repeat (first | apply Kd.R_alloc | apply Kd.R_drewN | apply Kd.R_drew)); exact HO_9.out) hb); have n1_ := Aside0.mk (below_step (by repeat (first | (with_reducible first | exact HB.out | apply below_alloc | apply pw_below_drewN | apply below_drew1) | exact HB.out)) hb); have n2_ := Aside0.mk (hbox); have n3_ := Aside0.mk ((by rw [hg]; exact (below_size (by repeat (first | (with_reducible first | exact HB.out | apply below_alloc | apply pw_below_drewN | apply below_drew1) | exact HB.out))) : w.heap.size ≤ gb276)); have n4_ := Aside0.mk ((by rw [hg]; exact (below_size (by repeat (first | (with_reducible first | exact HB.out | apply below_alloc | apply pw_below_drewN | apply below_drew1) | exact HB.out))) : w.heap.size ≤ gb276)); clear HO_9; clear HB; have HO_9 := n0_; have HB := n1_; have BK276 := n2_; have GW276 := n3_; have GE276 := n4_; clear n0_ n1_ n2_ n3_ n4_; clear hb hbox hg; have hcz73_0 : w72.cell? ⟨gb276, 0, none⟩ = some (.int .i64 0) := (blk_cell BK276.out 0).trans rfl; have hcz73_1 : w72.cell? ⟨gb276, 1, none⟩ = some (.int .i64 0) := (blk_cell BK276.out 1).trans rfl; have hfz73_0 := blk_frozen BK276.out 0; have hfz73_1 := blk_frozen BK276.out 1; obtain ⟨Ao74, co74, eo74⟩ := Kd.R_slice HO_9.out; subst eo74; have p277 : 0 ≤ (((rd_T36 l1 x102_4).f0) : Int) := of_decide_eq_true (by first | (with_reducible assumption) | assumption); have q277 : ((rd_T36 l1 x102_4).f0) < (x9_3.length : Int) := of_decide_eq_true (by first | (with_reducible assumption) | assumption); obtain ⟨ad277, e277, hx277_0⟩ := Kd.at_int (Kd.R_reads' HO_9.out).2.2 ((rd_T36 l1 x102_4).f0) p277 q277; cases e277; have hn277_0 : ad277.block ≠ gb276 := Kd.own_blk (Kd.R_ne HO_9.out BK276.out (by decide)); have hn277_1 : ad277.block ≠ gb276 := Kd.own_blk (Kd.R_ne HO_9.out BK276.out (by decide)); replace hx277_0 := (cell_far (p := ⟨gb276, 0, none⟩) (by first | (rw [add_block]; exact hn277_0) | (show (Addr.add _ _).block ≠ _; rw [add_block]; exact hn277_0) | exact hn277_0) (.int .i64 ((rd_T36 l1 x102_4).f0))).trans hx277_0; replace hx277_0 := (cell_far (p := ⟨gb276, 1, none⟩) (by first | (rw [add_block]; exact hn277_1) | (show (Addr.add _ _).block ≠ _; rw [add_block]; exact hn277_1) | exact hn277_1) (.int .i64 ((rd_T36 l1 x102_4).f1))).trans hx277_0; (try have hy277_0 := fun (n_ : Nat) => (show ((((w72.drewN n_).setCell ⟨gb276, 0, none⟩ (.int .i64 ((rd_T36 l1 x102_4).f0))).setCell ⟨gb276, 1, none⟩ (.int .i64 ((rd_T36 l1 x102_4).f1)))).cell? _ = some _ from hx277_0)); clear hn277_0; clear hn277_1; replace p277 := eq_true p277; replace q277 := eq_true q277; have p278 : 0 ≤ (((rd_T36 l1 x102_4).f1) : Int) := of_decide_eq_true (by first | (with_reducible assumption) | assumption); have q278 : ((rd_T36 l1 x102_4).f1) < (x9_3.length : Int) := of_decide_eq_true (by first | (with_reducible assumption) | assumption); obtain ⟨ad278, e278, hx278_0⟩ := Kd.at_int (Kd.R_reads' HO_9.out).2.2 ((rd_T36 l1 x102_4).f1) p278 q278; obtain rfl : ad277 = ad278 := (by injection e278); have hn278_0 : ad277.block ≠ gb276 := Kd.own_blk (Kd.R_ne HO_9.out BK276.out (by decide)); have hn278_1 : ad277.block ≠ gb276 := Kd.own_blk (Kd.R_ne HO_9.out BK276.out (by decide)); replace hx278_0 := (cell_far (p := ⟨gb276, 0, none⟩) (by first | (rw [add_block]; exact hn278_0) | (show (Addr.add _ _).block ≠ _; rw [add_block]; exact hn278_0) | exact hn278_0) (.int .i64 ((rd_T36 l1 x102_4).f0))).trans hx278_0; replace hx278_0 := (cell_far (p := ⟨gb276, 1, none⟩) (by first | (rw [add_block]; exact hn278_1) | (show (Addr.add _ _).block ≠ _; rw [add_block]; exact hn278_1) | exact hn278_1) (.int .i64 ((rd_T36 l1 x102_4).f1))).trans hx278_0; (try have hy278_0 := fun (n_ : Nat) => (show ((((w72.drewN n_).setCell ⟨gb276, 0, none⟩ (.int .i64 ((rd_T36 l1 x102_4).f0))).setCell ⟨gb276, 1, none⟩ (.int .i64 ((rd_T36 l1 x102_4).f1)))).cell? _ = some _ from hx278_0)); clear hn278_0; clear hn278_1; replace p278 := eq_true p278; replace q278 := eq_true q278)))
                                                  go_roundg k4
                                                  case measure => have := HJ2.out; have := HJ27.out; have := HK3.out; have := HK4.out; omega
                                                  case rel => exact ⟨(wrap64 (x102_4 + 1)), (by first | rfl | (simp; done) | (simp [*]; done)), H', ⟨by have := HJ2.out; have := HJ27.out; have := HK3.out; have := HK4.out; omega⟩, ⟨by (with_reducible repeat (first | apply Kd.R_alloc | apply Kd.R_drewN | apply Kd.R_drew)); exact Kd.R_mono (Kd.R_far (p := ⟨gb276, 1, none⟩) (Kd.R_far (p := ⟨gb276, 0, none⟩) (Kd.R_types HO_9.out BK276.out (by decide)) (fun _ hk => hk.2) (.int .i64 ((rd_T36 l1 x102_4).f0))) (fun _ hk => hk.2) (.int .i64 ((rd_T36 l1 x102_4).f1))) (fun _ hk => trivial)⟩, ⟨by repeat (first | (with_reducible first | exact HB.out | apply below_alloc | apply pw_below_drewN | apply below_drew1 | refine below_set ?_ GE276.out) | exact HB.out)⟩⟩
                                              · rw [if_neg c67] at H
                                                exact absurd H (by simp)
                                            · rw [if_neg c66] at H
                                              exact absurd H (by simp)
                                          · rw [if_neg c65] at H
                                            exact absurd H (by simp)
                                        · rw [if_neg c64] at H
                                          exact absurd H (by simp)
                                      · rw [if_neg c63] at H
                                        exact absurd H (by simp)
                                    · rw [if_neg c62] at H
                                      exact absurd H (by simp)
                                  · rw [if_neg c61] at H
                                    have c61b0 : decide (x102_4 < (l1.length : Int)) = false := decide_eq_false c61
                                    clear c61
                                    replace H := Option.bind_eq_some_iff.mp H
                                    obtain ⟨t279, A750, H⟩ := H
                                    replace H : (some t279) = some r := H
                                    have A75 := Aside0.mk A750
                                    clear A750
                                    obtain rfl := Option.some.inj H
                                    go_wp2_with (first | (go_at_call 8; (with_reducible refine (treenaillaw09_three.calls k4  t279 _ A75.out).mono ?_); rintro e w76 ⟨rfl, hb⟩; have n0_ := Aside0.mk (Kd.R_below (by (with_reducible repeat (first | apply Kd.R_alloc | apply Kd.R_drewN | apply Kd.R_drew)); exact HO_9.out) hb); have n1_ := Aside0.mk (below_step (by repeat (first | (with_reducible first | exact HB.out | apply below_alloc | apply pw_below_drewN | apply below_drew1) | exact HB.out)) hb); clear HO_9; clear HB; have HO_9 := n0_; have HB := n1_; clear n0_ n1_; (try clear hb); (try clear hb2); (try clear hk); (try clear hi)))
                                    repeat (go_quiet (first | (go_at_call 8; (with_reducible refine (treenaillaw09_three.calls k4  t279 _ A75.out).mono ?_); rintro e w76 ⟨rfl, hb⟩; have n0_ := Aside0.mk (Kd.R_below (by (with_reducible repeat (first | apply Kd.R_alloc | apply Kd.R_drewN | apply Kd.R_drew)); exact HO_9.out) hb); have n1_ := Aside0.mk (below_step (by repeat (first | (with_reducible first | exact HB.out | apply below_alloc | apply pw_below_drewN | apply below_drew1) | exact HB.out)) hb); clear HO_9; clear HB; have HO_9 := n0_; have HB := n1_; clear n0_ n1_; (try clear hb); (try clear hb2); (try clear hk); (try clear hi))); try go_wp2_with (first | (go_at_call 8; (with_reducible refine (treenaillaw09_three.calls k4  t279 _ A75.out).mono ?_); rintro e w76 ⟨rfl, hb⟩; have n0_ := Aside0.mk (Kd.R_below (by (with_reducible repeat (first | apply Kd.R_alloc | apply Kd.R_drewN | apply Kd.R_drew)); exact HO_9.out) hb); have n1_ := Aside0.mk (below_step (by repeat (first | (with_reducible first | exact HB.out | apply below_alloc | apply pw_below_drewN | apply below_drew1) | exact HB.out)) hb); clear HO_9; clear HB; have HO_9 := n0_; have HB := n1_; clear n0_ n1_; (try clear hb); (try clear hb2); (try clear hk); (try clear hi))))
                                    go_ret
                                    exact ⟨by first | rfl | (simp [errW_none, errW_some] <;> rfl) | (simp [*, errW_none, errW_some] <;> rfl), by repeat (first | (with_reducible first | exact HB.out | apply below_alloc | apply pw_below_drewN | apply below_drew1) | exact HB.out)⟩
                      · rw [if_neg c37] at H
                        exact absurd H (by simp)
                    · rw [if_neg c36] at H
                      exact absurd H (by simp)
                  · rw [if_neg c35] at H
                    exact absurd H (by simp)
        · rw [if_neg c11] at H
          have c11b0 : (t260 == 0) = false := beq_eq_false_iff_ne.mpr c11
          have c11b1 : (t260 != 0) = true := bne_iff_ne.mpr c11
          by_cases c77 : t256 = t260
          · rw [if_pos c77] at H
            have c77b0 : (t256 == t260) = true := beq_iff_eq.mpr c77
            have c77b1 : (t256 != t260) = false := bne_eq_false_iff_eq.mpr c77
            clear c77
            replace H := Option.bind_eq_some_iff.mp H
            obtain ⟨t263, A780, H⟩ := H
            replace H : (some t263) = some r := H
            have A78 := Aside0.mk A780
            clear A780
            obtain rfl := Option.some.inj H
            go_wp2_with (first | (go_at_call 9; (with_reducible refine (rank_Order.calls kj2 a0 _ _ l1 t255 t256 _ ?side1 ?side2 A9.out).mono ?_); (case side1 => repeat (first | exact (Kd.C_below HR1.out HB.out) | (with_reducible refine Kd.C_alloc ?_ _) | (with_reducible refine Kd.C_drewN ?_ _) | (with_reducible refine Kd.C_drew ?_))); (case side2 => exact HC1.out); rintro e w79 ⟨v257, rfl, ho0, hb⟩; have n0_ := Aside0.mk (Kd.R_lower ho0 (below_size (by repeat (first | (with_reducible first | exact HB.out | apply below_alloc | apply pw_below_drewN | apply below_drew1) | exact HB.out)))); have n1_ := Aside0.mk (below_step (by repeat (first | (with_reducible first | exact HB.out | apply below_alloc | apply pw_below_drewN | apply below_drew1) | exact HB.out)) hb); clear HB; have HO258 := n0_; have HB := n1_; clear n0_ n1_; (try clear hb); (try clear hb2); (try clear hk); (try clear hi); (try clear ho0)) | (go_at_call 13; (with_reducible refine (rank_Round.calls kj2 a0 _ _ l1 t259 t260 _ ?side1 ?side2 A10.out).mono ?_); (case side1 => repeat (first | exact (Kd.C_below HR1.out HB.out) | (with_reducible refine Kd.C_alloc ?_ _) | (with_reducible refine Kd.C_drewN ?_ _) | (with_reducible refine Kd.C_drew ?_))); (case side2 => exact HC1.out); rintro e w80 ⟨v261, rfl, ho0, hb⟩; have n0_ := Aside0.mk (Kd.R_elder' (by (with_reducible repeat (first | apply Kd.R_alloc | apply Kd.R_drewN | apply Kd.R_drew)); exact HO258.out) (Kd.R_base ho0) hb); have n1_ := Aside0.mk (Kd.R_lower (Kd.R_new' ho0 (Kd.R_lt (by (with_reducible repeat (first | apply Kd.R_alloc | apply Kd.R_drewN | apply Kd.R_drew)); exact HO258.out))) (below_size (by repeat (first | (with_reducible first | exact HB.out | apply below_alloc | apply pw_below_drewN | apply below_drew1) | exact HB.out)))); have n2_ := Aside0.mk (below_step (by repeat (first | (with_reducible first | exact HB.out | apply below_alloc | apply pw_below_drewN | apply below_drew1) | exact HB.out)) hb); clear HO258; clear HB; have HO258 := n0_; have HO262 := n1_; have HB := n2_; clear n0_ n1_ n2_; (try clear hb); (try clear hb2); (try clear hk); (try clear hi); (try clear ho0)) | (go_at_call 8; (with_reducible refine (treenaillaw09_three.calls kj2  t263 _ A78.out).mono ?_); rintro e w81 ⟨rfl, hb⟩; have n0_ := Aside0.mk (Kd.R_below (by (with_reducible repeat (first | apply Kd.R_alloc | apply Kd.R_drewN | apply Kd.R_drew)); exact HO258.out) hb); have n1_ := Aside0.mk (Kd.R_below (by (with_reducible repeat (first | apply Kd.R_alloc | apply Kd.R_drewN | apply Kd.R_drew)); exact HO262.out) hb); have n2_ := Aside0.mk (below_step (by repeat (first | (with_reducible first | exact HB.out | apply below_alloc | apply pw_below_drewN | apply below_drew1) | exact HB.out)) hb); clear HO258; clear HO262; clear HB; have HO258 := n0_; have HO262 := n1_; have HB := n2_; clear n0_ n1_ n2_; (try clear hb); (try clear hb2); (try clear hk); (try clear hi)))
            repeat (go_quiet (first | (go_at_call 9; (with_reducible refine (rank_Order.calls kj2 a0 _ _ l1 t255 t256 _ ?side1 ?side2 A9.out).mono ?_); (case side1 => repeat (first | exact (Kd.C_below HR1.out HB.out) | (with_reducible refine Kd.C_alloc ?_ _) | (with_reducible refine Kd.C_drewN ?_ _) | (with_reducible refine Kd.C_drew ?_))); (case side2 => exact HC1.out); rintro e w79 ⟨v257, rfl, ho0, hb⟩; have n0_ := Aside0.mk (Kd.R_lower ho0 (below_size (by repeat (first | (with_reducible first | exact HB.out | apply below_alloc | apply pw_below_drewN | apply below_drew1) | exact HB.out)))); have n1_ := Aside0.mk (below_step (by repeat (first | (with_reducible first | exact HB.out | apply below_alloc | apply pw_below_drewN | apply below_drew1) | exact HB.out)) hb); clear HB; have HO258 := n0_; have HB := n1_; clear n0_ n1_; (try clear hb); (try clear hb2); (try clear hk); (try clear hi); (try clear ho0)) | (go_at_call 13; (with_reducible refine (rank_Round.calls kj2 a0 _ _ l1 t259 t260 _ ?side1 ?side2 A10.out).mono ?_); (case side1 => repeat (first | exact (Kd.C_below HR1.out HB.out) | (with_reducible refine Kd.C_alloc ?_ _) | (with_reducible refine Kd.C_drewN ?_ _) | (with_reducible refine Kd.C_drew ?_))); (case side2 => exact HC1.out); rintro e w80 ⟨v261, rfl, ho0, hb⟩; have n0_ := Aside0.mk (Kd.R_elder' (by (with_reducible repeat (first | apply Kd.R_alloc | apply Kd.R_drewN | apply Kd.R_drew)); exact HO258.out) (Kd.R_base ho0) hb); have n1_ := Aside0.mk (Kd.R_lower (Kd.R_new' ho0 (Kd.R_lt (by (with_reducible repeat (first | apply Kd.R_alloc | apply Kd.R_drewN | apply Kd.R_drew)); exact HO258.out))) (below_size (by repeat (first | (with_reducible first | exact HB.out | apply below_alloc | apply pw_below_drewN | apply below_drew1) | exact HB.out)))); have n2_ := Aside0.mk (below_step (by repeat (first | (with_reducible first | exact HB.out | apply below_alloc | apply pw_below_drewN | apply below_drew1) | exact HB.out)) hb); clear HO258; clear HB; have HO258 := n0_; have HO262 := n1_; have HB := n2_; clear n0_ n1_ n2_; (try clear hb); (try clear hb2); (try clear hk); (try clear hi); (try clear ho0)) | (go_at_call 8; (with_reducible refine (treenaillaw09_three.calls kj2  t263 _ A78.out).mono ?_); rintro e w81 ⟨rfl, hb⟩; have n0_ := Aside0.mk (Kd.R_below (by (with_reducible repeat (first | apply Kd.R_alloc | apply Kd.R_drewN | apply Kd.R_drew)); exact HO258.out) hb); have n1_ := Aside0.mk (Kd.R_below (by (with_reducible repeat (first | apply Kd.R_alloc | apply Kd.R_drewN | apply Kd.R_drew)); exact HO262.out) hb); have n2_ := Aside0.mk (below_step (by repeat (first | (with_reducible first | exact HB.out | apply below_alloc | apply pw_below_drewN | apply below_drew1) | exact HB.out)) hb); clear HO258; clear HO262; clear HB; have HO258 := n0_; have HO262 := n1_; have HB := n2_; clear n0_ n1_ n2_; (try clear hb); (try clear hb2); (try clear hk); (try clear hi))); try go_wp2_with (first | (go_at_call 9; (with_reducible refine (rank_Order.calls kj2 a0 _ _ l1 t255 t256 _ ?side1 ?side2 A9.out).mono ?_); (case side1 => repeat (first | exact (Kd.C_below HR1.out HB.out) | (with_reducible refine Kd.C_alloc ?_ _) | (with_reducible refine Kd.C_drewN ?_ _) | (with_reducible refine Kd.C_drew ?_))); (case side2 => exact HC1.out); rintro e w79 ⟨v257, rfl, ho0, hb⟩; have n0_ := Aside0.mk (Kd.R_lower ho0 (below_size (by repeat (first | (with_reducible first | exact HB.out | apply below_alloc | apply pw_below_drewN | apply below_drew1) | exact HB.out)))); have n1_ := Aside0.mk (below_step (by repeat (first | (with_reducible first | exact HB.out | apply below_alloc | apply pw_below_drewN | apply below_drew1) | exact HB.out)) hb); clear HB; have HO258 := n0_; have HB := n1_; clear n0_ n1_; (try clear hb); (try clear hb2); (try clear hk); (try clear hi); (try clear ho0)) | (go_at_call 13; (with_reducible refine (rank_Round.calls kj2 a0 _ _ l1 t259 t260 _ ?side1 ?side2 A10.out).mono ?_); (case side1 => repeat (first | exact (Kd.C_below HR1.out HB.out) | (with_reducible refine Kd.C_alloc ?_ _) | (with_reducible refine Kd.C_drewN ?_ _) | (with_reducible refine Kd.C_drew ?_))); (case side2 => exact HC1.out); rintro e w80 ⟨v261, rfl, ho0, hb⟩; have n0_ := Aside0.mk (Kd.R_elder' (by (with_reducible repeat (first | apply Kd.R_alloc | apply Kd.R_drewN | apply Kd.R_drew)); exact HO258.out) (Kd.R_base ho0) hb); have n1_ := Aside0.mk (Kd.R_lower (Kd.R_new' ho0 (Kd.R_lt (by (with_reducible repeat (first | apply Kd.R_alloc | apply Kd.R_drewN | apply Kd.R_drew)); exact HO258.out))) (below_size (by repeat (first | (with_reducible first | exact HB.out | apply below_alloc | apply pw_below_drewN | apply below_drew1) | exact HB.out)))); have n2_ := Aside0.mk (below_step (by repeat (first | (with_reducible first | exact HB.out | apply below_alloc | apply pw_below_drewN | apply below_drew1) | exact HB.out)) hb); clear HO258; clear HB; have HO258 := n0_; have HO262 := n1_; have HB := n2_; clear n0_ n1_ n2_; (try clear hb); (try clear hb2); (try clear hk); (try clear hi); (try clear ho0)) | (go_at_call 8; (with_reducible refine (treenaillaw09_three.calls kj2  t263 _ A78.out).mono ?_); rintro e w81 ⟨rfl, hb⟩; have n0_ := Aside0.mk (Kd.R_below (by (with_reducible repeat (first | apply Kd.R_alloc | apply Kd.R_drewN | apply Kd.R_drew)); exact HO258.out) hb); have n1_ := Aside0.mk (Kd.R_below (by (with_reducible repeat (first | apply Kd.R_alloc | apply Kd.R_drewN | apply Kd.R_drew)); exact HO262.out) hb); have n2_ := Aside0.mk (below_step (by repeat (first | (with_reducible first | exact HB.out | apply below_alloc | apply pw_below_drewN | apply below_drew1) | exact HB.out)) hb); clear HO258; clear HO262; clear HB; have HO258 := n0_; have HO262 := n1_; have HB := n2_; clear n0_ n1_ n2_; (try clear hb); (try clear hb2); (try clear hk); (try clear hi))))
            go_ret
            exact ⟨by first | rfl | (simp [errW_none, errW_some] <;> rfl) | (simp [*, errW_none, errW_some] <;> rfl), by repeat (first | (with_reducible first | exact HB.out | apply below_alloc | apply pw_below_drewN | apply below_drew1) | exact HB.out)⟩
          · rw [if_neg c77] at H
            have c77b0 : (t256 == t260) = false := beq_eq_false_iff_ne.mpr c77
            have c77b1 : (t256 != t260) = true := bne_iff_ne.mpr c77
            obtain rfl := Option.some.inj H
            go_wp2_with (first | (go_at_call 9; (with_reducible refine (rank_Order.calls kj2 a0 _ _ l1 t255 t256 _ ?side1 ?side2 A9.out).mono ?_); (case side1 => repeat (first | exact (Kd.C_below HR1.out HB.out) | (with_reducible refine Kd.C_alloc ?_ _) | (with_reducible refine Kd.C_drewN ?_ _) | (with_reducible refine Kd.C_drew ?_))); (case side2 => exact HC1.out); rintro e w82 ⟨v257, rfl, ho0, hb⟩; have n0_ := Aside0.mk (Kd.R_lower ho0 (below_size (by repeat (first | (with_reducible first | exact HB.out | apply below_alloc | apply pw_below_drewN | apply below_drew1) | exact HB.out)))); have n1_ := Aside0.mk (below_step (by repeat (first | (with_reducible first | exact HB.out | apply below_alloc | apply pw_below_drewN | apply below_drew1) | exact HB.out)) hb); clear HB; have HO258 := n0_; have HB := n1_; clear n0_ n1_; (try clear hb); (try clear hb2); (try clear hk); (try clear hi); (try clear ho0)) | (go_at_call 13; (with_reducible refine (rank_Round.calls kj2 a0 _ _ l1 t259 t260 _ ?side1 ?side2 A10.out).mono ?_); (case side1 => repeat (first | exact (Kd.C_below HR1.out HB.out) | (with_reducible refine Kd.C_alloc ?_ _) | (with_reducible refine Kd.C_drewN ?_ _) | (with_reducible refine Kd.C_drew ?_))); (case side2 => exact HC1.out); rintro e w83 ⟨v261, rfl, ho0, hb⟩; have n0_ := Aside0.mk (Kd.R_elder' (by (with_reducible repeat (first | apply Kd.R_alloc | apply Kd.R_drewN | apply Kd.R_drew)); exact HO258.out) (Kd.R_base ho0) hb); have n1_ := Aside0.mk (Kd.R_lower (Kd.R_new' ho0 (Kd.R_lt (by (with_reducible repeat (first | apply Kd.R_alloc | apply Kd.R_drewN | apply Kd.R_drew)); exact HO258.out))) (below_size (by repeat (first | (with_reducible first | exact HB.out | apply below_alloc | apply pw_below_drewN | apply below_drew1) | exact HB.out)))); have n2_ := Aside0.mk (below_step (by repeat (first | (with_reducible first | exact HB.out | apply below_alloc | apply pw_below_drewN | apply below_drew1) | exact HB.out)) hb); clear HO258; clear HB; have HO258 := n0_; have HO262 := n1_; have HB := n2_; clear n0_ n1_ n2_; (try clear hb); (try clear hb2); (try clear hk); (try clear hi); (try clear ho0)))
            repeat (go_quiet (first | (go_at_call 9; (with_reducible refine (rank_Order.calls kj2 a0 _ _ l1 t255 t256 _ ?side1 ?side2 A9.out).mono ?_); (case side1 => repeat (first | exact (Kd.C_below HR1.out HB.out) | (with_reducible refine Kd.C_alloc ?_ _) | (with_reducible refine Kd.C_drewN ?_ _) | (with_reducible refine Kd.C_drew ?_))); (case side2 => exact HC1.out); rintro e w82 ⟨v257, rfl, ho0, hb⟩; have n0_ := Aside0.mk (Kd.R_lower ho0 (below_size (by repeat (first | (with_reducible first | exact HB.out | apply below_alloc | apply pw_below_drewN | apply below_drew1) | exact HB.out)))); have n1_ := Aside0.mk (below_step (by repeat (first | (with_reducible first | exact HB.out | apply below_alloc | apply pw_below_drewN | apply below_drew1) | exact HB.out)) hb); clear HB; have HO258 := n0_; have HB := n1_; clear n0_ n1_; (try clear hb); (try clear hb2); (try clear hk); (try clear hi); (try clear ho0)) | (go_at_call 13; (with_reducible refine (rank_Round.calls kj2 a0 _ _ l1 t259 t260 _ ?side1 ?side2 A10.out).mono ?_); (case side1 => repeat (first | exact (Kd.C_below HR1.out HB.out) | (with_reducible refine Kd.C_alloc ?_ _) | (with_reducible refine Kd.C_drewN ?_ _) | (with_reducible refine Kd.C_drew ?_))); (case side2 => exact HC1.out); rintro e w83 ⟨v261, rfl, ho0, hb⟩; have n0_ := Aside0.mk (Kd.R_elder' (by (with_reducible repeat (first | apply Kd.R_alloc | apply Kd.R_drewN | apply Kd.R_drew)); exact HO258.out) (Kd.R_base ho0) hb); have n1_ := Aside0.mk (Kd.R_lower (Kd.R_new' ho0 (Kd.R_lt (by (with_reducible repeat (first | apply Kd.R_alloc | apply Kd.R_drewN | apply Kd.R_drew)); exact HO258.out))) (below_size (by repeat (first | (with_reducible first | exact HB.out | apply below_alloc | apply pw_below_drewN | apply below_drew1) | exact HB.out)))); have n2_ := Aside0.mk (below_step (by repeat (first | (with_reducible first | exact HB.out | apply below_alloc | apply pw_below_drewN | apply below_drew1) | exact HB.out)) hb); clear HO258; clear HB; have HO258 := n0_; have HO262 := n1_; have HB := n2_; clear n0_ n1_ n2_; (try clear hb); (try clear hb2); (try clear hk); (try clear hi); (try clear ho0))); try go_wp2_with (first | (go_at_call 9; (with_reducible refine (rank_Order.calls kj2 a0 _ _ l1 t255 t256 _ ?side1 ?side2 A9.out).mono ?_); (case side1 => repeat (first | exact (Kd.C_below HR1.out HB.out) | (with_reducible refine Kd.C_alloc ?_ _) | (with_reducible refine Kd.C_drewN ?_ _) | (with_reducible refine Kd.C_drew ?_))); (case side2 => exact HC1.out); rintro e w82 ⟨v257, rfl, ho0, hb⟩; have n0_ := Aside0.mk (Kd.R_lower ho0 (below_size (by repeat (first | (with_reducible first | exact HB.out | apply below_alloc | apply pw_below_drewN | apply below_drew1) | exact HB.out)))); have n1_ := Aside0.mk (below_step (by repeat (first | (with_reducible first | exact HB.out | apply below_alloc | apply pw_below_drewN | apply below_drew1) | exact HB.out)) hb); clear HB; have HO258 := n0_; have HB := n1_; clear n0_ n1_; (try clear hb); (try clear hb2); (try clear hk); (try clear hi); (try clear ho0)) | (go_at_call 13; (with_reducible refine (rank_Round.calls kj2 a0 _ _ l1 t259 t260 _ ?side1 ?side2 A10.out).mono ?_); (case side1 => repeat (first | exact (Kd.C_below HR1.out HB.out) | (with_reducible refine Kd.C_alloc ?_ _) | (with_reducible refine Kd.C_drewN ?_ _) | (with_reducible refine Kd.C_drew ?_))); (case side2 => exact HC1.out); rintro e w83 ⟨v261, rfl, ho0, hb⟩; have n0_ := Aside0.mk (Kd.R_elder' (by (with_reducible repeat (first | apply Kd.R_alloc | apply Kd.R_drewN | apply Kd.R_drew)); exact HO258.out) (Kd.R_base ho0) hb); have n1_ := Aside0.mk (Kd.R_lower (Kd.R_new' ho0 (Kd.R_lt (by (with_reducible repeat (first | apply Kd.R_alloc | apply Kd.R_drewN | apply Kd.R_drew)); exact HO258.out))) (below_size (by repeat (first | (with_reducible first | exact HB.out | apply below_alloc | apply pw_below_drewN | apply below_drew1) | exact HB.out)))); have n2_ := Aside0.mk (below_step (by repeat (first | (with_reducible first | exact HB.out | apply below_alloc | apply pw_below_drewN | apply below_drew1) | exact HB.out)) hb); clear HO258; clear HB; have HO258 := n0_; have HO262 := n1_; have HB := n2_; clear n0_ n1_ n2_; (try clear hb); (try clear hb2); (try clear hk); (try clear hi); (try clear ho0))))
            go_ret
            exact ⟨by first | rfl | (simp [errW_none, errW_some] <;> rfl) | (simp [*, errW_none, errW_some] <;> rfl), by repeat (first | (with_reducible first | exact HB.out | apply below_alloc | apply pw_below_drewN | apply below_drew1) | exact HB.out)⟩

end Go.Proofs.Ytfblajilalcnkaa.Q
