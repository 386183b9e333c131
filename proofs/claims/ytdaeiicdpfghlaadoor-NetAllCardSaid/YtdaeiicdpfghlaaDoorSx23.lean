import Derived.Test.YtdaeiicdpfghlaaDoorSx0
import Derived.Test.YtdaeiicdpfghlaaDoorSx3
import Derived.Test.YtdaeiicdpfghlaaDoorSx5
import Derived.Test.YtdaeiicdpfghlaaDoorSx7
import Derived.Test.YtdaeiicdpfghlaaDoorSx12
import Derived.Test.YtdaeiicdpfghlaaDoorSx14
import Derived.Test.YtdaeiicdpfghlaaDoorSx17
import Derived.Test.YtdaeiicdpfghlaaDoorSx18
import Derived.Test.YtdaeiicdpfghlaaDoorSx19
namespace Go.Proofs.YtdaeiicdpfghlaaDoor.R
open Go.RowKit Go.Proofs.YtdaeiicdpfghlaaDoorW.PrintWords Go.Proofs.YtdaeiicdpfghlaaDoorW.PrintLast Go.Proofs.YtdaeiicdpfghlaaDoorW.PrintMore
attribute [local go_sem] max2_int min2_int max_two min_two max_three min_three max_four min_four   -- for this text's walks alone
set_option linter.unusedVariables false
set_option linter.unusedSimpArgs false

def treenailref05_Is.f (k : Nat) (l0_0 : List (S37)) (l0_1 : List (S53)) (a1 : Int) (a2 : Int) : Option (Bool) := if a1 = 1 then (if (l0_0.length : Int) > 24 then (some (a2 == 0)) else (if (l0_1.length : Int) > 40 then (some (a2 == 0)) else (if a2 ≥ 0 then (if a2 < (l0_0.length : Int) then (if 0 ≤ a2 then ((treenailref05_one.f k ((rd_T37 l0_0 a2).f0) ((rd_T37 l0_0 a2).f1) ((rd_T37 l0_0 a2).f2.f0) ((rd_T37 l0_0 a2).f2.f1) ((rd_T37 l0_0 a2).f2.f2)).bind fun t436 => (some (!t436))) else (none)) else (some false)) else (some false)))) else (if a1 = 2 then (if a2 ≥ 0 then (if a2 < (l0_1.length : Int) then (if 0 ≤ a2 then ((treenailref05_two.f k l0_0 l0_1 ((rd_T53 l0_1 a2).f0) ((rd_T53 l0_1 a2).f1) ((rd_T53 l0_1 a2).f2) ((rd_T53 l0_1 a2).f3.f0) ((rd_T53 l0_1 a2).f3.f1) ((rd_T53 l0_1 a2).f3.f2)).bind fun t438 => (some (!t438))) else (none)) else (some false)) else (some false)) else (if a1 = 3 then ((treenailref05_First.f k l0_0 l0_1 1).bind fun t439 => ((treenailref05_First.f k l0_0 l0_1 2).bind fun t440 => (if a2 = (l0_0.length : Int) then (if t439 < 0 then (some true) else (some (decide (t440 < 0)))) else (if a2 ≥ 0 then (if a2 < (l0_0.length : Int) then ((treenailref05_three.f k l0_0 l0_1 a2).bind fun t441 => (if t441 = true then (if 0 ≤ a2 then (if ((rd_T37 l0_0 a2).f0) = 1 then (if a2 > t439 then (some true) else (if ((rd_T37 l0_0 a2).f0) = 2 then (some (decide (a2 > t440))) else (some false))) else (if ((rd_T37 l0_0 a2).f0) = 2 then (some (decide (a2 > t440))) else (some false))) else (none)) else (some true))) else (some false)) else (some false))))) else (if a2 ≥ 0 then (if a2 < (l0_0.length : Int) then ((treenailref05_First.f k l0_0 l0_1 1).bind fun t445 => ((treenailref05_Reach.f k l0_0 l0_1 t445).bind fun t446 => (if 0 ≤ a2 then (if a2 < (t446.length : Int) then (if rdOf false t446 a2 = true then ((treenailref05_Reach.f k l0_0 l0_1 a2).bind fun t450 => ((treenailref05_First.f k l0_0 l0_1 2).bind fun t453 => (if 0 ≤ t453 then (if t453 < (t450.length : Int) then (some (!(rdOf false t450 t453))) else (none)) else (none)))) else (some true)) else (none)) else (none)))) else (some false)) else (some false))))
set_option maxRecDepth 100000 in
theorem treenailref05_Is.mono : ∀ a0 a1 a2 a3 k, LeO (treenailref05_Is.f k a0 a1 a2 a3) (treenailref05_Is.f (k + 1) a0 a1 a2 a3) := by
 intro a0 a1 a2 a3 k
 unfold treenailref05_Is.f
 repeat' first
 | (with_reducible exact treenailref05_First.mono _ _ _ _)
 | (with_reducible exact treenailref05_Reach.mono _ _ _ _)
 | (with_reducible exact treenailref05_one.mono _ _ _ _ _ _)
 | (with_reducible exact treenailref05_three.mono _ _ _ _)
 | (with_reducible exact treenailref05_two.mono _ _ _ _ _ _ _ _ _)
 | (with_reducible exact LeO.refl _)
 | (with_reducible exact LeO.none _)
 | (with_reducible refine LeO.ite ?_ ?_)
 | (with_reducible refine LeO.bind ?_ (fun _ => ?_))
 | refine LeO.ite ?_ ?_
 | refine LeO.bind ?_ (fun _ => ?_)
def treenailref05_Is.T7 : Bool × List (List Nat × List Nat) := (true, [([], []), ([0], [0]), ([1], [1]), ([2], [2]), ([2], [2]), ([4, 2], [2, 4]), ([5, 2], [2, 5]), ([3, 6, 2], [2, 3, 6]), ([2, 7], [2, 7]), ([8, 2], [8]), ([9], [9]), ([9], [9]), ([11, 9], [9, 11]), ([9], [9]), ([12, 13, 9], [9, 12, 13]), ([14, 9], [9, 14]), ([10, 15, 9, 9], [9, 10, 15]), ([16, 9], [9, 16]), ([9, 17], [9, 17]), ([18, 16, 0, 1, 2, 3, 4, 5, 6, 7, 8, 9, 10, 11, 12, 13, 14, 15, 16, 17, 18], [18])])
def treenailref05_Is.B7 : List Nat := [0, 1, 3, 7, 7, 23, 55, 127, 255, 511, 1023, 1023, 3071, 1023, 15359, 31743, 65535, 131071, 262143, 524287]
theorem treenailref05_Is.tab7 : rtab .any (opsOf Tryd.f19 7) = treenailref05_Is.T7 := by kernel_rfl
theorem treenailref05_Is.bits7 : waitsOk treenailref05_Is.T7.2 treenailref05_Is.B7 = true := by kernel_rfl
def treenailref05_Is.T14 : Bool × List (List Nat × List Nat) := (true, [([], []), ([0], [0]), ([1], [1]), ([2], [2]), ([2], [2]), ([4, 2], [2, 4]), ([5, 2], [2, 5]), ([3, 6, 2], [2, 3, 6]), ([2, 7], [2, 7]), ([8, 2], [8]), ([9], [9]), ([9], [9]), ([11, 9, 9], [9, 11]), ([10, 12, 12, 9], [9, 10, 12]), ([9], [9]), ([13, 14, 9], [9, 13, 14]), ([15, 9], [9, 15]), ([16, 9], [9, 16]), ([17, 13, 9], [9, 17]), ([18], [18]), ([18], [18]), ([19, 20, 18, 18], [18, 19, 20]), ([18], [18]), ([22, 21, 18], [18, 22]), ([21, 23, 18], [18, 21, 23]), ([24, 18], [18, 24]), ([25, 18], [18, 25]), ([18, 26, 9], [9, 18, 26]), ([9, 27], [9, 27]), ([28, 23, 0, 1, 2, 3, 4, 5, 6, 7, 8, 9, 10, 11, 12, 13, 14, 15, 16, 17, 18, 19, 20, 21, 22, 23, 24, 25, 26, 27, 28], [28])])
def treenailref05_Is.B14 : List Nat := [0, 1, 3, 7, 7, 23, 55, 127, 255, 511, 1023, 1023, 3071, 8191, 1023, 32767, 65535, 131071, 262143, 524287, 524287, 2097151, 524287, 8388607, 16777215, 33554431, 67108863, 134217727, 268435455, 536870911]
theorem treenailref05_Is.tab14 : rtab .any (opsOf Tryd.f19 14) = treenailref05_Is.T14 := by kernel_rfl
theorem treenailref05_Is.bits14 : waitsOk treenailref05_Is.T14.2 treenailref05_Is.B14 = true := by kernel_rfl
set_option maxHeartbeats 8000000 in
set_option maxRecDepth 100000 in
theorem treenailref05_Is.calls (k : Nat) (A0_0 : Option Addr) (c0_0 : Nat) (l0_0 : List (S37)) (A0_1 : Option Addr) (c0_1 : Nat) (l0_1 : List (S53)) (a1 : Int) (a2 : Int) (r : Bool) (w : World) (hr0_0 : Kd.C k37 w A0_0 l0_0.length l0_0) (hc0_0 : l0_0.length ≤ c0_0) (hr0_1 : Kd.C k53 w A0_1 l0_1.length l0_1) (hc0_1 : l0_1.length ≤ c0_1) (h : treenailref05_Is.f k l0_0 l0_1 a1 a2 = some r) :
  Calls Tryd.prog 19 #[.agg #[.slice A0_0 l0_0.length c0_0, .slice A0_1 l0_1.length c0_1], .int .i64 a1, .int .i64 a2] w fun e w' => e = .returned (.bool r) ∧ Below w.heap.size w w' := by
 have hu25 := Tryd.underlying25
 have hu37 := Tryd.underlying37
 have hu53 := Tryd.underlying53
 have HR0_0 := zm hr0_0
 have HC0_0 := zm hc0_0
 clear hr0_0 hc0_0
 have HR0_1 := zm hr0_1
 have HC0_1 := zm hc0_1
 clear hr0_1 hc0_1
 have HB := zm (Below.refl w.heap.size w)
 have H : (if a1 = 1 then (if (l0_0.length : Int) > 24 then (some (a2 == 0)) else (if (l0_1.length : Int) > 40 then (some (a2 == 0)) else (if a2 ≥ 0 then (if a2 < (l0_0.length : Int) then (if 0 ≤ a2 then ((treenailref05_one.f k ((rd_T37 l0_0 a2).f0) ((rd_T37 l0_0 a2).f1) ((rd_T37 l0_0 a2).f2.f0) ((rd_T37 l0_0 a2).f2.f1) ((rd_T37 l0_0 a2).f2.f2)).bind fun t436 => (some (!t436))) else (none)) else (some false)) else (some false)))) else (if a1 = 2 then (if a2 ≥ 0 then (if a2 < (l0_1.length : Int) then (if 0 ≤ a2 then ((treenailref05_two.f k l0_0 l0_1 ((rd_T53 l0_1 a2).f0) ((rd_T53 l0_1 a2).f1) ((rd_T53 l0_1 a2).f2) ((rd_T53 l0_1 a2).f3.f0) ((rd_T53 l0_1 a2).f3.f1) ((rd_T53 l0_1 a2).f3.f2)).bind fun t438 => (some (!t438))) else (none)) else (some false)) else (some false)) else (if a1 = 3 then ((treenailref05_First.f k l0_0 l0_1 1).bind fun t439 => ((treenailref05_First.f k l0_0 l0_1 2).bind fun t440 => (if a2 = (l0_0.length : Int) then (if t439 < 0 then (some true) else (some (decide (t440 < 0)))) else (if a2 ≥ 0 then (if a2 < (l0_0.length : Int) then ((treenailref05_three.f k l0_0 l0_1 a2).bind fun t441 => (if t441 = true then (if 0 ≤ a2 then (if ((rd_T37 l0_0 a2).f0) = 1 then (if a2 > t439 then (some true) else (if ((rd_T37 l0_0 a2).f0) = 2 then (some (decide (a2 > t440))) else (some false))) else (if ((rd_T37 l0_0 a2).f0) = 2 then (some (decide (a2 > t440))) else (some false))) else (none)) else (some true))) else (some false)) else (some false))))) else (if a2 ≥ 0 then (if a2 < (l0_0.length : Int) then ((treenailref05_First.f k l0_0 l0_1 1).bind fun t445 => ((treenailref05_Reach.f k l0_0 l0_1 t445).bind fun t446 => (if 0 ≤ a2 then (if a2 < (t446.length : Int) then (if rdOf false t446 a2 = true then ((treenailref05_Reach.f k l0_0 l0_1 a2).bind fun t450 => ((treenailref05_First.f k l0_0 l0_1 2).bind fun t453 => (if 0 ≤ t453 then (if t453 < (t450.length : Int) then (some (!(rdOf false t450 t453))) else (none)) else (none)))) else (some true)) else (none)) else (none)))) else (some false)) else (some false))))) = some r := h
 clear h
 have HC4 := zm H
 clear H
 go_enter Tryd.func19, Tryd.ntmps19
 go_upto_block 0 with (first | ((with_reducible refine gate_dst (N := 3) rfl ?_); (try (refine gate_guard (by rfl) ?_; dsimp only)); refine box_event ?hg (N := 3) ?hd (cs := #[.slice A0_0 l0_0.length c0_0, .slice A0_1 l0_1.length c0_1]) (t := 25) ?hr ?_; (case hd => rfl); (case hg => rfl); (case hr => first | (go_simp; done) | (go_simp; rfl)); intro gb434 hg w5 hbox hb; have BK434 := zm (hbox); have GW434 := zm ((by rw [hg]; exact (below_size (bx HB.out)) : w.heap.size ≤ gb434)); have GE434 := zm ((by rw [hg]; exact (below_size (bx HB.out)) : w.heap.size ≤ gb434)); replace HB := zm (below_step (bx HB.out) hb); clear hb hbox hg))
 have H := HC4.out
 clear HC4
 by_cases c6 : a1 = 1
 ·rw [if_pos c6] at H
  have c6b0 := beq_iff_eq.mpr c6
  have c6b1 := bne_eq_false_iff_eq.mpr c6
  clear c6
  by_cases c7 : (l0_0.length : Int) > 24
  ·rw [if_pos c7] at H
   have c7b0 : decide (24 < (l0_0.length : Int)) = true := decide_eq_true c7
   have c7b1 : decide (24 < l0_0.length) = true := decide_eq_true (by omega)
   clear c7
   obtain rfl := Option.some.inj H
   have hcz8_0 := bc0 BK434.out
   have hcz8_1 := bc1 BK434.out
   go_wp2
   go_ret
   exact ⟨xe, bx HB.out⟩
  rw [if_neg c7] at H
  have c7b0 : decide (24 < (l0_0.length : Int)) = false := decide_eq_false c7
  try (have c7b9 := c7b0; rw [hl444_4] at c7b9)
  try (have c7b9 := c7b0; rw [hl443_4] at c7b9)
  try (have c7b9 := c7b0; rw [hl442_4] at c7b9)
  try (have c7b9 := c7b0; rw [hl437_5] at c7b9)
  try (have c7b9 := c7b0; rw [hl435_4] at c7b9)
  have c7b1 : decide (24 < l0_0.length) = false := decide_eq_false (by omega)
  clear c7
  by_cases c9 : (l0_1.length : Int) > 40
  ·rw [if_pos c9] at H
   have c9b0 : decide (40 < (l0_1.length : Int)) = true := decide_eq_true c9
   have c9b1 : decide (40 < l0_1.length) = true := decide_eq_true (by omega)
   clear c9
   obtain rfl := Option.some.inj H
   have hcz10_0 := bc0 BK434.out
   have hcz10_1 := bc1 BK434.out
   go_wp2
   go_ret
   exact ⟨xe, bx HB.out⟩
  rw [if_neg c9] at H
  have c9b0 : decide (40 < (l0_1.length : Int)) = false := decide_eq_false c9
  try (have c9b9 := c9b0; rw [hl444_4] at c9b9)
  try (have c9b9 := c9b0; rw [hl443_4] at c9b9)
  try (have c9b9 := c9b0; rw [hl442_4] at c9b9)
  try (have c9b9 := c9b0; rw [hl437_5] at c9b9)
  try (have c9b9 := c9b0; rw [hl435_4] at c9b9)
  have c9b1 : decide (40 < l0_1.length) = false := decide_eq_false (by omega)
  clear c9
  by_cases c11 : a2 ≥ 0
  ·rw [if_pos c11] at H
   have c11b0 : decide (0 ≤ a2) = true := decide_eq_true c11
   clear c11
   by_cases c12 : a2 < (l0_0.length : Int)
   ·rw [if_pos c12] at H
    have c12b0 := decide_eq_true c12
    clear c12
    by_cases c13 : 0 ≤ a2
    ·rw [if_pos c13] at H
     have c13b0 := decide_eq_true c13
     clear c13
     replace H := Option.bind_eq_some_iff.mp H
     obtain ⟨t436, A140, H⟩ := H
     replace H : (some (!t436)) = some r := H
     have A14 := zm A140
     clear A140
     obtain rfl := Option.some.inj H
     have hcz15_0 := bc0 BK434.out
     have hcz15_1 := bc1 BK434.out
     have p435 : 0 ≤ (a2 : Int) := od
     have q435 : a2 < (l0_0.length : Int) := od
     obtain ⟨ad435, A435_4, c435_4, e435, hx435_0, hx435_1, hx435_2, hx435_3, hx435_4, hl435_4, hi435_4⟩ := at_T37 HR0_0.out a2 p435 q435
     cases e435
     replace hx435_0 := cb HB.out hx435_0
     replace hx435_1 := cb HB.out hx435_1
     replace hx435_2 := cb HB.out hx435_2
     replace hx435_3 := cb HB.out hx435_3
     replace hx435_4 := cb HB.out hx435_4
     have HR435_4 := zm hi435_4
     have HC435_4 := zm hl435_4
     clear hi435_4 hl435_4
     replace p435 := eq_true p435
     replace q435 := eq_true q435
     go_wp2_with (first | (go_at_call 28; (with_reducible refine (treenailref05_one.calls k ((rd_T37 l0_0 a2).f0) ((rd_T37 l0_0 a2).f1) ((rd_T37 l0_0 a2).f2.f0) ((rd_T37 l0_0 a2).f2.f1) _ _ ((rd_T37 l0_0 a2).f2.f2) t436 _ ?side1 HC435_4.out A14.out).mono ?_); (case side1 => exact cx (Kd.C_below HR435_4.out HB.out)); rintro e w16 ⟨rfl, hb⟩; replace BK434 := zm (kB (kx BK434.out) hb); replace HB := zm (below_step (bx HB.out) hb); (try clear hb)))
     go_ret
     exact ⟨xe, bx HB.out⟩
    rw [if_neg c13] at H
    exact absurd H (by simp)
   rw [if_neg c12] at H
   have c12b0 := decide_eq_false c12
   try (have c12b9 := c12b0; rw [hl444_4] at c12b9)
   try (have c12b9 := c12b0; rw [hl443_4] at c12b9)
   try (have c12b9 := c12b0; rw [hl442_4] at c12b9)
   try (have c12b9 := c12b0; rw [hl437_5] at c12b9)
   try (have c12b9 := c12b0; rw [hl435_4] at c12b9)
   clear c12
   obtain rfl := Option.some.inj H
   have hcz17_0 := bc0 BK434.out
   have hcz17_1 := bc1 BK434.out
   go_wp2
   go_ret
   exact ⟨xe, bx HB.out⟩
  rw [if_neg c11] at H
  have c11b0 : decide (0 ≤ a2) = false := decide_eq_false c11
  clear c11
  obtain rfl := Option.some.inj H
  have hcz18_0 := bc0 BK434.out
  have hcz18_1 := bc1 BK434.out
  go_wp2
  go_ret
  exact ⟨xe, bx HB.out⟩
 rw [if_neg c6] at H
 have c6b0 := beq_eq_false_iff_ne.mpr c6
 have c6b1 := bne_iff_ne.mpr c6
 by_cases c19 : a1 = 2
 ·rw [if_pos c19] at H
  have c19b0 := beq_iff_eq.mpr c19
  have c19b1 := bne_eq_false_iff_eq.mpr c19
  clear c19
  by_cases c20 : a2 ≥ 0
  ·rw [if_pos c20] at H
   have c20b0 : decide (0 ≤ a2) = true := decide_eq_true c20
   clear c20
   by_cases c21 : a2 < (l0_1.length : Int)
   ·rw [if_pos c21] at H
    have c21b0 := decide_eq_true c21
    clear c21
    by_cases c22 : 0 ≤ a2
    ·rw [if_pos c22] at H
     have c22b0 := decide_eq_true c22
     clear c22
     replace H := Option.bind_eq_some_iff.mp H
     obtain ⟨t438, A230, H⟩ := H
     replace H : (some (!t438)) = some r := H
     have A23 := zm A230
     clear A230
     obtain rfl := Option.some.inj H
     try go_wp2
     replace BK434 := zm (blk_drew BK434.out)
     replace HB := zm (below_drew1 HB.out)
     have p437 : 0 ≤ (a2 : Int) := od
     have q437 : a2 < (l0_1.length : Int) := od
     obtain ⟨ad437, A437_5, c437_5, e437, hx437_0, hx437_1, hx437_2, hx437_3, hx437_4, hx437_5, hl437_5, hi437_5⟩ := at_T53 HR0_1.out a2 p437 q437
     have hw437_5 := hx437_5
     have hw437_4 := hx437_4
     have hw437_3 := hx437_3
     have hw437_2 := hx437_2
     have hw437_1 := hx437_1
     have hw437_0 := hx437_0
     cases e437
     replace hx437_0 := cb HB.out hx437_0
     replace hx437_1 := cb HB.out hx437_1
     replace hx437_2 := cb HB.out hx437_2
     replace hx437_3 := cb HB.out hx437_3
     replace hx437_4 := cb HB.out hx437_4
     replace hx437_5 := cb HB.out hx437_5
     have HR437_5 := zm hi437_5
     have HC437_5 := zm hl437_5
     clear hi437_5 hl437_5
     replace p437 := eq_true p437
     replace q437 := eq_true q437
     refine start_ (n := 20) (S := fun w' => w'.cell? ⟨gb434, 0, none⟩ = some (.slice A0_0 l0_0.length c0_0) ∧ w'.cell? ⟨gb434, 1, none⟩ = some (.slice (some ad437) l0_1.length c0_1) ∧ w'.cell? (ad437.add ((a2).toNat * 6)) = some (.int .i64 ((rd_T53 l0_1 a2).f0)) ∧ w'.cell? ⟨(ad437.add ((a2).toNat * 6)).block, (ad437.add ((a2).toNat * 6)).off + 1, none⟩ = some (.int .i64 ((rd_T53 l0_1 a2).f1)) ∧ w'.cell? ⟨(ad437.add ((a2).toNat * 6)).block, (ad437.add ((a2).toNat * 6)).off + 2, none⟩ = some (.bool ((rd_T53 l0_1 a2).f2)) ∧ w'.cell? ⟨(ad437.add ((a2).toNat * 6)).block, (ad437.add ((a2).toNat * 6)).off + 3, none⟩ = some (.int .i64 ((rd_T53 l0_1 a2).f3.f0)) ∧ w'.cell? ⟨(ad437.add ((a2).toNat * 6)).block, (ad437.add ((a2).toNat * 6)).off + 4, none⟩ = some (.int .i64 ((rd_T53 l0_1 a2).f3.f1)) ∧ w'.cell? ⟨(ad437.add ((a2).toNat * 6)).block, (ad437.add ((a2).toNat * 6)).off + 5, none⟩ = some (.slice A437_5 ((rd_T53 l0_1 a2).f3.f2).length c437_5)) (ds := []) #[Z,Z,Z,Z,Z,Z,Z,Z,Z,Z,Z,Z,Z,Z,Z,Z,Z,Z,Z,Z] (by kernel_rfl) rfl rfl ⟨bc0 BK434.out, bc1 BK434.out, (cb HB.out hw437_0), (cb HB.out hw437_1), (cb HB.out hw437_2), (cb HB.out hw437_3), (cb HB.out hw437_4), (cb HB.out hw437_5)⟩ (fun hHeld => ?_); refine with_tabW treenailref05_Is.tab7 treenailref05_Is.bits7 (fun HT_ HW_ => ?_)
     generalize w5.drew = w24 at BK434 HB HR437_5 hx437_0 hx437_1 hx437_2 hx437_3 hx437_4 hx437_5 hHeld ⊢
     refine pure_ (i := 0) (N := some 44) (v := ?_) (a' := ?_) #[Y,Z,Z,Z,Z,Z,Z,Z,Z,Z,Z,Z,Z,Z,Z,Z,Z,Z,Z,Z] rfl rfl (any_of HT_.out (by kernel_rfl)) (fun _ _ _ h => h) (Or.inl ⟨by rfl, ?_⟩) ?_ ?_
     rotate_left
     ·intro w'
      go_simp
      with_reducible rfl
     rotate_left
     ·simp only [Act.put, sS, sZ, sC, i64_w, i32_w]
      rfl
     refine pure_ (i := 1) (N := some 45) (v := ?_) (a' := ?_) #[Y,Y,Z,Z,Z,Z,Z,Z,Z,Z,Z,Z,Z,Z,Z,Z,Z,Z,Z,Z] rfl rfl (any_of HT_.out (by kernel_rfl)) (fun _ _ _ h => h) (Or.inl ⟨by rfl, ?_⟩) ?_ ?_
     rotate_left
     ·intro w'
      go_simp
      with_reducible rfl
     rotate_left
     ·simp only [Act.put, sS, sZ, sC, i64_w, i32_w]
      rfl
     refine pure_ (i := 2) (N := some 46) (v := ?_) (a' := ?_) #[Y,Y,Y,Z,Z,Z,Z,Z,Z,Z,Z,Z,Z,Z,Z,Z,Z,Z,Z,Z] rfl rfl (any_of HT_.out (by kernel_rfl)) (fun _ _ _ h => h) (Or.inl ⟨by rfl, ?_⟩) ?_ ?_
     rotate_left
     ·intro w'
      go_simp
      with_reducible rfl
     rotate_left
     ·simp only [Act.put, sS, sZ, sC, i64_w, i32_w]
      rfl
     refine pure_ (i := 3) (N := some 47) (v := ?_) (a' := ?_) #[Y,Y,Y,Y,Z,Z,Z,Z,Z,Z,Z,Z,Z,Z,Z,Z,Z,Z,Z,Z] rfl rfl (any_of HT_.out (by kernel_rfl)) (fun _ _ _ h => h) (Or.inl ⟨by rfl, ?_⟩) ?_ ?_
     rotate_left
     ·intro w'
      go_simp
      with_reducible rfl
     rotate_left
     ·simp only [Act.put, sS, sZ, sC, i64_w, i32_w]
      rfl
     refine pure_ (i := 4) (N := some 48) (v := ?_) (a' := ?_) #[Y,Y,Y,Y,Y,Z,Z,Z,Z,Z,Z,Z,Z,Z,Z,Z,Z,Z,Z,Z] rfl rfl (any_of HT_.out (by kernel_rfl)) (fun _ _ _ h => h) (Or.inl ⟨by rfl, ?_⟩) ?_ ?_
     rotate_left
     ·intro w'
      go_simp
      with_reducible rfl
     rotate_left
     ·simp only [Act.put, sS, sZ, sC, i64_w, i32_w]
      rfl
     refine take_ (i := 5) (N := some 49) (v := ?_) (a' := ?_) #[Y,Y,Y,Y,Y,Y,Z,Z,Z,Z,Z,Z,Z,Z,Z,Z,Z,Z,Z,Z] rfl rfl (take_ofW HT_.out HW_.out (by kernel_rfl)) (fun _ _ _ h => h) (Or.inl ⟨by rfl, ?_⟩) hHeld ?_ ?_
     rotate_left
     ·rintro w' ⟨s0, s1, s2, s3, s4, s5, s6, s7⟩
      go_simp
      with_reducible rfl
     rotate_left
     ·simp only [Act.put, sS, sZ, sC, i64_w, i32_w]
      rfl
     refine pure_ (i := 6) (N := some 50) (v := ?_) (a' := ?_) #[Y,Y,Y,Y,Y,Y,Y,Z,Z,Z,Z,Z,Z,Z,Z,Z,Z,Z,Z,Z] rfl rfl (any_of HT_.out (by kernel_rfl)) (fun _ _ _ h => h) (Or.inl ⟨by rfl, ?_⟩) ?_ ?_
     rotate_left
     ·intro w'
      go_simp
      with_reducible rfl
     rotate_left
     ·simp only [Act.put, sS, sZ, sC, i64_w, i32_w]
      rfl
     refine pure_ (i := 7) (N := some 51) (v := ?_) (a' := ?_) #[Y,Y,Y,Y,Y,Y,Y,Y,Z,Z,Z,Z,Z,Z,Z,Z,Z,Z,Z,Z] rfl rfl (any_of HT_.out (by kernel_rfl)) (fun _ _ _ h => h) (Or.inl ⟨by rfl, ?_⟩) ?_ ?_
     rotate_left
     ·intro w'
      go_simp
      with_reducible rfl
     rotate_left
     ·simp only [Act.put, sS, sZ, sC, i64_w, i32_w]
      rfl
     refine pure_ (i := 8) (N := some 52) (v := ?_) (a' := ?_) #[Y,Y,Y,Y,Y,Y,Y,Y,Y,Z,Z,Z,Z,Z,Z,Z,Z,Z,Z,Z] rfl rfl (any_of HT_.out (by kernel_rfl)) (fun _ _ _ h => h) (Or.inl ⟨by rfl, ?_⟩) ?_ ?_
     rotate_left
     ·intro w'
      go_simp
      with_reducible rfl
     rotate_left
     ·simp only [Act.put, sS, sZ, sC, i64_w, i32_w]
      rfl
     refine pure_ (i := 9) (N := some 53) (v := ?_) (a' := ?_) #[Y,Y,Y,Y,Y,Y,Y,Y,Y,Y,Z,Z,Z,Z,Z,Z,Z,Z,Z,Z] rfl rfl (any_of HT_.out (by kernel_rfl)) (fun _ _ _ h => h) (Or.inl ⟨by rfl, ?_⟩) ?_ ?_
     rotate_left
     ·intro w'
      go_simp
      with_reducible rfl
     rotate_left
     ·simp only [Act.put, sS, sZ, sC, i64_w, i32_w]
      rfl
     refine pure_ (i := 11) (N := some 55) (v := ?_) (a' := ?_) #[Y,Y,Y,Y,Y,Y,Y,Y,Y,Y,Z,Y,Z,Z,Z,Z,Z,Z,Z,Z] rfl rfl (any_of HT_.out (by kernel_rfl)) (fun _ _ _ h => h) (Or.inl ⟨by rfl, ?_⟩) ?_ ?_
     rotate_left
     ·intro w'
      go_simp
      with_reducible rfl
     rotate_left
     ·simp only [Act.put, sS, sZ, sC, i64_w, i32_w]
      rfl
     refine pure_ (i := 13) (N := some 57) (v := ?_) (a' := ?_) #[Y,Y,Y,Y,Y,Y,Y,Y,Y,Y,Z,Y,Z,Y,Z,Z,Z,Z,Z,Z] rfl rfl (any_of HT_.out (by kernel_rfl)) (fun _ _ _ h => h) (Or.inl ⟨by rfl, ?_⟩) ?_ ?_
     rotate_left
     ·intro w'
      go_simp
      with_reducible rfl
     rotate_left
     ·simp only [Act.put, sS, sZ, sC, i64_w, i32_w]
      rfl
     refine take_ (i := 10) (N := some 54) (v := ?_) (a' := ?_) #[Y,Y,Y,Y,Y,Y,Y,Y,Y,Y,Y,Y,Z,Y,Z,Z,Z,Z,Z,Z] rfl rfl (take_ofW HT_.out HW_.out (by kernel_rfl)) (fun _ _ _ h => h) (Or.inl ⟨by rfl, ?_⟩) hHeld ?_ ?_
     rotate_left
     ·rintro w' ⟨s0, s1, s2, s3, s4, s5, s6, s7⟩
      go_simp
      with_reducible rfl
     rotate_left
     ·simp only [Act.put, sS, sZ, sC, i64_w, i32_w]
      rfl
     refine take_ (i := 12) (N := some 56) (v := ?_) (a' := ?_) #[Y,Y,Y,Y,Y,Y,Y,Y,Y,Y,Y,Y,Y,Y,Z,Z,Z,Z,Z,Z] rfl rfl (take_ofW HT_.out HW_.out (by kernel_rfl)) (fun _ _ _ h => h) (Or.inl ⟨by rfl, ?_⟩) hHeld ?_ ?_
     rotate_left
     ·rintro w' ⟨s0, s1, s2, s3, s4, s5, s6, s7⟩
      go_simp
      with_reducible rfl
     rotate_left
     ·simp only [Act.put, sS, sZ, sC, i64_w, i32_w]
      rfl
     refine pure_ (i := 14) (N := some 58) (v := ?_) (a' := ?_) #[Y,Y,Y,Y,Y,Y,Y,Y,Y,Y,Y,Y,Y,Y,Y,Z,Z,Z,Z,Z] rfl rfl (any_of HT_.out (by kernel_rfl)) (fun _ _ _ h => h) (Or.inl ⟨by rfl, ?_⟩) ?_ ?_
     rotate_left
     ·intro w'
      go_simp
      with_reducible rfl
     rotate_left
     ·simp only [Act.put, sS, sZ, sC, i64_w, i32_w]
      rfl
     refine take_ (i := 15) (N := some 59) (v := ?_) (a' := ?_) #[Y,Y,Y,Y,Y,Y,Y,Y,Y,Y,Y,Y,Y,Y,Y,Y,Z,Z,Z,Z] rfl rfl (take_ofW HT_.out HW_.out (by kernel_rfl)) (fun _ _ _ h => h) (Or.inl ⟨by rfl, ?_⟩) hHeld ?_ ?_
     rotate_left
     ·rintro w' ⟨s0, s1, s2, s3, s4, s5, s6, s7⟩
      go_simp
      with_reducible rfl
     rotate_left
     ·simp only [Act.put, sS, sZ, sC, i64_w, i32_w]
      rfl
     refine one_ (i := 16) (N := some 60) #[Y,Y,Y,Y,Y,Y,Y,Y,Y,Y,Y,Y,Y,Y,Y,Y,Y,Z,Z,Z] rfl rfl (one_of HT_.out (by kernel_rfl)) (by decide) (fun K hK => ?_)
     refine goes_ Tryd.func29 (by kernel_rfl) rfl #[.agg #[.slice A0_0 l0_0.length c0_0, .slice (some ad437) l0_1.length c0_1], .agg #[.int .i64 ((rd_T53 l0_1 a2).f0), .int .i64 ((rd_T53 l0_1 a2).f1), .bool ((rd_T53 l0_1 a2).f2), .int .i64 ((rd_T53 l0_1 a2).f3.f0), .int .i64 ((rd_T53 l0_1 a2).f3.f1), .slice A437_5 ((rd_T53 l0_1 a2).f3.f2).length c437_5]] (by rfl) rfl rfl ag ?_
     with_reducible refine (treenailref05_two.calls k _ _ l0_0 _ _ l0_1 ((rd_T53 l0_1 a2).f0) ((rd_T53 l0_1 a2).f1) ((rd_T53 l0_1 a2).f2) ((rd_T53 l0_1 a2).f3.f0) ((rd_T53 l0_1 a2).f3.f1) _ _ ((rd_T53 l0_1 a2).f3.f2) t438 _ ?side1 ?side2 ?side3 ?side4 ?side5 ?side6 A23.out).mono ?_
     (case side1 => exact cx (Kd.C_below HR0_0.out HB.out))
     (case side2 => exact HC0_0.out)
     (case side3 => exact cx (Kd.C_below HR0_1.out HB.out))
     (case side4 => exact HC0_1.out)
     (case side5 => exact cx (Kd.C_below HR437_5.out HB.out))
     (case side6 => exact HC437_5.out)
     rintro e w25 ⟨rfl, hb⟩
     refine ⟨_, rfl, ?_⟩
     replace BK434 := zm (kB (kx BK434.out) hb)
     replace HB := zm (below_step (bx HB.out) hb)
     (try clear hb)
     (try clear hb2)
     (try clear hk)
     (try clear hi)
     refine hK.out _ _ ⟨bc0 BK434.out, bc1 BK434.out, (cb HB.out hw437_0), (cb HB.out hw437_1), (cb HB.out hw437_2), (cb HB.out hw437_3), (cb HB.out hw437_4), (cb HB.out hw437_5)⟩ (fun hHeld => ?_)
     clear hK K
     refine norm_ (a' := ?_) ?_ ?_
     rotate_left
     ·show Act.put _ (some 60) _ = _
      simp only [Act.put, sS, sZ, sC, i64_w, i32_w]
      rfl
     refine pure_ (i := 17) (N := some 61) (v := ?_) (a' := ?_) #[Y,Y,Y,Y,Y,Y,Y,Y,Y,Y,Y,Y,Y,Y,Y,Y,Y,Y,Z,Z] rfl rfl (any_of HT_.out (by kernel_rfl)) (fun _ _ _ h => h) (Or.inl ⟨by rfl, ?_⟩) ?_ ?_
     rotate_left
     ·intro w'
      go_simp
      with_reducible rfl
     rotate_left
     ·simp only [Act.put, sS, sZ, sC, i64_w, i32_w]
      rfl
     refine pure_ (i := 18) (N := some 62) (v := ?_) (a' := ?_) #[Y,Y,Y,Y,Y,Y,Y,Y,Y,Y,Y,Y,Y,Y,Y,Y,Y,Y,Y,Z] rfl rfl (any_of HT_.out (by kernel_rfl)) (fun _ _ _ h => h) (Or.inl ⟨by rfl, ?_⟩) ?_ ?_
     rotate_left
     ·intro w'
      go_simp
      with_reducible rfl
     rotate_left
     ·simp only [Act.put, sS, sZ, sC, i64_w, i32_w]
      rfl
     refine pure_ (i := 19) (N := some 6) (v := ?_) (a' := ?_) #[Y,Y,Y,Y,Y,Y,Y,Y,Y,Y,Y,Y,Y,Y,Y,Y,Y,Y,Y,Y] rfl rfl (any_of HT_.out (by kernel_rfl)) (fun _ _ _ h => h) (Or.inl ⟨by rfl, ?_⟩) ?_ ?_
     rotate_left
     ·intro w'
      go_simp
      with_reducible rfl
     rotate_left
     ·simp only [Act.put, sS, sZ, sC, i64_w, i32_w]
      rfl
     refine done_ (done_of HT_.out (by kernel_rfl)) ?_
     try go_wp2
     go_ret
     exact ⟨xe, bx HB.out⟩
    rw [if_neg c22] at H
    exact absurd H (by simp)
   rw [if_neg c21] at H
   have c21b0 := decide_eq_false c21
   try (have c21b9 := c21b0; rw [hl444_4] at c21b9)
   try (have c21b9 := c21b0; rw [hl443_4] at c21b9)
   try (have c21b9 := c21b0; rw [hl442_4] at c21b9)
   try (have c21b9 := c21b0; rw [hl437_5] at c21b9)
   try (have c21b9 := c21b0; rw [hl435_4] at c21b9)
   clear c21
   obtain rfl := Option.some.inj H
   try go_wp2
   replace BK434 := zm (blk_drew BK434.out)
   replace HB := zm (below_drew1 HB.out)
   refine start_ (n := 20) (S := fun w' => w'.cell? ⟨gb434, 0, none⟩ = some (.slice A0_0 l0_0.length c0_0) ∧ w'.cell? ⟨gb434, 1, none⟩ = some (.slice A0_1 l0_1.length c0_1)) (ds := []) #[Z,Z,Z,Z,Z,Z,Z,Z,Z,Z,Z,Z,Z,Z,Z,Z,Z,Z,Z,Z] (by kernel_rfl) rfl rfl ⟨bc0 BK434.out, bc1 BK434.out⟩ (fun hHeld => ?_); refine with_tabW treenailref05_Is.tab7 treenailref05_Is.bits7 (fun HT_ HW_ => ?_)
   generalize w5.drew = w26 at BK434 HB hHeld ⊢
   refine pure_ (i := 0) (N := some 44) (v := ?_) (a' := ?_) #[Y,Z,Z,Z,Z,Z,Z,Z,Z,Z,Z,Z,Z,Z,Z,Z,Z,Z,Z,Z] rfl rfl (any_of HT_.out (by kernel_rfl)) (fun _ _ _ h => h) (Or.inl ⟨by rfl, ?_⟩) ?_ ?_
   rotate_left
   ·intro w'
    go_simp
    with_reducible rfl
   rotate_left
   ·simp only [Act.put, sS, sZ, sC, i64_w, i32_w]
    rfl
   refine pure_ (i := 1) (N := some 45) (v := ?_) (a' := ?_) #[Y,Y,Z,Z,Z,Z,Z,Z,Z,Z,Z,Z,Z,Z,Z,Z,Z,Z,Z,Z] rfl rfl (any_of HT_.out (by kernel_rfl)) (fun _ _ _ h => h) (Or.inl ⟨by rfl, ?_⟩) ?_ ?_
   rotate_left
   ·intro w'
    go_simp
    with_reducible rfl
   rotate_left
   ·simp only [Act.put, sS, sZ, sC, i64_w, i32_w]
    rfl
   refine pure_ (i := 2) (N := some 46) (v := ?_) (a' := ?_) #[Y,Y,Y,Z,Z,Z,Z,Z,Z,Z,Z,Z,Z,Z,Z,Z,Z,Z,Z,Z] rfl rfl (any_of HT_.out (by kernel_rfl)) (fun _ _ _ h => h) (Or.inl ⟨by rfl, ?_⟩) ?_ ?_
   rotate_left
   ·intro w'
    go_simp
    with_reducible rfl
   rotate_left
   ·simp only [Act.put, sS, sZ, sC, i64_w, i32_w]
    rfl
   refine pure_ (i := 3) (N := some 47) (v := ?_) (a' := ?_) #[Y,Y,Y,Y,Z,Z,Z,Z,Z,Z,Z,Z,Z,Z,Z,Z,Z,Z,Z,Z] rfl rfl (any_of HT_.out (by kernel_rfl)) (fun _ _ _ h => h) (Or.inl ⟨by rfl, ?_⟩) ?_ ?_
   rotate_left
   ·intro w'
    go_simp
    with_reducible rfl
   rotate_left
   ·simp only [Act.put, sS, sZ, sC, i64_w, i32_w]
    rfl
   refine pure_ (i := 4) (N := some 48) (v := ?_) (a' := ?_) #[Y,Y,Y,Y,Y,Z,Z,Z,Z,Z,Z,Z,Z,Z,Z,Z,Z,Z,Z,Z] rfl rfl (any_of HT_.out (by kernel_rfl)) (fun _ _ _ h => h) (Or.inl ⟨by rfl, ?_⟩) ?_ ?_
   rotate_left
   ·intro w'
    go_simp
    with_reducible rfl
   rotate_left
   ·simp only [Act.put, sS, sZ, sC, i64_w, i32_w]
    rfl
   refine take_ (i := 5) (N := some 49) (v := ?_) (a' := ?_) #[Y,Y,Y,Y,Y,Y,Z,Z,Z,Z,Z,Z,Z,Z,Z,Z,Z,Z,Z,Z] rfl rfl (take_ofW HT_.out HW_.out (by kernel_rfl)) (fun _ _ _ h => h) (Or.inl ⟨by rfl, ?_⟩) hHeld ?_ ?_
   rotate_left
   ·rintro w' ⟨s0, s1⟩
    go_simp
    with_reducible rfl
   rotate_left
   ·simp only [Act.put, sS, sZ, sC, i64_w, i32_w]
    rfl
   refine pure_ (i := 6) (N := some 50) (v := ?_) (a' := ?_) #[Y,Y,Y,Y,Y,Y,Y,Z,Z,Z,Z,Z,Z,Z,Z,Z,Z,Z,Z,Z] rfl rfl (any_of HT_.out (by kernel_rfl)) (fun _ _ _ h => h) (Or.inl ⟨by rfl, ?_⟩) ?_ ?_
   rotate_left
   ·intro w'
    go_simp
    with_reducible rfl
   rotate_left
   ·simp only [Act.put, sS, sZ, sC, i64_w, i32_w]
    rfl
   refine pure_ (i := 7) (N := some 51) (v := ?_) (a' := ?_) #[Y,Y,Y,Y,Y,Y,Y,Y,Z,Z,Z,Z,Z,Z,Z,Z,Z,Z,Z,Z] rfl rfl (any_of HT_.out (by kernel_rfl)) (fun _ _ _ h => h) (Or.inl ⟨by rfl, ?_⟩) ?_ ?_
   rotate_left
   ·intro w'
    go_simp
    with_reducible rfl
   rotate_left
   ·simp only [Act.put, sS, sZ, sC, i64_w, i32_w]
    rfl
   refine pure_ (i := 8) (N := some 52) (v := ?_) (a' := ?_) #[Y,Y,Y,Y,Y,Y,Y,Y,Y,Z,Z,Z,Z,Z,Z,Z,Z,Z,Z,Z] rfl rfl (any_of HT_.out (by kernel_rfl)) (fun _ _ _ h => h) (Or.inl ⟨by rfl, ?_⟩) ?_ ?_
   rotate_left
   ·intro w'
    go_simp
    with_reducible rfl
   rotate_left
   ·simp only [Act.put, sS, sZ, sC, i64_w, i32_w]
    rfl
   refine pure_ (i := 9) (N := some 53) (v := ?_) (a' := ?_) #[Y,Y,Y,Y,Y,Y,Y,Y,Y,Y,Z,Z,Z,Z,Z,Z,Z,Z,Z,Z] rfl rfl (any_of HT_.out (by kernel_rfl)) (fun _ _ _ h => h) (Or.inl ⟨by rfl, ?_⟩) ?_ ?_
   rotate_left
   ·intro w'
    go_simp
    with_reducible rfl
   rotate_left
   ·simp only [Act.put, sS, sZ, sC, i64_w, i32_w]
    rfl
   refine pure_ (i := 10) (N := some 54) (v := undef) (a' := ?_) #[Y,Y,Y,Y,Y,Y,Y,Y,Y,Y,Y,Z,Z,Z,Z,Z,Z,Z,Z,Z] rfl rfl (any_of HT_.out (by kernel_rfl)) (fun _ _ _ h => h) (Or.inr ⟨by rfl, rfl⟩) ?_ ?_
   rotate_left
   ·simp only [Act.put, sS, sZ, sC, i64_w, i32_w]
    rfl
   refine pure_ (i := 11) (N := some 55) (v := undef) (a' := ?_) #[Y,Y,Y,Y,Y,Y,Y,Y,Y,Y,Y,Y,Z,Z,Z,Z,Z,Z,Z,Z] rfl rfl (any_of HT_.out (by kernel_rfl)) (fun _ _ _ h => h) (Or.inr ⟨by rfl, rfl⟩) ?_ ?_
   rotate_left
   ·simp only [Act.put, sS, sZ, sC, i64_w, i32_w]
    rfl
   refine pure_ (i := 12) (N := some 56) (v := undef) (a' := ?_) #[Y,Y,Y,Y,Y,Y,Y,Y,Y,Y,Y,Y,Y,Z,Z,Z,Z,Z,Z,Z] rfl rfl (any_of HT_.out (by kernel_rfl)) (fun _ _ _ h => h) (Or.inr ⟨by rfl, rfl⟩) ?_ ?_
   rotate_left
   ·simp only [Act.put, sS, sZ, sC, i64_w, i32_w]
    rfl
   refine pure_ (i := 13) (N := some 57) (v := undef) (a' := ?_) #[Y,Y,Y,Y,Y,Y,Y,Y,Y,Y,Y,Y,Y,Y,Z,Z,Z,Z,Z,Z] rfl rfl (any_of HT_.out (by kernel_rfl)) (fun _ _ _ h => h) (Or.inr ⟨by rfl, rfl⟩) ?_ ?_
   rotate_left
   ·simp only [Act.put, sS, sZ, sC, i64_w, i32_w]
    rfl
   refine pure_ (i := 14) (N := some 58) (v := undef) (a' := ?_) #[Y,Y,Y,Y,Y,Y,Y,Y,Y,Y,Y,Y,Y,Y,Y,Z,Z,Z,Z,Z] rfl rfl (any_of HT_.out (by kernel_rfl)) (fun _ _ _ h => h) (Or.inr ⟨by rfl, rfl⟩) ?_ ?_
   rotate_left
   ·simp only [Act.put, sS, sZ, sC, i64_w, i32_w]
    rfl
   refine pure_ (i := 15) (N := some 59) (v := undef) (a' := ?_) #[Y,Y,Y,Y,Y,Y,Y,Y,Y,Y,Y,Y,Y,Y,Y,Y,Z,Z,Z,Z] rfl rfl (any_of HT_.out (by kernel_rfl)) (fun _ _ _ h => h) (Or.inr ⟨by rfl, rfl⟩) ?_ ?_
   rotate_left
   ·simp only [Act.put, sS, sZ, sC, i64_w, i32_w]
    rfl
   refine pure_ (i := 16) (N := some 60) (v := undef) (a' := ?_) #[Y,Y,Y,Y,Y,Y,Y,Y,Y,Y,Y,Y,Y,Y,Y,Y,Y,Z,Z,Z] rfl rfl (any_of HT_.out (by kernel_rfl)) (fun _ _ _ h => h) (Or.inr ⟨by rfl, rfl⟩) ?_ ?_
   rotate_left
   ·simp only [Act.put, sS, sZ, sC, i64_w, i32_w]
    rfl
   refine pure_ (i := 17) (N := some 61) (v := undef) (a' := ?_) #[Y,Y,Y,Y,Y,Y,Y,Y,Y,Y,Y,Y,Y,Y,Y,Y,Y,Y,Z,Z] rfl rfl (any_of HT_.out (by kernel_rfl)) (fun _ _ _ h => h) (Or.inr ⟨by rfl, rfl⟩) ?_ ?_
   rotate_left
   ·simp only [Act.put, sS, sZ, sC, i64_w, i32_w]
    rfl
   refine pure_ (i := 18) (N := some 62) (v := ?_) (a' := ?_) #[Y,Y,Y,Y,Y,Y,Y,Y,Y,Y,Y,Y,Y,Y,Y,Y,Y,Y,Y,Z] rfl rfl (any_of HT_.out (by kernel_rfl)) (fun _ _ _ h => h) (Or.inl ⟨by rfl, ?_⟩) ?_ ?_
   rotate_left
   ·intro w'
    go_simp
    with_reducible rfl
   rotate_left
   ·simp only [Act.put, sS, sZ, sC, i64_w, i32_w]
    rfl
   refine pure_ (i := 19) (N := some 6) (v := ?_) (a' := ?_) #[Y,Y,Y,Y,Y,Y,Y,Y,Y,Y,Y,Y,Y,Y,Y,Y,Y,Y,Y,Y] rfl rfl (any_of HT_.out (by kernel_rfl)) (fun _ _ _ h => h) (Or.inl ⟨by rfl, ?_⟩) ?_ ?_
   rotate_left
   ·intro w'
    go_simp
    with_reducible rfl
   rotate_left
   ·simp only [Act.put, sS, sZ, sC, i64_w, i32_w]
    rfl
   refine done_ (done_of HT_.out (by kernel_rfl)) ?_
   try go_wp2
   go_ret
   exact ⟨xe, bx HB.out⟩
  rw [if_neg c20] at H
  have c20b0 : decide (0 ≤ a2) = false := decide_eq_false c20
  clear c20
  obtain rfl := Option.some.inj H
  try go_wp2
  replace BK434 := zm (blk_drew BK434.out)
  replace HB := zm (below_drew1 HB.out)
  refine start_ (n := 20) (S := fun w' => True) (ds := []) #[Z,Z,Z,Z,Z,Z,Z,Z,Z,Z,Z,Z,Z,Z,Z,Z,Z,Z,Z,Z] (by kernel_rfl) rfl rfl trivial (fun hHeld => ?_); refine with_tabW treenailref05_Is.tab7 treenailref05_Is.bits7 (fun HT_ HW_ => ?_)
  generalize w5.drew = w27 at BK434 HB hHeld ⊢
  refine pure_ (i := 0) (N := some 44) (v := ?_) (a' := ?_) #[Y,Z,Z,Z,Z,Z,Z,Z,Z,Z,Z,Z,Z,Z,Z,Z,Z,Z,Z,Z] rfl rfl (any_of HT_.out (by kernel_rfl)) (fun _ _ _ h => h) (Or.inl ⟨by rfl, ?_⟩) ?_ ?_
  rotate_left
  ·intro w'
   go_simp
   with_reducible rfl
  rotate_left
  ·simp only [Act.put, sS, sZ, sC, i64_w, i32_w]
   rfl
  refine pure_ (i := 1) (N := some 45) (v := ?_) (a' := ?_) #[Y,Y,Z,Z,Z,Z,Z,Z,Z,Z,Z,Z,Z,Z,Z,Z,Z,Z,Z,Z] rfl rfl (any_of HT_.out (by kernel_rfl)) (fun _ _ _ h => h) (Or.inl ⟨by rfl, ?_⟩) ?_ ?_
  rotate_left
  ·intro w'
   go_simp
   with_reducible rfl
  rotate_left
  ·simp only [Act.put, sS, sZ, sC, i64_w, i32_w]
   rfl
  refine pure_ (i := 2) (N := some 46) (v := ?_) (a' := ?_) #[Y,Y,Y,Z,Z,Z,Z,Z,Z,Z,Z,Z,Z,Z,Z,Z,Z,Z,Z,Z] rfl rfl (any_of HT_.out (by kernel_rfl)) (fun _ _ _ h => h) (Or.inl ⟨by rfl, ?_⟩) ?_ ?_
  rotate_left
  ·intro w'
   go_simp
   with_reducible rfl
  rotate_left
  ·simp only [Act.put, sS, sZ, sC, i64_w, i32_w]
   rfl
  refine pure_ (i := 3) (N := some 47) (v := undef) (a' := ?_) #[Y,Y,Y,Y,Z,Z,Z,Z,Z,Z,Z,Z,Z,Z,Z,Z,Z,Z,Z,Z] rfl rfl (any_of HT_.out (by kernel_rfl)) (fun _ _ _ h => h) (Or.inr ⟨by rfl, rfl⟩) ?_ ?_
  rotate_left
  ·simp only [Act.put, sS, sZ, sC, i64_w, i32_w]
   rfl
  refine pure_ (i := 4) (N := some 48) (v := undef) (a' := ?_) #[Y,Y,Y,Y,Y,Z,Z,Z,Z,Z,Z,Z,Z,Z,Z,Z,Z,Z,Z,Z] rfl rfl (any_of HT_.out (by kernel_rfl)) (fun _ _ _ h => h) (Or.inr ⟨by rfl, rfl⟩) ?_ ?_
  rotate_left
  ·simp only [Act.put, sS, sZ, sC, i64_w, i32_w]
   rfl
  refine pure_ (i := 5) (N := some 49) (v := undef) (a' := ?_) #[Y,Y,Y,Y,Y,Y,Z,Z,Z,Z,Z,Z,Z,Z,Z,Z,Z,Z,Z,Z] rfl rfl (any_of HT_.out (by kernel_rfl)) (fun _ _ _ h => h) (Or.inr ⟨by rfl, rfl⟩) ?_ ?_
  rotate_left
  ·simp only [Act.put, sS, sZ, sC, i64_w, i32_w]
   rfl
  refine pure_ (i := 6) (N := some 50) (v := undef) (a' := ?_) #[Y,Y,Y,Y,Y,Y,Y,Z,Z,Z,Z,Z,Z,Z,Z,Z,Z,Z,Z,Z] rfl rfl (any_of HT_.out (by kernel_rfl)) (fun _ _ _ h => h) (Or.inr ⟨by rfl, rfl⟩) ?_ ?_
  rotate_left
  ·simp only [Act.put, sS, sZ, sC, i64_w, i32_w]
   rfl
  refine pure_ (i := 7) (N := some 51) (v := undef) (a' := ?_) #[Y,Y,Y,Y,Y,Y,Y,Y,Z,Z,Z,Z,Z,Z,Z,Z,Z,Z,Z,Z] rfl rfl (any_of HT_.out (by kernel_rfl)) (fun _ _ _ h => h) (Or.inr ⟨by rfl, rfl⟩) ?_ ?_
  rotate_left
  ·simp only [Act.put, sS, sZ, sC, i64_w, i32_w]
   rfl
  refine pure_ (i := 8) (N := some 52) (v := ?_) (a' := ?_) #[Y,Y,Y,Y,Y,Y,Y,Y,Y,Z,Z,Z,Z,Z,Z,Z,Z,Z,Z,Z] rfl rfl (any_of HT_.out (by kernel_rfl)) (fun _ _ _ h => h) (Or.inl ⟨by rfl, ?_⟩) ?_ ?_
  rotate_left
  ·intro w'
   go_simp
   with_reducible rfl
  rotate_left
  ·simp only [Act.put, sS, sZ, sC, i64_w, i32_w]
   rfl
  refine pure_ (i := 9) (N := some 53) (v := ?_) (a' := ?_) #[Y,Y,Y,Y,Y,Y,Y,Y,Y,Y,Z,Z,Z,Z,Z,Z,Z,Z,Z,Z] rfl rfl (any_of HT_.out (by kernel_rfl)) (fun _ _ _ h => h) (Or.inl ⟨by rfl, ?_⟩) ?_ ?_
  rotate_left
  ·intro w'
   go_simp
   with_reducible rfl
  rotate_left
  ·simp only [Act.put, sS, sZ, sC, i64_w, i32_w]
   rfl
  refine pure_ (i := 10) (N := some 54) (v := undef) (a' := ?_) #[Y,Y,Y,Y,Y,Y,Y,Y,Y,Y,Y,Z,Z,Z,Z,Z,Z,Z,Z,Z] rfl rfl (any_of HT_.out (by kernel_rfl)) (fun _ _ _ h => h) (Or.inr ⟨by rfl, rfl⟩) ?_ ?_
  rotate_left
  ·simp only [Act.put, sS, sZ, sC, i64_w, i32_w]
   rfl
  refine pure_ (i := 11) (N := some 55) (v := undef) (a' := ?_) #[Y,Y,Y,Y,Y,Y,Y,Y,Y,Y,Y,Y,Z,Z,Z,Z,Z,Z,Z,Z] rfl rfl (any_of HT_.out (by kernel_rfl)) (fun _ _ _ h => h) (Or.inr ⟨by rfl, rfl⟩) ?_ ?_
  rotate_left
  ·simp only [Act.put, sS, sZ, sC, i64_w, i32_w]
   rfl
  refine pure_ (i := 12) (N := some 56) (v := undef) (a' := ?_) #[Y,Y,Y,Y,Y,Y,Y,Y,Y,Y,Y,Y,Y,Z,Z,Z,Z,Z,Z,Z] rfl rfl (any_of HT_.out (by kernel_rfl)) (fun _ _ _ h => h) (Or.inr ⟨by rfl, rfl⟩) ?_ ?_
  rotate_left
  ·simp only [Act.put, sS, sZ, sC, i64_w, i32_w]
   rfl
  refine pure_ (i := 13) (N := some 57) (v := undef) (a' := ?_) #[Y,Y,Y,Y,Y,Y,Y,Y,Y,Y,Y,Y,Y,Y,Z,Z,Z,Z,Z,Z] rfl rfl (any_of HT_.out (by kernel_rfl)) (fun _ _ _ h => h) (Or.inr ⟨by rfl, rfl⟩) ?_ ?_
  rotate_left
  ·simp only [Act.put, sS, sZ, sC, i64_w, i32_w]
   rfl
  refine pure_ (i := 14) (N := some 58) (v := undef) (a' := ?_) #[Y,Y,Y,Y,Y,Y,Y,Y,Y,Y,Y,Y,Y,Y,Y,Z,Z,Z,Z,Z] rfl rfl (any_of HT_.out (by kernel_rfl)) (fun _ _ _ h => h) (Or.inr ⟨by rfl, rfl⟩) ?_ ?_
  rotate_left
  ·simp only [Act.put, sS, sZ, sC, i64_w, i32_w]
   rfl
  refine pure_ (i := 15) (N := some 59) (v := undef) (a' := ?_) #[Y,Y,Y,Y,Y,Y,Y,Y,Y,Y,Y,Y,Y,Y,Y,Y,Z,Z,Z,Z] rfl rfl (any_of HT_.out (by kernel_rfl)) (fun _ _ _ h => h) (Or.inr ⟨by rfl, rfl⟩) ?_ ?_
  rotate_left
  ·simp only [Act.put, sS, sZ, sC, i64_w, i32_w]
   rfl
  refine pure_ (i := 16) (N := some 60) (v := undef) (a' := ?_) #[Y,Y,Y,Y,Y,Y,Y,Y,Y,Y,Y,Y,Y,Y,Y,Y,Y,Z,Z,Z] rfl rfl (any_of HT_.out (by kernel_rfl)) (fun _ _ _ h => h) (Or.inr ⟨by rfl, rfl⟩) ?_ ?_
  rotate_left
  ·simp only [Act.put, sS, sZ, sC, i64_w, i32_w]
   rfl
  refine pure_ (i := 17) (N := some 61) (v := undef) (a' := ?_) #[Y,Y,Y,Y,Y,Y,Y,Y,Y,Y,Y,Y,Y,Y,Y,Y,Y,Y,Z,Z] rfl rfl (any_of HT_.out (by kernel_rfl)) (fun _ _ _ h => h) (Or.inr ⟨by rfl, rfl⟩) ?_ ?_
  rotate_left
  ·simp only [Act.put, sS, sZ, sC, i64_w, i32_w]
   rfl
  refine pure_ (i := 18) (N := some 62) (v := ?_) (a' := ?_) #[Y,Y,Y,Y,Y,Y,Y,Y,Y,Y,Y,Y,Y,Y,Y,Y,Y,Y,Y,Z] rfl rfl (any_of HT_.out (by kernel_rfl)) (fun _ _ _ h => h) (Or.inl ⟨by rfl, ?_⟩) ?_ ?_
  rotate_left
  ·intro w'
   go_simp
   with_reducible rfl
  rotate_left
  ·simp only [Act.put, sS, sZ, sC, i64_w, i32_w]
   rfl
  refine pure_ (i := 19) (N := some 6) (v := ?_) (a' := ?_) #[Y,Y,Y,Y,Y,Y,Y,Y,Y,Y,Y,Y,Y,Y,Y,Y,Y,Y,Y,Y] rfl rfl (any_of HT_.out (by kernel_rfl)) (fun _ _ _ h => h) (Or.inl ⟨by rfl, ?_⟩) ?_ ?_
  rotate_left
  ·intro w'
   go_simp
   with_reducible rfl
  rotate_left
  ·simp only [Act.put, sS, sZ, sC, i64_w, i32_w]
   rfl
  refine done_ (done_of HT_.out (by kernel_rfl)) ?_
  try go_wp2
  go_ret
  exact ⟨xe, bx HB.out⟩
 rw [if_neg c19] at H
 have c19b0 := beq_eq_false_iff_ne.mpr c19
 have c19b1 := bne_iff_ne.mpr c19
 by_cases c28 : a1 = 3
 ·rw [if_pos c28] at H
  have c28b0 := beq_iff_eq.mpr c28
  have c28b1 := bne_eq_false_iff_eq.mpr c28
  clear c28
  replace H := Option.bind_eq_some_iff.mp H
  obtain ⟨t439, A290, H⟩ := H
  have A29 := zm A290
  clear A290
  replace H := Option.bind_eq_some_iff.mp H
  obtain ⟨t440, A300, H⟩ := H
  replace H : (if a2 = (l0_0.length : Int) then (if t439 < 0 then (some true) else (some (decide (t440 < 0)))) else (if a2 ≥ 0 then (if a2 < (l0_0.length : Int) then ((treenailref05_three.f k l0_0 l0_1 a2).bind fun t441 => (if t441 = true then (if 0 ≤ a2 then (if ((rd_T37 l0_0 a2).f0) = 1 then (if a2 > t439 then (some true) else (if ((rd_T37 l0_0 a2).f0) = 2 then (some (decide (a2 > t440))) else (some false))) else (if ((rd_T37 l0_0 a2).f0) = 2 then (some (decide (a2 > t440))) else (some false))) else (none)) else (some true))) else (some false)) else (some false))) = some r := H
  have A30 := zm A300
  clear A300
  have HC31 := zm H
  clear H
  have hcz32_0 := bc0 BK434.out
  have hcz32_1 := bc1 BK434.out
  go_upto_if 73 with (first | ((with_reducible refine gate_callee (f := 23) rfl ?_); refine goesL_ (some 66) rfl rfl Tryd.func23 (by kernel_rfl) rfl #[.agg #[.slice A0_0 l0_0.length c0_0, .slice A0_1 l0_1.length c0_1], .int .i64 1] rfl ag ?_; (with_reducible refine (treenailref05_First.calls k _ _ l0_0 _ _ l0_1 1 t439 _ ?side1 HC0_0.out ?side3 HC0_1.out A29.out).mono ?_); (case side1 => exact cx (Kd.C_below HR0_0.out HB.out)); (case side3 => exact cx (Kd.C_below HR0_1.out HB.out)); rintro e w33 ⟨rfl, hb⟩; refine ⟨_, rfl, ?_⟩; replace BK434 := zm (kB (kx BK434.out) hb); replace HB := zm (below_step (bx HB.out) hb); (try clear hb); have hcz34_0 := bc0 BK434.out; have hcz34_1 := bc1 BK434.out) | ((with_reducible refine gate_callee (f := 23) rfl ?_); refine goesL_ (some 68) rfl rfl Tryd.func23 (by kernel_rfl) rfl #[.agg #[.slice A0_0 l0_0.length c0_0, .slice A0_1 l0_1.length c0_1], .int .i64 2] rfl ag ?_; (with_reducible refine (treenailref05_First.calls k _ _ l0_0 _ _ l0_1 2 t440 _ ?side1 HC0_0.out ?side3 HC0_1.out A30.out).mono ?_); (case side1 => exact cx (Kd.C_below HR0_0.out HB.out)); (case side3 => exact cx (Kd.C_below HR0_1.out HB.out)); rintro e w35 ⟨rfl, hb⟩; refine ⟨_, rfl, ?_⟩; replace BK434 := zm (kB (kx BK434.out) hb); replace HB := zm (below_step (bx HB.out) hb); (try clear hb); have hcz36_0 := bc0 BK434.out; have hcz36_1 := bc1 BK434.out))
  have H := HC31.out
  clear HC31
  by_cases c37 : a2 = (l0_0.length : Int)
  ·rw [if_pos c37] at H
   have c37b0 := beq_iff_eq.mpr c37
   have c37b1 := bne_eq_false_iff_eq.mpr c37
   clear c37
   (first | rw [c37b0] | (simp only [i64_w, i32_w]; rw [c37b0]) | rw [c37b1] | skip)
   by_cases c38 : t439 < 0
   ·rw [if_pos c38] at H
    have c38b0 := decide_eq_true c38
    clear c38
    obtain rfl := Option.some.inj H
    go_wp2
    go_ret
    exact ⟨xe, bx HB.out⟩
   rw [if_neg c38] at H
   have c38b0 := decide_eq_false c38
   clear c38
   obtain rfl := Option.some.inj H
   go_wp2
   go_ret
   exact ⟨xe, bx HB.out⟩
  rw [if_neg c37] at H
  have c37b0 := beq_eq_false_iff_ne.mpr c37
  have c37b1 := bne_iff_ne.mpr c37
  (first | rw [c37b0] | (simp only [i64_w, i32_w]; rw [c37b0]) | rw [c37b1] | skip)
  by_cases c39 : a2 ≥ 0
  ·rw [if_pos c39] at H
   have c39b0 : decide (0 ≤ a2) = true := decide_eq_true c39
   clear c39
   by_cases c40 : a2 < (l0_0.length : Int)
   ·rw [if_pos c40] at H
    have c40b0 := decide_eq_true c40
    clear c40
    replace H := Option.bind_eq_some_iff.mp H
    obtain ⟨t441, A410, H⟩ := H
    replace H : (if t441 = true then (if 0 ≤ a2 then (if ((rd_T37 l0_0 a2).f0) = 1 then (if a2 > t439 then (some true) else (if ((rd_T37 l0_0 a2).f0) = 2 then (some (decide (a2 > t440))) else (some false))) else (if ((rd_T37 l0_0 a2).f0) = 2 then (some (decide (a2 > t440))) else (some false))) else (none)) else (some true)) = some r := H
    have A41 := zm A410
    clear A410
    by_cases c42 : t441 = true
    ·subst c42
     rw [if_pos rfl] at H
     by_cases c43 : 0 ≤ a2
     ·rw [if_pos c43] at H
      have c43b0 := decide_eq_true c43
      clear c43
      by_cases c44 : ((rd_T37 l0_0 a2).f0) = 1
      ·rw [if_pos c44] at H
       have c44b0 := beq_iff_eq.mpr c44
       have c44b1 := bne_eq_false_iff_eq.mpr c44
       clear c44
       by_cases c45 : a2 > t439
       ·rw [if_pos c45] at H
        have c45b0 : decide (t439 < a2) = true := decide_eq_true c45
        clear c45
        obtain rfl := Option.some.inj H
        have hcz46_0 := bc0 BK434.out
        have hcz46_1 := bc1 BK434.out
        go_wp2_with (first | (go_at_call 30; (with_reducible refine (treenailref05_three.calls k _ _ l0_0 _ _ l0_1 a2 true _ ?side1 HC0_0.out ?side3 HC0_1.out A41.out).mono ?_); (case side1 => exact cx (Kd.C_below HR0_0.out HB.out)); (case side3 => exact cx (Kd.C_below HR0_1.out HB.out)); rintro e w47 ⟨rfl, hb⟩; replace BK434 := zm (kB (kx BK434.out) hb); replace HB := zm (below_step (bx HB.out) hb); (try clear hb); have hcz48_0 := bc0 BK434.out; have hcz48_1 := bc1 BK434.out; have p442 : 0 ≤ (a2 : Int) := od; have q442 : a2 < (l0_0.length : Int) := od; obtain ⟨ad442, A442_4, c442_4, e442, hx442_0, hx442_1, hx442_2, hx442_3, hx442_4, hl442_4, hi442_4⟩ := at_T37 HR0_0.out a2 p442 q442; cases e442; replace hx442_0 := cb HB.out hx442_0; replace hx442_1 := cb HB.out hx442_1; replace hx442_2 := cb HB.out hx442_2; replace hx442_3 := cb HB.out hx442_3; replace hx442_4 := cb HB.out hx442_4; have HR442_4 := zm hi442_4; have HC442_4 := zm hl442_4; clear hi442_4 hl442_4; replace p442 := eq_true p442; replace q442 := eq_true q442))
        go_ret
        exact ⟨xe, bx HB.out⟩
       rw [if_neg c45] at H
       have c45b0 : decide (t439 < a2) = false := decide_eq_false c45
       clear c45
       by_cases c49 : ((rd_T37 l0_0 a2).f0) = 2
       ·rw [if_pos c49] at H
        have c49b0 := beq_iff_eq.mpr c49
        have c49b1 := bne_eq_false_iff_eq.mpr c49
        clear c49
        obtain rfl := Option.some.inj H
        have hcz50_0 := bc0 BK434.out
        have hcz50_1 := bc1 BK434.out
        go_wp2_with (first | (go_at_call 30; (with_reducible refine (treenailref05_three.calls k _ _ l0_0 _ _ l0_1 a2 true _ ?side1 HC0_0.out ?side3 HC0_1.out A41.out).mono ?_); (case side1 => exact cx (Kd.C_below HR0_0.out HB.out)); (case side3 => exact cx (Kd.C_below HR0_1.out HB.out)); rintro e w51 ⟨rfl, hb⟩; replace BK434 := zm (kB (kx BK434.out) hb); replace HB := zm (below_step (bx HB.out) hb); (try clear hb); have hcz52_0 := bc0 BK434.out; have hcz52_1 := bc1 BK434.out; have p442 : 0 ≤ (a2 : Int) := od; have q442 : a2 < (l0_0.length : Int) := od; obtain ⟨ad442, A442_4, c442_4, e442, hx442_0, hx442_1, hx442_2, hx442_3, hx442_4, hl442_4, hi442_4⟩ := at_T37 HR0_0.out a2 p442 q442; cases e442; replace hx442_0 := cb HB.out hx442_0; replace hx442_1 := cb HB.out hx442_1; replace hx442_2 := cb HB.out hx442_2; replace hx442_3 := cb HB.out hx442_3; replace hx442_4 := cb HB.out hx442_4; have HR442_4 := zm hi442_4; have HC442_4 := zm hl442_4; clear hi442_4 hl442_4; replace p442 := eq_true p442; replace q442 := eq_true q442; have p443 : 0 ≤ (a2 : Int) := od; have q443 : a2 < (l0_0.length : Int) := od; obtain ⟨ad443, A443_4, c443_4, e443, hx443_0, hx443_1, hx443_2, hx443_3, hx443_4, hl443_4, hi443_4⟩ := at_T37 HR0_0.out a2 p443 q443; obtain rfl : ad442 = ad443 := (by injection e443); replace hx443_0 := cb HB.out hx443_0; replace hx443_1 := cb HB.out hx443_1; replace hx443_2 := cb HB.out hx443_2; replace hx443_3 := cb HB.out hx443_3; replace hx443_4 := cb HB.out hx443_4; have HR443_4 := zm hi443_4; have HC443_4 := zm hl443_4; clear hi443_4 hl443_4; replace p443 := eq_true p443; replace q443 := eq_true q443; have ea_ := Option.some.inj (hx442_4.symm.trans hx443_4); injection ea_ with ea_ en_ ec_; subst ea_; subst ec_; clear en_))
        go_ret
        exact ⟨xe, bx HB.out⟩
       rw [if_neg c49] at H
       have c49b0 := beq_eq_false_iff_ne.mpr c49
       have c49b1 := bne_iff_ne.mpr c49
       obtain rfl := Option.some.inj H
       have hcz53_0 := bc0 BK434.out
       have hcz53_1 := bc1 BK434.out
       go_wp2_with (first | (go_at_call 30; (with_reducible refine (treenailref05_three.calls k _ _ l0_0 _ _ l0_1 a2 true _ ?side1 HC0_0.out ?side3 HC0_1.out A41.out).mono ?_); (case side1 => exact cx (Kd.C_below HR0_0.out HB.out)); (case side3 => exact cx (Kd.C_below HR0_1.out HB.out)); rintro e w54 ⟨rfl, hb⟩; replace BK434 := zm (kB (kx BK434.out) hb); replace HB := zm (below_step (bx HB.out) hb); (try clear hb); have hcz55_0 := bc0 BK434.out; have hcz55_1 := bc1 BK434.out; have p442 : 0 ≤ (a2 : Int) := od; have q442 : a2 < (l0_0.length : Int) := od; obtain ⟨ad442, A442_4, c442_4, e442, hx442_0, hx442_1, hx442_2, hx442_3, hx442_4, hl442_4, hi442_4⟩ := at_T37 HR0_0.out a2 p442 q442; cases e442; replace hx442_0 := cb HB.out hx442_0; replace hx442_1 := cb HB.out hx442_1; replace hx442_2 := cb HB.out hx442_2; replace hx442_3 := cb HB.out hx442_3; replace hx442_4 := cb HB.out hx442_4; have HR442_4 := zm hi442_4; have HC442_4 := zm hl442_4; clear hi442_4 hl442_4; replace p442 := eq_true p442; replace q442 := eq_true q442; have p443 : 0 ≤ (a2 : Int) := od; have q443 : a2 < (l0_0.length : Int) := od; obtain ⟨ad443, A443_4, c443_4, e443, hx443_0, hx443_1, hx443_2, hx443_3, hx443_4, hl443_4, hi443_4⟩ := at_T37 HR0_0.out a2 p443 q443; obtain rfl : ad442 = ad443 := (by injection e443); replace hx443_0 := cb HB.out hx443_0; replace hx443_1 := cb HB.out hx443_1; replace hx443_2 := cb HB.out hx443_2; replace hx443_3 := cb HB.out hx443_3; replace hx443_4 := cb HB.out hx443_4; have HR443_4 := zm hi443_4; have HC443_4 := zm hl443_4; clear hi443_4 hl443_4; replace p443 := eq_true p443; replace q443 := eq_true q443; have ea_ := Option.some.inj (hx442_4.symm.trans hx443_4); injection ea_ with ea_ en_ ec_; subst ea_; subst ec_; clear en_))
       go_ret
       exact ⟨xe, bx HB.out⟩
      rw [if_neg c44] at H
      have c44b0 := beq_eq_false_iff_ne.mpr c44
      have c44b1 := bne_iff_ne.mpr c44
      by_cases c56 : ((rd_T37 l0_0 a2).f0) = 2
      ·rw [if_pos c56] at H
       have c56b0 := beq_iff_eq.mpr c56
       have c56b1 := bne_eq_false_iff_eq.mpr c56
       clear c56
       obtain rfl := Option.some.inj H
       have hcz57_0 := bc0 BK434.out
       have hcz57_1 := bc1 BK434.out
       go_wp2_with (first | (go_at_call 30; (with_reducible refine (treenailref05_three.calls k _ _ l0_0 _ _ l0_1 a2 true _ ?side1 HC0_0.out ?side3 HC0_1.out A41.out).mono ?_); (case side1 => exact cx (Kd.C_below HR0_0.out HB.out)); (case side3 => exact cx (Kd.C_below HR0_1.out HB.out)); rintro e w58 ⟨rfl, hb⟩; replace BK434 := zm (kB (kx BK434.out) hb); replace HB := zm (below_step (bx HB.out) hb); (try clear hb); have hcz59_0 := bc0 BK434.out; have hcz59_1 := bc1 BK434.out; have p442 : 0 ≤ (a2 : Int) := od; have q442 : a2 < (l0_0.length : Int) := od; obtain ⟨ad442, A442_4, c442_4, e442, hx442_0, hx442_1, hx442_2, hx442_3, hx442_4, hl442_4, hi442_4⟩ := at_T37 HR0_0.out a2 p442 q442; cases e442; replace hx442_0 := cb HB.out hx442_0; replace hx442_1 := cb HB.out hx442_1; replace hx442_2 := cb HB.out hx442_2; replace hx442_3 := cb HB.out hx442_3; replace hx442_4 := cb HB.out hx442_4; have HR442_4 := zm hi442_4; have HC442_4 := zm hl442_4; clear hi442_4 hl442_4; replace p442 := eq_true p442; replace q442 := eq_true q442; have p444 : 0 ≤ (a2 : Int) := od; have q444 : a2 < (l0_0.length : Int) := od; obtain ⟨ad444, A444_4, c444_4, e444, hx444_0, hx444_1, hx444_2, hx444_3, hx444_4, hl444_4, hi444_4⟩ := at_T37 HR0_0.out a2 p444 q444; obtain rfl : ad442 = ad444 := (by injection e444); replace hx444_0 := cb HB.out hx444_0; replace hx444_1 := cb HB.out hx444_1; replace hx444_2 := cb HB.out hx444_2; replace hx444_3 := cb HB.out hx444_3; replace hx444_4 := cb HB.out hx444_4; have HR444_4 := zm hi444_4; have HC444_4 := zm hl444_4; clear hi444_4 hl444_4; replace p444 := eq_true p444; replace q444 := eq_true q444; have ea_ := Option.some.inj (hx442_4.symm.trans hx444_4); injection ea_ with ea_ en_ ec_; subst ea_; subst ec_; clear en_))
       go_ret
       exact ⟨xe, bx HB.out⟩
      rw [if_neg c56] at H
      have c56b0 := beq_eq_false_iff_ne.mpr c56
      have c56b1 := bne_iff_ne.mpr c56
      obtain rfl := Option.some.inj H
      have hcz60_0 := bc0 BK434.out
      have hcz60_1 := bc1 BK434.out
      go_wp2_with (first | (go_at_call 30; (with_reducible refine (treenailref05_three.calls k _ _ l0_0 _ _ l0_1 a2 true _ ?side1 HC0_0.out ?side3 HC0_1.out A41.out).mono ?_); (case side1 => exact cx (Kd.C_below HR0_0.out HB.out)); (case side3 => exact cx (Kd.C_below HR0_1.out HB.out)); rintro e w61 ⟨rfl, hb⟩; replace BK434 := zm (kB (kx BK434.out) hb); replace HB := zm (below_step (bx HB.out) hb); (try clear hb); have hcz62_0 := bc0 BK434.out; have hcz62_1 := bc1 BK434.out; have p442 : 0 ≤ (a2 : Int) := od; have q442 : a2 < (l0_0.length : Int) := od; obtain ⟨ad442, A442_4, c442_4, e442, hx442_0, hx442_1, hx442_2, hx442_3, hx442_4, hl442_4, hi442_4⟩ := at_T37 HR0_0.out a2 p442 q442; cases e442; replace hx442_0 := cb HB.out hx442_0; replace hx442_1 := cb HB.out hx442_1; replace hx442_2 := cb HB.out hx442_2; replace hx442_3 := cb HB.out hx442_3; replace hx442_4 := cb HB.out hx442_4; have HR442_4 := zm hi442_4; have HC442_4 := zm hl442_4; clear hi442_4 hl442_4; replace p442 := eq_true p442; replace q442 := eq_true q442; have p444 : 0 ≤ (a2 : Int) := od; have q444 : a2 < (l0_0.length : Int) := od; obtain ⟨ad444, A444_4, c444_4, e444, hx444_0, hx444_1, hx444_2, hx444_3, hx444_4, hl444_4, hi444_4⟩ := at_T37 HR0_0.out a2 p444 q444; obtain rfl : ad442 = ad444 := (by injection e444); replace hx444_0 := cb HB.out hx444_0; replace hx444_1 := cb HB.out hx444_1; replace hx444_2 := cb HB.out hx444_2; replace hx444_3 := cb HB.out hx444_3; replace hx444_4 := cb HB.out hx444_4; have HR444_4 := zm hi444_4; have HC444_4 := zm hl444_4; clear hi444_4 hl444_4; replace p444 := eq_true p444; replace q444 := eq_true q444; have ea_ := Option.some.inj (hx442_4.symm.trans hx444_4); injection ea_ with ea_ en_ ec_; subst ea_; subst ec_; clear en_))
      go_ret
      exact ⟨xe, bx HB.out⟩
     rw [if_neg c43] at H
     exact absurd H (by simp)
    replace c42 := Bool.eq_false_iff.mpr c42
    subst c42
    rw [if_neg (show ¬ (false = true) by decide)] at H
    obtain rfl := Option.some.inj H
    have hcz63_0 := bc0 BK434.out
    have hcz63_1 := bc1 BK434.out
    go_wp2_with (first | (go_at_call 30; (with_reducible refine (treenailref05_three.calls k _ _ l0_0 _ _ l0_1 a2 false _ ?side1 HC0_0.out ?side3 HC0_1.out A41.out).mono ?_); (case side1 => exact cx (Kd.C_below HR0_0.out HB.out)); (case side3 => exact cx (Kd.C_below HR0_1.out HB.out)); rintro e w64 ⟨rfl, hb⟩; replace BK434 := zm (kB (kx BK434.out) hb); replace HB := zm (below_step (bx HB.out) hb); (try clear hb)))
    go_ret
    exact ⟨xe, bx HB.out⟩
   rw [if_neg c40] at H
   have c40b0 := decide_eq_false c40
   try (have c40b9 := c40b0; rw [hl444_4] at c40b9)
   try (have c40b9 := c40b0; rw [hl443_4] at c40b9)
   try (have c40b9 := c40b0; rw [hl442_4] at c40b9)
   try (have c40b9 := c40b0; rw [hl437_5] at c40b9)
   try (have c40b9 := c40b0; rw [hl435_4] at c40b9)
   clear c40
   obtain rfl := Option.some.inj H
   have hcz65_0 := bc0 BK434.out
   have hcz65_1 := bc1 BK434.out
   go_wp2
   go_ret
   exact ⟨xe, bx HB.out⟩
  rw [if_neg c39] at H
  have c39b0 : decide (0 ≤ a2) = false := decide_eq_false c39
  clear c39
  obtain rfl := Option.some.inj H
  go_wp2
  go_ret
  exact ⟨xe, bx HB.out⟩
 rw [if_neg c28] at H
 have c28b0 := beq_eq_false_iff_ne.mpr c28
 have c28b1 := bne_iff_ne.mpr c28
 by_cases c66 : a2 ≥ 0
 ·rw [if_pos c66] at H
  have c66b0 : decide (0 ≤ a2) = true := decide_eq_true c66
  clear c66
  by_cases c67 : a2 < (l0_0.length : Int)
  ·rw [if_pos c67] at H
   have c67b0 := decide_eq_true c67
   clear c67
   replace H := Option.bind_eq_some_iff.mp H
   obtain ⟨t445, A680, H⟩ := H
   have A68 := zm A680
   clear A680
   replace H := Option.bind_eq_some_iff.mp H
   obtain ⟨t446, A690, H⟩ := H
   replace H : (if 0 ≤ a2 then (if a2 < (t446.length : Int) then (if rdOf false t446 a2 = true then ((treenailref05_Reach.f k l0_0 l0_1 a2).bind fun t450 => ((treenailref05_First.f k l0_0 l0_1 2).bind fun t453 => (if 0 ≤ t453 then (if t453 < (t450.length : Int) then (some (!(rdOf false t450 t453))) else (none)) else (none)))) else (some true)) else (none)) else (none)) = some r := H
   have A69 := zm A690
   clear A690
   by_cases c70 : 0 ≤ a2
   ·rw [if_pos c70] at H
    have c70b0 := decide_eq_true c70
    clear c70
    by_cases c71 : a2 < (t446.length : Int)
    ·rw [if_pos c71] at H
     have c71b0 := decide_eq_true c71
     clear c71
     obtain ⟨bq72, hbq72⟩ : ∃ b_ : Bool, b_ = (rdOf false t446 a2) := ⟨_, rfl⟩
     replace H : (if bq72 = true then ((treenailref05_Reach.f k l0_0 l0_1 a2).bind fun t450 => ((treenailref05_First.f k l0_0 l0_1 2).bind fun t453 => (if 0 ≤ t453 then (if t453 < (t450.length : Int) then (some (!(rdOf false t450 t453))) else (none)) else (none)))) else (some true)) = some r := by rw [← hbq72] at H; exact H
     have Nbq72 := zm hbq72
     clear hbq72
     by_cases c73 : bq72 = true
     ·subst c73
      rw [if_pos rfl] at H
      replace H := Option.bind_eq_some_iff.mp H
      obtain ⟨t450, A740, H⟩ := H
      have A74 := zm A740
      clear A740
      replace H := Option.bind_eq_some_iff.mp H
      obtain ⟨t453, A750, H⟩ := H
      replace H : (if 0 ≤ t453 then (if t453 < (t450.length : Int) then (some (!(rdOf false t450 t453))) else (none)) else (none)) = some r := H
      have A75 := zm A750
      clear A750
      by_cases c76 : 0 ≤ t453
      ·rw [if_pos c76] at H
       have c76b0 := decide_eq_true c76
       clear c76
       by_cases c77 : t453 < (t450.length : Int)
       ·rw [if_pos c77] at H
        have c77b0 := decide_eq_true c77
        clear c77
        obtain rfl := Option.some.inj H
        try go_wp2
        replace BK434 := zm (blk_drew BK434.out)
        replace HB := zm (below_drew1 HB.out)
        refine start_ (n := 30) (S := fun w' => w'.cell? ⟨gb434, 0, none⟩ = some (.slice A0_0 l0_0.length c0_0) ∧ w'.cell? ⟨gb434, 1, none⟩ = some (.slice A0_1 l0_1.length c0_1)) (ds := []) #[Z,Z,Z,Z,Z,Z,Z,Z,Z,Z,Z,Z,Z,Z,Z,Z,Z,Z,Z,Z,Z,Z,Z,Z,Z,Z,Z,Z,Z,Z] (by kernel_rfl) rfl rfl ⟨bc0 BK434.out, bc1 BK434.out⟩ (fun hHeld => ?_); refine with_tabW treenailref05_Is.tab14 treenailref05_Is.bits14 (fun HT_ HW_ => ?_)
        generalize w5.drew = w78 at BK434 HB hHeld ⊢
        refine pure_ (i := 0) (N := some 123) (v := ?_) (a' := ?_) #[Y,Z,Z,Z,Z,Z,Z,Z,Z,Z,Z,Z,Z,Z,Z,Z,Z,Z,Z,Z,Z,Z,Z,Z,Z,Z,Z,Z,Z,Z] rfl rfl (any_of HT_.out (by kernel_rfl)) (fun _ _ _ h => h) (Or.inl ⟨by rfl, ?_⟩) ?_ ?_
        rotate_left
        ·intro w'
         go_simp
         with_reducible rfl
        rotate_left
        ·simp only [Act.put, sS, sZ, sC, i64_w, i32_w]
         rfl
        refine pure_ (i := 1) (N := some 124) (v := ?_) (a' := ?_) #[Y,Y,Z,Z,Z,Z,Z,Z,Z,Z,Z,Z,Z,Z,Z,Z,Z,Z,Z,Z,Z,Z,Z,Z,Z,Z,Z,Z,Z,Z] rfl rfl (any_of HT_.out (by kernel_rfl)) (fun _ _ _ h => h) (Or.inl ⟨by rfl, ?_⟩) ?_ ?_
        rotate_left
        ·intro w'
         go_simp
         with_reducible rfl
        rotate_left
        ·simp only [Act.put, sS, sZ, sC, i64_w, i32_w]
         rfl
        refine pure_ (i := 2) (N := some 125) (v := ?_) (a' := ?_) #[Y,Y,Y,Z,Z,Z,Z,Z,Z,Z,Z,Z,Z,Z,Z,Z,Z,Z,Z,Z,Z,Z,Z,Z,Z,Z,Z,Z,Z,Z] rfl rfl (any_of HT_.out (by kernel_rfl)) (fun _ _ _ h => h) (Or.inl ⟨by rfl, ?_⟩) ?_ ?_
        rotate_left
        ·intro w'
         go_simp
         with_reducible rfl
        rotate_left
        ·simp only [Act.put, sS, sZ, sC, i64_w, i32_w]
         rfl
        refine pure_ (i := 3) (N := some 126) (v := ?_) (a' := ?_) #[Y,Y,Y,Y,Z,Z,Z,Z,Z,Z,Z,Z,Z,Z,Z,Z,Z,Z,Z,Z,Z,Z,Z,Z,Z,Z,Z,Z,Z,Z] rfl rfl (any_of HT_.out (by kernel_rfl)) (fun _ _ _ h => h) (Or.inl ⟨by rfl, ?_⟩) ?_ ?_
        rotate_left
        ·intro w'
         go_simp
         with_reducible rfl
        rotate_left
        ·simp only [Act.put, sS, sZ, sC, i64_w, i32_w]
         rfl
        refine pure_ (i := 4) (N := some 127) (v := ?_) (a' := ?_) #[Y,Y,Y,Y,Y,Z,Z,Z,Z,Z,Z,Z,Z,Z,Z,Z,Z,Z,Z,Z,Z,Z,Z,Z,Z,Z,Z,Z,Z,Z] rfl rfl (any_of HT_.out (by kernel_rfl)) (fun _ _ _ h => h) (Or.inl ⟨by rfl, ?_⟩) ?_ ?_
        rotate_left
        ·intro w'
         go_simp
         with_reducible rfl
        rotate_left
        ·simp only [Act.put, sS, sZ, sC, i64_w, i32_w]
         rfl
        refine take_ (i := 5) (N := some 128) (v := ?_) (a' := ?_) #[Y,Y,Y,Y,Y,Y,Z,Z,Z,Z,Z,Z,Z,Z,Z,Z,Z,Z,Z,Z,Z,Z,Z,Z,Z,Z,Z,Z,Z,Z] rfl rfl (take_ofW HT_.out HW_.out (by kernel_rfl)) (fun _ _ _ h => h) (Or.inl ⟨by rfl, ?_⟩) hHeld ?_ ?_
        rotate_left
        ·rintro w' ⟨s0, s1⟩
         go_simp
         with_reducible rfl
        rotate_left
        ·simp only [Act.put, sS, sZ, sC, i64_w, i32_w]
         rfl
        refine pure_ (i := 6) (N := some 129) (v := ?_) (a' := ?_) #[Y,Y,Y,Y,Y,Y,Y,Z,Z,Z,Z,Z,Z,Z,Z,Z,Z,Z,Z,Z,Z,Z,Z,Z,Z,Z,Z,Z,Z,Z] rfl rfl (any_of HT_.out (by kernel_rfl)) (fun _ _ _ h => h) (Or.inl ⟨by rfl, ?_⟩) ?_ ?_
        rotate_left
        ·intro w'
         go_simp
         with_reducible rfl
        rotate_left
        ·simp only [Act.put, sS, sZ, sC, i64_w, i32_w]
         rfl
        refine pure_ (i := 7) (N := some 130) (v := ?_) (a' := ?_) #[Y,Y,Y,Y,Y,Y,Y,Y,Z,Z,Z,Z,Z,Z,Z,Z,Z,Z,Z,Z,Z,Z,Z,Z,Z,Z,Z,Z,Z,Z] rfl rfl (any_of HT_.out (by kernel_rfl)) (fun _ _ _ h => h) (Or.inl ⟨by rfl, ?_⟩) ?_ ?_
        rotate_left
        ·intro w'
         go_simp
         with_reducible rfl
        rotate_left
        ·simp only [Act.put, sS, sZ, sC, i64_w, i32_w]
         rfl
        refine pure_ (i := 8) (N := some 131) (v := ?_) (a' := ?_) #[Y,Y,Y,Y,Y,Y,Y,Y,Y,Z,Z,Z,Z,Z,Z,Z,Z,Z,Z,Z,Z,Z,Z,Z,Z,Z,Z,Z,Z,Z] rfl rfl (any_of HT_.out (by kernel_rfl)) (fun _ _ _ h => h) (Or.inl ⟨by rfl, ?_⟩) ?_ ?_
        rotate_left
        ·intro w'
         go_simp
         with_reducible rfl
        rotate_left
        ·simp only [Act.put, sS, sZ, sC, i64_w, i32_w]
         rfl
        refine pure_ (i := 9) (N := some 132) (v := ?_) (a' := ?_) #[Y,Y,Y,Y,Y,Y,Y,Y,Y,Y,Z,Z,Z,Z,Z,Z,Z,Z,Z,Z,Z,Z,Z,Z,Z,Z,Z,Z,Z,Z] rfl rfl (any_of HT_.out (by kernel_rfl)) (fun _ _ _ h => h) (Or.inl ⟨by rfl, ?_⟩) ?_ ?_
        rotate_left
        ·intro w'
         go_simp
         with_reducible rfl
        rotate_left
        ·simp only [Act.put, sS, sZ, sC, i64_w, i32_w]
         rfl
        refine pure_ (i := 14) (N := some 137) (v := ?_) (a' := ?_) #[Y,Y,Y,Y,Y,Y,Y,Y,Y,Y,Z,Z,Z,Z,Y,Z,Z,Z,Z,Z,Z,Z,Z,Z,Z,Z,Z,Z,Z,Z] rfl rfl (any_of HT_.out (by kernel_rfl)) (fun _ _ _ h => h) (Or.inl ⟨by rfl, ?_⟩) ?_ ?_
        rotate_left
        ·intro w'
         go_simp
         with_reducible rfl
        rotate_left
        ·simp only [Act.put, sS, sZ, sC, i64_w, i32_w]
         rfl
        refine take_ (i := 10) (N := some 133) (v := ?_) (a' := ?_) #[Y,Y,Y,Y,Y,Y,Y,Y,Y,Y,Y,Z,Z,Z,Y,Z,Z,Z,Z,Z,Z,Z,Z,Z,Z,Z,Z,Z,Z,Z] rfl rfl (take_ofW HT_.out HW_.out (by kernel_rfl)) (fun _ _ _ h => h) (Or.inl ⟨by rfl, ?_⟩) hHeld ?_ ?_
        rotate_left
        ·rintro w' ⟨s0, s1⟩
         go_simp
         with_reducible rfl
        rotate_left
        ·simp only [Act.put, sS, sZ, sC, i64_w, i32_w]
         rfl
        refine take_ (i := 11) (N := some 134) (v := ?_) (a' := ?_) #[Y,Y,Y,Y,Y,Y,Y,Y,Y,Y,Y,Y,Z,Z,Y,Z,Z,Z,Z,Z,Z,Z,Z,Z,Z,Z,Z,Z,Z,Z] rfl rfl (take_ofW HT_.out HW_.out (by kernel_rfl)) (fun _ _ _ h => h) (Or.inl ⟨by rfl, ?_⟩) hHeld ?_ ?_
        rotate_left
        ·rintro w' ⟨s0, s1⟩
         go_simp
         with_reducible rfl
        rotate_left
        ·simp only [Act.put, sS, sZ, sC, i64_w, i32_w]
         rfl
        refine one_ (i := 12) (N := some 135) #[Y,Y,Y,Y,Y,Y,Y,Y,Y,Y,Y,Y,Y,Z,Y,Z,Z,Z,Z,Z,Z,Z,Z,Z,Z,Z,Z,Z,Z,Z] rfl rfl (one_of HT_.out (by kernel_rfl)) (by decide) (fun K hK => ?_)
        refine goes_ Tryd.func23 (by kernel_rfl) rfl #[.agg #[.slice A0_0 l0_0.length c0_0, .slice A0_1 l0_1.length c0_1], .int .i64 1] (by rfl) rfl rfl ag ?_
        with_reducible refine (treenailref05_First.calls k _ _ l0_0 _ _ l0_1 1 t445 _ ?side1 ?side2 ?side3 ?side4 A68.out).mono ?_
        (case side1 => exact cx (Kd.C_below HR0_0.out HB.out))
        (case side2 => exact HC0_0.out)
        (case side3 => exact cx (Kd.C_below HR0_1.out HB.out))
        (case side4 => exact HC0_1.out)
        rintro e w79 ⟨rfl, hb⟩
        refine ⟨_, rfl, ?_⟩
        replace BK434 := zm (kB (kx BK434.out) hb)
        replace HB := zm (below_step (bx HB.out) hb)
        (try clear hb)
        (try clear hb2)
        (try clear hk)
        (try clear hi)
        refine hK.out _ _ ⟨bc0 BK434.out, bc1 BK434.out⟩ (fun hHeld => ?_)
        clear hK K
        refine norm_ (a' := ?_) ?_ ?_
        rotate_left
        ·show Act.put _ (some 135) _ = _
         simp only [Act.put, sS, sZ, sC, i64_w, i32_w]
         rfl
        refine one_ (i := 13) (N := some 136) #[Y,Y,Y,Y,Y,Y,Y,Y,Y,Y,Y,Y,Y,Y,Y,Z,Z,Z,Z,Z,Z,Z,Z,Z,Z,Z,Z,Z,Z,Z] rfl rfl (one_of HT_.out (by kernel_rfl)) (by decide) (fun K hK => ?_)
        refine goes_ Tryd.func17 (by kernel_rfl) rfl #[.agg #[.slice A0_0 l0_0.length c0_0, .slice A0_1 l0_1.length c0_1], .int .i64 t445] (by rfl) rfl rfl ag ?_
        with_reducible refine (treenailref05_Reach.calls k _ _ l0_0 _ _ l0_1 t445 t446 _ ?side1 ?side2 ?side3 ?side4 A69.out).mono ?_
        (case side1 => exact cx (Kd.C_below HR0_0.out HB.out))
        (case side2 => exact HC0_0.out)
        (case side3 => exact cx (Kd.C_below HR0_1.out HB.out))
        (case side4 => exact HC0_1.out)
        rintro e w80 ⟨v447, rfl, ho0, hb⟩
        refine ⟨_, rfl, ?_⟩
        have HO448 := zm (Kd.R_lower ho0 (below_size (bx HB.out)))
        replace BK434 := zm (kB (kx BK434.out) hb)
        replace HB := zm (below_step (bx HB.out) hb)
        (try clear hb)
        (try clear hb2)
        (try clear hk)
        (try clear hi)
        (try clear ho0)
        obtain ⟨Ao81, co81, eo81⟩ := Kd.R_slice HO448.out
        (first | subst eo81 | (injection eo81 with f1_ f2_ f3_; have f4_ := f1_.symm; have f5_ := f3_.symm; clear f1_ f2_ f3_; subst f4_; subst f5_))
        have p449 : 0 ≤ (a2 : Int) := od
        have q449 : a2 < (t446.length : Int) := od
        obtain ⟨ad449, e449, hx449_0⟩ := Kd.at_bool (Kd.R_reads' HO448.out).2.2 a2 p449 q449
        (try rw [← Nbq72.out] at hx449_0)
        (try rw [← Nbq72.out] at hw449_0)
        cases e449
        replace p449 := eq_true p449
        replace q449 := eq_true q449
        refine hK.out _ _ ⟨bc0 BK434.out, bc1 BK434.out⟩ (fun hHeld => ?_)
        clear hK K
        refine norm_ (a' := ?_) ?_ ?_
        rotate_left
        ·show Act.put _ (some 136) _ = _
         simp only [Act.put, sS, sZ, sC, i64_w, i32_w]
         rfl
        refine pure_ (i := 15) (N := some 138) (v := ?_) (a' := ?_) #[Y,Y,Y,Y,Y,Y,Y,Y,Y,Y,Y,Y,Y,Y,Y,Y,Z,Z,Z,Z,Z,Z,Z,Z,Z,Z,Z,Z,Z,Z] rfl rfl (any_of HT_.out (by kernel_rfl)) (fun _ _ _ h => h) (Or.inl ⟨by rfl, ?_⟩) ?_ ?_
        rotate_left
        ·intro w'
         go_simp
         with_reducible rfl
        rotate_left
        ·simp only [Act.put, sS, sZ, sC, i64_w, i32_w]
         rfl
        refine one_ (i := 16) (N := some 139) #[Y,Y,Y,Y,Y,Y,Y,Y,Y,Y,Y,Y,Y,Y,Y,Y,Y,Z,Z,Z,Z,Z,Z,Z,Z,Z,Z,Z,Z,Z] rfl rfl (one_of HT_.out (by kernel_rfl)) (by decide) (fun K hK => ?_)
        skip
        refine value_ (w1 := ?_) (v := ?_) (by rfl) rfl ?_ ?_
        rotate_left 2
        ·go_simp
         constructor
         ·rfl
         rfl
        skip
        refine hK.out _ _ ⟨bc0 BK434.out, bc1 BK434.out⟩ (fun hHeld => ?_)
        clear hK K
        refine norm_ (a' := ?_) ?_ ?_
        rotate_left
        ·show Act.put _ (some 139) _ = _
         simp only [Act.put, sS, sZ, sC, i64_w, i32_w]
         rfl
        refine pure_ (i := 17) (N := some 140) (v := ?_) (a' := ?_) #[Y,Y,Y,Y,Y,Y,Y,Y,Y,Y,Y,Y,Y,Y,Y,Y,Y,Y,Z,Z,Z,Z,Z,Z,Z,Z,Z,Z,Z,Z] rfl rfl (any_of HT_.out (by kernel_rfl)) (fun _ _ _ h => h) (Or.inl ⟨by rfl, ?_⟩) ?_ ?_
        rotate_left
        ·intro w'
         go_simp
         with_reducible rfl
        rotate_left
        ·simp only [Act.put, sS, sZ, sC, i64_w, i32_w]
         rfl
        refine pure_ (i := 18) (N := some 141) (v := ?_) (a' := ?_) #[Y,Y,Y,Y,Y,Y,Y,Y,Y,Y,Y,Y,Y,Y,Y,Y,Y,Y,Y,Z,Z,Z,Z,Z,Z,Z,Z,Z,Z,Z] rfl rfl (any_of HT_.out (by kernel_rfl)) (fun _ _ _ h => h) (Or.inl ⟨by rfl, ?_⟩) ?_ ?_
        rotate_left
        ·intro w'
         go_simp
         with_reducible rfl
        rotate_left
        ·simp only [Act.put, sS, sZ, sC, i64_w, i32_w]
         rfl
        refine pure_ (i := 20) (N := some 143) (v := ?_) (a' := ?_) #[Y,Y,Y,Y,Y,Y,Y,Y,Y,Y,Y,Y,Y,Y,Y,Y,Y,Y,Y,Z,Y,Z,Z,Z,Z,Z,Z,Z,Z,Z] rfl rfl (any_of HT_.out (by kernel_rfl)) (fun _ _ _ h => h) (Or.inl ⟨by rfl, ?_⟩) ?_ ?_
        rotate_left
        ·intro w'
         go_simp
         with_reducible rfl
        rotate_left
        ·simp only [Act.put, sS, sZ, sC, i64_w, i32_w]
         rfl
        refine take_ (i := 19) (N := some 142) (v := ?_) (a' := ?_) #[Y,Y,Y,Y,Y,Y,Y,Y,Y,Y,Y,Y,Y,Y,Y,Y,Y,Y,Y,Y,Y,Z,Z,Z,Z,Z,Z,Z,Z,Z] rfl rfl (take_ofW HT_.out HW_.out (by kernel_rfl)) (fun _ _ _ h => h) (Or.inl ⟨by rfl, ?_⟩) hHeld ?_ ?_
        rotate_left
        ·rintro w' ⟨s0, s1⟩
         go_simp
         with_reducible rfl
        rotate_left
        ·simp only [Act.put, sS, sZ, sC, i64_w, i32_w]
         rfl
        refine take_ (i := 22) (N := some 145) (v := ?_) (a' := ?_) #[Y,Y,Y,Y,Y,Y,Y,Y,Y,Y,Y,Y,Y,Y,Y,Y,Y,Y,Y,Y,Y,Z,Y,Z,Z,Z,Z,Z,Z,Z] rfl rfl (take_ofW HT_.out HW_.out (by kernel_rfl)) (fun _ _ _ h => h) (Or.inl ⟨by rfl, ?_⟩) hHeld ?_ ?_
        rotate_left
        ·rintro w' ⟨s0, s1⟩
         go_simp
         with_reducible rfl
        rotate_left
        ·simp only [Act.put, sS, sZ, sC, i64_w, i32_w]
         rfl
        refine one_ (i := 21) (N := some 144) #[Y,Y,Y,Y,Y,Y,Y,Y,Y,Y,Y,Y,Y,Y,Y,Y,Y,Y,Y,Y,Y,Y,Y,Z,Z,Z,Z,Z,Z,Z] rfl rfl (one_of HT_.out (by kernel_rfl)) (by decide) (fun K hK => ?_)
        refine goes_ Tryd.func17 (by kernel_rfl) rfl #[.agg #[.slice A0_0 l0_0.length c0_0, .slice A0_1 l0_1.length c0_1], .int .i64 a2] (by rfl) rfl rfl ag ?_
        with_reducible refine (treenailref05_Reach.calls k _ _ l0_0 _ _ l0_1 a2 t450 _ ?side1 ?side2 ?side3 ?side4 A74.out).mono ?_
        (case side1 => exact cx (Kd.C_below HR0_0.out HB.out))
        (case side2 => exact HC0_0.out)
        (case side3 => exact cx (Kd.C_below HR0_1.out HB.out))
        (case side4 => exact HC0_1.out)
        rintro e w82 ⟨v451, rfl, ho0, hb⟩
        refine ⟨_, rfl, ?_⟩
        have HO452 := zm (Kd.R_lower (Kd.R_new' ho0 (Kd.R_lt (rx HO448.out))) (below_size (bx HB.out)))
        replace HO448 := zm (Kd.R_elder' (rx HO448.out) (by first | exact Kd.R_base ho0 | exact Kd.N_base ho0 | exact Kd.S_base ho0 | exact Kd.R_base ho0) hb)
        replace BK434 := zm (kB (kx BK434.out) hb)
        replace HB := zm (below_step (bx HB.out) hb)
        (try clear hb)
        (try clear hb2)
        (try clear hk)
        (try clear hi)
        (try clear ho0)
        refine hK.out _ _ ⟨bc0 BK434.out, bc1 BK434.out⟩ (fun hHeld => ?_)
        clear hK K
        refine norm_ (a' := ?_) ?_ ?_
        rotate_left
        ·show Act.put _ (some 144) _ = _
         simp only [Act.put, sS, sZ, sC, i64_w, i32_w]
         rfl
        refine one_ (i := 23) (N := some 146) #[Y,Y,Y,Y,Y,Y,Y,Y,Y,Y,Y,Y,Y,Y,Y,Y,Y,Y,Y,Y,Y,Y,Y,Y,Z,Z,Z,Z,Z,Z] rfl rfl (one_of HT_.out (by kernel_rfl)) (by decide) (fun K hK => ?_)
        refine goes_ Tryd.func23 (by kernel_rfl) rfl #[.agg #[.slice A0_0 l0_0.length c0_0, .slice A0_1 l0_1.length c0_1], .int .i64 2] (by rfl) rfl rfl ag ?_
        with_reducible refine (treenailref05_First.calls k _ _ l0_0 _ _ l0_1 2 t453 _ ?side1 ?side2 ?side3 ?side4 A75.out).mono ?_
        (case side1 => exact cx (Kd.C_below HR0_0.out HB.out))
        (case side2 => exact HC0_0.out)
        (case side3 => exact cx (Kd.C_below HR0_1.out HB.out))
        (case side4 => exact HC0_1.out)
        rintro e w83 ⟨rfl, hb⟩
        refine ⟨_, rfl, ?_⟩
        replace HO448 := zm (Kd.R_below (rx HO448.out) hb)
        replace HO452 := zm (Kd.R_below (rx HO452.out) hb)
        replace BK434 := zm (kB (kx BK434.out) hb)
        replace HB := zm (below_step (bx HB.out) hb)
        (try clear hb)
        (try clear hb2)
        (try clear hk)
        (try clear hi)
        obtain ⟨Ao84, co84, eo84⟩ := Kd.R_slice HO452.out
        (first | subst eo84 | (injection eo84 with f1_ f2_ f3_; have f4_ := f1_.symm; have f5_ := f3_.symm; clear f1_ f2_ f3_; subst f4_; subst f5_))
        have p454 : 0 ≤ (t453 : Int) := od
        have q454 : t453 < (t450.length : Int) := od
        obtain ⟨ad454, e454, hx454_0⟩ := Kd.at_bool (Kd.R_reads' HO452.out).2.2 t453 p454 q454
        (try rw [← Nbq72.out] at hx454_0)
        (try rw [← Nbq72.out] at hw454_0)
        cases e454
        replace p454 := eq_true p454
        replace q454 := eq_true q454
        refine hK.out _ _ ⟨bc0 BK434.out, bc1 BK434.out⟩ (fun hHeld => ?_)
        clear hK K
        refine norm_ (a' := ?_) ?_ ?_
        rotate_left
        ·show Act.put _ (some 146) _ = _
         simp only [Act.put, sS, sZ, sC, i64_w, i32_w]
         rfl
        refine pure_ (i := 24) (N := some 147) (v := ?_) (a' := ?_) #[Y,Y,Y,Y,Y,Y,Y,Y,Y,Y,Y,Y,Y,Y,Y,Y,Y,Y,Y,Y,Y,Y,Y,Y,Y,Z,Z,Z,Z,Z] rfl rfl (any_of HT_.out (by kernel_rfl)) (fun _ _ _ h => h) (Or.inl ⟨by rfl, ?_⟩) ?_ ?_
        rotate_left
        ·intro w'
         go_simp
         with_reducible rfl
        rotate_left
        ·simp only [Act.put, sS, sZ, sC, i64_w, i32_w]
         rfl
        refine one_ (i := 25) (N := some 148) #[Y,Y,Y,Y,Y,Y,Y,Y,Y,Y,Y,Y,Y,Y,Y,Y,Y,Y,Y,Y,Y,Y,Y,Y,Y,Y,Z,Z,Z,Z] rfl rfl (one_of HT_.out (by kernel_rfl)) (by decide) (fun K hK => ?_)
        skip
        refine value_ (w1 := ?_) (v := ?_) (by rfl) rfl ?_ ?_
        rotate_left 2
        ·go_simp
         constructor
         ·rfl
         rfl
        skip
        refine hK.out _ _ ⟨bc0 BK434.out, bc1 BK434.out⟩ (fun hHeld => ?_)
        clear hK K
        refine norm_ (a' := ?_) ?_ ?_
        rotate_left
        ·show Act.put _ (some 148) _ = _
         simp only [Act.put, sS, sZ, sC, i64_w, i32_w]
         rfl
        refine pure_ (i := 26) (N := some 149) (v := ?_) (a' := ?_) #[Y,Y,Y,Y,Y,Y,Y,Y,Y,Y,Y,Y,Y,Y,Y,Y,Y,Y,Y,Y,Y,Y,Y,Y,Y,Y,Y,Z,Z,Z] rfl rfl (any_of HT_.out (by kernel_rfl)) (fun _ _ _ h => h) (Or.inl ⟨by rfl, ?_⟩) ?_ ?_
        rotate_left
        ·intro w'
         go_simp
         with_reducible rfl
        rotate_left
        ·simp only [Act.put, sS, sZ, sC, i64_w, i32_w]
         rfl
        refine pure_ (i := 27) (N := some 150) (v := ?_) (a' := ?_) #[Y,Y,Y,Y,Y,Y,Y,Y,Y,Y,Y,Y,Y,Y,Y,Y,Y,Y,Y,Y,Y,Y,Y,Y,Y,Y,Y,Y,Z,Z] rfl rfl (any_of HT_.out (by kernel_rfl)) (fun _ _ _ h => h) (Or.inl ⟨by rfl, ?_⟩) ?_ ?_
        rotate_left
        ·intro w'
         go_simp
         with_reducible rfl
        rotate_left
        ·simp only [Act.put, sS, sZ, sC, i64_w, i32_w]
         rfl
        refine pure_ (i := 28) (N := some 151) (v := ?_) (a' := ?_) #[Y,Y,Y,Y,Y,Y,Y,Y,Y,Y,Y,Y,Y,Y,Y,Y,Y,Y,Y,Y,Y,Y,Y,Y,Y,Y,Y,Y,Y,Z] rfl rfl (any_of HT_.out (by kernel_rfl)) (fun _ _ _ h => h) (Or.inl ⟨by rfl, ?_⟩) ?_ ?_
        rotate_left
        ·intro w'
         go_simp
         with_reducible rfl
        rotate_left
        ·simp only [Act.put, sS, sZ, sC, i64_w, i32_w]
         rfl
        refine pure_ (i := 29) (N := some 6) (v := ?_) (a' := ?_) #[Y,Y,Y,Y,Y,Y,Y,Y,Y,Y,Y,Y,Y,Y,Y,Y,Y,Y,Y,Y,Y,Y,Y,Y,Y,Y,Y,Y,Y,Y] rfl rfl (any_of HT_.out (by kernel_rfl)) (fun _ _ _ h => h) (Or.inl ⟨by rfl, ?_⟩) ?_ ?_
        rotate_left
        ·intro w'
         go_simp
         with_reducible rfl
        rotate_left
        ·simp only [Act.put, sS, sZ, sC, i64_w, i32_w]
         rfl
        refine done_ (done_of HT_.out (by kernel_rfl)) ?_
        try go_wp2
        go_ret
        exact ⟨xe, bx HB.out⟩
       rw [if_neg c77] at H
       exact absurd H (by simp)
      rw [if_neg c76] at H
      exact absurd H (by simp)
     replace c73 := Bool.eq_false_iff.mpr c73
     subst c73
     rw [if_neg (show ¬ (false = true) by decide)] at H
     obtain rfl := Option.some.inj H
     try go_wp2
     replace BK434 := zm (blk_drew BK434.out)
     replace HB := zm (below_drew1 HB.out)
     refine start_ (n := 30) (S := fun w' => w'.cell? ⟨gb434, 0, none⟩ = some (.slice A0_0 l0_0.length c0_0) ∧ w'.cell? ⟨gb434, 1, none⟩ = some (.slice A0_1 l0_1.length c0_1)) (ds := []) #[Z,Z,Z,Z,Z,Z,Z,Z,Z,Z,Z,Z,Z,Z,Z,Z,Z,Z,Z,Z,Z,Z,Z,Z,Z,Z,Z,Z,Z,Z] (by kernel_rfl) rfl rfl ⟨bc0 BK434.out, bc1 BK434.out⟩ (fun hHeld => ?_); refine with_tabW treenailref05_Is.tab14 treenailref05_Is.bits14 (fun HT_ HW_ => ?_)
     generalize w5.drew = w85 at BK434 HB hHeld ⊢
     refine pure_ (i := 0) (N := some 123) (v := ?_) (a' := ?_) #[Y,Z,Z,Z,Z,Z,Z,Z,Z,Z,Z,Z,Z,Z,Z,Z,Z,Z,Z,Z,Z,Z,Z,Z,Z,Z,Z,Z,Z,Z] rfl rfl (any_of HT_.out (by kernel_rfl)) (fun _ _ _ h => h) (Or.inl ⟨by rfl, ?_⟩) ?_ ?_
     rotate_left
     ·intro w'
      go_simp
      with_reducible rfl
     rotate_left
     ·simp only [Act.put, sS, sZ, sC, i64_w, i32_w]
      rfl
     refine pure_ (i := 1) (N := some 124) (v := ?_) (a' := ?_) #[Y,Y,Z,Z,Z,Z,Z,Z,Z,Z,Z,Z,Z,Z,Z,Z,Z,Z,Z,Z,Z,Z,Z,Z,Z,Z,Z,Z,Z,Z] rfl rfl (any_of HT_.out (by kernel_rfl)) (fun _ _ _ h => h) (Or.inl ⟨by rfl, ?_⟩) ?_ ?_
     rotate_left
     ·intro w'
      go_simp
      with_reducible rfl
     rotate_left
     ·simp only [Act.put, sS, sZ, sC, i64_w, i32_w]
      rfl
     refine pure_ (i := 2) (N := some 125) (v := ?_) (a' := ?_) #[Y,Y,Y,Z,Z,Z,Z,Z,Z,Z,Z,Z,Z,Z,Z,Z,Z,Z,Z,Z,Z,Z,Z,Z,Z,Z,Z,Z,Z,Z] rfl rfl (any_of HT_.out (by kernel_rfl)) (fun _ _ _ h => h) (Or.inl ⟨by rfl, ?_⟩) ?_ ?_
     rotate_left
     ·intro w'
      go_simp
      with_reducible rfl
     rotate_left
     ·simp only [Act.put, sS, sZ, sC, i64_w, i32_w]
      rfl
     refine pure_ (i := 3) (N := some 126) (v := ?_) (a' := ?_) #[Y,Y,Y,Y,Z,Z,Z,Z,Z,Z,Z,Z,Z,Z,Z,Z,Z,Z,Z,Z,Z,Z,Z,Z,Z,Z,Z,Z,Z,Z] rfl rfl (any_of HT_.out (by kernel_rfl)) (fun _ _ _ h => h) (Or.inl ⟨by rfl, ?_⟩) ?_ ?_
     rotate_left
     ·intro w'
      go_simp
      with_reducible rfl
     rotate_left
     ·simp only [Act.put, sS, sZ, sC, i64_w, i32_w]
      rfl
     refine pure_ (i := 4) (N := some 127) (v := ?_) (a' := ?_) #[Y,Y,Y,Y,Y,Z,Z,Z,Z,Z,Z,Z,Z,Z,Z,Z,Z,Z,Z,Z,Z,Z,Z,Z,Z,Z,Z,Z,Z,Z] rfl rfl (any_of HT_.out (by kernel_rfl)) (fun _ _ _ h => h) (Or.inl ⟨by rfl, ?_⟩) ?_ ?_
     rotate_left
     ·intro w'
      go_simp
      with_reducible rfl
     rotate_left
     ·simp only [Act.put, sS, sZ, sC, i64_w, i32_w]
      rfl
     refine take_ (i := 5) (N := some 128) (v := ?_) (a' := ?_) #[Y,Y,Y,Y,Y,Y,Z,Z,Z,Z,Z,Z,Z,Z,Z,Z,Z,Z,Z,Z,Z,Z,Z,Z,Z,Z,Z,Z,Z,Z] rfl rfl (take_ofW HT_.out HW_.out (by kernel_rfl)) (fun _ _ _ h => h) (Or.inl ⟨by rfl, ?_⟩) hHeld ?_ ?_
     rotate_left
     ·rintro w' ⟨s0, s1⟩
      go_simp
      with_reducible rfl
     rotate_left
     ·simp only [Act.put, sS, sZ, sC, i64_w, i32_w]
      rfl
     refine pure_ (i := 6) (N := some 129) (v := ?_) (a' := ?_) #[Y,Y,Y,Y,Y,Y,Y,Z,Z,Z,Z,Z,Z,Z,Z,Z,Z,Z,Z,Z,Z,Z,Z,Z,Z,Z,Z,Z,Z,Z] rfl rfl (any_of HT_.out (by kernel_rfl)) (fun _ _ _ h => h) (Or.inl ⟨by rfl, ?_⟩) ?_ ?_
     rotate_left
     ·intro w'
      go_simp
      with_reducible rfl
     rotate_left
     ·simp only [Act.put, sS, sZ, sC, i64_w, i32_w]
      rfl
     refine pure_ (i := 7) (N := some 130) (v := ?_) (a' := ?_) #[Y,Y,Y,Y,Y,Y,Y,Y,Z,Z,Z,Z,Z,Z,Z,Z,Z,Z,Z,Z,Z,Z,Z,Z,Z,Z,Z,Z,Z,Z] rfl rfl (any_of HT_.out (by kernel_rfl)) (fun _ _ _ h => h) (Or.inl ⟨by rfl, ?_⟩) ?_ ?_
     rotate_left
     ·intro w'
      go_simp
      with_reducible rfl
     rotate_left
     ·simp only [Act.put, sS, sZ, sC, i64_w, i32_w]
      rfl
     refine pure_ (i := 8) (N := some 131) (v := ?_) (a' := ?_) #[Y,Y,Y,Y,Y,Y,Y,Y,Y,Z,Z,Z,Z,Z,Z,Z,Z,Z,Z,Z,Z,Z,Z,Z,Z,Z,Z,Z,Z,Z] rfl rfl (any_of HT_.out (by kernel_rfl)) (fun _ _ _ h => h) (Or.inl ⟨by rfl, ?_⟩) ?_ ?_
     rotate_left
     ·intro w'
      go_simp
      with_reducible rfl
     rotate_left
     ·simp only [Act.put, sS, sZ, sC, i64_w, i32_w]
      rfl
     refine pure_ (i := 9) (N := some 132) (v := ?_) (a' := ?_) #[Y,Y,Y,Y,Y,Y,Y,Y,Y,Y,Z,Z,Z,Z,Z,Z,Z,Z,Z,Z,Z,Z,Z,Z,Z,Z,Z,Z,Z,Z] rfl rfl (any_of HT_.out (by kernel_rfl)) (fun _ _ _ h => h) (Or.inl ⟨by rfl, ?_⟩) ?_ ?_
     rotate_left
     ·intro w'
      go_simp
      with_reducible rfl
     rotate_left
     ·simp only [Act.put, sS, sZ, sC, i64_w, i32_w]
      rfl
     refine pure_ (i := 14) (N := some 137) (v := ?_) (a' := ?_) #[Y,Y,Y,Y,Y,Y,Y,Y,Y,Y,Z,Z,Z,Z,Y,Z,Z,Z,Z,Z,Z,Z,Z,Z,Z,Z,Z,Z,Z,Z] rfl rfl (any_of HT_.out (by kernel_rfl)) (fun _ _ _ h => h) (Or.inl ⟨by rfl, ?_⟩) ?_ ?_
     rotate_left
     ·intro w'
      go_simp
      with_reducible rfl
     rotate_left
     ·simp only [Act.put, sS, sZ, sC, i64_w, i32_w]
      rfl
     refine take_ (i := 10) (N := some 133) (v := ?_) (a' := ?_) #[Y,Y,Y,Y,Y,Y,Y,Y,Y,Y,Y,Z,Z,Z,Y,Z,Z,Z,Z,Z,Z,Z,Z,Z,Z,Z,Z,Z,Z,Z] rfl rfl (take_ofW HT_.out HW_.out (by kernel_rfl)) (fun _ _ _ h => h) (Or.inl ⟨by rfl, ?_⟩) hHeld ?_ ?_
     rotate_left
     ·rintro w' ⟨s0, s1⟩
      go_simp
      with_reducible rfl
     rotate_left
     ·simp only [Act.put, sS, sZ, sC, i64_w, i32_w]
      rfl
     refine take_ (i := 11) (N := some 134) (v := ?_) (a' := ?_) #[Y,Y,Y,Y,Y,Y,Y,Y,Y,Y,Y,Y,Z,Z,Y,Z,Z,Z,Z,Z,Z,Z,Z,Z,Z,Z,Z,Z,Z,Z] rfl rfl (take_ofW HT_.out HW_.out (by kernel_rfl)) (fun _ _ _ h => h) (Or.inl ⟨by rfl, ?_⟩) hHeld ?_ ?_
     rotate_left
     ·rintro w' ⟨s0, s1⟩
      go_simp
      with_reducible rfl
     rotate_left
     ·simp only [Act.put, sS, sZ, sC, i64_w, i32_w]
      rfl
     refine one_ (i := 12) (N := some 135) #[Y,Y,Y,Y,Y,Y,Y,Y,Y,Y,Y,Y,Y,Z,Y,Z,Z,Z,Z,Z,Z,Z,Z,Z,Z,Z,Z,Z,Z,Z] rfl rfl (one_of HT_.out (by kernel_rfl)) (by decide) (fun K hK => ?_)
     refine goes_ Tryd.func23 (by kernel_rfl) rfl #[.agg #[.slice A0_0 l0_0.length c0_0, .slice A0_1 l0_1.length c0_1], .int .i64 1] (by rfl) rfl rfl ag ?_
     with_reducible refine (treenailref05_First.calls k _ _ l0_0 _ _ l0_1 1 t445 _ ?side1 ?side2 ?side3 ?side4 A68.out).mono ?_
     (case side1 => exact cx (Kd.C_below HR0_0.out HB.out))
     (case side2 => exact HC0_0.out)
     (case side3 => exact cx (Kd.C_below HR0_1.out HB.out))
     (case side4 => exact HC0_1.out)
     rintro e w86 ⟨rfl, hb⟩
     refine ⟨_, rfl, ?_⟩
     replace BK434 := zm (kB (kx BK434.out) hb)
     replace HB := zm (below_step (bx HB.out) hb)
     (try clear hb)
     (try clear hb2)
     (try clear hk)
     (try clear hi)
     refine hK.out _ _ ⟨bc0 BK434.out, bc1 BK434.out⟩ (fun hHeld => ?_)
     clear hK K
     refine norm_ (a' := ?_) ?_ ?_
     rotate_left
     ·show Act.put _ (some 135) _ = _
      simp only [Act.put, sS, sZ, sC, i64_w, i32_w]
      rfl
     refine one_ (i := 13) (N := some 136) #[Y,Y,Y,Y,Y,Y,Y,Y,Y,Y,Y,Y,Y,Y,Y,Z,Z,Z,Z,Z,Z,Z,Z,Z,Z,Z,Z,Z,Z,Z] rfl rfl (one_of HT_.out (by kernel_rfl)) (by decide) (fun K hK => ?_)
     refine goes_ Tryd.func17 (by kernel_rfl) rfl #[.agg #[.slice A0_0 l0_0.length c0_0, .slice A0_1 l0_1.length c0_1], .int .i64 t445] (by rfl) rfl rfl ag ?_
     with_reducible refine (treenailref05_Reach.calls k _ _ l0_0 _ _ l0_1 t445 t446 _ ?side1 ?side2 ?side3 ?side4 A69.out).mono ?_
     (case side1 => exact cx (Kd.C_below HR0_0.out HB.out))
     (case side2 => exact HC0_0.out)
     (case side3 => exact cx (Kd.C_below HR0_1.out HB.out))
     (case side4 => exact HC0_1.out)
     rintro e w87 ⟨v447, rfl, ho0, hb⟩
     refine ⟨_, rfl, ?_⟩
     have HO448 := zm (Kd.R_lower ho0 (below_size (bx HB.out)))
     replace BK434 := zm (kB (kx BK434.out) hb)
     replace HB := zm (below_step (bx HB.out) hb)
     (try clear hb)
     (try clear hb2)
     (try clear hk)
     (try clear hi)
     (try clear ho0)
     obtain ⟨Ao88, co88, eo88⟩ := Kd.R_slice HO448.out
     (first | subst eo88 | (injection eo88 with f1_ f2_ f3_; have f4_ := f1_.symm; have f5_ := f3_.symm; clear f1_ f2_ f3_; subst f4_; subst f5_))
     have p449 : 0 ≤ (a2 : Int) := od
     have q449 : a2 < (t446.length : Int) := od
     obtain ⟨ad449, e449, hx449_0⟩ := Kd.at_bool (Kd.R_reads' HO448.out).2.2 a2 p449 q449
     (try rw [← Nbq72.out] at hx449_0)
     (try rw [← Nbq72.out] at hw449_0)
     cases e449
     replace p449 := eq_true p449
     replace q449 := eq_true q449
     refine hK.out _ _ ⟨bc0 BK434.out, bc1 BK434.out⟩ (fun hHeld => ?_)
     clear hK K
     refine norm_ (a' := ?_) ?_ ?_
     rotate_left
     ·show Act.put _ (some 136) _ = _
      simp only [Act.put, sS, sZ, sC, i64_w, i32_w]
      rfl
     refine pure_ (i := 15) (N := some 138) (v := ?_) (a' := ?_) #[Y,Y,Y,Y,Y,Y,Y,Y,Y,Y,Y,Y,Y,Y,Y,Y,Z,Z,Z,Z,Z,Z,Z,Z,Z,Z,Z,Z,Z,Z] rfl rfl (any_of HT_.out (by kernel_rfl)) (fun _ _ _ h => h) (Or.inl ⟨by rfl, ?_⟩) ?_ ?_
     rotate_left
     ·intro w'
      go_simp
      with_reducible rfl
     rotate_left
     ·simp only [Act.put, sS, sZ, sC, i64_w, i32_w]
      rfl
     refine one_ (i := 16) (N := some 139) #[Y,Y,Y,Y,Y,Y,Y,Y,Y,Y,Y,Y,Y,Y,Y,Y,Y,Z,Z,Z,Z,Z,Z,Z,Z,Z,Z,Z,Z,Z] rfl rfl (one_of HT_.out (by kernel_rfl)) (by decide) (fun K hK => ?_)
     skip
     refine value_ (w1 := ?_) (v := ?_) (by rfl) rfl ?_ ?_
     rotate_left 2
     ·go_simp
      constructor
      ·rfl
      rfl
     skip
     refine hK.out _ _ ⟨bc0 BK434.out, bc1 BK434.out⟩ (fun hHeld => ?_)
     clear hK K
     refine norm_ (a' := ?_) ?_ ?_
     rotate_left
     ·show Act.put _ (some 139) _ = _
      simp only [Act.put, sS, sZ, sC, i64_w, i32_w]
      rfl
     refine pure_ (i := 17) (N := some 140) (v := ?_) (a' := ?_) #[Y,Y,Y,Y,Y,Y,Y,Y,Y,Y,Y,Y,Y,Y,Y,Y,Y,Y,Z,Z,Z,Z,Z,Z,Z,Z,Z,Z,Z,Z] rfl rfl (any_of HT_.out (by kernel_rfl)) (fun _ _ _ h => h) (Or.inl ⟨by rfl, ?_⟩) ?_ ?_
     rotate_left
     ·intro w'
      go_simp
      with_reducible rfl
     rotate_left
     ·simp only [Act.put, sS, sZ, sC, i64_w, i32_w]
      rfl
     refine pure_ (i := 18) (N := some 141) (v := ?_) (a' := ?_) #[Y,Y,Y,Y,Y,Y,Y,Y,Y,Y,Y,Y,Y,Y,Y,Y,Y,Y,Y,Z,Z,Z,Z,Z,Z,Z,Z,Z,Z,Z] rfl rfl (any_of HT_.out (by kernel_rfl)) (fun _ _ _ h => h) (Or.inl ⟨by rfl, ?_⟩) ?_ ?_
     rotate_left
     ·intro w'
      go_simp
      with_reducible rfl
     rotate_left
     ·simp only [Act.put, sS, sZ, sC, i64_w, i32_w]
      rfl
     refine pure_ (i := 19) (N := some 142) (v := undef) (a' := ?_) #[Y,Y,Y,Y,Y,Y,Y,Y,Y,Y,Y,Y,Y,Y,Y,Y,Y,Y,Y,Y,Z,Z,Z,Z,Z,Z,Z,Z,Z,Z] rfl rfl (any_of HT_.out (by kernel_rfl)) (fun _ _ _ h => h) (Or.inr ⟨by rfl, rfl⟩) ?_ ?_
     rotate_left
     ·simp only [Act.put, sS, sZ, sC, i64_w, i32_w]
      rfl
     refine pure_ (i := 20) (N := some 143) (v := undef) (a' := ?_) #[Y,Y,Y,Y,Y,Y,Y,Y,Y,Y,Y,Y,Y,Y,Y,Y,Y,Y,Y,Y,Y,Z,Z,Z,Z,Z,Z,Z,Z,Z] rfl rfl (any_of HT_.out (by kernel_rfl)) (fun _ _ _ h => h) (Or.inr ⟨by rfl, rfl⟩) ?_ ?_
     rotate_left
     ·simp only [Act.put, sS, sZ, sC, i64_w, i32_w]
      rfl
     refine pure_ (i := 21) (N := some 144) (v := undef) (a' := ?_) #[Y,Y,Y,Y,Y,Y,Y,Y,Y,Y,Y,Y,Y,Y,Y,Y,Y,Y,Y,Y,Y,Y,Z,Z,Z,Z,Z,Z,Z,Z] rfl rfl (any_of HT_.out (by kernel_rfl)) (fun _ _ _ h => h) (Or.inr ⟨by rfl, rfl⟩) ?_ ?_
     rotate_left
     ·simp only [Act.put, sS, sZ, sC, i64_w, i32_w]
      rfl
     refine pure_ (i := 22) (N := some 145) (v := undef) (a' := ?_) #[Y,Y,Y,Y,Y,Y,Y,Y,Y,Y,Y,Y,Y,Y,Y,Y,Y,Y,Y,Y,Y,Y,Y,Z,Z,Z,Z,Z,Z,Z] rfl rfl (any_of HT_.out (by kernel_rfl)) (fun _ _ _ h => h) (Or.inr ⟨by rfl, rfl⟩) ?_ ?_
     rotate_left
     ·simp only [Act.put, sS, sZ, sC, i64_w, i32_w]
      rfl
     refine pure_ (i := 23) (N := some 146) (v := undef) (a' := ?_) #[Y,Y,Y,Y,Y,Y,Y,Y,Y,Y,Y,Y,Y,Y,Y,Y,Y,Y,Y,Y,Y,Y,Y,Y,Z,Z,Z,Z,Z,Z] rfl rfl (any_of HT_.out (by kernel_rfl)) (fun _ _ _ h => h) (Or.inr ⟨by rfl, rfl⟩) ?_ ?_
     rotate_left
     ·simp only [Act.put, sS, sZ, sC, i64_w, i32_w]
      rfl
     refine pure_ (i := 24) (N := some 147) (v := undef) (a' := ?_) #[Y,Y,Y,Y,Y,Y,Y,Y,Y,Y,Y,Y,Y,Y,Y,Y,Y,Y,Y,Y,Y,Y,Y,Y,Y,Z,Z,Z,Z,Z] rfl rfl (any_of HT_.out (by kernel_rfl)) (fun _ _ _ h => h) (Or.inr ⟨by rfl, rfl⟩) ?_ ?_
     rotate_left
     ·simp only [Act.put, sS, sZ, sC, i64_w, i32_w]
      rfl
     refine pure_ (i := 25) (N := some 148) (v := undef) (a' := ?_) #[Y,Y,Y,Y,Y,Y,Y,Y,Y,Y,Y,Y,Y,Y,Y,Y,Y,Y,Y,Y,Y,Y,Y,Y,Y,Y,Z,Z,Z,Z] rfl rfl (any_of HT_.out (by kernel_rfl)) (fun _ _ _ h => h) (Or.inr ⟨by rfl, rfl⟩) ?_ ?_
     rotate_left
     ·simp only [Act.put, sS, sZ, sC, i64_w, i32_w]
      rfl
     refine pure_ (i := 26) (N := some 149) (v := undef) (a' := ?_) #[Y,Y,Y,Y,Y,Y,Y,Y,Y,Y,Y,Y,Y,Y,Y,Y,Y,Y,Y,Y,Y,Y,Y,Y,Y,Y,Y,Z,Z,Z] rfl rfl (any_of HT_.out (by kernel_rfl)) (fun _ _ _ h => h) (Or.inr ⟨by rfl, rfl⟩) ?_ ?_
     rotate_left
     ·simp only [Act.put, sS, sZ, sC, i64_w, i32_w]
      rfl
     refine pure_ (i := 27) (N := some 150) (v := ?_) (a' := ?_) #[Y,Y,Y,Y,Y,Y,Y,Y,Y,Y,Y,Y,Y,Y,Y,Y,Y,Y,Y,Y,Y,Y,Y,Y,Y,Y,Y,Y,Z,Z] rfl rfl (any_of HT_.out (by kernel_rfl)) (fun _ _ _ h => h) (Or.inl ⟨by rfl, ?_⟩) ?_ ?_
     rotate_left
     ·intro w'
      go_simp
      with_reducible rfl
     rotate_left
     ·simp only [Act.put, sS, sZ, sC, i64_w, i32_w]
      rfl
     refine pure_ (i := 28) (N := some 151) (v := ?_) (a' := ?_) #[Y,Y,Y,Y,Y,Y,Y,Y,Y,Y,Y,Y,Y,Y,Y,Y,Y,Y,Y,Y,Y,Y,Y,Y,Y,Y,Y,Y,Y,Z] rfl rfl (any_of HT_.out (by kernel_rfl)) (fun _ _ _ h => h) (Or.inl ⟨by rfl, ?_⟩) ?_ ?_
     rotate_left
     ·intro w'
      go_simp
      with_reducible rfl
     rotate_left
     ·simp only [Act.put, sS, sZ, sC, i64_w, i32_w]
      rfl
     refine pure_ (i := 29) (N := some 6) (v := ?_) (a' := ?_) #[Y,Y,Y,Y,Y,Y,Y,Y,Y,Y,Y,Y,Y,Y,Y,Y,Y,Y,Y,Y,Y,Y,Y,Y,Y,Y,Y,Y,Y,Y] rfl rfl (any_of HT_.out (by kernel_rfl)) (fun _ _ _ h => h) (Or.inl ⟨by rfl, ?_⟩) ?_ ?_
     rotate_left
     ·intro w'
      go_simp
      with_reducible rfl
     rotate_left
     ·simp only [Act.put, sS, sZ, sC, i64_w, i32_w]
      rfl
     refine done_ (done_of HT_.out (by kernel_rfl)) ?_
     try go_wp2
     go_ret
     exact ⟨xe, bx HB.out⟩
    rw [if_neg c71] at H
    exact absurd H (by simp)
   rw [if_neg c70] at H
   exact absurd H (by simp)
  rw [if_neg c67] at H
  have c67b0 := decide_eq_false c67
  try (have c67b9 := c67b0; rw [hl444_4] at c67b9)
  try (have c67b9 := c67b0; rw [hl443_4] at c67b9)
  try (have c67b9 := c67b0; rw [hl442_4] at c67b9)
  try (have c67b9 := c67b0; rw [hl437_5] at c67b9)
  try (have c67b9 := c67b0; rw [hl435_4] at c67b9)
  clear c67
  obtain rfl := Option.some.inj H
  try go_wp2
  replace BK434 := zm (blk_drew BK434.out)
  replace HB := zm (below_drew1 HB.out)
  refine start_ (n := 30) (S := fun w' => w'.cell? ⟨gb434, 0, none⟩ = some (.slice A0_0 l0_0.length c0_0) ∧ w'.cell? ⟨gb434, 1, none⟩ = some (.slice A0_1 l0_1.length c0_1)) (ds := []) #[Z,Z,Z,Z,Z,Z,Z,Z,Z,Z,Z,Z,Z,Z,Z,Z,Z,Z,Z,Z,Z,Z,Z,Z,Z,Z,Z,Z,Z,Z] (by kernel_rfl) rfl rfl ⟨bc0 BK434.out, bc1 BK434.out⟩ (fun hHeld => ?_); refine with_tabW treenailref05_Is.tab14 treenailref05_Is.bits14 (fun HT_ HW_ => ?_)
  generalize w5.drew = w89 at BK434 HB hHeld ⊢
  refine pure_ (i := 0) (N := some 123) (v := ?_) (a' := ?_) #[Y,Z,Z,Z,Z,Z,Z,Z,Z,Z,Z,Z,Z,Z,Z,Z,Z,Z,Z,Z,Z,Z,Z,Z,Z,Z,Z,Z,Z,Z] rfl rfl (any_of HT_.out (by kernel_rfl)) (fun _ _ _ h => h) (Or.inl ⟨by rfl, ?_⟩) ?_ ?_
  rotate_left
  ·intro w'
   go_simp
   with_reducible rfl
  rotate_left
  ·simp only [Act.put, sS, sZ, sC, i64_w, i32_w]
   rfl
  refine pure_ (i := 1) (N := some 124) (v := ?_) (a' := ?_) #[Y,Y,Z,Z,Z,Z,Z,Z,Z,Z,Z,Z,Z,Z,Z,Z,Z,Z,Z,Z,Z,Z,Z,Z,Z,Z,Z,Z,Z,Z] rfl rfl (any_of HT_.out (by kernel_rfl)) (fun _ _ _ h => h) (Or.inl ⟨by rfl, ?_⟩) ?_ ?_
  rotate_left
  ·intro w'
   go_simp
   with_reducible rfl
  rotate_left
  ·simp only [Act.put, sS, sZ, sC, i64_w, i32_w]
   rfl
  refine pure_ (i := 2) (N := some 125) (v := ?_) (a' := ?_) #[Y,Y,Y,Z,Z,Z,Z,Z,Z,Z,Z,Z,Z,Z,Z,Z,Z,Z,Z,Z,Z,Z,Z,Z,Z,Z,Z,Z,Z,Z] rfl rfl (any_of HT_.out (by kernel_rfl)) (fun _ _ _ h => h) (Or.inl ⟨by rfl, ?_⟩) ?_ ?_
  rotate_left
  ·intro w'
   go_simp
   with_reducible rfl
  rotate_left
  ·simp only [Act.put, sS, sZ, sC, i64_w, i32_w]
   rfl
  refine pure_ (i := 3) (N := some 126) (v := ?_) (a' := ?_) #[Y,Y,Y,Y,Z,Z,Z,Z,Z,Z,Z,Z,Z,Z,Z,Z,Z,Z,Z,Z,Z,Z,Z,Z,Z,Z,Z,Z,Z,Z] rfl rfl (any_of HT_.out (by kernel_rfl)) (fun _ _ _ h => h) (Or.inl ⟨by rfl, ?_⟩) ?_ ?_
  rotate_left
  ·intro w'
   go_simp
   with_reducible rfl
  rotate_left
  ·simp only [Act.put, sS, sZ, sC, i64_w, i32_w]
   rfl
  refine pure_ (i := 4) (N := some 127) (v := ?_) (a' := ?_) #[Y,Y,Y,Y,Y,Z,Z,Z,Z,Z,Z,Z,Z,Z,Z,Z,Z,Z,Z,Z,Z,Z,Z,Z,Z,Z,Z,Z,Z,Z] rfl rfl (any_of HT_.out (by kernel_rfl)) (fun _ _ _ h => h) (Or.inl ⟨by rfl, ?_⟩) ?_ ?_
  rotate_left
  ·intro w'
   go_simp
   with_reducible rfl
  rotate_left
  ·simp only [Act.put, sS, sZ, sC, i64_w, i32_w]
   rfl
  refine take_ (i := 5) (N := some 128) (v := ?_) (a' := ?_) #[Y,Y,Y,Y,Y,Y,Z,Z,Z,Z,Z,Z,Z,Z,Z,Z,Z,Z,Z,Z,Z,Z,Z,Z,Z,Z,Z,Z,Z,Z] rfl rfl (take_ofW HT_.out HW_.out (by kernel_rfl)) (fun _ _ _ h => h) (Or.inl ⟨by rfl, ?_⟩) hHeld ?_ ?_
  rotate_left
  ·rintro w' ⟨s0, s1⟩
   go_simp
   with_reducible rfl
  rotate_left
  ·simp only [Act.put, sS, sZ, sC, i64_w, i32_w]
   rfl
  refine pure_ (i := 6) (N := some 129) (v := ?_) (a' := ?_) #[Y,Y,Y,Y,Y,Y,Y,Z,Z,Z,Z,Z,Z,Z,Z,Z,Z,Z,Z,Z,Z,Z,Z,Z,Z,Z,Z,Z,Z,Z] rfl rfl (any_of HT_.out (by kernel_rfl)) (fun _ _ _ h => h) (Or.inl ⟨by rfl, ?_⟩) ?_ ?_
  rotate_left
  ·intro w'
   go_simp
   with_reducible rfl
  rotate_left
  ·simp only [Act.put, sS, sZ, sC, i64_w, i32_w]
   rfl
  refine pure_ (i := 7) (N := some 130) (v := ?_) (a' := ?_) #[Y,Y,Y,Y,Y,Y,Y,Y,Z,Z,Z,Z,Z,Z,Z,Z,Z,Z,Z,Z,Z,Z,Z,Z,Z,Z,Z,Z,Z,Z] rfl rfl (any_of HT_.out (by kernel_rfl)) (fun _ _ _ h => h) (Or.inl ⟨by rfl, ?_⟩) ?_ ?_
  rotate_left
  ·intro w'
   go_simp
   with_reducible rfl
  rotate_left
  ·simp only [Act.put, sS, sZ, sC, i64_w, i32_w]
   rfl
  refine pure_ (i := 8) (N := some 131) (v := ?_) (a' := ?_) #[Y,Y,Y,Y,Y,Y,Y,Y,Y,Z,Z,Z,Z,Z,Z,Z,Z,Z,Z,Z,Z,Z,Z,Z,Z,Z,Z,Z,Z,Z] rfl rfl (any_of HT_.out (by kernel_rfl)) (fun _ _ _ h => h) (Or.inl ⟨by rfl, ?_⟩) ?_ ?_
  rotate_left
  ·intro w'
   go_simp
   with_reducible rfl
  rotate_left
  ·simp only [Act.put, sS, sZ, sC, i64_w, i32_w]
   rfl
  refine pure_ (i := 9) (N := some 132) (v := ?_) (a' := ?_) #[Y,Y,Y,Y,Y,Y,Y,Y,Y,Y,Z,Z,Z,Z,Z,Z,Z,Z,Z,Z,Z,Z,Z,Z,Z,Z,Z,Z,Z,Z] rfl rfl (any_of HT_.out (by kernel_rfl)) (fun _ _ _ h => h) (Or.inl ⟨by rfl, ?_⟩) ?_ ?_
  rotate_left
  ·intro w'
   go_simp
   with_reducible rfl
  rotate_left
  ·simp only [Act.put, sS, sZ, sC, i64_w, i32_w]
   rfl
  refine pure_ (i := 10) (N := some 133) (v := undef) (a' := ?_) #[Y,Y,Y,Y,Y,Y,Y,Y,Y,Y,Y,Z,Z,Z,Z,Z,Z,Z,Z,Z,Z,Z,Z,Z,Z,Z,Z,Z,Z,Z] rfl rfl (any_of HT_.out (by kernel_rfl)) (fun _ _ _ h => h) (Or.inr ⟨by rfl, rfl⟩) ?_ ?_
  rotate_left
  ·simp only [Act.put, sS, sZ, sC, i64_w, i32_w]
   rfl
  refine pure_ (i := 11) (N := some 134) (v := undef) (a' := ?_) #[Y,Y,Y,Y,Y,Y,Y,Y,Y,Y,Y,Y,Z,Z,Z,Z,Z,Z,Z,Z,Z,Z,Z,Z,Z,Z,Z,Z,Z,Z] rfl rfl (any_of HT_.out (by kernel_rfl)) (fun _ _ _ h => h) (Or.inr ⟨by rfl, rfl⟩) ?_ ?_
  rotate_left
  ·simp only [Act.put, sS, sZ, sC, i64_w, i32_w]
   rfl
  refine pure_ (i := 12) (N := some 135) (v := undef) (a' := ?_) #[Y,Y,Y,Y,Y,Y,Y,Y,Y,Y,Y,Y,Y,Z,Z,Z,Z,Z,Z,Z,Z,Z,Z,Z,Z,Z,Z,Z,Z,Z] rfl rfl (any_of HT_.out (by kernel_rfl)) (fun _ _ _ h => h) (Or.inr ⟨by rfl, rfl⟩) ?_ ?_
  rotate_left
  ·simp only [Act.put, sS, sZ, sC, i64_w, i32_w]
   rfl
  refine pure_ (i := 13) (N := some 136) (v := undef) (a' := ?_) #[Y,Y,Y,Y,Y,Y,Y,Y,Y,Y,Y,Y,Y,Y,Z,Z,Z,Z,Z,Z,Z,Z,Z,Z,Z,Z,Z,Z,Z,Z] rfl rfl (any_of HT_.out (by kernel_rfl)) (fun _ _ _ h => h) (Or.inr ⟨by rfl, rfl⟩) ?_ ?_
  rotate_left
  ·simp only [Act.put, sS, sZ, sC, i64_w, i32_w]
   rfl
  refine pure_ (i := 14) (N := some 137) (v := undef) (a' := ?_) #[Y,Y,Y,Y,Y,Y,Y,Y,Y,Y,Y,Y,Y,Y,Y,Z,Z,Z,Z,Z,Z,Z,Z,Z,Z,Z,Z,Z,Z,Z] rfl rfl (any_of HT_.out (by kernel_rfl)) (fun _ _ _ h => h) (Or.inr ⟨by rfl, rfl⟩) ?_ ?_
  rotate_left
  ·simp only [Act.put, sS, sZ, sC, i64_w, i32_w]
   rfl
  refine pure_ (i := 15) (N := some 138) (v := undef) (a' := ?_) #[Y,Y,Y,Y,Y,Y,Y,Y,Y,Y,Y,Y,Y,Y,Y,Y,Z,Z,Z,Z,Z,Z,Z,Z,Z,Z,Z,Z,Z,Z] rfl rfl (any_of HT_.out (by kernel_rfl)) (fun _ _ _ h => h) (Or.inr ⟨by rfl, rfl⟩) ?_ ?_
  rotate_left
  ·simp only [Act.put, sS, sZ, sC, i64_w, i32_w]
   rfl
  refine pure_ (i := 16) (N := some 139) (v := undef) (a' := ?_) #[Y,Y,Y,Y,Y,Y,Y,Y,Y,Y,Y,Y,Y,Y,Y,Y,Y,Z,Z,Z,Z,Z,Z,Z,Z,Z,Z,Z,Z,Z] rfl rfl (any_of HT_.out (by kernel_rfl)) (fun _ _ _ h => h) (Or.inr ⟨by rfl, rfl⟩) ?_ ?_
  rotate_left
  ·simp only [Act.put, sS, sZ, sC, i64_w, i32_w]
   rfl
  refine pure_ (i := 17) (N := some 140) (v := undef) (a' := ?_) #[Y,Y,Y,Y,Y,Y,Y,Y,Y,Y,Y,Y,Y,Y,Y,Y,Y,Y,Z,Z,Z,Z,Z,Z,Z,Z,Z,Z,Z,Z] rfl rfl (any_of HT_.out (by kernel_rfl)) (fun _ _ _ h => h) (Or.inr ⟨by rfl, rfl⟩) ?_ ?_
  rotate_left
  ·simp only [Act.put, sS, sZ, sC, i64_w, i32_w]
   rfl
  refine pure_ (i := 18) (N := some 141) (v := undef) (a' := ?_) #[Y,Y,Y,Y,Y,Y,Y,Y,Y,Y,Y,Y,Y,Y,Y,Y,Y,Y,Y,Z,Z,Z,Z,Z,Z,Z,Z,Z,Z,Z] rfl rfl (any_of HT_.out (by kernel_rfl)) (fun _ _ _ h => h) (Or.inr ⟨by rfl, rfl⟩) ?_ ?_
  rotate_left
  ·simp only [Act.put, sS, sZ, sC, i64_w, i32_w]
   rfl
  refine pure_ (i := 19) (N := some 142) (v := undef) (a' := ?_) #[Y,Y,Y,Y,Y,Y,Y,Y,Y,Y,Y,Y,Y,Y,Y,Y,Y,Y,Y,Y,Z,Z,Z,Z,Z,Z,Z,Z,Z,Z] rfl rfl (any_of HT_.out (by kernel_rfl)) (fun _ _ _ h => h) (Or.inr ⟨by rfl, rfl⟩) ?_ ?_
  rotate_left
  ·simp only [Act.put, sS, sZ, sC, i64_w, i32_w]
   rfl
  refine pure_ (i := 20) (N := some 143) (v := undef) (a' := ?_) #[Y,Y,Y,Y,Y,Y,Y,Y,Y,Y,Y,Y,Y,Y,Y,Y,Y,Y,Y,Y,Y,Z,Z,Z,Z,Z,Z,Z,Z,Z] rfl rfl (any_of HT_.out (by kernel_rfl)) (fun _ _ _ h => h) (Or.inr ⟨by rfl, rfl⟩) ?_ ?_
  rotate_left
  ·simp only [Act.put, sS, sZ, sC, i64_w, i32_w]
   rfl
  refine pure_ (i := 21) (N := some 144) (v := undef) (a' := ?_) #[Y,Y,Y,Y,Y,Y,Y,Y,Y,Y,Y,Y,Y,Y,Y,Y,Y,Y,Y,Y,Y,Y,Z,Z,Z,Z,Z,Z,Z,Z] rfl rfl (any_of HT_.out (by kernel_rfl)) (fun _ _ _ h => h) (Or.inr ⟨by rfl, rfl⟩) ?_ ?_
  rotate_left
  ·simp only [Act.put, sS, sZ, sC, i64_w, i32_w]
   rfl
  refine pure_ (i := 22) (N := some 145) (v := undef) (a' := ?_) #[Y,Y,Y,Y,Y,Y,Y,Y,Y,Y,Y,Y,Y,Y,Y,Y,Y,Y,Y,Y,Y,Y,Y,Z,Z,Z,Z,Z,Z,Z] rfl rfl (any_of HT_.out (by kernel_rfl)) (fun _ _ _ h => h) (Or.inr ⟨by rfl, rfl⟩) ?_ ?_
  rotate_left
  ·simp only [Act.put, sS, sZ, sC, i64_w, i32_w]
   rfl
  refine pure_ (i := 23) (N := some 146) (v := undef) (a' := ?_) #[Y,Y,Y,Y,Y,Y,Y,Y,Y,Y,Y,Y,Y,Y,Y,Y,Y,Y,Y,Y,Y,Y,Y,Y,Z,Z,Z,Z,Z,Z] rfl rfl (any_of HT_.out (by kernel_rfl)) (fun _ _ _ h => h) (Or.inr ⟨by rfl, rfl⟩) ?_ ?_
  rotate_left
  ·simp only [Act.put, sS, sZ, sC, i64_w, i32_w]
   rfl
  refine pure_ (i := 24) (N := some 147) (v := undef) (a' := ?_) #[Y,Y,Y,Y,Y,Y,Y,Y,Y,Y,Y,Y,Y,Y,Y,Y,Y,Y,Y,Y,Y,Y,Y,Y,Y,Z,Z,Z,Z,Z] rfl rfl (any_of HT_.out (by kernel_rfl)) (fun _ _ _ h => h) (Or.inr ⟨by rfl, rfl⟩) ?_ ?_
  rotate_left
  ·simp only [Act.put, sS, sZ, sC, i64_w, i32_w]
   rfl
  refine pure_ (i := 25) (N := some 148) (v := undef) (a' := ?_) #[Y,Y,Y,Y,Y,Y,Y,Y,Y,Y,Y,Y,Y,Y,Y,Y,Y,Y,Y,Y,Y,Y,Y,Y,Y,Y,Z,Z,Z,Z] rfl rfl (any_of HT_.out (by kernel_rfl)) (fun _ _ _ h => h) (Or.inr ⟨by rfl, rfl⟩) ?_ ?_
  rotate_left
  ·simp only [Act.put, sS, sZ, sC, i64_w, i32_w]
   rfl
  refine pure_ (i := 26) (N := some 149) (v := undef) (a' := ?_) #[Y,Y,Y,Y,Y,Y,Y,Y,Y,Y,Y,Y,Y,Y,Y,Y,Y,Y,Y,Y,Y,Y,Y,Y,Y,Y,Y,Z,Z,Z] rfl rfl (any_of HT_.out (by kernel_rfl)) (fun _ _ _ h => h) (Or.inr ⟨by rfl, rfl⟩) ?_ ?_
  rotate_left
  ·simp only [Act.put, sS, sZ, sC, i64_w, i32_w]
   rfl
  refine pure_ (i := 27) (N := some 150) (v := undef) (a' := ?_) #[Y,Y,Y,Y,Y,Y,Y,Y,Y,Y,Y,Y,Y,Y,Y,Y,Y,Y,Y,Y,Y,Y,Y,Y,Y,Y,Y,Y,Z,Z] rfl rfl (any_of HT_.out (by kernel_rfl)) (fun _ _ _ h => h) (Or.inr ⟨by rfl, rfl⟩) ?_ ?_
  rotate_left
  ·simp only [Act.put, sS, sZ, sC, i64_w, i32_w]
   rfl
  refine pure_ (i := 28) (N := some 151) (v := ?_) (a' := ?_) #[Y,Y,Y,Y,Y,Y,Y,Y,Y,Y,Y,Y,Y,Y,Y,Y,Y,Y,Y,Y,Y,Y,Y,Y,Y,Y,Y,Y,Y,Z] rfl rfl (any_of HT_.out (by kernel_rfl)) (fun _ _ _ h => h) (Or.inl ⟨by rfl, ?_⟩) ?_ ?_
  rotate_left
  ·intro w'
   go_simp
   with_reducible rfl
  rotate_left
  ·simp only [Act.put, sS, sZ, sC, i64_w, i32_w]
   rfl
  refine pure_ (i := 29) (N := some 6) (v := ?_) (a' := ?_) #[Y,Y,Y,Y,Y,Y,Y,Y,Y,Y,Y,Y,Y,Y,Y,Y,Y,Y,Y,Y,Y,Y,Y,Y,Y,Y,Y,Y,Y,Y] rfl rfl (any_of HT_.out (by kernel_rfl)) (fun _ _ _ h => h) (Or.inl ⟨by rfl, ?_⟩) ?_ ?_
  rotate_left
  ·intro w'
   go_simp
   with_reducible rfl
  rotate_left
  ·simp only [Act.put, sS, sZ, sC, i64_w, i32_w]
   rfl
  refine done_ (done_of HT_.out (by kernel_rfl)) ?_
  try go_wp2
  go_ret
  exact ⟨xe, bx HB.out⟩
 rw [if_neg c66] at H
 have c66b0 : decide (0 ≤ a2) = false := decide_eq_false c66
 clear c66
 obtain rfl := Option.some.inj H
 try go_wp2
 replace BK434 := zm (blk_drew BK434.out)
 replace HB := zm (below_drew1 HB.out)
 refine start_ (n := 30) (S := fun w' => True) (ds := []) #[Z,Z,Z,Z,Z,Z,Z,Z,Z,Z,Z,Z,Z,Z,Z,Z,Z,Z,Z,Z,Z,Z,Z,Z,Z,Z,Z,Z,Z,Z] (by kernel_rfl) rfl rfl trivial (fun hHeld => ?_); refine with_tabW treenailref05_Is.tab14 treenailref05_Is.bits14 (fun HT_ HW_ => ?_)
 generalize w5.drew = w90 at BK434 HB hHeld ⊢
 refine pure_ (i := 0) (N := some 123) (v := ?_) (a' := ?_) #[Y,Z,Z,Z,Z,Z,Z,Z,Z,Z,Z,Z,Z,Z,Z,Z,Z,Z,Z,Z,Z,Z,Z,Z,Z,Z,Z,Z,Z,Z] rfl rfl (any_of HT_.out (by kernel_rfl)) (fun _ _ _ h => h) (Or.inl ⟨by rfl, ?_⟩) ?_ ?_
 rotate_left
 ·intro w'
  go_simp
  with_reducible rfl
 rotate_left
 ·simp only [Act.put, sS, sZ, sC, i64_w, i32_w]
  rfl
 refine pure_ (i := 1) (N := some 124) (v := ?_) (a' := ?_) #[Y,Y,Z,Z,Z,Z,Z,Z,Z,Z,Z,Z,Z,Z,Z,Z,Z,Z,Z,Z,Z,Z,Z,Z,Z,Z,Z,Z,Z,Z] rfl rfl (any_of HT_.out (by kernel_rfl)) (fun _ _ _ h => h) (Or.inl ⟨by rfl, ?_⟩) ?_ ?_
 rotate_left
 ·intro w'
  go_simp
  with_reducible rfl
 rotate_left
 ·simp only [Act.put, sS, sZ, sC, i64_w, i32_w]
  rfl
 refine pure_ (i := 2) (N := some 125) (v := ?_) (a' := ?_) #[Y,Y,Y,Z,Z,Z,Z,Z,Z,Z,Z,Z,Z,Z,Z,Z,Z,Z,Z,Z,Z,Z,Z,Z,Z,Z,Z,Z,Z,Z] rfl rfl (any_of HT_.out (by kernel_rfl)) (fun _ _ _ h => h) (Or.inl ⟨by rfl, ?_⟩) ?_ ?_
 rotate_left
 ·intro w'
  go_simp
  with_reducible rfl
 rotate_left
 ·simp only [Act.put, sS, sZ, sC, i64_w, i32_w]
  rfl
 refine pure_ (i := 3) (N := some 126) (v := undef) (a' := ?_) #[Y,Y,Y,Y,Z,Z,Z,Z,Z,Z,Z,Z,Z,Z,Z,Z,Z,Z,Z,Z,Z,Z,Z,Z,Z,Z,Z,Z,Z,Z] rfl rfl (any_of HT_.out (by kernel_rfl)) (fun _ _ _ h => h) (Or.inr ⟨by rfl, rfl⟩) ?_ ?_
 rotate_left
 ·simp only [Act.put, sS, sZ, sC, i64_w, i32_w]
  rfl
 refine pure_ (i := 4) (N := some 127) (v := undef) (a' := ?_) #[Y,Y,Y,Y,Y,Z,Z,Z,Z,Z,Z,Z,Z,Z,Z,Z,Z,Z,Z,Z,Z,Z,Z,Z,Z,Z,Z,Z,Z,Z] rfl rfl (any_of HT_.out (by kernel_rfl)) (fun _ _ _ h => h) (Or.inr ⟨by rfl, rfl⟩) ?_ ?_
 rotate_left
 ·simp only [Act.put, sS, sZ, sC, i64_w, i32_w]
  rfl
 refine pure_ (i := 5) (N := some 128) (v := undef) (a' := ?_) #[Y,Y,Y,Y,Y,Y,Z,Z,Z,Z,Z,Z,Z,Z,Z,Z,Z,Z,Z,Z,Z,Z,Z,Z,Z,Z,Z,Z,Z,Z] rfl rfl (any_of HT_.out (by kernel_rfl)) (fun _ _ _ h => h) (Or.inr ⟨by rfl, rfl⟩) ?_ ?_
 rotate_left
 ·simp only [Act.put, sS, sZ, sC, i64_w, i32_w]
  rfl
 refine pure_ (i := 6) (N := some 129) (v := undef) (a' := ?_) #[Y,Y,Y,Y,Y,Y,Y,Z,Z,Z,Z,Z,Z,Z,Z,Z,Z,Z,Z,Z,Z,Z,Z,Z,Z,Z,Z,Z,Z,Z] rfl rfl (any_of HT_.out (by kernel_rfl)) (fun _ _ _ h => h) (Or.inr ⟨by rfl, rfl⟩) ?_ ?_
 rotate_left
 ·simp only [Act.put, sS, sZ, sC, i64_w, i32_w]
  rfl
 refine pure_ (i := 7) (N := some 130) (v := undef) (a' := ?_) #[Y,Y,Y,Y,Y,Y,Y,Y,Z,Z,Z,Z,Z,Z,Z,Z,Z,Z,Z,Z,Z,Z,Z,Z,Z,Z,Z,Z,Z,Z] rfl rfl (any_of HT_.out (by kernel_rfl)) (fun _ _ _ h => h) (Or.inr ⟨by rfl, rfl⟩) ?_ ?_
 rotate_left
 ·simp only [Act.put, sS, sZ, sC, i64_w, i32_w]
  rfl
 refine pure_ (i := 8) (N := some 131) (v := ?_) (a' := ?_) #[Y,Y,Y,Y,Y,Y,Y,Y,Y,Z,Z,Z,Z,Z,Z,Z,Z,Z,Z,Z,Z,Z,Z,Z,Z,Z,Z,Z,Z,Z] rfl rfl (any_of HT_.out (by kernel_rfl)) (fun _ _ _ h => h) (Or.inl ⟨by rfl, ?_⟩) ?_ ?_
 rotate_left
 ·intro w'
  go_simp
  with_reducible rfl
 rotate_left
 ·simp only [Act.put, sS, sZ, sC, i64_w, i32_w]
  rfl
 refine pure_ (i := 9) (N := some 132) (v := ?_) (a' := ?_) #[Y,Y,Y,Y,Y,Y,Y,Y,Y,Y,Z,Z,Z,Z,Z,Z,Z,Z,Z,Z,Z,Z,Z,Z,Z,Z,Z,Z,Z,Z] rfl rfl (any_of HT_.out (by kernel_rfl)) (fun _ _ _ h => h) (Or.inl ⟨by rfl, ?_⟩) ?_ ?_
 rotate_left
 ·intro w'
  go_simp
  with_reducible rfl
 rotate_left
 ·simp only [Act.put, sS, sZ, sC, i64_w, i32_w]
  rfl
 refine pure_ (i := 10) (N := some 133) (v := undef) (a' := ?_) #[Y,Y,Y,Y,Y,Y,Y,Y,Y,Y,Y,Z,Z,Z,Z,Z,Z,Z,Z,Z,Z,Z,Z,Z,Z,Z,Z,Z,Z,Z] rfl rfl (any_of HT_.out (by kernel_rfl)) (fun _ _ _ h => h) (Or.inr ⟨by rfl, rfl⟩) ?_ ?_
 rotate_left
 ·simp only [Act.put, sS, sZ, sC, i64_w, i32_w]
  rfl
 refine pure_ (i := 11) (N := some 134) (v := undef) (a' := ?_) #[Y,Y,Y,Y,Y,Y,Y,Y,Y,Y,Y,Y,Z,Z,Z,Z,Z,Z,Z,Z,Z,Z,Z,Z,Z,Z,Z,Z,Z,Z] rfl rfl (any_of HT_.out (by kernel_rfl)) (fun _ _ _ h => h) (Or.inr ⟨by rfl, rfl⟩) ?_ ?_
 rotate_left
 ·simp only [Act.put, sS, sZ, sC, i64_w, i32_w]
  rfl
 refine pure_ (i := 12) (N := some 135) (v := undef) (a' := ?_) #[Y,Y,Y,Y,Y,Y,Y,Y,Y,Y,Y,Y,Y,Z,Z,Z,Z,Z,Z,Z,Z,Z,Z,Z,Z,Z,Z,Z,Z,Z] rfl rfl (any_of HT_.out (by kernel_rfl)) (fun _ _ _ h => h) (Or.inr ⟨by rfl, rfl⟩) ?_ ?_
 rotate_left
 ·simp only [Act.put, sS, sZ, sC, i64_w, i32_w]
  rfl
 refine pure_ (i := 13) (N := some 136) (v := undef) (a' := ?_) #[Y,Y,Y,Y,Y,Y,Y,Y,Y,Y,Y,Y,Y,Y,Z,Z,Z,Z,Z,Z,Z,Z,Z,Z,Z,Z,Z,Z,Z,Z] rfl rfl (any_of HT_.out (by kernel_rfl)) (fun _ _ _ h => h) (Or.inr ⟨by rfl, rfl⟩) ?_ ?_
 rotate_left
 ·simp only [Act.put, sS, sZ, sC, i64_w, i32_w]
  rfl
 refine pure_ (i := 14) (N := some 137) (v := undef) (a' := ?_) #[Y,Y,Y,Y,Y,Y,Y,Y,Y,Y,Y,Y,Y,Y,Y,Z,Z,Z,Z,Z,Z,Z,Z,Z,Z,Z,Z,Z,Z,Z] rfl rfl (any_of HT_.out (by kernel_rfl)) (fun _ _ _ h => h) (Or.inr ⟨by rfl, rfl⟩) ?_ ?_
 rotate_left
 ·simp only [Act.put, sS, sZ, sC, i64_w, i32_w]
  rfl
 refine pure_ (i := 15) (N := some 138) (v := undef) (a' := ?_) #[Y,Y,Y,Y,Y,Y,Y,Y,Y,Y,Y,Y,Y,Y,Y,Y,Z,Z,Z,Z,Z,Z,Z,Z,Z,Z,Z,Z,Z,Z] rfl rfl (any_of HT_.out (by kernel_rfl)) (fun _ _ _ h => h) (Or.inr ⟨by rfl, rfl⟩) ?_ ?_
 rotate_left
 ·simp only [Act.put, sS, sZ, sC, i64_w, i32_w]
  rfl
 refine pure_ (i := 16) (N := some 139) (v := undef) (a' := ?_) #[Y,Y,Y,Y,Y,Y,Y,Y,Y,Y,Y,Y,Y,Y,Y,Y,Y,Z,Z,Z,Z,Z,Z,Z,Z,Z,Z,Z,Z,Z] rfl rfl (any_of HT_.out (by kernel_rfl)) (fun _ _ _ h => h) (Or.inr ⟨by rfl, rfl⟩) ?_ ?_
 rotate_left
 ·simp only [Act.put, sS, sZ, sC, i64_w, i32_w]
  rfl
 refine pure_ (i := 17) (N := some 140) (v := undef) (a' := ?_) #[Y,Y,Y,Y,Y,Y,Y,Y,Y,Y,Y,Y,Y,Y,Y,Y,Y,Y,Z,Z,Z,Z,Z,Z,Z,Z,Z,Z,Z,Z] rfl rfl (any_of HT_.out (by kernel_rfl)) (fun _ _ _ h => h) (Or.inr ⟨by rfl, rfl⟩) ?_ ?_
 rotate_left
 ·simp only [Act.put, sS, sZ, sC, i64_w, i32_w]
  rfl
 refine pure_ (i := 18) (N := some 141) (v := undef) (a' := ?_) #[Y,Y,Y,Y,Y,Y,Y,Y,Y,Y,Y,Y,Y,Y,Y,Y,Y,Y,Y,Z,Z,Z,Z,Z,Z,Z,Z,Z,Z,Z] rfl rfl (any_of HT_.out (by kernel_rfl)) (fun _ _ _ h => h) (Or.inr ⟨by rfl, rfl⟩) ?_ ?_
 rotate_left
 ·simp only [Act.put, sS, sZ, sC, i64_w, i32_w]
  rfl
 refine pure_ (i := 19) (N := some 142) (v := undef) (a' := ?_) #[Y,Y,Y,Y,Y,Y,Y,Y,Y,Y,Y,Y,Y,Y,Y,Y,Y,Y,Y,Y,Z,Z,Z,Z,Z,Z,Z,Z,Z,Z] rfl rfl (any_of HT_.out (by kernel_rfl)) (fun _ _ _ h => h) (Or.inr ⟨by rfl, rfl⟩) ?_ ?_
 rotate_left
 ·simp only [Act.put, sS, sZ, sC, i64_w, i32_w]
  rfl
 refine pure_ (i := 20) (N := some 143) (v := undef) (a' := ?_) #[Y,Y,Y,Y,Y,Y,Y,Y,Y,Y,Y,Y,Y,Y,Y,Y,Y,Y,Y,Y,Y,Z,Z,Z,Z,Z,Z,Z,Z,Z] rfl rfl (any_of HT_.out (by kernel_rfl)) (fun _ _ _ h => h) (Or.inr ⟨by rfl, rfl⟩) ?_ ?_
 rotate_left
 ·simp only [Act.put, sS, sZ, sC, i64_w, i32_w]
  rfl
 refine pure_ (i := 21) (N := some 144) (v := undef) (a' := ?_) #[Y,Y,Y,Y,Y,Y,Y,Y,Y,Y,Y,Y,Y,Y,Y,Y,Y,Y,Y,Y,Y,Y,Z,Z,Z,Z,Z,Z,Z,Z] rfl rfl (any_of HT_.out (by kernel_rfl)) (fun _ _ _ h => h) (Or.inr ⟨by rfl, rfl⟩) ?_ ?_
 rotate_left
 ·simp only [Act.put, sS, sZ, sC, i64_w, i32_w]
  rfl
 refine pure_ (i := 22) (N := some 145) (v := undef) (a' := ?_) #[Y,Y,Y,Y,Y,Y,Y,Y,Y,Y,Y,Y,Y,Y,Y,Y,Y,Y,Y,Y,Y,Y,Y,Z,Z,Z,Z,Z,Z,Z] rfl rfl (any_of HT_.out (by kernel_rfl)) (fun _ _ _ h => h) (Or.inr ⟨by rfl, rfl⟩) ?_ ?_
 rotate_left
 ·simp only [Act.put, sS, sZ, sC, i64_w, i32_w]
  rfl
 refine pure_ (i := 23) (N := some 146) (v := undef) (a' := ?_) #[Y,Y,Y,Y,Y,Y,Y,Y,Y,Y,Y,Y,Y,Y,Y,Y,Y,Y,Y,Y,Y,Y,Y,Y,Z,Z,Z,Z,Z,Z] rfl rfl (any_of HT_.out (by kernel_rfl)) (fun _ _ _ h => h) (Or.inr ⟨by rfl, rfl⟩) ?_ ?_
 rotate_left
 ·simp only [Act.put, sS, sZ, sC, i64_w, i32_w]
  rfl
 refine pure_ (i := 24) (N := some 147) (v := undef) (a' := ?_) #[Y,Y,Y,Y,Y,Y,Y,Y,Y,Y,Y,Y,Y,Y,Y,Y,Y,Y,Y,Y,Y,Y,Y,Y,Y,Z,Z,Z,Z,Z] rfl rfl (any_of HT_.out (by kernel_rfl)) (fun _ _ _ h => h) (Or.inr ⟨by rfl, rfl⟩) ?_ ?_
 rotate_left
 ·simp only [Act.put, sS, sZ, sC, i64_w, i32_w]
  rfl
 refine pure_ (i := 25) (N := some 148) (v := undef) (a' := ?_) #[Y,Y,Y,Y,Y,Y,Y,Y,Y,Y,Y,Y,Y,Y,Y,Y,Y,Y,Y,Y,Y,Y,Y,Y,Y,Y,Z,Z,Z,Z] rfl rfl (any_of HT_.out (by kernel_rfl)) (fun _ _ _ h => h) (Or.inr ⟨by rfl, rfl⟩) ?_ ?_
 rotate_left
 ·simp only [Act.put, sS, sZ, sC, i64_w, i32_w]
  rfl
 refine pure_ (i := 26) (N := some 149) (v := undef) (a' := ?_) #[Y,Y,Y,Y,Y,Y,Y,Y,Y,Y,Y,Y,Y,Y,Y,Y,Y,Y,Y,Y,Y,Y,Y,Y,Y,Y,Y,Z,Z,Z] rfl rfl (any_of HT_.out (by kernel_rfl)) (fun _ _ _ h => h) (Or.inr ⟨by rfl, rfl⟩) ?_ ?_
 rotate_left
 ·simp only [Act.put, sS, sZ, sC, i64_w, i32_w]
  rfl
 refine pure_ (i := 27) (N := some 150) (v := undef) (a' := ?_) #[Y,Y,Y,Y,Y,Y,Y,Y,Y,Y,Y,Y,Y,Y,Y,Y,Y,Y,Y,Y,Y,Y,Y,Y,Y,Y,Y,Y,Z,Z] rfl rfl (any_of HT_.out (by kernel_rfl)) (fun _ _ _ h => h) (Or.inr ⟨by rfl, rfl⟩) ?_ ?_
 rotate_left
 ·simp only [Act.put, sS, sZ, sC, i64_w, i32_w]
  rfl
 refine pure_ (i := 28) (N := some 151) (v := ?_) (a' := ?_) #[Y,Y,Y,Y,Y,Y,Y,Y,Y,Y,Y,Y,Y,Y,Y,Y,Y,Y,Y,Y,Y,Y,Y,Y,Y,Y,Y,Y,Y,Z] rfl rfl (any_of HT_.out (by kernel_rfl)) (fun _ _ _ h => h) (Or.inl ⟨by rfl, ?_⟩) ?_ ?_
 rotate_left
 ·intro w'
  go_simp
  with_reducible rfl
 rotate_left
 ·simp only [Act.put, sS, sZ, sC, i64_w, i32_w]
  rfl
 refine pure_ (i := 29) (N := some 6) (v := ?_) (a' := ?_) #[Y,Y,Y,Y,Y,Y,Y,Y,Y,Y,Y,Y,Y,Y,Y,Y,Y,Y,Y,Y,Y,Y,Y,Y,Y,Y,Y,Y,Y,Y] rfl rfl (any_of HT_.out (by kernel_rfl)) (fun _ _ _ h => h) (Or.inl ⟨by rfl, ?_⟩) ?_ ?_
 rotate_left
 ·intro w'
  go_simp
  with_reducible rfl
 rotate_left
 ·simp only [Act.put, sS, sZ, sC, i64_w, i32_w]
  rfl
 refine done_ (done_of HT_.out (by kernel_rfl)) ?_
 try go_wp2
 go_ret
 exact ⟨xe, bx HB.out⟩

end Go.Proofs.YtdaeiicdpfghlaaDoor.R
