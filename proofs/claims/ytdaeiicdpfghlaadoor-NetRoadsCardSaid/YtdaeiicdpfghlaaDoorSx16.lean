import Derived.Test.YtdaeiicdpfghlaaDoorSx0
import Derived.Test.YtdaeiicdpfghlaaDoorSx3
import Derived.Test.YtdaeiicdpfghlaaDoorSx5
import Derived.Test.YtdaeiicdpfghlaaDoorSx7
import Derived.Test.YtdaeiicdpfghlaaDoorSx14
import Derived.Test.YtdaeiicdpfghlaaDoorSx15
namespace Go.Proofs.YtdaeiicdpfghlaaDoor.R
open Go.RowKit Go.Proofs.YtdaeiicdpfghlaaDoorW.PrintWords Go.Proofs.YtdaeiicdpfghlaaDoorW.PrintLast Go.Proofs.YtdaeiicdpfghlaaDoorW.PrintMore
attribute [local go_sem] max2_int min2_int max_two min_two max_three min_three max_four min_four   -- for this text's walks alone
set_option linter.unusedVariables false
set_option linter.unusedSimpArgs false

def treenailref03_Wrong.f (k : Nat) (a0_0 : Int) (a0_1 : Int) (l0_2 : List (S35)) : Option (Int) := (treenailref03_Depth.f k a0_0 a0_1 l0_2).bind fun t341 => (if t341 > 24 then (some 2) else ((treenailref03_form.f k a0_0 a0_1 l0_2).bind fun t342 => (if t342 = true then (some 0) else (some 4))))
set_option maxRecDepth 100000 in
theorem treenailref03_Wrong.mono : ∀ a0 a1 a2 k, LeO (treenailref03_Wrong.f k a0 a1 a2) (treenailref03_Wrong.f (k + 1) a0 a1 a2) := by
 intro a0 a1 a2 k
 unfold treenailref03_Wrong.f
 repeat' first
 | (with_reducible exact treenailref03_Depth.mono _ _ _ _)
 | (with_reducible exact treenailref03_form.mono _ _ _ _)
 | (with_reducible exact LeO.refl _)
 | (with_reducible exact LeO.none _)
 | (with_reducible refine LeO.ite ?_ ?_)
 | (with_reducible refine LeO.bind ?_ (fun _ => ?_))
 | refine LeO.ite ?_ ?_
 | refine LeO.bind ?_ (fun _ => ?_)
set_option maxHeartbeats 8000000 in
set_option maxRecDepth 100000 in
theorem treenailref03_Wrong.calls (k : Nat) (a0_0 : Int) (a0_1 : Int) (A0_2 : Option Addr) (c0_2 : Nat) (l0_2 : List (S35)) (r : Int) (w : World) (hr0_2 : Kd.C k35 w A0_2 l0_2.length l0_2) (hc0_2 : l0_2.length ≤ c0_2) (h : treenailref03_Wrong.f k a0_0 a0_1 l0_2 = some r) :
  Calls Tryd.prog 58 #[.agg #[.int .i64 a0_0, .int .i64 a0_1, .slice A0_2 l0_2.length c0_2]] w fun e w' => e = .returned (.int .i64 r) ∧ Below w.heap.size w w' := by
 have hu35 := Tryd.underlying35
 have HR0_2 := zm hr0_2
 have HC0_2 := zm hc0_2
 clear hr0_2 hc0_2
 have HB := zm (Below.refl w.heap.size w)
 have H : ((treenailref03_Depth.f k a0_0 a0_1 l0_2).bind fun t341 => (if t341 > 24 then (some 2) else ((treenailref03_form.f k a0_0 a0_1 l0_2).bind fun t342 => (if t342 = true then (some 0) else (some 4))))) = some r := h
 clear h
 replace H := Option.bind_eq_some_iff.mp H
 obtain ⟨t341, A20, H⟩ := H
 replace H : (if t341 > 24 then (some 2) else ((treenailref03_form.f k a0_0 a0_1 l0_2).bind fun t342 => (if t342 = true then (some 0) else (some 4)))) = some r := H
 have A2 := zm A20
 clear A20
 have HC3 := zm H
 clear H
 go_enter Tryd.func58, Tryd.ntmps58
 go_upto_if 5 with (first | ((with_reducible refine gate_dst (N := 1) rfl ?_); refine box_event ?hg (N := 1) ?hd (cs := #[.int .i64 a0_0, .int .i64 a0_1, .slice A0_2 l0_2.length c0_2]) (t := 35) ?hr ?_; (case hd => rfl); (case hg => rfl); (case hr => first | (go_simp; done) | (go_simp; rfl)); intro gb340 hg w4 hbox hb; have BK340 := zm (hbox); have GW340 := zm ((by rw [hg]; exact (below_size (bx HB.out)) : w.heap.size ≤ gb340)); have GE340 := zm ((by rw [hg]; exact (below_size (bx HB.out)) : w.heap.size ≤ gb340)); replace HB := zm (below_step (bx HB.out) hb); clear hb hbox hg; have hcz5_0 := bc0 BK340.out; have hcz5_1 := bc1 BK340.out; have hcz5_2 := bc2 BK340.out) | ((with_reducible refine gate_callee (f := 63) rfl ?_); refine goesL_ (some 4) rfl rfl Tryd.func63 (by kernel_rfl) rfl #[.agg #[.int .i64 a0_0, .int .i64 a0_1, .slice A0_2 l0_2.length c0_2]] rfl ag ?_; (with_reducible refine (treenailref03_Depth.calls k a0_0 a0_1 _ _ l0_2 t341 _ ?side1 HC0_2.out A2.out).mono ?_); (case side1 => exact cx (Kd.C_below HR0_2.out HB.out)); rintro e w6 ⟨rfl, hb⟩; refine ⟨_, rfl, ?_⟩; replace BK340 := zm (kB (kx BK340.out) hb); replace HB := zm (below_step (bx HB.out) hb); (try clear hb)))
 have H := HC3.out
 clear HC3
 by_cases c7 : t341 > 24
 ·rw [if_pos c7] at H
  have c7b0 : decide (24 < t341) = true := decide_eq_true c7
  clear c7
  (first | rw [c7b0] | (simp only [i64_w, i32_w]; rw [c7b0]) | skip)
  obtain rfl := Option.some.inj H
  go_wp2
  go_ret
  exact ⟨xe, bx HB.out⟩
 rw [if_neg c7] at H
 have c7b0 : decide (24 < t341) = false := decide_eq_false c7
 clear c7
 (first | rw [c7b0] | (simp only [i64_w, i32_w]; rw [c7b0]) | skip)
 replace H := Option.bind_eq_some_iff.mp H
 obtain ⟨t342, A80, H⟩ := H
 replace H : (if t342 = true then (some 0) else (some 4)) = some r := H
 have A8 := zm A80
 clear A80
 have HC9 := zm H
 clear H
 have hcz10_0 := bc0 BK340.out
 have hcz10_1 := bc1 BK340.out
 have hcz10_2 := bc2 BK340.out
 go_upto_if 8 with (first | ((with_reducible refine gate_callee (f := 64) rfl ?_); refine goesL_ (some 7) rfl rfl Tryd.func64 (by kernel_rfl) rfl #[.agg #[.int .i64 a0_0, .int .i64 a0_1, .slice A0_2 l0_2.length c0_2]] rfl ag ?_; (with_reducible refine (treenailref03_form.calls k a0_0 a0_1 _ _ l0_2 t342 _ ?side1 HC0_2.out A8.out).mono ?_); (case side1 => exact cx (Kd.C_below HR0_2.out HB.out)); rintro e w11 ⟨rfl, hb⟩; refine ⟨_, rfl, ?_⟩; replace BK340 := zm (kB (kx BK340.out) hb); replace HB := zm (below_step (bx HB.out) hb); (try clear hb)))
 have H := HC9.out
 clear HC9
 by_cases c12 : t342 = true
 ·subst c12
  rw [if_pos rfl] at H
  obtain rfl := Option.some.inj H
  go_wp2
  go_ret
  exact ⟨xe, bx HB.out⟩
 replace c12 := Bool.eq_false_iff.mpr c12
 subst c12
 rw [if_neg (show ¬ (false = true) by decide)] at H
 obtain rfl := Option.some.inj H
 go_wp2
 go_ret
 exact ⟨xe, bx HB.out⟩

def treenailref03_truth.f (a0 : Int) : Option (Bool) := if a0 = 4 then (some true) else (some (decide (a0 ≥ 10)))
set_option maxHeartbeats 8000000 in
set_option maxRecDepth 100000 in
theorem treenailref03_truth.calls (a0 : Int) (r : Bool) (w : World) (h : treenailref03_truth.f a0 = some r) :
  Calls Tryd.prog 60 #[.int .i64 a0] w fun e w' => e = .returned (.bool r) ∧ Drawn0 w w' := by
 have H : (if a0 = 4 then (some true) else (some (decide (a0 ≥ 10)))) = some r := h
 clear h
 by_cases c2 : a0 = 4
 ·rw [if_pos c2] at H
  have c2b0 := beq_iff_eq.mpr c2
  have c2b1 := bne_eq_false_iff_eq.mpr c2
  clear c2
  obtain rfl := Option.some.inj H
  go_enter Tryd.func60, Tryd.ntmps60
  go_wp2
  go_ret
  exact ⟨by first | rfl | (simp; done) | (simp [*]; done), by repeat (first | exact Drawn0.refl _ | apply Drawn0.step)⟩
 rw [if_neg c2] at H
 have c2b0 := beq_eq_false_iff_ne.mpr c2
 have c2b1 := bne_iff_ne.mpr c2
 obtain rfl := Option.some.inj H
 go_enter Tryd.func60, Tryd.ntmps60
 go_wp2
 go_ret
 exact ⟨by first | rfl | (simp; done) | (simp [*]; done), by repeat (first | exact Drawn0.refl _ | apply Drawn0.step)⟩

mutual
def treenailref03_typed.j0 : Nat → Bool → Int → Int → List (S35) → Option (Bool)
 | 0, _, _, _, _ => none
 | k + 1, x3, x344000, x344001, x344002 => treenailref03_typed.l0 k x3 x344002 (x344002.length : Int) 0
def treenailref03_typed.l0 : Nat → Bool → List (S35) → Int → Int → Option (Bool)
 | 0, _, _, _, _ => none
 | k + 1, x3, x15, x16, x17 => if x17 < x16 then (if 0 ≤ x17 then (if x17 < (x15.length : Int) then ((treenailref03_truth.f ((rd_T35 x15 x17).f0)).bind fun t346 => (if (t346 != x3) = true then (some false) else ((treenailref03_typed.f k ((rd_T35 x15 x17).f0) ((rd_T35 x15 x17).f1) ((rd_T35 x15 x17).f2)).bind fun t347 => (if t347 = true then (treenailref03_typed.l0 k x3 x15 x16 (wrap64 (x17 + 1))) else (some false))))) else (none)) else (none)) else (some true)
def treenailref03_typed.f : Nat → Int → Int → List (S35) → Option (Bool)
 | 0, _, _, _ => none
 | k + 1, a0_0, a0_1, l0_2 => if a0_0 = 4 then (treenailref03_typed.j0 k true a0_0 a0_1 l0_2) else (treenailref03_typed.j0 k (decide (a0_0 ≥ 13)) a0_0 a0_1 l0_2)
end
set_option maxRecDepth 100000 in
theorem treenailref03_typed.mono_l : ∀ k, (∀ y0 y1 y2, LeO (treenailref03_typed.f k y0 y1 y2) (treenailref03_typed.f (k + 1) y0 y1 y2)) ∧ (∀ y0 y1 y2 y3, LeO (treenailref03_typed.j0 k y0 y1 y2 y3) (treenailref03_typed.j0 (k + 1) y0 y1 y2 y3)) ∧ (∀ y0 y1 y2 y3, LeO (treenailref03_typed.l0 k y0 y1 y2 y3) (treenailref03_typed.l0 (k + 1) y0 y1 y2 y3))
 | 0 => ⟨fun _ _ _ r h => by first | (cases h; done) | simp [treenailref03_typed.f] at h, fun _ _ _ _ r h => by first | (cases h; done) | simp [treenailref03_typed.j0] at h, fun _ _ _ _ r h => by first | (cases h; done) | simp [treenailref03_typed.l0] at h⟩
 | k + 1 => by
  obtain ⟨ih0, ih1, ih2⟩ := treenailref03_typed.mono_l k
  refine ⟨?_, ?_, ?_⟩
  all_goals intros
  all_goals first | unfold treenailref03_typed.f | unfold treenailref03_typed.j0 | unfold treenailref03_typed.l0
  all_goals repeat' first
  | (with_reducible exact ih0 _ _ _)
  | (with_reducible exact ih1 _ _ _ _)
  | (with_reducible exact ih2 _ _ _ _)
  | (with_reducible exact LeO.refl _)
  | (with_reducible exact LeO.none _)
  | (with_reducible refine LeO.ite ?_ ?_)
  | (with_reducible refine LeO.bind ?_ (fun _ => ?_))
  | refine LeO.ite ?_ ?_
  | refine LeO.bind ?_ (fun _ => ?_)
set_option maxRecDepth 100000 in
theorem treenailref03_typed.mono : ∀ a0 a1 a2 k, LeO (treenailref03_typed.f k a0 a1 a2) (treenailref03_typed.f (k + 1) a0 a1 a2) := by
 intro a0 a1 a2 k
 obtain ⟨ih0, ih1, ih2⟩ := treenailref03_typed.mono_l k
 exact ih0 a0 a1 a2
set_option maxHeartbeats 8000000 in
set_option maxRecDepth 100000 in
theorem treenailref03_typed.calls (k : Nat) : ∀ (a0_0 : Int) (a0_1 : Int) (A0_2 : Option Addr) (c0_2 : Nat) (l0_2 : List (S35)) (r : Bool) (w : World) (hr0_2 : Kd.C k35 w A0_2 l0_2.length l0_2) (hc0_2 : l0_2.length ≤ c0_2) (h : treenailref03_typed.f k a0_0 a0_1 l0_2 = some r),
  Calls Tryd.prog 59 #[.agg #[.int .i64 a0_0, .int .i64 a0_1, .slice A0_2 l0_2.length c0_2]] w fun e w' => e = .returned (.bool r) ∧ Below w.heap.size w w' := by
 induction k using Nat.strongRecOn with
 | _ k ih =>
 intro a0_0 a0_1 A0_2 c0_2 l0_2 r w hr0_2 hc0_2 h
 cases k with
 | zero => exact absurd h (by first | (intro h_; cases h_; done) | simp [treenailref03_typed.f])
 | succ k =>
 simp only [treenailref03_typed.f] at h
 have hu35 := Tryd.underlying35
 have HR0_2 := zm hr0_2
 have HC0_2 := zm hc0_2
 clear hr0_2 hc0_2
 have HB := zm (Below.refl w.heap.size w)
 have H : (if a0_0 = 4 then (treenailref03_typed.j0 k true a0_0 a0_1 l0_2) else (treenailref03_typed.j0 k (decide (a0_0 ≥ 13)) a0_0 a0_1 l0_2)) = some r := h
 clear h
 have HC2 := zm H
 clear H
 go_enter Tryd.func59, Tryd.ntmps59
 go_upto_region 1 with (first | ((with_reducible refine gate_dst (N := 1) rfl ?_); refine box_event ?hg (N := 1) ?hd (cs := #[.int .i64 a0_0, .int .i64 a0_1, .slice A0_2 l0_2.length c0_2]) (t := 35) ?hr ?_; (case hd => rfl); (case hg => rfl); (case hr => first | (go_simp; done) | (go_simp; rfl)); intro gb343 hg w3 hbox hb; have BK343 := zm (hbox); have GW343 := zm ((by rw [hg]; exact (below_size (bx HB.out)) : w.heap.size ≤ gb343)); have GE343 := zm ((by rw [hg]; exact (below_size (bx HB.out)) : w.heap.size ≤ gb343)); replace HB := zm (below_step (bx HB.out) hb); clear hb hbox hg))
 (try simp only [Act.put, sS, sZ, sC])
 go_cut [3] (fun v3 wc => ∃ (kq : Nat) (x3_1 : Bool), v3 = .bool x3_1 ∧ Aside0 (treenailref03_typed.j0 kq x3_1 a0_0 a0_1 l0_2 = some r) ∧ Aside0 (kq ≤ k) ∧ Aside0 (wc.heap[gb343]? = some (.cells #[.int .i64 a0_0, .int .i64 a0_1, (.slice A0_2 l0_2.length c0_2)] 35 (0, 0))) ∧ Aside0 (Below w.heap.size w wc))
 case first =>
  have H := HC2.out
  clear HC2
  by_cases c4 : a0_0 = 4
  ·rw [if_pos c4] at H
   have c4b0 := beq_iff_eq.mpr c4
   have c4b1 := bne_eq_false_iff_eq.mpr c4
   clear c4
   (first | rw [c4b0] | (simp only [i64_w, i32_w]; rw [c4b0]) | rw [c4b1] | skip)
   have H' := zm H
   clear H
   have hcz5_0 := bc0 BK343.out
   have hcz5_1 := bc1 BK343.out
   have hcz5_2 := bc2 BK343.out
   have hfz5_0 := bF BK343.out 0
   have hfz5_1 := bF BK343.out 1
   have hfz5_2 := bF BK343.out 2
   go_wp2
   go_meet
   case rel => exact ⟨_, (true), (by first | rfl | (simp; done) | (simp [*]; done)), H', ⟨by first | omega | exact Nat.le_refl _⟩, ⟨kx BK343.out⟩, ⟨bx HB.out⟩⟩
  rw [if_neg c4] at H
  have c4b0 := beq_eq_false_iff_ne.mpr c4
  have c4b1 := bne_iff_ne.mpr c4
  (first | rw [c4b0] | (simp only [i64_w, i32_w]; rw [c4b0]) | rw [c4b1] | skip)
  have H' := zm H
  clear H
  have hcz6_0 := bc0 BK343.out
  have hcz6_1 := bc1 BK343.out
  have hcz6_2 := bc2 BK343.out
  have hfz6_0 := bF BK343.out 0
  have hfz6_1 := bF BK343.out 1
  have hfz6_2 := bF BK343.out 2
  go_wp2
  go_meet
  case rel => exact ⟨_, (decide (a0_0 ≥ 13)), (by first | rfl | (simp; done) | (simp [*]; done)), H', ⟨by first | omega | exact Nat.le_refl _⟩, ⟨kx BK343.out⟩, ⟨bx HB.out⟩⟩
 clear HC2
 try clear p2
 try clear c4
 try clear c4b0
 try clear c4b1
 try clear c5
 try clear BK343
 obtain ⟨kq, x3_1, rfl, HA, HJ1, BK343, HB⟩ := hcut
 cases kq with
 | zero => exact absurd HA.out (by first | (intro h_; cases h_; done) | simp [treenailref03_typed.j0])
 | succ kj1 =>
  have H := HA.out
  clear HA
  simp only [treenailref03_typed.j0] at H
  have H' := zm H
  clear H
  have hcz7_0 := bc0 BK343.out
  have hcz7_1 := bc1 BK343.out
  have hcz7_2 := bc2 BK343.out
  have hfz7_0 := bF BK343.out 0
  have hfz7_1 := bF BK343.out 1
  have hfz7_2 := bF BK343.out 2
  go_wp2
  go_loopg [17] kj1 (fun kq v17 w' => ∃ (x17_2 : Int), v17 = .int .i64 x17_2 ∧ Aside0 (treenailref03_typed.l0 kq x3_1 l0_2 (l0_2.length : Int) x17_2 = some r) ∧ Aside0 (kq ≤ kj1) ∧ Aside0 (w'.heap[gb343]? = some (.cells #[.int .i64 a0_0, .int .i64 a0_1, (.slice A0_2 l0_2.length c0_2)] 35 (0, 0))) ∧ Aside0 (Below w.heap.size w w'))
  case atStart => exact ⟨(0), (by first | rfl | (simp; done) | (simp [*]; done)), H', ⟨Nat.le_refl _⟩, ⟨kx BK343.out⟩, ⟨bx HB.out⟩⟩
  clear H'
  try clear p2
  try clear c4
  try clear c4b0
  try clear c4b1
  try clear c5
  try clear p2
  try clear BK343
  obtain ⟨x17_2, rfl, HA, HK2, BK343, HB⟩ := hrel
  cases gk with
  | zero => exact absurd HA.out (by first | (intro h_; cases h_; done) | simp [treenailref03_typed.l0])
  | succ k2 =>
   have H := HA.out
   clear HA
   simp only [treenailref03_typed.l0] at H
   by_cases c8 : x17_2 < (l0_2.length : Int)
   ·rw [if_pos c8] at H
    have c8b0 := decide_eq_true c8
    clear c8
    by_cases c9 : 0 ≤ x17_2
    ·rw [if_pos c9] at H
     have c9b0 := decide_eq_true c9
     clear c9
     by_cases c10 : x17_2 < (l0_2.length : Int)
     ·rw [if_pos c10] at H
      have c10b0 := decide_eq_true c10
      clear c10
      have HC11 := zm H
      clear H
      have p344 : 0 ≤ (x17_2 : Int) := od
      have q344 : x17_2 < (l0_2.length : Int) := od
      obtain ⟨ad344, A344_2, c344_2, e344, hx344_0, hx344_1, hx344_2, hl344_2, hi344_2⟩ := at_T35 HR0_2.out x17_2 p344 q344
      cases e344
      replace hx344_0 := cb HB.out hx344_0
      replace hx344_1 := cb HB.out hx344_1
      replace hx344_2 := cb HB.out hx344_2
      have HR344_2 := zm hi344_2
      have HC344_2 := zm hl344_2
      clear hi344_2 hl344_2
      replace p344 := eq_true p344
      replace q344 := eq_true q344
      go_upto_region 5 with (first | ((with_reducible refine gate_dst (N := 5) rfl ?_); refine box_event ?hg (N := 5) ?hd (cs := #[.int .i64 0, .int .i64 0, .slice none 0 0]) (t := 35) ?hr ?_; (case hd => rfl); (case hg => rfl); (case hr => first | (go_simp; done) | (go_simp; rfl)); intro gb345 hg w12 hbox hb; have BK345 := zm (hbox); have GW345 := zm ((by rw [hg]; exact (below_size (bx HB.out)) : w.heap.size ≤ gb345)); have GE345 := zm ((by rw [hg]; exact (below_size (bx HB.out)) : w.heap.size ≤ gb345)); replace HB := zm (below_step (bx HB.out) hb); have NB343_345 := zm ((by rw [hg]; exact Nat.ne_of_lt (blk_lt (g := gb343) (o := .cells #[.int .i64 a0_0, .int .i64 a0_1, .slice (some ad344) l0_2.length c0_2] 35 (0, 0)) (kx BK343.out)) : gb343 ≠ gb345)); have NB345_343 := zm ((by rw [hg]; exact Nat.ne_of_gt (blk_lt (g := gb343) (o := .cells #[.int .i64 a0_0, .int .i64 a0_1, .slice (some ad344) l0_2.length c0_2] 35 (0, 0)) (kx BK343.out)) : gb345 ≠ gb343)); replace BK343 := zm (kB (kx BK343.out) hb); clear hb hbox hg; have hnb13 := NB345_343.out; have hnc13 := NB343_345.out; have hcz14_0 := bc0 BK345.out; have hcz14_1 := bc1 BK345.out; have hcz14_2 := bc2 BK345.out; have hfz14_0 := bF BK345.out 0; have hfz14_1 := bF BK345.out 1; have hfz14_2 := bF BK345.out 2))
      have H := HC11.out
      clear HC11
      replace H := Option.bind_eq_some_iff.mp H
      obtain ⟨t346, A150, H⟩ := H
      replace H : (if (t346 != x3_1) = true then (some false) else ((treenailref03_typed.f k2 ((rd_T35 l0_2 x17_2).f0) ((rd_T35 l0_2 x17_2).f1) ((rd_T35 l0_2 x17_2).f2)).bind fun t347 => (if t347 = true then (treenailref03_typed.l0 k2 x3_1 l0_2 (l0_2.length : Int) (wrap64 (x17_2 + 1))) else (some false)))) = some r := H
      have A15 := zm A150
      clear A150
      by_cases c16 : (t346 != x3_1) = true
      ·rw [if_pos c16] at H
       have c16b0 : (t346 != x3_1) = true := c16
       (try (have c16b1 : decide (t346 = x3_1) = false := by simpa using c16))
       (try (have c16b2 : (t346 == x3_1) = false := by simpa using c16))
       (try (have c16b3 : ¬ (t346 = x3_1) := by simpa using c16))
       clear c16
       obtain rfl := Option.some.inj H
       have hnb17 := NB345_343.out
       have hnc17 := NB343_345.out
       have hcz18_0 := bc0 BK345.out
       have hcz18_1 := bc1 BK345.out
       have hcz18_2 := bc2 BK345.out
       have hfz18_0 := bF BK345.out 0
       have hfz18_1 := bF BK345.out 1
       have hfz18_2 := bF BK345.out 2
       go_wp2_with (first | ((with_reducible refine gate_callee (f := 60) rfl ?_); refine goesL_ (some 23) rfl rfl Tryd.func60 (by kernel_rfl) rfl #[.int .i64 ((rd_T35 l0_2 x17_2).f0)] rfl ag ?_; (with_reducible refine (treenailref03_truth.calls ((rd_T35 l0_2 x17_2).f0) t346 _ A15.out).mono ?_); rintro e w' ⟨rfl, ⟨nd, rfl⟩⟩; refine ⟨_, rfl, ?_⟩))
       go_ret
       exact ⟨xe, bx HB.out⟩
      rw [if_neg c16] at H
      have c16b0 : (t346 != x3_1) = false := by simpa using c16
      (try (have c16b1 : decide (t346 = x3_1) = true := by simpa using c16))
      (try (have c16b2 : (t346 == x3_1) = true := by simpa using c16))
      clear c16
      replace H := Option.bind_eq_some_iff.mp H
      obtain ⟨t347, A190, H⟩ := H
      replace H : (if t347 = true then (treenailref03_typed.l0 k2 x3_1 l0_2 (l0_2.length : Int) (wrap64 (x17_2 + 1))) else (some false)) = some r := H
      have A19 := zm A190
      clear A190
      have HC20 := zm H
      clear H
      have hnb21 := NB345_343.out
      have hnc21 := NB343_345.out
      have hcz22_0 := bc0 BK345.out
      have hcz22_1 := bc1 BK345.out
      have hcz22_2 := bc2 BK345.out
      have hfz22_0 := bF BK345.out 0
      have hfz22_1 := bF BK345.out 1
      have hfz22_2 := bF BK345.out 2
      go_upto_if 30 with (first | ((with_reducible refine gate_callee (f := 60) rfl ?_); refine goesL_ (some 23) rfl rfl Tryd.func60 (by kernel_rfl) rfl #[.int .i64 ((rd_T35 l0_2 x17_2).f0)] rfl ag ?_; (with_reducible refine (treenailref03_truth.calls ((rd_T35 l0_2 x17_2).f0) t346 _ A15.out).mono ?_); rintro e w' ⟨rfl, ⟨nd, rfl⟩⟩; refine ⟨_, rfl, ?_⟩) | (go_at_call 59; (with_reducible refine (ih k2 (by have := HJ1.out; have := HK2.out; omega) ((rd_T35 l0_2 x17_2).f0) ((rd_T35 l0_2 x17_2).f1) _ _ ((rd_T35 l0_2 x17_2).f2) t347 _ ?side1 ?side2 A19.out).mono ?_); (case side1 => exact Kd.C_below HR344_2.out (bx HB.out)); (case side2 => exact HC344_2.out); rintro e w23 ⟨rfl, hb⟩; replace BK343 := zm (kB (g := gb343) (o := .cells #[.int .i64 a0_0, .int .i64 a0_1, .slice (some ad344) l0_2.length c0_2] 35 (0, 0)) (by (with_reducible repeat first | apply kN | apply kD | apply kA); refine blk_far ?_ NB343_345.out _; (with_reducible repeat first | apply kN | apply kD | apply kA); refine blk_far ?_ NB343_345.out _; (with_reducible repeat first | apply kN | apply kD | apply kA); refine blk_far ?_ NB343_345.out _; (with_reducible repeat first | apply kN | apply kD | apply kA); exact BK343.out) hb); replace BK345 := zm (kB (g := gb345) (o := .cells #[.int .i64 ((rd_T35 l0_2 x17_2).f0), .int .i64 ((rd_T35 l0_2 x17_2).f1), .slice A344_2 ((rd_T35 l0_2 x17_2).f2).length c344_2] 35 (0, 0)) (by (with_reducible repeat first | apply kN | apply kD | apply kA); refine blk_put (cs := #[.int .i64 ((rd_T35 l0_2 x17_2).f0), .int .i64 ((rd_T35 l0_2 x17_2).f1), .slice none 0 0]) ?_ 2 _ rfl; (with_reducible repeat first | apply kN | apply kD | apply kA); refine blk_put (cs := #[.int .i64 ((rd_T35 l0_2 x17_2).f0), .int .i64 0, .slice none 0 0]) ?_ 1 _ rfl; (with_reducible repeat first | apply kN | apply kD | apply kA); refine blk_put (cs := #[.int .i64 0, .int .i64 0, .slice none 0 0]) ?_ 0 _ rfl; (with_reducible repeat first | apply kN | apply kD | apply kA); exact BK345.out) hb); replace HB := zm (below_step (bx HB.out) hb); (try clear hb); (try clear hb2); (try clear hk); (try clear hi)))
      have H := HC20.out
      clear HC20
      by_cases c24 : t347 = true
      ·subst c24
       rw [if_pos rfl] at H
       have H' := zm H
       clear H
       go_wp2
       go_roundg k2
       case measure => have := HJ1.out; have := HK2.out; omega
       case rel => exact ⟨(wrap64 (x17_2 + 1)), (by first | rfl | (simp; done) | (simp [*]; done)), H', ⟨by have := HJ1.out; have := HK2.out; omega⟩, ⟨kx BK343.out⟩, ⟨bx HB.out⟩⟩
      replace c24 := Bool.eq_false_iff.mpr c24
      subst c24
      rw [if_neg (show ¬ (false = true) by decide)] at H
      obtain rfl := Option.some.inj H
      go_wp2
      go_ret
      exact ⟨xe, bx HB.out⟩
     rw [if_neg c10] at H
     exact absurd H (by simp)
    rw [if_neg c9] at H
    exact absurd H (by simp)
   rw [if_neg c8] at H
   have c8b0 := decide_eq_false c8
   try (have c8b9 := c8b0; rw [hl344_2] at c8b9)
   clear c8
   obtain rfl := Option.some.inj H
   go_wp2
   go_ret
   exact ⟨xe, bx HB.out⟩

def treenailref03_Check.f (k : Nat) (a0_0 : Int) (a0_1 : Int) (l0_2 : List (S35)) : Option (Int × Int) := (treenailref03_Wrong.f k a0_0 a0_1 l0_2).bind fun t349 => (if t349 = 0 then ((treenailref03_typed.f k a0_0 a0_1 l0_2).bind fun t350 => (if t350 = true then ((treenailref03_truth.f a0_0).bind fun t351 => (if t351 = true then (some (2, 0)) else (some (1, 0)))) else (some (0, 30)))) else (some (0, t349)))
set_option maxRecDepth 100000 in
theorem treenailref03_Check.mono : ∀ a0 a1 a2 k, LeO (treenailref03_Check.f k a0 a1 a2) (treenailref03_Check.f (k + 1) a0 a1 a2) := by
 intro a0 a1 a2 k
 unfold treenailref03_Check.f
 repeat' first
 | (with_reducible exact treenailref03_Wrong.mono _ _ _ _)
 | (with_reducible exact treenailref03_typed.mono _ _ _ _)
 | (with_reducible exact LeO.refl _)
 | (with_reducible exact LeO.none _)
 | (with_reducible refine LeO.ite ?_ ?_)
 | (with_reducible refine LeO.bind ?_ (fun _ => ?_))
 | refine LeO.ite ?_ ?_
 | refine LeO.bind ?_ (fun _ => ?_)
set_option maxHeartbeats 8000000 in
set_option maxRecDepth 100000 in
theorem treenailref03_Check.calls (k : Nat) (a0_0 : Int) (a0_1 : Int) (A0_2 : Option Addr) (c0_2 : Nat) (l0_2 : List (S35)) (r1 : Int) (r2 : Int) (w : World) (hr0_2 : Kd.C k35 w A0_2 l0_2.length l0_2) (hc0_2 : l0_2.length ≤ c0_2) (h : treenailref03_Check.f k a0_0 a0_1 l0_2 = some (r1, r2)) :
  Calls Tryd.prog 56 #[.agg #[.int .i64 a0_0, .int .i64 a0_1, .slice A0_2 l0_2.length c0_2]] w fun e w' => e = .returned (.tuple #[.int .i64 r1, .int .i64 r2]) ∧ Below w.heap.size w w' := by
 have hu35 := Tryd.underlying35
 have HR0_2 := zm hr0_2
 have HC0_2 := zm hc0_2
 clear hr0_2 hc0_2
 have HB := zm (Below.refl w.heap.size w)
 have H : ((treenailref03_Wrong.f k a0_0 a0_1 l0_2).bind fun t349 => (if t349 = 0 then ((treenailref03_typed.f k a0_0 a0_1 l0_2).bind fun t350 => (if t350 = true then ((treenailref03_truth.f a0_0).bind fun t351 => (if t351 = true then (some (2, 0)) else (some (1, 0)))) else (some (0, 30)))) else (some (0, t349)))) = some (r1, r2) := h
 clear h
 replace H := Option.bind_eq_some_iff.mp H
 obtain ⟨t349, A20, H⟩ := H
 replace H : (if t349 = 0 then ((treenailref03_typed.f k a0_0 a0_1 l0_2).bind fun t350 => (if t350 = true then ((treenailref03_truth.f a0_0).bind fun t351 => (if t351 = true then (some (2, 0)) else (some (1, 0)))) else (some (0, 30)))) else (some (0, t349))) = some (r1, r2) := H
 have A2 := zm A20
 clear A20
 have HC3 := zm H
 clear H
 go_enter Tryd.func56, Tryd.ntmps56
 go_upto_if 8 with (first | ((with_reducible refine gate_dst (N := 1) rfl ?_); refine box_event ?hg (N := 1) ?hd (cs := #[.int .i64 a0_0, .int .i64 a0_1, .slice A0_2 l0_2.length c0_2]) (t := 35) ?hr ?_; (case hd => rfl); (case hg => rfl); (case hr => first | (go_simp; done) | (go_simp; rfl)); intro gb348 hg w4 hbox hb; have BK348 := zm (hbox); have GW348 := zm ((by rw [hg]; exact (below_size (bx HB.out)) : w.heap.size ≤ gb348)); have GE348 := zm ((by rw [hg]; exact (below_size (bx HB.out)) : w.heap.size ≤ gb348)); replace HB := zm (below_step (bx HB.out) hb); clear hb hbox hg; have hcz5_0 := bc0 BK348.out; have hcz5_1 := bc1 BK348.out; have hcz5_2 := bc2 BK348.out) | ((with_reducible refine gate_callee (f := 58) rfl ?_); refine goesL_ (some 6) rfl rfl Tryd.func58 (by kernel_rfl) rfl #[.agg #[.int .i64 a0_0, .int .i64 a0_1, .slice A0_2 l0_2.length c0_2]] rfl ag ?_; (with_reducible refine (treenailref03_Wrong.calls k a0_0 a0_1 _ _ l0_2 t349 _ ?side1 HC0_2.out A2.out).mono ?_); (case side1 => exact cx (Kd.C_below HR0_2.out HB.out)); rintro e w6 ⟨rfl, hb⟩; refine ⟨_, rfl, ?_⟩; replace BK348 := zm (kB (kx BK348.out) hb); replace HB := zm (below_step (bx HB.out) hb); (try clear hb)))
 have H := HC3.out
 clear HC3
 by_cases c7 : t349 = 0
 ·rw [if_pos c7] at H
  have c7b0 := beq_iff_eq.mpr c7
  have c7b1 := bne_eq_false_iff_eq.mpr c7
  clear c7
  (first | rw [c7b0] | (simp only [i64_w, i32_w]; rw [c7b0]) | rw [c7b1] | skip)
  replace H := Option.bind_eq_some_iff.mp H
  obtain ⟨t350, A80, H⟩ := H
  replace H : (if t350 = true then ((treenailref03_truth.f a0_0).bind fun t351 => (if t351 = true then (some (2, 0)) else (some (1, 0)))) else (some (0, 30))) = some (r1, r2) := H
  have A8 := zm A80
  clear A80
  have HC9 := zm H
  clear H
  have hcz10_0 := bc0 BK348.out
  have hcz10_1 := bc1 BK348.out
  have hcz10_2 := bc2 BK348.out
  go_upto_if 12 with (first | ((with_reducible refine gate_callee (f := 59) rfl ?_); refine goesL_ (some 11) rfl rfl Tryd.func59 (by kernel_rfl) rfl #[.agg #[.int .i64 a0_0, .int .i64 a0_1, .slice A0_2 l0_2.length c0_2]] rfl ag ?_; (with_reducible refine (treenailref03_typed.calls k a0_0 a0_1 _ _ l0_2 t350 _ ?side1 HC0_2.out A8.out).mono ?_); (case side1 => exact cx (Kd.C_below HR0_2.out HB.out)); rintro e w11 ⟨rfl, hb⟩; refine ⟨_, rfl, ?_⟩; replace BK348 := zm (kB (kx BK348.out) hb); replace HB := zm (below_step (bx HB.out) hb); (try clear hb)))
  have H := HC9.out
  clear HC9
  by_cases c12 : t350 = true
  ·subst c12
   rw [if_pos rfl] at H
   replace H := Option.bind_eq_some_iff.mp H
   obtain ⟨t351, A130, H⟩ := H
   replace H : (if t351 = true then (some (2, 0)) else (some (1, 0))) = some (r1, r2) := H
   have A13 := zm A130
   clear A130
   have HC14 := zm H
   clear H
   have hcz15_0 := bc0 BK348.out
   have hcz15_1 := bc1 BK348.out
   have hcz15_2 := bc2 BK348.out
   go_upto_if 15 with (first | ((with_reducible refine gate_callee (f := 60) rfl ?_); refine goesL_ (some 15) rfl rfl Tryd.func60 (by kernel_rfl) rfl #[.int .i64 a0_0] rfl ag ?_; (with_reducible refine (treenailref03_truth.calls a0_0 t351 _ A13.out).mono ?_); rintro e w' ⟨rfl, ⟨nd, rfl⟩⟩; refine ⟨_, rfl, ?_⟩))
   have H := HC14.out
   clear HC14
   by_cases c16 : t351 = true
   ·subst c16
    rw [if_pos rfl] at H
    simp only [Option.some.injEq, Prod.mk.injEq] at H
    obtain ⟨rfl, rfl⟩ := H
    go_wp2
    go_ret2
    exact ⟨xe, bx HB.out⟩
   replace c16 := Bool.eq_false_iff.mpr c16
   subst c16
   rw [if_neg (show ¬ (false = true) by decide)] at H
   simp only [Option.some.injEq, Prod.mk.injEq] at H
   obtain ⟨rfl, rfl⟩ := H
   go_wp2
   go_ret2
   exact ⟨xe, bx HB.out⟩
  replace c12 := Bool.eq_false_iff.mpr c12
  subst c12
  rw [if_neg (show ¬ (false = true) by decide)] at H
  simp only [Option.some.injEq, Prod.mk.injEq] at H
  obtain ⟨rfl, rfl⟩ := H
  go_wp2
  go_ret2
  exact ⟨xe, bx HB.out⟩
 rw [if_neg c7] at H
 have c7b0 := beq_eq_false_iff_ne.mpr c7
 have c7b1 := bne_iff_ne.mpr c7
 (first | rw [c7b0] | (simp only [i64_w, i32_w]; rw [c7b0]) | rw [c7b1] | skip)
 simp only [Option.some.injEq, Prod.mk.injEq] at H
 obtain ⟨rfl, rfl⟩ := H
 go_wp2
 go_ret2
 exact ⟨xe, bx HB.out⟩

def treenailref05_of.f (k : Nat) (a0_0 : Int) (a0_1 : Int) (l0_2 : List (S35)) (a1 : Int) : Option (Bool) := (treenailref03_Check.f k a0_0 a0_1 l0_2).bind fun bt353 => (if bt353.2 = 0 then (some (bt353.1 == a1)) else (some false))
set_option maxRecDepth 100000 in
theorem treenailref05_of.mono : ∀ a0 a1 a2 a3 k, LeO (treenailref05_of.f k a0 a1 a2 a3) (treenailref05_of.f (k + 1) a0 a1 a2 a3) := by
 intro a0 a1 a2 a3 k
 unfold treenailref05_of.f
 repeat' first
 | (with_reducible exact treenailref03_Check.mono _ _ _ _)
 | (with_reducible exact LeO.refl _)
 | (with_reducible exact LeO.none _)
 | (with_reducible refine LeO.ite ?_ ?_)
 | (with_reducible refine LeO.bind ?_ (fun _ => ?_))
 | refine LeO.ite ?_ ?_
 | refine LeO.bind ?_ (fun _ => ?_)
set_option maxHeartbeats 8000000 in
set_option maxRecDepth 100000 in
theorem treenailref05_of.calls (k : Nat) (a0_0 : Int) (a0_1 : Int) (A0_2 : Option Addr) (c0_2 : Nat) (l0_2 : List (S35)) (a1 : Int) (r : Bool) (w : World) (hr0_2 : Kd.C k35 w A0_2 l0_2.length l0_2) (hc0_2 : l0_2.length ≤ c0_2) (h : treenailref05_of.f k a0_0 a0_1 l0_2 a1 = some r) :
  Calls Tryd.prog 49 #[.agg #[.int .i64 a0_0, .int .i64 a0_1, .slice A0_2 l0_2.length c0_2], .int .i64 a1] w fun e w' => e = .returned (.bool r) ∧ Below w.heap.size w w' := by
 have hu35 := Tryd.underlying35
 have HR0_2 := zm hr0_2
 have HC0_2 := zm hc0_2
 clear hr0_2 hc0_2
 have HB := zm (Below.refl w.heap.size w)
 have H : ((treenailref03_Check.f k a0_0 a0_1 l0_2).bind fun bt353 => (if bt353.2 = 0 then (some (bt353.1 == a1)) else (some false))) = some r := h
 clear h
 replace H := Option.bind_eq_some_iff.mp H
 obtain ⟨⟨t353, t354⟩, A30, H⟩ := H
 replace H : (if t354 = 0 then (some (t353 == a1)) else (some false)) = some r := H
 have A3 := zm A30
 clear A30
 have HC4 := zm H
 clear H
 go_enter Tryd.func49, Tryd.ntmps49
 go_upto_region 2 with (first | ((with_reducible refine gate_dst (N := 2) rfl ?_); refine box_event ?hg (N := 2) ?hd (cs := #[.int .i64 a0_0, .int .i64 a0_1, .slice A0_2 l0_2.length c0_2]) (t := 35) ?hr ?_; (case hd => rfl); (case hg => rfl); (case hr => first | (go_simp; done) | (go_simp; rfl)); intro gb352 hg w5 hbox hb; have BK352 := zm (hbox); have GW352 := zm ((by rw [hg]; exact (below_size (bx HB.out)) : w.heap.size ≤ gb352)); have GE352 := zm ((by rw [hg]; exact (below_size (bx HB.out)) : w.heap.size ≤ gb352)); replace HB := zm (below_step (bx HB.out) hb); clear hb hbox hg; have hcz6_0 := bc0 BK352.out; have hcz6_1 := bc1 BK352.out; have hcz6_2 := bc2 BK352.out) | ((with_reducible refine gate_callee (f := 56) rfl ?_); refine goesL_ (some 9) rfl rfl Tryd.func56 (by kernel_rfl) rfl #[.agg #[.int .i64 a0_0, .int .i64 a0_1, .slice A0_2 l0_2.length c0_2]] rfl ag ?_; (with_reducible refine (treenailref03_Check.calls k a0_0 a0_1 _ _ l0_2 t353 t354 _ ?side1 HC0_2.out A3.out).mono ?_); (case side1 => exact cx (Kd.C_below HR0_2.out HB.out)); rintro e w7 ⟨rfl, hb⟩; refine ⟨_, rfl, ?_⟩; replace BK352 := zm (kB (kx BK352.out) hb); replace HB := zm (below_step (bx HB.out) hb); (try clear hb)))
 have H := HC4.out
 clear HC4
 by_cases c8 : t354 = 0
 ·rw [if_pos c8] at H
  have c8b0 := beq_iff_eq.mpr c8
  have c8b1 := bne_eq_false_iff_eq.mpr c8
  clear c8
  obtain rfl := Option.some.inj H
  go_wp2
  go_ret
  exact ⟨xe, bx HB.out⟩
 rw [if_neg c8] at H
 have c8b0 := beq_eq_false_iff_ne.mpr c8
 have c8b1 := bne_iff_ne.mpr c8
 obtain rfl := Option.some.inj H
 go_wp2
 go_ret
 exact ⟨xe, bx HB.out⟩

def treenailref05_none.f (a0_0 : Int) (a0_1 : Int) (l0_2 : List (S35)) : Option (Bool) := if a0_0 = 0 then (if a0_1 = 0 then (some ((l0_2.length : Int) == 0)) else (some false)) else (some false)
set_option maxHeartbeats 8000000 in
set_option maxRecDepth 100000 in
theorem treenailref05_none.calls (a0_0 : Int) (a0_1 : Int) (A0_2 : Option Addr) (c0_2 : Nat) (l0_2 : List (S35)) (r : Bool) (w : World) (hr0_2 : Kd.C k35 w A0_2 l0_2.length l0_2) (hc0_2 : l0_2.length ≤ c0_2) (h : treenailref05_none.f a0_0 a0_1 l0_2 = some r) :
  Calls Tryd.prog 50 #[.agg #[.int .i64 a0_0, .int .i64 a0_1, .slice A0_2 l0_2.length c0_2]] w fun e w' => e = .returned (.bool r) ∧ Below w.heap.size w w' := by
 have hu35 := Tryd.underlying35
 have HR0_2 := zm hr0_2
 have HC0_2 := zm hc0_2
 clear hr0_2 hc0_2
 have HB := zm (Below.refl w.heap.size w)
 have H : (if a0_0 = 0 then (if a0_1 = 0 then (some ((l0_2.length : Int) == 0)) else (some false)) else (some false)) = some r := h
 clear h
 have HC2 := zm H
 clear H
 go_enter Tryd.func50, Tryd.ntmps50
 go_upto_region 1 with (first | ((with_reducible refine gate_dst (N := 1) rfl ?_); (try (refine gate_guard (by rfl) ?_; dsimp only)); refine box_event ?hg (N := 1) ?hd (cs := #[.int .i64 a0_0, .int .i64 a0_1, .slice A0_2 l0_2.length c0_2]) (t := 35) ?hr ?_; (case hd => rfl); (case hg => rfl); (case hr => first | (go_simp; done) | (go_simp; rfl)); intro gb355 hg w3 hbox hb; have BK355 := zm (hbox); have GW355 := zm ((by rw [hg]; exact (below_size (bx HB.out)) : w.heap.size ≤ gb355)); have GE355 := zm ((by rw [hg]; exact (below_size (bx HB.out)) : w.heap.size ≤ gb355)); replace HB := zm (below_step (bx HB.out) hb); clear hb hbox hg))
 have H := HC2.out
 clear HC2
 by_cases c4 : a0_0 = 0
 ·rw [if_pos c4] at H
  have c4b0 := beq_iff_eq.mpr c4
  have c4b1 := bne_eq_false_iff_eq.mpr c4
  clear c4
  by_cases c5 : a0_1 = 0
  ·rw [if_pos c5] at H
   have c5b0 := beq_iff_eq.mpr c5
   have c5b1 := bne_eq_false_iff_eq.mpr c5
   clear c5
   obtain rfl := Option.some.inj H
   have hcz6_0 := bc0 BK355.out
   have hcz6_1 := bc1 BK355.out
   have hcz6_2 := bc2 BK355.out
   go_wp2
   go_ret
   exact ⟨xe, bx HB.out⟩
  rw [if_neg c5] at H
  have c5b0 := beq_eq_false_iff_ne.mpr c5
  have c5b1 := bne_iff_ne.mpr c5
  obtain rfl := Option.some.inj H
  have hcz7_0 := bc0 BK355.out
  have hcz7_1 := bc1 BK355.out
  have hcz7_2 := bc2 BK355.out
  go_wp2
  go_ret
  exact ⟨xe, bx HB.out⟩
 rw [if_neg c4] at H
 have c4b0 := beq_eq_false_iff_ne.mpr c4
 have c4b1 := bne_iff_ne.mpr c4
 obtain rfl := Option.some.inj H
 have hcz8_0 := bc0 BK355.out
 have hcz8_1 := bc1 BK355.out
 have hcz8_2 := bc2 BK355.out
 go_wp2
 go_ret
 exact ⟨xe, bx HB.out⟩

end Go.Proofs.YtdaeiicdpfghlaaDoor.R
