import Derived.Test.YtdaeiicdpfghlaaDoorSx0
import Derived.Test.YtdaeiicdpfghlaaDoorSx2
import Derived.Test.YtdaeiicdpfghlaaDoorSx3
import Derived.Test.YtdaeiicdpfghlaaDoorSx5
import Derived.Test.YtdaeiicdpfghlaaDoorSx7
namespace Go.Proofs.YtdaeiicdpfghlaaDoor.R
open Go.RowKit Go.Proofs.YtdaeiicdpfghlaaDoorW.PrintWords Go.Proofs.YtdaeiicdpfghlaaDoorW.PrintLast Go.Proofs.YtdaeiicdpfghlaaDoorW.PrintMore
attribute [local go_sem] max2_int min2_int max_two min_two max_three min_three max_four min_four   -- for this text's walks alone
set_option linter.unusedVariables false
set_option linter.unusedSimpArgs false

def treenailref05_First.l0 : Nat → Int → List (S37) → Int → Int → Option (Int)
 | 0, _, _, _, _ => none
 | k + 1, x1, x8, x9, x10 => if x10 < x9 then (if 0 ≤ x10 then (if x10 < (x8.length : Int) then (if ((rd_T37 x8 x10).f0) = x1 then (some x10) else (treenailref05_First.l0 k x1 x8 x9 (wrap64 (x10 + 1)))) else (none)) else (none)) else (some (-1))
def treenailref05_First.f (k : Nat) (l0_0 : List (S37)) (l0_1 : List (S53)) (a1 : Int) : Option (Int) := treenailref05_First.l0 k a1 l0_0 (l0_0.length : Int) 0
set_option maxRecDepth 100000 in
theorem treenailref05_First.mono_l : ∀ k, (∀ y0 y1 y2 y3, LeO (treenailref05_First.l0 k y0 y1 y2 y3) (treenailref05_First.l0 (k + 1) y0 y1 y2 y3))
 | 0 => fun _ _ _ _ r h => by first | (cases h; done) | simp [treenailref05_First.l0] at h
 | k + 1 => by
  have ih0 := treenailref05_First.mono_l k
  ·intro y0 y1 y2 y3
   unfold treenailref05_First.l0
   repeat' first
   | (with_reducible exact ih0 _ _ _ _)
   | (with_reducible exact LeO.refl _)
   | (with_reducible exact LeO.none _)
   | (with_reducible refine LeO.ite ?_ ?_)
   | (with_reducible refine LeO.bind ?_ (fun _ => ?_))
   | refine LeO.ite ?_ ?_
   | refine LeO.bind ?_ (fun _ => ?_)
set_option maxRecDepth 100000 in
theorem treenailref05_First.mono : ∀ a0 a1 a2 k, LeO (treenailref05_First.f k a0 a1 a2) (treenailref05_First.f (k + 1) a0 a1 a2) := by
 intro a0 a1 a2 k
 have ih0 := treenailref05_First.mono_l k
 unfold treenailref05_First.f
 repeat' first
 | (with_reducible exact ih0 _ _ _ _)
 | (with_reducible exact LeO.refl _)
 | (with_reducible exact LeO.none _)
 | (with_reducible refine LeO.ite ?_ ?_)
 | (with_reducible refine LeO.bind ?_ (fun _ => ?_))
 | refine LeO.ite ?_ ?_
 | refine LeO.bind ?_ (fun _ => ?_)
set_option maxHeartbeats 8000000 in
set_option maxRecDepth 100000 in
theorem treenailref05_First.calls (k : Nat) (A0_0 : Option Addr) (c0_0 : Nat) (l0_0 : List (S37)) (A0_1 : Option Addr) (c0_1 : Nat) (l0_1 : List (S53)) (a1 : Int) (r : Int) (w : World) (hr0_0 : Kd.C k37 w A0_0 l0_0.length l0_0) (hc0_0 : l0_0.length ≤ c0_0) (hr0_1 : Kd.C k53 w A0_1 l0_1.length l0_1) (hc0_1 : l0_1.length ≤ c0_1) (h : treenailref05_First.f k l0_0 l0_1 a1 = some r) :
  Calls Tryd.prog 23 #[.agg #[.slice A0_0 l0_0.length c0_0, .slice A0_1 l0_1.length c0_1], .int .i64 a1] w fun e w' => e = .returned (.int .i64 r) ∧ Below w.heap.size w w' := by
 have hu25 := Tryd.underlying25
 have hu37 := Tryd.underlying37
 have HR0_0 := zm hr0_0
 have HC0_0 := zm hc0_0
 clear hr0_0 hc0_0
 have HR0_1 := zm hr0_1
 have HC0_1 := zm hc0_1
 clear hr0_1 hc0_1
 have HB := zm (Below.refl w.heap.size w)
 have H : (treenailref05_First.l0 k a1 l0_0 (l0_0.length : Int) 0) = some r := h
 clear h
 have H' := zm H
 clear H
 go_enter Tryd.func23, Tryd.ntmps23
 go_wp2_with (first | ((with_reducible refine gate_dst (N := 2) rfl ?_); refine box_event ?hg (N := 2) ?hd (cs := #[.slice A0_0 l0_0.length c0_0, .slice A0_1 l0_1.length c0_1]) (t := 25) ?hr ?_; (case hd => rfl); (case hg => rfl); (case hr => first | (go_simp; done) | (go_simp; rfl)); intro gb290 hg w3 hbox hb; have BK290 := zm (hbox); have GW290 := zm ((by rw [hg]; exact (below_size (bx HB.out)) : w.heap.size ≤ gb290)); have GE290 := zm ((by rw [hg]; exact (below_size (bx HB.out)) : w.heap.size ≤ gb290)); replace HB := zm (below_step (bx HB.out) hb); clear hb hbox hg; have hcz4_0 := bc0 BK290.out; have hcz4_1 := bc1 BK290.out; have hfz4_0 := bF BK290.out 0; have hfz4_1 := bF BK290.out 1))
 go_loopg [10] k (fun kq v10 w' => ∃ (x10_1 : Int), v10 = .int .i64 x10_1 ∧ Aside0 (treenailref05_First.l0 kq a1 l0_0 (l0_0.length : Int) x10_1 = some r) ∧ Aside0 (kq ≤ k) ∧ Aside0 (w'.heap[gb290]? = some (.cells #[(.slice A0_0 l0_0.length c0_0), (.slice A0_1 l0_1.length c0_1)] 25 (0, 0))) ∧ Aside0 (Below w.heap.size w w'))
 case atStart => exact ⟨(0), (by first | rfl | (simp; done) | (simp [*]; done)), H', ⟨Nat.le_refl _⟩, ⟨kx BK290.out⟩, ⟨bx HB.out⟩⟩
 clear H'
 try clear c2
 try clear p2
 try clear BK290
 obtain ⟨x10_1, rfl, HA, HK1, BK290, HB⟩ := hrel
 cases gk with
 | zero => exact absurd HA.out (by first | (intro h_; cases h_; done) | simp [treenailref05_First.l0])
 | succ k1 =>
  have H := HA.out
  clear HA
  simp only [treenailref05_First.l0] at H
  by_cases c5 : x10_1 < (l0_0.length : Int)
  ·rw [if_pos c5] at H
   have c5b0 := decide_eq_true c5
   clear c5
   by_cases c6 : 0 ≤ x10_1
   ·rw [if_pos c6] at H
    have c6b0 := decide_eq_true c6
    clear c6
    by_cases c7 : x10_1 < (l0_0.length : Int)
    ·rw [if_pos c7] at H
     have c7b0 := decide_eq_true c7
     clear c7
     have HC8 := zm H
     clear H
     have p291 : 0 ≤ (x10_1 : Int) := od
     have q291 : x10_1 < (l0_0.length : Int) := od
     obtain ⟨ad291, A291_4, c291_4, e291, hx291_0, hx291_1, hx291_2, hx291_3, hx291_4, hl291_4, hi291_4⟩ := at_T37 HR0_0.out x10_1 p291 q291
     cases e291
     replace hx291_0 := cb HB.out hx291_0
     replace hx291_1 := cb HB.out hx291_1
     replace hx291_2 := cb HB.out hx291_2
     replace hx291_3 := cb HB.out hx291_3
     replace hx291_4 := cb HB.out hx291_4
     have HR291_4 := zm hi291_4
     have HC291_4 := zm hl291_4
     clear hi291_4 hl291_4
     replace p291 := eq_true p291
     replace q291 := eq_true q291
     go_upto_if 18 with (first | ((with_reducible refine gate_dst (N := 6) rfl ?_); refine box_event ?hg (N := 6) ?hd (cs := #[.int .i64 0, .int .i64 0, .int .i64 0, .int .i64 0, .slice none 0 0]) (t := 37) ?hr ?_; (case hd => rfl); (case hg => rfl); (case hr => first | (go_simp; done) | (go_simp; rfl)); intro gb292 hg w9 hbox hb; have BK292 := zm (hbox); have GW292 := zm ((by rw [hg]; exact (below_size (bx HB.out)) : w.heap.size ≤ gb292)); have GE292 := zm ((by rw [hg]; exact (below_size (bx HB.out)) : w.heap.size ≤ gb292)); replace HB := zm (below_step (bx HB.out) hb); have NB290_292 := zm ((by rw [hg]; exact Nat.ne_of_lt (blk_lt (g := gb290) (o := .cells #[.slice (some ad291) l0_0.length c0_0, .slice A0_1 l0_1.length c0_1] 25 (0, 0)) (kx BK290.out)) : gb290 ≠ gb292)); have NB292_290 := zm ((by rw [hg]; exact Nat.ne_of_gt (blk_lt (g := gb290) (o := .cells #[.slice (some ad291) l0_0.length c0_0, .slice A0_1 l0_1.length c0_1] 25 (0, 0)) (kx BK290.out)) : gb292 ≠ gb290)); replace BK290 := zm (kB (kx BK290.out) hb); clear hb hbox hg; have hnb10 := NB292_290.out; have hnc10 := NB290_292.out; have hcz11_0 := bc0 BK292.out; have hcz11_1 := bc1 BK292.out; have hcz11_2 := bc2 BK292.out; have hcz11_3 := bc3 BK292.out; have hcz11_4 := bc4 BK292.out; have hfz11_0 := bF BK292.out 0; have hfz11_1 := bF BK292.out 1; have hfz11_2 := bF BK292.out 2; have hfz11_3 := bF BK292.out 3; have hfz11_4 := bF BK292.out 4))
     have H := HC8.out
     clear HC8
     by_cases c12 : ((rd_T37 l0_0 x10_1).f0) = a1
     ·rw [if_pos c12] at H
      have c12b0 := beq_iff_eq.mpr c12
      have c12b1 := bne_eq_false_iff_eq.mpr c12
      clear c12
      (first | rw [c12b0] | (simp only [i64_w, i32_w]; rw [c12b0]) | rw [c12b1] | skip)
      obtain rfl := Option.some.inj H
      go_wp2
      go_ret
      exact ⟨xe, bx HB.out⟩
     rw [if_neg c12] at H
     have c12b0 := beq_eq_false_iff_ne.mpr c12
     have c12b1 := bne_iff_ne.mpr c12
     (first | rw [c12b0] | (simp only [i64_w, i32_w]; rw [c12b0]) | rw [c12b1] | skip)
     have H' := zm H
     clear H
     go_wp2
     go_roundg k1
     case measure => have := HK1.out; omega
     case rel => exact ⟨(wrap64 (x10_1 + 1)), (by first | rfl | (simp; done) | (simp [*]; done)), H', ⟨by have := HK1.out; omega⟩, ⟨by (with_reducible repeat first | apply kN | apply kD | apply kA); refine blk_far ?_ NB290_292.out _; (with_reducible repeat first | apply kN | apply kD | apply kA); refine blk_far ?_ NB290_292.out _; (with_reducible repeat first | apply kN | apply kD | apply kA); refine blk_far ?_ NB290_292.out _; (with_reducible repeat first | apply kN | apply kD | apply kA); refine blk_far ?_ NB290_292.out _; (with_reducible repeat first | apply kN | apply kD | apply kA); refine blk_far ?_ NB290_292.out _; (with_reducible repeat first | apply kN | apply kD | apply kA); exact BK290.out⟩, ⟨bx HB.out⟩⟩
    rw [if_neg c7] at H
    exact absurd H (by simp)
   rw [if_neg c6] at H
   exact absurd H (by simp)
  rw [if_neg c5] at H
  have c5b0 := decide_eq_false c5
  try (have c5b9 := c5b0; rw [hl291_4] at c5b9)
  clear c5
  obtain rfl := Option.some.inj H
  go_wp2
  go_ret
  exact ⟨xe, bx HB.out⟩

def slices_ContainsFunc_api_Node.f (k : Nat) (l0 : List (S37)) (a1 : (S37 → Option Bool)) : Option (Bool) := (slices_IndexFunc_api_Node.f k l0 a1).bind fun t293 => (some (decide (t293 ≥ 0)))
set_option maxRecDepth 100000 in
theorem slices_ContainsFunc_api_Node.mono : ∀ a0 a1 k, LeO (slices_ContainsFunc_api_Node.f k a0 a1) (slices_ContainsFunc_api_Node.f (k + 1) a0 a1) := by
 intro a0 a1 k
 unfold slices_ContainsFunc_api_Node.f
 repeat' first
 | (with_reducible exact slices_IndexFunc_api_Node.mono _ _ _)
 | (with_reducible exact LeO.refl _)
 | (with_reducible exact LeO.none _)
 | (with_reducible refine LeO.ite ?_ ?_)
 | (with_reducible refine LeO.bind ?_ (fun _ => ?_))
 | refine LeO.ite ?_ ?_
 | refine LeO.bind ?_ (fun _ => ?_)
set_option maxHeartbeats 8000000 in
set_option maxRecDepth 100000 in
theorem slices_ContainsFunc_api_Node.calls (k : Nat) (A0 : Option Addr) (c0 : Nat) (l0 : List (S37)) (g1_ : Nat) (cp1_ : Array Value) (a1 : (S37 → Option Bool)) (r : Bool) (w : World) (hr0 : Kd.C k37 w A0 l0.length l0) (hc0 : l0.length ≤ c0) (he1 : ∀ args w, (callFunc g1_ args).run Tryd.prog w = .ok (.enter g1_ args) w) (hq1 : FnOk58 g1_ cp1_ a1 w) (h : slices_ContainsFunc_api_Node.f k l0 a1 = some r) :
  Calls Tryd.prog 45 #[.slice A0 l0.length c0, .func (.func g1_) #[] cp1_] w fun e w' => e = .returned (.bool r) ∧ Below w.heap.size w w' := by
 have HR0 := zm hr0
 have HC0 := zm hc0
 clear hr0 hc0
 have HQ1 := zm hq1
 clear hq1
 have HB := zm (Below.refl w.heap.size w)
 have H : ((slices_IndexFunc_api_Node.f k l0 a1).bind fun t293 => (some (decide (t293 ≥ 0)))) = some r := h
 clear h
 replace H := Option.bind_eq_some_iff.mp H
 obtain ⟨t293, A30, H⟩ := H
 replace H : (some (decide (t293 ≥ 0))) = some r := H
 have A3 := zm A30
 clear A30
 obtain rfl := Option.some.inj H
 go_enter Tryd.func45, Tryd.ntmps45
 go_wp2_with (first | ((with_reducible refine gate_callee (f := 34) rfl ?_); refine goesL_ (some 7) rfl rfl Tryd.func34 (by kernel_rfl) rfl #[.slice A0 l0.length c0, .func (.func g1_) #[] cp1_] rfl ag ?_; (with_reducible refine (slices_IndexFunc_api_Node.calls k _ _ l0 _ _ a1 t293 _ ?side1 HC0.out ?side3 ?side4 A3.out).mono ?_); (case side1 => exact cx HR0.out); (case side3 => exact he1); (case side4 => exact FnOk58.below HQ1.out (bx HB.out)); rintro e w4 ⟨rfl, hb⟩; refine ⟨_, rfl, ?_⟩; replace HB := zm (below_step (bx HB.out) hb); (try clear hb)))
 go_ret
 exact ⟨xe, bx HB.out⟩

def net_Awaits_1.q (i : Int) : S37 → Option Bool := fun x => some ((x.f0 == 8) && (x.f1 == i))
set_option maxHeartbeats 8000000 in
set_option maxRecDepth 100000 in
theorem net_Awaits_1.ok {g : Nat} {i : Int} {w : World} (hG0 : w.heap[g]? = some (.cells #[.int .i64 i] 3 (0, 0))) : FnOk58 46 #[.pointer (some ⟨g, 0, none⟩)] (net_Awaits_1.q i) w := by
 intro W x cs b hb0 hk hq
 simp only [net_Awaits_1.q, Option.some.injEq] at hq
 subst hq
 have hG := blk_below hG0 hb0
 clear hG0 hb0
 obtain ⟨A4, c4, rfl, hl4, hg4⟩ := k37_open hk
 clear hk
 have hu := Tryd.underlying37
 show Calls Tryd.prog 46 #[.agg #[.int .i64 x.f0, .int .i64 x.f1, .int .i64 x.f2.f0, .int .i64 x.f2.f1, .slice A4 x.f2.f2.length c4], .pointer (some ⟨g, 0, none⟩)] W _
 go_enter Tryd.func46, Tryd.ntmps46
 go_wp2_with (first | ((with_reducible refine gate_dst (N := 2) rfl ?_); refine box_event ?hg (N := 2) ?hd (cs := #[.int .i64 x.f0, .int .i64 x.f1, .int .i64 x.f2.f0, .int .i64 x.f2.f1, .slice A4 x.f2.f2.length c4]) (t := 37) ?hr ?_; (case hd => rfl); (case hg => rfl); (case hr => first | (go_simp; done) | (go_simp; rfl)); intro gb hg w2 hbox hb; have z0 : w2.cell? ⟨g, 0, none⟩ = some (.int .i64 i) := (blk_cell (blk_below hG hb) 0).trans rfl; have y0 : w2.cell? ⟨gb, 0, none⟩ = some (.int .i64 x.f0) := bc0 hbox; have y1 : w2.cell? ⟨gb, 1, none⟩ = some (.int .i64 x.f1) := bc1 hbox; have y2 : w2.cell? ⟨gb, 2, none⟩ = some (.int .i64 x.f2.f0) := bc2 hbox; have y3 : w2.cell? ⟨gb, 3, none⟩ = some (.int .i64 x.f2.f1) := bc3 hbox; have y4 : w2.cell? ⟨gb, 4, none⟩ = some (.slice A4 x.f2.f2.length c4) := bc4 hbox; have HB := zm hb; clear hb hbox hg))
 all_goals go_ret
 all_goals exact ⟨by first | rfl | (simp; done) | (simp [*]; done), by repeat (first | exact HB.out | apply bA | apply bN | apply bD)⟩

def net_Awaits.f (k : Nat) (l0_0 : List (S37)) (l0_1 : List (S53)) (a1 : Int) : Option (Bool) := if a1 ≥ 0 then (if a1 < 4 then ((slices_ContainsFunc_api_Node.f k l0_0 (net_Awaits_1.q a1)).bind fun t296 => (some t296)) else (some false)) else (some false)
set_option maxRecDepth 100000 in
theorem net_Awaits.mono : ∀ a0 a1 a2 k, LeO (net_Awaits.f k a0 a1 a2) (net_Awaits.f (k + 1) a0 a1 a2) := by
 intro a0 a1 a2 k
 unfold net_Awaits.f
 repeat' first
 | (with_reducible exact slices_ContainsFunc_api_Node.mono _ _ _)
 | (with_reducible exact LeO.refl _)
 | (with_reducible exact LeO.none _)
 | (with_reducible refine LeO.ite ?_ ?_)
 | (with_reducible refine LeO.bind ?_ (fun _ => ?_))
 | refine LeO.ite ?_ ?_
 | refine LeO.bind ?_ (fun _ => ?_)
set_option maxHeartbeats 8000000 in
set_option maxRecDepth 100000 in
theorem net_Awaits.calls (k : Nat) (A0_0 : Option Addr) (c0_0 : Nat) (l0_0 : List (S37)) (A0_1 : Option Addr) (c0_1 : Nat) (l0_1 : List (S53)) (a1 : Int) (r : Bool) (w : World) (hr0_0 : Kd.C k37 w A0_0 l0_0.length l0_0) (hc0_0 : l0_0.length ≤ c0_0) (hr0_1 : Kd.C k53 w A0_1 l0_1.length l0_1) (hc0_1 : l0_1.length ≤ c0_1) (h : net_Awaits.f k l0_0 l0_1 a1 = some r) :
  Calls Tryd.prog 24 #[.agg #[.slice A0_0 l0_0.length c0_0, .slice A0_1 l0_1.length c0_1], .int .i64 a1] w fun e w' => e = .returned (.bool r) ∧ Below w.heap.size w w' := by
 have hu25 := Tryd.underlying25
 have HR0_0 := zm hr0_0
 have HC0_0 := zm hc0_0
 clear hr0_0 hc0_0
 have HR0_1 := zm hr0_1
 have HC0_1 := zm hc0_1
 clear hr0_1 hc0_1
 have HB := zm (Below.refl w.heap.size w)
 have H : (if a1 ≥ 0 then (if a1 < 4 then ((slices_ContainsFunc_api_Node.f k l0_0 (net_Awaits_1.q a1)).bind fun t296 => (some t296)) else (some false)) else (some false)) = some r := h
 clear h
 have HC3 := zm H
 clear H
 go_enter Tryd.func24, Tryd.ntmps24
 go_upto_region 1 with (first | ((with_reducible refine gate_dst (N := 2) rfl ?_); refine box_event ?hg (N := 2) ?hd (cs := #[.slice A0_0 l0_0.length c0_0, .slice A0_1 l0_1.length c0_1]) (t := 25) ?hr ?_; (case hd => rfl); (case hg => rfl); (case hr => first | (go_simp; done) | (go_simp; rfl)); intro gb294 hg w4 hbox hb; have BK294 := zm (hbox); have GW294 := zm ((by rw [hg]; exact (below_size (bx HB.out)) : w.heap.size ≤ gb294)); have GE294 := zm ((by rw [hg]; exact (below_size (bx HB.out)) : w.heap.size ≤ gb294)); replace HB := zm (below_step (bx HB.out) hb); clear hb hbox hg) | ((with_reducible refine gate_dst (N := 3) rfl ?_); refine box_event ?hg (N := 3) ?hd (cs := #[.int .i64 a1]) (t := 3) ?hr ?_; (case hd => rfl); (case hg => rfl); (case hr => first | (go_simp; done) | (go_simp; rfl)); intro gb295 hg w5 hbox hb; have BK295 := zm (hbox); have GW295 := zm ((by rw [hg]; exact (below_size (bx HB.out)) : w.heap.size ≤ gb295)); have GE295 := zm ((by rw [hg]; exact (below_size (bx HB.out)) : w.heap.size ≤ gb295)); replace HB := zm (below_step (bx HB.out) hb); have NB294_295 := zm ((by rw [hg]; exact Nat.ne_of_lt (blk_lt (g := gb294) (o := .cells #[.slice A0_0 l0_0.length c0_0, .slice A0_1 l0_1.length c0_1] 25 (0, 0)) (kx BK294.out)) : gb294 ≠ gb295)); have NB295_294 := zm ((by rw [hg]; exact Nat.ne_of_gt (blk_lt (g := gb294) (o := .cells #[.slice A0_0 l0_0.length c0_0, .slice A0_1 l0_1.length c0_1] 25 (0, 0)) (kx BK294.out)) : gb295 ≠ gb294)); replace BK294 := zm (kB (kx BK294.out) hb); clear hb hbox hg))
 have H := HC3.out
 clear HC3
 by_cases c6 : a1 ≥ 0
 ·rw [if_pos c6] at H
  have c6b0 : decide (0 ≤ a1) = true := decide_eq_true c6
  clear c6
  by_cases c7 : a1 < 4
  ·rw [if_pos c7] at H
   have c7b0 := decide_eq_true c7
   clear c7
   replace H := Option.bind_eq_some_iff.mp H
   obtain ⟨t296, A80, H⟩ := H
   replace H : (some t296) = some r := H
   have A8 := zm A80
   clear A80
   obtain rfl := Option.some.inj H
   have hnb9 := NB295_294.out
   have hnc9 := NB294_295.out
   have hcz10_0 := bc0 BK295.out
   have hcz11_0 := bc0 BK294.out
   have hcz11_1 := bc1 BK294.out
   go_wp2_with (first | (go_at_call 45; (with_reducible refine (slices_ContainsFunc_api_Node.calls k _ _ l0_0 _ _ _ t296 _ ?side1 HC0_0.out ?side3 ?side4 A8.out).mono ?_); (case side1 => exact cx (Kd.C_below HR0_0.out HB.out)); (case side3 => exact fun args_ w_ => enters_ Tryd.func46 (by kernel_rfl) rfl args_ w_); (case side4 => exact net_Awaits_1.ok (kx BK295.out)); rintro e w12 ⟨rfl, hb⟩; replace BK294 := zm (kB (kx BK294.out) hb); replace BK295 := zm (kB (kx BK295.out) hb); replace HB := zm (below_step (bx HB.out) hb); (try clear hb)))
   go_ret
   exact ⟨xe, bx HB.out⟩
  rw [if_neg c7] at H
  have c7b0 := decide_eq_false c7
  clear c7
  obtain rfl := Option.some.inj H
  have hnb13 := NB295_294.out
  have hnc13 := NB294_295.out
  have hcz14_0 := bc0 BK295.out
  go_wp2
  go_ret
  exact ⟨xe, bx HB.out⟩
 rw [if_neg c6] at H
 have c6b0 : decide (0 ≤ a1) = false := decide_eq_false c6
 clear c6
 obtain rfl := Option.some.inj H
 have hnb15 := NB295_294.out
 have hnc15 := NB294_295.out
 have hcz16_0 := bc0 BK295.out
 go_wp2
 go_ret
 exact ⟨xe, bx HB.out⟩

end Go.Proofs.YtdaeiicdpfghlaaDoor.R
