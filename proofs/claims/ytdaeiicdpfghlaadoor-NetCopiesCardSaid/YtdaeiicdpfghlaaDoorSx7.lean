import Derived.Test.YtdaeiicdpfghlaaDoorSx0
import Derived.Test.YtdaeiicdpfghlaaDoorSx2
import Derived.Test.YtdaeiicdpfghlaaDoorSx3
import Derived.Test.YtdaeiicdpfghlaaDoorSx6
namespace Go.Proofs.YtdaeiicdpfghlaaDoor.R
open Go.RowKit Go.Proofs.YtdaeiicdpfghlaaDoorW.PrintWords Go.Proofs.YtdaeiicdpfghlaaDoorW.PrintLast Go.Proofs.YtdaeiicdpfghlaaDoorW.PrintMore
attribute [local go_sem] max2_int min2_int max_two min_two max_three min_three max_four min_four   -- for this text's walks alone
set_option linter.unusedVariables false
set_option linter.unusedSimpArgs false

def net_third_1.q (k : Nat) (l0 : List S37) (l1 : List S53) (s e : Int) : Int → Option Bool := fun i =>
 if 0 ≤ i then (if i < (l0.length : Int) then ((net_linked.f k l0 l1 i).bind fun b => some ((!b || ((rd_T37 l0 i).f0 == 1 && i != s)) || ((rd_T37 l0 i).f0 == 2 && i != e))) else none) else none
theorem net_third_1.qmono {k : Nat} {l0 : List S37} {l1 : List S53} {s e i : Int} : LeO (net_third_1.q k l0 l1 s e i) (net_third_1.q (k + 1) l0 l1 s e i) := by
 unfold net_third_1.q
 exact LeO.ite (LeO.ite (LeO.bind (net_linked.mono _ _ _ k) (fun _ => LeO.refl _)) (LeO.none _)) (LeO.none _)
theorem net_third_1.up_net_places {a0 a1 : Int} {k : Nat} {y0 : List S37} {y1 : List S53} {y2 : Int} {y3 : Int} : LeO (net_places.f k a0 a1 (net_third_1.q k y0 y1 y2 y3)) (net_places.f (k + 1) a0 a1 (net_third_1.q (k + 1) y0 y1 y2 y3)) := by
 unfold net_places.f
 exact net_places.upq (fun x => net_third_1.qmono) k _ _ _ _
set_option maxHeartbeats 8000000 in
set_option maxRecDepth 100000 in
theorem net_third_1.ok {k g : Nat} {A0 : Option Addr} {c0 : Nat} {l0 : List S37} {A1 : Option Addr} {c1 : Nat} {l1 : List S53} {g2 : Nat} {s : Int} {g3 : Nat} {e : Int} {w : World} (hG0 : w.heap[g]? = some (.cells #[.slice A0 l0.length c0, .slice A1 l1.length c1] 25 (0, 0)))
  (hr0 : Kd.C k37 w A0 l0.length l0) (hc0 : l0.length ≤ c0) (hr1 : Kd.C k53 w A1 l1.length l1) (hc1 : l1.length ≤ c1) (hG1 : w.heap[g2]? = some (.cells #[.int .i64 s] 3 (0, 0))) (hG2 : w.heap[g3]? = some (.cells #[.int .i64 e] 3 (0, 0))) : FnOk64 54 #[.pointer (some ⟨g, 0, none⟩), .pointer (some ⟨g2, 0, none⟩), .pointer (some ⟨g3, 0, none⟩)] (net_third_1.q k l0 l1 s e) w := by
 intro W x b hb0 hq
 simp only [net_third_1.q] at hq
 have z0 : W.cell? ⟨g, 0, none⟩ = some (.slice A0 l0.length c0) := (blk_cell (blk_below hG0 hb0) 0).trans rfl
 have z1 : W.cell? ⟨g, 1, none⟩ = some (.slice A1 l1.length c1) := (blk_cell (blk_below hG0 hb0) 1).trans rfl
 have G1 := zm (blk_below hG1 hb0)
 have G2 := zm (blk_below hG2 hb0)
 have HR0 := zm (Kd.C_below hr0 hb0)
 have HR1 := zm (Kd.C_below hr1 hb0)
 have HC0 := zm hc0
 have HC1 := zm hc1
 have HB := zm (Below.refl W.heap.size W)
 clear hG0 hb0 hr0 hr1 hc0 hc1 hG1 hG2
 by_cases h0 : 0 ≤ x
 rotate_left
 ·rw [if_neg h0] at hq; exact absurd hq (by simp)
 rw [if_pos h0] at hq
 by_cases h1 : x < (l0.length : Int)
 rotate_left
 ·rw [if_neg h1] at hq; exact absurd hq (by simp)
 rw [if_pos h1] at hq
 obtain ⟨b2, hq2, h2⟩ := Option.bind_eq_some_iff.mp hq
 replace h2 := Option.some.inj h2
 have H := zm hq2
 clear hq hq2
 obtain ⟨ad0, A4, c4, e0, hx0, hx1, hx2, hx3, hx4, hl4, hg4⟩ := at_T37 HR0.out x h0 h1
 cases e0
 clear hl4 hg4
 have p0 := eq_true h0
 have q0 := eq_true h1
 clear h0 h1
 have hu := Tryd.underlying37
 have hu2 := Tryd.underlying25
 show Calls Tryd.prog 54 #[.int .i64 x, .pointer (some ⟨g, 0, none⟩), .pointer (some ⟨g2, 0, none⟩), .pointer (some ⟨g3, 0, none⟩)] W _
 generalize hk : (rd_T37 l0 x).f0 = kd at hx0 h2
 clear hk
 cases b2 <;> cases k1 : kd == 1 <;> cases k2 : kd == 2 <;> rw [k1, k2] at h2 <;> simp only [Bool.not_false, Bool.not_true, Bool.true_or, Bool.false_or, Bool.true_and, Bool.false_and, Bool.or_false] at h2 <;> subst h2
 all_goals go_enter Tryd.func54, Tryd.ntmps54
 all_goals go_wp2_with (first | (go_at_call 55; go_loud (refine (net_linked.calls k _ c0 l0 A1 c1 l1 x _ _ HR0.out HC0.out HR1.out HC1.out H.out).mono ?_); rintro e2 w3 ⟨rfl, hb⟩; have n0_ := zm (below_step HB.out hb); have y2 : w3.cell? ⟨g2, 0, none⟩ = some (.int .i64 s) := (blk_cell (blk_below G1.out hb) 0).trans rfl; have y3 : w3.cell? ⟨g3, 0, none⟩ = some (.int .i64 e) := (blk_cell (blk_below G2.out hb) 0).trans rfl; clear HB; have HB := n0_; clear n0_ hb))
 all_goals go_ret
 all_goals exact ⟨by first | rfl | (simp; done) | (simp [*]; done), by repeat (first | exact HB.out | apply bA | apply bN | apply bD)⟩

end Go.Proofs.YtdaeiicdpfghlaaDoor.R
