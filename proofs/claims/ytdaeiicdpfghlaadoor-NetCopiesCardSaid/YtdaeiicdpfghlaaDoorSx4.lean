import Derived.Test.YtdaeiicdpfghlaaDoorSx0
import Derived.Test.YtdaeiicdpfghlaaDoorSx3
namespace Go.Proofs.YtdaeiicdpfghlaaDoor.R
open Go.RowKit Go.Proofs.YtdaeiicdpfghlaaDoorW.PrintWords Go.Proofs.YtdaeiicdpfghlaaDoorW.PrintLast Go.Proofs.YtdaeiicdpfghlaaDoorW.PrintMore
attribute [local go_sem] max2_int min2_int max_two min_two max_three min_three max_four min_four   -- for this text's walks alone
set_option linter.unusedVariables false
set_option linter.unusedSimpArgs false

def net_flows.l0 : Nat → (S53 → Option Bool) → List Int → List (S53) → Int → Int → Option (List Int)
 | 0, _, _, _, _, _ => none
 | k + 1, x1, x5, x9, x10, x11 => if x11 < x10 then (if 0 ≤ x11 then (if x11 < (x9.length : Int) then ((QF61.f ((rd_T53 x9 x11).f0) ((rd_T53 x9 x11).f1) ((rd_T53 x9 x11).f2) ((rd_T53 x9 x11).f3.f0) ((rd_T53 x9 x11).f3.f1) ((rd_T53 x9 x11).f3.f2) x1).bind fun t151 => (if t151 = true then (if x5.length < 17592186044416 then (net_flows.l0 k x1 (x5 ++ [x11]) x9 x10 (wrap64 (x11 + 1))) else (none)) else (net_flows.l0 k x1 x5 x9 x10 (wrap64 (x11 + 1))))) else (none)) else (none)) else (some x5)
def net_flows.f (k : Nat) (l0_0 : List (S37)) (l0_1 : List (S53)) (a1 : (S53 → Option Bool)) : Option (List Int) := net_flows.l0 k a1 ([] : List Int) l0_1 (l0_1.length : Int) 0
set_option maxRecDepth 100000 in
theorem net_flows.mono_l : ∀ k, (∀ y0 y1 y2 y3 y4, LeO (net_flows.l0 k y0 y1 y2 y3 y4) (net_flows.l0 (k + 1) y0 y1 y2 y3 y4))
 | 0 => fun _ _ _ _ _ r h => by first | (cases h; done) | simp [net_flows.l0] at h
 | k + 1 => by
  have ih0 := net_flows.mono_l k
  ·intro y0 y1 y2 y3 y4
   unfold net_flows.l0
   repeat' first
   | (with_reducible exact ih0 _ _ _ _ _)
   | (with_reducible exact LeO.refl _)
   | (with_reducible exact LeO.none _)
   | (with_reducible refine LeO.ite ?_ ?_)
   | (with_reducible refine LeO.bind ?_ (fun _ => ?_))
   | refine LeO.ite ?_ ?_
   | refine LeO.bind ?_ (fun _ => ?_)
set_option maxRecDepth 100000 in
theorem net_flows.mono : ∀ a0 a1 a2 k, LeO (net_flows.f k a0 a1 a2) (net_flows.f (k + 1) a0 a1 a2) := by
 intro a0 a1 a2 k
 have ih0 := net_flows.mono_l k
 unfold net_flows.f
 repeat' first
 | (with_reducible exact ih0 _ _ _ _ _)
 | (with_reducible exact LeO.refl _)
 | (with_reducible exact LeO.none _)
 | (with_reducible refine LeO.ite ?_ ?_)
 | (with_reducible refine LeO.bind ?_ (fun _ => ?_))
 | refine LeO.ite ?_ ?_
 | refine LeO.bind ?_ (fun _ => ?_)
set_option maxHeartbeats 8000000 in
set_option maxRecDepth 100000 in
theorem net_flows.calls (k : Nat) (A0_0 : Option Addr) (c0_0 : Nat) (l0_0 : List (S37)) (A0_1 : Option Addr) (c0_1 : Nat) (l0_1 : List (S53)) (g1_ : Nat) (cp1_ : Array Value) (a1 : (S53 → Option Bool)) (r : List Int) (w : World) (hr0_0 : Kd.C k37 w A0_0 l0_0.length l0_0) (hc0_0 : l0_0.length ≤ c0_0) (hr0_1 : Kd.C k53 w A0_1 l0_1.length l0_1) (hc0_1 : l0_1.length ≤ c0_1) (he1 : ∀ args w, (callFunc g1_ args).run Tryd.prog w = .ok (.enter g1_ args) w) (hq1 : FnOk61 g1_ cp1_ a1 w) (h : net_flows.f k l0_0 l0_1 a1 = some r) :
  Calls Tryd.prog 31 #[.agg #[.slice A0_0 l0_0.length c0_0, .slice A0_1 l0_1.length c0_1], .func (.func g1_) #[] cp1_] w fun e w' => ∃ v0_ : Value, e = .returned (v0_) ∧ Kd.R (Kd.int .i64) 3 w' w.heap.size (fun _ => True) v0_ r ∧ Below w.heap.size w w' := by
 have hu25 := Tryd.underlying25
 have hu53 := Tryd.underlying53
 have HR0_0 := zm hr0_0
 have HC0_0 := zm hc0_0
 clear hr0_0 hc0_0
 have HR0_1 := zm hr0_1
 have HC0_1 := zm hc0_1
 clear hr0_1 hc0_1
 have HQ1 := zm hq1
 clear hq1
 have HB := zm (Below.refl w.heap.size w)
 have H : (net_flows.l0 k a1 ([] : List Int) l0_1 (l0_1.length : Int) 0) = some r := h
 clear h
 have H' := zm H
 clear H
 go_enter Tryd.func31, Tryd.ntmps31
 go_wp2_with (first | ((with_reducible refine gate_dst (N := 2) rfl ?_); refine box_event ?hg (N := 2) ?hd (cs := #[.slice A0_0 l0_0.length c0_0, .slice A0_1 l0_1.length c0_1]) (t := 25) ?hr ?_; (case hd => rfl); (case hg => rfl); (case hr => first | (go_simp; done) | (go_simp; rfl)); intro gb148 hg w3 hbox hb; have BK148 := zm (hbox); have GW148 := zm ((by rw [hg]; exact (below_size (bx HB.out)) : w.heap.size ≤ gb148)); have GE148 := zm ((by rw [hg]; exact (below_size (bx HB.out)) : w.heap.size ≤ gb148)); replace HB := zm (below_step (bx HB.out) hb); clear hb hbox hg; have hcz4_0 := bc0 BK148.out; have hcz4_1 := bc1 BK148.out; have hfz4_0 := bF BK148.out 0; have hfz4_1 := bF BK148.out 1))
 go_loopg [5, 11] k (fun kq v5 v11 w' => ∃ (x5_1 : List Int) (x11_1 : Int), v11 = .int .i64 x11_1 ∧ Aside0 (net_flows.l0 kq a1 x5_1 l0_1 (l0_1.length : Int) x11_1 = some r) ∧ Aside0 (kq ≤ k) ∧ Aside0 (Kd.R (Kd.int .i64) 3 w' w.heap.size (fun _ => True) v5 x5_1) ∧ Aside0 (w'.heap[gb148]? = some (.cells #[(.slice A0_0 l0_0.length c0_0), (.slice A0_1 l0_1.length c0_1)] 25 (0, 0))) ∧ Aside0 (Below w.heap.size w w'))
 case atStart => exact ⟨(([] : List Int)), (0), (by first | rfl | (simp; done) | (simp [*]; done)), H', ⟨Nat.le_refl _⟩, ⟨by first | exact Kd.R_nil _ _ _ _ _ | exact Kd.N_nil _ _ _ _ _ | exact Kd.V_nil _ _ _ _ _ | exact Kd.Q_nil _ _ _ _ _ | exact Kd.S_nil _ _ _ _ _⟩, ⟨kx BK148.out⟩, ⟨bx HB.out⟩⟩
 clear H'
 try clear q1
 try clear p2
 try clear c3
 try clear BK148
 obtain ⟨x5_1, x11_1, rfl, HA, HK1, HO_5, BK148, HB⟩ := hrel
 cases gk with
 | zero => exact absurd HA.out (by first | (intro h_; cases h_; done) | simp [net_flows.l0])
 | succ k1 =>
  have H := HA.out
  clear HA
  simp only [net_flows.l0] at H
  by_cases c5 : x11_1 < (l0_1.length : Int)
  ·rw [if_pos c5] at H
   have c5b0 := decide_eq_true c5
   clear c5
   by_cases c6 : 0 ≤ x11_1
   ·rw [if_pos c6] at H
    have c6b0 := decide_eq_true c6
    clear c6
    by_cases c7 : x11_1 < (l0_1.length : Int)
    ·rw [if_pos c7] at H
     have c7b0 := decide_eq_true c7
     clear c7
     replace H := Option.bind_eq_some_iff.mp H
     obtain ⟨t151, A80, H⟩ := H
     replace H : (if t151 = true then (if x5_1.length < 17592186044416 then (net_flows.l0 k1 a1 (x5_1 ++ [x11_1]) l0_1 (l0_1.length : Int) (wrap64 (x11_1 + 1))) else (none)) else (net_flows.l0 k1 a1 x5_1 l0_1 (l0_1.length : Int) (wrap64 (x11_1 + 1)))) = some r := H
     have A8 := zm A80
     clear A80
     have HC9 := zm H
     clear H
     have p149 : 0 ≤ (x11_1 : Int) := od
     have q149 : x11_1 < (l0_1.length : Int) := od
     obtain ⟨ad149, A149_5, c149_5, e149, hx149_0, hx149_1, hx149_2, hx149_3, hx149_4, hx149_5, hl149_5, hi149_5⟩ := at_T53 HR0_1.out x11_1 p149 q149
     cases e149
     replace hx149_0 := cb HB.out hx149_0
     replace hx149_1 := cb HB.out hx149_1
     replace hx149_2 := cb HB.out hx149_2
     replace hx149_3 := cb HB.out hx149_3
     replace hx149_4 := cb HB.out hx149_4
     replace hx149_5 := cb HB.out hx149_5
     have HR149_5 := zm hi149_5
     have HC149_5 := zm hl149_5
     clear hi149_5 hl149_5
     replace p149 := eq_true p149
     replace q149 := eq_true q149
     go_upto_if 18 with (first | ((with_reducible refine gate_dst (N := 7) rfl ?_); refine box_event ?hg (N := 7) ?hd (cs := #[.int .i64 0, .int .i64 0, .bool false, .int .i64 0, .int .i64 0, .slice none 0 0]) (t := 53) ?hr ?_; (case hd => rfl); (case hg => rfl); (case hr => first | (go_simp; done) | (go_simp; rfl)); intro gb150 hg w10 hbox hb; replace HO_5 := zm (Kd.R_below (rx HO_5.out) hb); have BK150 := zm (hbox); have GW150 := zm ((by rw [hg]; exact (below_size (bx HB.out)) : w.heap.size ≤ gb150)); have GE150 := zm ((by rw [hg]; exact (below_size (bx HB.out)) : w.heap.size ≤ gb150)); replace HB := zm (below_step (bx HB.out) hb); have NB148_150 := zm ((by rw [hg]; exact Nat.ne_of_lt (blk_lt (g := gb148) (o := .cells #[.slice A0_0 l0_0.length c0_0, .slice (some ad149) l0_1.length c0_1] 25 (0, 0)) (kx BK148.out)) : gb148 ≠ gb150)); have NB150_148 := zm ((by rw [hg]; exact Nat.ne_of_gt (blk_lt (g := gb148) (o := .cells #[.slice A0_0 l0_0.length c0_0, .slice (some ad149) l0_1.length c0_1] 25 (0, 0)) (kx BK148.out)) : gb150 ≠ gb148)); replace BK148 := zm (kB (kx BK148.out) hb); clear hb hbox hg; have hnb11 := NB150_148.out; have hnc11 := NB148_150.out; have hcz12_0 := bc0 BK150.out; have hcz12_1 := bc1 BK150.out; have hcz12_2 := bc2 BK150.out; have hcz12_3 := bc3 BK150.out; have hcz12_4 := bc4 BK150.out; have hcz12_5 := bc5 BK150.out; have hfz12_0 := bF BK150.out 0; have hfz12_1 := bF BK150.out 1; have hfz12_2 := bF BK150.out 2; have hfz12_3 := bF BK150.out 3; have hfz12_4 := bF BK150.out 4; have hfz12_5 := bF BK150.out 5) | (go_at_fn g1_; (with_reducible refine (QF61.calls ((rd_T53 l0_1 x11_1).f0) ((rd_T53 l0_1 x11_1).f1) ((rd_T53 l0_1 x11_1).f2) ((rd_T53 l0_1 x11_1).f3.f0) ((rd_T53 l0_1 x11_1).f3.f1) _ _ ((rd_T53 l0_1 x11_1).f3.f2) _ _ a1 t151 _ ?side1 HC149_5.out ?side3 ?side4 A8.out).mono ?_); (case side1 => exact Kd.C_below HR149_5.out (bx HB.out)); (case side3 => exact he1); (case side4 => exact FnOk61.below HQ1.out (bx HB.out)); rintro e w13 ⟨rfl, hb⟩; replace HO_5 := zm (Kd.R_below (rx (Kd.R_mono (Kd.R_far (p := ⟨gb150, 5, none⟩) (Kd.R_far (p := ⟨gb150, 4, none⟩) (Kd.R_far (p := ⟨gb150, 3, none⟩) (Kd.R_far (p := ⟨gb150, 2, none⟩) (Kd.R_far (p := ⟨gb150, 1, none⟩) (Kd.R_far (p := ⟨gb150, 0, none⟩) (Kd.R_types HO_5.out BK150.out (by decide)) (fun _ hk => hk.2) (.int .i64 ((rd_T53 l0_1 x11_1).f0))) (fun _ hk => hk.2) (.int .i64 ((rd_T53 l0_1 x11_1).f1))) (fun _ hk => hk.2) (.bool ((rd_T53 l0_1 x11_1).f2))) (fun _ hk => hk.2) (.int .i64 ((rd_T53 l0_1 x11_1).f3.f0))) (fun _ hk => hk.2) (.int .i64 ((rd_T53 l0_1 x11_1).f3.f1))) (fun _ hk => hk.2) (.slice A149_5 ((rd_T53 l0_1 x11_1).f3.f2).length c149_5)) (fun _ h_ => h_.1))) hb); replace BK148 := zm (kB (g := gb148) (o := .cells #[.slice A0_0 l0_0.length c0_0, .slice (some ad149) l0_1.length c0_1] 25 (0, 0)) (by (with_reducible repeat first | apply kN | apply kD | apply kA); refine blk_far ?_ NB148_150.out _; (with_reducible repeat first | apply kN | apply kD | apply kA); refine blk_far ?_ NB148_150.out _; (with_reducible repeat first | apply kN | apply kD | apply kA); refine blk_far ?_ NB148_150.out _; (with_reducible repeat first | apply kN | apply kD | apply kA); refine blk_far ?_ NB148_150.out _; (with_reducible repeat first | apply kN | apply kD | apply kA); refine blk_far ?_ NB148_150.out _; (with_reducible repeat first | apply kN | apply kD | apply kA); refine blk_far ?_ NB148_150.out _; (with_reducible repeat first | apply kN | apply kD | apply kA); exact BK148.out) hb); replace BK150 := zm (kB (g := gb150) (o := .cells #[.int .i64 ((rd_T53 l0_1 x11_1).f0), .int .i64 ((rd_T53 l0_1 x11_1).f1), .bool ((rd_T53 l0_1 x11_1).f2), .int .i64 ((rd_T53 l0_1 x11_1).f3.f0), .int .i64 ((rd_T53 l0_1 x11_1).f3.f1), .slice A149_5 ((rd_T53 l0_1 x11_1).f3.f2).length c149_5] 53 (0, 0)) (by (with_reducible repeat first | apply kN | apply kD | apply kA); refine blk_put (cs := #[.int .i64 ((rd_T53 l0_1 x11_1).f0), .int .i64 ((rd_T53 l0_1 x11_1).f1), .bool ((rd_T53 l0_1 x11_1).f2), .int .i64 ((rd_T53 l0_1 x11_1).f3.f0), .int .i64 ((rd_T53 l0_1 x11_1).f3.f1), .slice none 0 0]) ?_ 5 _ rfl; (with_reducible repeat first | apply kN | apply kD | apply kA); refine blk_put (cs := #[.int .i64 ((rd_T53 l0_1 x11_1).f0), .int .i64 ((rd_T53 l0_1 x11_1).f1), .bool ((rd_T53 l0_1 x11_1).f2), .int .i64 ((rd_T53 l0_1 x11_1).f3.f0), .int .i64 0, .slice none 0 0]) ?_ 4 _ rfl; (with_reducible repeat first | apply kN | apply kD | apply kA); refine blk_put (cs := #[.int .i64 ((rd_T53 l0_1 x11_1).f0), .int .i64 ((rd_T53 l0_1 x11_1).f1), .bool ((rd_T53 l0_1 x11_1).f2), .int .i64 0, .int .i64 0, .slice none 0 0]) ?_ 3 _ rfl; (with_reducible repeat first | apply kN | apply kD | apply kA); refine blk_put (cs := #[.int .i64 ((rd_T53 l0_1 x11_1).f0), .int .i64 ((rd_T53 l0_1 x11_1).f1), .bool false, .int .i64 0, .int .i64 0, .slice none 0 0]) ?_ 2 _ rfl; (with_reducible repeat first | apply kN | apply kD | apply kA); refine blk_put (cs := #[.int .i64 ((rd_T53 l0_1 x11_1).f0), .int .i64 0, .bool false, .int .i64 0, .int .i64 0, .slice none 0 0]) ?_ 1 _ rfl; (with_reducible repeat first | apply kN | apply kD | apply kA); refine blk_put (cs := #[.int .i64 0, .int .i64 0, .bool false, .int .i64 0, .int .i64 0, .slice none 0 0]) ?_ 0 _ rfl; (with_reducible repeat first | apply kN | apply kD | apply kA); exact BK150.out) hb); replace HB := zm (below_step (bx HB.out) hb); (try clear hb); (try clear hb2); (try clear hk); (try clear hi)))
     have H := HC9.out
     clear HC9
     by_cases c14 : t151 = true
     ·subst c14
      rw [if_pos rfl] at H
      by_cases c15 : x5_1.length < 17592186044416
      ·rw [if_pos c15] at H
       have LMc15 := zm c15
       clear c15
       obtain ⟨y152, hy152⟩ : ∃ y_ : List Int, y_ = (x5_1 ++ [x11_1]) := ⟨_, rfl⟩
       replace H : (net_flows.l0 k1 a1 y152 l0_1 (l0_1.length : Int) (wrap64 (x11_1 + 1))) = some r := by first | (rw [hy152]; with_reducible exact H) | (have H2_ := (Option.bind_some _ _).symm.trans H; rw [hy152]; with_reducible exact H2_) | (have H2_ := (Option.bind_some _ _).symm.trans H; with_reducible exact H2_) | with_reducible exact H | (rw [hy152]; exact H) | exact H
       have Ny152 := zm hy152
       clear hy152
       have H' := zm H
       clear H
       go_wp2_with (first | ((with_reducible refine gate_builtin (b := .append) (xs := #[.tmp 19, .tmp 21]) rfl ?_); at_builtin; refine Kd.R_append (Kd.int .i64) (w0 := w) w.heap.size rfl (.tmp 19) (.tmp 21) 38 3 (.int .i64 0) 8 rfl Tryd.underlying38 info3 rfl (by decide) (by omega) u5 x5_1 x11_1 [.int .i64 x11_1] (fun _ => True) (fun _ => False) rfl rfl ?aP (fun _ hk => hk.elim) ?aF ?aO ?aB ?aS ?aL ?_; (case aP => exact rfl); (case aB => exact (bx HB.out)); (case aF => exact (fun _ _ => trivial)); (case aO => exact (rx HO_5.out)); (case aS => exact (below_size (bx HB.out))); (case aL => have := LMc15.out; omega); intro v153 w16 ho hb hg hat; rw [← Ny152.out] at ho; replace BK148 := zm (blk_grown (g := gb148) (o := .cells #[.slice A0_0 l0_0.length c0_0, .slice (some ad149) l0_1.length c0_1] 25 (0, 0)) (kx BK148.out) hg (Kd.R_ne HO_5.out BK148.out (by decide))); replace BK150 := zm (blk_grown (g := gb150) (o := .cells #[.int .i64 ((rd_T53 l0_1 x11_1).f0), .int .i64 ((rd_T53 l0_1 x11_1).f1), .bool ((rd_T53 l0_1 x11_1).f2), .int .i64 ((rd_T53 l0_1 x11_1).f3.f0), .int .i64 ((rd_T53 l0_1 x11_1).f3.f1), .slice A149_5 ((rd_T53 l0_1 x11_1).f3.f2).length c149_5] 53 (0, 0)) (kx BK150.out) hg (Kd.R_ne HO_5.out BK150.out (by decide))); replace HB := zm (hb); have HO154 := zm (ho); clear HO_5 ho hb hg hat))
       go_roundg k1
       case measure => have := HK1.out; omega
       case rel => exact ⟨(y152), (wrap64 (x11_1 + 1)), (by first | rfl | (simp; done) | (simp [*]; done)), H', ⟨by have := HK1.out; omega⟩, ⟨rx HO154.out⟩, ⟨kx BK148.out⟩, ⟨bx HB.out⟩⟩
      rw [if_neg c15] at H
      exact absurd H (by simp)
     replace c14 := Bool.eq_false_iff.mpr c14
     subst c14
     rw [if_neg (show ¬ (false = true) by decide)] at H
     have H' := zm H
     clear H
     go_wp2
     go_roundg k1
     case measure => have := HK1.out; omega
     case rel => exact ⟨(x5_1), (wrap64 (x11_1 + 1)), (by first | rfl | (simp; done) | (simp [*]; done)), H', ⟨by have := HK1.out; omega⟩, ⟨rx HO_5.out⟩, ⟨kx BK148.out⟩, ⟨bx HB.out⟩⟩
    rw [if_neg c7] at H
    exact absurd H (by simp)
   rw [if_neg c6] at H
   exact absurd H (by simp)
  rw [if_neg c5] at H
  have c5b0 := decide_eq_false c5
  try (have c5b9 := c5b0; rw [hl149_5] at c5b9)
  clear c5
  obtain rfl := Option.some.inj H
  go_wp2
  go_ret
  exact ⟨_, xe, rx HO_5.out, bx HB.out⟩

def net_Outs_1.q (i : Int) : S53 → Option Bool := fun x => some (x.f0 == i)
set_option maxHeartbeats 8000000 in
set_option maxRecDepth 100000 in
theorem net_Outs_1.ok {g : Nat} {i : Int} {w : World} (hG0 : w.heap[g]? = some (.cells #[.int .i64 i] 3 (0, 0))) : FnOk61 33 #[.pointer (some ⟨g, 0, none⟩)] (net_Outs_1.q i) w := by
 intro W x cs b hb0 hk hq
 simp only [net_Outs_1.q, Option.some.injEq] at hq
 subst hq
 have hG := blk_below hG0 hb0
 clear hG0 hb0
 obtain ⟨A5, c5, rfl, hl5, hg5⟩ := k53_open hk
 clear hk
 have hu := Tryd.underlying53
 show Calls Tryd.prog 33 #[.agg #[.int .i64 x.f0, .int .i64 x.f1, .bool x.f2, .int .i64 x.f3.f0, .int .i64 x.f3.f1, .slice A5 x.f3.f2.length c5], .pointer (some ⟨g, 0, none⟩)] W _
 go_enter Tryd.func33, Tryd.ntmps33
 go_wp2_with (first | ((with_reducible refine gate_dst (N := 2) rfl ?_); refine box_event ?hg (N := 2) ?hd (cs := #[.int .i64 x.f0, .int .i64 x.f1, .bool x.f2, .int .i64 x.f3.f0, .int .i64 x.f3.f1, .slice A5 x.f3.f2.length c5]) (t := 53) ?hr ?_; (case hd => rfl); (case hg => rfl); (case hr => first | (go_simp; done) | (go_simp; rfl)); intro gb hg w2 hbox hb; have z0 : w2.cell? ⟨g, 0, none⟩ = some (.int .i64 i) := (blk_cell (blk_below hG hb) 0).trans rfl; have y0 : w2.cell? ⟨gb, 0, none⟩ = some (.int .i64 x.f0) := bc0 hbox; have y1 : w2.cell? ⟨gb, 1, none⟩ = some (.int .i64 x.f1) := bc1 hbox; have y2 : w2.cell? ⟨gb, 2, none⟩ = some (.bool x.f2) := bc2 hbox; have y3 : w2.cell? ⟨gb, 3, none⟩ = some (.int .i64 x.f3.f0) := bc3 hbox; have y4 : w2.cell? ⟨gb, 4, none⟩ = some (.int .i64 x.f3.f1) := bc4 hbox; have y5 : w2.cell? ⟨gb, 5, none⟩ = some (.slice A5 x.f3.f2.length c5) := bc5 hbox; have HB := zm hb; clear hb hbox hg))
 all_goals go_ret
 all_goals exact ⟨by first | rfl | (simp; done) | (simp [*]; done), by repeat (first | exact HB.out | apply bA | apply bN | apply bD)⟩

def net_Outs.f (k : Nat) (l0_0 : List (S37)) (l0_1 : List (S53)) (a1 : Int) : Option (List Int) := (net_flows.f k l0_0 l0_1 (net_Outs_1.q a1)).bind fun t157 => (some t157)
set_option maxRecDepth 100000 in
theorem net_Outs.mono : ∀ a0 a1 a2 k, LeO (net_Outs.f k a0 a1 a2) (net_Outs.f (k + 1) a0 a1 a2) := by
 intro a0 a1 a2 k
 unfold net_Outs.f
 repeat' first
 | (with_reducible exact net_flows.mono _ _ _ _)
 | (with_reducible exact LeO.refl _)
 | (with_reducible exact LeO.none _)
 | (with_reducible refine LeO.ite ?_ ?_)
 | (with_reducible refine LeO.bind ?_ (fun _ => ?_))
 | refine LeO.ite ?_ ?_
 | refine LeO.bind ?_ (fun _ => ?_)
set_option maxHeartbeats 8000000 in
set_option maxRecDepth 100000 in
theorem net_Outs.calls (k : Nat) (A0_0 : Option Addr) (c0_0 : Nat) (l0_0 : List (S37)) (A0_1 : Option Addr) (c0_1 : Nat) (l0_1 : List (S53)) (a1 : Int) (r : List Int) (w : World) (hr0_0 : Kd.C k37 w A0_0 l0_0.length l0_0) (hc0_0 : l0_0.length ≤ c0_0) (hr0_1 : Kd.C k53 w A0_1 l0_1.length l0_1) (hc0_1 : l0_1.length ≤ c0_1) (h : net_Outs.f k l0_0 l0_1 a1 = some r) :
  Calls Tryd.prog 14 #[.agg #[.slice A0_0 l0_0.length c0_0, .slice A0_1 l0_1.length c0_1], .int .i64 a1] w fun e w' => ∃ v0_ : Value, e = .returned (v0_) ∧ Kd.R (Kd.int .i64) 3 w' w.heap.size (fun _ => True) v0_ r ∧ Below w.heap.size w w' := by
 have hu25 := Tryd.underlying25
 have HR0_0 := zm hr0_0
 have HC0_0 := zm hc0_0
 clear hr0_0 hc0_0
 have HR0_1 := zm hr0_1
 have HC0_1 := zm hc0_1
 clear hr0_1 hc0_1
 have HB := zm (Below.refl w.heap.size w)
 have H : ((net_flows.f k l0_0 l0_1 (net_Outs_1.q a1)).bind fun t157 => (some t157)) = some r := h
 clear h
 replace H := Option.bind_eq_some_iff.mp H
 obtain ⟨t157, A30, H⟩ := H
 replace H : (some t157) = some r := H
 have A3 := zm A30
 clear A30
 obtain rfl := Option.some.inj H
 go_enter Tryd.func14, Tryd.ntmps14
 go_wp2_with (first | ((with_reducible refine gate_dst (N := 2) rfl ?_); refine box_event ?hg (N := 2) ?hd (cs := #[.slice A0_0 l0_0.length c0_0, .slice A0_1 l0_1.length c0_1]) (t := 25) ?hr ?_; (case hd => rfl); (case hg => rfl); (case hr => first | (go_simp; done) | (go_simp; rfl)); intro gb155 hg w4 hbox hb; have BK155 := zm (hbox); have GW155 := zm ((by rw [hg]; exact (below_size (bx HB.out)) : w.heap.size ≤ gb155)); have GE155 := zm ((by rw [hg]; exact (below_size (bx HB.out)) : w.heap.size ≤ gb155)); replace HB := zm (below_step (bx HB.out) hb); clear hb hbox hg) | ((with_reducible refine gate_dst (N := 3) rfl ?_); refine box_event ?hg (N := 3) ?hd (cs := #[.int .i64 a1]) (t := 3) ?hr ?_; (case hd => rfl); (case hg => rfl); (case hr => first | (go_simp; done) | (go_simp; rfl)); intro gb156 hg w5 hbox hb; have BK156 := zm (hbox); have GW156 := zm ((by rw [hg]; exact (below_size (bx HB.out)) : w.heap.size ≤ gb156)); have GE156 := zm ((by rw [hg]; exact (below_size (bx HB.out)) : w.heap.size ≤ gb156)); replace HB := zm (below_step (bx HB.out) hb); have NB155_156 := zm ((by rw [hg]; exact Nat.ne_of_lt (blk_lt (g := gb155) (o := .cells #[.slice A0_0 l0_0.length c0_0, .slice A0_1 l0_1.length c0_1] 25 (0, 0)) (kx BK155.out)) : gb155 ≠ gb156)); have NB156_155 := zm ((by rw [hg]; exact Nat.ne_of_gt (blk_lt (g := gb155) (o := .cells #[.slice A0_0 l0_0.length c0_0, .slice A0_1 l0_1.length c0_1] 25 (0, 0)) (kx BK155.out)) : gb156 ≠ gb155)); replace BK155 := zm (kB (kx BK155.out) hb); clear hb hbox hg; have hnb6 := NB155_156.out; have hnc6 := NB156_155.out; have hcz7_0 := bc0 BK155.out; have hcz7_1 := bc1 BK155.out) | ((with_reducible refine gate_callee (f := 31) rfl ?_); refine goesL_ (some 7) rfl rfl Tryd.func31 (by kernel_rfl) rfl #[.agg #[.slice A0_0 l0_0.length c0_0, .slice A0_1 l0_1.length c0_1], .func (.func 33) #[] #[.pointer (some ⟨gb156, 0, none⟩)]] rfl ag ?_; (with_reducible refine (net_flows.calls k _ _ l0_0 _ _ l0_1 _ _ _ t157 _ ?side1 HC0_0.out ?side3 HC0_1.out ?side5 ?side6 A3.out).mono ?_); (case side1 => exact cx (Kd.C_below HR0_0.out HB.out)); (case side3 => exact cx (Kd.C_below HR0_1.out HB.out)); (case side5 => exact fun args_ w_ => enters_ Tryd.func33 (by kernel_rfl) rfl args_ w_); (case side6 => exact net_Outs_1.ok (kx BK156.out)); rintro e w8 ⟨v158, rfl, ho0, hb⟩; refine ⟨_, rfl, ?_⟩; have HO159 := zm (Kd.R_lower (Kd.R_newB ho0 (g := gb156) (o := .cells #[.int .i64 a1] 3 (0, 0)) (kx BK156.out)) (below_size (bx HB.out))); replace BK155 := zm (kB (kx BK155.out) hb); replace BK156 := zm (kB (kx BK156.out) hb); replace HB := zm (below_step (bx HB.out) hb); (try clear hb); (try clear ho0)))
 go_ret
 exact ⟨_, xe, rx (Kd.R_mono HO159.out (fun _ hk => trivial)), bx HB.out⟩

def net_leads_1.q (l0 : List S37) (l1 : List S53) : Int → Option Bool := fun i => some (decide (0 ≤ i) && decide (i < (l0.length : Int)))
set_option maxHeartbeats 8000000 in
set_option maxRecDepth 100000 in
theorem net_leads_1.ok {g : Nat} {A0 : Option Addr} {c0 : Nat} {l0 : List S37} {A1 : Option Addr} {c1 : Nat} {l1 : List S53} {w : World} (hG0 : w.heap[g]? = some (.cells #[.slice A0 l0.length c0, .slice A1 l1.length c1] 25 (0, 0)))
  (hr0 : Kd.C k37 w A0 l0.length l0) (hc0 : l0.length ≤ c0) (hr1 : Kd.C k53 w A1 l1.length l1) (hc1 : l1.length ≤ c1) : FnOk64 53 #[.pointer (some ⟨g, 0, none⟩)] (net_leads_1.q l0 l1) w := by
 intro W x b hb0 hq
 simp only [net_leads_1.q, Option.some.injEq] at hq
 subst hq
 have z0 : W.cell? ⟨g, 0, none⟩ = some (.slice A0 l0.length c0) := (blk_cell (blk_below hG0 hb0) 0).trans rfl
 clear hG0 hb0 hr0 hr1 hc0 hc1
 show Calls Tryd.prog 53 #[.int .i64 x, .pointer (some ⟨g, 0, none⟩)] W _
 go_enter Tryd.func53, Tryd.ntmps53
 go_wp2
 all_goals go_ret
 all_goals exact ⟨by first | rfl | (simp; done) | (simp [*]; done) | (simp [*]; omega), by repeat (first | exact Below.refl _ _ | apply bA | apply bN | apply bD)⟩

end Go.Proofs.YtdaeiicdpfghlaaDoor.R
