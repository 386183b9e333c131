import Derived.Test.YtdlblokojlhmbaaDoorSx0
import Derived.Test.YtdlblokojlhmbaaDoorSx4
namespace Go.Proofs.YtdlblokojlhmbaaDoor.Q
open Go.RowKit Go.Proofs.YtdlblokojlhmbaaDoorW.PrintWords Go.Proofs.YtdlblokojlhmbaaDoorW.PrintLast Go.Proofs.YtdlblokojlhmbaaDoorW.PrintMore
attribute [local go_sem] max2_int min2_int max_two min_two max_three min_three max_four min_four   -- for this text's walks alone
set_option linter.unusedVariables false
set_option linter.unusedSimpArgs false

mutual
def mark_Read.l0 : Nat → ByteArray → List (S38) → Int → Option ((List (S38)) × Int × Int)
 | 0, _, _, _ => none
 | k + 1, x0, x5, x6 => if x0.toList = ([] : List UInt8) then (some (x5, 0, 0)) else ((mark_first.f k x0).bind fun bt173 => (if bt173.2.2 = true then (mark_Read.l1 k bt173.2.1 x5 x6 (wrap64 (x6 - (x0.size : Int))) bt173.1 (bt173.1.length : Int) 0) else (some (([] : List (S38)), wrap64 (x6 - (x0.size : Int)), 4))))
def mark_Read.l1 : Nat → ByteArray → List (S38) → Int → Int → List (S38) → Int → Int → Option ((List (S38)) × Int × Int)
 | 0, _, _, _, _, _, _, _ => none
 | k + 1, x0, x5, x6, x7, x32, x33, x34 => if x34 < x33 then (if 0 ≤ x34 then (if x34 < (x32.length : Int) then (if x5.length < 1954687338268 then (mark_Read.l1 k x0 (x5 ++ [(⟨(rd_T38 x32 x34).f0, x7, (rd_T38 x32 x34).f2, (rd_T38 x32 x34).f3, (rd_T38 x32 x34).f4⟩ : S38)]) x6 x7 x32 x33 (wrap64 (x34 + 1))) else (none)) else (none)) else (none)) else (mark_Read.l0 k x0 x5 x6)
end
def mark_Read.f (k : Nat) (a0 : ByteArray) : Option ((List (S38)) × Int × Int) := if (a0.size : Int) > 20000 then (some (([] : List (S38)), 0, 2)) else (mark_Read.l0 k a0 ([] : List (S38)) (a0.size : Int))
set_option maxRecDepth 100000 in
theorem mark_Read.mono_l : ∀ k, (∀ y0 y1 y2, LeO (mark_Read.l0 k y0 y1 y2) (mark_Read.l0 (k + 1) y0 y1 y2)) ∧ (∀ y0 y1 y2 y3 y4 y5 y6, LeO (mark_Read.l1 k y0 y1 y2 y3 y4 y5 y6) (mark_Read.l1 (k + 1) y0 y1 y2 y3 y4 y5 y6))
 | 0 => ⟨fun _ _ _ r h => by first | (cases h; done) | simp [mark_Read.l0] at h, fun _ _ _ _ _ _ _ r h => by first | (cases h; done) | simp [mark_Read.l1] at h⟩
 | k + 1 => by
  obtain ⟨ih0, ih1⟩ := mark_Read.mono_l k
  refine ⟨?_, ?_⟩
  ·intro y0 y1 y2
   unfold mark_Read.l0
   repeat' first
   | (with_reducible exact ih0 _ _ _)
   | (with_reducible exact ih1 _ _ _ _ _ _ _)
   | (with_reducible exact mark_first.mono _ _)
   | (with_reducible exact LeO.refl _)
   | (with_reducible exact LeO.none _)
   | (with_reducible refine LeO.ite ?_ ?_)
   | (with_reducible refine LeO.bind ?_ (fun _ => ?_))
   | exact ih0 _ _ _
   | exact ih1 _ _ _ _ _ _ _
   | exact mark_first.mono _ _
   | exact LeO.none _
   | refine LeO.ite ?_ ?_
   | refine LeO.bind ?_ (fun _ => ?_)
  ·intro y0 y1 y2 y3 y4 y5 y6
   unfold mark_Read.l1
   repeat' first
   | (with_reducible exact ih0 _ _ _)
   | (with_reducible exact ih1 _ _ _ _ _ _ _)
   | (with_reducible exact mark_first.mono _ _)
   | (with_reducible exact LeO.refl _)
   | (with_reducible exact LeO.none _)
   | (with_reducible refine LeO.ite ?_ ?_)
   | (with_reducible refine LeO.bind ?_ (fun _ => ?_))
   | exact ih0 _ _ _
   | exact ih1 _ _ _ _ _ _ _
   | exact mark_first.mono _ _
   | exact LeO.none _
   | refine LeO.ite ?_ ?_
   | refine LeO.bind ?_ (fun _ => ?_)
set_option maxRecDepth 100000 in
theorem mark_Read.mono : ∀ a0 k, LeO (mark_Read.f k a0) (mark_Read.f (k + 1) a0) := by
 intro a0 k
 obtain ⟨ih0, ih1⟩ := mark_Read.mono_l k
 unfold mark_Read.f
 repeat' first
   | (with_reducible exact ih0 _ _ _)
   | (with_reducible exact ih1 _ _ _ _ _ _ _)
   | (with_reducible exact mark_first.mono _ _)
   | (with_reducible exact LeO.refl _)
   | (with_reducible exact LeO.none _)
   | (with_reducible refine LeO.ite ?_ ?_)
   | (with_reducible refine LeO.bind ?_ (fun _ => ?_))
   | exact ih0 _ _ _
   | exact ih1 _ _ _ _ _ _ _
   | exact mark_first.mono _ _
   | exact LeO.none _
   | refine LeO.ite ?_ ?_
   | refine LeO.bind ?_ (fun _ => ?_)
set_option maxHeartbeats 8000000 in
set_option maxRecDepth 100000 in
theorem mark_Read.calls (k : Nat) (a0 : ByteArray) (r1 : List (S38)) (r2 : Int) (r3 : Int) (w : World) (h : mark_Read.f k a0 = some (r1, r2, r3)) (hT : Tabs.Tab w) :
  Calls Tryd.prog 8 #[.string a0] w fun e w' => ∃ v0_ : Value, e = .returned (.tuple #[v0_, .int .i64 r2, .int .i64 r3]) ∧ Kd.N k38 38 w' w.heap.size (fun k_ => (w.heap.size ≤ k_)) v0_ r1 ∧ Below w.heap.size w w' := by
 have hu38 := Tryd.underlying38
 have HB := Aside0.mk (Below.refl w.heap.size w)
 have HT0 := Aside0.mk hT
 clear hT
 have H : (if (a0.size : Int) > 20000 then (some (([] : List (S38)), 0, 2)) else (mark_Read.l0 k a0 ([] : List (S38)) (a0.size : Int))) = some (r1, r2, r3) := h
 clear h
 by_cases c2 : (a0.size : Int) > 20000
 ·rw [if_pos c2] at H
  have c2b0 : decide (20000 < (a0.size : Int)) = true := decide_eq_true c2
  have c2b1 : decide (20000 < a0.size) = true := decide_eq_true (by omega)
  clear c2
  simp only [Option.some.injEq, Prod.mk.injEq] at H
  obtain ⟨rfl, rfl, rfl⟩ := H
  go_enter Tryd.func8, Tryd.ntmps8
  go_wp2
  go_ret3
  exact ⟨_, by first | rfl | (simp [errW_none, errW_some] <;> rfl) | (simp [*, errW_none, errW_some] <;> rfl), by first | exact Kd.S_nil _ _ _ _ _ | exact Kd.N_nil _ _ _ _ _ | exact Kd.V_nil _ _ _ _ _ | exact Kd.Q_nil _ _ _ _ _ | exact Kd.R_nil _ _ _ _ _, by repeat (first | (with_reducible first | exact HB.out | apply bA | apply bN | apply bD) | exact HB.out)⟩
 ·rw [if_neg c2] at H
  have c2b0 : decide (20000 < (a0.size : Int)) = false := decide_eq_false c2
  have c2b1 : decide (20000 < a0.size) = false := decide_eq_false (by omega)
  clear c2
  have H' := Aside0.mk H
  clear H
  go_enter Tryd.func8, Tryd.ntmps8
  go_wp2
  go_loopg [0, 5] k (fun kq v0 v5 w' => ∃ (x0_1 : ByteArray) (x5_1 : List (S38)), v0 = .string x0_1 ∧ Aside0 (mark_Read.l0 kq x0_1 x5_1 (a0.size : Int) = some (r1, r2, r3)) ∧ Aside0 (kq ≤ k) ∧ Aside0 (Kd.N k38 38 w' w.heap.size (fun k_ => (w.heap.size ≤ k_)) v5 x5_1) ∧ Aside0 (Below w.heap.size w w'))
  case atStart => exact ⟨(a0), (([] : List (S38))), (by first | rfl | (simp; done) | (simp [*]; done)), H', ⟨Nat.le_refl _⟩, ⟨by first | exact Kd.S_nil _ _ _ _ _ | exact Kd.N_nil _ _ _ _ _ | exact Kd.V_nil _ _ _ _ _ | exact Kd.Q_nil _ _ _ _ _ | exact Kd.R_nil _ _ _ _ _⟩, ⟨by repeat (first | (with_reducible first | exact HB.out | apply bA | apply bN | apply bD) | exact HB.out)⟩⟩
  case round =>
   clear H'
   try clear c2
   try clear c2b0
   try clear c2b1
   try clear p2
   obtain ⟨x0_1, x5_1, rfl, HA, HK1, HO_5, HB⟩ := hrel
   cases gk with
   | zero => exact absurd HA.out (by first | (intro h_; cases h_; done) | simp [mark_Read.l0])
   | succ k1 =>
    have H := HA.out
    clear HA
    simp only [mark_Read.l0] at H
    by_cases c3 : x0_1.toList = ([] : List UInt8)
    ·rw [if_pos c3] at H
     have c3b0 : (x0_1.toList == ([] : List UInt8)) = true := beq_iff_eq.mpr c3
     have c3b1 : (x0_1.toList != ([] : List UInt8)) = false := bne_eq_false_iff_eq.mpr c3
     clear c3
     simp only [Option.some.injEq, Prod.mk.injEq] at H
     obtain ⟨rfl, rfl, rfl⟩ := H
     go_wp2
     go_ret3
     exact ⟨_, by first | rfl | (simp [errW_none, errW_some] <;> rfl) | (simp [*, errW_none, errW_some] <;> rfl), by (with_reducible repeat (first | apply Kd.N_alloc | apply Kd.N_drewN | apply Kd.N_drew)); exact HO_5.out, by repeat (first | (with_reducible first | exact HB.out | apply bA | apply bN | apply bD) | exact HB.out)⟩
    ·rw [if_neg c3] at H
     have c3b0 : (x0_1.toList == ([] : List UInt8)) = false := beq_eq_false_iff_ne.mpr c3
     have c3b1 : (x0_1.toList != ([] : List UInt8)) = true := bne_iff_ne.mpr c3
     replace H := Option.bind_eq_some_iff.mp H
     obtain ⟨⟨t173, t176, t177⟩, A40, H⟩ := H
     replace H : (if t177 = true then (mark_Read.l1 k1 t176 x5_1 (a0.size : Int) (wrap64 ((a0.size : Int) - (x0_1.size : Int))) t173 (t173.length : Int) 0) else (some (([] : List (S38)), wrap64 ((a0.size : Int) - (x0_1.size : Int)), 4))) = some (r1, r2, r3) := H
     have A4 := Aside0.mk A40
     clear A40
     by_cases c5 : t177 = true
     ·subst c5
      have H1 : (mark_Read.l1 k1 t176 x5_1 (a0.size : Int) (wrap64 ((a0.size : Int) - (x0_1.size : Int))) t173 (t173.length : Int) 0) = some (r1, r2, r3) := by rw [if_pos rfl] at H; exact H
      clear H
      have H := H1
      clear H1
      have H' := Aside0.mk H
      clear H
      go_wp2_with (first | ((with_reducible refine gate_callee (f := 20) rfl ?_); refine goesL_ (some 25) rfl rfl Tryd.func20 (by kernel_rfl) rfl #[.string x0_1] rfl (by (try simp only [List.map_toArray, List.map_cons, List.map_nil]); first | done | rfl | (simp only [List.length_drop, List.length_take]; rfl)) ?_; (with_reducible refine (mark_first.calls k1 x0_1 t173 t176 true _ A4.out ?hT_).mono ?_); (case hT_ => exact Tabs.tab_below HT0.out (by repeat (first | (with_reducible first | exact HB.out | apply bA | apply bN | apply bD) | exact HB.out))); rintro e w6 ⟨v174, rfl, ho0, hb⟩; refine ⟨_, rfl, ?_⟩; have n0_ := Aside0.mk (Kd.N_elder' (by (with_reducible repeat (first | apply Kd.N_alloc | apply Kd.N_drewN | apply Kd.N_drew)); exact HO_5.out) (by first | exact Kd.N_base ho0 | exact Kd.N_base ho0 | exact Kd.S_base ho0 | exact Kd.R_base ho0) hb); have n1_ := Aside0.mk (Kd.N_lower (Kd.N_mono (ok' := fun k_ => (w.heap.size ≤ k_) ∧ some k_ ≠ (u5 : Value).ownBlock) ho0 (fun k_ hk_ => ⟨(Nat.le_trans (below_size (by repeat (first | (with_reducible first | exact HB.out | apply bA | apply bN | apply bD) | exact HB.out))) hk_), (Kd.fresh' (Kd.N_lt (by (with_reducible repeat (first | apply Kd.N_alloc | apply Kd.N_drewN | apply Kd.N_drew)); exact HO_5.out)) k_ hk_)⟩)) (below_size (by repeat (first | (with_reducible first | exact HB.out | apply bA | apply bN | apply bD) | exact HB.out)))); have n2_ := Aside0.mk (below_step (by repeat (first | (with_reducible first | exact HB.out | apply bA | apply bN | apply bD) | exact HB.out)) hb); clear HO_5; clear HB; have HO_5 := n0_; have HO175 := n1_; have HB := n2_; clear n0_ n1_ n2_; (try clear hb); (try clear hb2); (try clear hk); (try clear hi); (try clear ho0); obtain ⟨Ao7, co7, eo7⟩ := Kd.N_slice HO175.out; subst eo7))
      go_loopg [5, 34] k1 (fun kq v5 v34 w' => ∃ (x5_2 : List (S38)) (x34_2 : Int), v34 = .int .i64 x34_2 ∧ Aside0 (mark_Read.l1 kq t176 x5_2 (a0.size : Int) (wrap64 ((a0.size : Int) - (x0_1.size : Int))) t173 (t173.length : Int) x34_2 = some (r1, r2, r3)) ∧ Aside0 (kq ≤ k1) ∧ Aside0 (Kd.N k38 38 w' w.heap.size (fun k_ => (w.heap.size ≤ k_) ∧ some k_ ≠ ((.slice Ao7 t173.length co7) : Value).ownBlock) v5 x5_2) ∧ Aside0 (Kd.N k38 38 w' w.heap.size (fun k_ => (w.heap.size ≤ k_) ∧ some k_ ≠ (v5 : Value).ownBlock) (.slice Ao7 t173.length co7) t173) ∧ Aside0 (Below w.heap.size w w'))
      case atStart => exact ⟨(x5_1), (0), (by first | rfl | (simp; done) | (simp [*]; done)), H', ⟨Nat.le_refl _⟩, ⟨by (with_reducible repeat (first | apply Kd.N_alloc | apply Kd.N_drewN | apply Kd.N_drew)); exact HO_5.out⟩, ⟨by (with_reducible repeat (first | apply Kd.N_alloc | apply Kd.N_drewN | apply Kd.N_drew)); exact HO175.out⟩, ⟨by repeat (first | (with_reducible first | exact HB.out | apply bA | apply bN | apply bD) | exact HB.out)⟩⟩
      case round =>
       clear H'
       try clear c2
       try clear c2b0
       try clear c2b1
       try clear p2
       try clear c3
       try clear c3b0
       try clear c3b1
       try clear c5
       try clear p6
       try clear p2
       obtain ⟨x5_2, x34_2, rfl, HA, HK2, HO_5, HO_32, HB⟩ := hrel
       cases gk with
       | zero => exact absurd HA.out (by first | (intro h_; cases h_; done) | simp [mark_Read.l1])
       | succ k2 =>
        have H := HA.out
        clear HA
        simp only [mark_Read.l1] at H
        by_cases c8 : x34_2 < (t173.length : Int)
        ·rw [if_pos c8] at H
         have c8b0 : decide (x34_2 < (t173.length : Int)) = true := decide_eq_true c8
         clear c8
         by_cases c9 : 0 ≤ x34_2
         ·rw [if_pos c9] at H
          have c9b0 : decide (0 ≤ x34_2) = true := decide_eq_true c9
          clear c9
          by_cases c10 : x34_2 < (t173.length : Int)
          ·rw [if_pos c10] at H
           have c10b0 : decide (x34_2 < (t173.length : Int)) = true := decide_eq_true c10
           clear c10
           by_cases c11 : x5_2.length < 1954687338268
           ·rw [if_pos c11] at H
            have LMc11 := Aside0.mk c11
            clear c11
            obtain ⟨y180, hy180⟩ : ∃ y_ : List (S38), y_ = (x5_2 ++ [(⟨(rd_T38 t173 x34_2).f0, (wrap64 ((a0.size : Int) - (x0_1.size : Int))), (rd_T38 t173 x34_2).f2, (rd_T38 t173 x34_2).f3, (rd_T38 t173 x34_2).f4⟩ : S38)]) := ⟨_, rfl⟩
            replace H : (mark_Read.l1 k2 t176 y180 (a0.size : Int) (wrap64 ((a0.size : Int) - (x0_1.size : Int))) t173 (t173.length : Int) (wrap64 (x34_2 + 1))) = some (r1, r2, r3) := by first | (rw [hy180]; with_reducible exact H) | (have H2_ := (Option.bind_some _ _).symm.trans H; rw [hy180]; with_reducible exact H2_) | (have H2_ := (Option.bind_some _ _).symm.trans H; with_reducible exact H2_) | with_reducible exact H | (rw [hy180]; exact H) | exact H
            have Ny180 := Aside0.mk hy180
            clear hy180
            have H' := Aside0.mk H
            clear H
            have p178 : 0 ≤ (x34_2 : Int) := of_decide_eq_true (by first | (with_reducible assumption) | assumption)
            have q178 : x34_2 < (t173.length : Int) := of_decide_eq_true (by first | (with_reducible assumption) | assumption)
            obtain ⟨ad178, A178_3, c178_3, e178, hx178_0, hx178_1, hx178_2, hx178_3, hx178_4, hl178_3, hi178_3⟩ := at_T38 (Kd.N_reads' HO_32.out).2.2 x34_2 p178 q178
            cases e178
            obtain ⟨ce178, hce178, hMe178, hcc178⟩ := Kd.N_get HO_32.out z38 x34_2 p178 (by first | exact q178 | exact of_decide_eq_true (by first | (with_reducible assumption) | assumption) | (have e_ := (Kd.N_reads' HO_32.out).1; omega))
            obtain ⟨ua178_3, uc178_3, rfl, ul178_3, ge178_3⟩ := k38_openF hMe178
            have hv178_3 := hcc178 3 _ rfl
            rw [add_field _ _ 3 (by omega)] at hv178_3
            replace hv178_3 := Option.some.inj (hv178_3.symm.trans hx178_3)
            injection hv178_3 with hva_ hvn_ hvc_
            rw [hva_] at ge178_3
            rw [hvc_] at ul178_3
            have HL178_3 := Aside0.mk (show Kd.V k51 51 _ w.heap.size _ _ ((rd_T38 t173 x34_2).f3) from Kd.V_mk ul178_3 ge178_3)
            clear hva_ hvn_ hvc_ ge178_3 ul178_3
            clear hcc178 hce178
            have HR178_3 := Aside0.mk hi178_3
            have HC178_3 := Aside0.mk hl178_3
            clear hi178_3 hl178_3
            replace p178 := eq_true p178
            replace q178 := eq_true q178
            go_wp2_with (first | ((with_reducible refine gate_dst (N := 11) rfl ?_); refine box_event ?hg (N := 11) ?hd (cs := #[.int .i64 0, .int .i64 0, .string (⟨#[]⟩ : ByteArray), .slice none 0 0, .string (⟨#[]⟩ : ByteArray)]) (t := 38) ?hr ?_; (case hd => rfl); (case hg => rfl); (case hr => first | (go_simp; done) | (go_simp; rfl)); intro gb179 hg w12 hbox hb; have n0_ := Aside0.mk (Kd.N_below (Kd.N_elderB (by (with_reducible repeat (first | apply Kd.N_alloc | apply Kd.N_drewN | apply Kd.N_drew)); exact HO_5.out) gb179 (Nat.le_of_eq hg.symm)) hb); have n1_ := Aside0.mk (Kd.N_below (Kd.N_elderB (by (with_reducible repeat (first | apply Kd.N_alloc | apply Kd.N_drewN | apply Kd.N_drew)); exact HO_32.out) gb179 (Nat.le_of_eq hg.symm)) hb); have n2_ := Aside0.mk (Kd.V_below (Kd.V_elderB (by (with_reducible repeat (first | apply Kd.V_alloc | apply Kd.V_drewN | apply Kd.V_drew)); exact HL178_3.out) gb179 (Nat.le_of_eq hg.symm)) hb); have n3_ := Aside0.mk (Kd.C_below (by repeat (first | (with_reducible exact HR178_3.out) | (with_reducible refine Kd.C_alloc ?_ _) | (with_reducible refine Kd.C_drewN ?_ _) | (with_reducible refine Kd.C_drew ?_) | exact HR178_3.out)) hb); have n4_ := Aside0.mk (below_step (by repeat (first | (with_reducible first | exact HB.out | apply bA | apply bN | apply bD) | exact HB.out)) hb); have n5_ := Aside0.mk (hbox); have n6_ := Aside0.mk ((by rw [hg]; exact (below_size (by repeat (first | (with_reducible first | exact HB.out | apply bA | apply bN | apply bD) | exact HB.out))) : w.heap.size ≤ gb179)); have n7_ := Aside0.mk ((by rw [hg]; exact (below_size (by repeat (first | (with_reducible first | exact HB.out | apply bA | apply bN | apply bD) | exact HB.out))) : w.heap.size ≤ gb179)); clear HO_5; clear HO_32; clear HL178_3; clear HR178_3; clear HB; have HO_5 := n0_; have HO_32 := n1_; have HL178_3 := n2_; have HR178_3 := n3_; have HB := n4_; have BK179 := n5_; have GW179 := n6_; have GE179 := n7_; clear n0_ n1_ n2_ n3_ n4_ n5_ n6_ n7_; clear hb hbox hg; have hcz13_0 : w12.cell? ⟨gb179, 0, none⟩ = some (.int .i64 0) := (blk_cell BK179.out 0).trans rfl; have hcz13_1 : w12.cell? ⟨gb179, 1, none⟩ = some (.int .i64 0) := (blk_cell BK179.out 1).trans rfl; have hcz13_2 : w12.cell? ⟨gb179, 2, none⟩ = some (.string (⟨#[]⟩ : ByteArray)) := (blk_cell BK179.out 2).trans rfl; have hcz13_3 : w12.cell? ⟨gb179, 3, none⟩ = some (.slice none 0 0) := (blk_cell BK179.out 3).trans rfl; have hcz13_4 : w12.cell? ⟨gb179, 4, none⟩ = some (.string (⟨#[]⟩ : ByteArray)) := (blk_cell BK179.out 4).trans rfl; have hfz13_0 := blk_frozen BK179.out 0; have hfz13_1 := blk_frozen BK179.out 1; have hfz13_2 := blk_frozen BK179.out 2; have hfz13_3 := blk_frozen BK179.out 3; have hfz13_4 := blk_frozen BK179.out 4) | ((with_reducible refine gate_store (t := 38) (p := 11) rfl ?_); refine store_event (t := 38) (p := 11) (v := ?vo_w14) (w1 := (((((w12.setCell ⟨gb179, 0, none⟩ (.int .i64 ((rd_T38 t173 x34_2).f0))).setCell ⟨gb179, 1, none⟩ (.int .i64 ((rd_T38 t173 x34_2).f1))).setCell ⟨gb179, 2, none⟩ (.string ((rd_T38 t173 x34_2).f2))).setCell ⟨gb179, 3, none⟩ (.slice A178_3 ((rd_T38 t173 x34_2).f3).length c178_3)).setCell ⟨gb179, 4, none⟩ (.string ((rd_T38 t173 x34_2).f4)))) ?hg ?ho ?hn ?hr ?_; (case ho => rfl); (case hg => rfl); (case hn => rfl); (case hr => first | (go_simp; done) | (go_simp; rfl)); intro w14 hw; have n0_ : Aside0 (Kd.N k38 38 w14 w.heap.size (fun k_ => (w.heap.size ≤ k_) ∧ some k_ ≠ (.slice (some ad178) t173.length co7 : Value).ownBlock ∧ k_ ≠ gb179) u5 x5_2) := ⟨(by rw [hw]; exact (by (with_reducible repeat (first | apply Kd.N_alloc | apply Kd.N_drewN | apply Kd.N_drew)); exact Kd.N_mono (Kd.N_far (p := ⟨gb179, 4, none⟩) (Kd.N_far (p := ⟨gb179, 3, none⟩) (Kd.N_far (p := ⟨gb179, 2, none⟩) (Kd.N_far (p := ⟨gb179, 1, none⟩) (Kd.N_far (p := ⟨gb179, 0, none⟩) (Kd.N_mono HO_5.out (fun k_ hk => (⟨hk, hk.2⟩ : _ ∧ k_ ≠ gb179))) (fun _ hk => hk.2) (.int .i64 ((rd_T38 t173 x34_2).f0))) (fun _ hk => hk.2) (.int .i64 ((rd_T38 t173 x34_2).f1))) (fun _ hk => hk.2) (.string ((rd_T38 t173 x34_2).f2))) (fun _ hk => hk.2) (.slice A178_3 ((rd_T38 t173 x34_2).f3).length c178_3)) (fun _ hk => hk.2) (.string ((rd_T38 t173 x34_2).f4))) (fun _ hk => ⟨hk.1.1.1, ⟨hk.1.1.2, hk.1.2⟩⟩)))⟩; have n1_ : Aside0 (Kd.N k38 38 w14 w.heap.size (fun k_ => (w.heap.size ≤ k_) ∧ some k_ ≠ (u5 : Value).ownBlock ∧ k_ ≠ gb179) (.slice (some ad178) t173.length co7) t173) := ⟨(by rw [hw]; exact (by (with_reducible repeat (first | apply Kd.N_alloc | apply Kd.N_drewN | apply Kd.N_drew)); exact Kd.N_mono (Kd.N_far (p := ⟨gb179, 4, none⟩) (Kd.N_far (p := ⟨gb179, 3, none⟩) (Kd.N_far (p := ⟨gb179, 2, none⟩) (Kd.N_far (p := ⟨gb179, 1, none⟩) (Kd.N_far (p := ⟨gb179, 0, none⟩) (Kd.N_mono HO_32.out (fun k_ hk => (⟨hk, hk.2⟩ : _ ∧ k_ ≠ gb179))) (fun _ hk => hk.2) (.int .i64 ((rd_T38 t173 x34_2).f0))) (fun _ hk => hk.2) (.int .i64 ((rd_T38 t173 x34_2).f1))) (fun _ hk => hk.2) (.string ((rd_T38 t173 x34_2).f2))) (fun _ hk => hk.2) (.slice A178_3 ((rd_T38 t173 x34_2).f3).length c178_3)) (fun _ hk => hk.2) (.string ((rd_T38 t173 x34_2).f4))) (fun _ hk => ⟨hk.1.1.1, ⟨hk.1.1.2, hk.1.2⟩⟩)))⟩; have n2_ : Aside0 (Kd.V k51 51 w14 w.heap.size (fun k_ => (w.heap.size ≤ k_) ∧ some k_ ≠ (u5 : Value).ownBlock ∧ some k_ ≠ (.slice (some ad178) t173.length co7 : Value).ownBlock ∧ k_ ≠ gb179) (.slice A178_3 ((rd_T38 t173 x34_2).f3).length c178_3) ((rd_T38 t173 x34_2).f3)) := ⟨(by rw [hw]; exact (by (with_reducible repeat (first | apply Kd.V_alloc | apply Kd.V_drewN | apply Kd.V_drew)); exact Kd.V_mono (Kd.V_far (p := ⟨gb179, 4, none⟩) (Kd.V_far (p := ⟨gb179, 3, none⟩) (Kd.V_far (p := ⟨gb179, 2, none⟩) (Kd.V_far (p := ⟨gb179, 1, none⟩) (Kd.V_far (p := ⟨gb179, 0, none⟩) (Kd.V_mono HL178_3.out (fun k_ hk => (⟨hk, hk.2⟩ : _ ∧ k_ ≠ gb179))) (fun _ hk => hk.2) (.int .i64 ((rd_T38 t173 x34_2).f0))) (fun _ hk => hk.2) (.int .i64 ((rd_T38 t173 x34_2).f1))) (fun _ hk => hk.2) (.string ((rd_T38 t173 x34_2).f2))) (fun _ hk => hk.2) (.slice A178_3 ((rd_T38 t173 x34_2).f3).length c178_3)) (fun _ hk => hk.2) (.string ((rd_T38 t173 x34_2).f4))) (fun _ hk => ⟨hk.1.1.1.1, ⟨hk.1.1.1.2, ⟨hk.1.1.2, hk.1.2⟩⟩⟩)))⟩; have n3_ : Aside0 (w14.heap[gb179]? = some (.cells #[.int .i64 ((rd_T38 t173 x34_2).f0), .int .i64 ((rd_T38 t173 x34_2).f1), .string ((rd_T38 t173 x34_2).f2), .slice A178_3 ((rd_T38 t173 x34_2).f3).length c178_3, .string ((rd_T38 t173 x34_2).f4)] 38 (0, 0))) := ⟨(by rw [hw]; exact (by (with_reducible repeat (first | refine kN ?_ _ | refine kD ?_ | refine kA ?_ _)); refine blk_put (cs := #[.int .i64 ((rd_T38 t173 x34_2).f0), .int .i64 ((rd_T38 t173 x34_2).f1), .string ((rd_T38 t173 x34_2).f2), .slice A178_3 ((rd_T38 t173 x34_2).f3).length c178_3, .string (⟨#[]⟩ : ByteArray)]) ?_ 4 _ rfl; (with_reducible repeat (first | refine kN ?_ _ | refine kD ?_ | refine kA ?_ _)); refine blk_put (cs := #[.int .i64 ((rd_T38 t173 x34_2).f0), .int .i64 ((rd_T38 t173 x34_2).f1), .string ((rd_T38 t173 x34_2).f2), .slice none 0 0, .string (⟨#[]⟩ : ByteArray)]) ?_ 3 _ rfl; (with_reducible repeat (first | refine kN ?_ _ | refine kD ?_ | refine kA ?_ _)); refine blk_put (cs := #[.int .i64 ((rd_T38 t173 x34_2).f0), .int .i64 ((rd_T38 t173 x34_2).f1), .string (⟨#[]⟩ : ByteArray), .slice none 0 0, .string (⟨#[]⟩ : ByteArray)]) ?_ 2 _ rfl; (with_reducible repeat (first | refine kN ?_ _ | refine kD ?_ | refine kA ?_ _)); refine blk_put (cs := #[.int .i64 ((rd_T38 t173 x34_2).f0), .int .i64 0, .string (⟨#[]⟩ : ByteArray), .slice none 0 0, .string (⟨#[]⟩ : ByteArray)]) ?_ 1 _ rfl; (with_reducible repeat (first | refine kN ?_ _ | refine kD ?_ | refine kA ?_ _)); refine blk_put (cs := #[.int .i64 0, .int .i64 0, .string (⟨#[]⟩ : ByteArray), .slice none 0 0, .string (⟨#[]⟩ : ByteArray)]) ?_ 0 _ rfl; (with_reducible repeat (first | refine kN ?_ _ | refine kD ?_ | refine kA ?_ _)); exact BK179.out))⟩; have n4_ : Aside0 (Below w.heap.size w w14) := ⟨(by rw [hw]; exact (by repeat (first | (with_reducible first | exact HB.out | apply bA | apply bN | apply bD | refine below_set ?_ GE179.out) | exact HB.out)))⟩; clear hw; clear HO_5; clear HO_32; clear HL178_3; clear BK179; clear HB; have HO_5 := n0_; have HO_32 := n1_; have HL178_3 := n2_; have BK179 := n3_; have HB := n4_; clear n0_ n1_ n2_ n3_ n4_; have hcz15_0 : w14.cell? ⟨gb179, 0, none⟩ = some (.int .i64 ((rd_T38 t173 x34_2).f0)) := (blk_cell BK179.out 0).trans rfl; have hcz15_1 : w14.cell? ⟨gb179, 1, none⟩ = some (.int .i64 ((rd_T38 t173 x34_2).f1)) := (blk_cell BK179.out 1).trans rfl; have hcz15_2 : w14.cell? ⟨gb179, 2, none⟩ = some (.string ((rd_T38 t173 x34_2).f2)) := (blk_cell BK179.out 2).trans rfl; have hcz15_3 : w14.cell? ⟨gb179, 3, none⟩ = some (.slice A178_3 ((rd_T38 t173 x34_2).f3).length c178_3) := (blk_cell BK179.out 3).trans rfl; have hcz15_4 : w14.cell? ⟨gb179, 4, none⟩ = some (.string ((rd_T38 t173 x34_2).f4)) := (blk_cell BK179.out 4).trans rfl; have hfz15_0 := blk_frozen BK179.out 0; have hfz15_1 := blk_frozen BK179.out 1; have hfz15_2 := blk_frozen BK179.out 2; have hfz15_3 := blk_frozen BK179.out 3; have hfz15_4 := blk_frozen BK179.out 4) | ((with_reducible refine gate_store (t := 3) (p := 39) rfl ?_); refine store_event (t := 3) (p := 39) (v := ?vo_w16) (w1 := (w14.setCell ⟨gb179, 1, none⟩ (.int .i64 (wrap64 ((a0.size : Int) - (x0_1.size : Int)))))) ?hg ?ho ?hn ?hr ?_; (case ho => rfl); (case hg => rfl); (case hn => rfl); (case hr => first | (go_simp; done) | (go_simp; rfl)); intro w16 hw; have n0_ : Aside0 (Kd.N k38 38 w16 w.heap.size (fun k_ => (w.heap.size ≤ k_) ∧ some k_ ≠ (.slice (some ad178) t173.length co7 : Value).ownBlock ∧ k_ ≠ gb179) u5 x5_2) := ⟨(by rw [hw]; exact (by (with_reducible repeat (first | apply Kd.N_alloc | apply Kd.N_drewN | apply Kd.N_drew)); exact Kd.N_mono (Kd.N_far (p := ⟨gb179, 1, none⟩) (Kd.N_mono HO_5.out (fun k_ hk => (⟨hk, hk.2.2⟩ : _ ∧ k_ ≠ gb179))) (fun _ hk => hk.2) (.int .i64 (wrap64 ((a0.size : Int) - (x0_1.size : Int))))) (fun _ hk => ⟨hk.1.1, ⟨hk.1.2.1, hk.1.2.2⟩⟩)))⟩; have n1_ : Aside0 (Kd.N k38 38 w16 w.heap.size (fun k_ => (w.heap.size ≤ k_) ∧ some k_ ≠ (u5 : Value).ownBlock ∧ k_ ≠ gb179) (.slice (some ad178) t173.length co7) t173) := ⟨(by rw [hw]; exact (by (with_reducible repeat (first | apply Kd.N_alloc | apply Kd.N_drewN | apply Kd.N_drew)); exact Kd.N_mono (Kd.N_far (p := ⟨gb179, 1, none⟩) (Kd.N_mono HO_32.out (fun k_ hk => (⟨hk, hk.2.2⟩ : _ ∧ k_ ≠ gb179))) (fun _ hk => hk.2) (.int .i64 (wrap64 ((a0.size : Int) - (x0_1.size : Int))))) (fun _ hk => ⟨hk.1.1, ⟨hk.1.2.1, hk.1.2.2⟩⟩)))⟩; have n2_ : Aside0 (Kd.V k51 51 w16 w.heap.size (fun k_ => (w.heap.size ≤ k_) ∧ some k_ ≠ (u5 : Value).ownBlock ∧ some k_ ≠ (.slice (some ad178) t173.length co7 : Value).ownBlock ∧ k_ ≠ gb179) (.slice A178_3 ((rd_T38 t173 x34_2).f3).length c178_3) ((rd_T38 t173 x34_2).f3)) := ⟨(by rw [hw]; exact (by (with_reducible repeat (first | apply Kd.V_alloc | apply Kd.V_drewN | apply Kd.V_drew)); exact Kd.V_mono (Kd.V_far (p := ⟨gb179, 1, none⟩) (Kd.V_mono HL178_3.out (fun k_ hk => (⟨hk, hk.2.2.2⟩ : _ ∧ k_ ≠ gb179))) (fun _ hk => hk.2) (.int .i64 (wrap64 ((a0.size : Int) - (x0_1.size : Int))))) (fun _ hk => ⟨hk.1.1, ⟨hk.1.2.1, ⟨hk.1.2.2.1, hk.1.2.2.2⟩⟩⟩)))⟩; have n3_ : Aside0 (w16.heap[gb179]? = some (.cells #[.int .i64 ((rd_T38 t173 x34_2).f0), .int .i64 (wrap64 ((a0.size : Int) - (x0_1.size : Int))), .string ((rd_T38 t173 x34_2).f2), .slice A178_3 ((rd_T38 t173 x34_2).f3).length c178_3, .string ((rd_T38 t173 x34_2).f4)] 38 (0, 0))) := ⟨(by rw [hw]; exact (by (with_reducible repeat (first | refine kN ?_ _ | refine kD ?_ | refine kA ?_ _)); refine blk_put (cs := #[.int .i64 ((rd_T38 t173 x34_2).f0), .int .i64 ((rd_T38 t173 x34_2).f1), .string ((rd_T38 t173 x34_2).f2), .slice A178_3 ((rd_T38 t173 x34_2).f3).length c178_3, .string ((rd_T38 t173 x34_2).f4)]) ?_ 1 _ rfl; (with_reducible repeat (first | refine kN ?_ _ | refine kD ?_ | refine kA ?_ _)); exact BK179.out))⟩; have n4_ : Aside0 (Below w.heap.size w w16) := ⟨(by rw [hw]; exact (by repeat (first | (with_reducible first | exact HB.out | apply bA | apply bN | apply bD | refine below_set ?_ GE179.out) | exact HB.out)))⟩; clear hw; clear HO_5; clear HO_32; clear HL178_3; clear BK179; clear HB; have HO_5 := n0_; have HO_32 := n1_; have HL178_3 := n2_; have BK179 := n3_; have HB := n4_; clear n0_ n1_ n2_ n3_ n4_; have hcz17_0 : w16.cell? ⟨gb179, 0, none⟩ = some (.int .i64 ((rd_T38 t173 x34_2).f0)) := (blk_cell BK179.out 0).trans rfl; have hcz17_1 : w16.cell? ⟨gb179, 1, none⟩ = some (.int .i64 (wrap64 ((a0.size : Int) - (x0_1.size : Int)))) := (blk_cell BK179.out 1).trans rfl; have hcz17_2 : w16.cell? ⟨gb179, 2, none⟩ = some (.string ((rd_T38 t173 x34_2).f2)) := (blk_cell BK179.out 2).trans rfl; have hcz17_3 : w16.cell? ⟨gb179, 3, none⟩ = some (.slice A178_3 ((rd_T38 t173 x34_2).f3).length c178_3) := (blk_cell BK179.out 3).trans rfl; have hcz17_4 : w16.cell? ⟨gb179, 4, none⟩ = some (.string ((rd_T38 t173 x34_2).f4)) := (blk_cell BK179.out 4).trans rfl; have hfz17_0 := blk_frozen BK179.out 0; have hfz17_1 := blk_frozen BK179.out 1; have hfz17_2 := blk_frozen BK179.out 2; have hfz17_3 := blk_frozen BK179.out 3; have hfz17_4 := blk_frozen BK179.out 4) | ((with_reducible refine gate_builtin (b := .append) (xs := #[.tmp 40, .tmp 42]) rfl ?_); at_builtin; refine Kd.N_append k38 (w0 := w) w.heap.size rfl (.tmp 40) (.tmp 42) 22 38 (.agg #[(.int .i64 0), (.int .i64 0), (.string ⟨#[]⟩), (.slice none 0 0), (.string ⟨#[]⟩)]) 72 rfl Tryd.underlying22 info38 rfl (by decide) (by omega) u5 x5_2 (⟨(rd_T38 t173 x34_2).f0, (wrap64 ((a0.size : Int) - (x0_1.size : Int))), (rd_T38 t173 x34_2).f2, (rd_T38 t173 x34_2).f3, (rd_T38 t173 x34_2).f4⟩ : S38) [.int .i64 ((rd_T38 t173 x34_2).f0), .int .i64 (wrap64 ((a0.size : Int) - (x0_1.size : Int))), .string ((rd_T38 t173 x34_2).f2), .slice A178_3 ((rd_T38 t173 x34_2).f3).length c178_3, .string ((rd_T38 t173 x34_2).f4)] (fun k_ => (w.heap.size ≤ k_) ∧ some k_ ≠ (.slice (some ad178) t173.length co7 : Value).ownBlock ∧ k_ ≠ gb179) (fun k_ => ((fun k_ => (w.heap.size ≤ k_) ∧ some k_ ≠ (.slice (some ad178) t173.length co7 : Value).ownBlock ∧ k_ ≠ gb179)) k_ ∧ some k_ ≠ (u5 : Value).ownBlock) rfl rfl ?aP (fun _ hk => hk) ?aF ?aO ?aB ?aS ?aL ?_; (case aP => exact (k38_mkF _ _ (⟨(rd_T38 t173 x34_2).f0, (wrap64 ((a0.size : Int) - (x0_1.size : Int))), (rd_T38 t173 x34_2).f2, (rd_T38 t173 x34_2).f3, (rd_T38 t173 x34_2).f4⟩ : S38) (Kd.V_reads' (Kd.V_mono (ok' := (fun k_ => ((fun k_ => (w.heap.size ≤ k_) ∧ some k_ ≠ (.slice (some ad178) t173.length co7 : Value).ownBlock ∧ k_ ≠ gb179)) k_ ∧ some k_ ≠ (u5 : Value).ownBlock)) (HL178_3.out) (fun k_ hk => ⟨⟨hk.1, ⟨hk.2.2.1, hk.2.2.2⟩⟩, hk.2.1⟩))).2.1 (Kd.V_F (Kd.V_mono (ok' := (fun k_ => ((fun k_ => (w.heap.size ≤ k_) ∧ some k_ ≠ (.slice (some ad178) t173.length co7 : Value).ownBlock ∧ k_ ≠ gb179)) k_ ∧ some k_ ≠ (u5 : Value).ownBlock)) (HL178_3.out) (fun k_ hk => ⟨⟨hk.1, ⟨hk.2.2.1, hk.2.2.2⟩⟩, hk.2.1⟩))))); (case aB => exact (by repeat (first | (with_reducible first | exact HB.out | apply bA | apply bN | apply bD | refine below_set ?_ GE179.out) | exact HB.out))); (case aF => exact (fun k_ hk => ⟨(Nat.le_trans (below_size (by repeat (first | (with_reducible first | exact HB.out | apply bA | apply bN | apply bD | refine below_set ?_ GE179.out) | exact HB.out))) hk), Kd.fresh' (Kd.N_lt (by (with_reducible repeat (first | apply Kd.N_alloc | apply Kd.N_drewN | apply Kd.N_drew)); exact HO_32.out)) k_ hk, Kd.freshB (g := gb179) (o := .cells #[.int .i64 ((rd_T38 t173 x34_2).f0), .int .i64 (wrap64 ((a0.size : Int) - (x0_1.size : Int))), .string ((rd_T38 t173 x34_2).f2), .slice A178_3 ((rd_T38 t173 x34_2).f3).length c178_3, .string ((rd_T38 t173 x34_2).f4)] 38 (0, 0)) (by (with_reducible repeat (first | refine kN ?_ _ | refine kD ?_ | refine kA ?_ _)); exact BK179.out) k_ hk⟩)); (case aO => exact (by (with_reducible repeat (first | apply Kd.N_alloc | apply Kd.N_drewN | apply Kd.N_drew)); exact HO_5.out)); (case aS => exact (below_size (by repeat (first | (with_reducible first | exact HB.out | apply bA | apply bN | apply bD | refine below_set ?_ GE179.out) | exact HB.out)))); (case aL => have := LMc11.out; omega); intro v181 w18 ho hb hg hat; rw [← Ny180.out] at ho; have n0_ := Aside0.mk (Kd.N_afterv (ok := (fun k_ => (w.heap.size ≤ k_) ∧ k_ ≠ gb179)) (by (with_reducible repeat (first | apply Kd.N_alloc | apply Kd.N_drewN | apply Kd.N_drew)); exact Kd.N_mono HO_32.out (fun _ hk => ⟨⟨hk.1, hk.2.2⟩, hk.2.1⟩)) hg hat); have n1_ := Aside0.mk (Kd.V_afterv (ok := (fun k_ => (w.heap.size ≤ k_) ∧ some k_ ≠ (.slice (some ad178) t173.length co7 : Value).ownBlock ∧ k_ ≠ gb179)) (by (with_reducible repeat (first | apply Kd.V_alloc | apply Kd.V_drewN | apply Kd.V_drew)); exact Kd.V_mono HL178_3.out (fun _ hk => ⟨⟨hk.1, ⟨hk.2.2.1, hk.2.2.2⟩⟩, hk.2.1⟩)) hg hat); have n2_ := Aside0.mk (blk_grown (g := gb179) (o := .cells #[.int .i64 ((rd_T38 t173 x34_2).f0), .int .i64 (wrap64 ((a0.size : Int) - (x0_1.size : Int))), .string ((rd_T38 t173 x34_2).f2), .slice A178_3 ((rd_T38 t173 x34_2).f3).length c178_3, .string ((rd_T38 t173 x34_2).f4)] 38 (0, 0)) (by (with_reducible repeat (first | refine kN ?_ _ | refine kD ?_ | refine kA ?_ _)); exact BK179.out) hg (Kd.N_away HO_5.out (fun _ hk => hk.2.2))); have n3_ := Aside0.mk (hb); have n4_ := Aside0.mk (ho); clear HO_32; clear HL178_3; clear BK179; clear HB; clear HO_5; have HO_32 := n0_; have HL178_3 := n1_; have BK179 := n2_; have HB := n3_; have HO182 := n4_; clear n0_ n1_ n2_ n3_ n4_; clear ho hb hg hat))
            go_roundg k2
            case measure => have := HK1.out; have := HK2.out; omega
            case rel => exact ⟨(y180), (wrap64 (x34_2 + 1)), (by first | rfl | (simp; done) | (simp [*]; done)), H', ⟨by have := HK1.out; have := HK2.out; omega⟩, ⟨by (with_reducible repeat (first | apply Kd.N_alloc | apply Kd.N_drewN | apply Kd.N_drew)); exact Kd.N_mono HO182.out (fun _ hk => ⟨hk.1, hk.2.1⟩)⟩, ⟨by (with_reducible repeat (first | apply Kd.N_alloc | apply Kd.N_drewN | apply Kd.N_drew)); exact Kd.N_mono HO_32.out (fun _ hk => ⟨hk.1.1, hk.2⟩)⟩, ⟨by repeat (first | (with_reducible first | exact HB.out | apply bA | apply bN | apply bD | refine below_set ?_ GE179.out) | exact HB.out)⟩⟩
           ·rw [if_neg c11] at H
            exact absurd H (by simp)
          ·rw [if_neg c10] at H
           exact absurd H (by simp)
         ·rw [if_neg c9] at H
          exact absurd H (by simp)
        ·rw [if_neg c8] at H
         have c8b0 : decide (x34_2 < (t173.length : Int)) = false := decide_eq_false c8
         try (have c8b9 := c8b0; rw [hl178_3] at c8b9)
         clear c8
         have H' := Aside0.mk H
         clear H
         go_wp2
         go_roundg k2
         case measure => have := HK1.out; have := HK2.out; omega
         case rel => exact ⟨(t176), (x5_2), (by first | rfl | (simp; done) | (simp [*]; done)), H', ⟨by have := HK1.out; have := HK2.out; omega⟩, ⟨by (with_reducible repeat (first | apply Kd.N_alloc | apply Kd.N_drewN | apply Kd.N_drew)); exact Kd.N_mono HO_5.out (fun _ hk => hk.1)⟩, ⟨by repeat (first | (with_reducible first | exact HB.out | apply bA | apply bN | apply bD) | exact HB.out)⟩⟩
     ·replace c5 := Bool.eq_false_iff.mpr c5
      subst c5
      have H1 : (some (([] : List (S38)), wrap64 ((a0.size : Int) - (x0_1.size : Int)), 4)) = some (r1, r2, r3) := by rw [if_neg (show ¬ (false = true) by decide)] at H; exact H
      clear H
      have H := H1
      clear H1
      simp only [Option.some.injEq, Prod.mk.injEq] at H
      obtain ⟨rfl, rfl, rfl⟩ := H
      go_wp2_with (first | ((with_reducible refine gate_callee (f := 20) rfl ?_); refine goesL_ (some 25) rfl rfl Tryd.func20 (by kernel_rfl) rfl #[.string x0_1] rfl (by (try simp only [List.map_toArray, List.map_cons, List.map_nil]); first | done | rfl | (simp only [List.length_drop, List.length_take]; rfl)) ?_; (with_reducible refine (mark_first.calls k1 x0_1 t173 t176 false _ A4.out ?hT_).mono ?_); (case hT_ => exact Tabs.tab_below HT0.out (by repeat (first | (with_reducible first | exact HB.out | apply bA | apply bN | apply bD) | exact HB.out))); rintro e w19 ⟨v174, rfl, ho0, hb⟩; refine ⟨_, rfl, ?_⟩; have n0_ := Aside0.mk (Kd.N_elder' (by (with_reducible repeat (first | apply Kd.N_alloc | apply Kd.N_drewN | apply Kd.N_drew)); exact HO_5.out) (by first | exact Kd.N_base ho0 | exact Kd.N_base ho0 | exact Kd.S_base ho0 | exact Kd.R_base ho0) hb); have n1_ := Aside0.mk (Kd.N_lower (Kd.N_mono (ok' := fun k_ => (w.heap.size ≤ k_) ∧ some k_ ≠ (u5 : Value).ownBlock) ho0 (fun k_ hk_ => ⟨(Nat.le_trans (below_size (by repeat (first | (with_reducible first | exact HB.out | apply bA | apply bN | apply bD) | exact HB.out))) hk_), (Kd.fresh' (Kd.N_lt (by (with_reducible repeat (first | apply Kd.N_alloc | apply Kd.N_drewN | apply Kd.N_drew)); exact HO_5.out)) k_ hk_)⟩)) (below_size (by repeat (first | (with_reducible first | exact HB.out | apply bA | apply bN | apply bD) | exact HB.out)))); have n2_ := Aside0.mk (below_step (by repeat (first | (with_reducible first | exact HB.out | apply bA | apply bN | apply bD) | exact HB.out)) hb); clear HO_5; clear HB; have HO_5 := n0_; have HO175 := n1_; have HB := n2_; clear n0_ n1_ n2_; (try clear hb); (try clear hb2); (try clear hk); (try clear hi); (try clear ho0)))
      go_ret3
      exact ⟨_, by first | rfl | (simp [errW_none, errW_some] <;> rfl) | (simp [*, errW_none, errW_some] <;> rfl), by first | exact Kd.S_nil _ _ _ _ _ | exact Kd.N_nil _ _ _ _ _ | exact Kd.V_nil _ _ _ _ _ | exact Kd.Q_nil _ _ _ _ _ | exact Kd.R_nil _ _ _ _ _, by repeat (first | (with_reducible first | exact HB.out | apply bA | apply bN | apply bD) | exact HB.out)⟩

def treenaillaw01_opens.f (k : Nat)  : Option (Bool) := (mark_Read.f k (⟨#[60, 97, 32, 98, 61, 34, 49, 38, 108, 116, 59, 34, 47, 62]⟩ : ByteArray)).bind fun bt183 => (if bt183.2.2 = 0 then (if bt183.2.1 = 0 then (if (bt183.1.length : Int) = 2 then (if 0 < (bt183.1.length : Int) then (if ((rd_T38 bt183.1 0).f0) = 1 then (if (((rd_T38 bt183.1 0).f3).length : Int) = 1 then (if 0 < (((rd_T38 bt183.1 0).f3).length : Int) then (if ((rd_T51 ((rd_T38 bt183.1 0).f3) 0).f1).toList = ([49, 60] : List UInt8) then (if 1 < (bt183.1.length : Int) then (if ((rd_T38 bt183.1 1).f0) = 2 then (some (((rd_T38 bt183.1 1).f2).toList == ([97] : List UInt8))) else (some false)) else (none)) else (some false)) else (none)) else (some false)) else (some false)) else (none)) else (some false)) else (some false)) else (some false))
set_option maxRecDepth 100000 in
theorem treenaillaw01_opens.mono : ∀ k, LeO (treenaillaw01_opens.f k ) (treenaillaw01_opens.f (k + 1) ) := by
 intro  k
 unfold treenaillaw01_opens.f
 repeat' first
   | (with_reducible exact mark_Read.mono _ _)
   | (with_reducible exact LeO.refl _)
   | (with_reducible exact LeO.none _)
   | (with_reducible refine LeO.ite ?_ ?_)
   | (with_reducible refine LeO.bind ?_ (fun _ => ?_))
   | exact mark_Read.mono _ _
   | exact LeO.none _
   | refine LeO.ite ?_ ?_
   | refine LeO.bind ?_ (fun _ => ?_)
set_option maxHeartbeats 8000000 in
set_option maxRecDepth 100000 in
theorem treenaillaw01_opens.calls (k : Nat)  (r : Bool) (w : World) (h : treenaillaw01_opens.f k  = some r) (hT : Tabs.Tab w) :
  Calls Tryd.prog 9 #[] w fun e w' => e = .returned (.bool r) ∧ Below w.heap.size w w' := by
 have HB := Aside0.mk (Below.refl w.heap.size w)
 have HT0 := Aside0.mk hT
 clear hT
 have H : ((mark_Read.f k (⟨#[60, 97, 32, 98, 61, 34, 49, 38, 108, 116, 59, 34, 47, 62]⟩ : ByteArray)).bind fun bt183 => (if bt183.2.2 = 0 then (if bt183.2.1 = 0 then (if (bt183.1.length : Int) = 2 then (if 0 < (bt183.1.length : Int) then (if ((rd_T38 bt183.1 0).f0) = 1 then (if (((rd_T38 bt183.1 0).f3).length : Int) = 1 then (if 0 < (((rd_T38 bt183.1 0).f3).length : Int) then (if ((rd_T51 ((rd_T38 bt183.1 0).f3) 0).f1).toList = ([49, 60] : List UInt8) then (if 1 < (bt183.1.length : Int) then (if ((rd_T38 bt183.1 1).f0) = 2 then (some (((rd_T38 bt183.1 1).f2).toList == ([97] : List UInt8))) else (some false)) else (none)) else (some false)) else (none)) else (some false)) else (some false)) else (none)) else (some false)) else (some false)) else (some false))) = some r := h
 clear h
 replace H := Option.bind_eq_some_iff.mp H
 obtain ⟨⟨t183, t186, t187⟩, A10, H⟩ := H
 replace H : (if t187 = 0 then (if t186 = 0 then (if (t183.length : Int) = 2 then (if 0 < (t183.length : Int) then (if ((rd_T38 t183 0).f0) = 1 then (if (((rd_T38 t183 0).f3).length : Int) = 1 then (if 0 < (((rd_T38 t183 0).f3).length : Int) then (if ((rd_T51 ((rd_T38 t183 0).f3) 0).f1).toList = ([49, 60] : List UInt8) then (if 1 < (t183.length : Int) then (if ((rd_T38 t183 1).f0) = 2 then (some (((rd_T38 t183 1).f2).toList == ([97] : List UInt8))) else (some false)) else (none)) else (some false)) else (none)) else (some false)) else (some false)) else (none)) else (some false)) else (some false)) else (some false)) = some r := H
 have A1 := Aside0.mk A10
 clear A10
 by_cases c2 : t187 = 0
 ·rw [if_pos c2] at H
  have c2b0 : (t187 == 0) = true := beq_iff_eq.mpr c2
  have c2b1 : (t187 != 0) = false := bne_eq_false_iff_eq.mpr c2
  clear c2
  by_cases c3 : t186 = 0
  ·rw [if_pos c3] at H
   have c3b0 : (t186 == 0) = true := beq_iff_eq.mpr c3
   have c3b1 : (t186 != 0) = false := bne_eq_false_iff_eq.mpr c3
   clear c3
   by_cases c4 : (t183.length : Int) = 2
   ·rw [if_pos c4] at H
    have c4b0 : ((t183.length : Int) == 2) = true := beq_iff_eq.mpr c4
    have c4b1 : ((t183.length : Int) != 2) = false := bne_eq_false_iff_eq.mpr c4
    clear c4
    by_cases c5 : 0 < (t183.length : Int)
    ·rw [if_pos c5] at H
     have c5b0 : decide (0 < (t183.length : Int)) = true := decide_eq_true c5
     have c5b1 : decide (0 < t183.length) = true := decide_eq_true (by omega)
     clear c5
     by_cases c6 : ((rd_T38 t183 0).f0) = 1
     ·rw [if_pos c6] at H
      have c6b0 : (((rd_T38 t183 0).f0) == 1) = true := beq_iff_eq.mpr c6
      have c6b1 : (((rd_T38 t183 0).f0) != 1) = false := bne_eq_false_iff_eq.mpr c6
      clear c6
      by_cases c7 : (((rd_T38 t183 0).f3).length : Int) = 1
      ·rw [if_pos c7] at H
       have c7b0 : ((((rd_T38 t183 0).f3).length : Int) == 1) = true := beq_iff_eq.mpr c7
       have c7b1 : ((((rd_T38 t183 0).f3).length : Int) != 1) = false := bne_eq_false_iff_eq.mpr c7
       clear c7
       by_cases c8 : 0 < (((rd_T38 t183 0).f3).length : Int)
       ·rw [if_pos c8] at H
        have c8b0 : decide (0 < (((rd_T38 t183 0).f3).length : Int)) = true := decide_eq_true c8
        have c8b1 : decide (0 < ((rd_T38 t183 0).f3).length) = true := decide_eq_true (by omega)
        clear c8
        by_cases c9 : ((rd_T51 ((rd_T38 t183 0).f3) 0).f1).toList = ([49, 60] : List UInt8)
        ·rw [if_pos c9] at H
         have c9b0 : (((rd_T51 ((rd_T38 t183 0).f3) 0).f1).toList == ([49, 60] : List UInt8)) = true := beq_iff_eq.mpr c9
         have c9b1 : (((rd_T51 ((rd_T38 t183 0).f3) 0).f1).toList != ([49, 60] : List UInt8)) = false := bne_eq_false_iff_eq.mpr c9
         clear c9
         by_cases c10 : 1 < (t183.length : Int)
         ·rw [if_pos c10] at H
          have c10b0 : decide (1 < (t183.length : Int)) = true := decide_eq_true c10
          have c10b1 : decide (1 < t183.length) = true := decide_eq_true (by omega)
          clear c10
          by_cases c11 : ((rd_T38 t183 1).f0) = 2
          ·rw [if_pos c11] at H
           have c11b0 : (((rd_T38 t183 1).f0) == 2) = true := beq_iff_eq.mpr c11
           have c11b1 : (((rd_T38 t183 1).f0) != 2) = false := bne_eq_false_iff_eq.mpr c11
           clear c11
           obtain rfl := Option.some.inj H
           go_enter Tryd.func9, Tryd.ntmps9
           go_wp2_with (first | ((with_reducible refine gate_callee (f := 8) rfl ?_); refine goesL_ (some 5) rfl rfl Tryd.func8 (by kernel_rfl) rfl #[.string (⟨#[60, 97, 32, 98, 61, 34, 49, 38, 108, 116, 59, 34, 47, 62]⟩ : ByteArray)] rfl (by (try simp only [List.map_toArray, List.map_cons, List.map_nil]); first | done | rfl | (simp only [List.length_drop, List.length_take]; rfl)) ?_; (with_reducible refine (mark_Read.calls k (⟨#[60, 97, 32, 98, 61, 34, 49, 38, 108, 116, 59, 34, 47, 62]⟩ : ByteArray) t183 t186 t187 _ A1.out ?hT_).mono ?_); (case hT_ => exact Tabs.tab_below HT0.out (by repeat (first | (with_reducible first | exact HB.out | apply bA | apply bN | apply bD) | exact HB.out))); rintro e w12 ⟨v184, rfl, ho0, hb⟩; refine ⟨_, rfl, ?_⟩; have n0_ := Aside0.mk (Kd.N_lower (Kd.N_mono (ok' := fun k_ => True) ho0 (fun k_ hk_ => trivial)) (below_size (by repeat (first | (with_reducible first | exact HB.out | apply bA | apply bN | apply bD) | exact HB.out)))); have n1_ := Aside0.mk (below_step (by repeat (first | (with_reducible first | exact HB.out | apply bA | apply bN | apply bD) | exact HB.out)) hb); clear HB; have HO185 := n0_; have HB := n1_; clear n0_ n1_; (try clear hb); (try clear hb2); (try clear hk); (try clear hi); (try clear ho0); obtain ⟨Ao13, co13, eo13⟩ := Kd.N_slice HO185.out; subst eo13; have p188 : 0 ≤ (0 : Int) := (by omega); have q188 : 0 < (t183.length : Int) := of_decide_eq_true (by first | (with_reducible assumption) | assumption); obtain ⟨ad188, A188_3, c188_3, e188, hx188_0, hx188_1, hx188_2, hx188_3, hx188_4, hl188_3, hi188_3⟩ := at_T38 (Kd.N_reads' HO185.out).2.2 0 p188 q188; cases e188; obtain ⟨ce188, hce188, hMe188, hcc188⟩ := Kd.N_get HO185.out z38 0 p188 (by first | exact q188 | exact of_decide_eq_true (by first | (with_reducible assumption) | assumption) | (have e_ := (Kd.N_reads' HO185.out).1; omega)); obtain ⟨ua188_3, uc188_3, rfl, ul188_3, ge188_3⟩ := k38_openF hMe188; have hv188_3 := hcc188 3 _ rfl; rw [add_field _ _ 3 (by omega)] at hv188_3; replace hv188_3 := Option.some.inj (hv188_3.symm.trans hx188_3); injection hv188_3 with hva_ hvn_ hvc_; rw [hva_] at ge188_3; rw [hvc_] at ul188_3; have HL188_3 := Aside0.mk (show Kd.V k51 51 _ w.heap.size _ _ ((rd_T38 t183 0).f3) from Kd.V_mk ul188_3 ge188_3); clear hva_ hvn_ hvc_ ge188_3 ul188_3; clear hcc188 hce188; have qi188 : (0 < t183.length) = True := eq_true (by omega); (try rw [show ((0 : Int)).toNat = 0 from rfl] at hx188_0); (try rw [show 0 * 5 = 0 from rfl] at hx188_0); (try rw [Addr.add_zero'] at hx188_0); (try rw [show ((0 : Int)).toNat = 0 from rfl] at hx188_1); (try rw [show 0 * 5 = 0 from rfl] at hx188_1); (try rw [Addr.add_zero'] at hx188_1); (try rw [show ((0 : Int)).toNat = 0 from rfl] at hx188_2); (try rw [show 0 * 5 = 0 from rfl] at hx188_2); (try rw [Addr.add_zero'] at hx188_2); (try rw [show ((0 : Int)).toNat = 0 from rfl] at hx188_3); (try rw [show 0 * 5 = 0 from rfl] at hx188_3); (try rw [Addr.add_zero'] at hx188_3); (try rw [show ((0 : Int)).toNat = 0 from rfl] at hx188_4); (try rw [show 0 * 5 = 0 from rfl] at hx188_4); (try rw [Addr.add_zero'] at hx188_4); have HR188_3 := Aside0.mk hi188_3; have HC188_3 := Aside0.mk hl188_3; clear hi188_3 hl188_3; replace p188 := eq_true p188; replace q188 := eq_true q188; have p189 : 0 ≤ (0 : Int) := (by omega); have q189 : 0 < (t183.length : Int) := of_decide_eq_true (by first | (with_reducible assumption) | assumption); obtain ⟨ad189, A189_3, c189_3, e189, hx189_0, hx189_1, hx189_2, hx189_3, hx189_4, hl189_3, hi189_3⟩ := at_T38 (Kd.N_reads' HO185.out).2.2 0 p189 q189; obtain rfl : ad188 = ad189 := (by injection e189); obtain ⟨ce189, hce189, hMe189, hcc189⟩ := Kd.N_get HO185.out z38 0 p189 (by first | exact q189 | exact of_decide_eq_true (by first | (with_reducible assumption) | assumption) | (have e_ := (Kd.N_reads' HO185.out).1; omega)); obtain ⟨ua189_3, uc189_3, rfl, ul189_3, ge189_3⟩ := k38_openF hMe189; have hv189_3 := hcc189 3 _ rfl; rw [add_field _ _ 3 (by omega)] at hv189_3; replace hv189_3 := Option.some.inj (hv189_3.symm.trans hx189_3); injection hv189_3 with hva_ hvn_ hvc_; rw [hva_] at ge189_3; rw [hvc_] at ul189_3; have HL189_3 := Aside0.mk (show Kd.V k51 51 _ w.heap.size _ _ ((rd_T38 t183 0).f3) from Kd.V_mk ul189_3 ge189_3); clear hva_ hvn_ hvc_ ge189_3 ul189_3; clear hcc189 hce189; have qi189 : (0 < t183.length) = True := eq_true (by omega); (try rw [show ((0 : Int)).toNat = 0 from rfl] at hx189_0); (try rw [show 0 * 5 = 0 from rfl] at hx189_0); (try rw [Addr.add_zero'] at hx189_0); (try rw [show ((0 : Int)).toNat = 0 from rfl] at hx189_1); (try rw [show 0 * 5 = 0 from rfl] at hx189_1); (try rw [Addr.add_zero'] at hx189_1); (try rw [show ((0 : Int)).toNat = 0 from rfl] at hx189_2); (try rw [show 0 * 5 = 0 from rfl] at hx189_2); (try rw [Addr.add_zero'] at hx189_2); (try rw [show ((0 : Int)).toNat = 0 from rfl] at hx189_3); (try rw [show 0 * 5 = 0 from rfl] at hx189_3); (try rw [Addr.add_zero'] at hx189_3); (try rw [show ((0 : Int)).toNat = 0 from rfl] at hx189_4); (try rw [show 0 * 5 = 0 from rfl] at hx189_4); (try rw [Addr.add_zero'] at hx189_4); have HR189_3 := Aside0.mk hi189_3; have HC189_3 := Aside0.mk hl189_3; clear hi189_3 hl189_3; replace p189 := eq_true p189; replace q189 := eq_true q189; have ea_ := Option.some.inj (hx188_3.symm.trans hx189_3); injection ea_ with ea_ en_ ec_; subst ea_; subst ec_; clear en_; have p190 : 0 ≤ (0 : Int) := (by omega); have q190 : 0 < (t183.length : Int) := of_decide_eq_true (by first | (with_reducible assumption) | assumption); obtain ⟨ad190, A190_3, c190_3, e190, hx190_0, hx190_1, hx190_2, hx190_3, hx190_4, hl190_3, hi190_3⟩ := at_T38 (Kd.N_reads' HO185.out).2.2 0 p190 q190; obtain rfl : ad188 = ad190 := (by injection e190); obtain ⟨ce190, hce190, hMe190, hcc190⟩ := Kd.N_get HO185.out z38 0 p190 (by first | exact q190 | exact of_decide_eq_true (by first | (with_reducible assumption) | assumption) | (have e_ := (Kd.N_reads' HO185.out).1; omega)); obtain ⟨ua190_3, uc190_3, rfl, ul190_3, ge190_3⟩ := k38_openF hMe190; have hv190_3 := hcc190 3 _ rfl; rw [add_field _ _ 3 (by omega)] at hv190_3; replace hv190_3 := Option.some.inj (hv190_3.symm.trans hx190_3); injection hv190_3 with hva_ hvn_ hvc_; rw [hva_] at ge190_3; rw [hvc_] at ul190_3; have HL190_3 := Aside0.mk (show Kd.V k51 51 _ w.heap.size _ _ ((rd_T38 t183 0).f3) from Kd.V_mk ul190_3 ge190_3); clear hva_ hvn_ hvc_ ge190_3 ul190_3; clear hcc190 hce190; have qi190 : (0 < t183.length) = True := eq_true (by omega); (try rw [show ((0 : Int)).toNat = 0 from rfl] at hx190_0); (try rw [show 0 * 5 = 0 from rfl] at hx190_0); (try rw [Addr.add_zero'] at hx190_0); (try rw [show ((0 : Int)).toNat = 0 from rfl] at hx190_1); (try rw [show 0 * 5 = 0 from rfl] at hx190_1); (try rw [Addr.add_zero'] at hx190_1); (try rw [show ((0 : Int)).toNat = 0 from rfl] at hx190_2); (try rw [show 0 * 5 = 0 from rfl] at hx190_2); (try rw [Addr.add_zero'] at hx190_2); (try rw [show ((0 : Int)).toNat = 0 from rfl] at hx190_3); (try rw [show 0 * 5 = 0 from rfl] at hx190_3); (try rw [Addr.add_zero'] at hx190_3); (try rw [show ((0 : Int)).toNat = 0 from rfl] at hx190_4); (try rw [show 0 * 5 = 0 from rfl] at hx190_4); (try rw [Addr.add_zero'] at hx190_4); have HR190_3 := Aside0.mk hi190_3; have HC190_3 := Aside0.mk hl190_3; clear hi190_3 hl190_3; replace p190 := eq_true p190; replace q190 := eq_true q190; have ea_ := Option.some.inj (hx188_3.symm.trans hx190_3); injection ea_ with ea_ en_ ec_; subst ea_; subst ec_; clear en_; have p191 : 0 ≤ (0 : Int) := (by omega); have q191 : 0 < (((rd_T38 t183 0).f3).length : Int) := of_decide_eq_true (by first | (with_reducible assumption) | assumption); obtain ⟨ad191, e191, hx191_0, hx191_1⟩ := at_T51 (by repeat (first | (with_reducible exact HR190_3.out) | (with_reducible refine Kd.C_alloc ?_ _) | (with_reducible refine Kd.C_drewN ?_ _) | (with_reducible refine Kd.C_drew ?_) | exact HR190_3.out)) 0 p191 q191; cases e191; have qi191 : (0 < ((rd_T38 t183 0).f3).length) = True := eq_true (by omega); (try rw [show ((0 : Int)).toNat = 0 from rfl] at hx191_0); (try rw [show 0 * 2 = 0 from rfl] at hx191_0); (try rw [Addr.add_zero'] at hx191_0); (try rw [show ((0 : Int)).toNat = 0 from rfl] at hx191_1); (try rw [show 0 * 2 = 0 from rfl] at hx191_1); (try rw [Addr.add_zero'] at hx191_1); replace p191 := eq_true p191; replace q191 := eq_true q191; have p192 : 0 ≤ (1 : Int) := (by omega); have q192 : 1 < (t183.length : Int) := of_decide_eq_true (by first | (with_reducible assumption) | assumption); obtain ⟨ad192, A192_3, c192_3, e192, hx192_0, hx192_1, hx192_2, hx192_3, hx192_4, hl192_3, hi192_3⟩ := at_T38 (Kd.N_reads' HO185.out).2.2 1 p192 q192; obtain rfl : ad188 = ad192 := (by injection e192); obtain ⟨ce192, hce192, hMe192, hcc192⟩ := Kd.N_get HO185.out z38 1 p192 (by first | exact q192 | exact of_decide_eq_true (by first | (with_reducible assumption) | assumption) | (have e_ := (Kd.N_reads' HO185.out).1; omega)); obtain ⟨ua192_3, uc192_3, rfl, ul192_3, ge192_3⟩ := k38_openF hMe192; have hv192_3 := hcc192 3 _ rfl; rw [add_field _ _ 3 (by omega)] at hv192_3; replace hv192_3 := Option.some.inj (hv192_3.symm.trans hx192_3); injection hv192_3 with hva_ hvn_ hvc_; rw [hva_] at ge192_3; rw [hvc_] at ul192_3; have HL192_3 := Aside0.mk (show Kd.V k51 51 _ w.heap.size _ _ ((rd_T38 t183 1).f3) from Kd.V_mk ul192_3 ge192_3); clear hva_ hvn_ hvc_ ge192_3 ul192_3; clear hcc192 hce192; (try simp only [show (1 : Int).toNat = 1 from rfl, Nat.reduceMul, Nat.reduceEqDiff, Go.Addr.add, ↓reduceIte] at hx192_0); (try simp only [show (1 : Int).toNat = 1 from rfl, Nat.reduceMul, Nat.reduceEqDiff, Go.Addr.add, ↓reduceIte] at hx192_1); (try simp only [show (1 : Int).toNat = 1 from rfl, Nat.reduceMul, Nat.reduceEqDiff, Go.Addr.add, ↓reduceIte] at hx192_2); (try simp only [show (1 : Int).toNat = 1 from rfl, Nat.reduceMul, Nat.reduceEqDiff, Go.Addr.add, ↓reduceIte] at hx192_3); (try simp only [show (1 : Int).toNat = 1 from rfl, Nat.reduceMul, Nat.reduceEqDiff, Go.Addr.add, ↓reduceIte] at hx192_4); have qi192 : (1 < t183.length) = True := eq_true (by omega); (try rw [show ((1 : Int)).toNat = 1 from rfl] at hx192_0); (try rw [show 1 * 5 = 5 from rfl] at hx192_0); (try rw [show ((1 : Int)).toNat = 1 from rfl] at hx192_1); (try rw [show 1 * 5 = 5 from rfl] at hx192_1); (try rw [show ((1 : Int)).toNat = 1 from rfl] at hx192_2); (try rw [show 1 * 5 = 5 from rfl] at hx192_2); (try rw [show ((1 : Int)).toNat = 1 from rfl] at hx192_3); (try rw [show 1 * 5 = 5 from rfl] at hx192_3); (try rw [show ((1 : Int)).toNat = 1 from rfl] at hx192_4); (try rw [show 1 * 5 = 5 from rfl] at hx192_4); have HR192_3 := Aside0.mk hi192_3; have HC192_3 := Aside0.mk hl192_3; clear hi192_3 hl192_3; replace p192 := eq_true p192; replace q192 := eq_true q192; have p193 : 0 ≤ (1 : Int) := (by omega); have q193 : 1 < (t183.length : Int) := of_decide_eq_true (by first | (with_reducible assumption) | assumption); obtain ⟨ad193, A193_3, c193_3, e193, hx193_0, hx193_1, hx193_2, hx193_3, hx193_4, hl193_3, hi193_3⟩ := at_T38 (Kd.N_reads' HO185.out).2.2 1 p193 q193; obtain rfl : ad188 = ad193 := (by injection e193); obtain ⟨ce193, hce193, hMe193, hcc193⟩ := Kd.N_get HO185.out z38 1 p193 (by first | exact q193 | exact of_decide_eq_true (by first | (with_reducible assumption) | assumption) | (have e_ := (Kd.N_reads' HO185.out).1; omega)); obtain ⟨ua193_3, uc193_3, rfl, ul193_3, ge193_3⟩ := k38_openF hMe193; have hv193_3 := hcc193 3 _ rfl; rw [add_field _ _ 3 (by omega)] at hv193_3; replace hv193_3 := Option.some.inj (hv193_3.symm.trans hx193_3); injection hv193_3 with hva_ hvn_ hvc_; rw [hva_] at ge193_3; rw [hvc_] at ul193_3; have HL193_3 := Aside0.mk (show Kd.V k51 51 _ w.heap.size _ _ ((rd_T38 t183 1).f3) from Kd.V_mk ul193_3 ge193_3); clear hva_ hvn_ hvc_ ge193_3 ul193_3; clear hcc193 hce193; (try simp only [show (1 : Int).toNat = 1 from rfl, Nat.reduceMul, Nat.reduceEqDiff, Go.Addr.add, ↓reduceIte] at hx193_0); (try simp only [show (1 : Int).toNat = 1 from rfl, Nat.reduceMul, Nat.reduceEqDiff, Go.Addr.add, ↓reduceIte] at hx193_1); (try simp only [show (1 : Int).toNat = 1 from rfl, Nat.reduceMul, Nat.reduceEqDiff, Go.Addr.add, ↓reduceIte] at hx193_2); (try simp only [show (1 : Int).toNat = 1 from rfl, Nat.reduceMul, Nat.reduceEqDiff, Go.Addr.add, ↓reduceIte] at hx193_3); (try simp only [show (1 : Int).toNat = 1 from rfl, Nat.reduceMul, Nat.reduceEqDiff, Go.Addr.add, ↓reduceIte] at hx193_4); have qi193 : (1 < t183.length) = True := eq_true (by omega); (try rw [show ((1 : Int)).toNat = 1 from rfl] at hx193_0); (try rw [show 1 * 5 = 5 from rfl] at hx193_0); (try rw [show ((1 : Int)).toNat = 1 from rfl] at hx193_1); (try rw [show 1 * 5 = 5 from rfl] at hx193_1); (try rw [show ((1 : Int)).toNat = 1 from rfl] at hx193_2); (try rw [show 1 * 5 = 5 from rfl] at hx193_2); (try rw [show ((1 : Int)).toNat = 1 from rfl] at hx193_3); (try rw [show 1 * 5 = 5 from rfl] at hx193_3); (try rw [show ((1 : Int)).toNat = 1 from rfl] at hx193_4); (try rw [show 1 * 5 = 5 from rfl] at hx193_4); have HR193_3 := Aside0.mk hi193_3; have HC193_3 := Aside0.mk hl193_3; clear hi193_3 hl193_3; replace p193 := eq_true p193; replace q193 := eq_true q193; have ea_ := Option.some.inj (hx192_3.symm.trans hx193_3); injection ea_ with ea_ en_ ec_; subst ea_; subst ec_; clear en_))
           go_ret
           exact ⟨by first | rfl | (simp [errW_none, errW_some] <;> rfl) | (simp [*, errW_none, errW_some] <;> rfl), by repeat (first | (with_reducible first | exact HB.out | apply bA | apply bN | apply bD) | exact HB.out)⟩
          ·rw [if_neg c11] at H
           have c11b0 : (((rd_T38 t183 1).f0) == 2) = false := beq_eq_false_iff_ne.mpr c11
           have c11b1 : (((rd_T38 t183 1).f0) != 2) = true := bne_iff_ne.mpr c11
           obtain rfl := Option.some.inj H
           go_enter Tryd.func9, Tryd.ntmps9
           go_wp2_with (first | ((with_reducible refine gate_callee (f := 8) rfl ?_); refine goesL_ (some 5) rfl rfl Tryd.func8 (by kernel_rfl) rfl #[.string (⟨#[60, 97, 32, 98, 61, 34, 49, 38, 108, 116, 59, 34, 47, 62]⟩ : ByteArray)] rfl (by (try simp only [List.map_toArray, List.map_cons, List.map_nil]); first | done | rfl | (simp only [List.length_drop, List.length_take]; rfl)) ?_; (with_reducible refine (mark_Read.calls k (⟨#[60, 97, 32, 98, 61, 34, 49, 38, 108, 116, 59, 34, 47, 62]⟩ : ByteArray) t183 t186 t187 _ A1.out ?hT_).mono ?_); (case hT_ => exact Tabs.tab_below HT0.out (by repeat (first | (with_reducible first | exact HB.out | apply bA | apply bN | apply bD) | exact HB.out))); rintro e w14 ⟨v184, rfl, ho0, hb⟩; refine ⟨_, rfl, ?_⟩; have n0_ := Aside0.mk (Kd.N_lower (Kd.N_mono (ok' := fun k_ => True) ho0 (fun k_ hk_ => trivial)) (below_size (by repeat (first | (with_reducible first | exact HB.out | apply bA | apply bN | apply bD) | exact HB.out)))); have n1_ := Aside0.mk (below_step (by repeat (first | (with_reducible first | exact HB.out | apply bA | apply bN | apply bD) | exact HB.out)) hb); clear HB; have HO185 := n0_; have HB := n1_; clear n0_ n1_; (try clear hb); (try clear hb2); (try clear hk); (try clear hi); (try clear ho0); obtain ⟨Ao15, co15, eo15⟩ := Kd.N_slice HO185.out; subst eo15; have p188 : 0 ≤ (0 : Int) := (by omega); have q188 : 0 < (t183.length : Int) := of_decide_eq_true (by first | (with_reducible assumption) | assumption); obtain ⟨ad188, A188_3, c188_3, e188, hx188_0, hx188_1, hx188_2, hx188_3, hx188_4, hl188_3, hi188_3⟩ := at_T38 (Kd.N_reads' HO185.out).2.2 0 p188 q188; cases e188; obtain ⟨ce188, hce188, hMe188, hcc188⟩ := Kd.N_get HO185.out z38 0 p188 (by first | exact q188 | exact of_decide_eq_true (by first | (with_reducible assumption) | assumption) | (have e_ := (Kd.N_reads' HO185.out).1; omega)); obtain ⟨ua188_3, uc188_3, rfl, ul188_3, ge188_3⟩ := k38_openF hMe188; have hv188_3 := hcc188 3 _ rfl; rw [add_field _ _ 3 (by omega)] at hv188_3; replace hv188_3 := Option.some.inj (hv188_3.symm.trans hx188_3); injection hv188_3 with hva_ hvn_ hvc_; rw [hva_] at ge188_3; rw [hvc_] at ul188_3; have HL188_3 := Aside0.mk (show Kd.V k51 51 _ w.heap.size _ _ ((rd_T38 t183 0).f3) from Kd.V_mk ul188_3 ge188_3); clear hva_ hvn_ hvc_ ge188_3 ul188_3; clear hcc188 hce188; have qi188 : (0 < t183.length) = True := eq_true (by omega); (try rw [show ((0 : Int)).toNat = 0 from rfl] at hx188_0); (try rw [show 0 * 5 = 0 from rfl] at hx188_0); (try rw [Addr.add_zero'] at hx188_0); (try rw [show ((0 : Int)).toNat = 0 from rfl] at hx188_1); (try rw [show 0 * 5 = 0 from rfl] at hx188_1); (try rw [Addr.add_zero'] at hx188_1); (try rw [show ((0 : Int)).toNat = 0 from rfl] at hx188_2); (try rw [show 0 * 5 = 0 from rfl] at hx188_2); (try rw [Addr.add_zero'] at hx188_2); (try rw [show ((0 : Int)).toNat = 0 from rfl] at hx188_3); (try rw [show 0 * 5 = 0 from rfl] at hx188_3); (try rw [Addr.add_zero'] at hx188_3); (try rw [show ((0 : Int)).toNat = 0 from rfl] at hx188_4); (try rw [show 0 * 5 = 0 from rfl] at hx188_4); (try rw [Addr.add_zero'] at hx188_4); have HR188_3 := Aside0.mk hi188_3; have HC188_3 := Aside0.mk hl188_3; clear hi188_3 hl188_3; replace p188 := eq_true p188; replace q188 := eq_true q188; have p189 : 0 ≤ (0 : Int) := (by omega); have q189 : 0 < (t183.length : Int) := of_decide_eq_true (by first | (with_reducible assumption) | assumption); obtain ⟨ad189, A189_3, c189_3, e189, hx189_0, hx189_1, hx189_2, hx189_3, hx189_4, hl189_3, hi189_3⟩ := at_T38 (Kd.N_reads' HO185.out).2.2 0 p189 q189; obtain rfl : ad188 = ad189 := (by injection e189); obtain ⟨ce189, hce189, hMe189, hcc189⟩ := Kd.N_get HO185.out z38 0 p189 (by first | exact q189 | exact of_decide_eq_true (by first | (with_reducible assumption) | assumption) | (have e_ := (Kd.N_reads' HO185.out).1; omega)); obtain ⟨ua189_3, uc189_3, rfl, ul189_3, ge189_3⟩ := k38_openF hMe189; have hv189_3 := hcc189 3 _ rfl; rw [add_field _ _ 3 (by omega)] at hv189_3; replace hv189_3 := Option.some.inj (hv189_3.symm.trans hx189_3); injection hv189_3 with hva_ hvn_ hvc_; rw [hva_] at ge189_3; rw [hvc_] at ul189_3; have HL189_3 := Aside0.mk (show Kd.V k51 51 _ w.heap.size _ _ ((rd_T38 t183 0).f3) from Kd.V_mk ul189_3 ge189_3); clear hva_ hvn_ hvc_ ge189_3 ul189_3; clear hcc189 hce189; have qi189 : (0 < t183.length) = True := eq_true (by omega); (try rw [show ((0 : Int)).toNat = 0 from rfl] at hx189_0); (try rw [show 0 * 5 = 0 from rfl] at hx189_0); (try rw [Addr.add_zero'] at hx189_0); (try rw [show ((0 : Int)).toNat = 0 from rfl] at hx189_1); (try rw [show 0 * 5 = 0 from rfl] at hx189_1); (try rw [Addr.add_zero'] at hx189_1); (try rw [show ((0 : Int)).toNat = 0 from rfl] at hx189_2); (try rw [show 0 * 5 = 0 from rfl] at hx189_2); (try rw [Addr.add_zero'] at hx189_2); (try rw [show ((0 : Int)).toNat = 0 from rfl] at hx189_3); (try rw [show 0 * 5 = 0 from rfl] at hx189_3); (try rw [Addr.add_zero'] at hx189_3); (try rw [show ((0 : Int)).toNat = 0 from rfl] at hx189_4); (try rw [show 0 * 5 = 0 from rfl] at hx189_4); (try rw [Addr.add_zero'] at hx189_4); have HR189_3 := Aside0.mk hi189_3; have HC189_3 := Aside0.mk hl189_3; clear hi189_3 hl189_3; replace p189 := eq_true p189; replace q189 := eq_true q189; have ea_ := Option.some.inj (hx188_3.symm.trans hx189_3); injection ea_ with ea_ en_ ec_; subst ea_; subst ec_; clear en_; have p190 : 0 ≤ (0 : Int) := (by omega); have q190 : 0 < (t183.length : Int) := of_decide_eq_true (by first | (with_reducible assumption) | assumption); obtain ⟨ad190, A190_3, c190_3, e190, hx190_0, hx190_1, hx190_2, hx190_3, hx190_4, hl190_3, hi190_3⟩ := at_T38 (Kd.N_reads' HO185.out).2.2 0 p190 q190; obtain rfl : ad188 = ad190 := (by injection e190); obtain ⟨ce190, hce190, hMe190, hcc190⟩ := Kd.N_get HO185.out z38 0 p190 (by first | exact q190 | exact of_decide_eq_true (by first | (with_reducible assumption) | assumption) | (have e_ := (Kd.N_reads' HO185.out).1; omega)); obtain ⟨ua190_3, uc190_3, rfl, ul190_3, ge190_3⟩ := k38_openF hMe190; have hv190_3 := hcc190 3 _ rfl; rw [add_field _ _ 3 (by omega)] at hv190_3; replace hv190_3 := Option.some.inj (hv190_3.symm.trans hx190_3); injection hv190_3 with hva_ hvn_ hvc_; rw [hva_] at ge190_3; rw [hvc_] at ul190_3; have HL190_3 := Aside0.mk (show Kd.V k51 51 _ w.heap.size _ _ ((rd_T38 t183 0).f3) from Kd.V_mk ul190_3 ge190_3); clear hva_ hvn_ hvc_ ge190_3 ul190_3; clear hcc190 hce190; have qi190 : (0 < t183.length) = True := eq_true (by omega); (try rw [show ((0 : Int)).toNat = 0 from rfl] at hx190_0); (try rw [show 0 * 5 = 0 from rfl] at hx190_0); (try rw [Addr.add_zero'] at hx190_0); (try rw [show ((0 : Int)).toNat = 0 from rfl] at hx190_1); (try rw [show 0 * 5 = 0 from rfl] at hx190_1); (try rw [Addr.add_zero'] at hx190_1); (try rw [show ((0 : Int)).toNat = 0 from rfl] at hx190_2); (try rw [show 0 * 5 = 0 from rfl] at hx190_2); (try rw [Addr.add_zero'] at hx190_2); (try rw [show ((0 : Int)).toNat = 0 from rfl] at hx190_3); (try rw [show 0 * 5 = 0 from rfl] at hx190_3); (try rw [Addr.add_zero'] at hx190_3); (try rw [show ((0 : Int)).toNat = 0 from rfl] at hx190_4); (try rw [show 0 * 5 = 0 from rfl] at hx190_4); (try rw [Addr.add_zero'] at hx190_4); have HR190_3 := Aside0.mk hi190_3; have HC190_3 := Aside0.mk hl190_3; clear hi190_3 hl190_3; replace p190 := eq_true p190; replace q190 := eq_true q190; have ea_ := Option.some.inj (hx188_3.symm.trans hx190_3); injection ea_ with ea_ en_ ec_; subst ea_; subst ec_; clear en_; have p191 : 0 ≤ (0 : Int) := (by omega); have q191 : 0 < (((rd_T38 t183 0).f3).length : Int) := of_decide_eq_true (by first | (with_reducible assumption) | assumption); obtain ⟨ad191, e191, hx191_0, hx191_1⟩ := at_T51 (by repeat (first | (with_reducible exact HR190_3.out) | (with_reducible refine Kd.C_alloc ?_ _) | (with_reducible refine Kd.C_drewN ?_ _) | (with_reducible refine Kd.C_drew ?_) | exact HR190_3.out)) 0 p191 q191; cases e191; have qi191 : (0 < ((rd_T38 t183 0).f3).length) = True := eq_true (by omega); (try rw [show ((0 : Int)).toNat = 0 from rfl] at hx191_0); (try rw [show 0 * 2 = 0 from rfl] at hx191_0); (try rw [Addr.add_zero'] at hx191_0); (try rw [show ((0 : Int)).toNat = 0 from rfl] at hx191_1); (try rw [show 0 * 2 = 0 from rfl] at hx191_1); (try rw [Addr.add_zero'] at hx191_1); replace p191 := eq_true p191; replace q191 := eq_true q191; have p192 : 0 ≤ (1 : Int) := (by omega); have q192 : 1 < (t183.length : Int) := of_decide_eq_true (by first | (with_reducible assumption) | assumption); obtain ⟨ad192, A192_3, c192_3, e192, hx192_0, hx192_1, hx192_2, hx192_3, hx192_4, hl192_3, hi192_3⟩ := at_T38 (Kd.N_reads' HO185.out).2.2 1 p192 q192; obtain rfl : ad188 = ad192 := (by injection e192); obtain ⟨ce192, hce192, hMe192, hcc192⟩ := Kd.N_get HO185.out z38 1 p192 (by first | exact q192 | exact of_decide_eq_true (by first | (with_reducible assumption) | assumption) | (have e_ := (Kd.N_reads' HO185.out).1; omega)); obtain ⟨ua192_3, uc192_3, rfl, ul192_3, ge192_3⟩ := k38_openF hMe192; have hv192_3 := hcc192 3 _ rfl; rw [add_field _ _ 3 (by omega)] at hv192_3; replace hv192_3 := Option.some.inj (hv192_3.symm.trans hx192_3); injection hv192_3 with hva_ hvn_ hvc_; rw [hva_] at ge192_3; rw [hvc_] at ul192_3; have HL192_3 := Aside0.mk (show Kd.V k51 51 _ w.heap.size _ _ ((rd_T38 t183 1).f3) from Kd.V_mk ul192_3 ge192_3); clear hva_ hvn_ hvc_ ge192_3 ul192_3; clear hcc192 hce192; (try simp only [show (1 : Int).toNat = 1 from rfl, Nat.reduceMul, Nat.reduceEqDiff, Go.Addr.add, ↓reduceIte] at hx192_0); (try simp only [show (1 : Int).toNat = 1 from rfl, Nat.reduceMul, Nat.reduceEqDiff, Go.Addr.add, ↓reduceIte] at hx192_1); (try simp only [show (1 : Int).toNat = 1 from rfl, Nat.reduceMul, Nat.reduceEqDiff, Go.Addr.add, ↓reduceIte] at hx192_2); (try simp only [show (1 : Int).toNat = 1 from rfl, Nat.reduceMul, Nat.reduceEqDiff, Go.Addr.add, ↓reduceIte] at hx192_3); (try simp only [show (1 : Int).toNat = 1 from rfl, Nat.reduceMul, Nat.reduceEqDiff, Go.Addr.add, ↓reduceIte] at hx192_4); have qi192 : (1 < t183.length) = True := eq_true (by omega); (try rw [show ((1 : Int)).toNat = 1 from rfl] at hx192_0); (try rw [show 1 * 5 = 5 from rfl] at hx192_0); (try rw [show ((1 : Int)).toNat = 1 from rfl] at hx192_1); (try rw [show 1 * 5 = 5 from rfl] at hx192_1); (try rw [show ((1 : Int)).toNat = 1 from rfl] at hx192_2); (try rw [show 1 * 5 = 5 from rfl] at hx192_2); (try rw [show ((1 : Int)).toNat = 1 from rfl] at hx192_3); (try rw [show 1 * 5 = 5 from rfl] at hx192_3); (try rw [show ((1 : Int)).toNat = 1 from rfl] at hx192_4); (try rw [show 1 * 5 = 5 from rfl] at hx192_4); have HR192_3 := Aside0.mk hi192_3; have HC192_3 := Aside0.mk hl192_3; clear hi192_3 hl192_3; replace p192 := eq_true p192; replace q192 := eq_true q192))
           go_ret
           exact ⟨by first | rfl | (simp [errW_none, errW_some] <;> rfl) | (simp [*, errW_none, errW_some] <;> rfl), by repeat (first | (with_reducible first | exact HB.out | apply bA | apply bN | apply bD) | exact HB.out)⟩
         ·rw [if_neg c10] at H
          exact absurd H (by simp)
        ·rw [if_neg c9] at H
         have c9b0 : (((rd_T51 ((rd_T38 t183 0).f3) 0).f1).toList == ([49, 60] : List UInt8)) = false := beq_eq_false_iff_ne.mpr c9
         have c9b1 : (((rd_T51 ((rd_T38 t183 0).f3) 0).f1).toList != ([49, 60] : List UInt8)) = true := bne_iff_ne.mpr c9
         obtain rfl := Option.some.inj H
         go_enter Tryd.func9, Tryd.ntmps9
         go_wp2_with (first | ((with_reducible refine gate_callee (f := 8) rfl ?_); refine goesL_ (some 5) rfl rfl Tryd.func8 (by kernel_rfl) rfl #[.string (⟨#[60, 97, 32, 98, 61, 34, 49, 38, 108, 116, 59, 34, 47, 62]⟩ : ByteArray)] rfl (by (try simp only [List.map_toArray, List.map_cons, List.map_nil]); first | done | rfl | (simp only [List.length_drop, List.length_take]; rfl)) ?_; (with_reducible refine (mark_Read.calls k (⟨#[60, 97, 32, 98, 61, 34, 49, 38, 108, 116, 59, 34, 47, 62]⟩ : ByteArray) t183 t186 t187 _ A1.out ?hT_).mono ?_); (case hT_ => exact Tabs.tab_below HT0.out (by repeat (first | (with_reducible first | exact HB.out | apply bA | apply bN | apply bD) | exact HB.out))); rintro e w16 ⟨v184, rfl, ho0, hb⟩; refine ⟨_, rfl, ?_⟩; have n0_ := Aside0.mk (Kd.N_lower (Kd.N_mono (ok' := fun k_ => True) ho0 (fun k_ hk_ => trivial)) (below_size (by repeat (first | (with_reducible first | exact HB.out | apply bA | apply bN | apply bD) | exact HB.out)))); have n1_ := Aside0.mk (below_step (by repeat (first | (with_reducible first | exact HB.out | apply bA | apply bN | apply bD) | exact HB.out)) hb); clear HB; have HO185 := n0_; have HB := n1_; clear n0_ n1_; (try clear hb); (try clear hb2); (try clear hk); (try clear hi); (try clear ho0); obtain ⟨Ao17, co17, eo17⟩ := Kd.N_slice HO185.out; subst eo17; have p188 : 0 ≤ (0 : Int) := (by omega); have q188 : 0 < (t183.length : Int) := of_decide_eq_true (by first | (with_reducible assumption) | assumption); obtain ⟨ad188, A188_3, c188_3, e188, hx188_0, hx188_1, hx188_2, hx188_3, hx188_4, hl188_3, hi188_3⟩ := at_T38 (Kd.N_reads' HO185.out).2.2 0 p188 q188; cases e188; obtain ⟨ce188, hce188, hMe188, hcc188⟩ := Kd.N_get HO185.out z38 0 p188 (by first | exact q188 | exact of_decide_eq_true (by first | (with_reducible assumption) | assumption) | (have e_ := (Kd.N_reads' HO185.out).1; omega)); obtain ⟨ua188_3, uc188_3, rfl, ul188_3, ge188_3⟩ := k38_openF hMe188; have hv188_3 := hcc188 3 _ rfl; rw [add_field _ _ 3 (by omega)] at hv188_3; replace hv188_3 := Option.some.inj (hv188_3.symm.trans hx188_3); injection hv188_3 with hva_ hvn_ hvc_; rw [hva_] at ge188_3; rw [hvc_] at ul188_3; have HL188_3 := Aside0.mk (show Kd.V k51 51 _ w.heap.size _ _ ((rd_T38 t183 0).f3) from Kd.V_mk ul188_3 ge188_3); clear hva_ hvn_ hvc_ ge188_3 ul188_3; clear hcc188 hce188; have qi188 : (0 < t183.length) = True := eq_true (by omega); (try rw [show ((0 : Int)).toNat = 0 from rfl] at hx188_0); (try rw [show 0 * 5 = 0 from rfl] at hx188_0); (try rw [Addr.add_zero'] at hx188_0); (try rw [show ((0 : Int)).toNat = 0 from rfl] at hx188_1); (try rw [show 0 * 5 = 0 from rfl] at hx188_1); (try rw [Addr.add_zero'] at hx188_1); (try rw [show ((0 : Int)).toNat = 0 from rfl] at hx188_2); (try rw [show 0 * 5 = 0 from rfl] at hx188_2); (try rw [Addr.add_zero'] at hx188_2); (try rw [show ((0 : Int)).toNat = 0 from rfl] at hx188_3); (try rw [show 0 * 5 = 0 from rfl] at hx188_3); (try rw [Addr.add_zero'] at hx188_3); (try rw [show ((0 : Int)).toNat = 0 from rfl] at hx188_4); (try rw [show 0 * 5 = 0 from rfl] at hx188_4); (try rw [Addr.add_zero'] at hx188_4); have HR188_3 := Aside0.mk hi188_3; have HC188_3 := Aside0.mk hl188_3; clear hi188_3 hl188_3; replace p188 := eq_true p188; replace q188 := eq_true q188; have p189 : 0 ≤ (0 : Int) := (by omega); have q189 : 0 < (t183.length : Int) := of_decide_eq_true (by first | (with_reducible assumption) | assumption); obtain ⟨ad189, A189_3, c189_3, e189, hx189_0, hx189_1, hx189_2, hx189_3, hx189_4, hl189_3, hi189_3⟩ := at_T38 (Kd.N_reads' HO185.out).2.2 0 p189 q189; obtain rfl : ad188 = ad189 := (by injection e189); obtain ⟨ce189, hce189, hMe189, hcc189⟩ := Kd.N_get HO185.out z38 0 p189 (by first | exact q189 | exact of_decide_eq_true (by first | (with_reducible assumption) | assumption) | (have e_ := (Kd.N_reads' HO185.out).1; omega)); obtain ⟨ua189_3, uc189_3, rfl, ul189_3, ge189_3⟩ := k38_openF hMe189; have hv189_3 := hcc189 3 _ rfl; rw [add_field _ _ 3 (by omega)] at hv189_3; replace hv189_3 := Option.some.inj (hv189_3.symm.trans hx189_3); injection hv189_3 with hva_ hvn_ hvc_; rw [hva_] at ge189_3; rw [hvc_] at ul189_3; have HL189_3 := Aside0.mk (show Kd.V k51 51 _ w.heap.size _ _ ((rd_T38 t183 0).f3) from Kd.V_mk ul189_3 ge189_3); clear hva_ hvn_ hvc_ ge189_3 ul189_3; clear hcc189 hce189; have qi189 : (0 < t183.length) = True := eq_true (by omega); (try rw [show ((0 : Int)).toNat = 0 from rfl] at hx189_0); (try rw [show 0 * 5 = 0 from rfl] at hx189_0); (try rw [Addr.add_zero'] at hx189_0); (try rw [show ((0 : Int)).toNat = 0 from rfl] at hx189_1); (try rw [show 0 * 5 = 0 from rfl] at hx189_1); (try rw [Addr.add_zero'] at hx189_1); (try rw [show ((0 : Int)).toNat = 0 from rfl] at hx189_2); (try rw [show 0 * 5 = 0 from rfl] at hx189_2); (try rw [Addr.add_zero'] at hx189_2); (try rw [show ((0 : Int)).toNat = 0 from rfl] at hx189_3); (try rw [show 0 * 5 = 0 from rfl] at hx189_3); (try rw [Addr.add_zero'] at hx189_3); (try rw [show ((0 : Int)).toNat = 0 from rfl] at hx189_4); (try rw [show 0 * 5 = 0 from rfl] at hx189_4); (try rw [Addr.add_zero'] at hx189_4); have HR189_3 := Aside0.mk hi189_3; have HC189_3 := Aside0.mk hl189_3; clear hi189_3 hl189_3; replace p189 := eq_true p189; replace q189 := eq_true q189; have ea_ := Option.some.inj (hx188_3.symm.trans hx189_3); injection ea_ with ea_ en_ ec_; subst ea_; subst ec_; clear en_; have p190 : 0 ≤ (0 : Int) := (by omega); have q190 : 0 < (t183.length : Int) := of_decide_eq_true (by first | (with_reducible assumption) | assumption); obtain ⟨ad190, A190_3, c190_3, e190, hx190_0, hx190_1, hx190_2, hx190_3, hx190_4, hl190_3, hi190_3⟩ := at_T38 (Kd.N_reads' HO185.out).2.2 0 p190 q190; obtain rfl : ad188 = ad190 := (by injection e190); obtain ⟨ce190, hce190, hMe190, hcc190⟩ := Kd.N_get HO185.out z38 0 p190 (by first | exact q190 | exact of_decide_eq_true (by first | (with_reducible assumption) | assumption) | (have e_ := (Kd.N_reads' HO185.out).1; omega)); obtain ⟨ua190_3, uc190_3, rfl, ul190_3, ge190_3⟩ := k38_openF hMe190; have hv190_3 := hcc190 3 _ rfl; rw [add_field _ _ 3 (by omega)] at hv190_3; replace hv190_3 := Option.some.inj (hv190_3.symm.trans hx190_3); injection hv190_3 with hva_ hvn_ hvc_; rw [hva_] at ge190_3; rw [hvc_] at ul190_3; have HL190_3 := Aside0.mk (show Kd.V k51 51 _ w.heap.size _ _ ((rd_T38 t183 0).f3) from Kd.V_mk ul190_3 ge190_3); clear hva_ hvn_ hvc_ ge190_3 ul190_3; clear hcc190 hce190; have qi190 : (0 < t183.length) = True := eq_true (by omega); (try rw [show ((0 : Int)).toNat = 0 from rfl] at hx190_0); (try rw [show 0 * 5 = 0 from rfl] at hx190_0); (try rw [Addr.add_zero'] at hx190_0); (try rw [show ((0 : Int)).toNat = 0 from rfl] at hx190_1); (try rw [show 0 * 5 = 0 from rfl] at hx190_1); (try rw [Addr.add_zero'] at hx190_1); (try rw [show ((0 : Int)).toNat = 0 from rfl] at hx190_2); (try rw [show 0 * 5 = 0 from rfl] at hx190_2); (try rw [Addr.add_zero'] at hx190_2); (try rw [show ((0 : Int)).toNat = 0 from rfl] at hx190_3); (try rw [show 0 * 5 = 0 from rfl] at hx190_3); (try rw [Addr.add_zero'] at hx190_3); (try rw [show ((0 : Int)).toNat = 0 from rfl] at hx190_4); (try rw [show 0 * 5 = 0 from rfl] at hx190_4); (try rw [Addr.add_zero'] at hx190_4); have HR190_3 := Aside0.mk hi190_3; have HC190_3 := Aside0.mk hl190_3; clear hi190_3 hl190_3; replace p190 := eq_true p190; replace q190 := eq_true q190; have ea_ := Option.some.inj (hx188_3.symm.trans hx190_3); injection ea_ with ea_ en_ ec_; subst ea_; subst ec_; clear en_; have p191 : 0 ≤ (0 : Int) := (by omega); have q191 : 0 < (((rd_T38 t183 0).f3).length : Int) := of_decide_eq_true (by first | (with_reducible assumption) | assumption); obtain ⟨ad191, e191, hx191_0, hx191_1⟩ := at_T51 (by repeat (first | (with_reducible exact HR190_3.out) | (with_reducible refine Kd.C_alloc ?_ _) | (with_reducible refine Kd.C_drewN ?_ _) | (with_reducible refine Kd.C_drew ?_) | exact HR190_3.out)) 0 p191 q191; cases e191; have qi191 : (0 < ((rd_T38 t183 0).f3).length) = True := eq_true (by omega); (try rw [show ((0 : Int)).toNat = 0 from rfl] at hx191_0); (try rw [show 0 * 2 = 0 from rfl] at hx191_0); (try rw [Addr.add_zero'] at hx191_0); (try rw [show ((0 : Int)).toNat = 0 from rfl] at hx191_1); (try rw [show 0 * 2 = 0 from rfl] at hx191_1); (try rw [Addr.add_zero'] at hx191_1); replace p191 := eq_true p191; replace q191 := eq_true q191))
         go_ret
         exact ⟨by first | rfl | (simp [errW_none, errW_some] <;> rfl) | (simp [*, errW_none, errW_some] <;> rfl), by repeat (first | (with_reducible first | exact HB.out | apply bA | apply bN | apply bD) | exact HB.out)⟩
       ·rw [if_neg c8] at H
        exact absurd H (by simp)
      ·rw [if_neg c7] at H
       have c7b0 : ((((rd_T38 t183 0).f3).length : Int) == 1) = false := beq_eq_false_iff_ne.mpr c7
       have c7b1 : ((((rd_T38 t183 0).f3).length : Int) != 1) = true := bne_iff_ne.mpr c7
       obtain rfl := Option.some.inj H
       go_enter Tryd.func9, Tryd.ntmps9
       go_wp2_with (first | ((with_reducible refine gate_callee (f := 8) rfl ?_); refine goesL_ (some 5) rfl rfl Tryd.func8 (by kernel_rfl) rfl #[.string (⟨#[60, 97, 32, 98, 61, 34, 49, 38, 108, 116, 59, 34, 47, 62]⟩ : ByteArray)] rfl (by (try simp only [List.map_toArray, List.map_cons, List.map_nil]); first | done | rfl | (simp only [List.length_drop, List.length_take]; rfl)) ?_; (with_reducible refine (mark_Read.calls k (⟨#[60, 97, 32, 98, 61, 34, 49, 38, 108, 116, 59, 34, 47, 62]⟩ : ByteArray) t183 t186 t187 _ A1.out ?hT_).mono ?_); (case hT_ => exact Tabs.tab_below HT0.out (by repeat (first | (with_reducible first | exact HB.out | apply bA | apply bN | apply bD) | exact HB.out))); rintro e w18 ⟨v184, rfl, ho0, hb⟩; refine ⟨_, rfl, ?_⟩; have n0_ := Aside0.mk (Kd.N_lower (Kd.N_mono (ok' := fun k_ => True) ho0 (fun k_ hk_ => trivial)) (below_size (by repeat (first | (with_reducible first | exact HB.out | apply bA | apply bN | apply bD) | exact HB.out)))); have n1_ := Aside0.mk (below_step (by repeat (first | (with_reducible first | exact HB.out | apply bA | apply bN | apply bD) | exact HB.out)) hb); clear HB; have HO185 := n0_; have HB := n1_; clear n0_ n1_; (try clear hb); (try clear hb2); (try clear hk); (try clear hi); (try clear ho0); obtain ⟨Ao19, co19, eo19⟩ := Kd.N_slice HO185.out; subst eo19; have p188 : 0 ≤ (0 : Int) := (by omega); have q188 : 0 < (t183.length : Int) := of_decide_eq_true (by first | (with_reducible assumption) | assumption); obtain ⟨ad188, A188_3, c188_3, e188, hx188_0, hx188_1, hx188_2, hx188_3, hx188_4, hl188_3, hi188_3⟩ := at_T38 (Kd.N_reads' HO185.out).2.2 0 p188 q188; cases e188; obtain ⟨ce188, hce188, hMe188, hcc188⟩ := Kd.N_get HO185.out z38 0 p188 (by first | exact q188 | exact of_decide_eq_true (by first | (with_reducible assumption) | assumption) | (have e_ := (Kd.N_reads' HO185.out).1; omega)); obtain ⟨ua188_3, uc188_3, rfl, ul188_3, ge188_3⟩ := k38_openF hMe188; have hv188_3 := hcc188 3 _ rfl; rw [add_field _ _ 3 (by omega)] at hv188_3; replace hv188_3 := Option.some.inj (hv188_3.symm.trans hx188_3); injection hv188_3 with hva_ hvn_ hvc_; rw [hva_] at ge188_3; rw [hvc_] at ul188_3; have HL188_3 := Aside0.mk (show Kd.V k51 51 _ w.heap.size _ _ ((rd_T38 t183 0).f3) from Kd.V_mk ul188_3 ge188_3); clear hva_ hvn_ hvc_ ge188_3 ul188_3; clear hcc188 hce188; have qi188 : (0 < t183.length) = True := eq_true (by omega); (try rw [show ((0 : Int)).toNat = 0 from rfl] at hx188_0); (try rw [show 0 * 5 = 0 from rfl] at hx188_0); (try rw [Addr.add_zero'] at hx188_0); (try rw [show ((0 : Int)).toNat = 0 from rfl] at hx188_1); (try rw [show 0 * 5 = 0 from rfl] at hx188_1); (try rw [Addr.add_zero'] at hx188_1); (try rw [show ((0 : Int)).toNat = 0 from rfl] at hx188_2); (try rw [show 0 * 5 = 0 from rfl] at hx188_2); (try rw [Addr.add_zero'] at hx188_2); (try rw [show ((0 : Int)).toNat = 0 from rfl] at hx188_3); (try rw [show 0 * 5 = 0 from rfl] at hx188_3); (try rw [Addr.add_zero'] at hx188_3); (try rw [show ((0 : Int)).toNat = 0 from rfl] at hx188_4); (try rw [show 0 * 5 = 0 from rfl] at hx188_4); (try rw [Addr.add_zero'] at hx188_4); have HR188_3 := Aside0.mk hi188_3; have HC188_3 := Aside0.mk hl188_3; clear hi188_3 hl188_3; replace p188 := eq_true p188; replace q188 := eq_true q188; have p189 : 0 ≤ (0 : Int) := (by omega); have q189 : 0 < (t183.length : Int) := of_decide_eq_true (by first | (with_reducible assumption) | assumption); obtain ⟨ad189, A189_3, c189_3, e189, hx189_0, hx189_1, hx189_2, hx189_3, hx189_4, hl189_3, hi189_3⟩ := at_T38 (Kd.N_reads' HO185.out).2.2 0 p189 q189; obtain rfl : ad188 = ad189 := (by injection e189); obtain ⟨ce189, hce189, hMe189, hcc189⟩ := Kd.N_get HO185.out z38 0 p189 (by first | exact q189 | exact of_decide_eq_true (by first | (with_reducible assumption) | assumption) | (have e_ := (Kd.N_reads' HO185.out).1; omega)); obtain ⟨ua189_3, uc189_3, rfl, ul189_3, ge189_3⟩ := k38_openF hMe189; have hv189_3 := hcc189 3 _ rfl; rw [add_field _ _ 3 (by omega)] at hv189_3; replace hv189_3 := Option.some.inj (hv189_3.symm.trans hx189_3); injection hv189_3 with hva_ hvn_ hvc_; rw [hva_] at ge189_3; rw [hvc_] at ul189_3; have HL189_3 := Aside0.mk (show Kd.V k51 51 _ w.heap.size _ _ ((rd_T38 t183 0).f3) from Kd.V_mk ul189_3 ge189_3); clear hva_ hvn_ hvc_ ge189_3 ul189_3; clear hcc189 hce189; have qi189 : (0 < t183.length) = True := eq_true (by omega); (try rw [show ((0 : Int)).toNat = 0 from rfl] at hx189_0); (try rw [show 0 * 5 = 0 from rfl] at hx189_0); (try rw [Addr.add_zero'] at hx189_0); (try rw [show ((0 : Int)).toNat = 0 from rfl] at hx189_1); (try rw [show 0 * 5 = 0 from rfl] at hx189_1); (try rw [Addr.add_zero'] at hx189_1); (try rw [show ((0 : Int)).toNat = 0 from rfl] at hx189_2); (try rw [show 0 * 5 = 0 from rfl] at hx189_2); (try rw [Addr.add_zero'] at hx189_2); (try rw [show ((0 : Int)).toNat = 0 from rfl] at hx189_3); (try rw [show 0 * 5 = 0 from rfl] at hx189_3); (try rw [Addr.add_zero'] at hx189_3); (try rw [show ((0 : Int)).toNat = 0 from rfl] at hx189_4); (try rw [show 0 * 5 = 0 from rfl] at hx189_4); (try rw [Addr.add_zero'] at hx189_4); have HR189_3 := Aside0.mk hi189_3; have HC189_3 := Aside0.mk hl189_3; clear hi189_3 hl189_3; replace p189 := eq_true p189; replace q189 := eq_true q189; have ea_ := Option.some.inj (hx188_3.symm.trans hx189_3); injection ea_ with ea_ en_ ec_; subst ea_; subst ec_; clear en_))
       go_ret
       exact ⟨by first | rfl | (simp [errW_none, errW_some] <;> rfl) | (simp [*, errW_none, errW_some] <;> rfl), by repeat (first | (with_reducible first | exact HB.out | apply bA | apply bN | apply bD) | exact HB.out)⟩
     ·rw [if_neg c6] at H
      have c6b0 : (((rd_T38 t183 0).f0) == 1) = false := beq_eq_false_iff_ne.mpr c6
      have c6b1 : (((rd_T38 t183 0).f0) != 1) = true := bne_iff_ne.mpr c6
      obtain rfl := Option.some.inj H
      go_enter Tryd.func9, Tryd.ntmps9
      go_wp2_with (first | ((with_reducible refine gate_callee (f := 8) rfl ?_); refine goesL_ (some 5) rfl rfl Tryd.func8 (by kernel_rfl) rfl #[.string (⟨#[60, 97, 32, 98, 61, 34, 49, 38, 108, 116, 59, 34, 47, 62]⟩ : ByteArray)] rfl (by (try simp only [List.map_toArray, List.map_cons, List.map_nil]); first | done | rfl | (simp only [List.length_drop, List.length_take]; rfl)) ?_; (with_reducible refine (mark_Read.calls k (⟨#[60, 97, 32, 98, 61, 34, 49, 38, 108, 116, 59, 34, 47, 62]⟩ : ByteArray) t183 t186 t187 _ A1.out ?hT_).mono ?_); (case hT_ => exact Tabs.tab_below HT0.out (by repeat (first | (with_reducible first | exact HB.out | apply bA | apply bN | apply bD) | exact HB.out))); rintro e w20 ⟨v184, rfl, ho0, hb⟩; refine ⟨_, rfl, ?_⟩; have n0_ := Aside0.mk (Kd.N_lower (Kd.N_mono (ok' := fun k_ => True) ho0 (fun k_ hk_ => trivial)) (below_size (by repeat (first | (with_reducible first | exact HB.out | apply bA | apply bN | apply bD) | exact HB.out)))); have n1_ := Aside0.mk (below_step (by repeat (first | (with_reducible first | exact HB.out | apply bA | apply bN | apply bD) | exact HB.out)) hb); clear HB; have HO185 := n0_; have HB := n1_; clear n0_ n1_; (try clear hb); (try clear hb2); (try clear hk); (try clear hi); (try clear ho0); obtain ⟨Ao21, co21, eo21⟩ := Kd.N_slice HO185.out; subst eo21; have p188 : 0 ≤ (0 : Int) := (by omega); have q188 : 0 < (t183.length : Int) := of_decide_eq_true (by first | (with_reducible assumption) | assumption); obtain ⟨ad188, A188_3, c188_3, e188, hx188_0, hx188_1, hx188_2, hx188_3, hx188_4, hl188_3, hi188_3⟩ := at_T38 (Kd.N_reads' HO185.out).2.2 0 p188 q188; cases e188; obtain ⟨ce188, hce188, hMe188, hcc188⟩ := Kd.N_get HO185.out z38 0 p188 (by first | exact q188 | exact of_decide_eq_true (by first | (with_reducible assumption) | assumption) | (have e_ := (Kd.N_reads' HO185.out).1; omega)); obtain ⟨ua188_3, uc188_3, rfl, ul188_3, ge188_3⟩ := k38_openF hMe188; have hv188_3 := hcc188 3 _ rfl; rw [add_field _ _ 3 (by omega)] at hv188_3; replace hv188_3 := Option.some.inj (hv188_3.symm.trans hx188_3); injection hv188_3 with hva_ hvn_ hvc_; rw [hva_] at ge188_3; rw [hvc_] at ul188_3; have HL188_3 := Aside0.mk (show Kd.V k51 51 _ w.heap.size _ _ ((rd_T38 t183 0).f3) from Kd.V_mk ul188_3 ge188_3); clear hva_ hvn_ hvc_ ge188_3 ul188_3; clear hcc188 hce188; have qi188 : (0 < t183.length) = True := eq_true (by omega); (try rw [show ((0 : Int)).toNat = 0 from rfl] at hx188_0); (try rw [show 0 * 5 = 0 from rfl] at hx188_0); (try rw [Addr.add_zero'] at hx188_0); (try rw [show ((0 : Int)).toNat = 0 from rfl] at hx188_1); (try rw [show 0 * 5 = 0 from rfl] at hx188_1); (try rw [Addr.add_zero'] at hx188_1); (try rw [show ((0 : Int)).toNat = 0 from rfl] at hx188_2); (try rw [show 0 * 5 = 0 from rfl] at hx188_2); (try rw [Addr.add_zero'] at hx188_2); (try rw [show ((0 : Int)).toNat = 0 from rfl] at hx188_3); (try rw [show 0 * 5 = 0 from rfl] at hx188_3); (try rw [Addr.add_zero'] at hx188_3); (try rw [show ((0 : Int)).toNat = 0 from rfl] at hx188_4); (try rw [show 0 * 5 = 0 from rfl] at hx188_4); (try rw [Addr.add_zero'] at hx188_4); have HR188_3 := Aside0.mk hi188_3; have HC188_3 := Aside0.mk hl188_3; clear hi188_3 hl188_3; replace p188 := eq_true p188; replace q188 := eq_true q188))
      go_ret
      exact ⟨by first | rfl | (simp [errW_none, errW_some] <;> rfl) | (simp [*, errW_none, errW_some] <;> rfl), by repeat (first | (with_reducible first | exact HB.out | apply bA | apply bN | apply bD) | exact HB.out)⟩
    ·rw [if_neg c5] at H
     exact absurd H (by simp)
   ·rw [if_neg c4] at H
    have c4b0 : ((t183.length : Int) == 2) = false := beq_eq_false_iff_ne.mpr c4
    have c4b1 : ((t183.length : Int) != 2) = true := bne_iff_ne.mpr c4
    obtain rfl := Option.some.inj H
    go_enter Tryd.func9, Tryd.ntmps9
    go_wp2_with (first | ((with_reducible refine gate_callee (f := 8) rfl ?_); refine goesL_ (some 5) rfl rfl Tryd.func8 (by kernel_rfl) rfl #[.string (⟨#[60, 97, 32, 98, 61, 34, 49, 38, 108, 116, 59, 34, 47, 62]⟩ : ByteArray)] rfl (by (try simp only [List.map_toArray, List.map_cons, List.map_nil]); first | done | rfl | (simp only [List.length_drop, List.length_take]; rfl)) ?_; (with_reducible refine (mark_Read.calls k (⟨#[60, 97, 32, 98, 61, 34, 49, 38, 108, 116, 59, 34, 47, 62]⟩ : ByteArray) t183 t186 t187 _ A1.out ?hT_).mono ?_); (case hT_ => exact Tabs.tab_below HT0.out (by repeat (first | (with_reducible first | exact HB.out | apply bA | apply bN | apply bD) | exact HB.out))); rintro e w22 ⟨v184, rfl, ho0, hb⟩; refine ⟨_, rfl, ?_⟩; have n0_ := Aside0.mk (Kd.N_lower (Kd.N_mono (ok' := fun k_ => True) ho0 (fun k_ hk_ => trivial)) (below_size (by repeat (first | (with_reducible first | exact HB.out | apply bA | apply bN | apply bD) | exact HB.out)))); have n1_ := Aside0.mk (below_step (by repeat (first | (with_reducible first | exact HB.out | apply bA | apply bN | apply bD) | exact HB.out)) hb); clear HB; have HO185 := n0_; have HB := n1_; clear n0_ n1_; (try clear hb); (try clear hb2); (try clear hk); (try clear hi); (try clear ho0); obtain ⟨Ao23, co23, eo23⟩ := Kd.N_slice HO185.out; subst eo23))
    go_ret
    exact ⟨by first | rfl | (simp [errW_none, errW_some] <;> rfl) | (simp [*, errW_none, errW_some] <;> rfl), by repeat (first | (with_reducible first | exact HB.out | apply bA | apply bN | apply bD) | exact HB.out)⟩
  ·rw [if_neg c3] at H
   have c3b0 : (t186 == 0) = false := beq_eq_false_iff_ne.mpr c3
   have c3b1 : (t186 != 0) = true := bne_iff_ne.mpr c3
   obtain rfl := Option.some.inj H
   go_enter Tryd.func9, Tryd.ntmps9
   go_wp2_with (first | ((with_reducible refine gate_callee (f := 8) rfl ?_); refine goesL_ (some 5) rfl rfl Tryd.func8 (by kernel_rfl) rfl #[.string (⟨#[60, 97, 32, 98, 61, 34, 49, 38, 108, 116, 59, 34, 47, 62]⟩ : ByteArray)] rfl (by (try simp only [List.map_toArray, List.map_cons, List.map_nil]); first | done | rfl | (simp only [List.length_drop, List.length_take]; rfl)) ?_; (with_reducible refine (mark_Read.calls k (⟨#[60, 97, 32, 98, 61, 34, 49, 38, 108, 116, 59, 34, 47, 62]⟩ : ByteArray) t183 t186 t187 _ A1.out ?hT_).mono ?_); (case hT_ => exact Tabs.tab_below HT0.out (by repeat (first | (with_reducible first | exact HB.out | apply bA | apply bN | apply bD) | exact HB.out))); rintro e w24 ⟨v184, rfl, ho0, hb⟩; refine ⟨_, rfl, ?_⟩; have n0_ := Aside0.mk (Kd.N_lower (Kd.N_mono (ok' := fun k_ => True) ho0 (fun k_ hk_ => trivial)) (below_size (by repeat (first | (with_reducible first | exact HB.out | apply bA | apply bN | apply bD) | exact HB.out)))); have n1_ := Aside0.mk (below_step (by repeat (first | (with_reducible first | exact HB.out | apply bA | apply bN | apply bD) | exact HB.out)) hb); clear HB; have HO185 := n0_; have HB := n1_; clear n0_ n1_; (try clear hb); (try clear hb2); (try clear hk); (try clear hi); (try clear ho0)))
   go_ret
   exact ⟨by first | rfl | (simp [errW_none, errW_some] <;> rfl) | (simp [*, errW_none, errW_some] <;> rfl), by repeat (first | (with_reducible first | exact HB.out | apply bA | apply bN | apply bD) | exact HB.out)⟩
 ·rw [if_neg c2] at H
  have c2b0 : (t187 == 0) = false := beq_eq_false_iff_ne.mpr c2
  have c2b1 : (t187 != 0) = true := bne_iff_ne.mpr c2
  obtain rfl := Option.some.inj H
  go_enter Tryd.func9, Tryd.ntmps9
  go_wp2_with (first | ((with_reducible refine gate_callee (f := 8) rfl ?_); refine goesL_ (some 5) rfl rfl Tryd.func8 (by kernel_rfl) rfl #[.string (⟨#[60, 97, 32, 98, 61, 34, 49, 38, 108, 116, 59, 34, 47, 62]⟩ : ByteArray)] rfl (by (try simp only [List.map_toArray, List.map_cons, List.map_nil]); first | done | rfl | (simp only [List.length_drop, List.length_take]; rfl)) ?_; (with_reducible refine (mark_Read.calls k (⟨#[60, 97, 32, 98, 61, 34, 49, 38, 108, 116, 59, 34, 47, 62]⟩ : ByteArray) t183 t186 t187 _ A1.out ?hT_).mono ?_); (case hT_ => exact Tabs.tab_below HT0.out (by repeat (first | (with_reducible first | exact HB.out | apply bA | apply bN | apply bD) | exact HB.out))); rintro e w25 ⟨v184, rfl, ho0, hb⟩; refine ⟨_, rfl, ?_⟩; have n0_ := Aside0.mk (Kd.N_lower (Kd.N_mono (ok' := fun k_ => True) ho0 (fun k_ hk_ => trivial)) (below_size (by repeat (first | (with_reducible first | exact HB.out | apply bA | apply bN | apply bD) | exact HB.out)))); have n1_ := Aside0.mk (below_step (by repeat (first | (with_reducible first | exact HB.out | apply bA | apply bN | apply bD) | exact HB.out)) hb); clear HB; have HO185 := n0_; have HB := n1_; clear n0_ n1_; (try clear hb); (try clear hb2); (try clear hk); (try clear hi); (try clear ho0)))
  go_ret
  exact ⟨by first | rfl | (simp [errW_none, errW_some] <;> rfl) | (simp [*, errW_none, errW_some] <;> rfl), by repeat (first | (with_reducible first | exact HB.out | apply bA | apply bN | apply bD) | exact HB.out)⟩

def treenailref01_at.f (a0 : ByteArray) (a1 : Int) (a2 : ByteArray) : Option (Bool) := if (wrap64 ((a0.size : Int) - a1)) ≥ (a2.size : Int) then (if 0 ≤ a1 then (if a1 ≤ (wrap64 (a1 + (a2.size : Int))) then (if (wrap64 (a1 + (a2.size : Int))) ≤ (a0.size : Int) then (some ((a0.extract (a1 : Int).toNat ((wrap64 (a1 + (a2.size : Int))) : Int).toNat).toList == a2.toList)) else (none)) else (none)) else (none)) else (some false)
set_option maxHeartbeats 8000000 in
set_option maxRecDepth 100000 in
theorem treenailref01_at.calls (a0 : ByteArray) (a1 : Int) (a2 : ByteArray) (r : Bool) (w : World) (h : treenailref01_at.f a0 a1 a2 = some r) :
  Calls Tryd.prog 21 #[.string a0, .int .i64 a1, .string a2] w fun e w' => e = .returned (.bool r) ∧ Drawn0 w w' := by
 have H : (if (wrap64 ((a0.size : Int) - a1)) ≥ (a2.size : Int) then (if 0 ≤ a1 then (if a1 ≤ (wrap64 (a1 + (a2.size : Int))) then (if (wrap64 (a1 + (a2.size : Int))) ≤ (a0.size : Int) then (some ((a0.extract (a1 : Int).toNat ((wrap64 (a1 + (a2.size : Int))) : Int).toNat).toList == a2.toList)) else (none)) else (none)) else (none)) else (some false)) = some r := h
 clear h
 by_cases c4 : (wrap64 ((a0.size : Int) - a1)) ≥ (a2.size : Int)
 ·rw [if_pos c4] at H
  have c4b0 : decide ((a2.size : Int) ≤ (wrap64 ((a0.size : Int) - a1))) = true := decide_eq_true c4
  clear c4
  by_cases c5 : 0 ≤ a1
  ·rw [if_pos c5] at H
   have c5b0 := eq_true c5
   have c5b1 : decide (0 ≤ a1) = true := decide_eq_true c5
   clear c5
   by_cases c6 : a1 ≤ (wrap64 (a1 + (a2.size : Int)))
   ·rw [if_pos c6] at H
    have c6b0 := eq_true c6
    have c6b1 : decide (a1 ≤ (wrap64 (a1 + (a2.size : Int)))) = true := decide_eq_true c6
    by_cases c7 : (wrap64 (a1 + (a2.size : Int))) ≤ (a0.size : Int)
    ·rw [if_pos c7] at H
     have c7b0 := eq_true c7
     have c7b1 : decide ((wrap64 (a1 + (a2.size : Int))) ≤ (a0.size : Int)) = true := decide_eq_true c7
     obtain rfl := Option.some.inj H
     go_enter Tryd.func21, Tryd.ntmps21
     go_wp2
     go_ret
     exact ⟨by first | rfl | (simp; done) | (simp [*]; done), by repeat (first | exact Drawn0.refl _ | apply Drawn0.step)⟩
    ·rw [if_neg c7] at H
     exact absurd H (by simp)
   ·rw [if_neg c6] at H
    exact absurd H (by simp)
  ·rw [if_neg c5] at H
   exact absurd H (by simp)
 ·rw [if_neg c4] at H
  have c4b0 : decide ((a2.size : Int) ≤ (wrap64 ((a0.size : Int) - a1))) = false := decide_eq_false c4
  clear c4
  obtain rfl := Option.some.inj H
  go_enter Tryd.func21, Tryd.ntmps21
  go_wp2
  go_ret
  exact ⟨by first | rfl | (simp; done) | (simp [*]; done), by repeat (first | exact Drawn0.refl _ | apply Drawn0.step)⟩

def treenailref01_inName.f (a0 : Int) (a1 : Bool) : Option (Bool) := if a0 ≥ 97 then (if a0 ≤ 122 then (some true) else (if a1 = true then (some false) else (if a0 = 45 then (some true) else (if a0 ≥ 48 then (some (decide (a0 ≤ 57))) else (some false))))) else (if a1 = true then (some false) else (if a0 = 45 then (some true) else (if a0 ≥ 48 then (some (decide (a0 ≤ 57))) else (some false))))
set_option maxHeartbeats 8000000 in
set_option maxRecDepth 100000 in
theorem treenailref01_inName.calls (a0 : Int) (a1 : Bool) (r : Bool) (w : World) (h : treenailref01_inName.f a0 a1 = some r) :
  Calls Tryd.prog 27 #[.int .u8 a0, .bool a1] w fun e w' => e = .returned (.bool r) ∧ Drawn0 w w' := by
 have H : (if a0 ≥ 97 then (if a0 ≤ 122 then (some true) else (if a1 = true then (some false) else (if a0 = 45 then (some true) else (if a0 ≥ 48 then (some (decide (a0 ≤ 57))) else (some false))))) else (if a1 = true then (some false) else (if a0 = 45 then (some true) else (if a0 ≥ 48 then (some (decide (a0 ≤ 57))) else (some false))))) = some r := h
 clear h
 by_cases c3 : a0 ≥ 97
 ·rw [if_pos c3] at H
  have c3b0 : decide (97 ≤ a0) = true := decide_eq_true c3
  clear c3
  by_cases c4 : a0 ≤ 122
  ·rw [if_pos c4] at H
   have c4b0 : decide (a0 ≤ 122) = true := decide_eq_true c4
   clear c4
   obtain rfl := Option.some.inj H
   go_enter Tryd.func27, Tryd.ntmps27
   go_wp2
   go_ret
   exact ⟨by first | rfl | (simp; done) | (simp [*]; done), by repeat (first | exact Drawn0.refl _ | apply Drawn0.step)⟩
  ·rw [if_neg c4] at H
   have c4b0 : decide (a0 ≤ 122) = false := decide_eq_false c4
   clear c4
   by_cases c5 : a1 = true
   ·subst c5
    have H1 : (some false) = some r := by rw [if_pos rfl] at H; exact H
    clear H
    have H := H1
    clear H1
    obtain rfl := Option.some.inj H
    go_enter Tryd.func27, Tryd.ntmps27
    go_wp2
    go_ret
    exact ⟨by first | rfl | (simp; done) | (simp [*]; done), by repeat (first | exact Drawn0.refl _ | apply Drawn0.step)⟩
   ·replace c5 := Bool.eq_false_iff.mpr c5
    subst c5
    have H1 : (if a0 = 45 then (some true) else (if a0 ≥ 48 then (some (decide (a0 ≤ 57))) else (some false))) = some r := by rw [if_neg (show ¬ (false = true) by decide)] at H; exact H
    clear H
    have H := H1
    clear H1
    by_cases c6 : a0 = 45
    ·rw [if_pos c6] at H
     have c6b0 : (a0 == 45) = true := beq_iff_eq.mpr c6
     have c6b1 : (a0 != 45) = false := bne_eq_false_iff_eq.mpr c6
     clear c6
     obtain rfl := Option.some.inj H
     go_enter Tryd.func27, Tryd.ntmps27
     go_wp2
     go_ret
     exact ⟨by first | rfl | (simp; done) | (simp [*]; done), by repeat (first | exact Drawn0.refl _ | apply Drawn0.step)⟩
    ·rw [if_neg c6] at H
     have c6b0 : (a0 == 45) = false := beq_eq_false_iff_ne.mpr c6
     have c6b1 : (a0 != 45) = true := bne_iff_ne.mpr c6
     by_cases c7 : a0 ≥ 48
     ·rw [if_pos c7] at H
      have c7b0 : decide (48 ≤ a0) = true := decide_eq_true c7
      clear c7
      obtain rfl := Option.some.inj H
      go_enter Tryd.func27, Tryd.ntmps27
      go_wp2
      go_ret
      exact ⟨by first | rfl | (simp; done) | (simp [*]; done), by repeat (first | exact Drawn0.refl _ | apply Drawn0.step)⟩
     ·rw [if_neg c7] at H
      have c7b0 : decide (48 ≤ a0) = false := decide_eq_false c7
      clear c7
      obtain rfl := Option.some.inj H
      go_enter Tryd.func27, Tryd.ntmps27
      go_wp2
      go_ret
      exact ⟨by first | rfl | (simp; done) | (simp [*]; done), by repeat (first | exact Drawn0.refl _ | apply Drawn0.step)⟩
 ·rw [if_neg c3] at H
  have c3b0 : decide (97 ≤ a0) = false := decide_eq_false c3
  clear c3
  by_cases c8 : a1 = true
  ·subst c8
   have H1 : (some false) = some r := by rw [if_pos rfl] at H; exact H
   clear H
   have H := H1
   clear H1
   obtain rfl := Option.some.inj H
   go_enter Tryd.func27, Tryd.ntmps27
   go_wp2
   go_ret
   exact ⟨by first | rfl | (simp; done) | (simp [*]; done), by repeat (first | exact Drawn0.refl _ | apply Drawn0.step)⟩
  ·replace c8 := Bool.eq_false_iff.mpr c8
   subst c8
   have H1 : (if a0 = 45 then (some true) else (if a0 ≥ 48 then (some (decide (a0 ≤ 57))) else (some false))) = some r := by rw [if_neg (show ¬ (false = true) by decide)] at H; exact H
   clear H
   have H := H1
   clear H1
   by_cases c9 : a0 = 45
   ·rw [if_pos c9] at H
    have c9b0 : (a0 == 45) = true := beq_iff_eq.mpr c9
    have c9b1 : (a0 != 45) = false := bne_eq_false_iff_eq.mpr c9
    clear c9
    obtain rfl := Option.some.inj H
    go_enter Tryd.func27, Tryd.ntmps27
    go_wp2
    go_ret
    exact ⟨by first | rfl | (simp; done) | (simp [*]; done), by repeat (first | exact Drawn0.refl _ | apply Drawn0.step)⟩
   ·rw [if_neg c9] at H
    have c9b0 : (a0 == 45) = false := beq_eq_false_iff_ne.mpr c9
    have c9b1 : (a0 != 45) = true := bne_iff_ne.mpr c9
    by_cases c10 : a0 ≥ 48
    ·rw [if_pos c10] at H
     have c10b0 : decide (48 ≤ a0) = true := decide_eq_true c10
     clear c10
     obtain rfl := Option.some.inj H
     go_enter Tryd.func27, Tryd.ntmps27
     go_wp2
     go_ret
     exact ⟨by first | rfl | (simp; done) | (simp [*]; done), by repeat (first | exact Drawn0.refl _ | apply Drawn0.step)⟩
    ·rw [if_neg c10] at H
     have c10b0 : decide (48 ≤ a0) = false := decide_eq_false c10
     clear c10
     obtain rfl := Option.some.inj H
     go_enter Tryd.func27, Tryd.ntmps27
     go_wp2
     go_ret
     exact ⟨by first | rfl | (simp; done) | (simp [*]; done), by repeat (first | exact Drawn0.refl _ | apply Drawn0.step)⟩

mutual
def treenailref01_Name.j0 : Nat → ByteArray → Bool → Option (Bool)
 | 0, _, _ => none
 | k + 1, x0, x11 => if x11 = true then (some false) else (treenailref01_Name.l0 k x0 0)
def treenailref01_Name.l0 : Nat → ByteArray → Int → Option (Bool)
 | 0, _, _ => none
 | k + 1, x0, x3 => if x3 < (x0.size : Int) then (if 0 ≤ x3 then ((treenailref01_inName.f (bt x0 x3) (x3 == 0)).bind fun t194 => (if t194 = true then (treenailref01_Name.l0 k x0 (wrap64 (x3 + 1))) else (some false))) else (none)) else (some true)
end
def treenailref01_Name.f (k : Nat) (a0 : ByteArray) : Option (Bool) := if (a0.size : Int) < 1 then (treenailref01_Name.j0 k a0 true) else (treenailref01_Name.j0 k a0 (decide ((a0.size : Int) > 24)))
set_option maxRecDepth 100000 in
theorem treenailref01_Name.mono_l : ∀ k, (∀ y0 y1, LeO (treenailref01_Name.j0 k y0 y1) (treenailref01_Name.j0 (k + 1) y0 y1)) ∧ (∀ y0 y1, LeO (treenailref01_Name.l0 k y0 y1) (treenailref01_Name.l0 (k + 1) y0 y1))
 | 0 => ⟨fun _ _ r h => by first | (cases h; done) | simp [treenailref01_Name.j0] at h, fun _ _ r h => by first | (cases h; done) | simp [treenailref01_Name.l0] at h⟩
 | k + 1 => by
  obtain ⟨ih0, ih1⟩ := treenailref01_Name.mono_l k
  refine ⟨?_, ?_⟩
  ·intro y0 y1
   unfold treenailref01_Name.j0
   repeat' first
   | (with_reducible exact ih0 _ _)
   | (with_reducible exact ih1 _ _)
   | (with_reducible exact LeO.refl _)
   | (with_reducible exact LeO.none _)
   | (with_reducible refine LeO.ite ?_ ?_)
   | (with_reducible refine LeO.bind ?_ (fun _ => ?_))
   | exact ih0 _ _
   | exact ih1 _ _
   | exact LeO.none _
   | refine LeO.ite ?_ ?_
   | refine LeO.bind ?_ (fun _ => ?_)
  ·intro y0 y1
   unfold treenailref01_Name.l0
   repeat' first
   | (with_reducible exact ih0 _ _)
   | (with_reducible exact ih1 _ _)
   | (with_reducible exact LeO.refl _)
   | (with_reducible exact LeO.none _)
   | (with_reducible refine LeO.ite ?_ ?_)
   | (with_reducible refine LeO.bind ?_ (fun _ => ?_))
   | exact ih0 _ _
   | exact ih1 _ _
   | exact LeO.none _
   | refine LeO.ite ?_ ?_
   | refine LeO.bind ?_ (fun _ => ?_)
set_option maxRecDepth 100000 in
theorem treenailref01_Name.mono : ∀ a0 k, LeO (treenailref01_Name.f k a0) (treenailref01_Name.f (k + 1) a0) := by
 intro a0 k
 obtain ⟨ih0, ih1⟩ := treenailref01_Name.mono_l k
 unfold treenailref01_Name.f
 repeat' first
   | (with_reducible exact ih0 _ _)
   | (with_reducible exact ih1 _ _)
   | (with_reducible exact LeO.refl _)
   | (with_reducible exact LeO.none _)
   | (with_reducible refine LeO.ite ?_ ?_)
   | (with_reducible refine LeO.bind ?_ (fun _ => ?_))
   | exact ih0 _ _
   | exact ih1 _ _
   | exact LeO.none _
   | refine LeO.ite ?_ ?_
   | refine LeO.bind ?_ (fun _ => ?_)
set_option maxHeartbeats 8000000 in
set_option maxRecDepth 100000 in
theorem treenailref01_Name.calls (k : Nat) (a0 : ByteArray) (r : Bool) (w : World) (h : treenailref01_Name.f k a0 = some r) :
  Calls Tryd.prog 14 #[.string a0] w fun e w' => e = .returned (.bool r) ∧ Drawn0 w w' := by
 have H : (if (a0.size : Int) < 1 then (treenailref01_Name.j0 k a0 true) else (treenailref01_Name.j0 k a0 (decide ((a0.size : Int) > 24)))) = some r := h
 clear h
 have HC2 := Aside0.mk H
 clear H
 go_enter Tryd.func14, Tryd.ntmps14
 go_upto_region 1 with (fail)
 go_cut [11] (fun v11 wc => ∃ (kq : Nat) (x11_1 : Bool), v11 = .bool x11_1 ∧ Aside0 (treenailref01_Name.j0 kq a0 x11_1 = some r) ∧ Aside0 (kq ≤ k) ∧ Drawn0 w wc)
 case first =>
  have H := HC2.out
  clear HC2
  by_cases c3 : (a0.size : Int) < 1
  ·rw [if_pos c3] at H
   have c3b0 : decide ((a0.size : Int) < 1) = true := decide_eq_true c3
   have c3b1 : decide (a0.size < 1) = true := decide_eq_true (by omega)
   clear c3
   (first | rw [c3b0] | (simp only [i64_w, i32_w]; rw [c3b0]) | skip)
   have H' := Aside0.mk H
   clear H
   go_wp2
   go_meet
   case rel => exact ⟨_, (true), (by first | rfl | (simp; done) | (simp [*]; done)), H', ⟨by first | omega | exact Nat.le_refl _⟩, by repeat (first | exact Drawn0.refl _ | apply Drawn0.step)⟩
  ·rw [if_neg c3] at H
   have c3b0 : decide ((a0.size : Int) < 1) = false := decide_eq_false c3
   have c3b1 : decide (a0.size < 1) = false := decide_eq_false (by omega)
   clear c3
   (first | rw [c3b0] | (simp only [i64_w, i32_w]; rw [c3b0]) | skip)
   have H' := Aside0.mk H
   clear H
   go_wp2
   go_meet
   case rel => exact ⟨_, (decide ((a0.size : Int) > 24)), (by first | rfl | (simp; done) | (simp [*]; done)), H', ⟨by first | omega | exact Nat.le_refl _⟩, by repeat (first | exact Drawn0.refl _ | apply Drawn0.step)⟩
 case rest =>
  clear HC2
  try clear c1
  try clear p2
  try clear c3
  try clear c3b0
  try clear c3b1
  obtain ⟨kq, x11_1, rfl, HA, HJ1, ⟨mc1, rfl⟩⟩ := hcut
  cases kq with
  | zero => exact absurd HA.out (by first | (intro h_; cases h_; done) | simp [treenailref01_Name.j0])
  | succ kj1 =>
   have H := HA.out
   clear HA
   simp only [treenailref01_Name.j0] at H
   by_cases c4 : x11_1 = true
   ·subst c4
    have H1 : (some false) = some r := by rw [if_pos rfl] at H; exact H
    clear H
    have H := H1
    clear H1
    obtain rfl := Option.some.inj H
    go_wp2
    go_ret
    exact ⟨by first | rfl | (simp; done) | (simp [*]; done), by repeat (first | exact Drawn0.refl _ | apply Drawn0.step)⟩
   ·replace c4 := Bool.eq_false_iff.mpr c4
    subst c4
    have H1 : (treenailref01_Name.l0 kj1 a0 0) = some r := by rw [if_neg (show ¬ (false = true) by decide)] at H; exact H
    clear H
    have H := H1
    clear H1
    have H' := Aside0.mk H
    clear H
    go_wp2
    go_loopg [3] kj1 (fun kq v3 w' => ∃ (x3_2 : Int), v3 = .int .i64 x3_2 ∧ Aside0 (treenailref01_Name.l0 kq a0 x3_2 = some r) ∧ Aside0 (kq ≤ kj1) ∧ Drawn0 w w')
    case atStart => exact ⟨(0), (by first | rfl | (simp; done) | (simp [*]; done)), H', ⟨Nat.le_refl _⟩, by repeat (first | exact Drawn0.refl _ | apply Drawn0.step)⟩
    case round =>
     clear H'
     try clear c1
     try clear p2
     try clear c3
     try clear c3b0
     try clear c3b1
     try clear c4
     try clear p2
     obtain ⟨x3_2, rfl, HA, HK2, ⟨m2, rfl⟩⟩ := hrel
     cases gk with
     | zero => exact absurd HA.out (by first | (intro h_; cases h_; done) | simp [treenailref01_Name.l0])
     | succ k2 =>
      have H := HA.out
      clear HA
      simp only [treenailref01_Name.l0] at H
      by_cases c5 : x3_2 < (a0.size : Int)
      ·rw [if_pos c5] at H
       have c5b0 : decide (x3_2 < (a0.size : Int)) = true := decide_eq_true c5
       clear c5
       by_cases c6 : 0 ≤ x3_2
       ·rw [if_pos c6] at H
        have c6b0 : decide (0 ≤ x3_2) = true := decide_eq_true c6
        clear c6
        replace H := Option.bind_eq_some_iff.mp H
        obtain ⟨t194, A80, H⟩ := H
        replace H : (if t194 = true then (treenailref01_Name.l0 k2 a0 (wrap64 (x3_2 + 1))) else (some false)) = some r := H
        have A8 := Aside0.mk A80
        clear A80
        by_cases c9 : t194 = true
        ·subst c9
         have H1 : (treenailref01_Name.l0 k2 a0 (wrap64 (x3_2 + 1))) = some r := by rw [if_pos rfl] at H; exact H
         clear H
         have H := H1
         clear H1
         have H' := Aside0.mk H
         clear H
         have p7 : 0 ≤ (x3_2 : Int) := of_decide_eq_true (by first | (with_reducible assumption) | assumption)
         have q7 : x3_2 < (a0.size : Int) := of_decide_eq_true (by first | (with_reducible assumption) | assumption)
         have hx7 := bt_at a0 x3_2
         replace p7 := eq_true p7
         replace q7 := eq_true q7
         go_wp2_with (first | ((with_reducible refine gate_callee (f := 27) rfl ?_); refine goesL_ (some 23) rfl rfl Tryd.func27 (by kernel_rfl) rfl #[.int .u8 (bt a0 x3_2), .bool (x3_2 == 0)] rfl (by (try simp only [List.map_toArray, List.map_cons, List.map_nil]); first | done | rfl | (simp only [List.length_drop, List.length_take]; rfl)) ?_; (with_reducible refine (treenailref01_inName.calls (bt a0 x3_2) (x3_2 == 0) true _ A8.out).mono ?_); rintro e w' ⟨rfl, ⟨nd, rfl⟩⟩; refine ⟨_, rfl, ?_⟩))
         go_roundg k2
         case measure => have := HJ1.out; have := HK2.out; omega
         case rel => exact ⟨(wrap64 (x3_2 + 1)), (by first | rfl | (simp; done) | (simp [*]; done)), H', ⟨by have := HJ1.out; have := HK2.out; omega⟩, by repeat (first | exact Drawn0.refl _ | apply Drawn0.step)⟩
        ·replace c9 := Bool.eq_false_iff.mpr c9
         subst c9
         have H1 : (some false) = some r := by rw [if_neg (show ¬ (false = true) by decide)] at H; exact H
         clear H
         have H := H1
         clear H1
         obtain rfl := Option.some.inj H
         have p7 : 0 ≤ (x3_2 : Int) := of_decide_eq_true (by first | (with_reducible assumption) | assumption)
         have q7 : x3_2 < (a0.size : Int) := of_decide_eq_true (by first | (with_reducible assumption) | assumption)
         have hx7 := bt_at a0 x3_2
         replace p7 := eq_true p7
         replace q7 := eq_true q7
         go_wp2_with (first | ((with_reducible refine gate_callee (f := 27) rfl ?_); refine goesL_ (some 23) rfl rfl Tryd.func27 (by kernel_rfl) rfl #[.int .u8 (bt a0 x3_2), .bool (x3_2 == 0)] rfl (by (try simp only [List.map_toArray, List.map_cons, List.map_nil]); first | done | rfl | (simp only [List.length_drop, List.length_take]; rfl)) ?_; (with_reducible refine (treenailref01_inName.calls (bt a0 x3_2) (x3_2 == 0) false _ A8.out).mono ?_); rintro e w' ⟨rfl, ⟨nd, rfl⟩⟩; refine ⟨_, rfl, ?_⟩))
         go_ret
         exact ⟨by first | rfl | (simp; done) | (simp [*]; done), by repeat (first | exact Drawn0.refl _ | apply Drawn0.step)⟩
       ·rw [if_neg c6] at H
        exact absurd H (by simp)
      ·rw [if_neg c5] at H
       have c5b0 : decide (x3_2 < (a0.size : Int)) = false := decide_eq_false c5
       clear c5
       obtain rfl := Option.some.inj H
       go_wp2
       go_ret
       exact ⟨by first | rfl | (simp; done) | (simp [*]; done), by repeat (first | exact Drawn0.refl _ | apply Drawn0.step)⟩

end Go.Proofs.YtdlblokojlhmbaaDoor.Q
