import Derived.Test.YtdlblokojlhmbaaDoorSx0
import Derived.Test.YtdlblokojlhmbaaDoorSx2
import Derived.Test.YtdlblokojlhmbaaDoorSx3
import Derived.Test.YtdlblokojlhmbaaDoorSx5
import Derived.Test.YtdlblokojlhmbaaDoorSx6
namespace Go.Proofs.YtdlblokojlhmbaaDoor.Q
open Go.RowKit Go.Proofs.YtdlblokojlhmbaaDoorW.PrintWords Go.Proofs.YtdlblokojlhmbaaDoorW.PrintLast Go.Proofs.YtdlblokojlhmbaaDoorW.PrintMore
attribute [local go_sem] max2_int min2_int max_two min_two max_three min_three max_four min_four   -- for this text's walks alone
set_option linter.unusedVariables false
set_option linter.unusedSimpArgs false

def treenaillaw01_MarkNames.f (k : Nat) (a0 : ByteArray) : Option (Bool) := (mark_Name.f a0).bind fun t303 => ((treenailref01_Name.f k a0).bind fun t304 => (if (t303 == t304) = true then ((treenaillaw01_opens.f k).bind fun t305 => (some t305)) else (some false)))
set_option maxRecDepth 100000 in
theorem treenaillaw01_MarkNames.mono : ∀ a0 k, LeO (treenaillaw01_MarkNames.f k a0) (treenaillaw01_MarkNames.f (k + 1) a0) := by
 intro a0 k
 unfold treenaillaw01_MarkNames.f
 repeat' first
   | (with_reducible exact treenaillaw01_opens.mono _)
   | (with_reducible exact treenailref01_Name.mono _ _)
   | (with_reducible exact LeO.refl _)
   | (with_reducible exact LeO.none _)
   | (with_reducible refine LeO.ite ?_ ?_)
   | (with_reducible refine LeO.bind ?_ (fun _ => ?_))
   | exact treenaillaw01_opens.mono _
   | exact treenailref01_Name.mono _ _
   | exact LeO.none _
   | refine LeO.ite ?_ ?_
   | refine LeO.bind ?_ (fun _ => ?_)
set_option maxHeartbeats 8000000 in
set_option maxRecDepth 100000 in
theorem treenaillaw01_MarkNames.calls (k : Nat) (a0 : ByteArray) (r : Bool) (w : World) (h : treenaillaw01_MarkNames.f k a0 = some r) (hT : Tabs.Tab w) :
  Calls Tryd.prog 4 #[.string a0] w fun e w' => e = .returned (.bool r) ∧ Below w.heap.size w w' := by
 have HB := Aside0.mk (Below.refl w.heap.size w)
 have HT0 := Aside0.mk hT
 clear hT
 have H : ((mark_Name.f a0).bind fun t303 => ((treenailref01_Name.f k a0).bind fun t304 => (if (t303 == t304) = true then ((treenaillaw01_opens.f k).bind fun t305 => (some t305)) else (some false)))) = some r := h
 clear h
 replace H := Option.bind_eq_some_iff.mp H
 obtain ⟨t303, A20, H⟩ := H
 replace H : ((treenailref01_Name.f k a0).bind fun t304 => (if (t303 == t304) = true then ((treenaillaw01_opens.f k).bind fun t305 => (some t305)) else (some false))) = some r := H
 have A2 := Aside0.mk A20
 clear A20
 replace H := Option.bind_eq_some_iff.mp H
 obtain ⟨t304, A30, H⟩ := H
 replace H : (if (t303 == t304) = true then ((treenaillaw01_opens.f k).bind fun t305 => (some t305)) else (some false)) = some r := H
 have A3 := Aside0.mk A30
 clear A30
 by_cases c4 : (t303 == t304) = true
 ·rw [if_pos c4] at H
  have c4b0 : (t303 == t304) = true := c4
  (try (have c4b1 : decide (t303 = t304) = true := by simpa using c4))
  (try (have c4b2 : (t303 == t304) = true := by simpa using c4))
  clear c4
  replace H := Option.bind_eq_some_iff.mp H
  obtain ⟨t305, A50, H⟩ := H
  replace H : (some t305) = some r := H
  have A5 := Aside0.mk A50
  clear A50
  obtain rfl := Option.some.inj H
  go_enter Tryd.func4, Tryd.ntmps4
  go_wp2_with (first | ((with_reducible refine gate_callee (f := 13) rfl ?_); refine goesL_ (some 4) rfl rfl Tryd.func13 (by kernel_rfl) rfl #[.string a0] rfl (by (try simp only [List.map_toArray, List.map_cons, List.map_nil]); first | done | rfl | (simp only [List.length_drop, List.length_take]; rfl)) ?_; (with_reducible refine (mark_Name.calls a0 t303 _ A2.out).mono ?_); rintro e w6 ⟨rfl, hb⟩; refine ⟨_, rfl, ?_⟩; have n0_ := Aside0.mk (below_step (by repeat (first | (with_reducible first | exact HB.out | apply bA | apply bN | apply bD) | exact HB.out)) hb); clear HB; have HB := n0_; clear n0_; (try clear hb); (try clear hb2); (try clear hk); (try clear hi)) | ((with_reducible refine gate_callee (f := 14) rfl ?_); refine goesL_ (some 6) rfl rfl Tryd.func14 (by kernel_rfl) rfl #[.string a0] rfl (by (try simp only [List.map_toArray, List.map_cons, List.map_nil]); first | done | rfl | (simp only [List.length_drop, List.length_take]; rfl)) ?_; (with_reducible refine (treenailref01_Name.calls k a0 t304 _ A3.out).mono ?_); rintro e w' ⟨rfl, ⟨nd, rfl⟩⟩; refine ⟨_, rfl, ?_⟩) | (go_at_call 9; (with_reducible refine (treenaillaw01_opens.calls k  t305 _ A5.out ?hT_).mono ?_); (case hT_ => exact Tabs.tab_below HT0.out (by repeat (first | (with_reducible first | exact HB.out | apply bA | apply bN | apply bD) | exact HB.out))); rintro e w7 ⟨rfl, hb⟩; have n0_ := Aside0.mk (below_step (by repeat (first | (with_reducible first | exact HB.out | apply bA | apply bN | apply bD) | exact HB.out)) hb); clear HB; have HB := n0_; clear n0_; (try clear hb); (try clear hb2); (try clear hk); (try clear hi)))
  go_ret
  exact ⟨by first | rfl | (simp [errW_none, errW_some] <;> rfl) | (simp [*, errW_none, errW_some] <;> rfl), by repeat (first | (with_reducible first | exact HB.out | apply bA | apply bN | apply bD) | exact HB.out)⟩
 ·rw [if_neg c4] at H
  have c4b0 : (t303 == t304) = false := by simpa using c4
  (try (have c4b1 : decide (t303 = t304) = false := by simpa using c4))
  (try (have c4b2 : (t303 == t304) = false := by simpa using c4))
  (try (have c4b3 : ¬ (t303 = t304) := by simpa using c4))
  clear c4
  obtain rfl := Option.some.inj H
  go_enter Tryd.func4, Tryd.ntmps4
  go_wp2_with (first | ((with_reducible refine gate_callee (f := 13) rfl ?_); refine goesL_ (some 4) rfl rfl Tryd.func13 (by kernel_rfl) rfl #[.string a0] rfl (by (try simp only [List.map_toArray, List.map_cons, List.map_nil]); first | done | rfl | (simp only [List.length_drop, List.length_take]; rfl)) ?_; (with_reducible refine (mark_Name.calls a0 t303 _ A2.out).mono ?_); rintro e w8 ⟨rfl, hb⟩; refine ⟨_, rfl, ?_⟩; have n0_ := Aside0.mk (below_step (by repeat (first | (with_reducible first | exact HB.out | apply bA | apply bN | apply bD) | exact HB.out)) hb); clear HB; have HB := n0_; clear n0_; (try clear hb); (try clear hb2); (try clear hk); (try clear hi)) | ((with_reducible refine gate_callee (f := 14) rfl ?_); refine goesL_ (some 6) rfl rfl Tryd.func14 (by kernel_rfl) rfl #[.string a0] rfl (by (try simp only [List.map_toArray, List.map_cons, List.map_nil]); first | done | rfl | (simp only [List.length_drop, List.length_take]; rfl)) ?_; (with_reducible refine (treenailref01_Name.calls k a0 t304 _ A3.out).mono ?_); rintro e w' ⟨rfl, ⟨nd, rfl⟩⟩; refine ⟨_, rfl, ?_⟩))
  go_ret
  exact ⟨by first | rfl | (simp [errW_none, errW_some] <;> rfl) | (simp [*, errW_none, errW_some] <;> rfl), by repeat (first | (with_reducible first | exact HB.out | apply bA | apply bN | apply bD) | exact HB.out)⟩


theorem gate_e {P : Program} {f : FuncId} {args : Array Value} {w : World} {Q : Ending → World → Prop} (h : Calls P f args w Q) : Calls P f args w Q := h
def mark_Escape.at (c : Int) : Int := Tabs.ix (fun j => Tabs.key j == c) 4 0
def mark_Escape.l0 : Nat → ByteArray → ByteArray → Int → Option (ByteArray × Int)
 | 0, _, _, _ => none
 | k + 1, o, s, i => if i < (s.size : Int) then (if 0 ≤ i then ((mark_plain.f (bt s i)).bind fun t => (if t = true then (if mark_Escape.at (bt s i) < 0 then (if o.size + 1 ≤ 140737488355328 then mark_Escape.l0 k (o ++ Bl2.one (bt s i)) s (wrap64 (i + 1)) else none) else (if o.size + (Tabs.txt (mark_Escape.at (bt s i)).toNat).size ≤ 140737488355328 then mark_Escape.l0 k (o ++ Tabs.txt (mark_Escape.at (bt s i)).toNat) s (wrap64 (i + 1)) else none)) else some ((⟨#[]⟩ : ByteArray), 4))) else none) else some (o, 0)
def mark_Escape.f (k : Nat) (a0 : ByteArray) : Option (ByteArray × Int) := mark_Escape.l0 k (⟨#[]⟩ : ByteArray) a0 0
theorem mark_Escape.mono_l : ∀ k, (∀ y0 y1 y2, LeO (mark_Escape.l0 k y0 y1 y2) (mark_Escape.l0 (k + 1) y0 y1 y2))
 | 0 => fun _ _ _ r h => by first | (cases h; done) | simp [mark_Escape.l0] at h
 | k + 1 => by
  have ih0 := mark_Escape.mono_l k
  ·intro y0 y1 y2
   unfold mark_Escape.l0
   repeat' first
   | (with_reducible exact ih0 _ _ _)
   | (with_reducible exact LeO.refl _)
   | (with_reducible exact LeO.none _)
   | (with_reducible refine LeO.ite ?_ ?_)
   | (with_reducible refine LeO.bind ?_ (fun _ => ?_))
   | exact ih0 _ _ _
   | exact LeO.none _
   | refine LeO.ite ?_ ?_
   | refine LeO.bind ?_ (fun _ => ?_)
theorem mark_Escape.mono : ∀ a0 k, LeO (mark_Escape.f k a0) (mark_Escape.f (k + 1) a0) := fun a0 k => mark_Escape.mono_l k _ _ _
theorem ix_range (p : Nat → Bool) : ∀ d i, Tabs.ix p d i < 0 ∨ ∃ n : Nat, Tabs.ix p d i = (n : Int) ∧ n < 4
 | 0, i => .inl (by simp [Tabs.ix])
 | d + 1, i => by
  simp only [Tabs.ix]
  split
  ·split
   ·exact .inr ⟨i, rfl, by omega⟩
   ·exact ix_range p d (i + 1)
  ·exact .inl (by omega)
theorem bt_byte (s : ByteArray) (i : Int) (h0 : 0 ≤ i) (h1 : i < (s.size : Int)) : 0 ≤ bt s i ∧ bt s i < 256 := by
 have h : i.toNat < s.size := by omega
 rw [← bt_at s i h]
 have := UInt8.toNat_lt (s[i.toNat]'h)
 omega
set_option maxHeartbeats 8000000 in
set_option maxRecDepth 100000 in
theorem mark_Escape.calls (k : Nat) (a0 : ByteArray) (r1 : ByteArray) (r2 : Int) (w : World) (h : mark_Escape.f k a0 = some (r1, r2)) (hT : Tabs.Tab w) :
  Calls Tryd.prog 15 #[.string a0] w fun e w' => e = .returned (.tuple #[.string r1, .int .i64 r2]) ∧ Below w.heap.size w w' := by
 have HT0 := Aside0.mk hT
 clear hT
 have hmf : ∀ (fn : Fn) (first cap : Array Value) (w : World), (Instr.makeFunc fn first cap).run Tryd.prog w = .ok (.func fn first cap) w := fun _ _ _ _ => rfl
 have HB := Aside0.mk (Below.refl w.heap.size w)
 have H' := Aside0.mk (show mark_Escape.l0 k (⟨#[]⟩ : ByteArray) a0 0 = some (r1, r2) from h)
 clear h
 go_enter Tryd.func15, Tryd.ntmps15
 go_wp2_with (first | ((with_reducible refine gate_dst (N := 1) rfl ?_); refine box_event ?hg (N := 1) ?hd (cs := #[.string a0]) (t := 9) ?hr ?_; (case hd => rfl); (case hg => rfl); (case hr => first | (go_simp; done) | (go_simp; rfl)); intro g1 hg w1 hbox hb; have n0_ := Aside0.mk (below_step (by repeat (first | (with_reducible first | exact HB.out | apply bA | apply bN | apply bD) | exact HB.out)) hb); have n1_ := Aside0.mk hbox; have n2_ := Aside0.mk ((by rw [hg]; exact (below_size (by repeat (first | (with_reducible first | exact HB.out | apply bA | apply bN | apply bD) | exact HB.out)))) : w.heap.size ≤ g1); clear HB; have HB := n0_; have G1 := n1_; have GE1 := n2_; clear n0_ n1_ n2_ hb hbox hg; have z1 : w1.cell? ⟨g1, 0, none⟩ = some (.string a0) := (blk_cell G1.out 0).trans rfl) | ((with_reducible refine gate_dst (N := 4) rfl ?_); refine box_event ?hg (N := 4) ?hd (cs := #[.pointer none, .slice none 0 0]) (t := 66) ?hr ?_; (case hd => rfl); (case hg => rfl); (case hr => first | (go_simp; done) | (go_simp; rfl)); intro g4 hg w4 hbox hb; have n0_ := Aside0.mk (below_step (by repeat (first | (with_reducible first | exact HB.out | apply bA | apply bN | apply bD) | exact HB.out)) hb); have n1_ := Aside0.mk (blk_below (by (with_reducible repeat (first | refine kN ?_ _ | refine kD ?_ | refine kA ?_ _)); exact G1.out) hb); have n2_ := Aside0.mk ((by rw [hg]; exact (below_size (by repeat (first | (with_reducible first | exact HB.out | apply bA | apply bN | apply bD) | exact HB.out)))) : w.heap.size ≤ g4); have n3_ := Aside0.mk (Bl2.bld_fresh (by rw [hg]; exact Nat.le_refl _) hbox); have n4_ := Aside0.mk (below_size (by repeat (first | (with_reducible first | exact HB.out | apply bA | apply bN | apply bD) | exact HB.out))); have n5_ := Aside0.mk hb.size; clear HB G1 z1; have HB := n0_; have G1 := n1_; have GE4 := n2_; have BD := n3_; have HW := n4_; have HW4 := n5_; clear n5_ n0_ n1_ n2_ n3_ n4_ hb hbox hg; have z1 : w4.cell? ⟨g1, 0, none⟩ = some (.string a0) := (blk_cell G1.out 0).trans rfl))
 go_loopg [9] k (fun kq v9 w' => ∃ (o : ByteArray) (i : Int), v9 = .int .i64 i ∧ Aside0 (Bl2.Bd w' w1.heap.size g4 o) ∧ Aside0 (mark_Escape.l0 kq o a0 i = some (r1, r2)) ∧ Aside0 (kq ≤ k) ∧ Aside0 (w'.heap[g1]? = some (.cells #[.string a0] 9 (0, 0))) ∧ Aside0 (w1.heap.size ≤ w'.heap.size) ∧ Aside0 (Below w.heap.size w w'))
 case atStart => exact ⟨⟨#[]⟩, 0, rfl, BD, H', ⟨Nat.le_refl _⟩, G1, HW4, HB⟩
 case round =>
  clear H' BD HW4 G1 HB z1
  obtain ⟨o, i, rfl, BD, HA, HK1, G1, HW4, HB⟩ := hrel
  cases gk with
  | zero => exact absurd HA.out (by first | (intro h_; cases h_; done) | simp [mark_Escape.l0])
  | succ k1 =>
   have H := HA.out
   clear HA
   simp only [mark_Escape.l0] at H
   by_cases c1 : i < (a0.size : Int)
   ·rw [if_pos c1] at H
    by_cases p1 : 0 ≤ i
    ·rw [if_pos p1] at H
     have HI0 := Aside0.mk p1
     have HI1 := Aside0.mk c1
     have hby := bt_byte a0 i p1 c1
     have HBY := Aside0.mk hby
     clear hby
     have hx := bt_at a0 i
     have c1b := decide_eq_true c1
     have p1b := decide_eq_true p1
     replace p1 := eq_true p1
     replace c1 := eq_true c1
     replace H := Option.bind_eq_some_iff.mp H
     obtain ⟨t, A60, H⟩ := H
     have A6 := Aside0.mk A60
     clear A60
     cases t with
     | true =>
      rw [if_pos rfl] at H
      by_cases c2 : mark_Escape.at (bt a0 i) < 0
      ·rw [if_pos c2] at H
       by_cases c3 : o.size + 1 ≤ 140737488355328
       ·rw [if_pos c3] at H
        have HS := Aside0.mk c3
        clear c3
        have HH := Aside0.mk H
        clear H
        have hat : ∃ v, mark_Escape.at (bt a0 i) = v := ⟨_, rfl⟩
        obtain ⟨v, hat⟩ := hat
        rw [hat] at c2
        have HAT := Aside0.mk hat
        clear hat
        have v0 := decide_eq_true c2
        clear c2
        go_wp2_with (first | ((with_reducible refine gate_dst (N := 5) rfl ?_); refine box_event ?hg (N := 5) ?hd (cs := #[.int .i64 0]) (t := 3) ?hr ?_; (case hd => rfl); (case hg => rfl); (case hr => first | (go_simp; done) | (go_simp; rfl)); intro g5 hg w5 hbox hb; have n0_ := Aside0.mk (below_step (by repeat (first | (with_reducible first | exact HB.out | apply bA | apply bN | apply bD) | exact HB.out)) hb); have n1_ := Aside0.mk (blk_below (by (with_reducible repeat (first | refine kN ?_ _ | refine kD ?_ | refine kA ?_ _)); exact G1.out) hb); have n2_ := Aside0.mk (Bl2.bld_below (by (with_reducible repeat (first | refine Bl2.bld_drewN ?_ _ | refine Bl2.bld_alloc ?_ _)); exact BD.out) hb); have n3_ := Aside0.mk (Nat.le_trans HW4.out hb.size); have n4_ := Aside0.mk hbox; have n5_ := Aside0.mk ((by rw [hg]; exact (below_size (by repeat (first | (with_reducible first | exact HB.out | apply bA | apply bN | apply bD) | exact HB.out)))) : w.heap.size ≤ g5); clear HB G1 BD HW4; have HB := n0_; have G1 := n1_; have BD := n2_; have HW4 := n3_; have G5 := n4_; have GE5 := n5_; clear n0_ n1_ n2_ n3_ n4_ n5_; clear hb hbox hg; have hne := blk_ne G1.out G5.out (by decide); have hne' := Ne.symm hne; have HNE := Aside0.mk hne; have z1 : w5.cell? ⟨g1, 0, none⟩ = some (.string a0) := (blk_cell G1.out 0).trans rfl; have z5 : w5.cell? ⟨g5, 0, none⟩ = some (.int .i64 0) := (blk_cell G5.out 0).trans rfl; have f5 := blk_frozen G5.out 0) | (go_at_call 28; refine (mark_plain.calls (bt a0 i) true _ A6.out).mono ?_; rintro e w6 ⟨rfl, ⟨nd, hq⟩⟩; have n0_ := Aside0.mk ((by rw [hq]; exact (by repeat (first | (with_reducible first | exact HB.out | apply bA | apply bN | apply bD | refine below_set ?_ GE5.out) | exact HB.out))) : Below w.heap.size w w6); have n1_ := Aside0.mk ((by rw [hq]; exact (by (with_reducible repeat (first | refine blk_drewN ?_ _ | refine blk_drew ?_ | refine blk_alloc ?_ _ | refine blk_far ?_ HNE.out _)); exact G1.out)) : w6.heap[g1]? = some (.cells #[.string a0] 9 (0, 0))); have n2_ := Aside0.mk ((by rw [hq]; refine Bl2.bld_drewN ?_ _; exact Bl2.bld_far BD.out G5.out 0 _ (by decide) (by decide)) : Bl2.Bd w6 w1.heap.size g4 o); have n3_ := Aside0.mk ((by rw [hq]; simp [World.drewN, World.setCell]; exact HW4.out) : w1.heap.size ≤ w6.heap.size); have n4_ := Aside0.mk ((by rw [hq]; refine blk_drewN ?_ _; refine blk_put (cs := #[.int .i64 0]) ?_ 0 _ rfl; exact G5.out) : w6.heap[g5]? = some (.cells #[.int .i64 i] 3 (0, 0))); clear HB G1 BD HW4 G5; have HB := n0_; have G1 := n1_; have BD := n2_; have HW4 := n3_; have G5 := n4_; clear n0_ n1_ n2_ n3_ n4_; clear hq z1 z5 f5; have z1 : w6.cell? ⟨g1, 0, none⟩ = some (.string a0) := (blk_cell G1.out 0).trans rfl; have z5 : w6.cell? ⟨g5, 0, none⟩ = some (.int .i64 i) := (blk_cell G5.out 0).trans rfl) | (go_at_call 31; refine (Bl2.write1 BD.out (bt a0 i) HBY.out.1 HBY.out.2 HS.out HW4.out).mono ?_; rintro e w8 ⟨rfl, hbd, hb, hoth⟩; have n0_ := Aside0.mk (HB.out.trans (hb.mono HW.out)); have n1_ := Aside0.mk (hoth g1 9 _ (by decide) (by decide) G1.out); have n2_ := Aside0.mk hbd; have n3_ := Aside0.mk (Nat.le_trans HW4.out hb.size); clear HB G1 BD HW4; have HB := n0_; have G1 := n1_; have BD := n2_; have HW4 := n3_; clear n0_ n1_ n2_ n3_; clear z1 z5 hb hbd hoth) | ((with_reducible refine gate_e ?_); refine (Tabs.index_esc (fun j => Tabs.key j == bt a0 i) g1 g5 _ (Tabs.tab_below HT0.out (by repeat (first | (with_reducible first | exact HB.out | apply bA | apply bN | apply bD) | exact HB.out))) (fun j W' hj hb => Tabs.clo_esc (Tabs.key j) (Tabs.txt j) a0 i g1 g5 W' (blk_below (by (with_reducible repeat (first | refine kN ?_ _ | refine kD ?_ | refine kA ?_ _)); exact G1.out) hb) (blk_below (by (with_reducible repeat (first | refine kN ?_ _ | refine kD ?_ | refine kA ?_ _)); exact G5.out) hb) HI0.out HI1.out)).mono ?_; rintro e w7 ⟨rfl, hb⟩; rw [show Tabs.ix (fun j => Tabs.key j == bt a0 i) 4 0 = v from HAT.out]; have n0_ := Aside0.mk (below_step (by repeat (first | (with_reducible first | exact HB.out | apply bA | apply bN | apply bD) | exact HB.out)) hb); have n1_ := Aside0.mk (blk_below (by (with_reducible repeat (first | refine kN ?_ _ | refine kD ?_ | refine kA ?_ _)); exact G1.out) hb); have n2_ := Aside0.mk (blk_below (by (with_reducible repeat (first | refine kN ?_ _ | refine kD ?_ | refine kA ?_ _)); exact G5.out) hb); have n3_ := Aside0.mk (Bl2.bld_below (by (with_reducible repeat (first | refine Bl2.bld_drewN ?_ _ | refine Bl2.bld_alloc ?_ _)); exact BD.out) hb); have n4_ := Aside0.mk (Nat.le_trans HW4.out hb.size); clear HB G1 G5 BD HW4; have HB := n0_; have G1 := n1_; have G5 := n2_; have BD := n3_; have HW4 := n4_; clear n0_ n1_ n2_ n3_ n4_; clear z1 z5 hb; have z1 : w7.cell? ⟨g1, 0, none⟩ = some (.string a0) := (blk_cell G1.out 0).trans rfl; have z5 : w7.cell? ⟨g5, 0, none⟩ = some (.int .i64 i) := (blk_cell G5.out 0).trans rfl; have ht := Tabs.tab_below HT0.out (by repeat (first | (with_reducible first | exact HB.out | apply bA | apply bN | apply bD) | exact HB.out)); clear ht))
        go_roundg k1
        case measure => have := HK1.out; omega
        case rel => exact ⟨o ++ Bl2.one (bt a0 i), _, by first | rfl | (simp; done), ⟨by (with_reducible repeat (first | refine Bl2.bld_drewN ?_ _ | refine Bl2.bld_alloc ?_ _)); exact BD.out⟩, HH, ⟨by have := HK1.out; omega⟩, G1, HW4, HB⟩

       ·rw [if_neg c3] at H
        exact absurd H (by simp)
      ·rw [if_neg c2] at H
       obtain ⟨n, hat, hn⟩ := (ix_range (fun j => Tabs.key j == bt a0 i) 4 0).resolve_left c2
       change mark_Escape.at (bt a0 i) = _ at hat
       rw [hat] at H c2
       rw [show ((n : Int)).toNat = n from rfl] at H
       by_cases c3 : o.size + (Tabs.txt n).size ≤ 140737488355328
       ·rw [if_pos c3] at H
        have HS := Aside0.mk c3
        clear c3
        have HH := Aside0.mk H
        clear H
        have HAT := Aside0.mk hat
        clear hat
        have HN := Aside0.mk hn
        have v0 := decide_eq_false c2
        clear c2
        have p4 := eq_true (show 0 ≤ (n : Int) by omega)
        have q4 := eq_true (show (n : Int) < 4 by omega)
        clear hn
        go_wp2_with (first | ((with_reducible refine gate_dst (N := 5) rfl ?_); refine box_event ?hg (N := 5) ?hd (cs := #[.int .i64 0]) (t := 3) ?hr ?_; (case hd => rfl); (case hg => rfl); (case hr => first | (go_simp; done) | (go_simp; rfl)); intro g5 hg w5 hbox hb; have n0_ := Aside0.mk (below_step (by repeat (first | (with_reducible first | exact HB.out | apply bA | apply bN | apply bD) | exact HB.out)) hb); have n1_ := Aside0.mk (blk_below (by (with_reducible repeat (first | refine kN ?_ _ | refine kD ?_ | refine kA ?_ _)); exact G1.out) hb); have n2_ := Aside0.mk (Bl2.bld_below (by (with_reducible repeat (first | refine Bl2.bld_drewN ?_ _ | refine Bl2.bld_alloc ?_ _)); exact BD.out) hb); have n3_ := Aside0.mk (Nat.le_trans HW4.out hb.size); have n4_ := Aside0.mk hbox; have n5_ := Aside0.mk ((by rw [hg]; exact (below_size (by repeat (first | (with_reducible first | exact HB.out | apply bA | apply bN | apply bD) | exact HB.out)))) : w.heap.size ≤ g5); clear HB G1 BD HW4; have HB := n0_; have G1 := n1_; have BD := n2_; have HW4 := n3_; have G5 := n4_; have GE5 := n5_; clear n0_ n1_ n2_ n3_ n4_ n5_; clear hb hbox hg; have hne := blk_ne G1.out G5.out (by decide); have hne' := Ne.symm hne; have HNE := Aside0.mk hne; have z1 : w5.cell? ⟨g1, 0, none⟩ = some (.string a0) := (blk_cell G1.out 0).trans rfl; have z5 : w5.cell? ⟨g5, 0, none⟩ = some (.int .i64 0) := (blk_cell G5.out 0).trans rfl; have f5 := blk_frozen G5.out 0) | (go_at_call 28; refine (mark_plain.calls (bt a0 i) true _ A6.out).mono ?_; rintro e w6 ⟨rfl, ⟨nd, hq⟩⟩; have n0_ := Aside0.mk ((by rw [hq]; exact (by repeat (first | (with_reducible first | exact HB.out | apply bA | apply bN | apply bD | refine below_set ?_ GE5.out) | exact HB.out))) : Below w.heap.size w w6); have n1_ := Aside0.mk ((by rw [hq]; exact (by (with_reducible repeat (first | refine blk_drewN ?_ _ | refine blk_drew ?_ | refine blk_alloc ?_ _ | refine blk_far ?_ HNE.out _)); exact G1.out)) : w6.heap[g1]? = some (.cells #[.string a0] 9 (0, 0))); have n2_ := Aside0.mk ((by rw [hq]; refine Bl2.bld_drewN ?_ _; exact Bl2.bld_far BD.out G5.out 0 _ (by decide) (by decide)) : Bl2.Bd w6 w1.heap.size g4 o); have n3_ := Aside0.mk ((by rw [hq]; simp [World.drewN, World.setCell]; exact HW4.out) : w1.heap.size ≤ w6.heap.size); have n4_ := Aside0.mk ((by rw [hq]; refine blk_drewN ?_ _; refine blk_put (cs := #[.int .i64 0]) ?_ 0 _ rfl; exact G5.out) : w6.heap[g5]? = some (.cells #[.int .i64 i] 3 (0, 0))); clear HB G1 BD HW4 G5; have HB := n0_; have G1 := n1_; have BD := n2_; have HW4 := n3_; have G5 := n4_; clear n0_ n1_ n2_ n3_ n4_; clear hq z1 z5 f5; have z1 : w6.cell? ⟨g1, 0, none⟩ = some (.string a0) := (blk_cell G1.out 0).trans rfl; have z5 : w6.cell? ⟨g5, 0, none⟩ = some (.int .i64 i) := (blk_cell G5.out 0).trans rfl) | (go_at_call 32; refine (Bl2.write BD.out (Tabs.txt n) HS.out HW4.out).mono ?_; rintro e w8 ⟨rfl, hbd, hb, hoth⟩; have n0_ := Aside0.mk (HB.out.trans (hb.mono HW.out)); have n1_ := Aside0.mk (hoth g1 9 _ (by decide) (by decide) G1.out); have n2_ := Aside0.mk hbd; have n3_ := Aside0.mk (Nat.le_trans HW4.out hb.size); clear HB G1 BD HW4; have HB := n0_; have G1 := n1_; have BD := n2_; have HW4 := n3_; clear n0_ n1_ n2_ n3_; clear z1 z5 hb hbd hoth) | ((with_reducible refine gate_e ?_); refine (Tabs.index_esc (fun j => Tabs.key j == bt a0 i) g1 g5 _ (Tabs.tab_below HT0.out (by repeat (first | (with_reducible first | exact HB.out | apply bA | apply bN | apply bD) | exact HB.out))) (fun j W' hj hb => Tabs.clo_esc (Tabs.key j) (Tabs.txt j) a0 i g1 g5 W' (blk_below (by (with_reducible repeat (first | refine kN ?_ _ | refine kD ?_ | refine kA ?_ _)); exact G1.out) hb) (blk_below (by (with_reducible repeat (first | refine kN ?_ _ | refine kD ?_ | refine kA ?_ _)); exact G5.out) hb) HI0.out HI1.out)).mono ?_; rintro e w7 ⟨rfl, hb⟩; rw [show Tabs.ix (fun j => Tabs.key j == bt a0 i) 4 0 = (n : Int) from HAT.out]; have n0_ := Aside0.mk (below_step (by repeat (first | (with_reducible first | exact HB.out | apply bA | apply bN | apply bD) | exact HB.out)) hb); have n1_ := Aside0.mk (blk_below (by (with_reducible repeat (first | refine kN ?_ _ | refine kD ?_ | refine kA ?_ _)); exact G1.out) hb); have n2_ := Aside0.mk (blk_below (by (with_reducible repeat (first | refine kN ?_ _ | refine kD ?_ | refine kA ?_ _)); exact G5.out) hb); have n3_ := Aside0.mk (Bl2.bld_below (by (with_reducible repeat (first | refine Bl2.bld_drewN ?_ _ | refine Bl2.bld_alloc ?_ _)); exact BD.out) hb); have n4_ := Aside0.mk (Nat.le_trans HW4.out hb.size); clear HB G1 G5 BD HW4; have HB := n0_; have G1 := n1_; have G5 := n2_; have BD := n3_; have HW4 := n4_; clear n0_ n1_ n2_ n3_ n4_; clear z1 z5 hb; have z1 : w7.cell? ⟨g1, 0, none⟩ = some (.string a0) := (blk_cell G1.out 0).trans rfl; have z5 : w7.cell? ⟨g5, 0, none⟩ = some (.int .i64 i) := (blk_cell G5.out 0).trans rfl; have ht := Tabs.tab_below HT0.out (by repeat (first | (with_reducible first | exact HB.out | apply bA | apply bN | apply bD) | exact HB.out)); have y1 := (ht n HN.out).2; clear ht))
        go_roundg k1
        case measure => have := HK1.out; omega
        case rel => exact ⟨o ++ Tabs.txt n, _, by first | rfl | (simp; done), ⟨by (with_reducible repeat (first | refine Bl2.bld_drewN ?_ _ | refine Bl2.bld_alloc ?_ _)); exact BD.out⟩, HH, ⟨by have := HK1.out; omega⟩, G1, HW4, HB⟩

       ·rw [if_neg c3] at H
        exact absurd H (by simp)
     | false =>
      rw [if_neg (by simp)] at H
      simp only [Option.some.injEq, Prod.mk.injEq] at H
      obtain ⟨rfl, rfl⟩ := H
      go_wp2_with (first | ((with_reducible refine gate_dst (N := 5) rfl ?_); refine box_event ?hg (N := 5) ?hd (cs := #[.int .i64 0]) (t := 3) ?hr ?_; (case hd => rfl); (case hg => rfl); (case hr => first | (go_simp; done) | (go_simp; rfl)); intro g5 hg w5 hbox hb; have n0_ := Aside0.mk (below_step (by repeat (first | (with_reducible first | exact HB.out | apply bA | apply bN | apply bD) | exact HB.out)) hb); have n1_ := Aside0.mk (blk_below (by (with_reducible repeat (first | refine kN ?_ _ | refine kD ?_ | refine kA ?_ _)); exact G1.out) hb); have n2_ := Aside0.mk (Bl2.bld_below (by (with_reducible repeat (first | refine Bl2.bld_drewN ?_ _ | refine Bl2.bld_alloc ?_ _)); exact BD.out) hb); have n3_ := Aside0.mk (Nat.le_trans HW4.out hb.size); have n4_ := Aside0.mk hbox; have n5_ := Aside0.mk ((by rw [hg]; exact (below_size (by repeat (first | (with_reducible first | exact HB.out | apply bA | apply bN | apply bD) | exact HB.out)))) : w.heap.size ≤ g5); clear HB G1 BD HW4; have HB := n0_; have G1 := n1_; have BD := n2_; have HW4 := n3_; have G5 := n4_; have GE5 := n5_; clear n0_ n1_ n2_ n3_ n4_ n5_; clear hb hbox hg; have hne := blk_ne G1.out G5.out (by decide); have hne' := Ne.symm hne; have HNE := Aside0.mk hne; have z1 : w5.cell? ⟨g1, 0, none⟩ = some (.string a0) := (blk_cell G1.out 0).trans rfl; have z5 : w5.cell? ⟨g5, 0, none⟩ = some (.int .i64 0) := (blk_cell G5.out 0).trans rfl; have f5 := blk_frozen G5.out 0) | (go_at_call 28; refine (mark_plain.calls (bt a0 i) false _ A6.out).mono ?_; rintro e w6 ⟨rfl, ⟨nd, hq⟩⟩; have n0_ := Aside0.mk ((by rw [hq]; exact (by repeat (first | (with_reducible first | exact HB.out | apply bA | apply bN | apply bD | refine below_set ?_ GE5.out) | exact HB.out))) : Below w.heap.size w w6); have n1_ := Aside0.mk ((by rw [hq]; exact (by (with_reducible repeat (first | refine blk_drewN ?_ _ | refine blk_drew ?_ | refine blk_alloc ?_ _ | refine blk_far ?_ HNE.out _)); exact G1.out)) : w6.heap[g1]? = some (.cells #[.string a0] 9 (0, 0))); have n2_ := Aside0.mk ((by rw [hq]; refine Bl2.bld_drewN ?_ _; exact Bl2.bld_far BD.out G5.out 0 _ (by decide) (by decide)) : Bl2.Bd w6 w1.heap.size g4 o); have n3_ := Aside0.mk ((by rw [hq]; simp [World.drewN, World.setCell]; exact HW4.out) : w1.heap.size ≤ w6.heap.size); have n4_ := Aside0.mk ((by rw [hq]; refine blk_drewN ?_ _; refine blk_put (cs := #[.int .i64 0]) ?_ 0 _ rfl; exact G5.out) : w6.heap[g5]? = some (.cells #[.int .i64 i] 3 (0, 0))); clear HB G1 BD HW4 G5; have HB := n0_; have G1 := n1_; have BD := n2_; have HW4 := n3_; have G5 := n4_; clear n0_ n1_ n2_ n3_ n4_; clear hq z1 z5 f5; have z1 : w6.cell? ⟨g1, 0, none⟩ = some (.string a0) := (blk_cell G1.out 0).trans rfl; have z5 : w6.cell? ⟨g5, 0, none⟩ = some (.int .i64 i) := (blk_cell G5.out 0).trans rfl))
      go_ret2
      exact ⟨by first | rfl | (simp; done) | (simp [*]; done), (by repeat (first | (with_reducible first | exact HB.out | apply bA | apply bN | apply bD) | exact HB.out))⟩
    ·rw [if_neg p1] at H
     exact absurd H (by simp)
   ·rw [if_neg c1] at H
    have c1b := decide_eq_false c1
    simp only [Option.some.injEq, Prod.mk.injEq] at H
    obtain ⟨rfl, rfl⟩ := H
    go_wp2_with (first | (go_at_call 33; refine (Bl2.bld_string BD.out HW4.out).mono ?_; rintro e w7 ⟨rfl, hb⟩; have n0_ := Aside0.mk (HB.out.trans (hb.mono HW.out)); clear HB; have HB := n0_; clear n0_ hb))
    go_ret2
    exact ⟨by first | rfl | (simp; done) | (simp [*]; done), (by repeat (first | (with_reducible first | exact HB.out | apply bA | apply bN | apply bD) | exact HB.out))⟩

def treenailref01_Escape.l0 : Nat → ByteArray → ByteArray → Int → Option (ByteArray × Int)
 | 0, _, _, _ => none
 | k + 1, x0, x4, x5 => if x5 < (x0.size : Int) then (if 0 ≤ x5 then ((treenailref01_Plain.f (bt x0 x5)).bind fun t306 => (if t306 = true then ((treenailref01_sign.f (bt x0 x5)).bind fun t307 => (if t307.toList = ([] : List UInt8) then (if x5 ≤ (wrap64 (x5 + 1)) then (if (wrap64 (x5 + 1)) ≤ (x0.size : Int) then (if x4.size + (x0.extract (x5 : Int).toNat ((wrap64 (x5 + 1)) : Int).toNat).size ≤ 9223372036854775807 then (treenailref01_Escape.l0 k x0 (x4 ++ (x0.extract (x5 : Int).toNat ((wrap64 (x5 + 1)) : Int).toNat)) (wrap64 (x5 + 1))) else (none)) else (none)) else (none)) else (if x4.size + t307.size ≤ 9223372036854775807 then (treenailref01_Escape.l0 k x0 (x4 ++ t307) (wrap64 (x5 + 1))) else (none)))) else (some ((⟨#[]⟩ : ByteArray), 4)))) else (none)) else (some (x4, 0))
def treenailref01_Escape.f (k : Nat) (a0 : ByteArray) : Option (ByteArray × Int) := treenailref01_Escape.l0 k a0 (⟨#[]⟩ : ByteArray) 0
set_option maxRecDepth 100000 in
theorem treenailref01_Escape.mono_l : ∀ k, (∀ y0 y1 y2, LeO (treenailref01_Escape.l0 k y0 y1 y2) (treenailref01_Escape.l0 (k + 1) y0 y1 y2))
 | 0 => fun _ _ _ r h => by first | (cases h; done) | simp [treenailref01_Escape.l0] at h
 | k + 1 => by
  have ih0 := treenailref01_Escape.mono_l k
  ·intro y0 y1 y2
   unfold treenailref01_Escape.l0
   repeat' first
   | (with_reducible exact ih0 _ _ _)
   | (with_reducible exact LeO.refl _)
   | (with_reducible exact LeO.none _)
   | (with_reducible refine LeO.ite ?_ ?_)
   | (with_reducible refine LeO.bind ?_ (fun _ => ?_))
   | exact ih0 _ _ _
   | exact LeO.none _
   | refine LeO.ite ?_ ?_
   | refine LeO.bind ?_ (fun _ => ?_)
set_option maxRecDepth 100000 in
theorem treenailref01_Escape.mono : ∀ a0 k, LeO (treenailref01_Escape.f k a0) (treenailref01_Escape.f (k + 1) a0) := by
 intro a0 k
 have ih0 := treenailref01_Escape.mono_l k
 unfold treenailref01_Escape.f
 repeat' first
   | (with_reducible exact ih0 _ _ _)
   | (with_reducible exact LeO.refl _)
   | (with_reducible exact LeO.none _)
   | (with_reducible refine LeO.ite ?_ ?_)
   | (with_reducible refine LeO.bind ?_ (fun _ => ?_))
   | exact ih0 _ _ _
   | exact LeO.none _
   | refine LeO.ite ?_ ?_
   | refine LeO.bind ?_ (fun _ => ?_)
set_option maxHeartbeats 8000000 in
set_option maxRecDepth 100000 in
theorem treenailref01_Escape.calls (k : Nat) (a0 : ByteArray) (r1 : ByteArray) (r2 : Int) (w : World) (h : treenailref01_Escape.f k a0 = some (r1, r2)) :
  Calls Tryd.prog 16 #[.string a0] w fun e w' => e = .returned (.tuple #[.string r1, .int .i64 r2]) ∧ Drawn0 w w' := by
 have H : (treenailref01_Escape.l0 k a0 (⟨#[]⟩ : ByteArray) 0) = some (r1, r2) := h
 clear h
 have H' := Aside0.mk H
 clear H
 go_enter Tryd.func16, Tryd.ntmps16
 go_wp2
 go_loopg [4, 5] k (fun kq v4 v5 w' => ∃ (x4_1 : ByteArray) (x5_1 : Int), v4 = .string x4_1 ∧ v5 = .int .i64 x5_1 ∧ Aside0 (treenailref01_Escape.l0 kq a0 x4_1 x5_1 = some (r1, r2)) ∧ Aside0 (kq ≤ k) ∧ Drawn0 w w')
 case atStart => exact ⟨((⟨#[]⟩ : ByteArray)), (0), (by first | rfl | (simp; done) | (simp [*]; done)), (by first | rfl | (simp; done) | (simp [*]; done)), H', ⟨Nat.le_refl _⟩, by repeat (first | exact Drawn0.refl _ | apply Drawn0.step)⟩
 case round =>
  clear H'
  try clear c1
  obtain ⟨x4_1, x5_1, rfl, rfl, HA, HK1, ⟨m1, rfl⟩⟩ := hrel
  cases gk with
  | zero => exact absurd HA.out (by first | (intro h_; cases h_; done) | simp [treenailref01_Escape.l0])
  | succ k1 =>
   have H := HA.out
   clear HA
   simp only [treenailref01_Escape.l0] at H
   by_cases c2 : x5_1 < (a0.size : Int)
   ·rw [if_pos c2] at H
    have c2b0 : decide (x5_1 < (a0.size : Int)) = true := decide_eq_true c2
    clear c2
    by_cases c3 : 0 ≤ x5_1
    ·rw [if_pos c3] at H
     have c3b0 : decide (0 ≤ x5_1) = true := decide_eq_true c3
     clear c3
     replace H := Option.bind_eq_some_iff.mp H
     obtain ⟨t306, A50, H⟩ := H
     replace H : (if t306 = true then ((treenailref01_sign.f (bt a0 x5_1)).bind fun t307 => (if t307.toList = ([] : List UInt8) then (if x5_1 ≤ (wrap64 (x5_1 + 1)) then (if (wrap64 (x5_1 + 1)) ≤ (a0.size : Int) then (if x4_1.size + (a0.extract (x5_1 : Int).toNat ((wrap64 (x5_1 + 1)) : Int).toNat).size ≤ 9223372036854775807 then (treenailref01_Escape.l0 k1 a0 (x4_1 ++ (a0.extract (x5_1 : Int).toNat ((wrap64 (x5_1 + 1)) : Int).toNat)) (wrap64 (x5_1 + 1))) else (none)) else (none)) else (none)) else (if x4_1.size + t307.size ≤ 9223372036854775807 then (treenailref01_Escape.l0 k1 a0 (x4_1 ++ t307) (wrap64 (x5_1 + 1))) else (none)))) else (some ((⟨#[]⟩ : ByteArray), 4))) = some (r1, r2) := H
     have A5 := Aside0.mk A50
     clear A50
     by_cases c6 : t306 = true
     ·subst c6
      have H1 : ((treenailref01_sign.f (bt a0 x5_1)).bind fun t307 => (if t307.toList = ([] : List UInt8) then (if x5_1 ≤ (wrap64 (x5_1 + 1)) then (if (wrap64 (x5_1 + 1)) ≤ (a0.size : Int) then (if x4_1.size + (a0.extract (x5_1 : Int).toNat ((wrap64 (x5_1 + 1)) : Int).toNat).size ≤ 9223372036854775807 then (treenailref01_Escape.l0 k1 a0 (x4_1 ++ (a0.extract (x5_1 : Int).toNat ((wrap64 (x5_1 + 1)) : Int).toNat)) (wrap64 (x5_1 + 1))) else (none)) else (none)) else (none)) else (if x4_1.size + t307.size ≤ 9223372036854775807 then (treenailref01_Escape.l0 k1 a0 (x4_1 ++ t307) (wrap64 (x5_1 + 1))) else (none)))) = some (r1, r2) := by rw [if_pos rfl] at H; exact H
      clear H
      have H := H1
      clear H1
      replace H := Option.bind_eq_some_iff.mp H
      obtain ⟨t307, A80, H⟩ := H
      replace H : (if t307.toList = ([] : List UInt8) then (if x5_1 ≤ (wrap64 (x5_1 + 1)) then (if (wrap64 (x5_1 + 1)) ≤ (a0.size : Int) then (if x4_1.size + (a0.extract (x5_1 : Int).toNat ((wrap64 (x5_1 + 1)) : Int).toNat).size ≤ 9223372036854775807 then (treenailref01_Escape.l0 k1 a0 (x4_1 ++ (a0.extract (x5_1 : Int).toNat ((wrap64 (x5_1 + 1)) : Int).toNat)) (wrap64 (x5_1 + 1))) else (none)) else (none)) else (none)) else (if x4_1.size + t307.size ≤ 9223372036854775807 then (treenailref01_Escape.l0 k1 a0 (x4_1 ++ t307) (wrap64 (x5_1 + 1))) else (none))) = some (r1, r2) := H
      have A8 := Aside0.mk A80
      clear A80
      by_cases c9 : t307.toList = ([] : List UInt8)
      ·rw [if_pos c9] at H
       have c9b0 : (t307.toList == ([] : List UInt8)) = true := beq_iff_eq.mpr c9
       have c9b1 : (t307.toList != ([] : List UInt8)) = false := bne_eq_false_iff_eq.mpr c9
       clear c9
       have c10b0 := eq_true (of_decide_eq_true (by first | (with_reducible assumption) | assumption) : 0 ≤ x5_1)
       by_cases c11 : x5_1 ≤ (wrap64 (x5_1 + 1))
       ·rw [if_pos c11] at H
        have c11b0 := eq_true c11
        have c11b1 : decide (x5_1 ≤ (wrap64 (x5_1 + 1))) = true := decide_eq_true c11
        by_cases c12 : (wrap64 (x5_1 + 1)) ≤ (a0.size : Int)
        ·rw [if_pos c12] at H
         have c12b0 := eq_true c12
         have c12b1 : decide ((wrap64 (x5_1 + 1)) ≤ (a0.size : Int)) = true := decide_eq_true c12
         by_cases c13 : x4_1.size + (a0.extract (x5_1 : Int).toNat ((wrap64 (x5_1 + 1)) : Int).toNat).size ≤ 9223372036854775807
         ·rw [if_pos c13] at H
          have c13b0 := eq_true c13
          have c13b1 : decide (x4_1.size + (a0.extract (x5_1 : Int).toNat ((wrap64 (x5_1 + 1)) : Int).toNat).size ≤ 9223372036854775807) = true := decide_eq_true c13
          try have c13b2 : (9223372036854775807 < x4_1.size + (a0.extract (x5_1 : Int).toNat ((wrap64 (x5_1 + 1)) : Int).toNat).size) = False := eq_false (Nat.not_lt.2 c13)
          try (have c13b4 := c13b2; simp (disch := (first | omega | (simp only [eq_iff_iff, iff_true] at *; omega))) only [ByteArray.size_append, ByteArray.size_extract, Nat.min_self, Nat.sub_zero, Nat.zero_add, Nat.min_eq_left] at c13b4)
          clear c13
          have H' := Aside0.mk H
          clear H
          have p4 : 0 ≤ (x5_1 : Int) := of_decide_eq_true (by first | (with_reducible assumption) | assumption)
          have q4 : x5_1 < (a0.size : Int) := of_decide_eq_true (by first | (with_reducible assumption) | assumption)
          have hx4 := bt_at a0 x5_1
          replace p4 := eq_true p4
          replace q4 := eq_true q4
          go_wp2_with (first | ((with_reducible refine gate_callee (f := 34) rfl ?_); refine goesL_ (some 16) rfl rfl Tryd.func34 (by kernel_rfl) rfl #[.int .u8 (bt a0 x5_1)] rfl (by (try simp only [List.map_toArray, List.map_cons, List.map_nil]); first | done | rfl | (simp only [List.length_drop, List.length_take]; rfl)) ?_; (with_reducible refine (treenailref01_Plain.calls (bt a0 x5_1) true _ A5.out).mono ?_); rintro e w' ⟨rfl, ⟨nd, rfl⟩⟩; refine ⟨_, rfl, ?_⟩; have p7 : 0 ≤ (x5_1 : Int) := of_decide_eq_true (by first | (with_reducible assumption) | assumption); have q7 : x5_1 < (a0.size : Int) := of_decide_eq_true (by first | (with_reducible assumption) | assumption); have hx7 := bt_at a0 x5_1; replace p7 := eq_true p7; replace q7 := eq_true q7) | ((with_reducible refine gate_callee (f := 35) rfl ?_); refine goesL_ (some 21) rfl rfl Tryd.func35 (by kernel_rfl) rfl #[.int .u8 (bt a0 x5_1)] rfl (by (try simp only [List.map_toArray, List.map_cons, List.map_nil]); first | done | rfl | (simp only [List.length_drop, List.length_take]; rfl)) ?_; (with_reducible refine (treenailref01_sign.calls (bt a0 x5_1) t307 _ A8.out).mono ?_); rintro e w' ⟨rfl, ⟨nd, rfl⟩⟩; refine ⟨_, rfl, ?_⟩))
          go_roundg k1
          case measure => have := HK1.out; omega
          case rel => exact ⟨(x4_1 ++ (a0.extract (x5_1 : Int).toNat ((wrap64 (x5_1 + 1)) : Int).toNat)), (wrap64 (x5_1 + 1)), (by first | rfl | (simp; done) | (simp [*]; done)), (by first | rfl | (simp; done) | (simp [*]; done)), H', ⟨by have := HK1.out; omega⟩, by repeat (first | exact Drawn0.refl _ | apply Drawn0.step)⟩
         ·rw [if_neg c13] at H
          exact absurd H (by simp)
        ·rw [if_neg c12] at H
         exact absurd H (by simp)
       ·rw [if_neg c11] at H
        exact absurd H (by simp)
      ·rw [if_neg c9] at H
       have c9b0 : (t307.toList == ([] : List UInt8)) = false := beq_eq_false_iff_ne.mpr c9
       have c9b1 : (t307.toList != ([] : List UInt8)) = true := bne_iff_ne.mpr c9
       by_cases c14 : x4_1.size + t307.size ≤ 9223372036854775807
       ·rw [if_pos c14] at H
        have c14b0 := eq_true c14
        have c14b1 : decide (x4_1.size + t307.size ≤ 9223372036854775807) = true := decide_eq_true c14
        try have c14b2 : (9223372036854775807 < x4_1.size + t307.size) = False := eq_false (Nat.not_lt.2 c14)
        clear c14
        have H' := Aside0.mk H
        clear H
        have p4 : 0 ≤ (x5_1 : Int) := of_decide_eq_true (by first | (with_reducible assumption) | assumption)
        have q4 : x5_1 < (a0.size : Int) := of_decide_eq_true (by first | (with_reducible assumption) | assumption)
        have hx4 := bt_at a0 x5_1
        replace p4 := eq_true p4
        replace q4 := eq_true q4
        go_wp2_with (first | ((with_reducible refine gate_callee (f := 34) rfl ?_); refine goesL_ (some 16) rfl rfl Tryd.func34 (by kernel_rfl) rfl #[.int .u8 (bt a0 x5_1)] rfl (by (try simp only [List.map_toArray, List.map_cons, List.map_nil]); first | done | rfl | (simp only [List.length_drop, List.length_take]; rfl)) ?_; (with_reducible refine (treenailref01_Plain.calls (bt a0 x5_1) true _ A5.out).mono ?_); rintro e w' ⟨rfl, ⟨nd, rfl⟩⟩; refine ⟨_, rfl, ?_⟩; have p7 : 0 ≤ (x5_1 : Int) := of_decide_eq_true (by first | (with_reducible assumption) | assumption); have q7 : x5_1 < (a0.size : Int) := of_decide_eq_true (by first | (with_reducible assumption) | assumption); have hx7 := bt_at a0 x5_1; replace p7 := eq_true p7; replace q7 := eq_true q7) | ((with_reducible refine gate_callee (f := 35) rfl ?_); refine goesL_ (some 21) rfl rfl Tryd.func35 (by kernel_rfl) rfl #[.int .u8 (bt a0 x5_1)] rfl (by (try simp only [List.map_toArray, List.map_cons, List.map_nil]); first | done | rfl | (simp only [List.length_drop, List.length_take]; rfl)) ?_; (with_reducible refine (treenailref01_sign.calls (bt a0 x5_1) t307 _ A8.out).mono ?_); rintro e w' ⟨rfl, ⟨nd, rfl⟩⟩; refine ⟨_, rfl, ?_⟩))
        go_roundg k1
        case measure => have := HK1.out; omega
        case rel => exact ⟨(x4_1 ++ t307), (wrap64 (x5_1 + 1)), (by first | rfl | (simp; done) | (simp [*]; done)), (by first | rfl | (simp; done) | (simp [*]; done)), H', ⟨by have := HK1.out; omega⟩, by repeat (first | exact Drawn0.refl _ | apply Drawn0.step)⟩
       ·rw [if_neg c14] at H
        exact absurd H (by simp)
     ·replace c6 := Bool.eq_false_iff.mpr c6
      subst c6
      have H1 : (some ((⟨#[]⟩ : ByteArray), 4)) = some (r1, r2) := by rw [if_neg (show ¬ (false = true) by decide)] at H; exact H
      clear H
      have H := H1
      clear H1
      simp only [Option.some.injEq, Prod.mk.injEq] at H
      obtain ⟨rfl, rfl⟩ := H
      have p4 : 0 ≤ (x5_1 : Int) := of_decide_eq_true (by first | (with_reducible assumption) | assumption)
      have q4 : x5_1 < (a0.size : Int) := of_decide_eq_true (by first | (with_reducible assumption) | assumption)
      have hx4 := bt_at a0 x5_1
      replace p4 := eq_true p4
      replace q4 := eq_true q4
      go_wp2_with (first | ((with_reducible refine gate_callee (f := 34) rfl ?_); refine goesL_ (some 16) rfl rfl Tryd.func34 (by kernel_rfl) rfl #[.int .u8 (bt a0 x5_1)] rfl (by (try simp only [List.map_toArray, List.map_cons, List.map_nil]); first | done | rfl | (simp only [List.length_drop, List.length_take]; rfl)) ?_; (with_reducible refine (treenailref01_Plain.calls (bt a0 x5_1) false _ A5.out).mono ?_); rintro e w' ⟨rfl, ⟨nd, rfl⟩⟩; refine ⟨_, rfl, ?_⟩))
      go_ret2
      exact ⟨by first | rfl | (simp; done) | (simp [*]; done), by repeat (first | exact Drawn0.refl _ | apply Drawn0.step)⟩
    ·rw [if_neg c3] at H
     exact absurd H (by simp)
   ·rw [if_neg c2] at H
    have c2b0 : decide (x5_1 < (a0.size : Int)) = false := decide_eq_false c2
    clear c2
    simp only [Option.some.injEq, Prod.mk.injEq] at H
    obtain ⟨rfl, rfl⟩ := H
    go_wp2
    go_ret2
    exact ⟨by first | rfl | (simp; done) | (simp [*]; done), by repeat (first | exact Drawn0.refl _ | apply Drawn0.step)⟩

def treenaillaw01_MarkEscapes.f (k : Nat) (a0 : ByteArray) : Option (Bool) := if (a0.size : Int) > 3000 then ((treenaillaw01_opens.f k).bind fun t308 => (some t308)) else ((mark_Escape.f k a0).bind fun bt309 => ((treenailref01_Escape.f k a0).bind fun bt311 => (if bt309.1.toList = bt311.1.toList then (if bt309.2 = bt311.2 then ((treenaillaw01_opens.f k).bind fun t313 => (some t313)) else (some false)) else (some false))))
set_option maxRecDepth 100000 in
theorem treenaillaw01_MarkEscapes.mono : ∀ a0 k, LeO (treenaillaw01_MarkEscapes.f k a0) (treenaillaw01_MarkEscapes.f (k + 1) a0) := by
 intro a0 k
 unfold treenaillaw01_MarkEscapes.f
 repeat' first
   | (with_reducible exact mark_Escape.mono _ _)
   | (with_reducible exact treenaillaw01_opens.mono _)
   | (with_reducible exact treenailref01_Escape.mono _ _)
   | (with_reducible exact LeO.refl _)
   | (with_reducible exact LeO.none _)
   | (with_reducible refine LeO.ite ?_ ?_)
   | (with_reducible refine LeO.bind ?_ (fun _ => ?_))
   | exact mark_Escape.mono _ _
   | exact treenaillaw01_opens.mono _
   | exact treenailref01_Escape.mono _ _
   | exact LeO.none _
   | refine LeO.ite ?_ ?_
   | refine LeO.bind ?_ (fun _ => ?_)
set_option maxHeartbeats 8000000 in
set_option maxRecDepth 100000 in
theorem treenaillaw01_MarkEscapes.calls (k : Nat) (a0 : ByteArray) (r : Bool) (w : World) (h : treenaillaw01_MarkEscapes.f k a0 = some r) (hT : Tabs.Tab w) :
  Calls Tryd.prog 5 #[.string a0] w fun e w' => e = .returned (.bool r) ∧ Below w.heap.size w w' := by
 have HB := Aside0.mk (Below.refl w.heap.size w)
 have HT0 := Aside0.mk hT
 clear hT
 have H : (if (a0.size : Int) > 3000 then ((treenaillaw01_opens.f k).bind fun t308 => (some t308)) else ((mark_Escape.f k a0).bind fun bt309 => ((treenailref01_Escape.f k a0).bind fun bt311 => (if bt309.1.toList = bt311.1.toList then (if bt309.2 = bt311.2 then ((treenaillaw01_opens.f k).bind fun t313 => (some t313)) else (some false)) else (some false))))) = some r := h
 clear h
 by_cases c2 : (a0.size : Int) > 3000
 ·rw [if_pos c2] at H
  have c2b0 : decide (3000 < (a0.size : Int)) = true := decide_eq_true c2
  have c2b1 : decide (3000 < a0.size) = true := decide_eq_true (by omega)
  clear c2
  replace H := Option.bind_eq_some_iff.mp H
  obtain ⟨t308, A30, H⟩ := H
  replace H : (some t308) = some r := H
  have A3 := Aside0.mk A30
  clear A30
  obtain rfl := Option.some.inj H
  go_enter Tryd.func5, Tryd.ntmps5
  go_wp2_with (first | ((with_reducible refine gate_callee (f := 9) rfl ?_); refine goesL_ (some 10) rfl rfl Tryd.func9 (by kernel_rfl) rfl #[] rfl (by (try simp only [List.map_toArray, List.map_cons, List.map_nil]); first | done | rfl | (simp only [List.length_drop, List.length_take]; rfl)) ?_; (with_reducible refine (treenaillaw01_opens.calls k  t308 _ A3.out ?hT_).mono ?_); (case hT_ => exact Tabs.tab_below HT0.out (by repeat (first | (with_reducible first | exact HB.out | apply bA | apply bN | apply bD) | exact HB.out))); rintro e w4 ⟨rfl, hb⟩; refine ⟨_, rfl, ?_⟩; have n0_ := Aside0.mk (below_step (by repeat (first | (with_reducible first | exact HB.out | apply bA | apply bN | apply bD) | exact HB.out)) hb); clear HB; have HB := n0_; clear n0_; (try clear hb); (try clear hb2); (try clear hk); (try clear hi)))
  go_ret
  exact ⟨by first | rfl | (simp [errW_none, errW_some] <;> rfl) | (simp [*, errW_none, errW_some] <;> rfl), by repeat (first | (with_reducible first | exact HB.out | apply bA | apply bN | apply bD) | exact HB.out)⟩
 ·rw [if_neg c2] at H
  have c2b0 : decide (3000 < (a0.size : Int)) = false := decide_eq_false c2
  have c2b1 : decide (3000 < a0.size) = false := decide_eq_false (by omega)
  clear c2
  replace H := Option.bind_eq_some_iff.mp H
  obtain ⟨⟨t309, t310⟩, A50, H⟩ := H
  replace H : ((treenailref01_Escape.f k a0).bind fun bt311 => (if t309.toList = bt311.1.toList then (if t310 = bt311.2 then ((treenaillaw01_opens.f k).bind fun t313 => (some t313)) else (some false)) else (some false))) = some r := H
  have A5 := Aside0.mk A50
  clear A50
  replace H := Option.bind_eq_some_iff.mp H
  obtain ⟨⟨t311, t312⟩, A60, H⟩ := H
  replace H : (if t309.toList = t311.toList then (if t310 = t312 then ((treenaillaw01_opens.f k).bind fun t313 => (some t313)) else (some false)) else (some false)) = some r := H
  have A6 := Aside0.mk A60
  clear A60
  by_cases c7 : t309.toList = t311.toList
  ·rw [if_pos c7] at H
   have c7b0 : (t309.toList == t311.toList) = true := beq_iff_eq.mpr c7
   have c7b1 : (t309.toList != t311.toList) = false := bne_eq_false_iff_eq.mpr c7
   clear c7
   by_cases c8 : t310 = t312
   ·rw [if_pos c8] at H
    have c8b0 : (t310 == t312) = true := beq_iff_eq.mpr c8
    have c8b1 : (t310 != t312) = false := bne_eq_false_iff_eq.mpr c8
    clear c8
    replace H := Option.bind_eq_some_iff.mp H
    obtain ⟨t313, A90, H⟩ := H
    replace H : (some t313) = some r := H
    have A9 := Aside0.mk A90
    clear A90
    obtain rfl := Option.some.inj H
    go_enter Tryd.func5, Tryd.ntmps5
    go_wp2_with (first | ((with_reducible refine gate_callee (f := 15) rfl ?_); refine goesL_ (some 13) rfl rfl Tryd.func15 (by kernel_rfl) rfl #[.string a0] rfl (by (try simp only [List.map_toArray, List.map_cons, List.map_nil]); first | done | rfl | (simp only [List.length_drop, List.length_take]; rfl)) ?_; (with_reducible refine (mark_Escape.calls k a0 t309 t310 _ A5.out ?hT_).mono ?_); (case hT_ => exact Tabs.tab_below HT0.out (by repeat (first | (with_reducible first | exact HB.out | apply bA | apply bN | apply bD) | exact HB.out))); rintro e w10 ⟨rfl, hb⟩; refine ⟨_, rfl, ?_⟩; have n0_ := Aside0.mk (below_step (by repeat (first | (with_reducible first | exact HB.out | apply bA | apply bN | apply bD) | exact HB.out)) hb); clear HB; have HB := n0_; clear n0_; (try clear hb); (try clear hb2); (try clear hk); (try clear hi)) | ((with_reducible refine gate_callee (f := 16) rfl ?_); refine goesL_ (some 18) rfl rfl Tryd.func16 (by kernel_rfl) rfl #[.string a0] rfl (by (try simp only [List.map_toArray, List.map_cons, List.map_nil]); first | done | rfl | (simp only [List.length_drop, List.length_take]; rfl)) ?_; (with_reducible refine (treenailref01_Escape.calls k a0 t311 t312 _ A6.out).mono ?_); rintro e w' ⟨rfl, ⟨nd, rfl⟩⟩; refine ⟨_, rfl, ?_⟩) | (go_at_call 9; (with_reducible refine (treenaillaw01_opens.calls k  t313 _ A9.out ?hT_).mono ?_); (case hT_ => exact Tabs.tab_below HT0.out (by repeat (first | (with_reducible first | exact HB.out | apply bA | apply bN | apply bD) | exact HB.out))); rintro e w11 ⟨rfl, hb⟩; have n0_ := Aside0.mk (below_step (by repeat (first | (with_reducible first | exact HB.out | apply bA | apply bN | apply bD) | exact HB.out)) hb); clear HB; have HB := n0_; clear n0_; (try clear hb); (try clear hb2); (try clear hk); (try clear hi)))
    go_ret
    exact ⟨by first | rfl | (simp [errW_none, errW_some] <;> rfl) | (simp [*, errW_none, errW_some] <;> rfl), by repeat (first | (with_reducible first | exact HB.out | apply bA | apply bN | apply bD) | exact HB.out)⟩
   ·rw [if_neg c8] at H
    have c8b0 : (t310 == t312) = false := beq_eq_false_iff_ne.mpr c8
    have c8b1 : (t310 != t312) = true := bne_iff_ne.mpr c8
    obtain rfl := Option.some.inj H
    go_enter Tryd.func5, Tryd.ntmps5
    go_wp2_with (first | ((with_reducible refine gate_callee (f := 15) rfl ?_); refine goesL_ (some 13) rfl rfl Tryd.func15 (by kernel_rfl) rfl #[.string a0] rfl (by (try simp only [List.map_toArray, List.map_cons, List.map_nil]); first | done | rfl | (simp only [List.length_drop, List.length_take]; rfl)) ?_; (with_reducible refine (mark_Escape.calls k a0 t309 t310 _ A5.out ?hT_).mono ?_); (case hT_ => exact Tabs.tab_below HT0.out (by repeat (first | (with_reducible first | exact HB.out | apply bA | apply bN | apply bD) | exact HB.out))); rintro e w12 ⟨rfl, hb⟩; refine ⟨_, rfl, ?_⟩; have n0_ := Aside0.mk (below_step (by repeat (first | (with_reducible first | exact HB.out | apply bA | apply bN | apply bD) | exact HB.out)) hb); clear HB; have HB := n0_; clear n0_; (try clear hb); (try clear hb2); (try clear hk); (try clear hi)) | ((with_reducible refine gate_callee (f := 16) rfl ?_); refine goesL_ (some 18) rfl rfl Tryd.func16 (by kernel_rfl) rfl #[.string a0] rfl (by (try simp only [List.map_toArray, List.map_cons, List.map_nil]); first | done | rfl | (simp only [List.length_drop, List.length_take]; rfl)) ?_; (with_reducible refine (treenailref01_Escape.calls k a0 t311 t312 _ A6.out).mono ?_); rintro e w' ⟨rfl, ⟨nd, rfl⟩⟩; refine ⟨_, rfl, ?_⟩))
    go_ret
    exact ⟨by first | rfl | (simp [errW_none, errW_some] <;> rfl) | (simp [*, errW_none, errW_some] <;> rfl), by repeat (first | (with_reducible first | exact HB.out | apply bA | apply bN | apply bD) | exact HB.out)⟩
  ·rw [if_neg c7] at H
   have c7b0 : (t309.toList == t311.toList) = false := beq_eq_false_iff_ne.mpr c7
   have c7b1 : (t309.toList != t311.toList) = true := bne_iff_ne.mpr c7
   obtain rfl := Option.some.inj H
   go_enter Tryd.func5, Tryd.ntmps5
   go_wp2_with (first | ((with_reducible refine gate_callee (f := 15) rfl ?_); refine goesL_ (some 13) rfl rfl Tryd.func15 (by kernel_rfl) rfl #[.string a0] rfl (by (try simp only [List.map_toArray, List.map_cons, List.map_nil]); first | done | rfl | (simp only [List.length_drop, List.length_take]; rfl)) ?_; (with_reducible refine (mark_Escape.calls k a0 t309 t310 _ A5.out ?hT_).mono ?_); (case hT_ => exact Tabs.tab_below HT0.out (by repeat (first | (with_reducible first | exact HB.out | apply bA | apply bN | apply bD) | exact HB.out))); rintro e w13 ⟨rfl, hb⟩; refine ⟨_, rfl, ?_⟩; have n0_ := Aside0.mk (below_step (by repeat (first | (with_reducible first | exact HB.out | apply bA | apply bN | apply bD) | exact HB.out)) hb); clear HB; have HB := n0_; clear n0_; (try clear hb); (try clear hb2); (try clear hk); (try clear hi)) | ((with_reducible refine gate_callee (f := 16) rfl ?_); refine goesL_ (some 18) rfl rfl Tryd.func16 (by kernel_rfl) rfl #[.string a0] rfl (by (try simp only [List.map_toArray, List.map_cons, List.map_nil]); first | done | rfl | (simp only [List.length_drop, List.length_take]; rfl)) ?_; (with_reducible refine (treenailref01_Escape.calls k a0 t311 t312 _ A6.out).mono ?_); rintro e w' ⟨rfl, ⟨nd, rfl⟩⟩; refine ⟨_, rfl, ?_⟩))
   go_ret
   exact ⟨by first | rfl | (simp [errW_none, errW_some] <;> rfl) | (simp [*, errW_none, errW_some] <;> rfl), by repeat (first | (with_reducible first | exact HB.out | apply bA | apply bN | apply bD) | exact HB.out)⟩

mutual
def treenaillaw01_large.j0 : Nat → Bool → Int → Int → ByteArray → List (S51) → ByteArray → Option (Bool)
 | 0, _, _, _, _, _, _ => none
 | k + 1, x15, x315000, x315001, x315002, x315003, x315004 => if x15 = true then (some true) else (treenaillaw01_large.l0 k 0 x315003 (x315003.length : Int) 0)
def treenaillaw01_large.l0 : Nat → Int → List (S51) → Int → Int → Option (Bool)
 | 0, _, _, _, _ => none
 | k + 1, x3, x17, x18, x19 => if x19 < x18 then (if 0 ≤ x19 then (if x19 < (x17.length : Int) then (if (wrap64 ((wrap64 (x3 + (((rd_T51 x17 x19).f1).size : Int))) + (((rd_T51 x17 x19).f0).size : Int))) > 3000 then (some true) else (treenaillaw01_large.l0 k (wrap64 ((wrap64 (x3 + (((rd_T51 x17 x19).f1).size : Int))) + (((rd_T51 x17 x19).f0).size : Int))) x17 x18 (wrap64 (x19 + 1)))) else (none)) else (none)) else (some false)
end
def treenaillaw01_large.f (k : Nat) (a0_0 : Int) (a0_1 : Int) (a0_2 : ByteArray) (l0_3 : List (S51)) (a0_4 : ByteArray) : Option (Bool) := if (l0_3.length : Int) > 100 then (treenaillaw01_large.j0 k true a0_0 a0_1 a0_2 l0_3 a0_4) else (treenaillaw01_large.j0 k (decide ((a0_4.size : Int) > 2000)) a0_0 a0_1 a0_2 l0_3 a0_4)
set_option maxRecDepth 100000 in
theorem treenaillaw01_large.mono_l : ∀ k, (∀ y0 y1 y2 y3 y4 y5, LeO (treenaillaw01_large.j0 k y0 y1 y2 y3 y4 y5) (treenaillaw01_large.j0 (k + 1) y0 y1 y2 y3 y4 y5)) ∧ (∀ y0 y1 y2 y3, LeO (treenaillaw01_large.l0 k y0 y1 y2 y3) (treenaillaw01_large.l0 (k + 1) y0 y1 y2 y3))
 | 0 => ⟨fun _ _ _ _ _ _ r h => by first | (cases h; done) | simp [treenaillaw01_large.j0] at h, fun _ _ _ _ r h => by first | (cases h; done) | simp [treenaillaw01_large.l0] at h⟩
 | k + 1 => by
  obtain ⟨ih0, ih1⟩ := treenaillaw01_large.mono_l k
  refine ⟨?_, ?_⟩
  ·intro y0 y1 y2 y3 y4 y5
   unfold treenaillaw01_large.j0
   repeat' first
   | (with_reducible exact ih0 _ _ _ _ _ _)
   | (with_reducible exact ih1 _ _ _ _)
   | (with_reducible exact LeO.refl _)
   | (with_reducible exact LeO.none _)
   | (with_reducible refine LeO.ite ?_ ?_)
   | (with_reducible refine LeO.bind ?_ (fun _ => ?_))
   | exact ih0 _ _ _ _ _ _
   | exact ih1 _ _ _ _
   | exact LeO.none _
   | refine LeO.ite ?_ ?_
   | refine LeO.bind ?_ (fun _ => ?_)
  ·intro y0 y1 y2 y3
   unfold treenaillaw01_large.l0
   repeat' first
   | (with_reducible exact ih0 _ _ _ _ _ _)
   | (with_reducible exact ih1 _ _ _ _)
   | (with_reducible exact LeO.refl _)
   | (with_reducible exact LeO.none _)
   | (with_reducible refine LeO.ite ?_ ?_)
   | (with_reducible refine LeO.bind ?_ (fun _ => ?_))
   | exact ih0 _ _ _ _ _ _
   | exact ih1 _ _ _ _
   | exact LeO.none _
   | refine LeO.ite ?_ ?_
   | refine LeO.bind ?_ (fun _ => ?_)
set_option maxRecDepth 100000 in
theorem treenaillaw01_large.mono : ∀ a0 a1 a2 a3 a4 k, LeO (treenaillaw01_large.f k a0 a1 a2 a3 a4) (treenaillaw01_large.f (k + 1) a0 a1 a2 a3 a4) := by
 intro a0 a1 a2 a3 a4 k
 obtain ⟨ih0, ih1⟩ := treenaillaw01_large.mono_l k
 unfold treenaillaw01_large.f
 repeat' first
   | (with_reducible exact ih0 _ _ _ _ _ _)
   | (with_reducible exact ih1 _ _ _ _)
   | (with_reducible exact LeO.refl _)
   | (with_reducible exact LeO.none _)
   | (with_reducible refine LeO.ite ?_ ?_)
   | (with_reducible refine LeO.bind ?_ (fun _ => ?_))
   | exact ih0 _ _ _ _ _ _
   | exact ih1 _ _ _ _
   | exact LeO.none _
   | refine LeO.ite ?_ ?_
   | refine LeO.bind ?_ (fun _ => ?_)
set_option maxHeartbeats 8000000 in
set_option maxRecDepth 100000 in
theorem treenaillaw01_large.calls (k : Nat) (a0_0 : Int) (a0_1 : Int) (a0_2 : ByteArray) (A0_3 : Option Addr) (c0_3 : Nat) (l0_3 : List (S51)) (a0_4 : ByteArray) (r : Bool) (w : World) (hr0_3 : Kd.C k51 w A0_3 l0_3.length l0_3) (hc0_3 : l0_3.length ≤ c0_3) (h : treenaillaw01_large.f k a0_0 a0_1 a0_2 l0_3 a0_4 = some r) :
  Calls Tryd.prog 17 #[.agg #[.int .i64 a0_0, .int .i64 a0_1, .string a0_2, .slice A0_3 l0_3.length c0_3, .string a0_4]] w fun e w' => e = .returned (.bool r) ∧ Below w.heap.size w w' := by
 have hu38 := Tryd.underlying38
 have hu51 := Tryd.underlying51
 have HR0_3 := Aside0.mk hr0_3
 have HC0_3 := Aside0.mk hc0_3
 clear hr0_3 hc0_3
 have HB := Aside0.mk (Below.refl w.heap.size w)
 have H : (if (l0_3.length : Int) > 100 then (treenaillaw01_large.j0 k true a0_0 a0_1 a0_2 l0_3 a0_4) else (treenaillaw01_large.j0 k (decide ((a0_4.size : Int) > 2000)) a0_0 a0_1 a0_2 l0_3 a0_4)) = some r := h
 clear h
 have HC2 := Aside0.mk H
 clear H
 go_enter Tryd.func17, Tryd.ntmps17
 go_upto_region 1 with (first | ((with_reducible refine gate_dst (N := 1) rfl ?_); (try (refine gate_guard (by rfl) ?_; dsimp only)); refine box_event ?hg (N := 1) ?hd (cs := #[.int .i64 a0_0, .int .i64 a0_1, .string a0_2, .slice A0_3 l0_3.length c0_3, .string a0_4]) (t := 38) ?hr ?_; (case hd => rfl); (case hg => rfl); (case hr => first | (go_simp; done) | (go_simp; rfl)); intro gb314 hg w3 hbox hb; have n0_ := Aside0.mk (below_step (by repeat (first | (with_reducible first | exact HB.out | apply bA | apply bN | apply bD) | exact HB.out)) hb); have n1_ := Aside0.mk (hbox); have n2_ := Aside0.mk ((by rw [hg]; exact (below_size (by repeat (first | (with_reducible first | exact HB.out | apply bA | apply bN | apply bD) | exact HB.out))) : w.heap.size ≤ gb314)); have n3_ := Aside0.mk ((by rw [hg]; exact (below_size (by repeat (first | (with_reducible first | exact HB.out | apply bA | apply bN | apply bD) | exact HB.out))) : w.heap.size ≤ gb314)); clear HB; have HB := n0_; have BK314 := n1_; have GW314 := n2_; have GE314 := n3_; clear n0_ n1_ n2_ n3_; clear hb hbox hg))
 (try simp only [Act.put, List.setIfInBounds_toArray, List.set_cons_zero, List.set_cons_succ])
 go_cut [15] (fun v15 wc => ∃ (kq : Nat) (x15_1 : Bool), v15 = .bool x15_1 ∧ Aside0 (treenaillaw01_large.j0 kq x15_1 a0_0 a0_1 a0_2 l0_3 a0_4 = some r) ∧ Aside0 (kq ≤ k) ∧ Aside0 (wc.heap[gb314]? = some (.cells #[.int .i64 a0_0, .int .i64 a0_1, .string a0_2, (.slice A0_3 l0_3.length c0_3), .string a0_4] 38 (0, 0))) ∧ Aside0 (Below w.heap.size w wc))
 case first =>
  have H := HC2.out
  clear HC2
  by_cases c4 : (l0_3.length : Int) > 100
  ·rw [if_pos c4] at H
   have c4b0 : decide (100 < (l0_3.length : Int)) = true := decide_eq_true c4
   have c4b1 : decide (100 < l0_3.length) = true := decide_eq_true (by omega)
   clear c4
   (first | rw [c4b0] | (simp only [i64_w, i32_w]; rw [c4b0]) | skip)
   have H' := Aside0.mk H
   clear H
   have hcz5_0 : w3.cell? ⟨gb314, 0, none⟩ = some (.int .i64 a0_0) := (blk_cell BK314.out 0).trans rfl
   have hcz5_1 : w3.cell? ⟨gb314, 1, none⟩ = some (.int .i64 a0_1) := (blk_cell BK314.out 1).trans rfl
   have hcz5_2 : w3.cell? ⟨gb314, 2, none⟩ = some (.string a0_2) := (blk_cell BK314.out 2).trans rfl
   have hcz5_3 : w3.cell? ⟨gb314, 3, none⟩ = some (.slice A0_3 l0_3.length c0_3) := (blk_cell BK314.out 3).trans rfl
   have hcz5_4 : w3.cell? ⟨gb314, 4, none⟩ = some (.string a0_4) := (blk_cell BK314.out 4).trans rfl
   have hfz5_0 := blk_frozen BK314.out 0
   have hfz5_1 := blk_frozen BK314.out 1
   have hfz5_2 := blk_frozen BK314.out 2
   have hfz5_3 := blk_frozen BK314.out 3
   have hfz5_4 := blk_frozen BK314.out 4
   go_wp2
   go_meet
   case rel => exact ⟨_, (true), (by first | rfl | (simp; done) | (simp [*]; done)), H', ⟨by first | omega | exact Nat.le_refl _⟩, ⟨by (with_reducible repeat (first | refine kN ?_ _ | refine kD ?_ | refine kA ?_ _)); exact BK314.out⟩, ⟨by repeat (first | (with_reducible first | exact HB.out | apply bA | apply bN | apply bD | refine below_set ?_ GE314.out) | exact HB.out)⟩⟩
  ·rw [if_neg c4] at H
   have c4b0 : decide (100 < (l0_3.length : Int)) = false := decide_eq_false c4
   have c4b1 : decide (100 < l0_3.length) = false := decide_eq_false (by omega)
   clear c4
   (first | rw [c4b0] | (simp only [i64_w, i32_w]; rw [c4b0]) | skip)
   have H' := Aside0.mk H
   clear H
   have hcz6_0 : w3.cell? ⟨gb314, 0, none⟩ = some (.int .i64 a0_0) := (blk_cell BK314.out 0).trans rfl
   have hcz6_1 : w3.cell? ⟨gb314, 1, none⟩ = some (.int .i64 a0_1) := (blk_cell BK314.out 1).trans rfl
   have hcz6_2 : w3.cell? ⟨gb314, 2, none⟩ = some (.string a0_2) := (blk_cell BK314.out 2).trans rfl
   have hcz6_3 : w3.cell? ⟨gb314, 3, none⟩ = some (.slice A0_3 l0_3.length c0_3) := (blk_cell BK314.out 3).trans rfl
   have hcz6_4 : w3.cell? ⟨gb314, 4, none⟩ = some (.string a0_4) := (blk_cell BK314.out 4).trans rfl
   have hfz6_0 := blk_frozen BK314.out 0
   have hfz6_1 := blk_frozen BK314.out 1
   have hfz6_2 := blk_frozen BK314.out 2
   have hfz6_3 := blk_frozen BK314.out 3
   have hfz6_4 := blk_frozen BK314.out 4
   go_wp2
   go_meet
   case rel => exact ⟨_, (decide ((a0_4.size : Int) > 2000)), (by first | rfl | (simp; done) | (simp [*]; done)), H', ⟨by first | omega | exact Nat.le_refl _⟩, ⟨by (with_reducible repeat (first | refine kN ?_ _ | refine kD ?_ | refine kA ?_ _)); exact BK314.out⟩, ⟨by repeat (first | (with_reducible first | exact HB.out | apply bA | apply bN | apply bD | refine below_set ?_ GE314.out) | exact HB.out)⟩⟩
 case rest =>
  clear HC2
  try clear c1
  try clear p2
  try clear c4
  try clear c4b0
  try clear c4b1
  try clear hcz5_0
  try clear hcz5_1
  try clear hcz5_2
  try clear hcz5_3
  try clear hcz5_4
  try clear hcz6_0
  try clear hcz6_1
  try clear hcz6_2
  try clear hcz6_3
  try clear hcz6_4
  try clear hfz5_0
  try clear hfz5_1
  try clear hfz5_2
  try clear hfz5_3
  try clear hfz5_4
  try clear hfz6_0
  try clear hfz6_1
  try clear hfz6_2
  try clear hfz6_3
  try clear hfz6_4
  obtain ⟨kq, x15_1, rfl, HA, HJ1, BK314, HB⟩ := hcut
  cases kq with
  | zero => exact absurd HA.out (by first | (intro h_; cases h_; done) | simp [treenaillaw01_large.j0])
  | succ kj1 =>
   have H := HA.out
   clear HA
   simp only [treenaillaw01_large.j0] at H
   by_cases c7 : x15_1 = true
   ·subst c7
    have H1 : (some true) = some r := by rw [if_pos rfl] at H; exact H
    clear H
    have H := H1
    clear H1
    obtain rfl := Option.some.inj H
    go_wp2
    go_ret
    exact ⟨by first | rfl | (simp [errW_none, errW_some] <;> rfl) | (simp [*, errW_none, errW_some] <;> rfl), by repeat (first | (with_reducible first | exact HB.out | apply bA | apply bN | apply bD | refine below_set ?_ GE314.out) | exact HB.out)⟩
   ·replace c7 := Bool.eq_false_iff.mpr c7
    subst c7
    have H1 : (treenaillaw01_large.l0 kj1 0 l0_3 (l0_3.length : Int) 0) = some r := by rw [if_neg (show ¬ (false = true) by decide)] at H; exact H
    clear H
    have H := H1
    clear H1
    have H' := Aside0.mk H
    clear H
    have hcz8_0 : wc.cell? ⟨gb314, 0, none⟩ = some (.int .i64 a0_0) := (blk_cell BK314.out 0).trans rfl
    have hcz8_1 : wc.cell? ⟨gb314, 1, none⟩ = some (.int .i64 a0_1) := (blk_cell BK314.out 1).trans rfl
    have hcz8_2 : wc.cell? ⟨gb314, 2, none⟩ = some (.string a0_2) := (blk_cell BK314.out 2).trans rfl
    have hcz8_3 : wc.cell? ⟨gb314, 3, none⟩ = some (.slice A0_3 l0_3.length c0_3) := (blk_cell BK314.out 3).trans rfl
    have hcz8_4 : wc.cell? ⟨gb314, 4, none⟩ = some (.string a0_4) := (blk_cell BK314.out 4).trans rfl
    have hfz8_0 := blk_frozen BK314.out 0
    have hfz8_1 := blk_frozen BK314.out 1
    have hfz8_2 := blk_frozen BK314.out 2
    have hfz8_3 := blk_frozen BK314.out 3
    have hfz8_4 := blk_frozen BK314.out 4
    go_wp2
    go_loopg [3, 19] kj1 (fun kq v3 v19 w' => ∃ (x3_2 : Int) (x19_2 : Int), v3 = .int .i64 x3_2 ∧ v19 = .int .i64 x19_2 ∧ Aside0 (treenaillaw01_large.l0 kq x3_2 l0_3 (l0_3.length : Int) x19_2 = some r) ∧ Aside0 (kq ≤ kj1) ∧ Aside0 (w'.heap[gb314]? = some (.cells #[.int .i64 a0_0, .int .i64 a0_1, .string a0_2, (.slice A0_3 l0_3.length c0_3), .string a0_4] 38 (0, 0))) ∧ Aside0 (Below w.heap.size w w'))
    case atStart => exact ⟨(0), (0), (by first | rfl | (simp; done) | (simp [*]; done)), (by first | rfl | (simp; done) | (simp [*]; done)), H', ⟨Nat.le_refl _⟩, ⟨by (with_reducible repeat (first | refine kN ?_ _ | refine kD ?_ | refine kA ?_ _)); exact BK314.out⟩, ⟨by repeat (first | (with_reducible first | exact HB.out | apply bA | apply bN | apply bD | refine below_set ?_ GE314.out) | exact HB.out)⟩⟩
    case round =>
     clear H'
     try clear c1
     try clear p2
     try clear c4
     try clear c4b0
     try clear c4b1
     try clear c7
     try clear hcz5_0
     try clear hcz5_1
     try clear hcz5_2
     try clear hcz5_3
     try clear hcz5_4
     try clear hcz6_0
     try clear hcz6_1
     try clear hcz6_2
     try clear hcz6_3
     try clear hcz6_4
     try clear hcz8_0
     try clear hcz8_1
     try clear hcz8_2
     try clear hcz8_3
     try clear hcz8_4
     try clear hfz5_0
     try clear hfz5_1
     try clear hfz5_2
     try clear hfz5_3
     try clear hfz5_4
     try clear hfz6_0
     try clear hfz6_1
     try clear hfz6_2
     try clear hfz6_3
     try clear hfz6_4
     try clear hfz8_0
     try clear hfz8_1
     try clear hfz8_2
     try clear hfz8_3
     try clear hfz8_4
     try clear p2
     obtain ⟨x3_2, x19_2, rfl, rfl, HA, HK2, BK314, HB⟩ := hrel
     cases gk with
     | zero => exact absurd HA.out (by first | (intro h_; cases h_; done) | simp [treenaillaw01_large.l0])
     | succ k2 =>
      have H := HA.out
      clear HA
      unfold treenaillaw01_large.l0 at H; try dsimp only at H
      by_cases c9 : x19_2 < (l0_3.length : Int)
      ·rw [if_pos c9] at H
       have c9b0 : decide (x19_2 < (l0_3.length : Int)) = true := decide_eq_true c9
       clear c9
       by_cases c10 : 0 ≤ x19_2
       ·rw [if_pos c10] at H
        have c10b0 : decide (0 ≤ x19_2) = true := decide_eq_true c10
        clear c10
        by_cases c11 : x19_2 < (l0_3.length : Int)
        ·rw [if_pos c11] at H
         have c11b0 : decide (x19_2 < (l0_3.length : Int)) = true := decide_eq_true c11
         clear c11
         by_cases c12 : (wrap64 ((wrap64 (x3_2 + (((rd_T51 l0_3 x19_2).f1).size : Int))) + (((rd_T51 l0_3 x19_2).f0).size : Int))) > 3000
         ·rw [if_pos c12] at H
          have c12b0 : decide (3000 < (wrap64 ((wrap64 (x3_2 + (((rd_T51 l0_3 x19_2).f1).size : Int))) + (((rd_T51 l0_3 x19_2).f0).size : Int)))) = true := decide_eq_true c12
          clear c12
          obtain rfl := Option.some.inj H
          have p315 : 0 ≤ (x19_2 : Int) := of_decide_eq_true (by first | (with_reducible assumption) | assumption)
          have q315 : x19_2 < (l0_3.length : Int) := of_decide_eq_true (by first | (with_reducible assumption) | assumption)
          obtain ⟨ad315, e315, hx315_0, hx315_1⟩ := at_T51 HR0_3.out x19_2 p315 q315
          cases e315
          replace hx315_0 := (HB.out.cell (World.block_lt_of_cell? w _ hx315_0)).trans hx315_0
          replace hx315_1 := (HB.out.cell (World.block_lt_of_cell? w _ hx315_1)).trans hx315_1
          replace p315 := eq_true p315
          replace q315 := eq_true q315
          go_wp2_with (first | ((with_reducible refine gate_dst (N := 5) rfl ?_); (try (refine gate_guard (by rfl) ?_; dsimp only)); refine box_event ?hg (N := 5) ?hd (cs := #[.string (⟨#[]⟩ : ByteArray), .string (⟨#[]⟩ : ByteArray)]) (t := 51) ?hr ?_; (case hd => rfl); (case hg => rfl); (case hr => first | (go_simp; done) | (go_simp; rfl)); intro gb316 hg w13 hbox hb; have n0_ := Aside0.mk (blk_below (g := gb314) (o := .cells #[.int .i64 a0_0, .int .i64 a0_1, .string a0_2, .slice (some ad315) l0_3.length c0_3, .string a0_4] 38 (0, 0)) (by (with_reducible repeat (first | refine kN ?_ _ | refine kD ?_ | refine kA ?_ _)); exact BK314.out) hb); have n1_ := Aside0.mk (below_step (by repeat (first | (with_reducible first | exact HB.out | apply bA | apply bN | apply bD | refine below_set ?_ GE314.out) | exact HB.out)) hb); have n2_ := Aside0.mk (hbox); have n3_ := Aside0.mk ((by rw [hg]; exact (below_size (by repeat (first | (with_reducible first | exact HB.out | apply bA | apply bN | apply bD | refine below_set ?_ GE314.out) | exact HB.out))) : w.heap.size ≤ gb316)); have n4_ := Aside0.mk ((by rw [hg]; exact (below_size (by repeat (first | (with_reducible first | exact HB.out | apply bA | apply bN | apply bD | refine below_set ?_ GE314.out) | exact HB.out))) : w.heap.size ≤ gb316)); have n5_ := Aside0.mk ((by rw [hg]; exact Nat.ne_of_lt (blk_lt (g := gb314) (o := .cells #[.int .i64 a0_0, .int .i64 a0_1, .string a0_2, .slice (some ad315) l0_3.length c0_3, .string a0_4] 38 (0, 0)) (by (with_reducible repeat (first | refine kN ?_ _ | refine kD ?_ | refine kA ?_ _)); exact BK314.out)) : gb314 ≠ gb316)); have n6_ := Aside0.mk ((by rw [hg]; exact Nat.ne_of_gt (blk_lt (g := gb314) (o := .cells #[.int .i64 a0_0, .int .i64 a0_1, .string a0_2, .slice (some ad315) l0_3.length c0_3, .string a0_4] 38 (0, 0)) (by (with_reducible repeat (first | refine kN ?_ _ | refine kD ?_ | refine kA ?_ _)); exact BK314.out)) : gb316 ≠ gb314)); clear BK314; clear HB; have BK314 := n0_; have HB := n1_; have BK316 := n2_; have GW316 := n3_; have GE316 := n4_; have NB314_316 := n5_; have NB316_314 := n6_; clear n0_ n1_ n2_ n3_ n4_ n5_ n6_; clear hb hbox hg; have hnb14 := NB316_314.out; have hnc14 := NB314_316.out; have hcz15_0 : w13.cell? ⟨gb316, 0, none⟩ = some (.string (⟨#[]⟩ : ByteArray)) := (blk_cell BK316.out 0).trans rfl; have hcz15_1 : w13.cell? ⟨gb316, 1, none⟩ = some (.string (⟨#[]⟩ : ByteArray)) := (blk_cell BK316.out 1).trans rfl; have hfz15_0 := blk_frozen BK316.out 0; have hfz15_1 := blk_frozen BK316.out 1))
          go_ret
          exact ⟨by first | rfl | (simp [errW_none, errW_some] <;> rfl) | (simp [*, errW_none, errW_some] <;> rfl), by repeat (first | (with_reducible first | exact HB.out | apply bA | apply bN | apply bD | refine below_set ?_ GE314.out | refine below_set ?_ GE316.out) | exact HB.out)⟩
         ·rw [if_neg c12] at H
          have c12b0 : decide (3000 < (wrap64 ((wrap64 (x3_2 + (((rd_T51 l0_3 x19_2).f1).size : Int))) + (((rd_T51 l0_3 x19_2).f0).size : Int)))) = false := decide_eq_false c12
          clear c12
          have H' := Aside0.mk H
          clear H
          have p315 : 0 ≤ (x19_2 : Int) := of_decide_eq_true (by first | (with_reducible assumption) | assumption)
          have q315 : x19_2 < (l0_3.length : Int) := of_decide_eq_true (by first | (with_reducible assumption) | assumption)
          obtain ⟨ad315, e315, hx315_0, hx315_1⟩ := at_T51 HR0_3.out x19_2 p315 q315
          cases e315
          replace hx315_0 := (HB.out.cell (World.block_lt_of_cell? w _ hx315_0)).trans hx315_0
          replace hx315_1 := (HB.out.cell (World.block_lt_of_cell? w _ hx315_1)).trans hx315_1
          replace p315 := eq_true p315
          replace q315 := eq_true q315
          go_wp2_with (first | ((with_reducible refine gate_dst (N := 5) rfl ?_); (try (refine gate_guard (by rfl) ?_; dsimp only)); refine box_event ?hg (N := 5) ?hd (cs := #[.string (⟨#[]⟩ : ByteArray), .string (⟨#[]⟩ : ByteArray)]) (t := 51) ?hr ?_; (case hd => rfl); (case hg => rfl); (case hr => first | (go_simp; done) | (go_simp; rfl)); intro gb316 hg w16 hbox hb; have n0_ := Aside0.mk (blk_below (g := gb314) (o := .cells #[.int .i64 a0_0, .int .i64 a0_1, .string a0_2, .slice (some ad315) l0_3.length c0_3, .string a0_4] 38 (0, 0)) (by (with_reducible repeat (first | refine kN ?_ _ | refine kD ?_ | refine kA ?_ _)); exact BK314.out) hb); have n1_ := Aside0.mk (below_step (by repeat (first | (with_reducible first | exact HB.out | apply bA | apply bN | apply bD | refine below_set ?_ GE314.out) | exact HB.out)) hb); have n2_ := Aside0.mk (hbox); have n3_ := Aside0.mk ((by rw [hg]; exact (below_size (by repeat (first | (with_reducible first | exact HB.out | apply bA | apply bN | apply bD | refine below_set ?_ GE314.out) | exact HB.out))) : w.heap.size ≤ gb316)); have n4_ := Aside0.mk ((by rw [hg]; exact (below_size (by repeat (first | (with_reducible first | exact HB.out | apply bA | apply bN | apply bD | refine below_set ?_ GE314.out) | exact HB.out))) : w.heap.size ≤ gb316)); have n5_ := Aside0.mk ((by rw [hg]; exact Nat.ne_of_lt (blk_lt (g := gb314) (o := .cells #[.int .i64 a0_0, .int .i64 a0_1, .string a0_2, .slice (some ad315) l0_3.length c0_3, .string a0_4] 38 (0, 0)) (by (with_reducible repeat (first | refine kN ?_ _ | refine kD ?_ | refine kA ?_ _)); exact BK314.out)) : gb314 ≠ gb316)); have n6_ := Aside0.mk ((by rw [hg]; exact Nat.ne_of_gt (blk_lt (g := gb314) (o := .cells #[.int .i64 a0_0, .int .i64 a0_1, .string a0_2, .slice (some ad315) l0_3.length c0_3, .string a0_4] 38 (0, 0)) (by (with_reducible repeat (first | refine kN ?_ _ | refine kD ?_ | refine kA ?_ _)); exact BK314.out)) : gb316 ≠ gb314)); clear BK314; clear HB; have BK314 := n0_; have HB := n1_; have BK316 := n2_; have GW316 := n3_; have GE316 := n4_; have NB314_316 := n5_; have NB316_314 := n6_; clear n0_ n1_ n2_ n3_ n4_ n5_ n6_; clear hb hbox hg; have hnb17 := NB316_314.out; have hnc17 := NB314_316.out; have hcz18_0 : w16.cell? ⟨gb316, 0, none⟩ = some (.string (⟨#[]⟩ : ByteArray)) := (blk_cell BK316.out 0).trans rfl; have hcz18_1 : w16.cell? ⟨gb316, 1, none⟩ = some (.string (⟨#[]⟩ : ByteArray)) := (blk_cell BK316.out 1).trans rfl; have hfz18_0 := blk_frozen BK316.out 0; have hfz18_1 := blk_frozen BK316.out 1))
          go_roundg k2
          case measure => have := HJ1.out; have := HK2.out; omega
          case rel => exact ⟨(wrap64 ((wrap64 (x3_2 + (((rd_T51 l0_3 x19_2).f1).size : Int))) + (((rd_T51 l0_3 x19_2).f0).size : Int))), (wrap64 (x19_2 + 1)), (by first | rfl | (simp; done) | (simp [*]; done)), (by first | rfl | (simp; done) | (simp [*]; done)), H', ⟨by have := HJ1.out; have := HK2.out; omega⟩, ⟨by (with_reducible repeat (first | refine kN ?_ _ | refine kD ?_ | refine kA ?_ _)); refine blk_far ?_ NB314_316.out _; (with_reducible repeat (first | refine kN ?_ _ | refine kD ?_ | refine kA ?_ _)); refine blk_far ?_ NB314_316.out _; (with_reducible repeat (first | refine kN ?_ _ | refine kD ?_ | refine kA ?_ _)); exact BK314.out⟩, ⟨by repeat (first | (with_reducible first | exact HB.out | apply bA | apply bN | apply bD | refine below_set ?_ GE314.out | refine below_set ?_ GE316.out) | exact HB.out)⟩⟩
        ·rw [if_neg c11] at H
         exact absurd H (by simp)
       ·rw [if_neg c10] at H
        exact absurd H (by simp)
      ·rw [if_neg c9] at H
       have c9b0 : decide (x19_2 < (l0_3.length : Int)) = false := decide_eq_false c9
       clear c9
       obtain rfl := Option.some.inj H
       go_wp2
       go_ret
       exact ⟨by first | rfl | (simp [errW_none, errW_some] <;> rfl) | (simp [*, errW_none, errW_some] <;> rfl), by repeat (first | (with_reducible first | exact HB.out | apply bA | apply bN | apply bD | refine below_set ?_ GE314.out) | exact HB.out)⟩

end Go.Proofs.YtdlblokojlhmbaaDoor.Q
