import Derived.Test.YtdlblokojlhmbaaDoorSx0
import Derived.Test.YtdlblokojlhmbaaDoorSx5
import Derived.Test.YtdlblokojlhmbaaDoorSx9
import Derived.Test.YtdlblokojlhmbaaDoorSx10
import Derived.Test.YtdlblokojlhmbaaDoorSx12
import Derived.Test.YtdlblokojlhmbaaDoorSx13
namespace Go.Proofs.YtdlblokojlhmbaaDoor.Q
open Go.RowKit Go.Proofs.YtdlblokojlhmbaaDoorW.PrintWords Go.Proofs.YtdlblokojlhmbaaDoorW.PrintLast Go.Proofs.YtdlblokojlhmbaaDoorW.PrintMore
attribute [local go_sem] max2_int min2_int max_two min_two max_three min_three max_four min_four   -- for this text's walks alone
set_option linter.unusedVariables false
set_option linter.unusedSimpArgs false

mutual
def treenaillaw01_MarkBack.l0 : Nat → ByteArray → List (S34) → List (S38) → Int → Int → Option (Bool)
 | 0, _, _, _, _, _ => none
 | k + 1, x3, x4, x17, x18, x19 => if x19 < x18 then (if 0 ≤ x19 then (if x19 < (x17.length : Int) then ((treenaillaw01_large.f k ((rd_T38 x17 x19).f0) ((rd_T38 x17 x19).f1) ((rd_T38 x17 x19).f2) ((rd_T38 x17 x19).f3) ((rd_T38 x17 x19).f4)).bind fun t362 => (if t362 = true then ((treenaillaw01_opens.f k).bind fun t363 => (some t363)) else ((mark_Write.f k ((rd_T38 x17 x19).f0) ((rd_T38 x17 x19).f1) ((rd_T38 x17 x19).f2) ((rd_T38 x17 x19).f3) ((rd_T38 x17 x19).f4)).bind fun bt364 => (if bt364.2 = 0 then (if (x4.length : Int) > 0 then (if ((rd_T38 x17 x19).f0) = 3 then (if 0 ≤ (wrap64 ((x4.length : Int) - 1)) then (if (wrap64 ((x4.length : Int) - 1)) < (x4.length : Int) then (treenaillaw01_MarkBack.j1 k x3 x4 bt364.1 x17 x18 x19 (((rd_T34 x4 (wrap64 ((x4.length : Int) - 1))).f0) == 3) ((rd_T38 x17 x19).f0) ((rd_T38 x17 x19).f1) ((rd_T38 x17 x19).f2) ((rd_T38 x17 x19).f3) ((rd_T38 x17 x19).f4)) else (none)) else (none)) else (treenaillaw01_MarkBack.j1 k x3 x4 bt364.1 x17 x18 x19 false ((rd_T38 x17 x19).f0) ((rd_T38 x17 x19).f1) ((rd_T38 x17 x19).f2) ((rd_T38 x17 x19).f3) ((rd_T38 x17 x19).f4))) else (treenaillaw01_MarkBack.j1 k x3 x4 bt364.1 x17 x18 x19 false ((rd_T38 x17 x19).f0) ((rd_T38 x17 x19).f1) ((rd_T38 x17 x19).f2) ((rd_T38 x17 x19).f3) ((rd_T38 x17 x19).f4))) else (treenaillaw01_MarkBack.j1 k x3 x4 bt364.1 x17 x18 x19 true ((rd_T38 x17 x19).f0) ((rd_T38 x17 x19).f1) ((rd_T38 x17 x19).f2) ((rd_T38 x17 x19).f3) ((rd_T38 x17 x19).f4)))))) else (none)) else (none)) else ((mark_Read.f k x3).bind fun bt378 => (if bt378.2.2 = 0 then (treenaillaw01_MarkBack.j2 k x4 bt378.1 ((bt378.1.length : Int) != (x4.length : Int))) else (treenaillaw01_MarkBack.j2 k x4 bt378.1 true)))
def treenaillaw01_MarkBack.j1 : Nat → ByteArray → List (S34) → ByteArray → List (S38) → Int → Int → Bool → Int → Int → ByteArray → List (S51) → ByteArray → Option (Bool)
 | 0, _, _, _, _, _, _, _, _, _, _, _, _ => none
 | k + 1, x3, x4, x7, x17, x18, x19, x52, x362000, x362001, x362002, x362003, x362004 => if x52 = true then (treenaillaw01_MarkBack.l0 k x3 x4 x17 x18 (wrap64 (x19 + 1))) else (if x3.size + x7.size ≤ 9223372036854775807 then ((treenaillaw01_ref.f k x362000 x362001 x362002 x362003 x362004).bind fun bt367 => (if x4.length < 1954687338268 then (if ((x3 ++ x7).size : Int) > 20000 then ((treenaillaw01_opens.f k).bind fun t377 => (some t377)) else (treenaillaw01_MarkBack.l0 k (x3 ++ x7) (x4 ++ [(⟨bt367.1, bt367.2.1, bt367.2.2.1, bt367.2.2.2.1, bt367.2.2.2.2⟩ : S34)]) x17 x18 (wrap64 (x19 + 1)))) else (none))) else (none))
def treenaillaw01_MarkBack.j2 : Nat → List (S34) → List (S38) → Bool → Option (Bool)
 | 0, _, _, _ => none
 | k + 1, x4, x9, x80 => if x80 = true then (some false) else (treenaillaw01_MarkBack.l1 k x4 x9 (x9.length : Int) 0)
def treenaillaw01_MarkBack.l1 : Nat → List (S34) → List (S38) → Int → Int → Option (Bool)
 | 0, _, _, _, _ => none
 | k + 1, x4, x9, x82, x83 => if x83 < x82 then (if 0 ≤ x83 then (if x83 < (x9.length : Int) then ((treenaillaw01_ref.f k ((rd_T38 x9 x83).f0) ((rd_T38 x9 x83).f1) ((rd_T38 x9 x83).f2) ((rd_T38 x9 x83).f3) ((rd_T38 x9 x83).f4)).bind fun bt385 => (if x83 < (x4.length : Int) then ((treenaillaw01_same.f k bt385.1 bt385.2.1 bt385.2.2.1 bt385.2.2.2.1 bt385.2.2.2.2 ((rd_T34 x4 x83).f0) ((rd_T34 x4 x83).f1) ((rd_T34 x4 x83).f2) ((rd_T34 x4 x83).f3) ((rd_T34 x4 x83).f4) false).bind fun t393 => (if t393 = true then (treenaillaw01_MarkBack.l1 k x4 x9 x82 (wrap64 (x83 + 1))) else (some false))) else (none))) else (none)) else (none)) else ((treenaillaw01_opens.f k).bind fun t383 => (some t383))
end
def treenaillaw01_MarkBack.f (k : Nat) (l0 : List (S38)) : Option (Bool) := if (l0.length : Int) > 40 then ((treenaillaw01_opens.f k).bind fun t359 => (some t359)) else (treenaillaw01_MarkBack.l0 k (⟨#[]⟩ : ByteArray) ([] : List (S34)) l0 (l0.length : Int) 0)
set_option maxRecDepth 100000 in
theorem treenaillaw01_MarkBack.mono_l : ∀ k, (∀ y0 y1 y2 y3 y4, LeO (treenaillaw01_MarkBack.l0 k y0 y1 y2 y3 y4) (treenaillaw01_MarkBack.l0 (k + 1) y0 y1 y2 y3 y4)) ∧ (∀ y0 y1 y2 y3 y4 y5 y6 y7 y8 y9 y10 y11, LeO (treenaillaw01_MarkBack.j1 k y0 y1 y2 y3 y4 y5 y6 y7 y8 y9 y10 y11) (treenaillaw01_MarkBack.j1 (k + 1) y0 y1 y2 y3 y4 y5 y6 y7 y8 y9 y10 y11)) ∧ (∀ y0 y1 y2, LeO (treenaillaw01_MarkBack.j2 k y0 y1 y2) (treenaillaw01_MarkBack.j2 (k + 1) y0 y1 y2)) ∧ (∀ y0 y1 y2 y3, LeO (treenaillaw01_MarkBack.l1 k y0 y1 y2 y3) (treenaillaw01_MarkBack.l1 (k + 1) y0 y1 y2 y3))
 | 0 => ⟨fun _ _ _ _ _ r h => by first | (cases h; done) | simp [treenaillaw01_MarkBack.l0] at h, fun _ _ _ _ _ _ _ _ _ _ _ _ r h => by first | (cases h; done) | simp [treenaillaw01_MarkBack.j1] at h, fun _ _ _ r h => by first | (cases h; done) | simp [treenaillaw01_MarkBack.j2] at h, fun _ _ _ _ r h => by first | (cases h; done) | simp [treenaillaw01_MarkBack.l1] at h⟩
 | k + 1 => by
  obtain ⟨ih0, ih1, ih2, ih3⟩ := treenaillaw01_MarkBack.mono_l k
  refine ⟨?_, ?_, ?_, ?_⟩
  ·intro y0 y1 y2 y3 y4
   unfold treenaillaw01_MarkBack.l0
   repeat' first
   | (with_reducible exact ih0 _ _ _ _ _)
   | (with_reducible exact ih1 _ _ _ _ _ _ _ _ _ _ _ _)
   | (with_reducible exact ih2 _ _ _)
   | (with_reducible exact ih3 _ _ _ _)
   | (with_reducible exact mark_Read.mono _ _)
   | (with_reducible exact mark_Write.mono _ _ _ _ _ _)
   | (with_reducible exact treenaillaw01_large.mono _ _ _ _ _ _)
   | (with_reducible exact treenaillaw01_opens.mono _)
   | (with_reducible exact treenaillaw01_ref.mono _ _ _ _ _ _)
   | (with_reducible exact treenaillaw01_same.mono _ _ _ _ _ _ _ _ _ _ _ _)
   | (with_reducible exact LeO.refl _)
   | (with_reducible exact LeO.none _)
   | (with_reducible refine LeO.ite ?_ ?_)
   | (with_reducible refine LeO.bind ?_ (fun _ => ?_))
   | exact ih0 _ _ _ _ _
   | exact ih1 _ _ _ _ _ _ _ _ _ _ _ _
   | exact ih2 _ _ _
   | exact ih3 _ _ _ _
   | exact mark_Read.mono _ _
   | exact mark_Write.mono _ _ _ _ _ _
   | exact treenaillaw01_large.mono _ _ _ _ _ _
   | exact treenaillaw01_opens.mono _
   | exact treenaillaw01_ref.mono _ _ _ _ _ _
   | exact treenaillaw01_same.mono _ _ _ _ _ _ _ _ _ _ _ _
   | exact LeO.none _
   | refine LeO.ite ?_ ?_
   | refine LeO.bind ?_ (fun _ => ?_)
  ·intro y0 y1 y2 y3 y4 y5 y6 y7 y8 y9 y10 y11
   unfold treenaillaw01_MarkBack.j1
   repeat' first
   | (with_reducible exact ih0 _ _ _ _ _)
   | (with_reducible exact ih1 _ _ _ _ _ _ _ _ _ _ _ _)
   | (with_reducible exact ih2 _ _ _)
   | (with_reducible exact ih3 _ _ _ _)
   | (with_reducible exact mark_Read.mono _ _)
   | (with_reducible exact mark_Write.mono _ _ _ _ _ _)
   | (with_reducible exact treenaillaw01_large.mono _ _ _ _ _ _)
   | (with_reducible exact treenaillaw01_opens.mono _)
   | (with_reducible exact treenaillaw01_ref.mono _ _ _ _ _ _)
   | (with_reducible exact treenaillaw01_same.mono _ _ _ _ _ _ _ _ _ _ _ _)
   | (with_reducible exact LeO.refl _)
   | (with_reducible exact LeO.none _)
   | (with_reducible refine LeO.ite ?_ ?_)
   | (with_reducible refine LeO.bind ?_ (fun _ => ?_))
   | exact ih0 _ _ _ _ _
   | exact ih1 _ _ _ _ _ _ _ _ _ _ _ _
   | exact ih2 _ _ _
   | exact ih3 _ _ _ _
   | exact mark_Read.mono _ _
   | exact mark_Write.mono _ _ _ _ _ _
   | exact treenaillaw01_large.mono _ _ _ _ _ _
   | exact treenaillaw01_opens.mono _
   | exact treenaillaw01_ref.mono _ _ _ _ _ _
   | exact treenaillaw01_same.mono _ _ _ _ _ _ _ _ _ _ _ _
   | exact LeO.none _
   | refine LeO.ite ?_ ?_
   | refine LeO.bind ?_ (fun _ => ?_)
  ·intro y0 y1 y2
   unfold treenaillaw01_MarkBack.j2
   repeat' first
   | (with_reducible exact ih0 _ _ _ _ _)
   | (with_reducible exact ih1 _ _ _ _ _ _ _ _ _ _ _ _)
   | (with_reducible exact ih2 _ _ _)
   | (with_reducible exact ih3 _ _ _ _)
   | (with_reducible exact mark_Read.mono _ _)
   | (with_reducible exact mark_Write.mono _ _ _ _ _ _)
   | (with_reducible exact treenaillaw01_large.mono _ _ _ _ _ _)
   | (with_reducible exact treenaillaw01_opens.mono _)
   | (with_reducible exact treenaillaw01_ref.mono _ _ _ _ _ _)
   | (with_reducible exact treenaillaw01_same.mono _ _ _ _ _ _ _ _ _ _ _ _)
   | (with_reducible exact LeO.refl _)
   | (with_reducible exact LeO.none _)
   | (with_reducible refine LeO.ite ?_ ?_)
   | (with_reducible refine LeO.bind ?_ (fun _ => ?_))
   | exact ih0 _ _ _ _ _
   | exact ih1 _ _ _ _ _ _ _ _ _ _ _ _
   | exact ih2 _ _ _
   | exact ih3 _ _ _ _
   | exact mark_Read.mono _ _
   | exact mark_Write.mono _ _ _ _ _ _
   | exact treenaillaw01_large.mono _ _ _ _ _ _
   | exact treenaillaw01_opens.mono _
   | exact treenaillaw01_ref.mono _ _ _ _ _ _
   | exact treenaillaw01_same.mono _ _ _ _ _ _ _ _ _ _ _ _
   | exact LeO.none _
   | refine LeO.ite ?_ ?_
   | refine LeO.bind ?_ (fun _ => ?_)
  ·intro y0 y1 y2 y3
   unfold treenaillaw01_MarkBack.l1
   repeat' first
   | (with_reducible exact ih0 _ _ _ _ _)
   | (with_reducible exact ih1 _ _ _ _ _ _ _ _ _ _ _ _)
   | (with_reducible exact ih2 _ _ _)
   | (with_reducible exact ih3 _ _ _ _)
   | (with_reducible exact mark_Read.mono _ _)
   | (with_reducible exact mark_Write.mono _ _ _ _ _ _)
   | (with_reducible exact treenaillaw01_large.mono _ _ _ _ _ _)
   | (with_reducible exact treenaillaw01_opens.mono _)
   | (with_reducible exact treenaillaw01_ref.mono _ _ _ _ _ _)
   | (with_reducible exact treenaillaw01_same.mono _ _ _ _ _ _ _ _ _ _ _ _)
   | (with_reducible exact LeO.refl _)
   | (with_reducible exact LeO.none _)
   | (with_reducible refine LeO.ite ?_ ?_)
   | (with_reducible refine LeO.bind ?_ (fun _ => ?_))
   | exact ih0 _ _ _ _ _
   | exact ih1 _ _ _ _ _ _ _ _ _ _ _ _
   | exact ih2 _ _ _
   | exact ih3 _ _ _ _
   | exact mark_Read.mono _ _
   | exact mark_Write.mono _ _ _ _ _ _
   | exact treenaillaw01_large.mono _ _ _ _ _ _
   | exact treenaillaw01_opens.mono _
   | exact treenaillaw01_ref.mono _ _ _ _ _ _
   | exact treenaillaw01_same.mono _ _ _ _ _ _ _ _ _ _ _ _
   | exact LeO.none _
   | refine LeO.ite ?_ ?_
   | refine LeO.bind ?_ (fun _ => ?_)
set_option maxRecDepth 100000 in
theorem treenaillaw01_MarkBack.mono : ∀ a0 k, LeO (treenaillaw01_MarkBack.f k a0) (treenaillaw01_MarkBack.f (k + 1) a0) := by
 intro a0 k
 obtain ⟨ih0, ih1, ih2, ih3⟩ := treenaillaw01_MarkBack.mono_l k
 unfold treenaillaw01_MarkBack.f
 repeat' first
   | (with_reducible exact ih0 _ _ _ _ _)
   | (with_reducible exact ih1 _ _ _ _ _ _ _ _ _ _ _ _)
   | (with_reducible exact ih2 _ _ _)
   | (with_reducible exact ih3 _ _ _ _)
   | (with_reducible exact mark_Read.mono _ _)
   | (with_reducible exact mark_Write.mono _ _ _ _ _ _)
   | (with_reducible exact treenaillaw01_large.mono _ _ _ _ _ _)
   | (with_reducible exact treenaillaw01_opens.mono _)
   | (with_reducible exact treenaillaw01_ref.mono _ _ _ _ _ _)
   | (with_reducible exact treenaillaw01_same.mono _ _ _ _ _ _ _ _ _ _ _ _)
   | (with_reducible exact LeO.refl _)
   | (with_reducible exact LeO.none _)
   | (with_reducible refine LeO.ite ?_ ?_)
   | (with_reducible refine LeO.bind ?_ (fun _ => ?_))
   | exact ih0 _ _ _ _ _
   | exact ih1 _ _ _ _ _ _ _ _ _ _ _ _
   | exact ih2 _ _ _
   | exact ih3 _ _ _ _
   | exact mark_Read.mono _ _
   | exact mark_Write.mono _ _ _ _ _ _
   | exact treenaillaw01_large.mono _ _ _ _ _ _
   | exact treenaillaw01_opens.mono _
   | exact treenaillaw01_ref.mono _ _ _ _ _ _
   | exact treenaillaw01_same.mono _ _ _ _ _ _ _ _ _ _ _ _
   | exact LeO.none _
   | refine LeO.ite ?_ ?_
   | refine LeO.bind ?_ (fun _ => ?_)
def treenaillaw01_MarkBack.T23 : Bool × List (List Nat × List Nat) := (true, [([], []), ([], []), ([0, 1], [0, 1]), ([2], [2]), ([3], [3]), ([], []), ([], []), ([5, 6], [5, 6]), ([7], [7]), ([4, 8, 4], [4, 8]), ([9], [9])])
def treenaillaw01_MarkBack.B23 : List Nat := [0, 0, 3, 7, 15, 0, 0, 96, 224, 511, 1023]
theorem treenaillaw01_MarkBack.tab23 : rtab .any (opsOf Tryd.f7 23) = treenaillaw01_MarkBack.T23 := by kernel_rfl
theorem treenaillaw01_MarkBack.bits23 : waitsOk treenaillaw01_MarkBack.T23.2 treenaillaw01_MarkBack.B23 = true := by kernel_rfl
set_option maxHeartbeats 8000000 in
set_option maxRecDepth 100000 in
theorem treenaillaw01_MarkBack.calls (k : Nat) (A0 : Option Addr) (c0 : Nat) (l0 : List (S38)) (r : Bool) (w : World) (hr0 : Kd.C k38 w A0 l0.length l0) (hc0 : l0.length ≤ c0) (h : treenaillaw01_MarkBack.f k l0 = some r) (hT : Tabs.Tab w) :
  Calls Tryd.prog 7 #[.slice A0 l0.length c0] w fun e w' => e = .returned (.bool r) ∧ Below w.heap.size w w' := by
 have hu38 := Tryd.underlying38
 have hu34 := Tryd.underlying34
 have HR0 := Aside0.mk hr0
 have HC0 := Aside0.mk hc0
 clear hr0 hc0
 have HB := Aside0.mk (Below.refl w.heap.size w)
 have HT0 := Aside0.mk hT
 clear hT
 have H : (if (l0.length : Int) > 40 then ((treenaillaw01_opens.f k).bind fun t359 => (some t359)) else (treenaillaw01_MarkBack.l0 k (⟨#[]⟩ : ByteArray) ([] : List (S34)) l0 (l0.length : Int) 0)) = some r := h
 clear h
 by_cases c2 : (l0.length : Int) > 40
 ·rw [if_pos c2] at H
  have c2b0 : decide (40 < (l0.length : Int)) = true := decide_eq_true c2
  have c2b1 : decide (40 < l0.length) = true := decide_eq_true (by omega)
  clear c2
  replace H := Option.bind_eq_some_iff.mp H
  obtain ⟨t359, A30, H⟩ := H
  replace H : (some t359) = some r := H
  have A3 := Aside0.mk A30
  clear A30
  obtain rfl := Option.some.inj H
  go_enter Tryd.func7, Tryd.ntmps7
  go_wp2_with (first | ((with_reducible refine gate_callee (f := 9) rfl ?_); refine goesL_ (some 16) rfl rfl Tryd.func9 (by kernel_rfl) rfl #[] rfl (by (try simp only [List.map_toArray, List.map_cons, List.map_nil]); first | done | rfl | (simp only [List.length_drop, List.length_take]; rfl)) ?_; (with_reducible refine (treenaillaw01_opens.calls k  t359 _ A3.out ?hT_).mono ?_); (case hT_ => exact Tabs.tab_below HT0.out (by repeat (first | (with_reducible first | exact HB.out | apply bA | apply bN | apply bD) | exact HB.out))); rintro e w4 ⟨rfl, hb⟩; refine ⟨_, rfl, ?_⟩; have n0_ := Aside0.mk (below_step (by repeat (first | (with_reducible first | exact HB.out | apply bA | apply bN | apply bD) | exact HB.out)) hb); clear HB; have HB := n0_; clear n0_; (try clear hb); (try clear hb2); (try clear hk); (try clear hi)))
  go_ret
  exact ⟨by first | rfl | (simp [errW_none, errW_some] <;> rfl) | (simp [*, errW_none, errW_some] <;> rfl), by repeat (first | (with_reducible first | exact HB.out | apply bA | apply bN | apply bD) | exact HB.out)⟩
 ·rw [if_neg c2] at H
  have c2b0 : decide (40 < (l0.length : Int)) = false := decide_eq_false c2
  try (have c2b9 := c2b0; rw [hl392_3] at c2b9)
  try (have c2b9 := c2b0; rw [hl384_3] at c2b9)
  try (have c2b9 := c2b0; rw [hl366_3] at c2b9)
  try (have c2b9 := c2b0; rw [hl360_3] at c2b9)
  have c2b1 : decide (40 < l0.length) = false := decide_eq_false (by omega)
  clear c2
  have H' := Aside0.mk H
  clear H
  go_enter Tryd.func7, Tryd.ntmps7
  go_wp2
  go_loopg [3, 4, 19] k (fun kq v3 v4 v19 w' => ∃ (x3_1 : ByteArray) (x4_1 : List (S34)) (x19_1 : Int), v3 = .string x3_1 ∧ v19 = .int .i64 x19_1 ∧ Aside0 (treenaillaw01_MarkBack.l0 kq x3_1 x4_1 l0 (l0.length : Int) x19_1 = some r) ∧ Aside0 (kq ≤ k) ∧ Aside0 (Kd.N k34 34 w' w.heap.size (fun _ => True) v4 x4_1) ∧ Aside0 (Below w.heap.size w w'))
  case atStart => exact ⟨((⟨#[]⟩ : ByteArray)), (([] : List (S34))), (0), (by first | rfl | (simp; done) | (simp [*]; done)), (by first | rfl | (simp; done) | (simp [*]; done)), H', ⟨Nat.le_refl _⟩, ⟨by first | exact Kd.S_nil _ _ _ _ _ | exact Kd.N_nil _ _ _ _ _ | exact Kd.V_nil _ _ _ _ _ | exact Kd.Q_nil _ _ _ _ _ | exact Kd.R_nil _ _ _ _ _⟩, ⟨by repeat (first | (with_reducible first | exact HB.out | apply bA | apply bN | apply bD) | exact HB.out)⟩⟩
  case round =>
   clear H'
   try clear c2
   try clear c2b0
   try clear c2b1
   try clear p2
   obtain ⟨x3_1, x4_1, x19_1, rfl, rfl, HA, HK1, HO_4, HB⟩ := hrel
   cases gk with
   | zero => exact absurd HA.out (by first | (intro h_; cases h_; done) | simp [treenaillaw01_MarkBack.l0])
   | succ k1 =>
    have H := HA.out
    clear HA
    simp only [treenaillaw01_MarkBack.l0] at H
    by_cases c5 : x19_1 < (l0.length : Int)
    ·rw [if_pos c5] at H
     have c5b0 : decide (x19_1 < (l0.length : Int)) = true := decide_eq_true c5
     clear c5
     by_cases c6 : 0 ≤ x19_1
     ·rw [if_pos c6] at H
      have c6b0 : decide (0 ≤ x19_1) = true := decide_eq_true c6
      clear c6
      by_cases c7 : x19_1 < (l0.length : Int)
      ·rw [if_pos c7] at H
       have c7b0 : decide (x19_1 < (l0.length : Int)) = true := decide_eq_true c7
       clear c7
       replace H := Option.bind_eq_some_iff.mp H
       obtain ⟨t362, A80, H⟩ := H
       replace H : (if t362 = true then ((treenaillaw01_opens.f k1).bind fun t363 => (some t363)) else ((mark_Write.f k1 ((rd_T38 l0 x19_1).f0) ((rd_T38 l0 x19_1).f1) ((rd_T38 l0 x19_1).f2) ((rd_T38 l0 x19_1).f3) ((rd_T38 l0 x19_1).f4)).bind fun bt364 => (if bt364.2 = 0 then (if (x4_1.length : Int) > 0 then (if ((rd_T38 l0 x19_1).f0) = 3 then (if 0 ≤ (wrap64 ((x4_1.length : Int) - 1)) then (if (wrap64 ((x4_1.length : Int) - 1)) < (x4_1.length : Int) then (treenaillaw01_MarkBack.j1 k1 x3_1 x4_1 bt364.1 l0 (l0.length : Int) x19_1 (((rd_T34 x4_1 (wrap64 ((x4_1.length : Int) - 1))).f0) == 3) ((rd_T38 l0 x19_1).f0) ((rd_T38 l0 x19_1).f1) ((rd_T38 l0 x19_1).f2) ((rd_T38 l0 x19_1).f3) ((rd_T38 l0 x19_1).f4)) else (none)) else (none)) else (treenaillaw01_MarkBack.j1 k1 x3_1 x4_1 bt364.1 l0 (l0.length : Int) x19_1 false ((rd_T38 l0 x19_1).f0) ((rd_T38 l0 x19_1).f1) ((rd_T38 l0 x19_1).f2) ((rd_T38 l0 x19_1).f3) ((rd_T38 l0 x19_1).f4))) else (treenaillaw01_MarkBack.j1 k1 x3_1 x4_1 bt364.1 l0 (l0.length : Int) x19_1 false ((rd_T38 l0 x19_1).f0) ((rd_T38 l0 x19_1).f1) ((rd_T38 l0 x19_1).f2) ((rd_T38 l0 x19_1).f3) ((rd_T38 l0 x19_1).f4))) else (treenaillaw01_MarkBack.j1 k1 x3_1 x4_1 bt364.1 l0 (l0.length : Int) x19_1 true ((rd_T38 l0 x19_1).f0) ((rd_T38 l0 x19_1).f1) ((rd_T38 l0 x19_1).f2) ((rd_T38 l0 x19_1).f3) ((rd_T38 l0 x19_1).f4))))) = some r := H
       have A8 := Aside0.mk A80
       clear A80
       by_cases c9 : t362 = true
       ·subst c9
        have H1 : ((treenaillaw01_opens.f k1).bind fun t363 => (some t363)) = some r := by rw [if_pos rfl] at H; exact H
        clear H
        have H := H1
        clear H1
        replace H := Option.bind_eq_some_iff.mp H
        obtain ⟨t363, A100, H⟩ := H
        replace H : (some t363) = some r := H
        have A10 := Aside0.mk A100
        clear A100
        obtain rfl := Option.some.inj H
        have p360 : 0 ≤ (x19_1 : Int) := of_decide_eq_true (by first | (with_reducible assumption) | assumption)
        have q360 : x19_1 < (l0.length : Int) := of_decide_eq_true (by first | (with_reducible assumption) | assumption)
        obtain ⟨ad360, A360_3, c360_3, e360, hx360_0, hx360_1, hx360_2, hx360_3, hx360_4, hl360_3, hi360_3⟩ := at_T38 HR0.out x19_1 p360 q360
        cases e360
        replace hx360_0 := (HB.out.cell (World.block_lt_of_cell? w _ hx360_0)).trans hx360_0
        replace hx360_1 := (HB.out.cell (World.block_lt_of_cell? w _ hx360_1)).trans hx360_1
        replace hx360_2 := (HB.out.cell (World.block_lt_of_cell? w _ hx360_2)).trans hx360_2
        replace hx360_3 := (HB.out.cell (World.block_lt_of_cell? w _ hx360_3)).trans hx360_3
        replace hx360_4 := (HB.out.cell (World.block_lt_of_cell? w _ hx360_4)).trans hx360_4
        have HR360_3 := Aside0.mk hi360_3
        have HC360_3 := Aside0.mk hl360_3
        clear hi360_3 hl360_3
        replace p360 := eq_true p360
        replace q360 := eq_true q360
        go_wp2_with (first | ((with_reducible refine gate_dst (N := 6) rfl ?_); (try (refine gate_guard (by rfl) ?_; dsimp only)); refine box_event ?hg (N := 6) ?hd (cs := #[.int .i64 0, .int .i64 0, .string (⟨#[]⟩ : ByteArray), .slice none 0 0, .string (⟨#[]⟩ : ByteArray)]) (t := 38) ?hr ?_; (case hd => rfl); (case hg => rfl); (case hr => first | (go_simp; done) | (go_simp; rfl)); intro gb361 hg w11 hbox hb; have n0_ := Aside0.mk (Kd.N_below (Kd.N_elderB (by (with_reducible repeat (first | apply Kd.N_alloc | apply Kd.N_drewN | apply Kd.N_drew)); exact HO_4.out) gb361 (Nat.le_of_eq hg.symm)) hb); have n1_ := Aside0.mk (below_step (by repeat (first | (with_reducible first | exact HB.out | apply bA | apply bN | apply bD) | exact HB.out)) hb); have n2_ := Aside0.mk (hbox); have n3_ := Aside0.mk ((by rw [hg]; exact (below_size (by repeat (first | (with_reducible first | exact HB.out | apply bA | apply bN | apply bD) | exact HB.out))) : w.heap.size ≤ gb361)); have n4_ := Aside0.mk ((by rw [hg]; exact (below_size (by repeat (first | (with_reducible first | exact HB.out | apply bA | apply bN | apply bD) | exact HB.out))) : w.heap.size ≤ gb361)); clear HO_4; clear HB; have HO_4 := n0_; have HB := n1_; have BK361 := n2_; have GW361 := n3_; have GE361 := n4_; clear n0_ n1_ n2_ n3_ n4_; clear hb hbox hg; have hcz12_0 : w11.cell? ⟨gb361, 0, none⟩ = some (.int .i64 0) := (blk_cell BK361.out 0).trans rfl; have hcz12_1 : w11.cell? ⟨gb361, 1, none⟩ = some (.int .i64 0) := (blk_cell BK361.out 1).trans rfl; have hcz12_2 : w11.cell? ⟨gb361, 2, none⟩ = some (.string (⟨#[]⟩ : ByteArray)) := (blk_cell BK361.out 2).trans rfl; have hcz12_3 : w11.cell? ⟨gb361, 3, none⟩ = some (.slice none 0 0) := (blk_cell BK361.out 3).trans rfl; have hcz12_4 : w11.cell? ⟨gb361, 4, none⟩ = some (.string (⟨#[]⟩ : ByteArray)) := (blk_cell BK361.out 4).trans rfl; have hfz12_0 := blk_frozen BK361.out 0; have hfz12_1 := blk_frozen BK361.out 1; have hfz12_2 := blk_frozen BK361.out 2; have hfz12_3 := blk_frozen BK361.out 3; have hfz12_4 := blk_frozen BK361.out 4) | ((with_reducible refine gate_callee (f := 17) rfl ?_); refine goesL_ (some 24) rfl rfl Tryd.func17 (by kernel_rfl) rfl #[.agg #[.int .i64 ((rd_T38 l0 x19_1).f0), .int .i64 ((rd_T38 l0 x19_1).f1), .string ((rd_T38 l0 x19_1).f2), .slice A360_3 ((rd_T38 l0 x19_1).f3).length c360_3, .string ((rd_T38 l0 x19_1).f4)]] rfl (by (try simp only [List.map_toArray, List.map_cons, List.map_nil]); first | done | rfl | (simp only [List.length_drop, List.length_take]; rfl)) ?_; (with_reducible refine (treenaillaw01_large.calls k1 ((rd_T38 l0 x19_1).f0) ((rd_T38 l0 x19_1).f1) ((rd_T38 l0 x19_1).f2) _ _ ((rd_T38 l0 x19_1).f3) ((rd_T38 l0 x19_1).f4) true _ ?side1 ?side2 A8.out).mono ?_); (case side1 => exact Kd.C_below HR360_3.out (by repeat (first | (with_reducible first | exact HB.out | apply bA | apply bN | apply bD | refine below_set ?_ GE361.out) | exact HB.out))); (case side2 => exact HC360_3.out); rintro e w13 ⟨rfl, hb⟩; refine ⟨_, rfl, ?_⟩; have n0_ := Aside0.mk (Kd.N_below (by (with_reducible repeat (first | apply Kd.N_alloc | apply Kd.N_drewN | apply Kd.N_drew)); exact (Kd.N_mono (Kd.N_far (p := ⟨gb361, 4, none⟩) (Kd.N_far (p := ⟨gb361, 3, none⟩) (Kd.N_far (p := ⟨gb361, 2, none⟩) (Kd.N_far (p := ⟨gb361, 1, none⟩) (Kd.N_far (p := ⟨gb361, 0, none⟩) (Kd.N_mono HO_4.out (fun k_ hk => (⟨hk, hk.2⟩ : _ ∧ k_ ≠ gb361))) (fun _ hk => hk.2) (.int .i64 ((rd_T38 l0 x19_1).f0))) (fun _ hk => hk.2) (.int .i64 ((rd_T38 l0 x19_1).f1))) (fun _ hk => hk.2) (.string ((rd_T38 l0 x19_1).f2))) (fun _ hk => hk.2) (.slice A360_3 ((rd_T38 l0 x19_1).f3).length c360_3)) (fun _ hk => hk.2) (.string ((rd_T38 l0 x19_1).f4))) (fun _ h_ => h_.1))) hb); have n1_ := Aside0.mk (blk_below (g := gb361) (o := .cells #[.int .i64 ((rd_T38 l0 x19_1).f0), .int .i64 ((rd_T38 l0 x19_1).f1), .string ((rd_T38 l0 x19_1).f2), .slice A360_3 ((rd_T38 l0 x19_1).f3).length c360_3, .string ((rd_T38 l0 x19_1).f4)] 38 (0, 0)) (by (with_reducible repeat (first | refine kN ?_ _ | refine kD ?_ | refine kA ?_ _)); refine blk_put (cs := #[.int .i64 ((rd_T38 l0 x19_1).f0), .int .i64 ((rd_T38 l0 x19_1).f1), .string ((rd_T38 l0 x19_1).f2), .slice A360_3 ((rd_T38 l0 x19_1).f3).length c360_3, .string (⟨#[]⟩ : ByteArray)]) ?_ 4 _ rfl; (with_reducible repeat (first | refine kN ?_ _ | refine kD ?_ | refine kA ?_ _)); refine blk_put (cs := #[.int .i64 ((rd_T38 l0 x19_1).f0), .int .i64 ((rd_T38 l0 x19_1).f1), .string ((rd_T38 l0 x19_1).f2), .slice none 0 0, .string (⟨#[]⟩ : ByteArray)]) ?_ 3 _ rfl; (with_reducible repeat (first | refine kN ?_ _ | refine kD ?_ | refine kA ?_ _)); refine blk_put (cs := #[.int .i64 ((rd_T38 l0 x19_1).f0), .int .i64 ((rd_T38 l0 x19_1).f1), .string (⟨#[]⟩ : ByteArray), .slice none 0 0, .string (⟨#[]⟩ : ByteArray)]) ?_ 2 _ rfl; (with_reducible repeat (first | refine kN ?_ _ | refine kD ?_ | refine kA ?_ _)); refine blk_put (cs := #[.int .i64 ((rd_T38 l0 x19_1).f0), .int .i64 0, .string (⟨#[]⟩ : ByteArray), .slice none 0 0, .string (⟨#[]⟩ : ByteArray)]) ?_ 1 _ rfl; (with_reducible repeat (first | refine kN ?_ _ | refine kD ?_ | refine kA ?_ _)); refine blk_put (cs := #[.int .i64 0, .int .i64 0, .string (⟨#[]⟩ : ByteArray), .slice none 0 0, .string (⟨#[]⟩ : ByteArray)]) ?_ 0 _ rfl; (with_reducible repeat (first | refine kN ?_ _ | refine kD ?_ | refine kA ?_ _)); exact BK361.out) hb); have n2_ := Aside0.mk (below_step (by repeat (first | (with_reducible first | exact HB.out | apply bA | apply bN | apply bD | refine below_set ?_ GE361.out) | exact HB.out)) hb); clear HO_4; clear BK361; clear HB; have HO_4 := n0_; have BK361 := n1_; have HB := n2_; clear n0_ n1_ n2_; (try clear hb); (try clear hb2); (try clear hk); (try clear hi)) | ((with_reducible refine gate_callee (f := 9) rfl ?_); refine goesL_ (some 25) rfl rfl Tryd.func9 (by kernel_rfl) rfl #[] rfl (by (try simp only [List.map_toArray, List.map_cons, List.map_nil]); first | done | rfl | (simp only [List.length_drop, List.length_take]; rfl)) ?_; (with_reducible refine (treenaillaw01_opens.calls k1  t363 _ A10.out ?hT_).mono ?_); (case hT_ => exact Tabs.tab_below HT0.out (by repeat (first | (with_reducible first | exact HB.out | apply bA | apply bN | apply bD | refine below_set ?_ GE361.out) | exact HB.out))); rintro e w14 ⟨rfl, hb⟩; refine ⟨_, rfl, ?_⟩; have n0_ := Aside0.mk (Kd.N_below (by (with_reducible repeat (first | apply Kd.N_alloc | apply Kd.N_drewN | apply Kd.N_drew)); exact HO_4.out) hb); have n1_ := Aside0.mk (blk_below (g := gb361) (o := .cells #[.int .i64 ((rd_T38 l0 x19_1).f0), .int .i64 ((rd_T38 l0 x19_1).f1), .string ((rd_T38 l0 x19_1).f2), .slice A360_3 ((rd_T38 l0 x19_1).f3).length c360_3, .string ((rd_T38 l0 x19_1).f4)] 38 (0, 0)) (by (with_reducible repeat (first | refine kN ?_ _ | refine kD ?_ | refine kA ?_ _)); exact BK361.out) hb); have n2_ := Aside0.mk (below_step (by repeat (first | (with_reducible first | exact HB.out | apply bA | apply bN | apply bD | refine below_set ?_ GE361.out) | exact HB.out)) hb); clear HO_4; clear BK361; clear HB; have HO_4 := n0_; have BK361 := n1_; have HB := n2_; clear n0_ n1_ n2_; (try clear hb); (try clear hb2); (try clear hk); (try clear hi)))
        go_ret
        exact ⟨by first | rfl | (simp [errW_none, errW_some] <;> rfl) | (simp [*, errW_none, errW_some] <;> rfl), by repeat (first | (with_reducible first | exact HB.out | apply bA | apply bN | apply bD | refine below_set ?_ GE361.out) | exact HB.out)⟩
       ·replace c9 := Bool.eq_false_iff.mpr c9
        subst c9
        have H1 : ((mark_Write.f k1 ((rd_T38 l0 x19_1).f0) ((rd_T38 l0 x19_1).f1) ((rd_T38 l0 x19_1).f2) ((rd_T38 l0 x19_1).f3) ((rd_T38 l0 x19_1).f4)).bind fun bt364 => (if bt364.2 = 0 then (if (x4_1.length : Int) > 0 then (if ((rd_T38 l0 x19_1).f0) = 3 then (if 0 ≤ (wrap64 ((x4_1.length : Int) - 1)) then (if (wrap64 ((x4_1.length : Int) - 1)) < (x4_1.length : Int) then (treenaillaw01_MarkBack.j1 k1 x3_1 x4_1 bt364.1 l0 (l0.length : Int) x19_1 (((rd_T34 x4_1 (wrap64 ((x4_1.length : Int) - 1))).f0) == 3) ((rd_T38 l0 x19_1).f0) ((rd_T38 l0 x19_1).f1) ((rd_T38 l0 x19_1).f2) ((rd_T38 l0 x19_1).f3) ((rd_T38 l0 x19_1).f4)) else (none)) else (none)) else (treenaillaw01_MarkBack.j1 k1 x3_1 x4_1 bt364.1 l0 (l0.length : Int) x19_1 false ((rd_T38 l0 x19_1).f0) ((rd_T38 l0 x19_1).f1) ((rd_T38 l0 x19_1).f2) ((rd_T38 l0 x19_1).f3) ((rd_T38 l0 x19_1).f4))) else (treenaillaw01_MarkBack.j1 k1 x3_1 x4_1 bt364.1 l0 (l0.length : Int) x19_1 false ((rd_T38 l0 x19_1).f0) ((rd_T38 l0 x19_1).f1) ((rd_T38 l0 x19_1).f2) ((rd_T38 l0 x19_1).f3) ((rd_T38 l0 x19_1).f4))) else (treenaillaw01_MarkBack.j1 k1 x3_1 x4_1 bt364.1 l0 (l0.length : Int) x19_1 true ((rd_T38 l0 x19_1).f0) ((rd_T38 l0 x19_1).f1) ((rd_T38 l0 x19_1).f2) ((rd_T38 l0 x19_1).f3) ((rd_T38 l0 x19_1).f4)))) = some r := by rw [if_neg (show ¬ (false = true) by decide)] at H; exact H
        clear H
        have H := H1
        clear H1
        replace H := Option.bind_eq_some_iff.mp H
        obtain ⟨⟨t364, t365⟩, A150, H⟩ := H
        replace H : (if t365 = 0 then (if (x4_1.length : Int) > 0 then (if ((rd_T38 l0 x19_1).f0) = 3 then (if 0 ≤ (wrap64 ((x4_1.length : Int) - 1)) then (if (wrap64 ((x4_1.length : Int) - 1)) < (x4_1.length : Int) then (treenaillaw01_MarkBack.j1 k1 x3_1 x4_1 t364 l0 (l0.length : Int) x19_1 (((rd_T34 x4_1 (wrap64 ((x4_1.length : Int) - 1))).f0) == 3) ((rd_T38 l0 x19_1).f0) ((rd_T38 l0 x19_1).f1) ((rd_T38 l0 x19_1).f2) ((rd_T38 l0 x19_1).f3) ((rd_T38 l0 x19_1).f4)) else (none)) else (none)) else (treenaillaw01_MarkBack.j1 k1 x3_1 x4_1 t364 l0 (l0.length : Int) x19_1 false ((rd_T38 l0 x19_1).f0) ((rd_T38 l0 x19_1).f1) ((rd_T38 l0 x19_1).f2) ((rd_T38 l0 x19_1).f3) ((rd_T38 l0 x19_1).f4))) else (treenaillaw01_MarkBack.j1 k1 x3_1 x4_1 t364 l0 (l0.length : Int) x19_1 false ((rd_T38 l0 x19_1).f0) ((rd_T38 l0 x19_1).f1) ((rd_T38 l0 x19_1).f2) ((rd_T38 l0 x19_1).f3) ((rd_T38 l0 x19_1).f4))) else (treenaillaw01_MarkBack.j1 k1 x3_1 x4_1 t364 l0 (l0.length : Int) x19_1 true ((rd_T38 l0 x19_1).f0) ((rd_T38 l0 x19_1).f1) ((rd_T38 l0 x19_1).f2) ((rd_T38 l0 x19_1).f3) ((rd_T38 l0 x19_1).f4))) = some r := H
        have A15 := Aside0.mk A150
        clear A150
        have HC16 := Aside0.mk H
        clear H
        have p360 : 0 ≤ (x19_1 : Int) := of_decide_eq_true (by first | (with_reducible assumption) | assumption)
        have q360 : x19_1 < (l0.length : Int) := of_decide_eq_true (by first | (with_reducible assumption) | assumption)
        obtain ⟨ad360, A360_3, c360_3, e360, hx360_0, hx360_1, hx360_2, hx360_3, hx360_4, hl360_3, hi360_3⟩ := at_T38 HR0.out x19_1 p360 q360
        cases e360
        replace hx360_0 := (HB.out.cell (World.block_lt_of_cell? w _ hx360_0)).trans hx360_0
        replace hx360_1 := (HB.out.cell (World.block_lt_of_cell? w _ hx360_1)).trans hx360_1
        replace hx360_2 := (HB.out.cell (World.block_lt_of_cell? w _ hx360_2)).trans hx360_2
        replace hx360_3 := (HB.out.cell (World.block_lt_of_cell? w _ hx360_3)).trans hx360_3
        replace hx360_4 := (HB.out.cell (World.block_lt_of_cell? w _ hx360_4)).trans hx360_4
        have HR360_3 := Aside0.mk hi360_3
        have HC360_3 := Aside0.mk hl360_3
        clear hi360_3 hl360_3
        replace p360 := eq_true p360
        replace q360 := eq_true q360
        go_upto_region 11 with (first | ((with_reducible refine gate_dst (N := 6) rfl ?_); (try (refine gate_guard (by rfl) ?_; dsimp only)); refine box_event ?hg (N := 6) ?hd (cs := #[.int .i64 0, .int .i64 0, .string (⟨#[]⟩ : ByteArray), .slice none 0 0, .string (⟨#[]⟩ : ByteArray)]) (t := 38) ?hr ?_; (case hd => rfl); (case hg => rfl); (case hr => first | (go_simp; done) | (go_simp; rfl)); intro gb361 hg w17 hbox hb; have n0_ := Aside0.mk (Kd.N_below (Kd.N_elderB (by (with_reducible repeat (first | apply Kd.N_alloc | apply Kd.N_drewN | apply Kd.N_drew)); exact HO_4.out) gb361 (Nat.le_of_eq hg.symm)) hb); have n1_ := Aside0.mk (below_step (by repeat (first | (with_reducible first | exact HB.out | apply bA | apply bN | apply bD) | exact HB.out)) hb); have n2_ := Aside0.mk (hbox); have n3_ := Aside0.mk ((by rw [hg]; exact (below_size (by repeat (first | (with_reducible first | exact HB.out | apply bA | apply bN | apply bD) | exact HB.out))) : w.heap.size ≤ gb361)); have n4_ := Aside0.mk ((by rw [hg]; exact (below_size (by repeat (first | (with_reducible first | exact HB.out | apply bA | apply bN | apply bD) | exact HB.out))) : w.heap.size ≤ gb361)); clear HO_4; clear HB; have HO_4 := n0_; have HB := n1_; have BK361 := n2_; have GW361 := n3_; have GE361 := n4_; clear n0_ n1_ n2_ n3_ n4_; clear hb hbox hg; have hcz18_0 : w17.cell? ⟨gb361, 0, none⟩ = some (.int .i64 0) := (blk_cell BK361.out 0).trans rfl; have hcz18_1 : w17.cell? ⟨gb361, 1, none⟩ = some (.int .i64 0) := (blk_cell BK361.out 1).trans rfl; have hcz18_2 : w17.cell? ⟨gb361, 2, none⟩ = some (.string (⟨#[]⟩ : ByteArray)) := (blk_cell BK361.out 2).trans rfl; have hcz18_3 : w17.cell? ⟨gb361, 3, none⟩ = some (.slice none 0 0) := (blk_cell BK361.out 3).trans rfl; have hcz18_4 : w17.cell? ⟨gb361, 4, none⟩ = some (.string (⟨#[]⟩ : ByteArray)) := (blk_cell BK361.out 4).trans rfl; have hfz18_0 := blk_frozen BK361.out 0; have hfz18_1 := blk_frozen BK361.out 1; have hfz18_2 := blk_frozen BK361.out 2; have hfz18_3 := blk_frozen BK361.out 3; have hfz18_4 := blk_frozen BK361.out 4) | ((with_reducible refine gate_callee (f := 17) rfl ?_); refine goesL_ (some 24) rfl rfl Tryd.func17 (by kernel_rfl) rfl #[.agg #[.int .i64 ((rd_T38 l0 x19_1).f0), .int .i64 ((rd_T38 l0 x19_1).f1), .string ((rd_T38 l0 x19_1).f2), .slice A360_3 ((rd_T38 l0 x19_1).f3).length c360_3, .string ((rd_T38 l0 x19_1).f4)]] rfl (by (try simp only [List.map_toArray, List.map_cons, List.map_nil]); first | done | rfl | (simp only [List.length_drop, List.length_take]; rfl)) ?_; (with_reducible refine (treenaillaw01_large.calls k1 ((rd_T38 l0 x19_1).f0) ((rd_T38 l0 x19_1).f1) ((rd_T38 l0 x19_1).f2) _ _ ((rd_T38 l0 x19_1).f3) ((rd_T38 l0 x19_1).f4) false _ ?side1 ?side2 A8.out).mono ?_); (case side1 => exact Kd.C_below HR360_3.out (by repeat (first | (with_reducible first | exact HB.out | apply bA | apply bN | apply bD | refine below_set ?_ GE361.out) | exact HB.out))); (case side2 => exact HC360_3.out); rintro e w19 ⟨rfl, hb⟩; refine ⟨_, rfl, ?_⟩; have n0_ := Aside0.mk (Kd.N_below (by (with_reducible repeat (first | apply Kd.N_alloc | apply Kd.N_drewN | apply Kd.N_drew)); exact (Kd.N_mono (Kd.N_far (p := ⟨gb361, 4, none⟩) (Kd.N_far (p := ⟨gb361, 3, none⟩) (Kd.N_far (p := ⟨gb361, 2, none⟩) (Kd.N_far (p := ⟨gb361, 1, none⟩) (Kd.N_far (p := ⟨gb361, 0, none⟩) (Kd.N_mono HO_4.out (fun k_ hk => (⟨hk, hk.2⟩ : _ ∧ k_ ≠ gb361))) (fun _ hk => hk.2) (.int .i64 ((rd_T38 l0 x19_1).f0))) (fun _ hk => hk.2) (.int .i64 ((rd_T38 l0 x19_1).f1))) (fun _ hk => hk.2) (.string ((rd_T38 l0 x19_1).f2))) (fun _ hk => hk.2) (.slice A360_3 ((rd_T38 l0 x19_1).f3).length c360_3)) (fun _ hk => hk.2) (.string ((rd_T38 l0 x19_1).f4))) (fun _ h_ => h_.1))) hb); have n1_ := Aside0.mk (blk_below (g := gb361) (o := .cells #[.int .i64 ((rd_T38 l0 x19_1).f0), .int .i64 ((rd_T38 l0 x19_1).f1), .string ((rd_T38 l0 x19_1).f2), .slice A360_3 ((rd_T38 l0 x19_1).f3).length c360_3, .string ((rd_T38 l0 x19_1).f4)] 38 (0, 0)) (by (with_reducible repeat (first | refine kN ?_ _ | refine kD ?_ | refine kA ?_ _)); refine blk_put (cs := #[.int .i64 ((rd_T38 l0 x19_1).f0), .int .i64 ((rd_T38 l0 x19_1).f1), .string ((rd_T38 l0 x19_1).f2), .slice A360_3 ((rd_T38 l0 x19_1).f3).length c360_3, .string (⟨#[]⟩ : ByteArray)]) ?_ 4 _ rfl; (with_reducible repeat (first | refine kN ?_ _ | refine kD ?_ | refine kA ?_ _)); refine blk_put (cs := #[.int .i64 ((rd_T38 l0 x19_1).f0), .int .i64 ((rd_T38 l0 x19_1).f1), .string ((rd_T38 l0 x19_1).f2), .slice none 0 0, .string (⟨#[]⟩ : ByteArray)]) ?_ 3 _ rfl; (with_reducible repeat (first | refine kN ?_ _ | refine kD ?_ | refine kA ?_ _)); refine blk_put (cs := #[.int .i64 ((rd_T38 l0 x19_1).f0), .int .i64 ((rd_T38 l0 x19_1).f1), .string (⟨#[]⟩ : ByteArray), .slice none 0 0, .string (⟨#[]⟩ : ByteArray)]) ?_ 2 _ rfl; (with_reducible repeat (first | refine kN ?_ _ | refine kD ?_ | refine kA ?_ _)); refine blk_put (cs := #[.int .i64 ((rd_T38 l0 x19_1).f0), .int .i64 0, .string (⟨#[]⟩ : ByteArray), .slice none 0 0, .string (⟨#[]⟩ : ByteArray)]) ?_ 1 _ rfl; (with_reducible repeat (first | refine kN ?_ _ | refine kD ?_ | refine kA ?_ _)); refine blk_put (cs := #[.int .i64 0, .int .i64 0, .string (⟨#[]⟩ : ByteArray), .slice none 0 0, .string (⟨#[]⟩ : ByteArray)]) ?_ 0 _ rfl; (with_reducible repeat (first | refine kN ?_ _ | refine kD ?_ | refine kA ?_ _)); exact BK361.out) hb); have n2_ := Aside0.mk (below_step (by repeat (first | (with_reducible first | exact HB.out | apply bA | apply bN | apply bD | refine below_set ?_ GE361.out) | exact HB.out)) hb); clear HO_4; clear BK361; clear HB; have HO_4 := n0_; have BK361 := n1_; have HB := n2_; clear n0_ n1_ n2_; (try clear hb); (try clear hb2); (try clear hk); (try clear hi); have hcz20_0 : w19.cell? ⟨gb361, 0, none⟩ = some (.int .i64 ((rd_T38 l0 x19_1).f0)) := (blk_cell BK361.out 0).trans rfl; have hcz20_1 : w19.cell? ⟨gb361, 1, none⟩ = some (.int .i64 ((rd_T38 l0 x19_1).f1)) := (blk_cell BK361.out 1).trans rfl; have hcz20_2 : w19.cell? ⟨gb361, 2, none⟩ = some (.string ((rd_T38 l0 x19_1).f2)) := (blk_cell BK361.out 2).trans rfl; have hcz20_3 : w19.cell? ⟨gb361, 3, none⟩ = some (.slice A360_3 ((rd_T38 l0 x19_1).f3).length c360_3) := (blk_cell BK361.out 3).trans rfl; have hcz20_4 : w19.cell? ⟨gb361, 4, none⟩ = some (.string ((rd_T38 l0 x19_1).f4)) := (blk_cell BK361.out 4).trans rfl; have hfz20_0 := blk_frozen BK361.out 0; have hfz20_1 := blk_frozen BK361.out 1; have hfz20_2 := blk_frozen BK361.out 2; have hfz20_3 := blk_frozen BK361.out 3; have hfz20_4 := blk_frozen BK361.out 4) | ((with_reducible refine gate_callee (f := 18) rfl ?_); refine goesL_ (some 28) rfl rfl Tryd.func18 (by kernel_rfl) rfl #[.agg #[.int .i64 ((rd_T38 l0 x19_1).f0), .int .i64 ((rd_T38 l0 x19_1).f1), .string ((rd_T38 l0 x19_1).f2), .slice A360_3 ((rd_T38 l0 x19_1).f3).length c360_3, .string ((rd_T38 l0 x19_1).f4)]] rfl (by (try simp only [List.map_toArray, List.map_cons, List.map_nil]); first | done | rfl | (simp only [List.length_drop, List.length_take]; rfl)) ?_; (with_reducible refine (mark_Write.calls k1 ((rd_T38 l0 x19_1).f0) ((rd_T38 l0 x19_1).f1) ((rd_T38 l0 x19_1).f2) _ _ ((rd_T38 l0 x19_1).f3) ((rd_T38 l0 x19_1).f4) t364 t365 _ ?side1 ?side2 A15.out ?hT_).mono ?_); (case hT_ => exact Tabs.tab_below HT0.out (by repeat (first | (with_reducible first | exact HB.out | apply bA | apply bN | apply bD | refine below_set ?_ GE361.out) | exact HB.out))); (case side1 => repeat (first | exact (Kd.C_below HR360_3.out HB.out) | (with_reducible refine Kd.C_alloc ?_ _) | (with_reducible refine Kd.C_drewN ?_ _) | (with_reducible refine Kd.C_drew ?_))); (case side2 => exact HC360_3.out); rintro e w21 ⟨rfl, hb⟩; refine ⟨_, rfl, ?_⟩; have n0_ := Aside0.mk (Kd.N_below (by (with_reducible repeat (first | apply Kd.N_alloc | apply Kd.N_drewN | apply Kd.N_drew)); exact HO_4.out) hb); have n1_ := Aside0.mk (blk_below (g := gb361) (o := .cells #[.int .i64 ((rd_T38 l0 x19_1).f0), .int .i64 ((rd_T38 l0 x19_1).f1), .string ((rd_T38 l0 x19_1).f2), .slice A360_3 ((rd_T38 l0 x19_1).f3).length c360_3, .string ((rd_T38 l0 x19_1).f4)] 38 (0, 0)) (by (with_reducible repeat (first | refine kN ?_ _ | refine kD ?_ | refine kA ?_ _)); exact BK361.out) hb); have n2_ := Aside0.mk (below_step (by repeat (first | (with_reducible first | exact HB.out | apply bA | apply bN | apply bD | refine below_set ?_ GE361.out) | exact HB.out)) hb); clear HO_4; clear BK361; clear HB; have HO_4 := n0_; have BK361 := n1_; have HB := n2_; clear n0_ n1_ n2_; (try clear hb); (try clear hb2); (try clear hk); (try clear hi)))
        (try simp only [Act.put, List.setIfInBounds_toArray, List.set_cons_zero, List.set_cons_succ])
        go_cut [52] (fun v52 wc => ∃ (kq : Nat) (x52_15 : Bool), v52 = .bool x52_15 ∧ Aside0 (treenaillaw01_MarkBack.j1 kq x3_1 x4_1 t364 l0 (l0.length : Int) x19_1 x52_15 ((rd_T38 l0 x19_1).f0) ((rd_T38 l0 x19_1).f1) ((rd_T38 l0 x19_1).f2) ((rd_T38 l0 x19_1).f3) ((rd_T38 l0 x19_1).f4) = some r) ∧ Aside0 (kq ≤ k1) ∧ Aside0 (Kd.N k34 34 wc w.heap.size (fun k_ => k_ ≠ gb361) u4 x4_1) ∧ Aside0 (wc.heap[gb361]? = some (.cells #[.int .i64 ((rd_T38 l0 x19_1).f0), .int .i64 ((rd_T38 l0 x19_1).f1), .string ((rd_T38 l0 x19_1).f2), (.slice A360_3 ((rd_T38 l0 x19_1).f3).length c360_3), .string ((rd_T38 l0 x19_1).f4)] 38 (0, 0))) ∧ Aside0 (Below w.heap.size w wc))
        case first =>
         have H := HC16.out
         clear HC16
         by_cases c22 : t365 = 0
         ·rw [if_pos c22] at H
          have c22b0 : (t365 == 0) = true := beq_iff_eq.mpr c22
          have c22b1 : (t365 != 0) = false := bne_eq_false_iff_eq.mpr c22
          clear c22
          (first | rw [c22b0] | (simp only [i64_w, i32_w]; rw [c22b0]) | skip)
          by_cases c23 : (x4_1.length : Int) > 0
          ·rw [if_pos c23] at H
           have c23b0 : decide (0 < (x4_1.length : Int)) = true := decide_eq_true c23
           have c23b1 : decide (0 < x4_1.length) = true := decide_eq_true (by omega)
           clear c23
           by_cases c24 : ((rd_T38 l0 x19_1).f0) = 3
           ·rw [if_pos c24] at H
            have c24b0 : (((rd_T38 l0 x19_1).f0) == 3) = true := beq_iff_eq.mpr c24
            have c24b1 : (((rd_T38 l0 x19_1).f0) != 3) = false := bne_eq_false_iff_eq.mpr c24
            clear c24
            obtain ⟨ji25, hji25⟩ : ∃ j_ : Int, (wrap64 ((x4_1.length : Int) - 1)) = j_ := ⟨_, rfl⟩
            replace H : (if 0 ≤ (ji25) then (if (ji25) < (x4_1.length : Int) then (treenaillaw01_MarkBack.j1 k1 x3_1 x4_1 t364 l0 (l0.length : Int) x19_1 (((rd_T34 x4_1 (ji25)).f0) == 3) ((rd_T38 l0 x19_1).f0) ((rd_T38 l0 x19_1).f1) ((rd_T38 l0 x19_1).f2) ((rd_T38 l0 x19_1).f3) ((rd_T38 l0 x19_1).f4)) else (none)) else (none)) = some r := by first | (rw [hji25] at H; exact H) | (simp only [hji25] at H ⊢; exact H)
            have hji25w : (IntKind.i64.wrap ((x4_1.length : Int) - 1)) = ji25 := (i64_w _).trans hji25
            by_cases c26 : 0 ≤ (ji25)
            ·rw [if_pos c26] at H
             have c26b0 : decide (0 ≤ (ji25)) = true := decide_eq_true c26
             clear c26
             by_cases c27 : (ji25) < (x4_1.length : Int)
             ·rw [if_pos c27] at H
              have c27b0 : decide ((ji25) < (x4_1.length : Int)) = true := decide_eq_true c27
              clear c27
              have H' := Aside0.mk H
              clear H
              obtain ⟨Ao28, co28, eo28⟩ := Kd.N_slice HO_4.out
              subst eo28
              have hcz29_0 : w21.cell? ⟨gb361, 0, none⟩ = some (.int .i64 ((rd_T38 l0 x19_1).f0)) := (blk_cell BK361.out 0).trans rfl
              have hcz29_1 : w21.cell? ⟨gb361, 1, none⟩ = some (.int .i64 ((rd_T38 l0 x19_1).f1)) := (blk_cell BK361.out 1).trans rfl
              have hcz29_2 : w21.cell? ⟨gb361, 2, none⟩ = some (.string ((rd_T38 l0 x19_1).f2)) := (blk_cell BK361.out 2).trans rfl
              have hcz29_3 : w21.cell? ⟨gb361, 3, none⟩ = some (.slice A360_3 ((rd_T38 l0 x19_1).f3).length c360_3) := (blk_cell BK361.out 3).trans rfl
              have hcz29_4 : w21.cell? ⟨gb361, 4, none⟩ = some (.string ((rd_T38 l0 x19_1).f4)) := (blk_cell BK361.out 4).trans rfl
              have hfz29_0 := blk_frozen BK361.out 0
              have hfz29_1 := blk_frozen BK361.out 1
              have hfz29_2 := blk_frozen BK361.out 2
              have hfz29_3 := blk_frozen BK361.out 3
              have hfz29_4 := blk_frozen BK361.out 4
              have p366 : 0 ≤ ((ji25) : Int) := of_decide_eq_true (by first | (with_reducible assumption) | assumption)
              have q366 : (ji25) < (x4_1.length : Int) := of_decide_eq_true (by first | (with_reducible assumption) | assumption)
              obtain ⟨ad366, A366_3, c366_3, e366, hx366_0, hx366_1, hx366_2, hx366_3, hx366_4, hl366_3, hi366_3⟩ := at_T34 (Kd.N_reads' HO_4.out).2.2 (ji25) p366 q366
              cases e366
              obtain ⟨ce366, hce366, hMe366, hcc366⟩ := Kd.N_get HO_4.out z34 (ji25) p366 (by first | exact q366 | exact of_decide_eq_true (by first | (with_reducible assumption) | assumption) | (have e_ := (Kd.N_reads' HO_4.out).1; omega))
              obtain ⟨ua366_3, uc366_3, rfl, ul366_3, ge366_3⟩ := k34_openF hMe366
              have hv366_3 := hcc366 3 _ rfl
              rw [add_field _ _ 3 (by omega)] at hv366_3
              replace hv366_3 := Option.some.inj (hv366_3.symm.trans hx366_3)
              injection hv366_3 with hva_ hvn_ hvc_
              rw [hva_] at ge366_3
              rw [hvc_] at ul366_3
              have HL366_3 := Aside0.mk (show Kd.V k60 60 _ w.heap.size _ _ ((rd_T34 x4_1 (ji25)).f3) from Kd.V_mk ul366_3 ge366_3)
              clear hva_ hvn_ hvc_ ge366_3 ul366_3
              clear hcc366 hce366
              have HR366_3 := Aside0.mk hi366_3
              have HC366_3 := Aside0.mk hl366_3
              clear hi366_3 hl366_3
              replace p366 := eq_true p366
              replace q366 := eq_true q366
              go_wp2
              go_meet
              case rel => exact ⟨_, ((((rd_T34 x4_1 (ji25)).f0) == 3)), (by first | rfl | (simp; done) | (simp only [← hji25] <;> (first | rfl | simp)) | (simp [*]; done)), H', ⟨by have := HK1.out; first | omega | exact Nat.le_refl _⟩, ⟨by (with_reducible repeat (first | apply Kd.N_alloc | apply Kd.N_drewN | apply Kd.N_drew)); exact Kd.N_mono HO_4.out (fun _ hk => hk.2)⟩, ⟨by (with_reducible repeat (first | refine kN ?_ _ | refine kD ?_ | refine kA ?_ _)); exact BK361.out⟩, ⟨by repeat (first | (with_reducible first | exact HB.out | apply bA | apply bN | apply bD | refine below_set ?_ GE361.out) | exact HB.out)⟩⟩
             ·rw [if_neg c27] at H
              exact absurd H (by simp)
            ·rw [if_neg c26] at H
             exact absurd H (by simp)
           ·rw [if_neg c24] at H
            have c24b0 : (((rd_T38 l0 x19_1).f0) == 3) = false := beq_eq_false_iff_ne.mpr c24
            have c24b1 : (((rd_T38 l0 x19_1).f0) != 3) = true := bne_iff_ne.mpr c24
            have H' := Aside0.mk H
            clear H
            obtain ⟨Ao30, co30, eo30⟩ := Kd.N_slice HO_4.out
            subst eo30
            have hcz31_0 : w21.cell? ⟨gb361, 0, none⟩ = some (.int .i64 ((rd_T38 l0 x19_1).f0)) := (blk_cell BK361.out 0).trans rfl
            have hcz31_1 : w21.cell? ⟨gb361, 1, none⟩ = some (.int .i64 ((rd_T38 l0 x19_1).f1)) := (blk_cell BK361.out 1).trans rfl
            have hcz31_2 : w21.cell? ⟨gb361, 2, none⟩ = some (.string ((rd_T38 l0 x19_1).f2)) := (blk_cell BK361.out 2).trans rfl
            have hcz31_3 : w21.cell? ⟨gb361, 3, none⟩ = some (.slice A360_3 ((rd_T38 l0 x19_1).f3).length c360_3) := (blk_cell BK361.out 3).trans rfl
            have hcz31_4 : w21.cell? ⟨gb361, 4, none⟩ = some (.string ((rd_T38 l0 x19_1).f4)) := (blk_cell BK361.out 4).trans rfl
            have hfz31_0 := blk_frozen BK361.out 0
            have hfz31_1 := blk_frozen BK361.out 1
            have hfz31_2 := blk_frozen BK361.out 2
            have hfz31_3 := blk_frozen BK361.out 3
            have hfz31_4 := blk_frozen BK361.out 4
            go_wp2
            go_meet
            case rel => exact ⟨_, (false), (by first | rfl | (simp; done) | (simp [*]; done)), H', ⟨by have := HK1.out; first | omega | exact Nat.le_refl _⟩, ⟨by (with_reducible repeat (first | apply Kd.N_alloc | apply Kd.N_drewN | apply Kd.N_drew)); exact Kd.N_mono HO_4.out (fun _ hk => hk.2)⟩, ⟨by (with_reducible repeat (first | refine kN ?_ _ | refine kD ?_ | refine kA ?_ _)); exact BK361.out⟩, ⟨by repeat (first | (with_reducible first | exact HB.out | apply bA | apply bN | apply bD | refine below_set ?_ GE361.out) | exact HB.out)⟩⟩
          ·rw [if_neg c23] at H
           have c23b0 : decide (0 < (x4_1.length : Int)) = false := decide_eq_false c23
           try (have c23b9 := c23b0; rw [hl392_3] at c23b9)
           try (have c23b9 := c23b0; rw [hl384_3] at c23b9)
           try (have c23b9 := c23b0; rw [hl366_3] at c23b9)
           try (have c23b9 := c23b0; rw [hl360_3] at c23b9)
           have c23b1 : decide (0 < x4_1.length) = false := decide_eq_false (by omega)
           clear c23
           have H' := Aside0.mk H
           clear H
           obtain ⟨Ao32, co32, eo32⟩ := Kd.N_slice HO_4.out
           subst eo32
           go_wp2
           go_meet
           case rel => exact ⟨_, (false), (by first | rfl | (simp; done) | (simp [*]; done)), H', ⟨by have := HK1.out; first | omega | exact Nat.le_refl _⟩, ⟨by (with_reducible repeat (first | apply Kd.N_alloc | apply Kd.N_drewN | apply Kd.N_drew)); exact Kd.N_mono HO_4.out (fun _ hk => hk.2)⟩, ⟨by (with_reducible repeat (first | refine kN ?_ _ | refine kD ?_ | refine kA ?_ _)); exact BK361.out⟩, ⟨by repeat (first | (with_reducible first | exact HB.out | apply bA | apply bN | apply bD | refine below_set ?_ GE361.out) | exact HB.out)⟩⟩
         ·rw [if_neg c22] at H
          have c22b0 : (t365 == 0) = false := beq_eq_false_iff_ne.mpr c22
          have c22b1 : (t365 != 0) = true := bne_iff_ne.mpr c22
          (first | rw [c22b0] | (simp only [i64_w, i32_w]; rw [c22b0]) | skip)
          have H' := Aside0.mk H
          clear H
          go_wp2
          go_meet
          case rel => exact ⟨_, (true), (by first | rfl | (simp; done) | (simp [*]; done)), H', ⟨by have := HK1.out; first | omega | exact Nat.le_refl _⟩, ⟨by (with_reducible repeat (first | apply Kd.N_alloc | apply Kd.N_drewN | apply Kd.N_drew)); exact Kd.N_mono HO_4.out (fun _ hk => hk.2)⟩, ⟨by (with_reducible repeat (first | refine kN ?_ _ | refine kD ?_ | refine kA ?_ _)); exact BK361.out⟩, ⟨by repeat (first | (with_reducible first | exact HB.out | apply bA | apply bN | apply bD | refine below_set ?_ GE361.out) | exact HB.out)⟩⟩
        case rest =>
         clear HC16
         try clear c1
         try clear c2
         try clear c2b0
         try clear c2b1
         try clear p2
         try clear c3
         try clear p3
         try clear q3
         try clear hx3
         try clear c5
         try clear c5b0
         try clear c6
         try clear c6b0
         try clear p6
         try clear c7
         try clear c7b0
         try clear c9
         try clear c17
         try clear c18
         try clear c22
         try clear c22b0
         try clear c22b1
         try clear c23
         try clear c23b0
         try clear c23b1
         try clear c24
         try clear c24b0
         try clear c24b1
         try clear c26
         try clear c26b0
         try clear c27
         try clear c27b0
         try clear hcz12_0
         try clear hcz12_1
         try clear hcz12_2
         try clear hcz12_3
         try clear hcz12_4
         try clear hcz18_0
         try clear hcz18_1
         try clear hcz18_2
         try clear hcz18_3
         try clear hcz18_4
         try clear hcz20_0
         try clear hcz20_1
         try clear hcz20_2
         try clear hcz20_3
         try clear hcz20_4
         try clear hcz29_0
         try clear hcz29_1
         try clear hcz29_2
         try clear hcz29_3
         try clear hcz29_4
         try clear hcz31_0
         try clear hcz31_1
         try clear hcz31_2
         try clear hcz31_3
         try clear hcz31_4
         try clear hfz12_0
         try clear hfz12_1
         try clear hfz12_2
         try clear hfz12_3
         try clear hfz12_4
         try clear hfz18_0
         try clear hfz18_1
         try clear hfz18_2
         try clear hfz18_3
         try clear hfz18_4
         try clear hfz20_0
         try clear hfz20_1
         try clear hfz20_2
         try clear hfz20_3
         try clear hfz20_4
         try clear hfz29_0
         try clear hfz29_1
         try clear hfz29_2
         try clear hfz29_3
         try clear hfz29_4
         try clear hfz31_0
         try clear hfz31_1
         try clear hfz31_2
         try clear hfz31_3
         try clear hfz31_4
         try clear hx360_0
         try clear hx360_1
         try clear hx360_2
         try clear hx360_3
         try clear hx360_4
         try clear hx366_0
         try clear hx366_1
         try clear hx366_2
         try clear hx366_3
         try clear hx366_4
         try clear p2
         try clear p360
         try clear p366
         try clear q360
         try clear q366
         obtain ⟨kq, x52_15, rfl, HA, HJ15, HO_4, BK361, HB⟩ := hcut
         cases kq with
         | zero => exact absurd HA.out (by first | (intro h_; cases h_; done) | simp [treenaillaw01_MarkBack.j1])
         | succ kj15 =>
          have H := HA.out
          clear HA
          unfold treenaillaw01_MarkBack.j1 at H; try dsimp only at H
          by_cases c33 : x52_15 = true
          ·subst c33
           have H1 : (treenaillaw01_MarkBack.l0 kj15 x3_1 x4_1 l0 (l0.length : Int) (wrap64 (x19_1 + 1))) = some r := by rw [if_pos rfl] at H; exact H
           clear H
           have H := H1
           clear H1
           have H' := Aside0.mk H
           clear H
           go_wp2
           go_roundg kj15
           case measure => have := HK1.out; have := HJ15.out; omega
           case rel => exact ⟨(x3_1), (x4_1), (wrap64 (x19_1 + 1)), (by first | rfl | (simp; done) | (simp [*]; done)), (by first | rfl | (simp; done) | (simp [*]; done)), H', ⟨by have := HK1.out; have := HJ15.out; omega⟩, ⟨by (with_reducible repeat (first | apply Kd.N_alloc | apply Kd.N_drewN | apply Kd.N_drew)); exact Kd.N_mono HO_4.out (fun _ hk => trivial)⟩, ⟨by repeat (first | (with_reducible first | exact HB.out | apply bA | apply bN | apply bD | refine below_set ?_ GE361.out) | exact HB.out)⟩⟩
          ·replace c33 := Bool.eq_false_iff.mpr c33
           subst c33
           have H1 : (if x3_1.size + t364.size ≤ 9223372036854775807 then ((treenaillaw01_ref.f kj15 ((rd_T38 l0 x19_1).f0) ((rd_T38 l0 x19_1).f1) ((rd_T38 l0 x19_1).f2) ((rd_T38 l0 x19_1).f3) ((rd_T38 l0 x19_1).f4)).bind fun bt367 => (if x4_1.length < 1954687338268 then (if ((x3_1 ++ t364).size : Int) > 20000 then ((treenaillaw01_opens.f kj15).bind fun t377 => (some t377)) else (treenaillaw01_MarkBack.l0 kj15 (x3_1 ++ t364) (x4_1 ++ [(⟨bt367.1, bt367.2.1, bt367.2.2.1, bt367.2.2.2.1, bt367.2.2.2.2⟩ : S34)]) l0 (l0.length : Int) (wrap64 (x19_1 + 1)))) else (none))) else (none)) = some r := by rw [if_neg (show ¬ (false = true) by decide)] at H; exact H
           clear H
           have H := H1
           clear H1
           by_cases c34 : x3_1.size + t364.size ≤ 9223372036854775807
           ·rw [if_pos c34] at H
            have c34b0 := eq_true c34
            have c34b1 : decide (x3_1.size + t364.size ≤ 9223372036854775807) = true := decide_eq_true c34
            try have c34b2 : (9223372036854775807 < x3_1.size + t364.size) = False := eq_false (Nat.not_lt.2 c34)
            clear c34
            replace H := Option.bind_eq_some_iff.mp H
            obtain ⟨⟨t367, t368, t369, t370, t373⟩, A350, H⟩ := H
            replace H : (if x4_1.length < 1954687338268 then (if ((x3_1 ++ t364).size : Int) > 20000 then ((treenaillaw01_opens.f kj15).bind fun t377 => (some t377)) else (treenaillaw01_MarkBack.l0 kj15 (x3_1 ++ t364) (x4_1 ++ [(⟨t367, t368, t369, t370, t373⟩ : S34)]) l0 (l0.length : Int) (wrap64 (x19_1 + 1)))) else (none)) = some r := H
            have A35 := Aside0.mk A350
            clear A350
            by_cases c36 : x4_1.length < 1954687338268
            ·rw [if_pos c36] at H
             have LMc36 := Aside0.mk c36
             clear c36
             obtain ⟨y374, hy374⟩ : ∃ y_ : List (S34), y_ = (x4_1 ++ [(⟨t367, t368, t369, t370, t373⟩ : S34)]) := ⟨_, rfl⟩
             replace H : (if ((x3_1 ++ t364).size : Int) > 20000 then ((treenaillaw01_opens.f kj15).bind fun t377 => (some t377)) else (treenaillaw01_MarkBack.l0 kj15 (x3_1 ++ t364) y374 l0 (l0.length : Int) (wrap64 (x19_1 + 1)))) = some r := by first | (rw [hy374]; with_reducible exact H) | (have H2_ := (Option.bind_some _ _).symm.trans H; rw [hy374]; with_reducible exact H2_) | (have H2_ := (Option.bind_some _ _).symm.trans H; with_reducible exact H2_) | with_reducible exact H | (rw [hy374]; exact H) | exact H
             have Ny374 := Aside0.mk hy374
             clear hy374
             by_cases c37 : ((x3_1 ++ t364).size : Int) > 20000
             ·rw [if_pos c37] at H
              have c37b0 : decide (20000 < ((x3_1 ++ t364).size : Int)) = true := decide_eq_true c37
              try (have c37b6 := c37b0; simp only [ByteArray.size_append, Int.natCast_add] at c37b6)
              have c37b1 : decide (20000 < (x3_1 ++ t364).size) = true := decide_eq_true (by omega)
              clear c37
              replace H := Option.bind_eq_some_iff.mp H
              obtain ⟨t377, A380, H⟩ := H
              replace H : (some t377) = some r := H
              have A38 := Aside0.mk A380
              clear A380
              obtain rfl := Option.some.inj H
              have hcz39_0 : wc.cell? ⟨gb361, 0, none⟩ = some (.int .i64 ((rd_T38 l0 x19_1).f0)) := (blk_cell BK361.out 0).trans rfl
              have hcz39_1 : wc.cell? ⟨gb361, 1, none⟩ = some (.int .i64 ((rd_T38 l0 x19_1).f1)) := (blk_cell BK361.out 1).trans rfl
              have hcz39_2 : wc.cell? ⟨gb361, 2, none⟩ = some (.string ((rd_T38 l0 x19_1).f2)) := (blk_cell BK361.out 2).trans rfl
              have hcz39_3 : wc.cell? ⟨gb361, 3, none⟩ = some (.slice A360_3 ((rd_T38 l0 x19_1).f3).length c360_3) := (blk_cell BK361.out 3).trans rfl
              have hcz39_4 : wc.cell? ⟨gb361, 4, none⟩ = some (.string ((rd_T38 l0 x19_1).f4)) := (blk_cell BK361.out 4).trans rfl
              have hfz39_0 := blk_frozen BK361.out 0
              have hfz39_1 := blk_frozen BK361.out 1
              have hfz39_2 := blk_frozen BK361.out 2
              have hfz39_3 := blk_frozen BK361.out 3
              have hfz39_4 := blk_frozen BK361.out 4
              go_wp2_with (first | ((with_reducible refine gate_callee (f := 12) rfl ?_); refine goesL_ (some 58) rfl rfl Tryd.func12 (by kernel_rfl) rfl #[.agg #[.int .i64 ((rd_T38 l0 x19_1).f0), .int .i64 ((rd_T38 l0 x19_1).f1), .string ((rd_T38 l0 x19_1).f2), .slice A360_3 ((rd_T38 l0 x19_1).f3).length c360_3, .string ((rd_T38 l0 x19_1).f4)]] rfl (by (try simp only [List.map_toArray, List.map_cons, List.map_nil]); first | done | rfl | (simp only [List.length_drop, List.length_take]; rfl)) ?_; (with_reducible refine (treenaillaw01_ref.calls kj15 ((rd_T38 l0 x19_1).f0) ((rd_T38 l0 x19_1).f1) ((rd_T38 l0 x19_1).f2) _ _ ((rd_T38 l0 x19_1).f3) ((rd_T38 l0 x19_1).f4) t367 t368 t369 t370 t373 _ ?side1 ?side2 A35.out).mono ?_); (case side1 => repeat (first | exact (Kd.C_below HR360_3.out HB.out) | (with_reducible refine Kd.C_alloc ?_ _) | (with_reducible refine Kd.C_drewN ?_ _) | (with_reducible refine Kd.C_drew ?_))); (case side2 => exact HC360_3.out); rintro e w40 ⟨v371, rfl, ho0, hb⟩; refine ⟨_, rfl, ?_⟩; have n0_ := Aside0.mk (Kd.N_elder' (by (with_reducible repeat (first | apply Kd.N_alloc | apply Kd.N_drewN | apply Kd.N_drew)); exact HO_4.out) (by first | exact Kd.R_base ho0 | exact Kd.N_base ho0 | exact Kd.S_base ho0 | exact Kd.R_base ho0) hb); have n1_ := Aside0.mk (Kd.R_lower ho0 (below_size (by repeat (first | (with_reducible first | exact HB.out | apply bA | apply bN | apply bD | refine below_set ?_ GE361.out) | exact HB.out)))); have n2_ := Aside0.mk (blk_below (g := gb361) (o := .cells #[.int .i64 ((rd_T38 l0 x19_1).f0), .int .i64 ((rd_T38 l0 x19_1).f1), .string ((rd_T38 l0 x19_1).f2), .slice A360_3 ((rd_T38 l0 x19_1).f3).length c360_3, .string ((rd_T38 l0 x19_1).f4)] 38 (0, 0)) (by (with_reducible repeat (first | refine kN ?_ _ | refine kD ?_ | refine kA ?_ _)); exact BK361.out) hb); have n3_ := Aside0.mk (below_step (by repeat (first | (with_reducible first | exact HB.out | apply bA | apply bN | apply bD | refine below_set ?_ GE361.out) | exact HB.out)) hb); clear HO_4; clear BK361; clear HB; have HO_4 := n0_; have HO372 := n1_; have BK361 := n2_; have HB := n3_; clear n0_ n1_ n2_ n3_; (try clear hb); (try clear hb2); (try clear hk); (try clear hi); (try clear ho0); obtain ⟨Ao42, co42, eo42⟩ := Kd.R_slice HO372.out; subst eo42) | ((with_reducible refine gate_builtin (b := .append) (xs := #[.tmp 56, .tmp 59]) rfl ?_); (try (refine gate_guard (by rfl) ?_; dsimp only)); at_builtin; refine Kd.N_append k34 (w0 := w) w.heap.size rfl (.tmp 56) (.tmp 59) 27 34 (.agg #[(.int .i64 0), (.int .i64 0), (.string ⟨#[]⟩), (.slice none 0 0), (.string ⟨#[]⟩)]) 72 rfl Tryd.underlying27 info34 rfl (by decide) (by omega) u4 x4_1 (⟨t367, t368, t369, t370, t373⟩ : S34) [.int .i64 t367, .int .i64 t368, .string t369, .slice Ao42 t370.length co42, .string t373] (fun k_ => k_ ≠ gb361) (fun k_ => ((fun k_ => k_ ≠ gb361)) k_ ∧ some k_ ≠ (u4 : Value).ownBlock) rfl rfl ?aP (fun _ hk => hk) ?aF ?aO ?aB ?aS ?aL ?_; (case aP => exact (k34_mkF _ _ (⟨t367, t368, t369, t370, t373⟩ : S34) (Kd.R_reads' (Kd.R_mono (ok' := (fun k_ => ((fun k_ => k_ ≠ gb361)) k_ ∧ some k_ ≠ (u4 : Value).ownBlock)) (Kd.R_types (Kd.R_apart' (HO372.out) (Kd.N_typed HO_4.out) (by decide)) BK361.out (by decide)) (fun k_ hk => ⟨hk.2, hk.1.2⟩))).2.1 (Kd.R_F (Kd.R_mono (ok' := (fun k_ => ((fun k_ => k_ ≠ gb361)) k_ ∧ some k_ ≠ (u4 : Value).ownBlock)) (Kd.R_types (Kd.R_apart' (HO372.out) (Kd.N_typed HO_4.out) (by decide)) BK361.out (by decide)) (fun k_ hk => ⟨hk.2, hk.1.2⟩))))); (case aB => exact (by repeat (first | (with_reducible first | exact HB.out | apply bA | apply bN | apply bD | refine below_set ?_ GE361.out) | exact HB.out))); (case aF => exact (fun k_ hk => Kd.freshB (g := gb361) (o := .cells #[.int .i64 ((rd_T38 l0 x19_1).f0), .int .i64 ((rd_T38 l0 x19_1).f1), .string ((rd_T38 l0 x19_1).f2), .slice A360_3 ((rd_T38 l0 x19_1).f3).length c360_3, .string ((rd_T38 l0 x19_1).f4)] 38 (0, 0)) (by (with_reducible repeat (first | refine kN ?_ _ | refine kD ?_ | refine kA ?_ _)); exact BK361.out) k_ hk)); (case aO => exact (by (with_reducible repeat (first | apply Kd.N_alloc | apply Kd.N_drewN | apply Kd.N_drew)); exact Kd.N_mono HO_4.out (fun _ hk => hk.1))); (case aS => exact (below_size (by repeat (first | (with_reducible first | exact HB.out | apply bA | apply bN | apply bD | refine below_set ?_ GE361.out) | exact HB.out)))); (case aL => have := LMc36.out; omega); intro v375 w41 ho hb hg hat; rw [← Ny374.out] at ho; have n0_ := Aside0.mk (blk_grown (g := gb361) (o := .cells #[.int .i64 ((rd_T38 l0 x19_1).f0), .int .i64 ((rd_T38 l0 x19_1).f1), .string ((rd_T38 l0 x19_1).f2), .slice A360_3 ((rd_T38 l0 x19_1).f3).length c360_3, .string ((rd_T38 l0 x19_1).f4)] 38 (0, 0)) (by (with_reducible repeat (first | refine kN ?_ _ | refine kD ?_ | refine kA ?_ _)); exact BK361.out) hg (Kd.N_ne HO_4.out BK361.out (by decide))); have n1_ := Aside0.mk (hb); have n2_ := Aside0.mk (ho); clear BK361; clear HB; clear HO_4; clear HO372; have BK361 := n0_; have HB := n1_; have HO376 := n2_; clear n0_ n1_ n2_; clear ho hb hg hat) | ((with_reducible refine gate_callee (f := 9) rfl ?_); refine goesL_ (some 64) rfl rfl Tryd.func9 (by kernel_rfl) rfl #[] rfl (by (try simp only [List.map_toArray, List.map_cons, List.map_nil]); first | done | rfl | (simp only [List.length_drop, List.length_take]; rfl)) ?_; (with_reducible refine (treenaillaw01_opens.calls kj15  t377 _ A38.out ?hT_).mono ?_); (case hT_ => exact Tabs.tab_below HT0.out (by repeat (first | (with_reducible first | exact HB.out | apply bA | apply bN | apply bD | refine below_set ?_ GE361.out) | exact HB.out))); rintro e w43 ⟨rfl, hb⟩; refine ⟨_, rfl, ?_⟩; have n0_ := Aside0.mk (Kd.N_below (by (with_reducible repeat (first | apply Kd.N_alloc | apply Kd.N_drewN | apply Kd.N_drew)); exact HO376.out) hb); have n1_ := Aside0.mk (blk_below (g := gb361) (o := .cells #[.int .i64 ((rd_T38 l0 x19_1).f0), .int .i64 ((rd_T38 l0 x19_1).f1), .string ((rd_T38 l0 x19_1).f2), .slice A360_3 ((rd_T38 l0 x19_1).f3).length c360_3, .string ((rd_T38 l0 x19_1).f4)] 38 (0, 0)) (by (with_reducible repeat (first | refine kN ?_ _ | refine kD ?_ | refine kA ?_ _)); exact BK361.out) hb); have n2_ := Aside0.mk (below_step (by repeat (first | (with_reducible first | exact HB.out | apply bA | apply bN | apply bD | refine below_set ?_ GE361.out) | exact HB.out)) hb); clear HO376; clear BK361; clear HB; have HO376 := n0_; have BK361 := n1_; have HB := n2_; clear n0_ n1_ n2_; (try clear hb); (try clear hb2); (try clear hk); (try clear hi)))
              go_ret
              exact ⟨by first | rfl | (simp [errW_none, errW_some] <;> rfl) | (simp [*, errW_none, errW_some] <;> rfl), by repeat (first | (with_reducible first | exact HB.out | apply bA | apply bN | apply bD | refine below_set ?_ GE361.out) | exact HB.out)⟩
             ·rw [if_neg c37] at H
              have c37b0 : decide (20000 < ((x3_1 ++ t364).size : Int)) = false := decide_eq_false c37
              try (have c37b6 := c37b0; simp only [ByteArray.size_append, Int.natCast_add] at c37b6)
              have c37b1 : decide (20000 < (x3_1 ++ t364).size) = false := decide_eq_false (by omega)
              clear c37
              have H' := Aside0.mk H
              clear H
              have hcz44_0 : wc.cell? ⟨gb361, 0, none⟩ = some (.int .i64 ((rd_T38 l0 x19_1).f0)) := (blk_cell BK361.out 0).trans rfl
              have hcz44_1 : wc.cell? ⟨gb361, 1, none⟩ = some (.int .i64 ((rd_T38 l0 x19_1).f1)) := (blk_cell BK361.out 1).trans rfl
              have hcz44_2 : wc.cell? ⟨gb361, 2, none⟩ = some (.string ((rd_T38 l0 x19_1).f2)) := (blk_cell BK361.out 2).trans rfl
              have hcz44_3 : wc.cell? ⟨gb361, 3, none⟩ = some (.slice A360_3 ((rd_T38 l0 x19_1).f3).length c360_3) := (blk_cell BK361.out 3).trans rfl
              have hcz44_4 : wc.cell? ⟨gb361, 4, none⟩ = some (.string ((rd_T38 l0 x19_1).f4)) := (blk_cell BK361.out 4).trans rfl
              have hfz44_0 := blk_frozen BK361.out 0
              have hfz44_1 := blk_frozen BK361.out 1
              have hfz44_2 := blk_frozen BK361.out 2
              have hfz44_3 := blk_frozen BK361.out 3
              have hfz44_4 := blk_frozen BK361.out 4
              go_wp2_with (first | ((with_reducible refine gate_callee (f := 12) rfl ?_); refine goesL_ (some 58) rfl rfl Tryd.func12 (by kernel_rfl) rfl #[.agg #[.int .i64 ((rd_T38 l0 x19_1).f0), .int .i64 ((rd_T38 l0 x19_1).f1), .string ((rd_T38 l0 x19_1).f2), .slice A360_3 ((rd_T38 l0 x19_1).f3).length c360_3, .string ((rd_T38 l0 x19_1).f4)]] rfl (by (try simp only [List.map_toArray, List.map_cons, List.map_nil]); first | done | rfl | (simp only [List.length_drop, List.length_take]; rfl)) ?_; (with_reducible refine (treenaillaw01_ref.calls kj15 ((rd_T38 l0 x19_1).f0) ((rd_T38 l0 x19_1).f1) ((rd_T38 l0 x19_1).f2) _ _ ((rd_T38 l0 x19_1).f3) ((rd_T38 l0 x19_1).f4) t367 t368 t369 t370 t373 _ ?side1 ?side2 A35.out).mono ?_); (case side1 => repeat (first | exact (Kd.C_below HR360_3.out HB.out) | (with_reducible refine Kd.C_alloc ?_ _) | (with_reducible refine Kd.C_drewN ?_ _) | (with_reducible refine Kd.C_drew ?_))); (case side2 => exact HC360_3.out); rintro e w45 ⟨v371, rfl, ho0, hb⟩; refine ⟨_, rfl, ?_⟩; have n0_ := Aside0.mk (Kd.N_elder' (by (with_reducible repeat (first | apply Kd.N_alloc | apply Kd.N_drewN | apply Kd.N_drew)); exact HO_4.out) (by first | exact Kd.R_base ho0 | exact Kd.N_base ho0 | exact Kd.S_base ho0 | exact Kd.R_base ho0) hb); have n1_ := Aside0.mk (Kd.R_lower ho0 (below_size (by repeat (first | (with_reducible first | exact HB.out | apply bA | apply bN | apply bD | refine below_set ?_ GE361.out) | exact HB.out)))); have n2_ := Aside0.mk (blk_below (g := gb361) (o := .cells #[.int .i64 ((rd_T38 l0 x19_1).f0), .int .i64 ((rd_T38 l0 x19_1).f1), .string ((rd_T38 l0 x19_1).f2), .slice A360_3 ((rd_T38 l0 x19_1).f3).length c360_3, .string ((rd_T38 l0 x19_1).f4)] 38 (0, 0)) (by (with_reducible repeat (first | refine kN ?_ _ | refine kD ?_ | refine kA ?_ _)); exact BK361.out) hb); have n3_ := Aside0.mk (below_step (by repeat (first | (with_reducible first | exact HB.out | apply bA | apply bN | apply bD | refine below_set ?_ GE361.out) | exact HB.out)) hb); clear HO_4; clear BK361; clear HB; have HO_4 := n0_; have HO372 := n1_; have BK361 := n2_; have HB := n3_; clear n0_ n1_ n2_ n3_; (try clear hb); (try clear hb2); (try clear hk); (try clear hi); (try clear ho0); obtain ⟨Ao47, co47, eo47⟩ := Kd.R_slice HO372.out; subst eo47) | ((with_reducible refine gate_builtin (b := .append) (xs := #[.tmp 56, .tmp 59]) rfl ?_); (try (refine gate_guard (by rfl) ?_; dsimp only)); at_builtin; refine Kd.N_append k34 (w0 := w) w.heap.size rfl (.tmp 56) (.tmp 59) 27 34 (.agg #[(.int .i64 0), (.int .i64 0), (.string ⟨#[]⟩), (.slice none 0 0), (.string ⟨#[]⟩)]) 72 rfl Tryd.underlying27 info34 rfl (by decide) (by omega) u4 x4_1 (⟨t367, t368, t369, t370, t373⟩ : S34) [.int .i64 t367, .int .i64 t368, .string t369, .slice Ao47 t370.length co47, .string t373] (fun k_ => k_ ≠ gb361) (fun k_ => ((fun k_ => k_ ≠ gb361)) k_ ∧ some k_ ≠ (u4 : Value).ownBlock) rfl rfl ?aP (fun _ hk => hk) ?aF ?aO ?aB ?aS ?aL ?_; (case aP => exact (k34_mkF _ _ (⟨t367, t368, t369, t370, t373⟩ : S34) (Kd.R_reads' (Kd.R_mono (ok' := (fun k_ => ((fun k_ => k_ ≠ gb361)) k_ ∧ some k_ ≠ (u4 : Value).ownBlock)) (Kd.R_types (Kd.R_apart' (HO372.out) (Kd.N_typed HO_4.out) (by decide)) BK361.out (by decide)) (fun k_ hk => ⟨hk.2, hk.1.2⟩))).2.1 (Kd.R_F (Kd.R_mono (ok' := (fun k_ => ((fun k_ => k_ ≠ gb361)) k_ ∧ some k_ ≠ (u4 : Value).ownBlock)) (Kd.R_types (Kd.R_apart' (HO372.out) (Kd.N_typed HO_4.out) (by decide)) BK361.out (by decide)) (fun k_ hk => ⟨hk.2, hk.1.2⟩))))); (case aB => exact (by repeat (first | (with_reducible first | exact HB.out | apply bA | apply bN | apply bD | refine below_set ?_ GE361.out) | exact HB.out))); (case aF => exact (fun k_ hk => Kd.freshB (g := gb361) (o := .cells #[.int .i64 ((rd_T38 l0 x19_1).f0), .int .i64 ((rd_T38 l0 x19_1).f1), .string ((rd_T38 l0 x19_1).f2), .slice A360_3 ((rd_T38 l0 x19_1).f3).length c360_3, .string ((rd_T38 l0 x19_1).f4)] 38 (0, 0)) (by (with_reducible repeat (first | refine kN ?_ _ | refine kD ?_ | refine kA ?_ _)); exact BK361.out) k_ hk)); (case aO => exact (by (with_reducible repeat (first | apply Kd.N_alloc | apply Kd.N_drewN | apply Kd.N_drew)); exact Kd.N_mono HO_4.out (fun _ hk => hk.1))); (case aS => exact (below_size (by repeat (first | (with_reducible first | exact HB.out | apply bA | apply bN | apply bD | refine below_set ?_ GE361.out) | exact HB.out)))); (case aL => have := LMc36.out; omega); intro v375 w46 ho hb hg hat; rw [← Ny374.out] at ho; have n0_ := Aside0.mk (blk_grown (g := gb361) (o := .cells #[.int .i64 ((rd_T38 l0 x19_1).f0), .int .i64 ((rd_T38 l0 x19_1).f1), .string ((rd_T38 l0 x19_1).f2), .slice A360_3 ((rd_T38 l0 x19_1).f3).length c360_3, .string ((rd_T38 l0 x19_1).f4)] 38 (0, 0)) (by (with_reducible repeat (first | refine kN ?_ _ | refine kD ?_ | refine kA ?_ _)); exact BK361.out) hg (Kd.N_ne HO_4.out BK361.out (by decide))); have n1_ := Aside0.mk (hb); have n2_ := Aside0.mk (ho); clear BK361; clear HB; clear HO_4; clear HO372; have BK361 := n0_; have HB := n1_; have HO376 := n2_; clear n0_ n1_ n2_; clear ho hb hg hat))
              go_roundg kj15
              case measure => have := HK1.out; have := HJ15.out; omega
              case rel => exact ⟨(x3_1 ++ t364), (y374), (wrap64 (x19_1 + 1)), (by first | rfl | (simp; done) | (simp [*]; done)), (by first | rfl | (simp; done) | (simp [*]; done)), H', ⟨by have := HK1.out; have := HJ15.out; omega⟩, ⟨by (with_reducible repeat (first | apply Kd.N_alloc | apply Kd.N_drewN | apply Kd.N_drew)); exact Kd.N_mono HO376.out (fun _ hk => trivial)⟩, ⟨by repeat (first | (with_reducible first | exact HB.out | apply bA | apply bN | apply bD | refine below_set ?_ GE361.out) | exact HB.out)⟩⟩
            ·rw [if_neg c36] at H
             exact absurd H (by simp)
           ·rw [if_neg c34] at H
            exact absurd H (by simp)
      ·rw [if_neg c7] at H
       exact absurd H (by simp)
     ·rw [if_neg c6] at H
      exact absurd H (by simp)
    ·rw [if_neg c5] at H
     have c5b0 : decide (x19_1 < (l0.length : Int)) = false := decide_eq_false c5
     try (have c5b9 := c5b0; rw [hl392_3] at c5b9)
     try (have c5b9 := c5b0; rw [hl384_3] at c5b9)
     try (have c5b9 := c5b0; rw [hl366_3] at c5b9)
     try (have c5b9 := c5b0; rw [hl360_3] at c5b9)
     clear c5
     replace H := Option.bind_eq_some_iff.mp H
     obtain ⟨⟨t378, t381, t382⟩, A480, H⟩ := H
     replace H : (if t382 = 0 then (treenaillaw01_MarkBack.j2 k1 x4_1 t378 ((t378.length : Int) != (x4_1.length : Int))) else (treenaillaw01_MarkBack.j2 k1 x4_1 t378 true)) = some r := H
     have A48 := Aside0.mk A480
     clear A480
     have HC49 := Aside0.mk H
     clear H
     go_upto_region 18 with (first | ((with_reducible refine gate_callee (f := 8) rfl ?_); refine goesL_ (some 68) rfl rfl Tryd.func8 (by kernel_rfl) rfl #[.string x3_1] rfl (by (try simp only [List.map_toArray, List.map_cons, List.map_nil]); first | done | rfl | (simp only [List.length_drop, List.length_take]; rfl)) ?_; (with_reducible refine (mark_Read.calls k1 x3_1 t378 t381 t382 _ A48.out ?hT_).mono ?_); (case hT_ => exact Tabs.tab_below HT0.out (by repeat (first | (with_reducible first | exact HB.out | apply bA | apply bN | apply bD) | exact HB.out))); rintro e w50 ⟨v379, rfl, ho0, hb⟩; refine ⟨_, rfl, ?_⟩; have n0_ := Aside0.mk (Kd.N_elder' (by (with_reducible repeat (first | apply Kd.N_alloc | apply Kd.N_drewN | apply Kd.N_drew)); exact HO_4.out) (by first | exact Kd.N_base ho0 | exact Kd.N_base ho0 | exact Kd.S_base ho0 | exact Kd.R_base ho0) hb); have n1_ := Aside0.mk (Kd.N_lower (Kd.N_mono (ok' := fun k_ => some k_ ≠ (u4 : Value).ownBlock) ho0 (fun k_ hk_ => (Kd.fresh' (Kd.N_lt (by (with_reducible repeat (first | apply Kd.N_alloc | apply Kd.N_drewN | apply Kd.N_drew)); exact HO_4.out)) k_ hk_))) (below_size (by repeat (first | (with_reducible first | exact HB.out | apply bA | apply bN | apply bD) | exact HB.out)))); have n2_ := Aside0.mk (below_step (by repeat (first | (with_reducible first | exact HB.out | apply bA | apply bN | apply bD) | exact HB.out)) hb); clear HO_4; clear HB; have HO_4 := n0_; have HO380 := n1_; have HB := n2_; clear n0_ n1_ n2_; (try clear hb); (try clear hb2); (try clear hk); (try clear hi); (try clear ho0)))
     (try simp only [Act.put, List.setIfInBounds_toArray, List.set_cons_zero, List.set_cons_succ])
     go_cut [80] (fun v80 wc => ∃ (kq : Nat) (x80_48 : Bool), v80 = .bool x80_48 ∧ Aside0 (treenaillaw01_MarkBack.j2 kq x4_1 t378 x80_48 = some r) ∧ Aside0 (kq ≤ k1) ∧ Aside0 (Kd.N k34 34 wc w.heap.size (fun k_ => some k_ ≠ (v379 : Value).ownBlock) u4 x4_1) ∧ Aside0 (Kd.N k38 38 wc w.heap.size (fun k_ => some k_ ≠ (u4 : Value).ownBlock) v379 t378) ∧ Aside0 (Below w.heap.size w wc))
     case first =>
      have H := HC49.out
      clear HC49
      by_cases c51 : t382 = 0
      ·rw [if_pos c51] at H
       have c51b0 : (t382 == 0) = true := beq_iff_eq.mpr c51
       have c51b1 : (t382 != 0) = false := bne_eq_false_iff_eq.mpr c51
       clear c51
       (first | rw [c51b0] | (simp only [i64_w, i32_w]; rw [c51b0]) | skip)
       have H' := Aside0.mk H
       clear H
       obtain ⟨Ao52, co52, eo52⟩ := Kd.N_slice HO380.out
       subst eo52
       obtain ⟨Ao53, co53, eo53⟩ := Kd.N_slice HO_4.out
       subst eo53
       go_wp2
       go_meet
       case rel => exact ⟨_, (((t378.length : Int) != (x4_1.length : Int))), (by first | rfl | (simp; done) | (simp [*]; done)), H', ⟨by have := HK1.out; first | omega | exact Nat.le_refl _⟩, ⟨by (with_reducible repeat (first | apply Kd.N_alloc | apply Kd.N_drewN | apply Kd.N_drew)); exact Kd.N_mono HO_4.out (fun _ hk => hk.2)⟩, ⟨by (with_reducible repeat (first | apply Kd.N_alloc | apply Kd.N_drewN | apply Kd.N_drew)); exact HO380.out⟩, ⟨by repeat (first | (with_reducible first | exact HB.out | apply bA | apply bN | apply bD) | exact HB.out)⟩⟩
      ·rw [if_neg c51] at H
       have c51b0 : (t382 == 0) = false := beq_eq_false_iff_ne.mpr c51
       have c51b1 : (t382 != 0) = true := bne_iff_ne.mpr c51
       (first | rw [c51b0] | (simp only [i64_w, i32_w]; rw [c51b0]) | skip)
       have H' := Aside0.mk H
       clear H
       go_wp2
       go_meet
       case rel => exact ⟨_, (true), (by first | rfl | (simp; done) | (simp [*]; done)), H', ⟨by have := HK1.out; first | omega | exact Nat.le_refl _⟩, ⟨by (with_reducible repeat (first | apply Kd.N_alloc | apply Kd.N_drewN | apply Kd.N_drew)); exact Kd.N_mono HO_4.out (fun _ hk => hk.2)⟩, ⟨by (with_reducible repeat (first | apply Kd.N_alloc | apply Kd.N_drewN | apply Kd.N_drew)); exact HO380.out⟩, ⟨by repeat (first | (with_reducible first | exact HB.out | apply bA | apply bN | apply bD) | exact HB.out)⟩⟩
     case rest =>
      clear HC49
      try clear c1
      try clear c2
      try clear c2b0
      try clear c2b1
      try clear p2
      try clear c3
      try clear p3
      try clear q3
      try clear hx3
      try clear c5
      try clear c5b0
      try clear c6
      try clear c6b0
      try clear p6
      try clear c7
      try clear c7b0
      try clear c8
      try clear c9
      try clear c12
      try clear c17
      try clear c18
      try clear c22
      try clear c22b0
      try clear c22b1
      try clear c23
      try clear c23b0
      try clear c23b1
      try clear c24
      try clear c24b0
      try clear c24b1
      try clear c26
      try clear c26b0
      try clear c27
      try clear c27b0
      try clear c33
      try clear c34
      try clear c34b0
      try clear c34b1
      try clear c34b2
      try clear c36
      try clear p36
      try clear q36
      try clear hx36
      try clear c37
      try clear c37b0
      try clear c37b1
      try clear c51
      try clear c51b0
      try clear c51b1
      try clear hcz12_0
      try clear hcz12_1
      try clear hcz12_2
      try clear hcz12_3
      try clear hcz12_4
      try clear hcz18_0
      try clear hcz18_1
      try clear hcz18_2
      try clear hcz18_3
      try clear hcz18_4
      try clear hcz20_0
      try clear hcz20_1
      try clear hcz20_2
      try clear hcz20_3
      try clear hcz20_4
      try clear hcz29_0
      try clear hcz29_1
      try clear hcz29_2
      try clear hcz29_3
      try clear hcz29_4
      try clear hcz31_0
      try clear hcz31_1
      try clear hcz31_2
      try clear hcz31_3
      try clear hcz31_4
      try clear hcz39_0
      try clear hcz39_1
      try clear hcz39_2
      try clear hcz39_3
      try clear hcz39_4
      try clear hcz44_0
      try clear hcz44_1
      try clear hcz44_2
      try clear hcz44_3
      try clear hcz44_4
      try clear hfz12_0
      try clear hfz12_1
      try clear hfz12_2
      try clear hfz12_3
      try clear hfz12_4
      try clear hfz18_0
      try clear hfz18_1
      try clear hfz18_2
      try clear hfz18_3
      try clear hfz18_4
      try clear hfz20_0
      try clear hfz20_1
      try clear hfz20_2
      try clear hfz20_3
      try clear hfz20_4
      try clear hfz29_0
      try clear hfz29_1
      try clear hfz29_2
      try clear hfz29_3
      try clear hfz29_4
      try clear hfz31_0
      try clear hfz31_1
      try clear hfz31_2
      try clear hfz31_3
      try clear hfz31_4
      try clear hfz39_0
      try clear hfz39_1
      try clear hfz39_2
      try clear hfz39_3
      try clear hfz39_4
      try clear hfz44_0
      try clear hfz44_1
      try clear hfz44_2
      try clear hfz44_3
      try clear hfz44_4
      try clear hx360_0
      try clear hx360_1
      try clear hx360_2
      try clear hx360_3
      try clear hx360_4
      try clear hx366_0
      try clear hx366_1
      try clear hx366_2
      try clear hx366_3
      try clear hx366_4
      try clear p2
      try clear p3
      try clear p360
      try clear p366
      try clear p6
      try clear q3
      try clear q360
      try clear q366
      obtain ⟨kq, x80_48, rfl, HA, HJ48, HO_4, HO_9, HB⟩ := hcut
      cases kq with
      | zero => exact absurd HA.out (by first | (intro h_; cases h_; done) | simp [treenaillaw01_MarkBack.j2])
      | succ kj48 =>
       have H := HA.out
       clear HA
       simp only [treenaillaw01_MarkBack.j2] at H
       by_cases c54 : x80_48 = true
       ·subst c54
        have H1 : (some false) = some r := by rw [if_pos rfl] at H; exact H
        clear H
        have H := H1
        clear H1
        obtain rfl := Option.some.inj H
        go_wp2
        go_ret
        exact ⟨by first | rfl | (simp [errW_none, errW_some] <;> rfl) | (simp [*, errW_none, errW_some] <;> rfl), by repeat (first | (with_reducible first | exact HB.out | apply bA | apply bN | apply bD) | exact HB.out)⟩
       ·replace c54 := Bool.eq_false_iff.mpr c54
        subst c54
        have H1 : (treenaillaw01_MarkBack.l1 kj48 x4_1 t378 (t378.length : Int) 0) = some r := by rw [if_neg (show ¬ (false = true) by decide)] at H; exact H
        clear H
        have H := H1
        clear H1
        have H' := Aside0.mk H
        clear H
        obtain ⟨Ao55, co55, eo55⟩ := Kd.N_slice HO_9.out
        subst eo55
        go_wp2
        go_loopg [83] kj48 (fun kq v83 w' => ∃ (x83_3 : Int), v83 = .int .i64 x83_3 ∧ Aside0 (treenaillaw01_MarkBack.l1 kq x4_1 t378 (t378.length : Int) x83_3 = some r) ∧ Aside0 (kq ≤ kj48) ∧ Aside0 (Kd.N k34 34 w' w.heap.size (fun k_ => some k_ ≠ ((.slice Ao55 t378.length co55) : Value).ownBlock) u4 x4_1) ∧ Aside0 (Kd.N k38 38 w' w.heap.size (fun k_ => some k_ ≠ (u4 : Value).ownBlock) (.slice Ao55 t378.length co55) t378) ∧ Aside0 (Below w.heap.size w w'))
        case atStart => exact ⟨(0), (by first | rfl | (simp; done) | (simp [*]; done)), H', ⟨Nat.le_refl _⟩, ⟨by (with_reducible repeat (first | apply Kd.N_alloc | apply Kd.N_drewN | apply Kd.N_drew)); exact HO_4.out⟩, ⟨by (with_reducible repeat (first | apply Kd.N_alloc | apply Kd.N_drewN | apply Kd.N_drew)); exact HO_9.out⟩, ⟨by repeat (first | (with_reducible first | exact HB.out | apply bA | apply bN | apply bD) | exact HB.out)⟩⟩
        case round =>
         clear H'
         try clear c1
         try clear c2
         try clear c2b0
         try clear c2b1
         try clear p2
         try clear c3
         try clear p3
         try clear q3
         try clear hx3
         try clear c5
         try clear c5b0
         try clear c6
         try clear c6b0
         try clear p6
         try clear c7
         try clear c7b0
         try clear c8
         try clear c9
         try clear c12
         try clear c17
         try clear c18
         try clear c22
         try clear c22b0
         try clear c22b1
         try clear c23
         try clear c23b0
         try clear c23b1
         try clear c24
         try clear c24b0
         try clear c24b1
         try clear c26
         try clear c26b0
         try clear c27
         try clear c27b0
         try clear c33
         try clear c34
         try clear c34b0
         try clear c34b1
         try clear c34b2
         try clear c36
         try clear p36
         try clear q36
         try clear hx36
         try clear c37
         try clear c37b0
         try clear c37b1
         try clear c51
         try clear c51b0
         try clear c51b1
         try clear c54
         try clear hcz12_0
         try clear hcz12_1
         try clear hcz12_2
         try clear hcz12_3
         try clear hcz12_4
         try clear hcz18_0
         try clear hcz18_1
         try clear hcz18_2
         try clear hcz18_3
         try clear hcz18_4
         try clear hcz20_0
         try clear hcz20_1
         try clear hcz20_2
         try clear hcz20_3
         try clear hcz20_4
         try clear hcz29_0
         try clear hcz29_1
         try clear hcz29_2
         try clear hcz29_3
         try clear hcz29_4
         try clear hcz31_0
         try clear hcz31_1
         try clear hcz31_2
         try clear hcz31_3
         try clear hcz31_4
         try clear hcz39_0
         try clear hcz39_1
         try clear hcz39_2
         try clear hcz39_3
         try clear hcz39_4
         try clear hcz44_0
         try clear hcz44_1
         try clear hcz44_2
         try clear hcz44_3
         try clear hcz44_4
         try clear hfz12_0
         try clear hfz12_1
         try clear hfz12_2
         try clear hfz12_3
         try clear hfz12_4
         try clear hfz18_0
         try clear hfz18_1
         try clear hfz18_2
         try clear hfz18_3
         try clear hfz18_4
         try clear hfz20_0
         try clear hfz20_1
         try clear hfz20_2
         try clear hfz20_3
         try clear hfz20_4
         try clear hfz29_0
         try clear hfz29_1
         try clear hfz29_2
         try clear hfz29_3
         try clear hfz29_4
         try clear hfz31_0
         try clear hfz31_1
         try clear hfz31_2
         try clear hfz31_3
         try clear hfz31_4
         try clear hfz39_0
         try clear hfz39_1
         try clear hfz39_2
         try clear hfz39_3
         try clear hfz39_4
         try clear hfz44_0
         try clear hfz44_1
         try clear hfz44_2
         try clear hfz44_3
         try clear hfz44_4
         try clear hx360_0
         try clear hx360_1
         try clear hx360_2
         try clear hx360_3
         try clear hx360_4
         try clear hx366_0
         try clear hx366_1
         try clear hx366_2
         try clear hx366_3
         try clear hx366_4
         try clear p2
         try clear p3
         try clear p36
         try clear p360
         try clear p366
         try clear p6
         try clear q3
         try clear q36
         try clear q360
         try clear q366
         obtain ⟨x83_3, rfl, HA, HK3, HO_4, HO_9, HB⟩ := hrel
         cases gk with
         | zero => exact absurd HA.out (by first | (intro h_; cases h_; done) | simp [treenaillaw01_MarkBack.l1])
         | succ k3 =>
          have H := HA.out
          clear HA
          simp only [treenaillaw01_MarkBack.l1] at H
          by_cases c56 : x83_3 < (t378.length : Int)
          ·rw [if_pos c56] at H
           have c56b0 : decide (x83_3 < (t378.length : Int)) = true := decide_eq_true c56
           clear c56
           by_cases c57 : 0 ≤ x83_3
           ·rw [if_pos c57] at H
            have c57b0 : decide (0 ≤ x83_3) = true := decide_eq_true c57
            clear c57
            by_cases c58 : x83_3 < (t378.length : Int)
            ·rw [if_pos c58] at H
             have c58b0 : decide (x83_3 < (t378.length : Int)) = true := decide_eq_true c58
             clear c58
             replace H := Option.bind_eq_some_iff.mp H
             obtain ⟨⟨t385, t386, t387, t388, t391⟩, A590, H⟩ := H
             replace H : (if x83_3 < (x4_1.length : Int) then ((treenaillaw01_same.f k3 t385 t386 t387 t388 t391 ((rd_T34 x4_1 x83_3).f0) ((rd_T34 x4_1 x83_3).f1) ((rd_T34 x4_1 x83_3).f2) ((rd_T34 x4_1 x83_3).f3) ((rd_T34 x4_1 x83_3).f4) false).bind fun t393 => (if t393 = true then (treenaillaw01_MarkBack.l1 k3 x4_1 t378 (t378.length : Int) (wrap64 (x83_3 + 1))) else (some false))) else (none)) = some r := H
             have A59 := Aside0.mk A590
             clear A590
             by_cases c60 : x83_3 < (x4_1.length : Int)
             ·rw [if_pos c60] at H
              have c60b0 : decide (x83_3 < (x4_1.length : Int)) = true := decide_eq_true c60
              clear c60
              replace H := Option.bind_eq_some_iff.mp H
              obtain ⟨t393, A610, H⟩ := H
              replace H : (if t393 = true then (treenaillaw01_MarkBack.l1 k3 x4_1 t378 (t378.length : Int) (wrap64 (x83_3 + 1))) else (some false)) = some r := H
              have A61 := Aside0.mk A610
              clear A610
              by_cases c62 : t393 = true
              ·subst c62
               have H1 : (treenaillaw01_MarkBack.l1 k3 x4_1 t378 (t378.length : Int) (wrap64 (x83_3 + 1))) = some r := by rw [if_pos rfl] at H; exact H
               clear H
               have H := H1
               clear H1
               have H' := Aside0.mk H
               clear H
               try go_wp2
               have n0_ := Aside0.mk (Kd.N_drew HO_4.out)
               have n1_ := Aside0.mk (Kd.N_drew HO_9.out)
               have n2_ := Aside0.mk (below_drew1 HB.out)
               clear HO_4
               clear HO_9
               clear HB
               have HO_4 := n0_
               have HO_9 := n1_
               have HB := n2_
               clear n0_ n1_ n2_
               have p384 : 0 ≤ (x83_3 : Int) := of_decide_eq_true (by first | (with_reducible assumption) | assumption)
               have q384 : x83_3 < (t378.length : Int) := of_decide_eq_true (by first | (with_reducible assumption) | assumption)
               obtain ⟨ad384, A384_3, c384_3, e384, hx384_0, hx384_1, hx384_2, hx384_3, hx384_4, hl384_3, hi384_3⟩ := at_T38 (Kd.N_reads' HO_9.out).2.2 x83_3 p384 q384
               cases e384
               obtain ⟨ce384, hce384, hMe384, hcc384⟩ := Kd.N_get HO_9.out z38 x83_3 p384 (by first | exact q384 | exact of_decide_eq_true (by first | (with_reducible assumption) | assumption) | (have e_ := (Kd.N_reads' HO_9.out).1; omega))
               obtain ⟨ua384_3, uc384_3, rfl, ul384_3, ge384_3⟩ := k38_openF hMe384
               have hv384_3 := hcc384 3 _ rfl
               rw [add_field _ _ 3 (by omega)] at hv384_3
               replace hv384_3 := Option.some.inj (hv384_3.symm.trans hx384_3)
               injection hv384_3 with hva_ hvn_ hvc_
               rw [hva_] at ge384_3
               rw [hvc_] at ul384_3
               have HL384_3 := Aside0.mk (show Kd.V k51 51 _ w.heap.size _ _ ((rd_T38 t378 x83_3).f3) from Kd.V_mk ul384_3 ge384_3)
               clear hva_ hvn_ hvc_ ge384_3 ul384_3
               clear hcc384 hce384
               have HR384_3 := Aside0.mk hi384_3
               have HC384_3 := Aside0.mk hl384_3
               clear hi384_3 hl384_3
               replace p384 := eq_true p384
               replace q384 := eq_true q384
               obtain ⟨Ao64, co64, eo64⟩ := Kd.N_slice HO_4.out
               (first | subst eo64 | (injection eo64 with f1_ f2_ f3_; have f4_ := f1_.symm; have f5_ := f3_.symm; clear f1_ f2_ f3_; subst f4_; subst f5_))
               have p392 : 0 ≤ (x83_3 : Int) := of_decide_eq_true (by first | (with_reducible assumption) | assumption)
               have q392 : x83_3 < (x4_1.length : Int) := of_decide_eq_true (by first | (with_reducible assumption) | assumption)
               obtain ⟨ad392, A392_3, c392_3, e392, hx392_0, hx392_1, hx392_2, hx392_3, hx392_4, hl392_3, hi392_3⟩ := at_T34 (Kd.N_reads' HO_4.out).2.2 x83_3 p392 q392
               cases e392
               obtain ⟨ce392, hce392, hMe392, hcc392⟩ := Kd.N_get HO_4.out z34 x83_3 p392 (by first | exact q392 | exact of_decide_eq_true (by first | (with_reducible assumption) | assumption) | (have e_ := (Kd.N_reads' HO_4.out).1; omega))
               obtain ⟨ua392_3, uc392_3, rfl, ul392_3, ge392_3⟩ := k34_openF hMe392
               have hv392_3 := hcc392 3 _ rfl
               rw [add_field _ _ 3 (by omega)] at hv392_3
               replace hv392_3 := Option.some.inj (hv392_3.symm.trans hx392_3)
               injection hv392_3 with hva_ hvn_ hvc_
               rw [hva_] at ge392_3
               rw [hvc_] at ul392_3
               have HL392_3 := Aside0.mk (show Kd.V k60 60 _ w.heap.size _ _ ((rd_T34 x4_1 x83_3).f3) from Kd.V_mk ul392_3 ge392_3)
               clear hva_ hvn_ hvc_ ge392_3 ul392_3
               clear hcc392 hce392
               have HR392_3 := Aside0.mk hi392_3
               have HC392_3 := Aside0.mk hl392_3
               clear hi392_3 hl392_3
               replace p392 := eq_true p392
               replace q392 := eq_true q392
               refine start_ (n := 11) (S := fun w' => w'.cell? (ad384.add ((x83_3).toNat * 5)) = some (.int .i64 ((rd_T38 t378 x83_3).f0)) ∧ w'.cell? ⟨(ad384.add ((x83_3).toNat * 5)).block, (ad384.add ((x83_3).toNat * 5)).off + 1, none⟩ = some (.int .i64 ((rd_T38 t378 x83_3).f1)) ∧ w'.cell? ⟨(ad384.add ((x83_3).toNat * 5)).block, (ad384.add ((x83_3).toNat * 5)).off + 2, none⟩ = some (.string ((rd_T38 t378 x83_3).f2)) ∧ w'.cell? ⟨(ad384.add ((x83_3).toNat * 5)).block, (ad384.add ((x83_3).toNat * 5)).off + 3, none⟩ = some (.slice A384_3 ((rd_T38 t378 x83_3).f3).length c384_3) ∧ w'.cell? ⟨(ad384.add ((x83_3).toNat * 5)).block, (ad384.add ((x83_3).toNat * 5)).off + 4, none⟩ = some (.string ((rd_T38 t378 x83_3).f4)) ∧ w'.cell? (ad392.add ((x83_3).toNat * 5)) = some (.int .i64 ((rd_T34 x4_1 x83_3).f0)) ∧ w'.cell? ⟨(ad392.add ((x83_3).toNat * 5)).block, (ad392.add ((x83_3).toNat * 5)).off + 1, none⟩ = some (.int .i64 ((rd_T34 x4_1 x83_3).f1)) ∧ w'.cell? ⟨(ad392.add ((x83_3).toNat * 5)).block, (ad392.add ((x83_3).toNat * 5)).off + 2, none⟩ = some (.string ((rd_T34 x4_1 x83_3).f2)) ∧ w'.cell? ⟨(ad392.add ((x83_3).toNat * 5)).block, (ad392.add ((x83_3).toNat * 5)).off + 3, none⟩ = some (.slice A392_3 ((rd_T34 x4_1 x83_3).f3).length c392_3) ∧ w'.cell? ⟨(ad392.add ((x83_3).toNat * 5)).block, (ad392.add ((x83_3).toNat * 5)).off + 4, none⟩ = some (.string ((rd_T34 x4_1 x83_3).f4))) (ds := []) #[false, false, false, false, false, false, false, false, false, false, false] (by kernel_rfl) rfl rfl ⟨hx384_0, hx384_1, hx384_2, hx384_3, hx384_4, hx392_0, hx392_1, hx392_2, hx392_3, hx392_4⟩ (fun hHeld => ?_); refine with_tabW treenaillaw01_MarkBack.tab23 treenaillaw01_MarkBack.bits23 (fun HT_ HW_ => ?_)
               generalize wr.drew = w63 at HO_4 HO_9 HB HL384_3 HL392_3 HR384_3 HR392_3 hx384_0 hx384_1 hx384_2 hx384_3 hx384_4 hx392_0 hx392_1 hx392_2 hx392_3 hx392_4 hHeld ⊢
               refine pure_ (i := 0) (N := some 86) (v := ?_) (a' := ?_) #[true, false, false, false, false, false, false, false, false, false, false] rfl rfl (any_of HT_.out (by kernel_rfl)) (fun _ _ _ h => h) (Or.inl ⟨by rfl, ?_⟩) ?_ ?_
               rotate_left
               ·intro w'
                go_simp
                with_reducible rfl
               rotate_left
               ·simp only [Act.put, List.setIfInBounds_toArray, List.set_cons_zero, List.set_cons_succ, i64_w, i32_w]
                rfl
               refine pure_ (i := 1) (N := some 87) (v := ?_) (a' := ?_) #[true, true, false, false, false, false, false, false, false, false, false] rfl rfl (any_of HT_.out (by kernel_rfl)) (fun _ _ _ h => h) (Or.inl ⟨by rfl, ?_⟩) ?_ ?_
               rotate_left
               ·intro w'
                go_simp
                with_reducible rfl
               rotate_left
               ·simp only [Act.put, List.setIfInBounds_toArray, List.set_cons_zero, List.set_cons_succ, i64_w, i32_w]
                rfl
               refine pure_ (i := 2) (N := some 88) (v := ?_) (a' := ?_) #[true, true, true, false, false, false, false, false, false, false, false] rfl rfl (any_of HT_.out (by kernel_rfl)) (fun _ _ _ h => h) (Or.inl ⟨by rfl, ?_⟩) ?_ ?_
               rotate_left
               ·intro w'
                go_simp
                with_reducible rfl
               rotate_left
               ·simp only [Act.put, List.setIfInBounds_toArray, List.set_cons_zero, List.set_cons_succ, i64_w, i32_w]
                rfl
               refine pure_ (i := 5) (N := some 91) (v := ?_) (a' := ?_) #[true, true, true, false, false, true, false, false, false, false, false] rfl rfl (any_of HT_.out (by kernel_rfl)) (fun _ _ _ h => h) (Or.inl ⟨by rfl, ?_⟩) ?_ ?_
               rotate_left
               ·intro w'
                go_simp
                with_reducible rfl
               rotate_left
               ·simp only [Act.put, List.setIfInBounds_toArray, List.set_cons_zero, List.set_cons_succ, i64_w, i32_w]
                rfl
               refine pure_ (i := 6) (N := some 92) (v := ?_) (a' := ?_) #[true, true, true, false, false, true, true, false, false, false, false] rfl rfl (any_of HT_.out (by kernel_rfl)) (fun _ _ _ h => h) (Or.inl ⟨by rfl, ?_⟩) ?_ ?_
               rotate_left
               ·intro w'
                go_simp
                with_reducible rfl
               rotate_left
               ·simp only [Act.put, List.setIfInBounds_toArray, List.set_cons_zero, List.set_cons_succ, i64_w, i32_w]
                rfl
               refine pure_ (i := 7) (N := some 93) (v := ?_) (a' := ?_) #[true, true, true, false, false, true, true, true, false, false, false] rfl rfl (any_of HT_.out (by kernel_rfl)) (fun _ _ _ h => h) (Or.inl ⟨by rfl, ?_⟩) ?_ ?_
               rotate_left
               ·intro w'
                go_simp
                with_reducible rfl
               rotate_left
               ·simp only [Act.put, List.setIfInBounds_toArray, List.set_cons_zero, List.set_cons_succ, i64_w, i32_w]
                rfl
               refine take_ (i := 3) (N := some 89) (v := ?_) (a' := ?_) #[true, true, true, true, false, true, true, true, false, false, false] rfl rfl (take_ofW HT_.out HW_.out (by kernel_rfl)) (fun _ _ _ h => h) (Or.inl ⟨by rfl, ?_⟩) hHeld ?_ ?_
               rotate_left
               ·rintro w' ⟨s0, s1, s2, s3, s4, s5, s6, s7, s8, s9⟩
                go_simp
                with_reducible rfl
               rotate_left
               ·simp only [Act.put, List.setIfInBounds_toArray, List.set_cons_zero, List.set_cons_succ, i64_w, i32_w]
                rfl
               refine take_ (i := 8) (N := some 94) (v := ?_) (a' := ?_) #[true, true, true, true, false, true, true, true, true, false, false] rfl rfl (take_ofW HT_.out HW_.out (by kernel_rfl)) (fun _ _ _ h => h) (Or.inl ⟨by rfl, ?_⟩) hHeld ?_ ?_
               rotate_left
               ·rintro w' ⟨s0, s1, s2, s3, s4, s5, s6, s7, s8, s9⟩
                go_simp
                with_reducible rfl
               rotate_left
               ·simp only [Act.put, List.setIfInBounds_toArray, List.set_cons_zero, List.set_cons_succ, i64_w, i32_w]
                rfl
               refine one_ (i := 4) (N := some 90) #[true, true, true, true, true, true, true, true, true, false, false] rfl rfl (one_of HT_.out (by kernel_rfl)) (by decide) (fun K hK => ?_)
               refine goes_ Tryd.func12 (by kernel_rfl) rfl #[.agg #[.int .i64 ((rd_T38 t378 x83_3).f0), .int .i64 ((rd_T38 t378 x83_3).f1), .string ((rd_T38 t378 x83_3).f2), .slice A384_3 ((rd_T38 t378 x83_3).f3).length c384_3, .string ((rd_T38 t378 x83_3).f4)]] (by rfl) rfl rfl (by (try simp only [List.map_toArray, List.map_cons, List.map_nil]); first | done | rfl | (simp only [List.length_drop, List.length_take]; rfl)) ?_
               with_reducible refine (treenaillaw01_ref.calls k3 ((rd_T38 t378 x83_3).f0) ((rd_T38 t378 x83_3).f1) ((rd_T38 t378 x83_3).f2) _ _ ((rd_T38 t378 x83_3).f3) ((rd_T38 t378 x83_3).f4) t385 t386 t387 t388 t391 _ ?side1 ?side2 A59.out).mono ?_
               (case side1 => repeat (first | exact (by repeat (first | (with_reducible exact HR384_3.out) | (with_reducible refine Kd.C_alloc ?_ _) | (with_reducible refine Kd.C_drewN ?_ _) | (with_reducible refine Kd.C_drew ?_) | exact HR384_3.out)) | (with_reducible refine Kd.C_alloc ?_ _) | (with_reducible refine Kd.C_drewN ?_ _) | (with_reducible refine Kd.C_drew ?_)))
               (case side2 => exact HC384_3.out)
               rintro e w65 ⟨v389, rfl, ho0, hb⟩
               have HS0_ := (hb.cell (World.block_lt_of_cell? _ _ (hHeld.1))).trans (hHeld.1)
               have HS1_ := (hb.cell (World.block_lt_of_cell? _ _ (hHeld.2.1))).trans (hHeld.2.1)
               have HS2_ := (hb.cell (World.block_lt_of_cell? _ _ (hHeld.2.2.1))).trans (hHeld.2.2.1)
               have HS3_ := (hb.cell (World.block_lt_of_cell? _ _ (hHeld.2.2.2.1))).trans (hHeld.2.2.2.1)
               have HS4_ := (hb.cell (World.block_lt_of_cell? _ _ (hHeld.2.2.2.2.1))).trans (hHeld.2.2.2.2.1)
               have HS5_ := (hb.cell (World.block_lt_of_cell? _ _ (hHeld.2.2.2.2.2.1))).trans (hHeld.2.2.2.2.2.1)
               have HS6_ := (hb.cell (World.block_lt_of_cell? _ _ (hHeld.2.2.2.2.2.2.1))).trans (hHeld.2.2.2.2.2.2.1)
               have HS7_ := (hb.cell (World.block_lt_of_cell? _ _ (hHeld.2.2.2.2.2.2.2.1))).trans (hHeld.2.2.2.2.2.2.2.1)
               have HS8_ := (hb.cell (World.block_lt_of_cell? _ _ (hHeld.2.2.2.2.2.2.2.2.1))).trans (hHeld.2.2.2.2.2.2.2.2.1)
               have HS9_ := (hb.cell (World.block_lt_of_cell? _ _ (hHeld.2.2.2.2.2.2.2.2.2))).trans (hHeld.2.2.2.2.2.2.2.2.2)
               refine ⟨_, rfl, ?_⟩
               have n0_ := Aside0.mk (Kd.N_elder' (by (with_reducible repeat (first | apply Kd.N_alloc | apply Kd.N_drewN | apply Kd.N_drew)); exact HO_4.out) (by first | exact Kd.R_base ho0 | exact Kd.N_base ho0 | exact Kd.S_base ho0 | exact Kd.R_base ho0) hb)
               have n1_ := Aside0.mk (Kd.N_elder' (by (with_reducible repeat (first | apply Kd.N_alloc | apply Kd.N_drewN | apply Kd.N_drew)); exact HO_9.out) (by first | exact Kd.R_base ho0 | exact Kd.N_base ho0 | exact Kd.S_base ho0 | exact Kd.R_base ho0) hb)
               have n2_ := Aside0.mk (Kd.V_elder' (by (with_reducible repeat (first | apply Kd.V_alloc | apply Kd.V_drewN | apply Kd.V_drew)); exact HL384_3.out) (by first | exact Kd.R_base ho0 | exact Kd.N_base ho0 | exact Kd.S_base ho0 | exact Kd.R_base ho0) hb)
               have n3_ := Aside0.mk (Kd.V_elder' (by (with_reducible repeat (first | apply Kd.V_alloc | apply Kd.V_drewN | apply Kd.V_drew)); exact HL392_3.out) (by first | exact Kd.R_base ho0 | exact Kd.N_base ho0 | exact Kd.S_base ho0 | exact Kd.R_base ho0) hb)
               have n4_ := Aside0.mk (Kd.R_lower ho0 (below_size (by repeat (first | (with_reducible first | exact HB.out | apply bA | apply bN | apply bD) | exact HB.out))))
               have n5_ := Aside0.mk (Kd.C_below (by repeat (first | (with_reducible exact HR384_3.out) | (with_reducible refine Kd.C_alloc ?_ _) | (with_reducible refine Kd.C_drewN ?_ _) | (with_reducible refine Kd.C_drew ?_) | exact HR384_3.out)) hb)
               have n6_ := Aside0.mk (Kd.C_below (by repeat (first | (with_reducible exact HR392_3.out) | (with_reducible refine Kd.C_alloc ?_ _) | (with_reducible refine Kd.C_drewN ?_ _) | (with_reducible refine Kd.C_drew ?_) | exact HR392_3.out)) hb)
               have n7_ := Aside0.mk (below_step (by repeat (first | (with_reducible first | exact HB.out | apply bA | apply bN | apply bD) | exact HB.out)) hb)
               clear HO_4
               clear HO_9
               clear HL384_3
               clear HL392_3
               clear HR384_3
               clear HR392_3
               clear HB
               have HO_4 := n0_
               have HO_9 := n1_
               have HL384_3 := n2_
               have HL392_3 := n3_
               have HO390 := n4_
               have HR384_3 := n5_
               have HR392_3 := n6_
               have HB := n7_
               clear n0_ n1_ n2_ n3_ n4_ n5_ n6_ n7_
               (try clear hb)
               (try clear hb2)
               (try clear hk)
               (try clear hi)
               (try clear ho0)
               obtain ⟨Ao66, co66, eo66⟩ := Kd.R_slice HO390.out
               (first | subst eo66 | (injection eo66 with f1_ f2_ f3_; have f4_ := f1_.symm; have f5_ := f3_.symm; clear f1_ f2_ f3_; subst f4_; subst f5_))
               refine hK.out _ _ ⟨HS0_, HS1_, HS2_, HS3_, HS4_, HS5_, HS6_, HS7_, HS8_, HS9_⟩ (fun hHeld => ?_)
               clear hK K
               refine norm_ (a' := ?_) ?_ ?_
               rotate_left
               ·show Act.put _ (some 90) _ = _
                simp only [Act.put, List.setIfInBounds_toArray, List.set_cons_zero, List.set_cons_succ, i64_w, i32_w]
                rfl
               refine one_ (i := 9) (N := some 95) #[true, true, true, true, true, true, true, true, true, true, false] rfl rfl (one_of HT_.out (by kernel_rfl)) (by decide) (fun K hK => ?_)
               refine goes_ Tryd.func11 (by kernel_rfl) rfl #[.agg #[.int .i64 t385, .int .i64 t386, .string t387, .slice Ao66 t388.length co66, .string t391], .agg #[.int .i64 ((rd_T34 x4_1 x83_3).f0), .int .i64 ((rd_T34 x4_1 x83_3).f1), .string ((rd_T34 x4_1 x83_3).f2), .slice A392_3 ((rd_T34 x4_1 x83_3).f3).length c392_3, .string ((rd_T34 x4_1 x83_3).f4)], .bool false] (by rfl) rfl rfl (by (try simp only [List.map_toArray, List.map_cons, List.map_nil]); first | done | rfl | (simp only [List.length_drop, List.length_take]; rfl)) ?_
               with_reducible refine (treenaillaw01_same.calls k3 t385 t386 t387 _ _ t388 t391 ((rd_T34 x4_1 x83_3).f0) ((rd_T34 x4_1 x83_3).f1) ((rd_T34 x4_1 x83_3).f2) _ _ ((rd_T34 x4_1 x83_3).f3) ((rd_T34 x4_1 x83_3).f4) false true _ ?side1 ?side2 ?side3 ?side4 A61.out).mono ?_
               (case side1 => repeat (first | exact (Kd.R_reads' HO390.out).2.2 | (with_reducible refine Kd.C_alloc ?_ _) | (with_reducible refine Kd.C_drewN ?_ _) | (with_reducible refine Kd.C_drew ?_)))
               (case side2 => exact (Kd.R_reads' HO390.out).2.1)
               (case side3 => repeat (first | exact (by repeat (first | (with_reducible exact HR392_3.out) | (with_reducible refine Kd.C_alloc ?_ _) | (with_reducible refine Kd.C_drewN ?_ _) | (with_reducible refine Kd.C_drew ?_) | exact HR392_3.out)) | (with_reducible refine Kd.C_alloc ?_ _) | (with_reducible refine Kd.C_drewN ?_ _) | (with_reducible refine Kd.C_drew ?_)))
               (case side4 => exact HC392_3.out)
               rintro e w67 ⟨rfl, hb⟩
               have HS0_ := (hb.cell (World.block_lt_of_cell? _ _ (hHeld.1))).trans (hHeld.1)
               have HS1_ := (hb.cell (World.block_lt_of_cell? _ _ (hHeld.2.1))).trans (hHeld.2.1)
               have HS2_ := (hb.cell (World.block_lt_of_cell? _ _ (hHeld.2.2.1))).trans (hHeld.2.2.1)
               have HS3_ := (hb.cell (World.block_lt_of_cell? _ _ (hHeld.2.2.2.1))).trans (hHeld.2.2.2.1)
               have HS4_ := (hb.cell (World.block_lt_of_cell? _ _ (hHeld.2.2.2.2.1))).trans (hHeld.2.2.2.2.1)
               have HS5_ := (hb.cell (World.block_lt_of_cell? _ _ (hHeld.2.2.2.2.2.1))).trans (hHeld.2.2.2.2.2.1)
               have HS6_ := (hb.cell (World.block_lt_of_cell? _ _ (hHeld.2.2.2.2.2.2.1))).trans (hHeld.2.2.2.2.2.2.1)
               have HS7_ := (hb.cell (World.block_lt_of_cell? _ _ (hHeld.2.2.2.2.2.2.2.1))).trans (hHeld.2.2.2.2.2.2.2.1)
               have HS8_ := (hb.cell (World.block_lt_of_cell? _ _ (hHeld.2.2.2.2.2.2.2.2.1))).trans (hHeld.2.2.2.2.2.2.2.2.1)
               have HS9_ := (hb.cell (World.block_lt_of_cell? _ _ (hHeld.2.2.2.2.2.2.2.2.2))).trans (hHeld.2.2.2.2.2.2.2.2.2)
               refine ⟨_, rfl, ?_⟩
               have n0_ := Aside0.mk (Kd.N_below (by (with_reducible repeat (first | apply Kd.N_alloc | apply Kd.N_drewN | apply Kd.N_drew)); exact HO_4.out) hb)
               have n1_ := Aside0.mk (Kd.N_below (by (with_reducible repeat (first | apply Kd.N_alloc | apply Kd.N_drewN | apply Kd.N_drew)); exact HO_9.out) hb)
               have n2_ := Aside0.mk (Kd.V_below (by (with_reducible repeat (first | apply Kd.V_alloc | apply Kd.V_drewN | apply Kd.V_drew)); exact HL384_3.out) hb)
               have n3_ := Aside0.mk (Kd.V_below (by (with_reducible repeat (first | apply Kd.V_alloc | apply Kd.V_drewN | apply Kd.V_drew)); exact HL392_3.out) hb)
               have n4_ := Aside0.mk (Kd.R_below (by (with_reducible repeat (first | apply Kd.R_alloc | apply Kd.R_drewN | apply Kd.R_drew)); exact HO390.out) hb)
               have n5_ := Aside0.mk (Kd.C_below (by repeat (first | (with_reducible exact HR384_3.out) | (with_reducible refine Kd.C_alloc ?_ _) | (with_reducible refine Kd.C_drewN ?_ _) | (with_reducible refine Kd.C_drew ?_) | exact HR384_3.out)) hb)
               have n6_ := Aside0.mk (Kd.C_below (by repeat (first | (with_reducible exact HR392_3.out) | (with_reducible refine Kd.C_alloc ?_ _) | (with_reducible refine Kd.C_drewN ?_ _) | (with_reducible refine Kd.C_drew ?_) | exact HR392_3.out)) hb)
               have n7_ := Aside0.mk (below_step (by repeat (first | (with_reducible first | exact HB.out | apply bA | apply bN | apply bD) | exact HB.out)) hb)
               clear HO_4
               clear HO_9
               clear HL384_3
               clear HL392_3
               clear HO390
               clear HR384_3
               clear HR392_3
               clear HB
               have HO_4 := n0_
               have HO_9 := n1_
               have HL384_3 := n2_
               have HL392_3 := n3_
               have HO390 := n4_
               have HR384_3 := n5_
               have HR392_3 := n6_
               have HB := n7_
               clear n0_ n1_ n2_ n3_ n4_ n5_ n6_ n7_
               (try clear hb)
               (try clear hb2)
               (try clear hk)
               (try clear hi)
               refine hK.out _ _ ⟨HS0_, HS1_, HS2_, HS3_, HS4_, HS5_, HS6_, HS7_, HS8_, HS9_⟩ (fun hHeld => ?_)
               clear hK K
               refine norm_ (a' := ?_) ?_ ?_
               rotate_left
               ·show Act.put _ (some 95) _ = _
                simp only [Act.put, List.setIfInBounds_toArray, List.set_cons_zero, List.set_cons_succ, i64_w, i32_w]
                rfl
               refine pure_ (i := 10) (N := some 96) (v := ?_) (a' := ?_) #[true, true, true, true, true, true, true, true, true, true, true] rfl rfl (any_of HT_.out (by kernel_rfl)) (fun _ _ _ h => h) (Or.inl ⟨by rfl, ?_⟩) ?_ ?_
               rotate_left
               ·intro w'
                go_simp
                with_reducible rfl
               rotate_left
               ·simp only [Act.put, List.setIfInBounds_toArray, List.set_cons_zero, List.set_cons_succ, i64_w, i32_w]
                rfl
               refine done_ (done_of HT_.out (by kernel_rfl)) ?_
               try go_wp2
               go_roundg k3
               case measure => have := HK1.out; have := HJ48.out; have := HK3.out; omega
               case rel => exact ⟨(wrap64 (x83_3 + 1)), (by first | rfl | (simp; done) | (simp [*]; done)), H', ⟨by have := HK1.out; have := HJ48.out; have := HK3.out; omega⟩, ⟨by (with_reducible repeat (first | apply Kd.N_alloc | apply Kd.N_drewN | apply Kd.N_drew)); exact Kd.N_mono HO_4.out (fun _ hk => hk.1)⟩, ⟨by (with_reducible repeat (first | apply Kd.N_alloc | apply Kd.N_drewN | apply Kd.N_drew)); exact Kd.N_mono HO_9.out (fun _ hk => hk.1)⟩, ⟨by repeat (first | (with_reducible first | exact HB.out | apply bA | apply bN | apply bD) | exact HB.out)⟩⟩
              ·replace c62 := Bool.eq_false_iff.mpr c62
               subst c62
               have H1 : (some false) = some r := by rw [if_neg (show ¬ (false = true) by decide)] at H; exact H
               clear H
               have H := H1
               clear H1
               obtain rfl := Option.some.inj H
               try go_wp2
               have n0_ := Aside0.mk (Kd.N_drew HO_4.out)
               have n1_ := Aside0.mk (Kd.N_drew HO_9.out)
               have n2_ := Aside0.mk (below_drew1 HB.out)
               clear HO_4
               clear HO_9
               clear HB
               have HO_4 := n0_
               have HO_9 := n1_
               have HB := n2_
               clear n0_ n1_ n2_
               have p384 : 0 ≤ (x83_3 : Int) := of_decide_eq_true (by first | (with_reducible assumption) | assumption)
               have q384 : x83_3 < (t378.length : Int) := of_decide_eq_true (by first | (with_reducible assumption) | assumption)
               obtain ⟨ad384, A384_3, c384_3, e384, hx384_0, hx384_1, hx384_2, hx384_3, hx384_4, hl384_3, hi384_3⟩ := at_T38 (Kd.N_reads' HO_9.out).2.2 x83_3 p384 q384
               cases e384
               obtain ⟨ce384, hce384, hMe384, hcc384⟩ := Kd.N_get HO_9.out z38 x83_3 p384 (by first | exact q384 | exact of_decide_eq_true (by first | (with_reducible assumption) | assumption) | (have e_ := (Kd.N_reads' HO_9.out).1; omega))
               obtain ⟨ua384_3, uc384_3, rfl, ul384_3, ge384_3⟩ := k38_openF hMe384
               have hv384_3 := hcc384 3 _ rfl
               rw [add_field _ _ 3 (by omega)] at hv384_3
               replace hv384_3 := Option.some.inj (hv384_3.symm.trans hx384_3)
               injection hv384_3 with hva_ hvn_ hvc_
               rw [hva_] at ge384_3
               rw [hvc_] at ul384_3
               have HL384_3 := Aside0.mk (show Kd.V k51 51 _ w.heap.size _ _ ((rd_T38 t378 x83_3).f3) from Kd.V_mk ul384_3 ge384_3)
               clear hva_ hvn_ hvc_ ge384_3 ul384_3
               clear hcc384 hce384
               have HR384_3 := Aside0.mk hi384_3
               have HC384_3 := Aside0.mk hl384_3
               clear hi384_3 hl384_3
               replace p384 := eq_true p384
               replace q384 := eq_true q384
               obtain ⟨Ao69, co69, eo69⟩ := Kd.N_slice HO_4.out
               (first | subst eo69 | (injection eo69 with f1_ f2_ f3_; have f4_ := f1_.symm; have f5_ := f3_.symm; clear f1_ f2_ f3_; subst f4_; subst f5_))
               have p392 : 0 ≤ (x83_3 : Int) := of_decide_eq_true (by first | (with_reducible assumption) | assumption)
               have q392 : x83_3 < (x4_1.length : Int) := of_decide_eq_true (by first | (with_reducible assumption) | assumption)
               obtain ⟨ad392, A392_3, c392_3, e392, hx392_0, hx392_1, hx392_2, hx392_3, hx392_4, hl392_3, hi392_3⟩ := at_T34 (Kd.N_reads' HO_4.out).2.2 x83_3 p392 q392
               cases e392
               obtain ⟨ce392, hce392, hMe392, hcc392⟩ := Kd.N_get HO_4.out z34 x83_3 p392 (by first | exact q392 | exact of_decide_eq_true (by first | (with_reducible assumption) | assumption) | (have e_ := (Kd.N_reads' HO_4.out).1; omega))
               obtain ⟨ua392_3, uc392_3, rfl, ul392_3, ge392_3⟩ := k34_openF hMe392
               have hv392_3 := hcc392 3 _ rfl
               rw [add_field _ _ 3 (by omega)] at hv392_3
               replace hv392_3 := Option.some.inj (hv392_3.symm.trans hx392_3)
               injection hv392_3 with hva_ hvn_ hvc_
               rw [hva_] at ge392_3
               rw [hvc_] at ul392_3
               have HL392_3 := Aside0.mk (show Kd.V k60 60 _ w.heap.size _ _ ((rd_T34 x4_1 x83_3).f3) from Kd.V_mk ul392_3 ge392_3)
               clear hva_ hvn_ hvc_ ge392_3 ul392_3
               clear hcc392 hce392
               have HR392_3 := Aside0.mk hi392_3
               have HC392_3 := Aside0.mk hl392_3
               clear hi392_3 hl392_3
               replace p392 := eq_true p392
               replace q392 := eq_true q392
               refine start_ (n := 11) (S := fun w' => w'.cell? (ad384.add ((x83_3).toNat * 5)) = some (.int .i64 ((rd_T38 t378 x83_3).f0)) ∧ w'.cell? ⟨(ad384.add ((x83_3).toNat * 5)).block, (ad384.add ((x83_3).toNat * 5)).off + 1, none⟩ = some (.int .i64 ((rd_T38 t378 x83_3).f1)) ∧ w'.cell? ⟨(ad384.add ((x83_3).toNat * 5)).block, (ad384.add ((x83_3).toNat * 5)).off + 2, none⟩ = some (.string ((rd_T38 t378 x83_3).f2)) ∧ w'.cell? ⟨(ad384.add ((x83_3).toNat * 5)).block, (ad384.add ((x83_3).toNat * 5)).off + 3, none⟩ = some (.slice A384_3 ((rd_T38 t378 x83_3).f3).length c384_3) ∧ w'.cell? ⟨(ad384.add ((x83_3).toNat * 5)).block, (ad384.add ((x83_3).toNat * 5)).off + 4, none⟩ = some (.string ((rd_T38 t378 x83_3).f4)) ∧ w'.cell? (ad392.add ((x83_3).toNat * 5)) = some (.int .i64 ((rd_T34 x4_1 x83_3).f0)) ∧ w'.cell? ⟨(ad392.add ((x83_3).toNat * 5)).block, (ad392.add ((x83_3).toNat * 5)).off + 1, none⟩ = some (.int .i64 ((rd_T34 x4_1 x83_3).f1)) ∧ w'.cell? ⟨(ad392.add ((x83_3).toNat * 5)).block, (ad392.add ((x83_3).toNat * 5)).off + 2, none⟩ = some (.string ((rd_T34 x4_1 x83_3).f2)) ∧ w'.cell? ⟨(ad392.add ((x83_3).toNat * 5)).block, (ad392.add ((x83_3).toNat * 5)).off + 3, none⟩ = some (.slice A392_3 ((rd_T34 x4_1 x83_3).f3).length c392_3) ∧ w'.cell? ⟨(ad392.add ((x83_3).toNat * 5)).block, (ad392.add ((x83_3).toNat * 5)).off + 4, none⟩ = some (.string ((rd_T34 x4_1 x83_3).f4))) (ds := []) #[false, false, false, false, false, false, false, false, false, false, false] (by kernel_rfl) rfl rfl ⟨hx384_0, hx384_1, hx384_2, hx384_3, hx384_4, hx392_0, hx392_1, hx392_2, hx392_3, hx392_4⟩ (fun hHeld => ?_); refine with_tabW treenaillaw01_MarkBack.tab23 treenaillaw01_MarkBack.bits23 (fun HT_ HW_ => ?_)
               generalize wr.drew = w68 at HO_4 HO_9 HB HL384_3 HL392_3 HR384_3 HR392_3 hx384_0 hx384_1 hx384_2 hx384_3 hx384_4 hx392_0 hx392_1 hx392_2 hx392_3 hx392_4 hHeld ⊢
               refine pure_ (i := 0) (N := some 86) (v := ?_) (a' := ?_) #[true, false, false, false, false, false, false, false, false, false, false] rfl rfl (any_of HT_.out (by kernel_rfl)) (fun _ _ _ h => h) (Or.inl ⟨by rfl, ?_⟩) ?_ ?_
               rotate_left
               ·intro w'
                go_simp
                with_reducible rfl
               rotate_left
               ·simp only [Act.put, List.setIfInBounds_toArray, List.set_cons_zero, List.set_cons_succ, i64_w, i32_w]
                rfl
               refine pure_ (i := 1) (N := some 87) (v := ?_) (a' := ?_) #[true, true, false, false, false, false, false, false, false, false, false] rfl rfl (any_of HT_.out (by kernel_rfl)) (fun _ _ _ h => h) (Or.inl ⟨by rfl, ?_⟩) ?_ ?_
               rotate_left
               ·intro w'
                go_simp
                with_reducible rfl
               rotate_left
               ·simp only [Act.put, List.setIfInBounds_toArray, List.set_cons_zero, List.set_cons_succ, i64_w, i32_w]
                rfl
               refine pure_ (i := 2) (N := some 88) (v := ?_) (a' := ?_) #[true, true, true, false, false, false, false, false, false, false, false] rfl rfl (any_of HT_.out (by kernel_rfl)) (fun _ _ _ h => h) (Or.inl ⟨by rfl, ?_⟩) ?_ ?_
               rotate_left
               ·intro w'
                go_simp
                with_reducible rfl
               rotate_left
               ·simp only [Act.put, List.setIfInBounds_toArray, List.set_cons_zero, List.set_cons_succ, i64_w, i32_w]
                rfl
               refine pure_ (i := 5) (N := some 91) (v := ?_) (a' := ?_) #[true, true, true, false, false, true, false, false, false, false, false] rfl rfl (any_of HT_.out (by kernel_rfl)) (fun _ _ _ h => h) (Or.inl ⟨by rfl, ?_⟩) ?_ ?_
               rotate_left
               ·intro w'
                go_simp
                with_reducible rfl
               rotate_left
               ·simp only [Act.put, List.setIfInBounds_toArray, List.set_cons_zero, List.set_cons_succ, i64_w, i32_w]
                rfl
               refine pure_ (i := 6) (N := some 92) (v := ?_) (a' := ?_) #[true, true, true, false, false, true, true, false, false, false, false] rfl rfl (any_of HT_.out (by kernel_rfl)) (fun _ _ _ h => h) (Or.inl ⟨by rfl, ?_⟩) ?_ ?_
               rotate_left
               ·intro w'
                go_simp
                with_reducible rfl
               rotate_left
               ·simp only [Act.put, List.setIfInBounds_toArray, List.set_cons_zero, List.set_cons_succ, i64_w, i32_w]
                rfl
               refine pure_ (i := 7) (N := some 93) (v := ?_) (a' := ?_) #[true, true, true, false, false, true, true, true, false, false, false] rfl rfl (any_of HT_.out (by kernel_rfl)) (fun _ _ _ h => h) (Or.inl ⟨by rfl, ?_⟩) ?_ ?_
               rotate_left
               ·intro w'
                go_simp
                with_reducible rfl
               rotate_left
               ·simp only [Act.put, List.setIfInBounds_toArray, List.set_cons_zero, List.set_cons_succ, i64_w, i32_w]
                rfl
               refine take_ (i := 3) (N := some 89) (v := ?_) (a' := ?_) #[true, true, true, true, false, true, true, true, false, false, false] rfl rfl (take_ofW HT_.out HW_.out (by kernel_rfl)) (fun _ _ _ h => h) (Or.inl ⟨by rfl, ?_⟩) hHeld ?_ ?_
               rotate_left
               ·rintro w' ⟨s0, s1, s2, s3, s4, s5, s6, s7, s8, s9⟩
                go_simp
                with_reducible rfl
               rotate_left
               ·simp only [Act.put, List.setIfInBounds_toArray, List.set_cons_zero, List.set_cons_succ, i64_w, i32_w]
                rfl
               refine take_ (i := 8) (N := some 94) (v := ?_) (a' := ?_) #[true, true, true, true, false, true, true, true, true, false, false] rfl rfl (take_ofW HT_.out HW_.out (by kernel_rfl)) (fun _ _ _ h => h) (Or.inl ⟨by rfl, ?_⟩) hHeld ?_ ?_
               rotate_left
               ·rintro w' ⟨s0, s1, s2, s3, s4, s5, s6, s7, s8, s9⟩
                go_simp
                with_reducible rfl
               rotate_left
               ·simp only [Act.put, List.setIfInBounds_toArray, List.set_cons_zero, List.set_cons_succ, i64_w, i32_w]
                rfl
               refine one_ (i := 4) (N := some 90) #[true, true, true, true, true, true, true, true, true, false, false] rfl rfl (one_of HT_.out (by kernel_rfl)) (by decide) (fun K hK => ?_)
               refine goes_ Tryd.func12 (by kernel_rfl) rfl #[.agg #[.int .i64 ((rd_T38 t378 x83_3).f0), .int .i64 ((rd_T38 t378 x83_3).f1), .string ((rd_T38 t378 x83_3).f2), .slice A384_3 ((rd_T38 t378 x83_3).f3).length c384_3, .string ((rd_T38 t378 x83_3).f4)]] (by rfl) rfl rfl (by (try simp only [List.map_toArray, List.map_cons, List.map_nil]); first | done | rfl | (simp only [List.length_drop, List.length_take]; rfl)) ?_
               with_reducible refine (treenaillaw01_ref.calls k3 ((rd_T38 t378 x83_3).f0) ((rd_T38 t378 x83_3).f1) ((rd_T38 t378 x83_3).f2) _ _ ((rd_T38 t378 x83_3).f3) ((rd_T38 t378 x83_3).f4) t385 t386 t387 t388 t391 _ ?side1 ?side2 A59.out).mono ?_
               (case side1 => repeat (first | exact (by repeat (first | (with_reducible exact HR384_3.out) | (with_reducible refine Kd.C_alloc ?_ _) | (with_reducible refine Kd.C_drewN ?_ _) | (with_reducible refine Kd.C_drew ?_) | exact HR384_3.out)) | (with_reducible refine Kd.C_alloc ?_ _) | (with_reducible refine Kd.C_drewN ?_ _) | (with_reducible refine Kd.C_drew ?_)))
               (case side2 => exact HC384_3.out)
               rintro e w70 ⟨v389, rfl, ho0, hb⟩
               have HS0_ := (hb.cell (World.block_lt_of_cell? _ _ (hHeld.1))).trans (hHeld.1)
               have HS1_ := (hb.cell (World.block_lt_of_cell? _ _ (hHeld.2.1))).trans (hHeld.2.1)
               have HS2_ := (hb.cell (World.block_lt_of_cell? _ _ (hHeld.2.2.1))).trans (hHeld.2.2.1)
               have HS3_ := (hb.cell (World.block_lt_of_cell? _ _ (hHeld.2.2.2.1))).trans (hHeld.2.2.2.1)
               have HS4_ := (hb.cell (World.block_lt_of_cell? _ _ (hHeld.2.2.2.2.1))).trans (hHeld.2.2.2.2.1)
               have HS5_ := (hb.cell (World.block_lt_of_cell? _ _ (hHeld.2.2.2.2.2.1))).trans (hHeld.2.2.2.2.2.1)
               have HS6_ := (hb.cell (World.block_lt_of_cell? _ _ (hHeld.2.2.2.2.2.2.1))).trans (hHeld.2.2.2.2.2.2.1)
               have HS7_ := (hb.cell (World.block_lt_of_cell? _ _ (hHeld.2.2.2.2.2.2.2.1))).trans (hHeld.2.2.2.2.2.2.2.1)
               have HS8_ := (hb.cell (World.block_lt_of_cell? _ _ (hHeld.2.2.2.2.2.2.2.2.1))).trans (hHeld.2.2.2.2.2.2.2.2.1)
               have HS9_ := (hb.cell (World.block_lt_of_cell? _ _ (hHeld.2.2.2.2.2.2.2.2.2))).trans (hHeld.2.2.2.2.2.2.2.2.2)
               refine ⟨_, rfl, ?_⟩
               have n0_ := Aside0.mk (Kd.N_elder' (by (with_reducible repeat (first | apply Kd.N_alloc | apply Kd.N_drewN | apply Kd.N_drew)); exact HO_4.out) (by first | exact Kd.R_base ho0 | exact Kd.N_base ho0 | exact Kd.S_base ho0 | exact Kd.R_base ho0) hb)
               have n1_ := Aside0.mk (Kd.N_elder' (by (with_reducible repeat (first | apply Kd.N_alloc | apply Kd.N_drewN | apply Kd.N_drew)); exact HO_9.out) (by first | exact Kd.R_base ho0 | exact Kd.N_base ho0 | exact Kd.S_base ho0 | exact Kd.R_base ho0) hb)
               have n2_ := Aside0.mk (Kd.V_elder' (by (with_reducible repeat (first | apply Kd.V_alloc | apply Kd.V_drewN | apply Kd.V_drew)); exact HL384_3.out) (by first | exact Kd.R_base ho0 | exact Kd.N_base ho0 | exact Kd.S_base ho0 | exact Kd.R_base ho0) hb)
               have n3_ := Aside0.mk (Kd.V_elder' (by (with_reducible repeat (first | apply Kd.V_alloc | apply Kd.V_drewN | apply Kd.V_drew)); exact HL392_3.out) (by first | exact Kd.R_base ho0 | exact Kd.N_base ho0 | exact Kd.S_base ho0 | exact Kd.R_base ho0) hb)
               have n4_ := Aside0.mk (Kd.R_lower ho0 (below_size (by repeat (first | (with_reducible first | exact HB.out | apply bA | apply bN | apply bD) | exact HB.out))))
               have n5_ := Aside0.mk (Kd.C_below (by repeat (first | (with_reducible exact HR384_3.out) | (with_reducible refine Kd.C_alloc ?_ _) | (with_reducible refine Kd.C_drewN ?_ _) | (with_reducible refine Kd.C_drew ?_) | exact HR384_3.out)) hb)
               have n6_ := Aside0.mk (Kd.C_below (by repeat (first | (with_reducible exact HR392_3.out) | (with_reducible refine Kd.C_alloc ?_ _) | (with_reducible refine Kd.C_drewN ?_ _) | (with_reducible refine Kd.C_drew ?_) | exact HR392_3.out)) hb)
               have n7_ := Aside0.mk (below_step (by repeat (first | (with_reducible first | exact HB.out | apply bA | apply bN | apply bD) | exact HB.out)) hb)
               clear HO_4
               clear HO_9
               clear HL384_3
               clear HL392_3
               clear HR384_3
               clear HR392_3
               clear HB
               have HO_4 := n0_
               have HO_9 := n1_
               have HL384_3 := n2_
               have HL392_3 := n3_
               have HO390 := n4_
               have HR384_3 := n5_
               have HR392_3 := n6_
               have HB := n7_
               clear n0_ n1_ n2_ n3_ n4_ n5_ n6_ n7_
               (try clear hb)
               (try clear hb2)
               (try clear hk)
               (try clear hi)
               (try clear ho0)
               obtain ⟨Ao71, co71, eo71⟩ := Kd.R_slice HO390.out
               (first | subst eo71 | (injection eo71 with f1_ f2_ f3_; have f4_ := f1_.symm; have f5_ := f3_.symm; clear f1_ f2_ f3_; subst f4_; subst f5_))
               refine hK.out _ _ ⟨HS0_, HS1_, HS2_, HS3_, HS4_, HS5_, HS6_, HS7_, HS8_, HS9_⟩ (fun hHeld => ?_)
               clear hK K
               refine norm_ (a' := ?_) ?_ ?_
               rotate_left
               ·show Act.put _ (some 90) _ = _
                simp only [Act.put, List.setIfInBounds_toArray, List.set_cons_zero, List.set_cons_succ, i64_w, i32_w]
                rfl
               refine one_ (i := 9) (N := some 95) #[true, true, true, true, true, true, true, true, true, true, false] rfl rfl (one_of HT_.out (by kernel_rfl)) (by decide) (fun K hK => ?_)
               refine goes_ Tryd.func11 (by kernel_rfl) rfl #[.agg #[.int .i64 t385, .int .i64 t386, .string t387, .slice Ao71 t388.length co71, .string t391], .agg #[.int .i64 ((rd_T34 x4_1 x83_3).f0), .int .i64 ((rd_T34 x4_1 x83_3).f1), .string ((rd_T34 x4_1 x83_3).f2), .slice A392_3 ((rd_T34 x4_1 x83_3).f3).length c392_3, .string ((rd_T34 x4_1 x83_3).f4)], .bool false] (by rfl) rfl rfl (by (try simp only [List.map_toArray, List.map_cons, List.map_nil]); first | done | rfl | (simp only [List.length_drop, List.length_take]; rfl)) ?_
               with_reducible refine (treenaillaw01_same.calls k3 t385 t386 t387 _ _ t388 t391 ((rd_T34 x4_1 x83_3).f0) ((rd_T34 x4_1 x83_3).f1) ((rd_T34 x4_1 x83_3).f2) _ _ ((rd_T34 x4_1 x83_3).f3) ((rd_T34 x4_1 x83_3).f4) false false _ ?side1 ?side2 ?side3 ?side4 A61.out).mono ?_
               (case side1 => repeat (first | exact (Kd.R_reads' HO390.out).2.2 | (with_reducible refine Kd.C_alloc ?_ _) | (with_reducible refine Kd.C_drewN ?_ _) | (with_reducible refine Kd.C_drew ?_)))
               (case side2 => exact (Kd.R_reads' HO390.out).2.1)
               (case side3 => repeat (first | exact (by repeat (first | (with_reducible exact HR392_3.out) | (with_reducible refine Kd.C_alloc ?_ _) | (with_reducible refine Kd.C_drewN ?_ _) | (with_reducible refine Kd.C_drew ?_) | exact HR392_3.out)) | (with_reducible refine Kd.C_alloc ?_ _) | (with_reducible refine Kd.C_drewN ?_ _) | (with_reducible refine Kd.C_drew ?_)))
               (case side4 => exact HC392_3.out)
               rintro e w72 ⟨rfl, hb⟩
               have HS0_ := (hb.cell (World.block_lt_of_cell? _ _ (hHeld.1))).trans (hHeld.1)
               have HS1_ := (hb.cell (World.block_lt_of_cell? _ _ (hHeld.2.1))).trans (hHeld.2.1)
               have HS2_ := (hb.cell (World.block_lt_of_cell? _ _ (hHeld.2.2.1))).trans (hHeld.2.2.1)
               have HS3_ := (hb.cell (World.block_lt_of_cell? _ _ (hHeld.2.2.2.1))).trans (hHeld.2.2.2.1)
               have HS4_ := (hb.cell (World.block_lt_of_cell? _ _ (hHeld.2.2.2.2.1))).trans (hHeld.2.2.2.2.1)
               have HS5_ := (hb.cell (World.block_lt_of_cell? _ _ (hHeld.2.2.2.2.2.1))).trans (hHeld.2.2.2.2.2.1)
               have HS6_ := (hb.cell (World.block_lt_of_cell? _ _ (hHeld.2.2.2.2.2.2.1))).trans (hHeld.2.2.2.2.2.2.1)
               have HS7_ := (hb.cell (World.block_lt_of_cell? _ _ (hHeld.2.2.2.2.2.2.2.1))).trans (hHeld.2.2.2.2.2.2.2.1)
               have HS8_ := (hb.cell (World.block_lt_of_cell? _ _ (hHeld.2.2.2.2.2.2.2.2.1))).trans (hHeld.2.2.2.2.2.2.2.2.1)
               have HS9_ := (hb.cell (World.block_lt_of_cell? _ _ (hHeld.2.2.2.2.2.2.2.2.2))).trans (hHeld.2.2.2.2.2.2.2.2.2)
               refine ⟨_, rfl, ?_⟩
               have n0_ := Aside0.mk (Kd.N_below (by (with_reducible repeat (first | apply Kd.N_alloc | apply Kd.N_drewN | apply Kd.N_drew)); exact HO_4.out) hb)
               have n1_ := Aside0.mk (Kd.N_below (by (with_reducible repeat (first | apply Kd.N_alloc | apply Kd.N_drewN | apply Kd.N_drew)); exact HO_9.out) hb)
               have n2_ := Aside0.mk (Kd.V_below (by (with_reducible repeat (first | apply Kd.V_alloc | apply Kd.V_drewN | apply Kd.V_drew)); exact HL384_3.out) hb)
               have n3_ := Aside0.mk (Kd.V_below (by (with_reducible repeat (first | apply Kd.V_alloc | apply Kd.V_drewN | apply Kd.V_drew)); exact HL392_3.out) hb)
               have n4_ := Aside0.mk (Kd.R_below (by (with_reducible repeat (first | apply Kd.R_alloc | apply Kd.R_drewN | apply Kd.R_drew)); exact HO390.out) hb)
               have n5_ := Aside0.mk (Kd.C_below (by repeat (first | (with_reducible exact HR384_3.out) | (with_reducible refine Kd.C_alloc ?_ _) | (with_reducible refine Kd.C_drewN ?_ _) | (with_reducible refine Kd.C_drew ?_) | exact HR384_3.out)) hb)
               have n6_ := Aside0.mk (Kd.C_below (by repeat (first | (with_reducible exact HR392_3.out) | (with_reducible refine Kd.C_alloc ?_ _) | (with_reducible refine Kd.C_drewN ?_ _) | (with_reducible refine Kd.C_drew ?_) | exact HR392_3.out)) hb)
               have n7_ := Aside0.mk (below_step (by repeat (first | (with_reducible first | exact HB.out | apply bA | apply bN | apply bD) | exact HB.out)) hb)
               clear HO_4
               clear HO_9
               clear HL384_3
               clear HL392_3
               clear HO390
               clear HR384_3
               clear HR392_3
               clear HB
               have HO_4 := n0_
               have HO_9 := n1_
               have HL384_3 := n2_
               have HL392_3 := n3_
               have HO390 := n4_
               have HR384_3 := n5_
               have HR392_3 := n6_
               have HB := n7_
               clear n0_ n1_ n2_ n3_ n4_ n5_ n6_ n7_
               (try clear hb)
               (try clear hb2)
               (try clear hk)
               (try clear hi)
               refine hK.out _ _ ⟨HS0_, HS1_, HS2_, HS3_, HS4_, HS5_, HS6_, HS7_, HS8_, HS9_⟩ (fun hHeld => ?_)
               clear hK K
               refine norm_ (a' := ?_) ?_ ?_
               rotate_left
               ·show Act.put _ (some 95) _ = _
                simp only [Act.put, List.setIfInBounds_toArray, List.set_cons_zero, List.set_cons_succ, i64_w, i32_w]
                rfl
               refine pure_ (i := 10) (N := some 96) (v := ?_) (a' := ?_) #[true, true, true, true, true, true, true, true, true, true, true] rfl rfl (any_of HT_.out (by kernel_rfl)) (fun _ _ _ h => h) (Or.inl ⟨by rfl, ?_⟩) ?_ ?_
               rotate_left
               ·intro w'
                go_simp
                with_reducible rfl
               rotate_left
               ·simp only [Act.put, List.setIfInBounds_toArray, List.set_cons_zero, List.set_cons_succ, i64_w, i32_w]
                rfl
               refine done_ (done_of HT_.out (by kernel_rfl)) ?_
               try go_wp2
               go_ret
               exact ⟨by first | rfl | (simp [errW_none, errW_some] <;> rfl) | (simp [*, errW_none, errW_some] <;> rfl), by repeat (first | (with_reducible first | exact HB.out | apply bA | apply bN | apply bD) | exact HB.out)⟩
             ·rw [if_neg c60] at H
              exact absurd H (by simp)
            ·rw [if_neg c58] at H
             exact absurd H (by simp)
           ·rw [if_neg c57] at H
            exact absurd H (by simp)
          ·rw [if_neg c56] at H
           have c56b0 : decide (x83_3 < (t378.length : Int)) = false := decide_eq_false c56
           try (have c56b9 := c56b0; rw [hl392_3] at c56b9)
           try (have c56b9 := c56b0; rw [hl384_3] at c56b9)
           try (have c56b9 := c56b0; rw [hl366_3] at c56b9)
           try (have c56b9 := c56b0; rw [hl360_3] at c56b9)
           clear c56
           replace H := Option.bind_eq_some_iff.mp H
           obtain ⟨t383, A730, H⟩ := H
           replace H : (some t383) = some r := H
           have A73 := Aside0.mk A730
           clear A730
           obtain rfl := Option.some.inj H
           go_wp2_with (first | ((with_reducible refine gate_callee (f := 9) rfl ?_); refine goesL_ (some 98) rfl rfl Tryd.func9 (by kernel_rfl) rfl #[] rfl (by (try simp only [List.map_toArray, List.map_cons, List.map_nil]); first | done | rfl | (simp only [List.length_drop, List.length_take]; rfl)) ?_; (with_reducible refine (treenaillaw01_opens.calls k3  t383 _ A73.out ?hT_).mono ?_); (case hT_ => exact Tabs.tab_below HT0.out (by repeat (first | (with_reducible first | exact HB.out | apply bA | apply bN | apply bD) | exact HB.out))); rintro e w74 ⟨rfl, hb⟩; refine ⟨_, rfl, ?_⟩; have n0_ := Aside0.mk (Kd.N_below (by (with_reducible repeat (first | apply Kd.N_alloc | apply Kd.N_drewN | apply Kd.N_drew)); exact HO_4.out) hb); have n1_ := Aside0.mk (Kd.N_below (by (with_reducible repeat (first | apply Kd.N_alloc | apply Kd.N_drewN | apply Kd.N_drew)); exact HO_9.out) hb); have n2_ := Aside0.mk (below_step (by repeat (first | (with_reducible first | exact HB.out | apply bA | apply bN | apply bD) | exact HB.out)) hb); clear HO_4; clear HO_9; clear HB; have HO_4 := n0_; have HO_9 := n1_; have HB := n2_; clear n0_ n1_ n2_; (try clear hb); (try clear hb2); (try clear hk); (try clear hi)))
           go_ret
           exact ⟨by first | rfl | (simp [errW_none, errW_some] <;> rfl) | (simp [*, errW_none, errW_some] <;> rfl), by repeat (first | (with_reducible first | exact HB.out | apply bA | apply bN | apply bD) | exact HB.out)⟩

end Go.Proofs.YtdlblokojlhmbaaDoor.Q
