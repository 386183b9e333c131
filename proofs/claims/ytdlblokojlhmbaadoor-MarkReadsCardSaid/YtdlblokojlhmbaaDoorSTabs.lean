/- The table of escapes as the program holds it, and slices.IndexFunc over it. -/
import Derived.Test.YtdlblokojlhmbaaDoorProg
import Derived.Below
import Derived.Deep.Draws
import Derived.Deep.AppendLies
import Derived.Maps.AppendAt
import Derived.OwnWalk
import Derived.Laws.BytesArg
import Derived.Laws.MakeOwn
import Derived.Laws.OwnMore
import Derived.Deep.OwnRows
import Derived.Tactics
import Derived.Lib.ConvBytes
import Derived.Laws.Slices
import Derived.WalkKit
import Derived.KernelRfl
import Derived.RowKit3
import Derived.Deep.LoopGhost
import Derived.Deep.QuietTactic
import Derived.BigQuiet
import Derived.WideLaws
import Derived.Deep.DeepCutAuto
import Derived.Deep.CutBlock
import Derived.Deep.RegionHeld3
import Derived.Laws.Rows
import Derived.Lib.AppendStr
import Derived.ArgAppend
import Derived.Laws.IdiomCopy
import Derived.OrdersHeld
import Derived.Laws.BitsLemmas
import Derived.RowKit
import Derived.ScopeJumps
import Derived.WalkMore
import Derived.Laws.RangeAny
import Derived.Test.YtdlblokojlhmbaaDoorV0
set_option linter.unusedVariables false
set_option linter.unusedSimpArgs false
namespace Go.Proofs.YtdlblokojlhmbaaDoor.Tabs
open Go.RowKit Go.Proofs.YtdlblokojlhmbaaDoorW.PrintWords Go.Proofs.YtdlblokojlhmbaaDoorW.PrintLast Go.Proofs.YtdlblokojlhmbaaDoorW.PrintMore
theorem gate_c {P : Program} {f : FuncId} {args : Array Value} {w : World} {Q : Ending → World → Prop} (h : Calls P f args w Q) : Calls P f args w Q := h
def key : Nat → Int
  | 0 => 60
  | 1 => 62
  | 2 => 38
  | _ => 34
def txt : Nat → ByteArray
  | 0 => ⟨#[38, 108, 116, 59]⟩
  | 1 => ⟨#[38, 103, 116, 59]⟩
  | 2 => ⟨#[38, 97, 109, 112, 59]⟩
  | _ => ⟨#[38, 113, 117, 111, 116, 59]⟩
/-- The table lies in the first block. -/
def Tab (w : World) : Prop := ∀ j, j < 4 → w.cell? ⟨0, j * 2, none⟩ = some (.int .u8 (key j)) ∧ w.cell? ⟨0, j * 2 + 1, none⟩ = some (.string (txt j))
theorem tab_below {w w' : World} (h : Tab w) (hb : Below w.heap.size w w') : Tab w' := fun j hj =>
  ⟨(hb.cell (World.block_lt_of_cell? w _ (h j hj).1)).trans (h j hj).1, (hb.cell (World.block_lt_of_cell? w _ (h j hj).2)).trans (h j hj).2⟩
def ix (p : Nat → Bool) : Nat → Nat → Int
  | 0, _ => -1
  | d + 1, i => if i < 4 then (if p i = true then (i : Int) else ix p d (i + 1)) else -1
set_option maxHeartbeats 8000000 in
set_option maxRecDepth 100000 in
theorem index_esc (p : Nat → Bool) (g1 g2 : Nat) (w : World) (ht : Tab w)
    (hcl : ∀ (j : Nat) (w' : World), j < 4 → Below w.heap.size w w' → Calls Tryd.prog 30 #[.agg #[.int .u8 (key j), .string (txt j)], .pointer (some ⟨g1, 0, none⟩), .pointer (some ⟨g2, 0, none⟩)] w' fun e w'' => e = .returned (.bool (p j)) ∧ Below w'.heap.size w' w'') :
    Calls Tryd.prog 29 #[.slice (some ⟨0, 0, none⟩) 4 4, .func (.func 30) #[] #[.pointer (some ⟨g1, 0, none⟩), .pointer (some ⟨g2, 0, none⟩)]] w fun e w' => e = .returned (.int .i64 (ix p 4 0)) ∧ Below w.heap.size w w' := by
  generalize hT : ix p 4 0 = t
  have HIX := Aside0.mk hT
  clear hT
  have HT0 := Aside0.mk ht
  clear ht
  have HB := Aside0.mk (Below.refl w.heap.size w)
  have HCL := Aside0.mk hcl
  clear hcl
  go_enter Tryd.func29, Tryd.ntmps29
  go_wp2
  go_loopg [8] 5 (fun kq v8 w' => ∃ (i b : Nat), v8 = .int .i64 (i : Int) ∧ Aside0 (ix p b i = t) ∧ Aside0 (4 ≤ i + b) ∧ Aside0 (5 ≤ i + kq) ∧ Aside0 (Below w.heap.size w w'))
  case atStart => exact ⟨0, 4, rfl, HIX, ⟨by omega⟩, ⟨by omega⟩, ⟨by repeat (first | (with_reducible first | exact HB.out | apply below_alloc | apply pw_below_drewN | apply below_drew1) | exact HB.out)⟩⟩
  case round =>
    obtain ⟨i, b, rfl, HL, HB1, HK, HB⟩ := hrel
    have hl2 := HL.out
    clear HL
    by_cases hp : i < 4
    · obtain ⟨b, rfl⟩ : ∃ q, b = q + 1 := ⟨b - 1, by have := HB1.out; omega⟩
      obtain ⟨gk, rfl⟩ : ∃ q, gk = q + 1 := ⟨gk - 1, by have := HK.out; omega⟩
      simp only [ix] at hl2
      rw [if_pos hp] at hl2
      have c3b0 : decide ((i : Int) < 4) = true := decide_eq_true (by omega)
      have p1 := eq_true (show 0 ≤ (i : Int) by omega)
      have q1 := eq_true (show (i : Int) < 4 by omega)
      have HT1 := tab_below HT0.out HB.out
      have hx1_0 := (HT1 i hp).1
      have hx1_1 := (HT1 i hp).2
      clear HT1
      by_cases hc : p i = true
      · rw [if_pos hc] at hl2
        have hq := HCL.out i
        rw [hc] at hq
        have HL2 := Aside0.mk hl2
        clear hl2
        go_wp2_with (first | ((with_reducible refine gate_c ?_); refine (hq _ hp (by repeat (first | (with_reducible first | exact HB.out | apply below_alloc | apply pw_below_drewN | apply below_drew1) | exact HB.out))).mono ?_; rintro e w7 ⟨rfl, hb⟩; have n0_ := Aside0.mk (below_step (by repeat (first | (with_reducible first | exact HB.out | apply below_alloc | apply pw_below_drewN | apply below_drew1) | exact HB.out)) hb); clear HB; have HB := n0_; clear n0_ hb))
        go_ret
        rw [← HL2.out]
        exact ⟨by first | rfl | (simp; done) | (simp [*]; done), by repeat (first | (with_reducible first | exact HB.out | apply below_alloc | apply pw_below_drewN | apply below_drew1) | exact HB.out)⟩
      · rw [if_neg hc] at hl2
        have hq := HCL.out i
        rw [Bool.not_eq_true] at hc
        rw [hc] at hq
        have HL2 := Aside0.mk hl2
        clear hl2
        go_wp2_with (first | ((with_reducible refine gate_c ?_); refine (hq _ hp (by repeat (first | (with_reducible first | exact HB.out | apply below_alloc | apply pw_below_drewN | apply below_drew1) | exact HB.out))).mono ?_; rintro e w7 ⟨rfl, hb⟩; have n0_ := Aside0.mk (below_step (by repeat (first | (with_reducible first | exact HB.out | apply below_alloc | apply pw_below_drewN | apply below_drew1) | exact HB.out)) hb); clear HB; have HB := n0_; clear n0_ hb))
        go_roundg gk
        case measure => omega
        case rel => exact ⟨i + 1, b, by simp, ⟨HL2.out⟩, ⟨by have := HB1.out; omega⟩, ⟨by have := HK.out; omega⟩, ⟨by repeat (first | (with_reducible first | exact HB.out | apply below_alloc | apply pw_below_drewN | apply below_drew1) | exact HB.out)⟩⟩
    · have hl3 : ix p b i = -1 := by
        cases b with
        | zero => rfl
        | succ b => simp [ix, hp]
      rw [hl2] at hl3
      have HL3 := Aside0.mk hl3
      clear hl2 hl3
      have c3b0 : decide ((i : Int) < 4) = false := decide_eq_false (by omega)
      go_wp2
      go_ret
      rw [HL3.out]
      exact ⟨by first | rfl | (simp; done) | (simp [*]; done), by repeat (first | (with_reducible first | exact HB.out | apply below_alloc | apply pw_below_drewN | apply below_drew1) | exact HB.out)⟩
set_option maxHeartbeats 8000000 in
set_option maxRecDepth 100000 in
theorem index_mean (p : Nat → Bool) (g1 g2 : Nat) (w : World) (ht : Tab w)
    (hcl : ∀ (j : Nat) (w' : World), j < 4 → Below w.heap.size w w' → Calls Tryd.prog 52 #[.agg #[.int .u8 (key j), .string (txt j)], .pointer (some ⟨g1, 0, none⟩), .pointer (some ⟨g2, 0, none⟩)] w' fun e w'' => e = .returned (.bool (p j)) ∧ Below w'.heap.size w' w'') :
    Calls Tryd.prog 29 #[.slice (some ⟨0, 0, none⟩) 4 4, .func (.func 52) #[] #[.pointer (some ⟨g1, 0, none⟩), .pointer (some ⟨g2, 0, none⟩)]] w fun e w' => e = .returned (.int .i64 (ix p 4 0)) ∧ Below w.heap.size w w' := by
  generalize hT : ix p 4 0 = t
  have HIX := Aside0.mk hT
  clear hT
  have HT0 := Aside0.mk ht
  clear ht
  have HB := Aside0.mk (Below.refl w.heap.size w)
  have HCL := Aside0.mk hcl
  clear hcl
  go_enter Tryd.func29, Tryd.ntmps29
  go_wp2
  go_loopg [8] 5 (fun kq v8 w' => ∃ (i b : Nat), v8 = .int .i64 (i : Int) ∧ Aside0 (ix p b i = t) ∧ Aside0 (4 ≤ i + b) ∧ Aside0 (5 ≤ i + kq) ∧ Aside0 (Below w.heap.size w w'))
  case atStart => exact ⟨0, 4, rfl, HIX, ⟨by omega⟩, ⟨by omega⟩, ⟨by repeat (first | (with_reducible first | exact HB.out | apply below_alloc | apply pw_below_drewN | apply below_drew1) | exact HB.out)⟩⟩
  case round =>
    obtain ⟨i, b, rfl, HL, HB1, HK, HB⟩ := hrel
    have hl2 := HL.out
    clear HL
    by_cases hp : i < 4
    · obtain ⟨b, rfl⟩ : ∃ q, b = q + 1 := ⟨b - 1, by have := HB1.out; omega⟩
      obtain ⟨gk, rfl⟩ : ∃ q, gk = q + 1 := ⟨gk - 1, by have := HK.out; omega⟩
      simp only [ix] at hl2
      rw [if_pos hp] at hl2
      have c3b0 : decide ((i : Int) < 4) = true := decide_eq_true (by omega)
      have p1 := eq_true (show 0 ≤ (i : Int) by omega)
      have q1 := eq_true (show (i : Int) < 4 by omega)
      have HT1 := tab_below HT0.out HB.out
      have hx1_0 := (HT1 i hp).1
      have hx1_1 := (HT1 i hp).2
      clear HT1
      by_cases hc : p i = true
      · rw [if_pos hc] at hl2
        have hq := HCL.out i
        rw [hc] at hq
        have HL2 := Aside0.mk hl2
        clear hl2
        go_wp2_with (first | ((with_reducible refine gate_c ?_); refine (hq _ hp (by repeat (first | (with_reducible first | exact HB.out | apply below_alloc | apply pw_below_drewN | apply below_drew1) | exact HB.out))).mono ?_; rintro e w7 ⟨rfl, hb⟩; have n0_ := Aside0.mk (below_step (by repeat (first | (with_reducible first | exact HB.out | apply below_alloc | apply pw_below_drewN | apply below_drew1) | exact HB.out)) hb); clear HB; have HB := n0_; clear n0_ hb))
        go_ret
        rw [← HL2.out]
        exact ⟨by first | rfl | (simp; done) | (simp [*]; done), by repeat (first | (with_reducible first | exact HB.out | apply below_alloc | apply pw_below_drewN | apply below_drew1) | exact HB.out)⟩
      · rw [if_neg hc] at hl2
        have hq := HCL.out i
        rw [Bool.not_eq_true] at hc
        rw [hc] at hq
        have HL2 := Aside0.mk hl2
        clear hl2
        go_wp2_with (first | ((with_reducible refine gate_c ?_); refine (hq _ hp (by repeat (first | (with_reducible first | exact HB.out | apply below_alloc | apply pw_below_drewN | apply below_drew1) | exact HB.out))).mono ?_; rintro e w7 ⟨rfl, hb⟩; have n0_ := Aside0.mk (below_step (by repeat (first | (with_reducible first | exact HB.out | apply below_alloc | apply pw_below_drewN | apply below_drew1) | exact HB.out)) hb); clear HB; have HB := n0_; clear n0_ hb))
        go_roundg gk
        case measure => omega
        case rel => exact ⟨i + 1, b, by simp, ⟨HL2.out⟩, ⟨by have := HB1.out; omega⟩, ⟨by have := HK.out; omega⟩, ⟨by repeat (first | (with_reducible first | exact HB.out | apply below_alloc | apply pw_below_drewN | apply below_drew1) | exact HB.out)⟩⟩
    · have hl3 : ix p b i = -1 := by
        cases b with
        | zero => rfl
        | succ b => simp [ix, hp]
      rw [hl2] at hl3
      have HL3 := Aside0.mk hl3
      clear hl2 hl3
      have c3b0 : decide ((i : Int) < 4) = false := decide_eq_false (by omega)
      go_wp2
      go_ret
      rw [HL3.out]
      exact ⟨by first | rfl | (simp; done) | (simp [*]; done), by repeat (first | (with_reducible first | exact HB.out | apply below_alloc | apply pw_below_drewN | apply below_drew1) | exact HB.out)⟩
set_option maxHeartbeats 8000000 in
set_option maxRecDepth 100000 in
theorem clo_esc (k : Int) (t s : ByteArray) (i : Int) (g1 g2 : Nat) (w : World) (h1 : w.heap[g1]? = some (.cells #[.string s] 9 (0, 0))) (h2 : w.heap[g2]? = some (.cells #[.int .i64 i] 3 (0, 0))) (hi0 : 0 ≤ i) (hi1 : i < (s.size : Int)) :
    Calls Tryd.prog 30 #[.agg #[.int .u8 k, .string t], .pointer (some ⟨g1, 0, none⟩), .pointer (some ⟨g2, 0, none⟩)] w fun e w'' => e = .returned (.bool (k == bt s i)) ∧ Below w.heap.size w w'' := by
  have HB := Aside0.mk (Below.refl w.heap.size w)
  have HG1 := Aside0.mk h1
  have HG2 := Aside0.mk h2
  clear h1 h2
  have hx := bt_at s i
  have p1 := eq_true hi0
  have q1 := eq_true hi1
  clear hi0 hi1
  go_enter Tryd.func30, Tryd.ntmps30
  go_wp2_with (first | ((with_reducible refine gate_dst (N := 3) rfl ?_); refine box_event ?hg (N := 3) ?hd (cs := #[.int .u8 k, .string t]) (t := 70) ?hr ?_; (case hd => rfl); (case hg => rfl); (case hr => first | (go_simp; done) | (go_simp; rfl)); intro gb hg w11 hbox hb; have n0_ := Aside0.mk (below_step (by repeat (first | (with_reducible first | exact HB.out | apply below_alloc | apply pw_below_drewN | apply below_drew1) | exact HB.out)) hb); have n1_ := blk_below (g := g1) (o := .cells #[.string s] 9 (0, 0)) HG1.out hb; have n2_ := blk_below (g := g2) (o := .cells #[.int .i64 i] 3 (0, 0)) HG2.out hb; clear HB; have HB := n0_; clear n0_; have z0 : w11.cell? ⟨gb, 0, none⟩ = some (.int .u8 k) := (blk_cell hbox 0).trans rfl; have z1 : w11.cell? ⟨g1, 0, none⟩ = some (.string s) := (blk_cell n1_ 0).trans rfl; have z2 : w11.cell? ⟨g2, 0, none⟩ = some (.int .i64 i) := (blk_cell n2_ 0).trans rfl; clear n1_ n2_ hbox hb hg))
  go_quiet (fail)
  go_wp2
  go_ret
  exact ⟨by first | rfl | (simp; done) | (simp [*]; done), by repeat (first | (with_reducible first | exact HB.out | apply below_alloc | apply pw_below_drewN | apply below_drew1) | exact HB.out)⟩
end Go.Proofs.YtdlblokojlhmbaaDoor.Tabs
