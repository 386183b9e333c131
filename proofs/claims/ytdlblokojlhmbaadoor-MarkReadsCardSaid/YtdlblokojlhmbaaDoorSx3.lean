import Derived.Test.YtdlblokojlhmbaaDoorSx0
import Derived.Test.YtdlblokojlhmbaaDoorSx2
namespace Go.Proofs.YtdlblokojlhmbaaDoor.Q
open Go.RowKit Go.Proofs.YtdlblokojlhmbaaDoorW.PrintWords Go.Proofs.YtdlblokojlhmbaaDoorW.PrintLast Go.Proofs.YtdlblokojlhmbaaDoorW.PrintMore
attribute [local go_sem] max2_int min2_int max_two min_two max_three min_three max_four min_four   -- for this text's walks alone
set_option linter.unusedVariables false
set_option linter.unusedSimpArgs false

theorem gate_calls2 {P : Program} {f : FuncId} {args : Array Value} {w : World} {Q : Ending → World → Prop} (h : Calls P f args w Q) : Calls P f args w Q := h
def mark_twice.ix (p : S51 → Bool) (l : List S51) : Nat → Nat → Int
 | 0, _ => -1
 | d + 1, i => if i < l.length then (if p (rd_T51 l (i : Int)) = true then (i : Int) else mark_twice.ix p l d (i + 1)) else -1
set_option maxHeartbeats 8000000 in
set_option maxRecDepth 100000 in
theorem mark_twice.index (p : S51 → Bool) (g : Nat) (A0 : Option Addr) (c0 : Nat) (l0 : List S51) (w : World) (hr0 : Kd.C k51 w A0 l0.length l0) (hc0 : l0.length ≤ c0) (hlen : l0.length ≤ 9223372036854775807)
  (hcl : ∀ (x : S51) (w' : World), Below w.heap.size w w' → Calls Tryd.prog 54 #[.agg #[.string x.f0, .string x.f1], .pointer (some ⟨g, 0, none⟩)] w' fun e w'' => e = .returned (.bool (p x)) ∧ Below w'.heap.size w' w'') :
  Calls Tryd.prog 55 #[.slice A0 l0.length c0, .func (.func 54) #[] #[.pointer (some ⟨g, 0, none⟩)]] w fun e w' => e = .returned (.int .i64 (mark_twice.ix p l0 l0.length 0)) ∧ Below w.heap.size w w' := by
 have hu51 := Tryd.underlying51
 have HR0 := Aside0.mk hr0
 have HC0 := Aside0.mk hc0
 clear hr0 hc0
 have HB := Aside0.mk (Below.refl w.heap.size w)
 have HCL := Aside0.mk hcl
 clear hcl
 go_enter Tryd.func55, Tryd.ntmps55
 go_wp2
 go_loopg [8] (l0.length + 1) (fun kq v8 w' => ∃ (i b : Nat), v8 = .int .i64 (i : Int) ∧ Aside0 (mark_twice.ix p l0 b i = mark_twice.ix p l0 l0.length 0) ∧ Aside0 (l0.length ≤ i + b) ∧ Aside0 (l0.length + 1 ≤ i + kq) ∧ Aside0 (Below w.heap.size w w'))
 case atStart => exact ⟨0, l0.length, rfl, ⟨rfl⟩, ⟨by omega⟩, ⟨by omega⟩, ⟨by repeat (first | (with_reducible first | exact HB.out | apply bA | apply bN | apply bD) | exact HB.out)⟩⟩
 case round =>
  obtain ⟨i, b, rfl, HL, HB1, HK, HB⟩ := hrel
  have hl2 := HL.out
  clear HL
  by_cases hp : i < l0.length
  ·obtain ⟨b, rfl⟩ : ∃ q, b = q + 1 := ⟨b - 1, by have := HB1.out; omega⟩
   obtain ⟨gk, rfl⟩ : ∃ q, gk = q + 1 := ⟨gk - 1, by have := HK.out; omega⟩
   simp only [mark_twice.ix] at hl2
   rw [if_pos hp] at hl2
   have c3b0 : decide ((i : Int) < (l0.length : Int)) = true := decide_eq_true (by omega)
   have p1 : 0 ≤ (i : Int) := by omega
   have q1 : (i : Int) < (l0.length : Int) := by omega
   obtain ⟨ad1, e1, hx1_0, hx1_1⟩ := at_T51 HR0.out (i : Int) p1 q1
   cases e1
   rw [show (i : Int).toNat = i from rfl] at hx1_0 hx1_1
   replace hx1_0 := (HB.out.cell (World.block_lt_of_cell? w _ hx1_0)).trans hx1_0
   replace hx1_1 := (HB.out.cell (World.block_lt_of_cell? w _ hx1_1)).trans hx1_1
   replace p1 := eq_true p1
   replace q1 := eq_true q1
   by_cases hc : p (rd_T51 l0 (i : Int)) = true
   ·rw [if_pos hc] at hl2
    have hq := HCL.out (rd_T51 l0 (i : Int))
    rw [hc] at hq
    have HL2 := Aside0.mk hl2
    clear hl2
    go_wp2_with (first | ((with_reducible refine gate_calls2 ?_); refine (hq _ (by repeat (first | (with_reducible first | exact HB.out | apply bA | apply bN | apply bD) | exact HB.out))).mono ?_; rintro e w7 ⟨rfl, hb⟩; have n0_ := Aside0.mk (below_step (by repeat (first | (with_reducible first | exact HB.out | apply bA | apply bN | apply bD) | exact HB.out)) hb); clear HB; have HB := n0_; clear n0_ hb))
    go_ret
    rw [← HL2.out]
    exact ⟨by first | rfl | (simp; done) | (simp [*]; done), by repeat (first | (with_reducible first | exact HB.out | apply bA | apply bN | apply bD) | exact HB.out)⟩
   ·rw [if_neg hc] at hl2
    have hq := HCL.out (rd_T51 l0 (i : Int))
    rw [Bool.not_eq_true] at hc
    rw [hc] at hq
    have HL2 := Aside0.mk hl2
    clear hl2
    go_wp2_with (first | ((with_reducible refine gate_calls2 ?_); refine (hq _ (by repeat (first | (with_reducible first | exact HB.out | apply bA | apply bN | apply bD) | exact HB.out))).mono ?_; rintro e w7 ⟨rfl, hb⟩; have n0_ := Aside0.mk (below_step (by repeat (first | (with_reducible first | exact HB.out | apply bA | apply bN | apply bD) | exact HB.out)) hb); clear HB; have HB := n0_; clear n0_ hb))
    go_roundg gk
    case measure => omega
    case rel => exact ⟨i + 1, b, by simp, ⟨HL2.out⟩, ⟨by have := HB1.out; omega⟩, ⟨by have := HK.out; omega⟩, ⟨by repeat (first | (with_reducible first | exact HB.out | apply bA | apply bN | apply bD) | exact HB.out)⟩⟩
  ·have hl3 : mark_twice.ix p l0 b i = -1 := by
    cases b with
    | zero => rfl
    | succ b => simp [mark_twice.ix, hp]
   rw [hl2] at hl3
   have HL3 := Aside0.mk hl3
   clear hl2 hl3
   have c3b0 : decide ((i : Int) < (l0.length : Int)) = false := decide_eq_false (by omega)
   go_wp2
   go_ret
   rw [HL3.out]
   exact ⟨by first | rfl | (simp; done) | (simp [*]; done), by repeat (first | (with_reducible first | exact HB.out | apply bA | apply bN | apply bD) | exact HB.out)⟩
set_option maxHeartbeats 8000000 in
set_option maxRecDepth 100000 in
theorem mark_twice.contains (p : S51 → Bool) (g : Nat) (A0 : Option Addr) (c0 : Nat) (l0 : List S51) (w : World) (hr0 : Kd.C k51 w A0 l0.length l0) (hc0 : l0.length ≤ c0) (hlen : l0.length ≤ 9223372036854775807)
  (hcl : ∀ (x : S51) (w' : World), Below w.heap.size w w' → Calls Tryd.prog 54 #[.agg #[.string x.f0, .string x.f1], .pointer (some ⟨g, 0, none⟩)] w' fun e w'' => e = .returned (.bool (p x)) ∧ Below w'.heap.size w' w'') :
  Calls Tryd.prog 47 #[.slice A0 l0.length c0, .func (.func 54) #[] #[.pointer (some ⟨g, 0, none⟩)]] w fun e w' => e = .returned (.bool (decide (0 ≤ mark_twice.ix p l0 l0.length 0))) ∧ Below w.heap.size w w' := by
 have HR0 := Aside0.mk hr0
 have HC0 := Aside0.mk hc0
 clear hr0 hc0
 go_enter Tryd.func47, Tryd.ntmps47
 go_wp2_with (first | ((with_reducible refine gate_callee (f := 55) rfl ?_); refine goesL_ (some 7) rfl rfl Tryd.func55 (by kernel_rfl) rfl #[.slice A0 l0.length c0, .func (.func 54) #[] #[.pointer (some ⟨g, 0, none⟩)]] rfl (by (try simp only [List.map_toArray, List.map_cons, List.map_nil]); first | done | rfl) ?_; refine (mark_twice.index p g A0 c0 l0 _ HR0.out HC0.out hlen hcl).mono ?_; rintro e w7 ⟨rfl, hb⟩; refine ⟨_, rfl, ?_⟩))
 go_ret
 exact ⟨by first | rfl | (simp; done) | (simp [*]; done), hb⟩
set_option maxHeartbeats 8000000 in
set_option maxRecDepth 100000 in
theorem mark_twice.clo (x y : S51) (g : Nat) (w : World) (hg : w.heap[g]? = some (.cells #[.string y.f0, .string y.f1] 51 (0, 0))) :
  Calls Tryd.prog 54 #[.agg #[.string x.f0, .string x.f1], .pointer (some ⟨g, 0, none⟩)] w fun e w'' => e = .returned (.bool (y.f0.toList == x.f0.toList)) ∧ Below w.heap.size w w'' := by
 have hu51 := Tryd.underlying51
 have HB := Aside0.mk (Below.refl w.heap.size w)
 have HG := Aside0.mk hg
 clear hg
 go_enter Tryd.func54, Tryd.ntmps54
 go_wp2_with (first | ((with_reducible refine gate_dst (N := 2) rfl ?_); refine box_event ?hg (N := 2) ?hd (cs := #[.string x.f0, .string x.f1]) (t := 51) ?hr ?_; (case hd => rfl); (case hg => rfl); (case hr => first | (go_simp; done) | (go_simp; rfl)); intro gb hg w11 hbox hb; have n0_ := Aside0.mk (below_step (by repeat (first | (with_reducible first | exact HB.out | apply bA | apply bN | apply bD) | exact HB.out)) hb); have n1_ := blk_below (g := g) (o := .cells #[.string y.f0, .string y.f1] 51 (0, 0)) HG.out hb; clear HB; have HB := n0_; clear n0_; have z0 : w11.cell? ⟨gb, 0, none⟩ = some (.string x.f0) := (blk_cell hbox 0).trans rfl; have z1 : w11.cell? ⟨g, 0, none⟩ = some (.string y.f0) := (blk_cell n1_ 0).trans rfl; clear n1_ hbox hb hg))
 go_ret
 exact ⟨by first | rfl | (simp; done) | (simp [*]; done), by repeat (first | (with_reducible first | exact HB.out | apply bA | apply bN | apply bD) | exact HB.out)⟩
def mark_twice.one (l : List S51) (i : Nat) : Bool := decide (0 ≤ mark_twice.ix (fun b => ((rd_T51 l (i : Int)).f0).toList == (b.f0).toList) (l.take i) (l.take i).length 0)
def mark_twice.lp (l : List S51) : Nat → Nat → Bool
 | 0, _ => false
 | d + 1, i => if i < l.length then (if mark_twice.one l i = true then true else mark_twice.lp l d (i + 1)) else false
def mark_twice.f (l0 : List S51) : Option Bool := if l0.length ≤ 9223372036854775807 then some (mark_twice.lp l0 l0.length 0) else none
theorem mark_twice.info51 : (Tryd.prog.info? 51).map (fun i => (i.zero, i.size, i.bytes)) = some (some (.agg #[(.string ⟨#[]⟩), (.string ⟨#[]⟩)]), 2, 32) := by kernel_rfl
theorem mark_twice.at_call (l0 : List S51) (i : Nat) (ad : Addr) (c0 g : Nat) (W w : World) (hB : Below w.heap.size w W) (hC : Kd.C k51 w (some ad) l0.length l0) (hc0 : l0.length ≤ c0) (hlen : l0.length ≤ 9223372036854775807) (hi : i < l0.length)
  (hg : W.heap[g]? = some (.cells #[.string (rd_T51 l0 (i : Int)).f0, .string (rd_T51 l0 (i : Int)).f1] 51 (0, 0))) :
  Calls Tryd.prog 47 #[.slice (some ad) i c0, .func (.func 54) #[] #[.pointer (some ⟨g, 0, none⟩)]] W fun e w' => e = .returned (.bool (mark_twice.one l0 i)) ∧ Below W.heap.size W w' := by
 have hti : (l0.take i).length = i := by rw [List.length_take]; omega
 have := mark_twice.contains (fun b => ((rd_T51 l0 (i : Int)).f0).toList == (b.f0).toList) g (some ad) c0 (l0.take i) W (Kd.C_take (Kd.C_below hC hB) (by omega)) (by rw [hti]; omega) (by omega) (fun x w' hb => mark_twice.clo x (rd_T51 l0 (i : Int)) g w' (blk_below hg hb))
 unfold mark_twice.one
 rw [hti] at this ⊢
 exact this
set_option maxHeartbeats 8000000 in
set_option maxRecDepth 100000 in
theorem mark_twice.calls (A0 : Option Addr) (c0 : Nat) (l0 : List S51) (r : Bool) (w : World) (hr0 : Kd.C k51 w A0 l0.length l0) (hc0 : l0.length ≤ c0) (h : mark_twice.f l0 = some r) :
  Calls Tryd.prog 46 #[.slice A0 l0.length c0] w fun e w' => e = .returned (.bool r) ∧ Below w.heap.size w w' := by
 unfold mark_twice.f at h
 by_cases hlen : l0.length ≤ 9223372036854775807
 rotate_left
 ·rw [if_neg hlen] at h
  exact absurd h (by simp)
 rw [if_pos hlen] at h
 obtain rfl := Option.some.inj h
 clear h
 have hu51 := Tryd.underlying51
 have HR0 := Aside0.mk hr0
 have HC0 := Aside0.mk hc0
 have HLEN := Aside0.mk hlen
 clear hr0 hc0
 obtain ⟨i0, hi0, _⟩ := Option.map_eq_some_iff.1 mark_twice.info51
 have HB := Aside0.mk (Below.refl w.heap.size w)
 have hmf : ∀ (fn : Fn) (first cap : Array Value) (w : World), (Instr.makeFunc fn first cap).run Tryd.prog w = .ok (.func fn first cap) w := fun _ _ _ _ => rfl
 go_enter Tryd.func46, Tryd.ntmps46
 go_wp2
 go_loopg [7] (l0.length + 1) (fun kq v7 w' => ∃ (i b : Nat), v7 = .int .i64 (i : Int) ∧ Aside0 (mark_twice.lp l0 b i = mark_twice.lp l0 l0.length 0) ∧ Aside0 (l0.length ≤ i + b) ∧ Aside0 (l0.length + 1 ≤ i + kq) ∧ Aside0 (Below w.heap.size w w'))
 case atStart => exact ⟨0, l0.length, rfl, ⟨rfl⟩, ⟨by omega⟩, ⟨by omega⟩, ⟨by repeat (first | (with_reducible first | exact HB.out | apply bA | apply bN | apply bD) | exact HB.out)⟩⟩
 case round =>
  obtain ⟨i, b, rfl, HL, HB1, HK, HB⟩ := hrel
  have hl2 := HL.out
  clear HL
  by_cases hp : i < l0.length
  ·obtain ⟨b, rfl⟩ : ∃ q, b = q + 1 := ⟨b - 1, by have := HB1.out; omega⟩
   obtain ⟨gk, rfl⟩ : ∃ q, gk = q + 1 := ⟨gk - 1, by have := HK.out; omega⟩
   simp only [mark_twice.lp] at hl2
   rw [if_pos hp] at hl2
   have c3b0 : decide ((i : Int) < (l0.length : Int)) = true := decide_eq_true (by omega)
   have p1 : 0 ≤ (i : Int) := by omega
   have q1 : (i : Int) < (l0.length : Int) := by omega
   obtain ⟨ad1, e1, hx1_0, hx1_1⟩ := at_T51 HR0.out (i : Int) p1 q1
   cases e1
   rw [show (i : Int).toNat = i from rfl] at hx1_0 hx1_1
   replace hx1_0 := (HB.out.cell (World.block_lt_of_cell? w _ hx1_0)).trans hx1_0
   replace hx1_1 := (HB.out.cell (World.block_lt_of_cell? w _ hx1_1)).trans hx1_1
   have hcut := cut_to (P := Tryd.prog) 36 51 .i64 Tryd.underlying36 hi0 (some ad1) l0.length c0 (i : Int) p1 (by omega) HC0.out
   rw [show (i : Int).toNat = i from rfl] at hcut
   replace p1 := eq_true p1
   replace q1 := eq_true q1
   have hti : (l0.take i).length = i := by rw [List.length_take]; omega
   have HTI := Aside0.mk hti
   clear hti
   have hone : ∃ t, mark_twice.one l0 i = t := ⟨_, rfl⟩
   obtain ⟨t, ht⟩ := hone
   have HT := Aside0.mk ht
   rw [ht] at hl2
   clear ht
   have HL2 := Aside0.mk hl2
   clear hl2
   cases t with
   | true =>
    go_wp2_with (first | ((with_reducible refine gate_dst (N := 4) rfl ?_); refine box_event ?hg (N := 4) ?hd (cs := #[.string (⟨#[]⟩ : ByteArray), .string (⟨#[]⟩ : ByteArray)]) (t := 51) ?hr ?_; (case hd => rfl); (case hg => rfl); (case hr => first | (go_simp; done) | (go_simp; rfl)); intro gb163 hg w7 hbox hb; have n0_ := Aside0.mk (below_step (by repeat (first | (with_reducible first | exact HB.out | apply bA | apply bN | apply bD) | exact HB.out)) hb); have n1_ := Aside0.mk (hbox); have n3_ := Aside0.mk ((by rw [hg]; exact (below_size (by repeat (first | (with_reducible first | exact HB.out | apply bA | apply bN | apply bD) | exact HB.out))) : w.heap.size ≤ gb163)); clear HB; have HB := n0_; have BK163 := n1_; have GE163 := n3_; clear n0_ n1_ n3_; clear hb hbox hg; have hcz8_0 : w7.cell? ⟨gb163, 0, none⟩ = some (.string (⟨#[]⟩ : ByteArray)) := (blk_cell BK163.out 0).trans rfl; have hcz8_1 : w7.cell? ⟨gb163, 1, none⟩ = some (.string (⟨#[]⟩ : ByteArray)) := (blk_cell BK163.out 1).trans rfl; have hfz8_0 := blk_frozen BK163.out 0; have hfz8_1 := blk_frozen BK163.out 1) | ((with_reducible refine gate_calls2 ?_); refine (mark_twice.at_call l0 i ad1 c0 gb163 _ w (by repeat (first | (with_reducible first | exact HB.out | apply bA | apply bN | apply bD | refine below_set ?_ GE163.out) | exact HB.out)) HR0.out HC0.out HLEN.out hp (blk_put (cs := #[.string (rd_T51 l0 (i : Int)).f0, .string (⟨#[]⟩ : ByteArray)]) (blk_put (cs := #[.string (⟨#[]⟩ : ByteArray), .string (⟨#[]⟩ : ByteArray)]) BK163.out 0 _ rfl) 1 _ rfl)).mono ?_; rintro e w9 ⟨rfl, hb⟩; rw [HT.out]; have n0_ := Aside0.mk (below_step (by repeat (first | (with_reducible first | exact HB.out | apply bA | apply bN | apply bD | refine below_set ?_ GE163.out) | exact HB.out)) hb); clear HB; have HB := n0_; clear n0_ hb))
    go_ret
    have hl4 := HL2.out
    rw [if_pos trivial] at hl4
    rw [← hl4]
    exact ⟨by first | rfl | (simp; done) | (simp [*]; done), by repeat (first | (with_reducible first | exact HB.out | apply bA | apply bN | apply bD) | exact HB.out)⟩
   | false =>
    go_wp2_with (first | ((with_reducible refine gate_dst (N := 4) rfl ?_); refine box_event ?hg (N := 4) ?hd (cs := #[.string (⟨#[]⟩ : ByteArray), .string (⟨#[]⟩ : ByteArray)]) (t := 51) ?hr ?_; (case hd => rfl); (case hg => rfl); (case hr => first | (go_simp; done) | (go_simp; rfl)); intro gb163 hg w7 hbox hb; have n0_ := Aside0.mk (below_step (by repeat (first | (with_reducible first | exact HB.out | apply bA | apply bN | apply bD) | exact HB.out)) hb); have n1_ := Aside0.mk (hbox); have n3_ := Aside0.mk ((by rw [hg]; exact (below_size (by repeat (first | (with_reducible first | exact HB.out | apply bA | apply bN | apply bD) | exact HB.out))) : w.heap.size ≤ gb163)); clear HB; have HB := n0_; have BK163 := n1_; have GE163 := n3_; clear n0_ n1_ n3_; clear hb hbox hg; have hcz8_0 : w7.cell? ⟨gb163, 0, none⟩ = some (.string (⟨#[]⟩ : ByteArray)) := (blk_cell BK163.out 0).trans rfl; have hcz8_1 : w7.cell? ⟨gb163, 1, none⟩ = some (.string (⟨#[]⟩ : ByteArray)) := (blk_cell BK163.out 1).trans rfl; have hfz8_0 := blk_frozen BK163.out 0; have hfz8_1 := blk_frozen BK163.out 1) | ((with_reducible refine gate_calls2 ?_); refine (mark_twice.at_call l0 i ad1 c0 gb163 _ w (by repeat (first | (with_reducible first | exact HB.out | apply bA | apply bN | apply bD | refine below_set ?_ GE163.out) | exact HB.out)) HR0.out HC0.out HLEN.out hp (blk_put (cs := #[.string (rd_T51 l0 (i : Int)).f0, .string (⟨#[]⟩ : ByteArray)]) (blk_put (cs := #[.string (⟨#[]⟩ : ByteArray), .string (⟨#[]⟩ : ByteArray)]) BK163.out 0 _ rfl) 1 _ rfl)).mono ?_; rintro e w9 ⟨rfl, hb⟩; rw [HT.out]; have n0_ := Aside0.mk (below_step (by repeat (first | (with_reducible first | exact HB.out | apply bA | apply bN | apply bD | refine below_set ?_ GE163.out) | exact HB.out)) hb); clear HB; have HB := n0_; clear n0_ hb))
    go_roundg gk
    case measure => omega
    case rel => exact ⟨i + 1, b, by simp, ⟨by have hl4 := HL2.out; rw [if_neg (by simp)] at hl4; exact hl4⟩, ⟨by have := HB1.out; omega⟩, ⟨by have := HK.out; omega⟩, ⟨by repeat (first | (with_reducible first | exact HB.out | apply bA | apply bN | apply bD) | exact HB.out)⟩⟩
  ·have hl3 : mark_twice.lp l0 b i = false := by
    cases b with
    | zero => rfl
    | succ b => simp [mark_twice.lp, hp]
   rw [hl2] at hl3
   have HL3 := Aside0.mk hl3
   clear hl2 hl3
   have c3b0 : decide ((i : Int) < (l0.length : Int)) = false := decide_eq_false (by omega)
   go_wp2
   go_ret
   rw [HL3.out]
   exact ⟨by first | rfl | (simp; done) | (simp [*]; done), by repeat (first | (with_reducible first | exact HB.out | apply bA | apply bN | apply bD) | exact HB.out)⟩
set_option maxHeartbeats 8000000 in
set_option maxRecDepth 100000 in
theorem mark_twice.index2 (p : S51 → Bool) (A0 : Option Addr) (c0 : Nat) (l0 : List S51) (w : World) (hr0 : Kd.C k51 w A0 l0.length l0) (hc0 : l0.length ≤ c0) (hlen : l0.length ≤ 9223372036854775807)
  (hcl : ∀ (x : S51) (w' : World), Below w.heap.size w w' → Calls Tryd.prog 48 #[.agg #[.string x.f0, .string x.f1]] w' fun e w'' => e = .returned (.bool (p x)) ∧ Below w'.heap.size w' w'') :
  Calls Tryd.prog 55 #[.slice A0 l0.length c0, .func (.func 48) #[] #[]] w fun e w' => e = .returned (.int .i64 (mark_twice.ix p l0 l0.length 0)) ∧ Below w.heap.size w w' := by
 have hu51 := Tryd.underlying51
 have HR0 := Aside0.mk hr0
 have HC0 := Aside0.mk hc0
 clear hr0 hc0
 have HB := Aside0.mk (Below.refl w.heap.size w)
 have HCL := Aside0.mk hcl
 clear hcl
 go_enter Tryd.func55, Tryd.ntmps55
 go_wp2
 go_loopg [8] (l0.length + 1) (fun kq v8 w' => ∃ (i b : Nat), v8 = .int .i64 (i : Int) ∧ Aside0 (mark_twice.ix p l0 b i = mark_twice.ix p l0 l0.length 0) ∧ Aside0 (l0.length ≤ i + b) ∧ Aside0 (l0.length + 1 ≤ i + kq) ∧ Aside0 (Below w.heap.size w w'))
 case atStart => exact ⟨0, l0.length, rfl, ⟨rfl⟩, ⟨by omega⟩, ⟨by omega⟩, ⟨by repeat (first | (with_reducible first | exact HB.out | apply bA | apply bN | apply bD) | exact HB.out)⟩⟩
 case round =>
  obtain ⟨i, b, rfl, HL, HB1, HK, HB⟩ := hrel
  have hl2 := HL.out
  clear HL
  by_cases hp : i < l0.length
  ·obtain ⟨b, rfl⟩ : ∃ q, b = q + 1 := ⟨b - 1, by have := HB1.out; omega⟩
   obtain ⟨gk, rfl⟩ : ∃ q, gk = q + 1 := ⟨gk - 1, by have := HK.out; omega⟩
   simp only [mark_twice.ix] at hl2
   rw [if_pos hp] at hl2
   have c3b0 : decide ((i : Int) < (l0.length : Int)) = true := decide_eq_true (by omega)
   have p1 : 0 ≤ (i : Int) := by omega
   have q1 : (i : Int) < (l0.length : Int) := by omega
   obtain ⟨ad1, e1, hx1_0, hx1_1⟩ := at_T51 HR0.out (i : Int) p1 q1
   cases e1
   rw [show (i : Int).toNat = i from rfl] at hx1_0 hx1_1
   replace hx1_0 := (HB.out.cell (World.block_lt_of_cell? w _ hx1_0)).trans hx1_0
   replace hx1_1 := (HB.out.cell (World.block_lt_of_cell? w _ hx1_1)).trans hx1_1
   replace p1 := eq_true p1
   replace q1 := eq_true q1
   by_cases hc : p (rd_T51 l0 (i : Int)) = true
   ·rw [if_pos hc] at hl2
    have hq := HCL.out (rd_T51 l0 (i : Int))
    rw [hc] at hq
    have HL2 := Aside0.mk hl2
    clear hl2
    go_wp2_with (first | ((with_reducible refine gate_calls2 ?_); refine (hq _ (by repeat (first | (with_reducible first | exact HB.out | apply bA | apply bN | apply bD) | exact HB.out))).mono ?_; rintro e w7 ⟨rfl, hb⟩; have n0_ := Aside0.mk (below_step (by repeat (first | (with_reducible first | exact HB.out | apply bA | apply bN | apply bD) | exact HB.out)) hb); clear HB; have HB := n0_; clear n0_ hb))
    go_ret
    rw [← HL2.out]
    exact ⟨by first | rfl | (simp; done) | (simp [*]; done), by repeat (first | (with_reducible first | exact HB.out | apply bA | apply bN | apply bD) | exact HB.out)⟩
   ·rw [if_neg hc] at hl2
    have hq := HCL.out (rd_T51 l0 (i : Int))
    rw [Bool.not_eq_true] at hc
    rw [hc] at hq
    have HL2 := Aside0.mk hl2
    clear hl2
    go_wp2_with (first | ((with_reducible refine gate_calls2 ?_); refine (hq _ (by repeat (first | (with_reducible first | exact HB.out | apply bA | apply bN | apply bD) | exact HB.out))).mono ?_; rintro e w7 ⟨rfl, hb⟩; have n0_ := Aside0.mk (below_step (by repeat (first | (with_reducible first | exact HB.out | apply bA | apply bN | apply bD) | exact HB.out)) hb); clear HB; have HB := n0_; clear n0_ hb))
    go_roundg gk
    case measure => omega
    case rel => exact ⟨i + 1, b, by simp, ⟨HL2.out⟩, ⟨by have := HB1.out; omega⟩, ⟨by have := HK.out; omega⟩, ⟨by repeat (first | (with_reducible first | exact HB.out | apply bA | apply bN | apply bD) | exact HB.out)⟩⟩
  ·have hl3 : mark_twice.ix p l0 b i = -1 := by
    cases b with
    | zero => rfl
    | succ b => simp [mark_twice.ix, hp]
   rw [hl2] at hl3
   have HL3 := Aside0.mk hl3
   clear hl2 hl3
   have c3b0 : decide ((i : Int) < (l0.length : Int)) = false := decide_eq_false (by omega)
   go_wp2
   go_ret
   rw [HL3.out]
   exact ⟨by first | rfl | (simp; done) | (simp [*]; done), by repeat (first | (with_reducible first | exact HB.out | apply bA | apply bN | apply bD) | exact HB.out)⟩
set_option maxHeartbeats 8000000 in
set_option maxRecDepth 100000 in
theorem mark_twice.contains2 (p : S51 → Bool) (A0 : Option Addr) (c0 : Nat) (l0 : List S51) (w : World) (hr0 : Kd.C k51 w A0 l0.length l0) (hc0 : l0.length ≤ c0) (hlen : l0.length ≤ 9223372036854775807)
  (hcl : ∀ (x : S51) (w' : World), Below w.heap.size w w' → Calls Tryd.prog 48 #[.agg #[.string x.f0, .string x.f1]] w' fun e w'' => e = .returned (.bool (p x)) ∧ Below w'.heap.size w' w'') :
  Calls Tryd.prog 47 #[.slice A0 l0.length c0, .func (.func 48) #[] #[]] w fun e w' => e = .returned (.bool (decide (0 ≤ mark_twice.ix p l0 l0.length 0))) ∧ Below w.heap.size w w' := by
 have HR0 := Aside0.mk hr0
 have HC0 := Aside0.mk hc0
 clear hr0 hc0
 go_enter Tryd.func47, Tryd.ntmps47
 go_wp2_with (first | ((with_reducible refine gate_callee (f := 55) rfl ?_); refine goesL_ (some 7) rfl rfl Tryd.func55 (by kernel_rfl) rfl #[.slice A0 l0.length c0, .func (.func 48) #[] #[]] rfl (by (try simp only [List.map_toArray, List.map_cons, List.map_nil]); first | done | rfl) ?_; refine (mark_twice.index2 p A0 c0 l0 _ HR0.out HC0.out hlen hcl).mono ?_; rintro e w7 ⟨rfl, hb⟩; refine ⟨_, rfl, ?_⟩))
 go_ret
 exact ⟨by first | rfl | (simp; done) | (simp [*]; done), hb⟩
def mark_twice.bad (x : S51) : Bool := !((mark_Name.f x.f0).getD false)
theorem mark_twice.bad_some (x : S51) : mark_Name.f x.f0 = some (!mark_twice.bad x) := by
 unfold mark_twice.bad mark_Name.f
 simp
set_option maxHeartbeats 8000000 in
set_option maxRecDepth 100000 in
theorem mark_twice.clo2 (x : S51) (w : World) :
  Calls Tryd.prog 48 #[.agg #[.string x.f0, .string x.f1]] w fun e w'' => e = .returned (.bool (mark_twice.bad x)) ∧ Below w.heap.size w w'' := by
 have hu51 := Tryd.underlying51
 have HB := Aside0.mk (Below.refl w.heap.size w)
 have hn := mark_twice.bad_some x
 go_enter Tryd.func48, Tryd.ntmps48
 go_wp2_with (first | ((with_reducible refine gate_dst (N := 1) rfl ?_); refine box_event ?hg (N := 1) ?hd (cs := #[.string x.f0, .string x.f1]) (t := 51) ?hr ?_; (case hd => rfl); (case hg => rfl); (case hr => first | (go_simp; done) | (go_simp; rfl)); intro gb hg w11 hbox hb; have n0_ := Aside0.mk (below_step (by repeat (first | (with_reducible first | exact HB.out | apply bA | apply bN | apply bD) | exact HB.out)) hb); clear HB; have HB := n0_; clear n0_; have z0 : w11.cell? ⟨gb, 0, none⟩ = some (.string x.f0) := (blk_cell hbox 0).trans rfl; clear hbox hb hg) | ((with_reducible refine gate_calls2 ?_); refine (mark_Name.calls x.f0 _ _ hn).mono ?_; rintro e w7 ⟨rfl, hb⟩; have n0_ := Aside0.mk (below_step (by repeat (first | (with_reducible first | exact HB.out | apply bA | apply bN | apply bD) | exact HB.out)) hb); clear HB; have HB := n0_; clear n0_ hb))
 go_ret
 exact ⟨by first | rfl | (simp; done) | (simp [*]; done), by repeat (first | (with_reducible first | exact HB.out | apply bA | apply bN | apply bD) | exact HB.out)⟩
def mark_anywrong.f (l0 : List S51) : Option Bool := if l0.length ≤ 9223372036854775807 then some (decide (0 ≤ mark_twice.ix mark_twice.bad l0 l0.length 0)) else none
theorem mark_anywrong.calls (A0 : Option Addr) (c0 : Nat) (l0 : List S51) (r : Bool) (w : World) (hr0 : Kd.C k51 w A0 l0.length l0) (hc0 : l0.length ≤ c0) (h : mark_anywrong.f l0 = some r) :
  Calls Tryd.prog 47 #[.slice A0 l0.length c0, .func (.func 48) #[] #[]] w fun e w' => e = .returned (.bool r) ∧ Below w.heap.size w w' := by
 unfold mark_anywrong.f at h
 by_cases hlen : l0.length ≤ 9223372036854775807
 rotate_left
 ·rw [if_neg hlen] at h
  exact absurd h (by simp)
 rw [if_pos hlen] at h
 obtain rfl := Option.some.inj h
 exact mark_twice.contains2 mark_twice.bad A0 c0 l0 w hr0 hc0 hlen (fun x w' _ => mark_twice.clo2 x w')

def strings_HasPrefix.f (a0 : ByteArray) (a1 : ByteArray) : Option (Bool) := (stringslite_HasPrefix.f a0 a1).bind fun t108 => (some t108)
set_option maxHeartbeats 8000000 in
set_option maxRecDepth 100000 in
theorem strings_HasPrefix.calls (a0 : ByteArray) (a1 : ByteArray) (r : Bool) (w : World) (h : strings_HasPrefix.f a0 a1 = some r) :
  Calls Tryd.prog 50 #[.string a0, .string a1] w fun e w' => e = .returned (.bool r) ∧ Drawn0 w w' := by
 have H : ((stringslite_HasPrefix.f a0 a1).bind fun t108 => (some t108)) = some r := h
 clear h
 replace H := Option.bind_eq_some_iff.mp H
 obtain ⟨t108, A30, H⟩ := H
 replace H : (some t108) = some r := H
 have A3 := Aside0.mk A30
 clear A30
 obtain rfl := Option.some.inj H
 go_enter Tryd.func50, Tryd.ntmps50
 go_wp2_with (first | ((with_reducible refine gate_callee (f := 56) rfl ?_); refine goesL_ (some 7) rfl rfl Tryd.func56 (by kernel_rfl) rfl #[.string a0, .string a1] rfl (by (try simp only [List.map_toArray, List.map_cons, List.map_nil]); first | done | rfl | (simp only [List.length_drop, List.length_take]; rfl)) ?_; (with_reducible refine (stringslite_HasPrefix.calls a0 a1 t108 _ A3.out).mono ?_); rintro e w' ⟨rfl, ⟨nd, rfl⟩⟩; refine ⟨_, rfl, ?_⟩))
 go_ret
 exact ⟨by first | rfl | (simp; done) | (simp [*]; done), by repeat (first | exact Drawn0.refl _ | apply Drawn0.step)⟩

def mark_plain.f (a0 : Int) : Option (Bool) := if a0 ≥ 32 then (if a0 ≤ 126 then (some true) else (some (a0 == 10))) else (some (a0 == 10))
set_option maxHeartbeats 8000000 in
set_option maxRecDepth 100000 in
theorem mark_plain.calls (a0 : Int) (r : Bool) (w : World) (h : mark_plain.f a0 = some r) :
  Calls Tryd.prog 28 #[.int .u8 a0] w fun e w' => e = .returned (.bool r) ∧ Drawn0 w w' := by
 have H : (if a0 ≥ 32 then (if a0 ≤ 126 then (some true) else (some (a0 == 10))) else (some (a0 == 10))) = some r := h
 clear h
 by_cases c2 : a0 ≥ 32
 ·rw [if_pos c2] at H
  have c2b0 : decide (32 ≤ a0) = true := decide_eq_true c2
  clear c2
  by_cases c3 : a0 ≤ 126
  ·rw [if_pos c3] at H
   have c3b0 : decide (a0 ≤ 126) = true := decide_eq_true c3
   clear c3
   obtain rfl := Option.some.inj H
   go_enter Tryd.func28, Tryd.ntmps28
   go_wp2
   go_ret
   exact ⟨by first | rfl | (simp; done) | (simp [*]; done), by repeat (first | exact Drawn0.refl _ | apply Drawn0.step)⟩
  ·rw [if_neg c3] at H
   have c3b0 : decide (a0 ≤ 126) = false := decide_eq_false c3
   clear c3
   obtain rfl := Option.some.inj H
   go_enter Tryd.func28, Tryd.ntmps28
   go_wp2
   go_ret
   exact ⟨by first | rfl | (simp; done) | (simp [*]; done), by repeat (first | exact Drawn0.refl _ | apply Drawn0.step)⟩
 ·rw [if_neg c2] at H
  have c2b0 : decide (32 ≤ a0) = false := decide_eq_false c2
  clear c2
  obtain rfl := Option.some.inj H
  go_enter Tryd.func28, Tryd.ntmps28
  go_wp2
  go_ret
  exact ⟨by first | rfl | (simp; done) | (simp [*]; done), by repeat (first | exact Drawn0.refl _ | apply Drawn0.step)⟩






theorem gate_m {P : Program} {f : FuncId} {args : Array Value} {w : World} {Q : Ending → World → Prop} (h : Calls P f args w Q) : Calls P f args w Q := h
def mark_meant.hp (s : ByteArray) (i : Int) (t : ByteArray) : Bool := (strings_HasPrefix.f (s.extract i.toNat s.size) t).getD false
theorem mark_meant.hp_some (s : ByteArray) (i : Int) (t : ByteArray) : strings_HasPrefix.f (s.extract i.toNat s.size) t = some (mark_meant.hp s i t) := by
 have h : ∃ b, strings_HasPrefix.f (s.extract i.toNat s.size) t = some b := by
  unfold strings_HasPrefix.f stringslite_HasPrefix.f
  by_cases h1 : ((s.extract i.toNat s.size).size : Int) ≥ (t.size : Int)
  ·rw [if_pos h1, if_pos (by omega), if_pos (by omega)]
   exact ⟨_, rfl⟩
  ·rw [if_neg h1]
   exact ⟨_, rfl⟩
 obtain ⟨b, hb⟩ := h
 unfold mark_meant.hp
 rw [hb]
 rfl
set_option maxHeartbeats 8000000 in
set_option maxRecDepth 100000 in
theorem mark_meant.clo (k : Int) (t s : ByteArray) (i : Int) (g1 g2 : Nat) (w : World) (h1 : w.heap[g1]? = some (.cells #[.string s] 9 (0, 0))) (h2 : w.heap[g2]? = some (.cells #[.int .i64 i] 3 (0, 0))) (hi0 : 0 ≤ i) (hi1 : i < (s.size : Int)) :
  Calls Tryd.prog 52 #[.agg #[.int .u8 k, .string t], .pointer (some ⟨g1, 0, none⟩), .pointer (some ⟨g2, 0, none⟩)] w fun e w'' => e = .returned (.bool (mark_meant.hp s i t)) ∧ Below w.heap.size w w'' := by
 have HB := Aside0.mk (Below.refl w.heap.size w)
 have HG1 := Aside0.mk h1
 have HG2 := Aside0.mk h2
 clear h1 h2
 have HP := Aside0.mk (mark_meant.hp_some s i t)
 have p1 := eq_true hi0
 have p2 := decide_eq_true hi0
 have q1 := eq_true (show i ≤ (s.size : Int) by omega)
 have q2 := decide_eq_true (show i ≤ (s.size : Int) by omega)
 clear hi0 hi1
 go_enter Tryd.func52, Tryd.ntmps52
 go_wp2_with (first | ((with_reducible refine gate_dst (N := 3) rfl ?_); refine box_event ?hg (N := 3) ?hd (cs := #[.int .u8 k, .string t]) (t := 70) ?hr ?_; (case hd => rfl); (case hg => rfl); (case hr => first | (go_simp; done) | (go_simp; rfl)); intro gb hg w11 hbox hb; have n0_ := Aside0.mk (below_step (by repeat (first | (with_reducible first | exact HB.out | apply bA | apply bN | apply bD) | exact HB.out)) hb); have n1_ := blk_below (g := g1) (o := .cells #[.string s] 9 (0, 0)) HG1.out hb; have n2_ := blk_below (g := g2) (o := .cells #[.int .i64 i] 3 (0, 0)) HG2.out hb; clear HB; have HB := n0_; clear n0_; have z0 : w11.cell? ⟨gb, 1, none⟩ = some (.string t) := (blk_cell hbox 1).trans rfl; have z1 : w11.cell? ⟨g1, 0, none⟩ = some (.string s) := (blk_cell n1_ 0).trans rfl; have z2 : w11.cell? ⟨g2, 0, none⟩ = some (.int .i64 i) := (blk_cell n2_ 0).trans rfl; clear n1_ n2_ hbox hb hg))
 go_quiet (first | (go_at_call 50; (with_reducible refine (strings_HasPrefix.calls (s.extract i.toNat s.size) t _ _ HP.out).mono ?_); rintro e w' ⟨rfl, ⟨nd, rfl⟩⟩; (first | exact ⟨rfl, _, World.drewN_drewN _ _ _⟩ | exact ⟨rfl, _, rfl⟩)))
 go_wp2
 go_ret
 exact ⟨by first | rfl | (simp; done) | (simp [*]; done), by repeat (first | (with_reducible first | exact HB.out | apply bA | apply bN | apply bD) | exact HB.out)⟩
def mark_meant.at (s : ByteArray) (i : Int) : Int := Tabs.ix (fun j => mark_meant.hp s i (Tabs.txt j)) 4 0
def mark_meant.l0 : Nat → ByteArray → ByteArray → Int → Option (ByteArray × Bool)
 | 0, _, _, _ => none
 | k + 1, o, s, i => if i < (s.size : Int) then (if 0 ≤ i then ((mark_plain.f (bt s i)).bind fun t => (if t = true then (if bt s i = 60 then some ((⟨#[]⟩ : ByteArray), false) else (if bt s i = 38 then (if mark_meant.at s i < 0 then some ((⟨#[]⟩ : ByteArray), false) else (if o.size + 1 ≤ 140737488355328 then mark_meant.l0 k (o ++ Bl2.one (Tabs.key (mark_meant.at s i).toNat)) s (wrap64 (wrap64 (i + wrap64 (((Tabs.txt (mark_meant.at s i).toNat).size : Int) - 1)) + 1)) else none)) else (if o.size + 1 ≤ 140737488355328 then mark_meant.l0 k (o ++ Bl2.one (bt s i)) s (wrap64 (i + 1)) else none))) else some ((⟨#[]⟩ : ByteArray), false))) else none) else some (o, true)
def mark_meant.f (k : Nat) (a0 : ByteArray) : Option (ByteArray × Bool) := mark_meant.l0 k (⟨#[]⟩ : ByteArray) a0 0
theorem mark_meant.mono_l : ∀ k, (∀ y0 y1 y2, LeO (mark_meant.l0 k y0 y1 y2) (mark_meant.l0 (k + 1) y0 y1 y2))
 | 0 => fun _ _ _ r h => by first | (cases h; done) | simp [mark_meant.l0] at h
 | k + 1 => by
  have ih0 := mark_meant.mono_l k
  ·intro y0 y1 y2
   unfold mark_meant.l0
   repeat' first
   | (with_reducible exact ih0 _ _ _)
   | (with_reducible exact LeO.refl _)
   | (with_reducible exact LeO.none _)
   | (with_reducible refine LeO.ite ?_ ?_)
   | (with_reducible refine LeO.bind ?_ (fun _ => ?_))
   | exact ih0 _ _ _
   | exact LeO.none _
   | refine LeO.ite ?_ ?_
   | refine LeO.bind ?_ (fun _ => ?_)
theorem mark_meant.mono : ∀ a0 k, LeO (mark_meant.f k a0) (mark_meant.f (k + 1) a0) := fun a0 k => mark_meant.mono_l k _ _ _
theorem ix_range2 (p : Nat → Bool) : ∀ d i, Tabs.ix p d i < 0 ∨ ∃ n : Nat, Tabs.ix p d i = (n : Int) ∧ n < 4
 | 0, i => .inl (by simp [Tabs.ix])
 | d + 1, i => by
  simp only [Tabs.ix]
  split
  ·split
   ·exact .inr ⟨i, rfl, by omega⟩
   ·exact ix_range2 p d (i + 1)
  ·exact .inl (by omega)
theorem key_byte : ∀ n : Nat, 0 ≤ Tabs.key n ∧ Tabs.key n < 256
 | 0 => by simp [Tabs.key]
 | 1 => by simp [Tabs.key]
 | 2 => by simp [Tabs.key]
 | n + 3 => by simp [Tabs.key]
theorem bt_byte2 (s : ByteArray) (i : Int) (h0 : 0 ≤ i) (h1 : i < (s.size : Int)) : 0 ≤ bt s i ∧ bt s i < 256 := by
 have h : i.toNat < s.size := by omega
 rw [← bt_at s i h]
 have := UInt8.toNat_lt (s[i.toNat]'h)
 omega
set_option maxHeartbeats 8000000 in
set_option maxRecDepth 100000 in
theorem mark_meant.calls (k : Nat) (a0 : ByteArray) (r1 : ByteArray) (r2 : Bool) (w : World) (h : mark_meant.f k a0 = some (r1, r2)) (hT : Tabs.Tab w) :
  Calls Tryd.prog 43 #[.string a0] w fun e w' => e = .returned (.tuple #[.string r1, .bool r2]) ∧ Below w.heap.size w w' := by
 have HT0 := Aside0.mk hT
 clear hT
 have hmf : ∀ (fn : Fn) (first cap : Array Value) (w : World), (Instr.makeFunc fn first cap).run Tryd.prog w = .ok (.func fn first cap) w := fun _ _ _ _ => rfl
 have HB := Aside0.mk (Below.refl w.heap.size w)
 have H' := Aside0.mk (show mark_meant.l0 k (⟨#[]⟩ : ByteArray) a0 0 = some (r1, r2) from h)
 clear h
 go_enter Tryd.func43, Tryd.ntmps43
 go_wp2_with (first | ((with_reducible refine gate_dst (N := 1) rfl ?_); refine box_event ?hg (N := 1) ?hd (cs := #[.string a0]) (t := 9) ?hr ?_; (case hd => rfl); (case hg => rfl); (case hr => first | (go_simp; done) | (go_simp; rfl)); intro g1 hg w1 hbox hb; have n0_ := Aside0.mk (below_step (by repeat (first | (with_reducible first | exact HB.out | apply bA | apply bN | apply bD) | exact HB.out)) hb); have n1_ := Aside0.mk hbox; clear HB; have HB := n0_; have G1 := n1_; clear n0_ n1_; clear hb hbox hg; have z1 : w1.cell? ⟨g1, 0, none⟩ = some (.string a0) := (blk_cell G1.out 0).trans rfl) | ((with_reducible refine gate_dst (N := 4) rfl ?_); refine box_event ?hg (N := 4) ?hd (cs := #[.pointer none, .slice none 0 0]) (t := 66) ?hr ?_; (case hd => rfl); (case hg => rfl); (case hr => first | (go_simp; done) | (go_simp; rfl)); intro g4 hg w4 hbox hb; have n0_ := Aside0.mk (below_step (by repeat (first | (with_reducible first | exact HB.out | apply bA | apply bN | apply bD) | exact HB.out)) hb); have n1_ := Aside0.mk (blk_below (by (with_reducible repeat (first | refine kN ?_ _ | refine kD ?_ | refine kA ?_ _)); exact G1.out) hb); have n2_ := Aside0.mk (Bl2.bld_fresh (by rw [hg]; exact Nat.le_refl _) hbox); have n3_ := Aside0.mk (below_size (by repeat (first | (with_reducible first | exact HB.out | apply bA | apply bN | apply bD) | exact HB.out))); have n4_ := Aside0.mk hb.size; clear HB G1; have HB := n0_; have G1 := n1_; have BD := n2_; have HW := n3_; have HW4 := n4_; clear n0_ n1_ n2_ n3_ n4_; clear z1 hb hbox hg; have z1 : w4.cell? ⟨g1, 0, none⟩ = some (.string a0) := (blk_cell G1.out 0).trans rfl) | ((with_reducible refine gate_dst (N := 5) rfl ?_); refine box_event ?hg (N := 5) ?hd (cs := #[.int .i64 0]) (t := 3) ?hr ?_; (case hd => rfl); (case hg => rfl); (case hr => first | (go_simp; done) | (go_simp; rfl)); intro g5 hg w5 hbox hb; have n0_ := Aside0.mk (below_step (by repeat (first | (with_reducible first | exact HB.out | apply bA | apply bN | apply bD) | exact HB.out)) hb); have n1_ := Aside0.mk (blk_below (by (with_reducible repeat (first | refine kN ?_ _ | refine kD ?_ | refine kA ?_ _)); exact G1.out) hb); have n2_ := Aside0.mk (Bl2.bld_below (by (with_reducible repeat (first | refine Bl2.bld_drewN ?_ _ | refine Bl2.bld_alloc ?_ _)); exact BD.out) hb); have n3_ := Aside0.mk (Nat.le_trans HW4.out hb.size); have n4_ := Aside0.mk hbox; have n5_ := Aside0.mk ((by rw [hg]; exact (below_size (by repeat (first | (with_reducible first | exact HB.out | apply bA | apply bN | apply bD) | exact HB.out)))) : w.heap.size ≤ g5); clear HB G1 BD HW4; have HB := n0_; have G1 := n1_; have BD := n2_; have HW4 := n3_; have G5 := n4_; have GE5 := n5_; clear n0_ n1_ n2_ n3_ n4_ n5_; clear z1 hb hbox hg; have HNE := Aside0.mk (blk_ne G1.out G5.out (by decide)); have f5 := blk_frozen G5.out 0; have z5 : w5.cell? ⟨g5, 0, none⟩ = some (.int .i64 0) := (blk_cell G5.out 0).trans rfl))
 go_loopg [5] k (fun kq v5 w' => ∃ (g5 : Nat) (o : ByteArray) (i : Int), v5 = .pointer (some ⟨g5, 0, none⟩) ∧ Aside0 (Bl2.Bd w' w1.heap.size g4 o) ∧ Aside0 (mark_meant.l0 kq o a0 i = some (r1, r2)) ∧ Aside0 (kq ≤ k) ∧ Aside0 (w'.heap[g1]? = some (.cells #[.string a0] 9 (0, 0))) ∧ Aside0 (w'.heap[g5]? = some (.cells #[.int .i64 i] 3 (0, 0))) ∧ Aside0 (w.heap.size ≤ g5) ∧ Aside0 (w1.heap.size ≤ w'.heap.size) ∧ Aside0 (Below w.heap.size w w'))
 case atStart =>
  refine ⟨g5, ⟨#[]⟩, 0, rfl, ⟨Bl2.bld_far BD.out G5.out 0 _ (by decide) (by decide)⟩, H', ⟨Nat.le_refl _⟩, ⟨(by (with_reducible repeat (first | refine blk_drewN ?_ _ | refine blk_drew ?_ | refine blk_alloc ?_ _ | refine blk_far ?_ HNE.out _)); exact G1.out)⟩, ⟨blk_put (cs := #[.int .i64 0]) G5.out 0 _ rfl⟩, GE5, ⟨by simp [World.setCell]; exact HW4.out⟩, ⟨(by repeat (first | (with_reducible first | exact HB.out | apply bA | apply bN | apply bD | refine below_set ?_ GE5.out) | exact HB.out))⟩⟩
 case round =>
  clear H' BD HW4 G1 HB G5 GE5 HNE f5 z5
  obtain ⟨g5, o, i, rfl, BD, HA, HK1, G1, G5, GE5, HW4, HB⟩ := hrel
  have HNE := Aside0.mk (blk_ne G1.out G5.out (by decide))
  have z1 := (blk_cell G1.out 0).trans rfl
  have z5 := (blk_cell G5.out 0).trans rfl
  cases gk with
  | zero => exact absurd HA.out (by first | (intro h_; cases h_; done) | simp [mark_meant.l0])
  | succ k1 =>
   have H := HA.out
   clear HA
   simp only [mark_meant.l0] at H
   by_cases c1 : i < (a0.size : Int)
   ·rw [if_pos c1] at H
    by_cases p1 : 0 ≤ i
    ·rw [if_pos p1] at H
     have HI0 := Aside0.mk p1
     have HI1 := Aside0.mk c1
     have HBY := Aside0.mk (bt_byte2 a0 i p1 c1)
     have hx := bt_at a0 i
     have c1b := decide_eq_true c1
     have p1b := decide_eq_true p1
     replace p1 := eq_true p1
     replace c1 := eq_true c1
     replace H := Option.bind_eq_some_iff.mp H
     obtain ⟨t, A60, H⟩ := H
     have A6 := Aside0.mk A60
     clear A60
     cases t with
     | true =>
      rw [if_pos rfl] at H
      by_cases c2 : bt a0 i = 60
      ·rw [if_pos c2] at H
       have c2b0 : (bt a0 i == 60) = true := beq_iff_eq.mpr c2
       clear c2
       simp only [Option.some.injEq, Prod.mk.injEq] at H
       obtain ⟨rfl, rfl⟩ := H
       go_wp2_with (first | (go_at_call 28; refine (mark_plain.calls (bt a0 i) true _ A6.out).mono ?_; rintro e w6 ⟨rfl, ⟨nd, hq⟩⟩; have n0_ := Aside0.mk ((by rw [hq]; exact (by repeat (first | (with_reducible first | exact HB.out | apply bA | apply bN | apply bD | refine below_set ?_ GE5.out) | exact HB.out))) : Below w.heap.size w w6); have n1_ := Aside0.mk ((by rw [hq]; exact (by (with_reducible repeat (first | refine kN ?_ _ | refine kD ?_ | refine kA ?_ _)); exact G1.out)) : w6.heap[g1]? = some (.cells #[.string a0] 9 (0, 0))); have n2_ := Aside0.mk ((by rw [hq]; exact (by (with_reducible repeat (first | refine Bl2.bld_drewN ?_ _ | refine Bl2.bld_alloc ?_ _)); exact BD.out)) : Bl2.Bd w6 w1.heap.size g4 o); have n3_ := Aside0.mk ((by rw [hq]; exact HW4.out) : w1.heap.size ≤ w6.heap.size); have n4_ := Aside0.mk ((by rw [hq]; exact (by (with_reducible repeat (first | refine kN ?_ _ | refine kD ?_ | refine kA ?_ _)); exact G5.out)) : w6.heap[g5]? = some (.cells #[.int .i64 i] 3 (0, 0))); clear HB G1 BD HW4 G5; have HB := n0_; have G1 := n1_; have BD := n2_; have HW4 := n3_; have G5 := n4_; clear n0_ n1_ n2_ n3_ n4_; clear hq z1 z5; have z1 : w6.cell? ⟨g1, 0, none⟩ = some (.string a0) := (blk_cell G1.out 0).trans rfl; have z5 : w6.cell? ⟨g5, 0, none⟩ = some (.int .i64 i) := (blk_cell G5.out 0).trans rfl))
       go_ret2
       exact ⟨by first | rfl | (simp; done) | (simp [*]; done), (by repeat (first | (with_reducible first | exact HB.out | apply bA | apply bN | apply bD) | exact HB.out))⟩
      ·rw [if_neg c2] at H
       have c2b0 : (bt a0 i == 60) = false := beq_eq_false_iff_ne.mpr c2
       clear c2
       by_cases c3 : bt a0 i = 38
       ·rw [if_pos c3] at H
        have c3b0 : (bt a0 i != 38) = false := bne_eq_false_iff_eq.mpr c3
        have c3b1 : (bt a0 i == 38) = true := beq_iff_eq.mpr c3
        clear c3
        by_cases c4 : mark_meant.at a0 i < 0
        ·rw [if_pos c4] at H
         have hat : ∃ v, mark_meant.at a0 i = v := ⟨_, rfl⟩
         obtain ⟨v, hat⟩ := hat
         rw [hat] at c4
         have HAT := Aside0.mk hat
         clear hat
         have v0 := decide_eq_true c4
         clear c4
         simp only [Option.some.injEq, Prod.mk.injEq] at H
         obtain ⟨rfl, rfl⟩ := H
         go_wp2_with (first | (go_at_call 28; refine (mark_plain.calls (bt a0 i) true _ A6.out).mono ?_; rintro e w6 ⟨rfl, ⟨nd, hq⟩⟩; have n0_ := Aside0.mk ((by rw [hq]; exact (by repeat (first | (with_reducible first | exact HB.out | apply bA | apply bN | apply bD | refine below_set ?_ GE5.out) | exact HB.out))) : Below w.heap.size w w6); have n1_ := Aside0.mk ((by rw [hq]; exact (by (with_reducible repeat (first | refine kN ?_ _ | refine kD ?_ | refine kA ?_ _)); exact G1.out)) : w6.heap[g1]? = some (.cells #[.string a0] 9 (0, 0))); have n2_ := Aside0.mk ((by rw [hq]; exact (by (with_reducible repeat (first | refine Bl2.bld_drewN ?_ _ | refine Bl2.bld_alloc ?_ _)); exact BD.out)) : Bl2.Bd w6 w1.heap.size g4 o); have n3_ := Aside0.mk ((by rw [hq]; exact HW4.out) : w1.heap.size ≤ w6.heap.size); have n4_ := Aside0.mk ((by rw [hq]; exact (by (with_reducible repeat (first | refine kN ?_ _ | refine kD ?_ | refine kA ?_ _)); exact G5.out)) : w6.heap[g5]? = some (.cells #[.int .i64 i] 3 (0, 0))); clear HB G1 BD HW4 G5; have HB := n0_; have G1 := n1_; have BD := n2_; have HW4 := n3_; have G5 := n4_; clear n0_ n1_ n2_ n3_ n4_; clear hq z1 z5; have z1 : w6.cell? ⟨g1, 0, none⟩ = some (.string a0) := (blk_cell G1.out 0).trans rfl; have z5 : w6.cell? ⟨g5, 0, none⟩ = some (.int .i64 i) := (blk_cell G5.out 0).trans rfl) | ((with_reducible refine gate_m ?_); refine (Tabs.index_mean (fun j => mark_meant.hp a0 i (Tabs.txt j)) g1 g5 _ (Tabs.tab_below HT0.out (by repeat (first | (with_reducible first | exact HB.out | apply bA | apply bN | apply bD) | exact HB.out))) (fun j W' hj hb => mark_meant.clo (Tabs.key j) (Tabs.txt j) a0 i g1 g5 W' (blk_below (by (with_reducible repeat (first | refine kN ?_ _ | refine kD ?_ | refine kA ?_ _)); exact G1.out) hb) (blk_below (by (with_reducible repeat (first | refine kN ?_ _ | refine kD ?_ | refine kA ?_ _)); exact G5.out) hb) HI0.out HI1.out)).mono ?_; rintro e w7 ⟨rfl, hb⟩; rw [show Tabs.ix (fun j => mark_meant.hp a0 i (Tabs.txt j)) 4 0 = v from HAT.out]; have n0_ := Aside0.mk (below_step (by repeat (first | (with_reducible first | exact HB.out | apply bA | apply bN | apply bD) | exact HB.out)) hb); have n1_ := Aside0.mk (blk_below (by (with_reducible repeat (first | refine kN ?_ _ | refine kD ?_ | refine kA ?_ _)); exact G1.out) hb); have n2_ := Aside0.mk (blk_below (by (with_reducible repeat (first | refine kN ?_ _ | refine kD ?_ | refine kA ?_ _)); exact G5.out) hb); have n3_ := Aside0.mk (Bl2.bld_below (by (with_reducible repeat (first | refine Bl2.bld_drewN ?_ _ | refine Bl2.bld_alloc ?_ _)); exact BD.out) hb); have n4_ := Aside0.mk (Nat.le_trans HW4.out hb.size); clear HB G1 G5 BD HW4; have HB := n0_; have G1 := n1_; have G5 := n2_; have BD := n3_; have HW4 := n4_; clear n0_ n1_ n2_ n3_ n4_; clear z1 z5 hb; have z1 : w7.cell? ⟨g1, 0, none⟩ = some (.string a0) := (blk_cell G1.out 0).trans rfl; have z5 : w7.cell? ⟨g5, 0, none⟩ = some (.int .i64 i) := (blk_cell G5.out 0).trans rfl; have ht := Tabs.tab_below HT0.out (by repeat (first | (with_reducible first | exact HB.out | apply bA | apply bN | apply bD) | exact HB.out)); clear ht))
         go_ret2
         exact ⟨by first | rfl | (simp; done) | (simp [*]; done), (by repeat (first | (with_reducible first | exact HB.out | apply bA | apply bN | apply bD) | exact HB.out))⟩
        ·rw [if_neg c4] at H
         obtain ⟨n, hat, hn⟩ := (ix_range2 (fun j => mark_meant.hp a0 i (Tabs.txt j)) 4 0).resolve_left c4
         change mark_meant.at a0 i = _ at hat
         rw [hat] at H c4
         rw [show ((n : Int)).toNat = n from rfl] at H
         by_cases c5 : o.size + 1 ≤ 140737488355328
         ·rw [if_pos c5] at H
          have HS := Aside0.mk c5
          clear c5
          have HH := Aside0.mk H
          clear H
          have HAT := Aside0.mk hat
          clear hat
          have HN := Aside0.mk hn
          have v0 := decide_eq_false c4
          clear c4
          have p4 := eq_true (show 0 ≤ (n : Int) by omega)
          have q4 := eq_true (show (n : Int) < 4 by omega)
          clear hn
          go_wp2_with (first | (go_at_call 28; refine (mark_plain.calls (bt a0 i) true _ A6.out).mono ?_; rintro e w6 ⟨rfl, ⟨nd, hq⟩⟩; have n0_ := Aside0.mk ((by rw [hq]; exact (by repeat (first | (with_reducible first | exact HB.out | apply bA | apply bN | apply bD | refine below_set ?_ GE5.out) | exact HB.out))) : Below w.heap.size w w6); have n1_ := Aside0.mk ((by rw [hq]; exact (by (with_reducible repeat (first | refine kN ?_ _ | refine kD ?_ | refine kA ?_ _)); exact G1.out)) : w6.heap[g1]? = some (.cells #[.string a0] 9 (0, 0))); have n2_ := Aside0.mk ((by rw [hq]; exact (by (with_reducible repeat (first | refine Bl2.bld_drewN ?_ _ | refine Bl2.bld_alloc ?_ _)); exact BD.out)) : Bl2.Bd w6 w1.heap.size g4 o); have n3_ := Aside0.mk ((by rw [hq]; exact HW4.out) : w1.heap.size ≤ w6.heap.size); have n4_ := Aside0.mk ((by rw [hq]; exact (by (with_reducible repeat (first | refine kN ?_ _ | refine kD ?_ | refine kA ?_ _)); exact G5.out)) : w6.heap[g5]? = some (.cells #[.int .i64 i] 3 (0, 0))); clear HB G1 BD HW4 G5; have HB := n0_; have G1 := n1_; have BD := n2_; have HW4 := n3_; have G5 := n4_; clear n0_ n1_ n2_ n3_ n4_; clear hq z1 z5; have z1 : w6.cell? ⟨g1, 0, none⟩ = some (.string a0) := (blk_cell G1.out 0).trans rfl; have z5 : w6.cell? ⟨g5, 0, none⟩ = some (.int .i64 i) := (blk_cell G5.out 0).trans rfl) | (go_at_call 31; refine (Bl2.write1 BD.out (Tabs.key n) (key_byte n).1 (key_byte n).2 HS.out HW4.out).mono ?_; rintro e w8 ⟨rfl, hbd, hb, hoth⟩; have n0_ := Aside0.mk (HB.out.trans (hb.mono HW.out)); have n1_ := Aside0.mk (hoth g1 9 _ (by decide) (by decide) G1.out); have n2_ := Aside0.mk (hoth g5 3 _ (by decide) (by decide) G5.out); have n3_ := Aside0.mk hbd; have n4_ := Aside0.mk (Nat.le_trans HW4.out hb.size); clear HB G1 G5 BD HW4; have HB := n0_; have G1 := n1_; have G5 := n2_; have BD := n3_; have HW4 := n4_; clear n0_ n1_ n2_ n3_ n4_; clear z1 z5 hb hbd hoth; have z1 : w8.cell? ⟨g1, 0, none⟩ = some (.string a0) := (blk_cell G1.out 0).trans rfl; have z5 : w8.cell? ⟨g5, 0, none⟩ = some (.int .i64 i) := (blk_cell G5.out 0).trans rfl; have f5 := blk_frozen G5.out 0; clear y1 y2; have ht := Tabs.tab_below HT0.out (by repeat (first | (with_reducible first | exact HB.out | apply bA | apply bN | apply bD) | exact HB.out)); have y2 := (ht n HN.out).2; clear ht) | ((with_reducible refine gate_m ?_); refine (Tabs.index_mean (fun j => mark_meant.hp a0 i (Tabs.txt j)) g1 g5 _ (Tabs.tab_below HT0.out (by repeat (first | (with_reducible first | exact HB.out | apply bA | apply bN | apply bD) | exact HB.out))) (fun j W' hj hb => mark_meant.clo (Tabs.key j) (Tabs.txt j) a0 i g1 g5 W' (blk_below (by (with_reducible repeat (first | refine kN ?_ _ | refine kD ?_ | refine kA ?_ _)); exact G1.out) hb) (blk_below (by (with_reducible repeat (first | refine kN ?_ _ | refine kD ?_ | refine kA ?_ _)); exact G5.out) hb) HI0.out HI1.out)).mono ?_; rintro e w7 ⟨rfl, hb⟩; rw [show Tabs.ix (fun j => mark_meant.hp a0 i (Tabs.txt j)) 4 0 = (n : Int) from HAT.out]; have n0_ := Aside0.mk (below_step (by repeat (first | (with_reducible first | exact HB.out | apply bA | apply bN | apply bD) | exact HB.out)) hb); have n1_ := Aside0.mk (blk_below (by (with_reducible repeat (first | refine kN ?_ _ | refine kD ?_ | refine kA ?_ _)); exact G1.out) hb); have n2_ := Aside0.mk (blk_below (by (with_reducible repeat (first | refine kN ?_ _ | refine kD ?_ | refine kA ?_ _)); exact G5.out) hb); have n3_ := Aside0.mk (Bl2.bld_below (by (with_reducible repeat (first | refine Bl2.bld_drewN ?_ _ | refine Bl2.bld_alloc ?_ _)); exact BD.out) hb); have n4_ := Aside0.mk (Nat.le_trans HW4.out hb.size); clear HB G1 G5 BD HW4; have HB := n0_; have G1 := n1_; have G5 := n2_; have BD := n3_; have HW4 := n4_; clear n0_ n1_ n2_ n3_ n4_; clear z1 z5 hb; have z1 : w7.cell? ⟨g1, 0, none⟩ = some (.string a0) := (blk_cell G1.out 0).trans rfl; have z5 : w7.cell? ⟨g5, 0, none⟩ = some (.int .i64 i) := (blk_cell G5.out 0).trans rfl; have ht := Tabs.tab_below HT0.out (by repeat (first | (with_reducible first | exact HB.out | apply bA | apply bN | apply bD) | exact HB.out)); have y1 := (ht n HN.out).1; have y2 := (ht n HN.out).2; clear ht) | ((with_reducible refine gate_dst (N := 5) rfl ?_); refine box_event ?hg (N := 5) ?hd (cs := #[.int .i64 0]) (t := 3) ?hr ?_; (case hd => rfl); (case hg => rfl); (case hr => first | (go_simp; done) | (go_simp; rfl)); intro g6 hg w9 hbox hb; have n0_ := Aside0.mk (below_step (by repeat (first | (with_reducible first | exact HB.out | apply bA | apply bN | apply bD | refine below_set ?_ GE5.out) | exact HB.out)) hb); have n1_ := Aside0.mk (blk_below (g := g1) (o := .cells #[.string a0] 9 (0, 0)) (by (with_reducible repeat (first | refine blk_drewN ?_ _ | refine blk_drew ?_ | refine blk_alloc ?_ _ | refine blk_far ?_ HNE.out _)); exact G1.out) hb); have n2_ := Aside0.mk (Bl2.bld_below (by (with_reducible repeat (first | refine Bl2.bld_drewN ?_ _ | refine Bl2.bld_alloc ?_ _)); exact BD.out) hb); have n3_ := Aside0.mk (Nat.le_trans HW4.out hb.size); have n4_ := Aside0.mk hbox; have n5_ := Aside0.mk ((by rw [hg]; exact (below_size (by repeat (first | (with_reducible first | exact HB.out | apply bA | apply bN | apply bD | refine below_set ?_ GE5.out) | exact HB.out)))) : w.heap.size ≤ g6); clear HB G1 BD HW4; have HB := n0_; have G1 := n1_; have BD := n2_; have HW4 := n3_; have G6 := n4_; have GE6 := n5_; clear n0_ n1_ n2_ n3_ n4_ n5_; clear z1 z5 f5 hb hbox hg; have HNE6 := Aside0.mk (blk_ne G1.out G6.out (by decide)); have z6 : w9.cell? ⟨g6, 0, none⟩ = some (.int .i64 0) := (blk_cell G6.out 0).trans rfl; have f6 := blk_frozen G6.out 0))
          go_region
          go_wp2_with (first | ((with_reducible refine gate_dst (N := 5) rfl ?_); refine box_event ?hg (N := 5) ?hd (cs := #[.int .i64 0]) (t := 3) ?hr ?_; (case hd => rfl); (case hg => rfl); (case hr => first | (go_simp; done) | (go_simp; rfl)); intro g6 hg w9 hbox hb; have n0_ := Aside0.mk (below_step (by repeat (first | (with_reducible first | exact HB.out | apply bA | apply bN | apply bD | refine below_set ?_ GE5.out) | exact HB.out)) hb); have n1_ := Aside0.mk (blk_below (g := g1) (o := .cells #[.string a0] 9 (0, 0)) (by (with_reducible repeat (first | refine blk_drewN ?_ _ | refine blk_drew ?_ | refine blk_alloc ?_ _ | refine blk_far ?_ HNE.out _)); exact G1.out) hb); have n2_ := Aside0.mk (Bl2.bld_below (by (with_reducible repeat (first | refine Bl2.bld_drewN ?_ _ | refine Bl2.bld_alloc ?_ _)); exact Bl2.bld_far BD.out G5.out 0 _ (by decide) (by decide)) hb); have n3_ := Aside0.mk (Nat.le_trans HW4.out (by have := hb.size; simpa [World.setCell, World.drewN] using this)); have n4_ := Aside0.mk hbox; have n5_ := Aside0.mk ((by rw [hg]; exact (below_size (by repeat (first | (with_reducible first | exact HB.out | apply bA | apply bN | apply bD | refine below_set ?_ GE5.out) | exact HB.out)))) : w.heap.size ≤ g6); clear HB G1 BD HW4; have HB := n0_; have G1 := n1_; have BD := n2_; have HW4 := n3_; have G6 := n4_; have GE6 := n5_; clear n0_ n1_ n2_ n3_ n4_ n5_; clear z1 z5 f5 hb hbox hg; have HNE6 := Aside0.mk (blk_ne G1.out G6.out (by decide)); have z6 : w9.cell? ⟨g6, 0, none⟩ = some (.int .i64 0) := (blk_cell G6.out 0).trans rfl; have f6 := blk_frozen G6.out 0))
          go_roundg k1
          case measure => have := HK1.out; omega
          case rel => exact ⟨_, _, _, rfl, ⟨Bl2.bld_far (Bl2.bld_far BD.out G6.out 0 _ (by decide) (by decide)) (blk_put (cs := #[.int .i64 0]) G6.out 0 _ rfl) 0 _ (by decide) (by decide)⟩, HH, ⟨by have := HK1.out; omega⟩, ⟨(by (with_reducible repeat (first | refine blk_drewN ?_ _ | refine blk_drew ?_ | refine blk_alloc ?_ _ | refine blk_far ?_ HNE6.out _)); exact G1.out)⟩, ⟨blk_put (cs := #[.int .i64 (wrap64 (i + wrap64 (((Tabs.txt n).size : Int) - 1)))]) (blk_put (cs := #[.int .i64 0]) G6.out 0 _ rfl) 0 _ rfl⟩, GE6, ⟨by simp [World.setCell]; exact HW4.out⟩, ⟨(by repeat (first | (with_reducible first | exact HB.out | apply bA | apply bN | apply bD | refine below_set ?_ GE6.out) | exact HB.out))⟩⟩
         ·rw [if_neg c5] at H
          exact absurd H (by simp)
       ·rw [if_neg c3] at H
        have c3b0 : (bt a0 i != 38) = true := bne_iff_ne.mpr c3
        have c3b1 : (bt a0 i == 38) = false := beq_eq_false_iff_ne.mpr c3
        clear c3
        by_cases c5 : o.size + 1 ≤ 140737488355328
        ·rw [if_pos c5] at H
         have HS := Aside0.mk c5
         clear c5
         have HH := Aside0.mk H
         clear H
         go_wp2_with (first | (go_at_call 28; refine (mark_plain.calls (bt a0 i) true _ A6.out).mono ?_; rintro e w6 ⟨rfl, ⟨nd, hq⟩⟩; have n0_ := Aside0.mk ((by rw [hq]; exact (by repeat (first | (with_reducible first | exact HB.out | apply bA | apply bN | apply bD | refine below_set ?_ GE5.out) | exact HB.out))) : Below w.heap.size w w6); have n1_ := Aside0.mk ((by rw [hq]; exact (by (with_reducible repeat (first | refine kN ?_ _ | refine kD ?_ | refine kA ?_ _)); exact G1.out)) : w6.heap[g1]? = some (.cells #[.string a0] 9 (0, 0))); have n2_ := Aside0.mk ((by rw [hq]; exact (by (with_reducible repeat (first | refine Bl2.bld_drewN ?_ _ | refine Bl2.bld_alloc ?_ _)); exact BD.out)) : Bl2.Bd w6 w1.heap.size g4 o); have n3_ := Aside0.mk ((by rw [hq]; exact HW4.out) : w1.heap.size ≤ w6.heap.size); have n4_ := Aside0.mk ((by rw [hq]; exact (by (with_reducible repeat (first | refine kN ?_ _ | refine kD ?_ | refine kA ?_ _)); exact G5.out)) : w6.heap[g5]? = some (.cells #[.int .i64 i] 3 (0, 0))); clear HB G1 BD HW4 G5; have HB := n0_; have G1 := n1_; have BD := n2_; have HW4 := n3_; have G5 := n4_; clear n0_ n1_ n2_ n3_ n4_; clear hq z1 z5; have z1 : w6.cell? ⟨g1, 0, none⟩ = some (.string a0) := (blk_cell G1.out 0).trans rfl; have z5 : w6.cell? ⟨g5, 0, none⟩ = some (.int .i64 i) := (blk_cell G5.out 0).trans rfl) | (go_at_call 31; refine (Bl2.write1 BD.out (bt a0 i) HBY.out.1 HBY.out.2 HS.out HW4.out).mono ?_; rintro e w8 ⟨rfl, hbd, hb, hoth⟩; have n0_ := Aside0.mk (HB.out.trans (hb.mono HW.out)); have n1_ := Aside0.mk (hoth g1 9 _ (by decide) (by decide) G1.out); have n2_ := Aside0.mk (hoth g5 3 _ (by decide) (by decide) G5.out); have n3_ := Aside0.mk hbd; have n4_ := Aside0.mk (Nat.le_trans HW4.out hb.size); clear HB G1 G5 BD HW4; have HB := n0_; have G1 := n1_; have G5 := n2_; have BD := n3_; have HW4 := n4_; clear n0_ n1_ n2_ n3_ n4_; clear z1 z5 hb hbd hoth; have z1 : w8.cell? ⟨g1, 0, none⟩ = some (.string a0) := (blk_cell G1.out 0).trans rfl; have z5 : w8.cell? ⟨g5, 0, none⟩ = some (.int .i64 i) := (blk_cell G5.out 0).trans rfl; have f5 := blk_frozen G5.out 0) | ((with_reducible refine gate_dst (N := 5) rfl ?_); refine box_event ?hg (N := 5) ?hd (cs := #[.int .i64 0]) (t := 3) ?hr ?_; (case hd => rfl); (case hg => rfl); (case hr => first | (go_simp; done) | (go_simp; rfl)); intro g6 hg w9 hbox hb; have n0_ := Aside0.mk (below_step (by repeat (first | (with_reducible first | exact HB.out | apply bA | apply bN | apply bD | refine below_set ?_ GE5.out) | exact HB.out)) hb); have n1_ := Aside0.mk (blk_below (g := g1) (o := .cells #[.string a0] 9 (0, 0)) (by (with_reducible repeat (first | refine blk_drewN ?_ _ | refine blk_drew ?_ | refine blk_alloc ?_ _ | refine blk_far ?_ HNE.out _)); exact G1.out) hb); have n2_ := Aside0.mk (Bl2.bld_below (by (with_reducible repeat (first | refine Bl2.bld_drewN ?_ _ | refine Bl2.bld_alloc ?_ _)); exact BD.out) hb); have n3_ := Aside0.mk (Nat.le_trans HW4.out hb.size); have n4_ := Aside0.mk hbox; have n5_ := Aside0.mk ((by rw [hg]; exact (below_size (by repeat (first | (with_reducible first | exact HB.out | apply bA | apply bN | apply bD | refine below_set ?_ GE5.out) | exact HB.out)))) : w.heap.size ≤ g6); clear HB G1 BD HW4; have HB := n0_; have G1 := n1_; have BD := n2_; have HW4 := n3_; have G6 := n4_; have GE6 := n5_; clear n0_ n1_ n2_ n3_ n4_ n5_; clear z1 z5 f5 hb hbox hg; have HNE6 := Aside0.mk (blk_ne G1.out G6.out (by decide)); have z6 : w9.cell? ⟨g6, 0, none⟩ = some (.int .i64 0) := (blk_cell G6.out 0).trans rfl; have f6 := blk_frozen G6.out 0))
         go_roundg k1
         case measure => have := HK1.out; omega
         case rel => exact ⟨_, _, _, rfl, ⟨Bl2.bld_far (Bl2.bld_far BD.out G6.out 0 _ (by decide) (by decide)) (blk_put (cs := #[.int .i64 0]) G6.out 0 _ rfl) 0 _ (by decide) (by decide)⟩, HH, ⟨by have := HK1.out; omega⟩, ⟨(by (with_reducible repeat (first | refine blk_drewN ?_ _ | refine blk_drew ?_ | refine blk_alloc ?_ _ | refine blk_far ?_ HNE6.out _)); exact G1.out)⟩, ⟨blk_put (cs := #[.int .i64 i]) (blk_put (cs := #[.int .i64 0]) G6.out 0 _ rfl) 0 _ rfl⟩, GE6, ⟨by simp [World.setCell]; exact HW4.out⟩, ⟨(by repeat (first | (with_reducible first | exact HB.out | apply bA | apply bN | apply bD | refine below_set ?_ GE6.out) | exact HB.out))⟩⟩
        ·rw [if_neg c5] at H
         exact absurd H (by simp)
     | false =>
      rw [if_neg (by simp)] at H
      simp only [Option.some.injEq, Prod.mk.injEq] at H
      obtain ⟨rfl, rfl⟩ := H
      go_wp2_with (first | (go_at_call 28; refine (mark_plain.calls (bt a0 i) false _ A6.out).mono ?_; rintro e w6 ⟨rfl, ⟨nd, hq⟩⟩; have n0_ := Aside0.mk ((by rw [hq]; exact (by repeat (first | (with_reducible first | exact HB.out | apply bA | apply bN | apply bD | refine below_set ?_ GE5.out) | exact HB.out))) : Below w.heap.size w w6); have n1_ := Aside0.mk ((by rw [hq]; exact (by (with_reducible repeat (first | refine kN ?_ _ | refine kD ?_ | refine kA ?_ _)); exact G1.out)) : w6.heap[g1]? = some (.cells #[.string a0] 9 (0, 0))); have n2_ := Aside0.mk ((by rw [hq]; exact (by (with_reducible repeat (first | refine Bl2.bld_drewN ?_ _ | refine Bl2.bld_alloc ?_ _)); exact BD.out)) : Bl2.Bd w6 w1.heap.size g4 o); have n3_ := Aside0.mk ((by rw [hq]; exact HW4.out) : w1.heap.size ≤ w6.heap.size); have n4_ := Aside0.mk ((by rw [hq]; exact (by (with_reducible repeat (first | refine kN ?_ _ | refine kD ?_ | refine kA ?_ _)); exact G5.out)) : w6.heap[g5]? = some (.cells #[.int .i64 i] 3 (0, 0))); clear HB G1 BD HW4 G5; have HB := n0_; have G1 := n1_; have BD := n2_; have HW4 := n3_; have G5 := n4_; clear n0_ n1_ n2_ n3_ n4_; clear hq z1 z5; have z1 : w6.cell? ⟨g1, 0, none⟩ = some (.string a0) := (blk_cell G1.out 0).trans rfl; have z5 : w6.cell? ⟨g5, 0, none⟩ = some (.int .i64 i) := (blk_cell G5.out 0).trans rfl))
      go_ret2
      exact ⟨by first | rfl | (simp; done) | (simp [*]; done), (by repeat (first | (with_reducible first | exact HB.out | apply bA | apply bN | apply bD) | exact HB.out))⟩
    ·rw [if_neg p1] at H
     exact absurd H (by simp)
   ·rw [if_neg c1] at H
    have c1b := decide_eq_false c1
    simp only [Option.some.injEq, Prod.mk.injEq] at H
    obtain ⟨rfl, rfl⟩ := H
    go_wp2_with (first | (go_at_call 33; refine (Bl2.bld_string BD.out HW4.out).mono ?_; rintro e w7 ⟨rfl, hb⟩; have n0_ := Aside0.mk (HB.out.trans (hb.mono HW.out)); clear HB; have HB := n0_; clear n0_ hb))
    go_ret2
    exact ⟨by first | rfl | (simp; done) | (simp [*]; done), (by repeat (first | (with_reducible first | exact HB.out | apply bA | apply bN | apply bD) | exact HB.out))⟩

def mark_attr.j0 : Nat → ByteArray → ByteArray → Bool → Option (ByteArray × ByteArray × ByteArray × Bool)
 | 0, _, _, _ => none
 | k + 1, x0, x5, x21 => if x21 = true then (some ((⟨#[]⟩ : ByteArray), (⟨#[]⟩ : ByteArray), (⟨#[]⟩ : ByteArray), false)) else (if 2 ≤ (x0.size : Int) then ((mark_cut_quote.f (x0.extract 2 x0.size)).bind fun bt114 => ((mark_meant.f k bt114.1).bind fun bt116 => (if bt116.2 = true then (if bt114.2.toList = ([] : List UInt8) then (some ((⟨#[]⟩ : ByteArray), (⟨#[]⟩ : ByteArray), (⟨#[]⟩ : ByteArray), false)) else (if 1 ≤ (bt114.2.size : Int) then (some (x5, bt116.1, bt114.2.extract 1 bt114.2.size, true)) else (none))) else (some ((⟨#[]⟩ : ByteArray), (⟨#[]⟩ : ByteArray), (⟨#[]⟩ : ByteArray), false))))) else (none))
def mark_attr.f (k : Nat) (a0 : ByteArray) : Option (ByteArray × ByteArray × ByteArray × Bool) := (mark_named.f a0).bind fun bt110 => (if bt110.2.2 = true then ((strings_HasPrefix.f bt110.2.1 (⟨#[61, 34]⟩ : ByteArray)).bind fun t113 => (mark_attr.j0 k bt110.2.1 bt110.1 (!t113))) else (mark_attr.j0 k bt110.2.1 bt110.1 true))
set_option maxRecDepth 100000 in
theorem mark_attr.mono_l : ∀ k, (∀ y0 y1 y2, LeO (mark_attr.j0 k y0 y1 y2) (mark_attr.j0 (k + 1) y0 y1 y2))
 | 0 => fun _ _ _ r h => by first | (cases h; done) | simp [mark_attr.j0] at h
 | k + 1 => by
  have ih0 := mark_attr.mono_l k
  ·intro y0 y1 y2
   unfold mark_attr.j0
   repeat' first
   | (with_reducible exact ih0 _ _ _)
   | (with_reducible exact mark_meant.mono _ _)
   | (with_reducible exact LeO.refl _)
   | (with_reducible exact LeO.none _)
   | (with_reducible refine LeO.ite ?_ ?_)
   | (with_reducible refine LeO.bind ?_ (fun _ => ?_))
   | exact ih0 _ _ _
   | exact mark_meant.mono _ _
   | exact LeO.none _
   | refine LeO.ite ?_ ?_
   | refine LeO.bind ?_ (fun _ => ?_)
set_option maxRecDepth 100000 in
theorem mark_attr.mono : ∀ a0 k, LeO (mark_attr.f k a0) (mark_attr.f (k + 1) a0) := by
 intro a0 k
 have ih0 := mark_attr.mono_l k
 unfold mark_attr.f
 repeat' first
   | (with_reducible exact ih0 _ _ _)
   | (with_reducible exact mark_meant.mono _ _)
   | (with_reducible exact LeO.refl _)
   | (with_reducible exact LeO.none _)
   | (with_reducible refine LeO.ite ?_ ?_)
   | (with_reducible refine LeO.bind ?_ (fun _ => ?_))
   | exact ih0 _ _ _
   | exact mark_meant.mono _ _
   | exact LeO.none _
   | refine LeO.ite ?_ ?_
   | refine LeO.bind ?_ (fun _ => ?_)
def mark_attr.T8 : Bool × List (List Nat × List Nat) := (true, [([], []), ([], []), ([0, 1], [0, 1]), ([], []), ([3], [3]), ([2, 0, 1, 2], [2]), ([4, 5, 0, 1, 2, 3, 4, 5], [4]), ([6, 0, 1, 2, 3, 4, 5, 6], [])])
def mark_attr.B8 : List Nat := [0, 0, 3, 0, 8, 7, 63, 127]
theorem mark_attr.tab8 : rtab .any (opsOf Tryd.f51 8) = mark_attr.T8 := by kernel_rfl
theorem mark_attr.bits8 : waitsOk mark_attr.T8.2 mark_attr.B8 = true := by kernel_rfl
set_option maxHeartbeats 8000000 in
set_option maxRecDepth 100000 in
theorem mark_attr.calls (k : Nat) (a0 : ByteArray) (r1 : ByteArray) (r2 : ByteArray) (r3 : ByteArray) (r4 : Bool) (w : World) (h : mark_attr.f k a0 = some (r1, r2, r3, r4)) (hT : Tabs.Tab w) :
  Calls Tryd.prog 51 #[.string a0] w fun e w' => e = .returned (.tuple #[.agg #[.string r1, .string r2], .string r3, .bool r4]) ∧ Below w.heap.size w w' := by
 have hu51 := Tryd.underlying51
 have HB := Aside0.mk (Below.refl w.heap.size w)
 have HT0 := Aside0.mk hT
 clear hT
 have H : ((mark_named.f a0).bind fun bt110 => (if bt110.2.2 = true then ((strings_HasPrefix.f bt110.2.1 (⟨#[61, 34]⟩ : ByteArray)).bind fun t113 => (mark_attr.j0 k bt110.2.1 bt110.1 (!t113))) else (mark_attr.j0 k bt110.2.1 bt110.1 true))) = some (r1, r2, r3, r4) := h
 clear h
 replace H := Option.bind_eq_some_iff.mp H
 obtain ⟨⟨t110, t111, t112⟩, A20, H⟩ := H
 replace H : (if t112 = true then ((strings_HasPrefix.f t111 (⟨#[61, 34]⟩ : ByteArray)).bind fun t113 => (mark_attr.j0 k t111 t110 (!t113))) else (mark_attr.j0 k t111 t110 true)) = some (r1, r2, r3, r4) := H
 have A2 := Aside0.mk A20
 clear A20
 have HC3 := Aside0.mk H
 clear H
 go_enter Tryd.func51, Tryd.ntmps51
 go_upto_region 2 with (first | ((with_reducible refine gate_dst (N := 2) rfl ?_); refine box_event ?hg (N := 2) ?hd (cs := #[.string (⟨#[]⟩ : ByteArray), .string (⟨#[]⟩ : ByteArray)]) (t := 51) ?hr ?_; (case hd => rfl); (case hg => rfl); (case hr => first | (go_simp; done) | (go_simp; rfl)); intro gb109 hg w4 hbox hb; have n0_ := Aside0.mk (below_step (by repeat (first | (with_reducible first | exact HB.out | apply bA | apply bN | apply bD) | exact HB.out)) hb); have n1_ := Aside0.mk (hbox); have n2_ := Aside0.mk ((by rw [hg]; exact (below_size (by repeat (first | (with_reducible first | exact HB.out | apply bA | apply bN | apply bD) | exact HB.out))) : w.heap.size ≤ gb109)); have n3_ := Aside0.mk ((by rw [hg]; exact (below_size (by repeat (first | (with_reducible first | exact HB.out | apply bA | apply bN | apply bD) | exact HB.out))) : w.heap.size ≤ gb109)); clear HB; have HB := n0_; have BK109 := n1_; have GW109 := n2_; have GE109 := n3_; clear n0_ n1_ n2_ n3_; clear hb hbox hg) | ((with_reducible refine gate_callee (f := 39) rfl ?_); refine goesL_ (some 11) rfl rfl Tryd.func39 (by kernel_rfl) rfl #[.string a0] rfl (by (try simp only [List.map_toArray, List.map_cons, List.map_nil]); first | done | rfl | (simp only [List.length_drop, List.length_take]; rfl)) ?_; (with_reducible refine (mark_named.calls a0 t110 t111 t112 _ A2.out).mono ?_); rintro e w5 ⟨rfl, hb⟩; refine ⟨_, rfl, ?_⟩; have n0_ := Aside0.mk (blk_below (g := gb109) (o := .cells #[.string (⟨#[]⟩ : ByteArray), .string (⟨#[]⟩ : ByteArray)] 51 (0, 0)) (by (with_reducible repeat (first | refine kN ?_ _ | refine kD ?_ | refine kA ?_ _)); exact BK109.out) hb); have n1_ := Aside0.mk (below_step (by repeat (first | (with_reducible first | exact HB.out | apply bA | apply bN | apply bD | refine below_set ?_ GE109.out) | exact HB.out)) hb); clear BK109; clear HB; have BK109 := n0_; have HB := n1_; clear n0_ n1_; (try clear hb); (try clear hb2); (try clear hk); (try clear hi)))
 (try simp only [Act.put, List.setIfInBounds_toArray, List.set_cons_zero, List.set_cons_succ])
 go_cut [21] (fun v21 wc => ∃ (kq : Nat) (x21_2 : Bool), v21 = .bool x21_2 ∧ Aside0 (mark_attr.j0 kq t111 t110 x21_2 = some (r1, r2, r3, r4)) ∧ Aside0 (kq ≤ k) ∧ Aside0 (wc.heap[gb109]? = some (.cells #[.string (⟨#[]⟩ : ByteArray), .string (⟨#[]⟩ : ByteArray)] 51 (0, 0))) ∧ Aside0 (Below w.heap.size w wc))
 case first =>
  have H := HC3.out
  clear HC3
  by_cases c6 : t112 = true
  ·subst c6
   have H1 : ((strings_HasPrefix.f t111 (⟨#[61, 34]⟩ : ByteArray)).bind fun t113 => (mark_attr.j0 k t111 t110 (!t113))) = some (r1, r2, r3, r4) := by rw [if_pos rfl] at H; exact H
   clear H
   have H := H1
   clear H1
   replace H := Option.bind_eq_some_iff.mp H
   obtain ⟨t113, A70, H⟩ := H
   replace H : (mark_attr.j0 k t111 t110 (!t113)) = some (r1, r2, r3, r4) := H
   have A7 := Aside0.mk A70
   clear A70
   have H' := Aside0.mk H
   clear H
   go_wp2_with (first | (go_at_call 50; (with_reducible refine (strings_HasPrefix.calls t111 (⟨#[61, 34]⟩ : ByteArray) t113 _ A7.out).mono ?_); rintro e w' ⟨rfl, ⟨nd, rfl⟩⟩))
   go_meet
   case rel => exact ⟨_, (!t113), (by first | rfl | (simp; done) | (simp [*]; done)), H', ⟨by first | omega | exact Nat.le_refl _⟩, ⟨by (with_reducible repeat (first | refine kN ?_ _ | refine kD ?_ | refine kA ?_ _)); exact BK109.out⟩, ⟨by repeat (first | (with_reducible first | exact HB.out | apply bA | apply bN | apply bD | refine below_set ?_ GE109.out) | exact HB.out)⟩⟩
  ·replace c6 := Bool.eq_false_iff.mpr c6
   subst c6
   have H1 : (mark_attr.j0 k t111 t110 true) = some (r1, r2, r3, r4) := by rw [if_neg (show ¬ (false = true) by decide)] at H; exact H
   clear H
   have H := H1
   clear H1
   have H' := Aside0.mk H
   clear H
   go_wp2
   go_meet
   case rel => exact ⟨_, (true), (by first | rfl | (simp; done) | (simp [*]; done)), H', ⟨by first | omega | exact Nat.le_refl _⟩, ⟨by (with_reducible repeat (first | refine kN ?_ _ | refine kD ?_ | refine kA ?_ _)); exact BK109.out⟩, ⟨by repeat (first | (with_reducible first | exact HB.out | apply bA | apply bN | apply bD | refine below_set ?_ GE109.out) | exact HB.out)⟩⟩
 case rest =>
  clear HC3
  try clear p2
  try clear c3
  try clear c5
  try clear c6
  obtain ⟨kq, x21_2, rfl, HA, HJ2, BK109, HB⟩ := hcut
  cases kq with
  | zero => exact absurd HA.out (by first | (intro h_; cases h_; done) | simp [mark_attr.j0])
  | succ kj2 =>
   have H := HA.out
   clear HA
   simp only [mark_attr.j0] at H
   by_cases c8 : x21_2 = true
   ·subst c8
    have H1 : (some ((⟨#[]⟩ : ByteArray), (⟨#[]⟩ : ByteArray), (⟨#[]⟩ : ByteArray), false)) = some (r1, r2, r3, r4) := by rw [if_pos rfl] at H; exact H
    clear H
    have H := H1
    clear H1
    simp only [Option.some.injEq, Prod.mk.injEq] at H
    obtain ⟨rfl, rfl, rfl, rfl⟩ := H
    have hcz9_0 : wc.cell? ⟨gb109, 0, none⟩ = some (.string (⟨#[]⟩ : ByteArray)) := (blk_cell BK109.out 0).trans rfl
    have hcz9_1 : wc.cell? ⟨gb109, 1, none⟩ = some (.string (⟨#[]⟩ : ByteArray)) := (blk_cell BK109.out 1).trans rfl
    have hfz9_0 := blk_frozen BK109.out 0
    have hfz9_1 := blk_frozen BK109.out 1
    go_wp2
    refine bodyPost_ret (results_ctt rfl _ _ gb109 51 #[.string (⟨#[]⟩ : ByteArray), .string (⟨#[]⟩ : ByteArray)] (0, 0) _ rfl (by (with_reducible repeat (first | refine kN ?_ _ | refine kD ?_ | refine kA ?_ _)); refine blk_put (cs := #[.string (⟨#[]⟩ : ByteArray), .string (⟨#[]⟩ : ByteArray)]) ?_ 1 _ rfl; (with_reducible repeat (first | refine kN ?_ _ | refine kD ?_ | refine kA ?_ _)); refine blk_put (cs := #[.string (⟨#[]⟩ : ByteArray), .string (⟨#[]⟩ : ByteArray)]) ?_ 0 _ rfl; (with_reducible repeat (first | refine kN ?_ _ | refine kD ?_ | refine kA ?_ _)); exact BK109.out) Tryd.underlying51 rfl (by kernel_rfl)) rfl ?_
    exact ⟨by first | rfl | (simp [errW_none, errW_some] <;> rfl) | (simp [*, errW_none, errW_some] <;> rfl), by repeat (first | (with_reducible first | exact HB.out | apply bA | apply bN | apply bD | refine below_set ?_ GE109.out) | exact HB.out)⟩
   ·replace c8 := Bool.eq_false_iff.mpr c8
    subst c8
    have H1 : (if 2 ≤ (t111.size : Int) then ((mark_cut_quote.f (t111.extract 2 t111.size)).bind fun bt114 => ((mark_meant.f kj2 bt114.1).bind fun bt116 => (if bt116.2 = true then (if bt114.2.toList = ([] : List UInt8) then (some ((⟨#[]⟩ : ByteArray), (⟨#[]⟩ : ByteArray), (⟨#[]⟩ : ByteArray), false)) else (if 1 ≤ (bt114.2.size : Int) then (some (t110, bt116.1, bt114.2.extract 1 bt114.2.size, true)) else (none))) else (some ((⟨#[]⟩ : ByteArray), (⟨#[]⟩ : ByteArray), (⟨#[]⟩ : ByteArray), false))))) else (none)) = some (r1, r2, r3, r4) := by rw [if_neg (show ¬ (false = true) by decide)] at H; exact H
    clear H
    have H := H1
    clear H1
    by_cases c10 : 2 ≤ (t111.size : Int)
    ·rw [if_pos c10] at H
     have c10b0 := eq_true c10
     have c10b1 : decide (2 ≤ (t111.size : Int)) = true := decide_eq_true c10
     clear c10
     replace H := Option.bind_eq_some_iff.mp H
     obtain ⟨⟨t114, t115⟩, A110, H⟩ := H
     replace H : ((mark_meant.f kj2 t114).bind fun bt116 => (if bt116.2 = true then (if t115.toList = ([] : List UInt8) then (some ((⟨#[]⟩ : ByteArray), (⟨#[]⟩ : ByteArray), (⟨#[]⟩ : ByteArray), false)) else (if 1 ≤ (t115.size : Int) then (some (t110, bt116.1, t115.extract 1 t115.size, true)) else (none))) else (some ((⟨#[]⟩ : ByteArray), (⟨#[]⟩ : ByteArray), (⟨#[]⟩ : ByteArray), false)))) = some (r1, r2, r3, r4) := H
     have A11 := Aside0.mk A110
     clear A110
     replace H := Option.bind_eq_some_iff.mp H
     obtain ⟨⟨t116, t117⟩, A120, H⟩ := H
     replace H : (if t117 = true then (if t115.toList = ([] : List UInt8) then (some ((⟨#[]⟩ : ByteArray), (⟨#[]⟩ : ByteArray), (⟨#[]⟩ : ByteArray), false)) else (if 1 ≤ (t115.size : Int) then (some (t110, t116, t115.extract 1 t115.size, true)) else (none))) else (some ((⟨#[]⟩ : ByteArray), (⟨#[]⟩ : ByteArray), (⟨#[]⟩ : ByteArray), false))) = some (r1, r2, r3, r4) := H
     have A12 := Aside0.mk A120
     clear A120
     by_cases c13 : t117 = true
     ·subst c13
      have H1 : (if t115.toList = ([] : List UInt8) then (some ((⟨#[]⟩ : ByteArray), (⟨#[]⟩ : ByteArray), (⟨#[]⟩ : ByteArray), false)) else (if 1 ≤ (t115.size : Int) then (some (t110, t116, t115.extract 1 t115.size, true)) else (none))) = some (r1, r2, r3, r4) := by rw [if_pos rfl] at H; exact H
      clear H
      have H := H1
      clear H1
      by_cases c14 : t115.toList = ([] : List UInt8)
      ·rw [if_pos c14] at H
       have c14b0 : (t115.toList == ([] : List UInt8)) = true := beq_iff_eq.mpr c14
       have c14b1 : (t115.toList != ([] : List UInt8)) = false := bne_eq_false_iff_eq.mpr c14
       clear c14
       simp only [Option.some.injEq, Prod.mk.injEq] at H
       obtain ⟨rfl, rfl, rfl, rfl⟩ := H
       go_wp2_with (first | ((with_reducible refine gate_callee (f := 41) rfl ?_); refine goesL_ (some 26) rfl rfl Tryd.func41 (by kernel_rfl) rfl #[.string (t111.extract 2 t111.size), .func (.func 57) #[] #[]] rfl (by (try simp only [List.map_toArray, List.map_cons, List.map_nil]); first | done | rfl | (simp only [List.length_drop, List.length_take]; rfl)) ?_; (with_reducible refine (mark_cut_quote.calls (t111.extract 2 t111.size) t114 t115 _ A11.out).mono ?_); rintro e w' ⟨rfl, ⟨nd, rfl⟩⟩; refine ⟨_, rfl, ?_⟩; (try (rw [drewN_self wc]; generalize hq_ : World.drewN wc _ = wc; have n0_ : Aside0 (wc.heap[gb109]? = some (.cells #[.string (⟨#[]⟩ : ByteArray), .string (⟨#[]⟩ : ByteArray)] 51 (0, 0))) := ⟨by rw [← hq_]; exact (by (with_reducible repeat (first | refine kN ?_ _ | refine kD ?_ | refine kA ?_ _)); exact BK109.out)⟩; have n1_ : Aside0 (Below w.heap.size w wc) := ⟨by rw [← hq_]; exact (by repeat (first | (with_reducible first | exact HB.out | apply bA | apply bN | apply bD | refine below_set ?_ GE109.out) | exact HB.out))⟩; clear BK109 HB hq_; have BK109 := n0_; have HB := n1_; clear n0_ n1_))) | ((with_reducible refine gate_callee (f := 43) rfl ?_); refine goesL_ (some 31) rfl rfl Tryd.func43 (by kernel_rfl) rfl #[.string t114] rfl (by (try simp only [List.map_toArray, List.map_cons, List.map_nil]); first | done | rfl | (simp only [List.length_drop, List.length_take]; rfl)) ?_; (with_reducible refine (mark_meant.calls kj2 t114 t116 true _ A12.out ?hT_).mono ?_); (case hT_ => exact Tabs.tab_below HT0.out (by repeat (first | (with_reducible first | exact HB.out | apply bA | apply bN | apply bD | refine below_set ?_ GE109.out) | exact HB.out))); rintro e w15 ⟨rfl, hb⟩; refine ⟨_, rfl, ?_⟩; have n0_ := Aside0.mk (blk_below (g := gb109) (o := .cells #[.string (⟨#[]⟩ : ByteArray), .string (⟨#[]⟩ : ByteArray)] 51 (0, 0)) (by (with_reducible repeat (first | refine kN ?_ _ | refine kD ?_ | refine kA ?_ _)); exact BK109.out) hb); have n1_ := Aside0.mk (below_step (by repeat (first | (with_reducible first | exact HB.out | apply bA | apply bN | apply bD | refine below_set ?_ GE109.out) | exact HB.out)) hb); clear BK109; clear HB; have BK109 := n0_; have HB := n1_; clear n0_ n1_; (try clear hb); (try clear hb2); (try clear hk); (try clear hi); have hcz16_0 : w15.cell? ⟨gb109, 0, none⟩ = some (.string (⟨#[]⟩ : ByteArray)) := (blk_cell BK109.out 0).trans rfl; have hcz16_1 : w15.cell? ⟨gb109, 1, none⟩ = some (.string (⟨#[]⟩ : ByteArray)) := (blk_cell BK109.out 1).trans rfl; have hfz16_0 := blk_frozen BK109.out 0; have hfz16_1 := blk_frozen BK109.out 1))
       refine bodyPost_ret (results_ctt rfl _ _ gb109 51 #[.string (⟨#[]⟩ : ByteArray), .string (⟨#[]⟩ : ByteArray)] (0, 0) _ rfl (by (with_reducible repeat (first | refine kN ?_ _ | refine kD ?_ | refine kA ?_ _)); refine blk_put (cs := #[.string (⟨#[]⟩ : ByteArray), .string (⟨#[]⟩ : ByteArray)]) ?_ 1 _ rfl; (with_reducible repeat (first | refine kN ?_ _ | refine kD ?_ | refine kA ?_ _)); refine blk_put (cs := #[.string (⟨#[]⟩ : ByteArray), .string (⟨#[]⟩ : ByteArray)]) ?_ 0 _ rfl; (with_reducible repeat (first | refine kN ?_ _ | refine kD ?_ | refine kA ?_ _)); exact BK109.out) Tryd.underlying51 rfl (by kernel_rfl)) rfl ?_
       exact ⟨by first | rfl | (simp [errW_none, errW_some] <;> rfl) | (simp [*, errW_none, errW_some] <;> rfl), by repeat (first | (with_reducible first | exact HB.out | apply bA | apply bN | apply bD | refine below_set ?_ GE109.out) | exact HB.out)⟩
      ·rw [if_neg c14] at H
       have c14b0 : (t115.toList == ([] : List UInt8)) = false := beq_eq_false_iff_ne.mpr c14
       have c14b1 : (t115.toList != ([] : List UInt8)) = true := bne_iff_ne.mpr c14
       by_cases c17 : 1 ≤ (t115.size : Int)
       ·rw [if_pos c17] at H
        have c17b0 := eq_true c17
        have c17b1 : decide (1 ≤ (t115.size : Int)) = true := decide_eq_true c17
        clear c17
        simp only [Option.some.injEq, Prod.mk.injEq] at H
        obtain ⟨rfl, rfl, rfl, rfl⟩ := H
        try go_wp2_with (first | ((with_reducible refine gate_callee (f := 41) rfl ?_); refine goesL_ (some 26) rfl rfl Tryd.func41 (by kernel_rfl) rfl #[.string (t111.extract 2 t111.size), .func (.func 57) #[] #[]] rfl (by (try simp only [List.map_toArray, List.map_cons, List.map_nil]); first | done | rfl | (simp only [List.length_drop, List.length_take]; rfl)) ?_; (with_reducible refine (mark_cut_quote.calls (t111.extract 2 t111.size) t114 t115 _ A11.out).mono ?_); rintro e w' ⟨rfl, ⟨nd, rfl⟩⟩; refine ⟨_, rfl, ?_⟩; (try (rw [drewN_self wc]; generalize hq_ : World.drewN wc _ = wc; have n0_ : Aside0 (wc.heap[gb109]? = some (.cells #[.string (⟨#[]⟩ : ByteArray), .string (⟨#[]⟩ : ByteArray)] 51 (0, 0))) := ⟨by rw [← hq_]; exact (by (with_reducible repeat (first | refine kN ?_ _ | refine kD ?_ | refine kA ?_ _)); exact BK109.out)⟩; have n1_ : Aside0 (Below w.heap.size w wc) := ⟨by rw [← hq_]; exact (by repeat (first | (with_reducible first | exact HB.out | apply bA | apply bN | apply bD | refine below_set ?_ GE109.out) | exact HB.out))⟩; clear BK109 HB hq_; have BK109 := n0_; have HB := n1_; clear n0_ n1_))) | ((with_reducible refine gate_callee (f := 43) rfl ?_); refine goesL_ (some 31) rfl rfl Tryd.func43 (by kernel_rfl) rfl #[.string t114] rfl (by (try simp only [List.map_toArray, List.map_cons, List.map_nil]); first | done | rfl | (simp only [List.length_drop, List.length_take]; rfl)) ?_; (with_reducible refine (mark_meant.calls kj2 t114 t116 true _ A12.out ?hT_).mono ?_); (case hT_ => exact Tabs.tab_below HT0.out (by repeat (first | (with_reducible first | exact HB.out | apply bA | apply bN | apply bD | refine below_set ?_ GE109.out) | exact HB.out))); rintro e w18 ⟨rfl, hb⟩; refine ⟨_, rfl, ?_⟩; have n0_ := Aside0.mk (blk_below (g := gb109) (o := .cells #[.string (⟨#[]⟩ : ByteArray), .string (⟨#[]⟩ : ByteArray)] 51 (0, 0)) (by (with_reducible repeat (first | refine kN ?_ _ | refine kD ?_ | refine kA ?_ _)); exact BK109.out) hb); have n1_ := Aside0.mk (below_step (by repeat (first | (with_reducible first | exact HB.out | apply bA | apply bN | apply bD | refine below_set ?_ GE109.out) | exact HB.out)) hb); clear BK109; clear HB; have BK109 := n0_; have HB := n1_; clear n0_ n1_; (try clear hb); (try clear hb2); (try clear hk); (try clear hi)))
        have n0_ := Aside0.mk (blk_drew BK109.out)
        have n1_ := Aside0.mk (below_drew1 HB.out)
        clear BK109
        clear HB
        have BK109 := n0_
        have HB := n1_
        clear n0_ n1_
        refine start_ (n := 8) (S := fun w' => True) (ds := []) #[false, false, false, false, false, false, false, false] (by kernel_rfl) rfl rfl trivial (fun hHeld => ?_); refine with_tabW mark_attr.tab8 mark_attr.bits8 (fun HT_ HW_ => ?_)
        generalize w18.drew = w19 at BK109 HB hHeld ⊢
        refine pure_ (i := 0) (N := some 41) (v := ?_) (a' := ?_) #[true, false, false, false, false, false, false, false] rfl rfl (any_of HT_.out (by kernel_rfl)) (fun _ _ _ h => h) (Or.inl ⟨by rfl, ?_⟩) ?_ ?_
        rotate_left
        ·intro w'
         go_simp
         with_reducible rfl
        rotate_left
        ·simp only [Act.put, List.setIfInBounds_toArray, List.set_cons_zero, List.set_cons_succ, i64_w, i32_w]
         rfl
        refine pure_ (i := 1) (N := some 42) (v := ?_) (a' := ?_) #[true, true, false, false, false, false, false, false] rfl rfl (any_of HT_.out (by kernel_rfl)) (fun _ _ _ h => h) (Or.inl ⟨by rfl, ?_⟩) ?_ ?_
        rotate_left
        ·intro w'
         go_simp
         with_reducible rfl
        rotate_left
        ·simp only [Act.put, List.setIfInBounds_toArray, List.set_cons_zero, List.set_cons_succ, i64_w, i32_w]
         rfl
        refine pure_ (i := 2) (N := some 43) (v := ?_) (a' := ?_) #[true, true, true, false, false, false, false, false] rfl rfl (any_of HT_.out (by kernel_rfl)) (fun _ _ _ h => h) (Or.inl ⟨by rfl, ?_⟩) ?_ ?_
        rotate_left
        ·intro w'
         go_simp
         with_reducible rfl
        rotate_left
        ·simp only [Act.put, List.setIfInBounds_toArray, List.set_cons_zero, List.set_cons_succ, i64_w, i32_w]
         rfl
        refine pure_ (i := 3) (N := some 44) (v := ?_) (a' := ?_) #[true, true, true, true, false, false, false, false] rfl rfl (any_of HT_.out (by kernel_rfl)) (fun _ _ _ h => h) (Or.inl ⟨by rfl, ?_⟩) ?_ ?_
        rotate_left
        ·intro w'
         go_simp
         with_reducible rfl
        rotate_left
        ·simp only [Act.put, List.setIfInBounds_toArray, List.set_cons_zero, List.set_cons_succ, i64_w, i32_w]
         rfl
        refine pure_ (i := 4) (N := some 45) (v := ?_) (a' := ?_) #[true, true, true, true, true, false, false, false] rfl rfl (any_of HT_.out (by kernel_rfl)) (fun _ _ _ h => h) (Or.inl ⟨by rfl, ?_⟩) ?_ ?_
        rotate_left
        ·intro w'
         go_simp
         with_reducible rfl
        rotate_left
        ·simp only [Act.put, List.setIfInBounds_toArray, List.set_cons_zero, List.set_cons_succ, i64_w, i32_w]
         rfl
        refine one_ (i := 5) (N := none) #[true, true, true, true, true, true, false, false] rfl rfl (one_of HT_.out (by kernel_rfl)) (by decide) (fun K hK => ?_)
        have hs20 : w19.cell? ⟨gb109, 0, none⟩ = some (.string (⟨#[]⟩ : ByteArray)) := (blk_cell BK109.out 0).trans rfl
        have hfs20 := blk_frozen BK109.out 0
        have hs21 : w19.cell? ⟨gb109, 1, none⟩ = some (.string (⟨#[]⟩ : ByteArray)) := (blk_cell BK109.out 1).trans rfl
        have hfs21 := blk_frozen BK109.out 1
        refine skip_ (w1 := ?_) (by rfl) rfl ?_ ?_
        rotate_left
        ·go_simp
         rfl
        refine hK.out _ _ trivial (fun hHeld => ?_)
        clear hK K
        refine pure_ (i := 6) (N := some 3) (v := ?_) (a' := ?_) #[true, true, true, true, true, true, true, false] rfl rfl (any_of HT_.out (by kernel_rfl)) (fun _ _ _ h => h) (Or.inl ⟨by rfl, ?_⟩) ?_ ?_
        rotate_left
        ·intro w'
         go_simp
         with_reducible rfl
        rotate_left
        ·simp only [Act.put, List.setIfInBounds_toArray, List.set_cons_zero, List.set_cons_succ, i64_w, i32_w]
         rfl
        refine pure_ (i := 7) (N := some 4) (v := ?_) (a' := ?_) #[true, true, true, true, true, true, true, true] rfl rfl (any_of HT_.out (by kernel_rfl)) (fun _ _ _ h => h) (Or.inl ⟨by rfl, ?_⟩) ?_ ?_
        rotate_left
        ·intro w'
         go_simp
         with_reducible rfl
        rotate_left
        ·simp only [Act.put, List.setIfInBounds_toArray, List.set_cons_zero, List.set_cons_succ, i64_w, i32_w]
         rfl
        refine done_ (done_of HT_.out (by kernel_rfl)) ?_
        try go_wp2
        refine bodyPost_ret (results_ctt rfl _ _ gb109 51 #[.string t110, .string t116] (0, 0) _ rfl (by (with_reducible repeat (first | refine kN ?_ _ | refine kD ?_ | refine kA ?_ _)); refine blk_put (cs := #[.string t110, .string (⟨#[]⟩ : ByteArray)]) ?_ 1 _ rfl; (with_reducible repeat (first | refine kN ?_ _ | refine kD ?_ | refine kA ?_ _)); refine blk_put (cs := #[.string (⟨#[]⟩ : ByteArray), .string (⟨#[]⟩ : ByteArray)]) ?_ 0 _ rfl; (with_reducible repeat (first | refine kN ?_ _ | refine kD ?_ | refine kA ?_ _)); exact BK109.out) Tryd.underlying51 rfl (by kernel_rfl)) rfl ?_
        exact ⟨by first | rfl | (simp [errW_none, errW_some] <;> rfl) | (simp [*, errW_none, errW_some] <;> rfl), by repeat (first | (with_reducible first | exact HB.out | apply bA | apply bN | apply bD | refine below_set ?_ GE109.out) | exact HB.out)⟩
       ·rw [if_neg c17] at H
        exact absurd H (by simp)
     ·replace c13 := Bool.eq_false_iff.mpr c13
      subst c13
      have H1 : (some ((⟨#[]⟩ : ByteArray), (⟨#[]⟩ : ByteArray), (⟨#[]⟩ : ByteArray), false)) = some (r1, r2, r3, r4) := by rw [if_neg (show ¬ (false = true) by decide)] at H; exact H
      clear H
      have H := H1
      clear H1
      simp only [Option.some.injEq, Prod.mk.injEq] at H
      obtain ⟨rfl, rfl, rfl, rfl⟩ := H
      go_wp2_with (first | ((with_reducible refine gate_callee (f := 41) rfl ?_); refine goesL_ (some 26) rfl rfl Tryd.func41 (by kernel_rfl) rfl #[.string (t111.extract 2 t111.size), .func (.func 57) #[] #[]] rfl (by (try simp only [List.map_toArray, List.map_cons, List.map_nil]); first | done | rfl | (simp only [List.length_drop, List.length_take]; rfl)) ?_; (with_reducible refine (mark_cut_quote.calls (t111.extract 2 t111.size) t114 t115 _ A11.out).mono ?_); rintro e w' ⟨rfl, ⟨nd, rfl⟩⟩; refine ⟨_, rfl, ?_⟩; (try (rw [drewN_self wc]; generalize hq_ : World.drewN wc _ = wc; have n0_ : Aside0 (wc.heap[gb109]? = some (.cells #[.string (⟨#[]⟩ : ByteArray), .string (⟨#[]⟩ : ByteArray)] 51 (0, 0))) := ⟨by rw [← hq_]; exact (by (with_reducible repeat (first | refine kN ?_ _ | refine kD ?_ | refine kA ?_ _)); exact BK109.out)⟩; have n1_ : Aside0 (Below w.heap.size w wc) := ⟨by rw [← hq_]; exact (by repeat (first | (with_reducible first | exact HB.out | apply bA | apply bN | apply bD | refine below_set ?_ GE109.out) | exact HB.out))⟩; clear BK109 HB hq_; have BK109 := n0_; have HB := n1_; clear n0_ n1_))) | ((with_reducible refine gate_callee (f := 43) rfl ?_); refine goesL_ (some 31) rfl rfl Tryd.func43 (by kernel_rfl) rfl #[.string t114] rfl (by (try simp only [List.map_toArray, List.map_cons, List.map_nil]); first | done | rfl | (simp only [List.length_drop, List.length_take]; rfl)) ?_; (with_reducible refine (mark_meant.calls kj2 t114 t116 false _ A12.out ?hT_).mono ?_); (case hT_ => exact Tabs.tab_below HT0.out (by repeat (first | (with_reducible first | exact HB.out | apply bA | apply bN | apply bD | refine below_set ?_ GE109.out) | exact HB.out))); rintro e w22 ⟨rfl, hb⟩; refine ⟨_, rfl, ?_⟩; have n0_ := Aside0.mk (blk_below (g := gb109) (o := .cells #[.string (⟨#[]⟩ : ByteArray), .string (⟨#[]⟩ : ByteArray)] 51 (0, 0)) (by (with_reducible repeat (first | refine kN ?_ _ | refine kD ?_ | refine kA ?_ _)); exact BK109.out) hb); have n1_ := Aside0.mk (below_step (by repeat (first | (with_reducible first | exact HB.out | apply bA | apply bN | apply bD | refine below_set ?_ GE109.out) | exact HB.out)) hb); clear BK109; clear HB; have BK109 := n0_; have HB := n1_; clear n0_ n1_; (try clear hb); (try clear hb2); (try clear hk); (try clear hi); have hcz23_0 : w22.cell? ⟨gb109, 0, none⟩ = some (.string (⟨#[]⟩ : ByteArray)) := (blk_cell BK109.out 0).trans rfl; have hcz23_1 : w22.cell? ⟨gb109, 1, none⟩ = some (.string (⟨#[]⟩ : ByteArray)) := (blk_cell BK109.out 1).trans rfl; have hfz23_0 := blk_frozen BK109.out 0; have hfz23_1 := blk_frozen BK109.out 1))
      refine bodyPost_ret (results_ctt rfl _ _ gb109 51 #[.string (⟨#[]⟩ : ByteArray), .string (⟨#[]⟩ : ByteArray)] (0, 0) _ rfl (by (with_reducible repeat (first | refine kN ?_ _ | refine kD ?_ | refine kA ?_ _)); refine blk_put (cs := #[.string (⟨#[]⟩ : ByteArray), .string (⟨#[]⟩ : ByteArray)]) ?_ 1 _ rfl; (with_reducible repeat (first | refine kN ?_ _ | refine kD ?_ | refine kA ?_ _)); refine blk_put (cs := #[.string (⟨#[]⟩ : ByteArray), .string (⟨#[]⟩ : ByteArray)]) ?_ 0 _ rfl; (with_reducible repeat (first | refine kN ?_ _ | refine kD ?_ | refine kA ?_ _)); exact BK109.out) Tryd.underlying51 rfl (by kernel_rfl)) rfl ?_
      exact ⟨by first | rfl | (simp [errW_none, errW_some] <;> rfl) | (simp [*, errW_none, errW_some] <;> rfl), by repeat (first | (with_reducible first | exact HB.out | apply bA | apply bN | apply bD | refine below_set ?_ GE109.out) | exact HB.out)⟩
    ·rw [if_neg c10] at H
     exact absurd H (by simp)

end Go.Proofs.YtdlblokojlhmbaaDoor.Q
