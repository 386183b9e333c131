import Derived.Test.YtdaeiicdpfghlaaDoorSx0
import Derived.Test.YtdaeiicdpfghlaaDoorSx2
namespace Go.Proofs.YtdaeiicdpfghlaaDoor.R
open Go.RowKit Go.Proofs.YtdaeiicdpfghlaaDoorW.PrintWords Go.Proofs.YtdaeiicdpfghlaaDoorW.PrintLast Go.Proofs.YtdaeiicdpfghlaaDoorW.PrintMore
attribute [local go_sem] max2_int min2_int max_two min_two max_three min_three max_four min_four   -- for this text's walks alone
set_option linter.unusedVariables false
set_option linter.unusedSimpArgs false

def term_typed.f : Nat → Int → Int → List S35 → Option Int
 | 0, _, _, _ => none
 | k + 1, op, n, l =>
  if op = 1 then some 1
  else if op = 2 then some 1
  else if 0 ≤ op then (if op < 15 then (slices_ContainsFunc_api_Term.f k l (fun x => (term_typed.f k x.f0 x.f1 x.f2).bind fun t => some (t != Words.of op.toNat))).bind fun b => some (if b = true then 0 else Words.out op.toNat) else none)
  else none
theorem term_typed.mono : ∀ a0 a1 a2 k, LeO (term_typed.f k a0 a1 a2) (term_typed.f (k + 1) a0 a1 a2)
 | _, _, _, 0 => fun r h => by cases h
 | a0, a1, a2, k + 1 => by
  unfold term_typed.f
  repeat' first
  | exact LeO.refl _
  | exact term_deep.cfup (fun x => LeO.bind (term_typed.mono _ _ _ k) (fun _ => LeO.refl _)) k a2
  | refine LeO.ite ?_ ?_
  | refine LeO.bind ?_ (fun _ => ?_)
set_option maxHeartbeats 8000000 in
set_option maxRecDepth 100000 in
theorem term_typed.clo {k : Nat} (ih : ∀ (a0_0 : Int) (a0_1 : Int) (A0_2 : Option Addr) (c0_2 : Nat) (l0_2 : List (S35)) (r : Int) (w : World) (hr0_2 : Kd.C k35 w A0_2 l0_2.length l0_2) (hc0_2 : l0_2.length ≤ c0_2) (h : term_typed.f k a0_0 a0_1 l0_2 = some r) (hT : Words.Tab w),
  Calls Tryd.prog 62 #[.agg #[.int .i64 a0_0, .int .i64 a0_1, .slice A0_2 l0_2.length c0_2]] w fun e w' => e = .returned (.int .i64 r) ∧ Below w.heap.size w w') {g : Nat} {s : ByteArray} {kd of out : Int} {w : World} (hG0 : w.heap[g]? = some (.cells #[.string s, .int .i64 kd, .int .i64 of, .int .i64 out] 78 (0, 0))) (hT : Words.Tab w) : FnOk70 68 #[.pointer (some ⟨g, 0, none⟩)] (fun x => (term_typed.f k x.f0 x.f1 x.f2).bind fun t => some (t != of)) w := by
 intro W x cs b hb0 hk hq
 have HT := zm (Words.tab_below hT hb0)
 have hG := blk_below hG0 hb0
 clear hb0 hT hG0
 obtain ⟨A2, c2, rfl, hl2, hg2⟩ := k35_open hk
 clear hk
 obtain ⟨b2, hq2, h2⟩ := Option.bind_eq_some_iff.mp hq
 obtain rfl := Option.some.inj h2
 clear h2 hq
 have hu := Tryd.underlying35
 have hu78 := Tryd.underlying78
 show Calls Tryd.prog 68 #[.agg #[.int .i64 x.f0, .int .i64 x.f1, .slice A2 x.f2.length c2], .pointer (some ⟨g, 0, none⟩)] W _
 go_enter Tryd.func68, Tryd.ntmps68
 go_wp2_with (first | ((with_reducible refine gate_dst (N := 2) rfl ?_); refine box_event ?hg (N := 2) ?hd (cs := #[.int .i64 x.f0, .int .i64 x.f1, .slice A2 x.f2.length c2]) (t := 35) ?hr ?_; (case hd => rfl); (case hg => rfl); (case hr => first | (go_simp; done) | (go_simp; rfl)); intro gb hg w2 hbox hb; have ygb0 : w2.cell? ⟨gb, 0, none⟩ = some (.int .i64 x.f0) := bc0 hbox; have ygb1 : w2.cell? ⟨gb, 1, none⟩ = some (.int .i64 x.f1) := bc1 hbox; have ygb2 : w2.cell? ⟨gb, 2, none⟩ = some (.slice A2 x.f2.length c2) := bc2 hbox; have zof : w2.cell? ⟨g, 2, none⟩ = some (.int .i64 of) := (blk_cell (blk_below hG hb) 2).trans rfl; have HB := zm hb; have HK := zm (Kd.C_below hg2 hb); have HT2 := zm (Words.tab_below HT.out hb); have G2 := zm hbox; have GG := zm (blk_below hG hb); clear hb hbox hg hG))
 go_region_held3 (fun w' => w'.cell? ⟨gb, 0, none⟩ = some (.int .i64 x.f0) ∧ w'.cell? ⟨gb, 1, none⟩ = some (.int .i64 x.f1) ∧ w'.cell? ⟨gb, 2, none⟩ = some (.slice A2 x.f2.length c2) ∧ w'.cell? ⟨g, 2, none⟩ = some (.int .i64 of))
  (first | exact ⟨bc0 G2.out, bc1 G2.out, bc2 G2.out, bc2 GG.out⟩ | exact ⟨(blk_cell (blk_drew G2.out) 0).trans rfl, (blk_cell (blk_drew G2.out) 1).trans rfl, (blk_cell (blk_drew G2.out) 2).trans rfl, (blk_cell (blk_drew GG.out) 2).trans rfl⟩)
  (first | (go_at_call 62; refine (ih x.f0 x.f1 A2 c2 x.f2 b2 _ (Kd.C_drew HK.out) hl2 hq2 (Words.tab_below HT2.out (below_drew1 (Below.refl _ _)))).mono ?_; rintro e w3 ⟨rfl, hb⟩; have n0_ := zm (below_step (below_drew1 HB.out) hb); have n1_ := zm (blk_below (blk_drew G2.out) hb); have n2_ := zm (blk_below (blk_drew GG.out) hb); clear HB G2 GG HK HT2; have HB := n0_; have G2 := n1_; have GG := n2_; clear n0_ n1_ n2_ hb))
 all_goals go_wp2
 all_goals go_ret
 all_goals exact ⟨by first | rfl | (simp; done) | (simp [*]; done), (bx HB.out)⟩
set_option maxHeartbeats 16000000 in
set_option maxRecDepth 100000 in
theorem term_typed.calls (k : Nat) : ∀ (a0_0 : Int) (a0_1 : Int) (A0_2 : Option Addr) (c0_2 : Nat) (l0_2 : List (S35)) (r : Int) (w : World) (hr0_2 : Kd.C k35 w A0_2 l0_2.length l0_2) (hc0_2 : l0_2.length ≤ c0_2) (h : term_typed.f k a0_0 a0_1 l0_2 = some r) (hT : Words.Tab w),
  Calls Tryd.prog 62 #[.agg #[.int .i64 a0_0, .int .i64 a0_1, .slice A0_2 l0_2.length c0_2]] w fun e w' => e = .returned (.int .i64 r) ∧ Below w.heap.size w w' := by
 induction k with
 | zero => intro _ _ _ _ _ _ _ _ _ h; cases h
 | succ k ih =>
 intro op n A0_2 c0_2 l0_2 r w hr0_2 hc0_2 h hT
 have IH := zm ih
 have HR := zm hr0_2
 have HC := zm hc0_2
 have HT := zm hT
 clear ih hr0_2 hc0_2 hT
 have hmf : ∀ (fn : Fn) (first cap : Array Value) (w : World), (Instr.makeFunc fn first cap).run Tryd.prog w = .ok (.func fn first cap) w := fun _ _ _ _ => rfl
 have hu := Tryd.underlying35
 have hu78 := Tryd.underlying78
 have hu79 := Tryd.underlying79
 unfold term_typed.f at h
 by_cases c1 : op = 1
 ·rw [if_pos c1] at h
  obtain rfl := Option.some.inj h
  clear h
  have c1b : (op == 1) = true := beq_iff_eq.mpr c1
  clear c1
  go_enter Tryd.func62, Tryd.ntmps62
  go_wp2_with (first | ((with_reducible refine gate_dst (N := 1) rfl ?_); refine box_event ?hg (N := 1) ?hd (cs := #[.int .i64 op, .int .i64 n, .slice A0_2 l0_2.length c0_2]) (t := 35) ?hr ?_; (case hd => rfl); (case hg => rfl); (case hr => first | (go_simp; done) | (go_simp; rfl)); intro gb hg w2 hbox hb; have ygb0 : w2.cell? ⟨gb, 0, none⟩ = some (.int .i64 op) := bc0 hbox; have ygb1 : w2.cell? ⟨gb, 1, none⟩ = some (.int .i64 n) := bc1 hbox; have ygb2 : w2.cell? ⟨gb, 2, none⟩ = some (.slice A0_2 l0_2.length c0_2) := bc2 hbox; have HB := zm hb; have G2 := zm hbox; clear hb hbox hg))
  all_goals go_ret
  all_goals exact ⟨by first | rfl | (simp; done) | (simp [*]; done) | (simp [*]; omega), (bx HB.out)⟩
 rw [if_neg c1] at h
 have c1b : (op == 1) = false := beq_eq_false_iff_ne.mpr c1
 by_cases c2 : op = 2
 ·rw [if_pos c2] at h
  obtain rfl := Option.some.inj h
  clear h c1
  have c2b : (op == 2) = true := beq_iff_eq.mpr c2
  clear c2
  go_enter Tryd.func62, Tryd.ntmps62
  go_wp2_with (first | ((with_reducible refine gate_dst (N := 1) rfl ?_); refine box_event ?hg (N := 1) ?hd (cs := #[.int .i64 op, .int .i64 n, .slice A0_2 l0_2.length c0_2]) (t := 35) ?hr ?_; (case hd => rfl); (case hg => rfl); (case hr => first | (go_simp; done) | (go_simp; rfl)); intro gb hg w2 hbox hb; have ygb0 : w2.cell? ⟨gb, 0, none⟩ = some (.int .i64 op) := bc0 hbox; have ygb1 : w2.cell? ⟨gb, 1, none⟩ = some (.int .i64 n) := bc1 hbox; have ygb2 : w2.cell? ⟨gb, 2, none⟩ = some (.slice A0_2 l0_2.length c0_2) := bc2 hbox; have HB := zm hb; have G2 := zm hbox; clear hb hbox hg))
  all_goals go_ret
  all_goals exact ⟨by first | rfl | (simp; done) | (simp [*]; done) | (simp [*]; omega), (bx HB.out)⟩
 rw [if_neg c2] at h
 have c2b : (op == 2) = false := beq_eq_false_iff_ne.mpr c2
 clear c1 c2
 by_cases c3 : 0 ≤ op
 rotate_left
 ·rw [if_neg c3] at h; cases h
 rw [if_pos c3] at h
 by_cases c4 : op < 15
 rotate_left
 ·rw [if_neg c4] at h; cases h
 rw [if_pos c4] at h
 have HOP := zm (show op.toNat < 15 by omega)
 have p0 := eq_true c3
 have q0 := eq_true c4
 clear c3 c4
 obtain ⟨b2, h1, h2⟩ := Option.bind_eq_some_iff.mp h
 obtain rfl := Option.some.inj h2
 clear h2 h
 have H := zm h1
 clear h1
 go_enter Tryd.func62, Tryd.ntmps62
 go_wp2_with (first | ((with_reducible refine gate_dst (N := 1) rfl ?_); refine box_event ?hg (N := 1) ?hd (cs := #[.int .i64 op, .int .i64 n, .slice A0_2 l0_2.length c0_2]) (t := 35) ?hr ?_; (case hd => rfl); (case hg => rfl); (case hr => first | (go_simp; done) | (go_simp; rfl)); intro gb hg w2 hbox hb; have ygb0 : w2.cell? ⟨gb, 0, none⟩ = some (.int .i64 op) := bc0 hbox; have ygb1 : w2.cell? ⟨gb, 1, none⟩ = some (.int .i64 n) := bc1 hbox; have ygb2 : w2.cell? ⟨gb, 2, none⟩ = some (.slice A0_2 l0_2.length c0_2) := bc2 hbox; have HB := zm hb; have G2 := zm hbox; have yA : ∀ o, (World.alloc w2 o).cell? ⟨gb, 2, none⟩ = some (.slice A0_2 l0_2.length c0_2) := (fun o => (blk_cell (blk_alloc hbox o) 2).trans rfl); have z0 := (Words.tab_below HT.out hb op.toNat HOP.out).1; have z1 := (Words.tab_below HT.out hb op.toNat HOP.out).2.1; have z2 := (Words.tab_below HT.out hb op.toNat HOP.out).2.2.1; have z3 := (Words.tab_below HT.out hb op.toNat HOP.out).2.2.2; clear hb hbox hg) | (go_at_call 67; refine (slices_ContainsFunc_api_Term.calls k A0_2 c0_2 l0_2 68 _ _ b2 _ (Kd.C_alloc (Kd.C_below HR.out HB.out) _) HC.out (fun args_ w_ => enters_ Tryd.func68 (by kernel_rfl) rfl args_ w_) (term_typed.clo IH.out (w := World.alloc w2 (.cells #[.string (Words.txt op.toNat), .int .i64 (Words.kids op.toNat), .int .i64 (Words.of op.toNat), .int .i64 (Words.out op.toNat)] 78)) (g := w2.heap.size) (blk_new _ _) (Words.tab_below HT.out (below_alloc HB.out _))) H.out).mono ?_; rintro e w4 ⟨rfl, hb⟩; have n0_ := zm (below_step (below_alloc HB.out _) hb); have zw : w4.cell? ⟨w2.heap.size, 3, none⟩ = some (.int .i64 (Words.out op.toNat)) := (blk_cell (kB (g := w2.heap.size) (o := .cells #[.string (Words.txt op.toNat), .int .i64 (Words.kids op.toNat), .int .i64 (Words.of op.toNat), .int .i64 (Words.out op.toNat)] 78 (0, 0)) (blk_new _ _) hb) 3).trans rfl; clear HB; have HB := n0_; clear n0_ hb))
 all_goals go_ret
 all_goals exact ⟨by first | rfl | (simp; done) | (simp [*]; done) | (simp [*]; omega), (bx HB.out)⟩

def term_Check.f (k : Nat) (a0_0 : Int) (a0_1 : Int) (l0_2 : List (S35)) : Option (Int × Int) := (term_wrong.f k a0_0 a0_1 l0_2).bind fun t136 => (if t136 = 0 then ((term_typed.f k a0_0 a0_1 l0_2).bind fun t137 => (if t137 = 0 then (some (0, 30)) else (some (t137, 0)))) else (some (0, t136)))
set_option maxRecDepth 100000 in
theorem term_Check.mono : ∀ a0 a1 a2 k, LeO (term_Check.f k a0 a1 a2) (term_Check.f (k + 1) a0 a1 a2) := by
 intro a0 a1 a2 k
 unfold term_Check.f
 repeat' first
 | (with_reducible exact term_typed.mono _ _ _ _)
 | (with_reducible exact term_wrong.mono _ _ _ _)
 | (with_reducible exact LeO.refl _)
 | (with_reducible exact LeO.none _)
 | (with_reducible refine LeO.ite ?_ ?_)
 | (with_reducible refine LeO.bind ?_ (fun _ => ?_))
 | refine LeO.ite ?_ ?_
 | refine LeO.bind ?_ (fun _ => ?_)
set_option maxHeartbeats 8000000 in
set_option maxRecDepth 100000 in
theorem term_Check.calls (k : Nat) (a0_0 : Int) (a0_1 : Int) (A0_2 : Option Addr) (c0_2 : Nat) (l0_2 : List (S35)) (r1 : Int) (r2 : Int) (w : World) (hr0_2 : Kd.C k35 w A0_2 l0_2.length l0_2) (hc0_2 : l0_2.length ≤ c0_2) (h : term_Check.f k a0_0 a0_1 l0_2 = some (r1, r2)) (hT : Words.Tab w) :
  Calls Tryd.prog 57 #[.agg #[.int .i64 a0_0, .int .i64 a0_1, .slice A0_2 l0_2.length c0_2]] w fun e w' => e = .returned (.tuple #[.int .i64 r1, .int .i64 r2]) ∧ Below w.heap.size w w' := by
 have hu35 := Tryd.underlying35
 have HR0_2 := zm hr0_2
 have HC0_2 := zm hc0_2
 clear hr0_2 hc0_2
 have HB := zm (Below.refl w.heap.size w)
 have HT0 := zm hT
 clear hT
 have H : ((term_wrong.f k a0_0 a0_1 l0_2).bind fun t136 => (if t136 = 0 then ((term_typed.f k a0_0 a0_1 l0_2).bind fun t137 => (if t137 = 0 then (some (0, 30)) else (some (t137, 0)))) else (some (0, t136)))) = some (r1, r2) := h
 clear h
 replace H := Option.bind_eq_some_iff.mp H
 obtain ⟨t136, A20, H⟩ := H
 replace H : (if t136 = 0 then ((term_typed.f k a0_0 a0_1 l0_2).bind fun t137 => (if t137 = 0 then (some (0, 30)) else (some (t137, 0)))) else (some (0, t136))) = some (r1, r2) := H
 have A2 := zm A20
 clear A20
 have HC3 := zm H
 clear H
 go_enter Tryd.func57, Tryd.ntmps57
 go_upto_if 9 with (first | ((with_reducible refine gate_dst (N := 1) rfl ?_); refine box_event ?hg (N := 1) ?hd (cs := #[.int .i64 a0_0, .int .i64 a0_1, .slice A0_2 l0_2.length c0_2]) (t := 35) ?hr ?_; (case hd => rfl); (case hg => rfl); (case hr => first | (go_simp; done) | (go_simp; rfl)); intro gb135 hg w4 hbox hb; have BK135 := zm (hbox); have GW135 := zm ((by rw [hg]; exact (below_size (bx HB.out)) : w.heap.size ≤ gb135)); have GE135 := zm ((by rw [hg]; exact (below_size (bx HB.out)) : w.heap.size ≤ gb135)); replace HB := zm (below_step (bx HB.out) hb); clear hb hbox hg; have hcz5_0 := bc0 BK135.out; have hcz5_1 := bc1 BK135.out; have hcz5_2 := bc2 BK135.out) | ((with_reducible refine gate_callee (f := 61) rfl ?_); refine goesL_ (some 7) rfl rfl Tryd.func61 (by kernel_rfl) rfl #[.agg #[.int .i64 a0_0, .int .i64 a0_1, .slice A0_2 l0_2.length c0_2]] rfl ag ?_; (with_reducible refine (term_wrong.calls k a0_0 a0_1 _ _ l0_2 t136 _ ?side1 HC0_2.out A2.out ?hT_).mono ?_); (case hT_ => exact Words.tab_below HT0.out (bx HB.out)); (case side1 => exact cx (Kd.C_below HR0_2.out HB.out)); rintro e w6 ⟨rfl, hb⟩; refine ⟨_, rfl, ?_⟩; replace BK135 := zm (kB (kx BK135.out) hb); replace HB := zm (below_step (bx HB.out) hb); (try clear hb)))
 have H := HC3.out
 clear HC3
 by_cases c7 : t136 = 0
 ·rw [if_pos c7] at H
  have c7b0 := beq_iff_eq.mpr c7
  have c7b1 := bne_eq_false_iff_eq.mpr c7
  clear c7
  (first | rw [c7b0] | (simp only [i64_w, i32_w]; rw [c7b0]) | rw [c7b1] | skip)
  replace H := Option.bind_eq_some_iff.mp H
  obtain ⟨t137, A80, H⟩ := H
  replace H : (if t137 = 0 then (some (0, 30)) else (some (t137, 0))) = some (r1, r2) := H
  have A8 := zm A80
  clear A80
  have HC9 := zm H
  clear H
  have hcz10_0 := bc0 BK135.out
  have hcz10_1 := bc1 BK135.out
  have hcz10_2 := bc2 BK135.out
  go_upto_if 14 with (first | ((with_reducible refine gate_callee (f := 62) rfl ?_); refine goesL_ (some 12) rfl rfl Tryd.func62 (by kernel_rfl) rfl #[.agg #[.int .i64 a0_0, .int .i64 a0_1, .slice A0_2 l0_2.length c0_2]] rfl ag ?_; (with_reducible refine (term_typed.calls k a0_0 a0_1 _ _ l0_2 t137 _ ?side1 HC0_2.out A8.out ?hT_).mono ?_); (case hT_ => exact Words.tab_below HT0.out (bx HB.out)); (case side1 => exact cx (Kd.C_below HR0_2.out HB.out)); rintro e w11 ⟨rfl, hb⟩; refine ⟨_, rfl, ?_⟩; replace BK135 := zm (kB (kx BK135.out) hb); replace HB := zm (below_step (bx HB.out) hb); (try clear hb)))
  have H := HC9.out
  clear HC9
  by_cases c12 : t137 = 0
  ·rw [if_pos c12] at H
   have c12b0 := beq_iff_eq.mpr c12
   have c12b1 := bne_eq_false_iff_eq.mpr c12
   clear c12
   (first | rw [c12b0] | (simp only [i64_w, i32_w]; rw [c12b0]) | rw [c12b1] | skip)
   simp only [Option.some.injEq, Prod.mk.injEq] at H
   obtain ⟨rfl, rfl⟩ := H
   go_wp2
   go_ret2
   exact ⟨xe, bx HB.out⟩
  rw [if_neg c12] at H
  have c12b0 := beq_eq_false_iff_ne.mpr c12
  have c12b1 := bne_iff_ne.mpr c12
  (first | rw [c12b0] | (simp only [i64_w, i32_w]; rw [c12b0]) | rw [c12b1] | skip)
  simp only [Option.some.injEq, Prod.mk.injEq] at H
  obtain ⟨rfl, rfl⟩ := H
  go_wp2
  go_ret2
  exact ⟨xe, bx HB.out⟩
 rw [if_neg c7] at H
 have c7b0 := beq_eq_false_iff_ne.mpr c7
 have c7b1 := bne_iff_ne.mpr c7
 (first | rw [c7b0] | (simp only [i64_w, i32_w]; rw [c7b0]) | rw [c7b1] | skip)
 simp only [Option.some.injEq, Prod.mk.injEq] at H
 obtain ⟨rfl, rfl⟩ := H
 go_wp2
 go_ret2
 exact ⟨xe, bx HB.out⟩

def net_of.f (k : Nat) (a0_0 : Int) (a0_1 : Int) (l0_2 : List (S35)) (a1 : Int) : Option (Bool) := (term_Check.f k a0_0 a0_1 l0_2).bind fun bt139 => (if bt139.2 = 0 then (some (bt139.1 == a1)) else (some false))
set_option maxRecDepth 100000 in
theorem net_of.mono : ∀ a0 a1 a2 a3 k, LeO (net_of.f k a0 a1 a2 a3) (net_of.f (k + 1) a0 a1 a2 a3) := by
 intro a0 a1 a2 a3 k
 unfold net_of.f
 repeat' first
 | (with_reducible exact term_Check.mono _ _ _ _)
 | (with_reducible exact LeO.refl _)
 | (with_reducible exact LeO.none _)
 | (with_reducible refine LeO.ite ?_ ?_)
 | (with_reducible refine LeO.bind ?_ (fun _ => ?_))
 | refine LeO.ite ?_ ?_
 | refine LeO.bind ?_ (fun _ => ?_)
set_option maxHeartbeats 8000000 in
set_option maxRecDepth 100000 in
theorem net_of.calls (k : Nat) (a0_0 : Int) (a0_1 : Int) (A0_2 : Option Addr) (c0_2 : Nat) (l0_2 : List (S35)) (a1 : Int) (r : Bool) (w : World) (hr0_2 : Kd.C k35 w A0_2 l0_2.length l0_2) (hc0_2 : l0_2.length ≤ c0_2) (h : net_of.f k a0_0 a0_1 l0_2 a1 = some r) (hT : Words.Tab w) :
  Calls Tryd.prog 51 #[.agg #[.int .i64 a0_0, .int .i64 a0_1, .slice A0_2 l0_2.length c0_2], .int .i64 a1] w fun e w' => e = .returned (.bool r) ∧ Below w.heap.size w w' := by
 have hu35 := Tryd.underlying35
 have HR0_2 := zm hr0_2
 have HC0_2 := zm hc0_2
 clear hr0_2 hc0_2
 have HB := zm (Below.refl w.heap.size w)
 have HT0 := zm hT
 clear hT
 have H : ((term_Check.f k a0_0 a0_1 l0_2).bind fun bt139 => (if bt139.2 = 0 then (some (bt139.1 == a1)) else (some false))) = some r := h
 clear h
 replace H := Option.bind_eq_some_iff.mp H
 obtain ⟨⟨t139, t140⟩, A30, H⟩ := H
 replace H : (if t140 = 0 then (some (t139 == a1)) else (some false)) = some r := H
 have A3 := zm A30
 clear A30
 have HC4 := zm H
 clear H
 go_enter Tryd.func51, Tryd.ntmps51
 go_upto_region 2 with (first | ((with_reducible refine gate_dst (N := 2) rfl ?_); refine box_event ?hg (N := 2) ?hd (cs := #[.int .i64 a0_0, .int .i64 a0_1, .slice A0_2 l0_2.length c0_2]) (t := 35) ?hr ?_; (case hd => rfl); (case hg => rfl); (case hr => first | (go_simp; done) | (go_simp; rfl)); intro gb138 hg w5 hbox hb; have BK138 := zm (hbox); have GW138 := zm ((by rw [hg]; exact (below_size (bx HB.out)) : w.heap.size ≤ gb138)); have GE138 := zm ((by rw [hg]; exact (below_size (bx HB.out)) : w.heap.size ≤ gb138)); replace HB := zm (below_step (bx HB.out) hb); clear hb hbox hg; have hcz6_0 := bc0 BK138.out; have hcz6_1 := bc1 BK138.out; have hcz6_2 := bc2 BK138.out) | ((with_reducible refine gate_callee (f := 57) rfl ?_); refine goesL_ (some 9) rfl rfl Tryd.func57 (by kernel_rfl) rfl #[.agg #[.int .i64 a0_0, .int .i64 a0_1, .slice A0_2 l0_2.length c0_2]] rfl ag ?_; (with_reducible refine (term_Check.calls k a0_0 a0_1 _ _ l0_2 t139 t140 _ ?side1 HC0_2.out A3.out ?hT_).mono ?_); (case hT_ => exact Words.tab_below HT0.out (bx HB.out)); (case side1 => exact cx (Kd.C_below HR0_2.out HB.out)); rintro e w7 ⟨rfl, hb⟩; refine ⟨_, rfl, ?_⟩; replace BK138 := zm (kB (kx BK138.out) hb); replace HB := zm (below_step (bx HB.out) hb); (try clear hb)))
 have H := HC4.out
 clear HC4
 by_cases c8 : t140 = 0
 ·rw [if_pos c8] at H
  have c8b0 := beq_iff_eq.mpr c8
  have c8b1 := bne_eq_false_iff_eq.mpr c8
  clear c8
  obtain rfl := Option.some.inj H
  go_wp2
  go_ret
  exact ⟨xe, bx HB.out⟩
 rw [if_neg c8] at H
 have c8b0 := beq_eq_false_iff_ne.mpr c8
 have c8b1 := bne_iff_ne.mpr c8
 obtain rfl := Option.some.inj H
 go_wp2
 go_ret
 exact ⟨xe, bx HB.out⟩

def net_none.f (a0_0 : Int) (a0_1 : Int) (l0_2 : List (S35)) : Option (Bool) := if a0_0 = 0 then (if a0_1 = 0 then (some ((l0_2.length : Int) == 0)) else (some false)) else (some false)
set_option maxHeartbeats 8000000 in
set_option maxRecDepth 100000 in
theorem net_none.calls (a0_0 : Int) (a0_1 : Int) (A0_2 : Option Addr) (c0_2 : Nat) (l0_2 : List (S35)) (r : Bool) (w : World) (hr0_2 : Kd.C k35 w A0_2 l0_2.length l0_2) (hc0_2 : l0_2.length ≤ c0_2) (h : net_none.f a0_0 a0_1 l0_2 = some r) :
  Calls Tryd.prog 52 #[.agg #[.int .i64 a0_0, .int .i64 a0_1, .slice A0_2 l0_2.length c0_2]] w fun e w' => e = .returned (.bool r) ∧ Below w.heap.size w w' := by
 have hu35 := Tryd.underlying35
 have HR0_2 := zm hr0_2
 have HC0_2 := zm hc0_2
 clear hr0_2 hc0_2
 have HB := zm (Below.refl w.heap.size w)
 have H : (if a0_0 = 0 then (if a0_1 = 0 then (some ((l0_2.length : Int) == 0)) else (some false)) else (some false)) = some r := h
 clear h
 have HC2 := zm H
 clear H
 go_enter Tryd.func52, Tryd.ntmps52
 go_upto_region 1 with (first | ((with_reducible refine gate_dst (N := 1) rfl ?_); (try (refine gate_guard (by rfl) ?_; dsimp only)); refine box_event ?hg (N := 1) ?hd (cs := #[.int .i64 a0_0, .int .i64 a0_1, .slice A0_2 l0_2.length c0_2]) (t := 35) ?hr ?_; (case hd => rfl); (case hg => rfl); (case hr => first | (go_simp; done) | (go_simp; rfl)); intro gb141 hg w3 hbox hb; have BK141 := zm (hbox); have GW141 := zm ((by rw [hg]; exact (below_size (bx HB.out)) : w.heap.size ≤ gb141)); have GE141 := zm ((by rw [hg]; exact (below_size (bx HB.out)) : w.heap.size ≤ gb141)); replace HB := zm (below_step (bx HB.out) hb); clear hb hbox hg))
 have H := HC2.out
 clear HC2
 by_cases c4 : a0_0 = 0
 ·rw [if_pos c4] at H
  have c4b0 := beq_iff_eq.mpr c4
  have c4b1 := bne_eq_false_iff_eq.mpr c4
  clear c4
  by_cases c5 : a0_1 = 0
  ·rw [if_pos c5] at H
   have c5b0 := beq_iff_eq.mpr c5
   have c5b1 := bne_eq_false_iff_eq.mpr c5
   clear c5
   obtain rfl := Option.some.inj H
   have hcz6_0 := bc0 BK141.out
   have hcz6_1 := bc1 BK141.out
   have hcz6_2 := bc2 BK141.out
   go_wp2
   go_ret
   exact ⟨xe, bx HB.out⟩
  rw [if_neg c5] at H
  have c5b0 := beq_eq_false_iff_ne.mpr c5
  have c5b1 := bne_iff_ne.mpr c5
  obtain rfl := Option.some.inj H
  have hcz7_0 := bc0 BK141.out
  have hcz7_1 := bc1 BK141.out
  have hcz7_2 := bc2 BK141.out
  go_wp2
  go_ret
  exact ⟨xe, bx HB.out⟩
 rw [if_neg c4] at H
 have c4b0 := beq_eq_false_iff_ne.mpr c4
 have c4b1 := bne_iff_ne.mpr c4
 obtain rfl := Option.some.inj H
 have hcz8_0 := bc0 BK141.out
 have hcz8_1 := bc1 BK141.out
 have hcz8_2 := bc2 BK141.out
 go_wp2
 go_ret
 exact ⟨xe, bx HB.out⟩

def net_right.f (k : Nat) (a0_0 : Int) (a0_1 : Int) (a0_2 : Int) (a0_3 : Int) (l0_4 : List (S35)) : Option (Bool) := if a0_0 = 4 then ((net_of.f k a0_2 a0_3 l0_4 1).bind fun t146 => (if t146 = true then (if a0_0 ≥ 1 then (if a0_0 ≤ 8 then (if a0_1 ≥ 0 then (if a0_1 ≤ 3 then ((net_none.f 0 0 ([] : List (S35))).bind fun t147 => (some t147)) else (some false)) else (some false)) else (some false)) else (some false)) else (some false))) else (if a0_0 = 3 then (if a0_0 ≥ 1 then (if a0_0 ≤ 8 then (if a0_1 ≥ 0 then (if a0_1 ≤ 3 then ((net_none.f a0_2 a0_3 l0_4).bind fun t143 => (some t143)) else (some false)) else (some false)) else (some false)) else (some false)) else (if a0_0 = 8 then (if a0_0 ≥ 1 then (if a0_0 ≤ 8 then (if a0_1 ≥ 0 then (if a0_1 ≤ 4 then ((net_none.f a0_2 a0_3 l0_4).bind fun t144 => (some t144)) else (some false)) else (some false)) else (some false)) else (some false)) else (if a0_0 ≥ 1 then (if a0_0 ≤ 8 then (if a0_1 ≥ 0 then (if a0_1 ≤ 0 then ((net_none.f a0_2 a0_3 l0_4).bind fun t145 => (some t145)) else (some false)) else (some false)) else (some false)) else (some false))))
set_option maxRecDepth 100000 in
theorem net_right.mono : ∀ a0 a1 a2 a3 a4 k, LeO (net_right.f k a0 a1 a2 a3 a4) (net_right.f (k + 1) a0 a1 a2 a3 a4) := by
 intro a0 a1 a2 a3 a4 k
 unfold net_right.f
 repeat' first
 | (with_reducible exact net_of.mono _ _ _ _ _)
 | (with_reducible exact LeO.refl _)
 | (with_reducible exact LeO.none _)
 | (with_reducible refine LeO.ite ?_ ?_)
 | (with_reducible refine LeO.bind ?_ (fun _ => ?_))
 | refine LeO.ite ?_ ?_
 | refine LeO.bind ?_ (fun _ => ?_)
set_option maxHeartbeats 8000000 in
set_option maxRecDepth 100000 in
theorem net_right.calls (k : Nat) (a0_0 : Int) (a0_1 : Int) (a0_2 : Int) (a0_3 : Int) (A0_4 : Option Addr) (c0_4 : Nat) (l0_4 : List (S35)) (r : Bool) (w : World) (hr0_4 : Kd.C k35 w A0_4 l0_4.length l0_4) (hc0_4 : l0_4.length ≤ c0_4) (h : net_right.f k a0_0 a0_1 a0_2 a0_3 l0_4 = some r) (hT : Words.Tab w) :
  Calls Tryd.prog 39 #[.agg #[.int .i64 a0_0, .int .i64 a0_1, .int .i64 a0_2, .int .i64 a0_3, .slice A0_4 l0_4.length c0_4]] w fun e w' => e = .returned (.bool r) ∧ Below w.heap.size w w' := by
 have hu37 := Tryd.underlying37
 have hu35 := Tryd.underlying35
 have HR0_4 := zm hr0_4
 have HC0_4 := zm hc0_4
 clear hr0_4 hc0_4
 have HB := zm (Below.refl w.heap.size w)
 have HT0 := zm hT
 clear hT
 have H : (if a0_0 = 4 then ((net_of.f k a0_2 a0_3 l0_4 1).bind fun t146 => (if t146 = true then (if a0_0 ≥ 1 then (if a0_0 ≤ 8 then (if a0_1 ≥ 0 then (if a0_1 ≤ 3 then ((net_none.f 0 0 ([] : List (S35))).bind fun t147 => (some t147)) else (some false)) else (some false)) else (some false)) else (some false)) else (some false))) else (if a0_0 = 3 then (if a0_0 ≥ 1 then (if a0_0 ≤ 8 then (if a0_1 ≥ 0 then (if a0_1 ≤ 3 then ((net_none.f a0_2 a0_3 l0_4).bind fun t143 => (some t143)) else (some false)) else (some false)) else (some false)) else (some false)) else (if a0_0 = 8 then (if a0_0 ≥ 1 then (if a0_0 ≤ 8 then (if a0_1 ≥ 0 then (if a0_1 ≤ 4 then ((net_none.f a0_2 a0_3 l0_4).bind fun t144 => (some t144)) else (some false)) else (some false)) else (some false)) else (some false)) else (if a0_0 ≥ 1 then (if a0_0 ≤ 8 then (if a0_1 ≥ 0 then (if a0_1 ≤ 0 then ((net_none.f a0_2 a0_3 l0_4).bind fun t145 => (some t145)) else (some false)) else (some false)) else (some false)) else (some false))))) = some r := h
 clear h
 have HC2 := zm H
 clear H
 go_enter Tryd.func39, Tryd.ntmps39
 go_upto_block 0 with (first | ((with_reducible refine gate_dst (N := 1) rfl ?_); refine box_event ?hg (N := 1) ?hd (cs := #[.int .i64 a0_0, .int .i64 a0_1, .int .i64 a0_2, .int .i64 a0_3, .slice A0_4 l0_4.length c0_4]) (t := 37) ?hr ?_; (case hd => rfl); (case hg => rfl); (case hr => first | (go_simp; done) | (go_simp; rfl)); intro gb142 hg w3 hbox hb; have BK142 := zm (hbox); have GW142 := zm ((by rw [hg]; exact (below_size (bx HB.out)) : w.heap.size ≤ gb142)); have GE142 := zm ((by rw [hg]; exact (below_size (bx HB.out)) : w.heap.size ≤ gb142)); replace HB := zm (below_step (bx HB.out) hb); clear hb hbox hg; have hcz4_0 := bc0 BK142.out; have hcz4_1 := bc1 BK142.out; have hcz4_2 := bc2 BK142.out; have hcz4_3 := bc3 BK142.out; have hcz4_4 := bc4 BK142.out; have hfz4_0 := bF BK142.out 0; have hfz4_1 := bF BK142.out 1; have hfz4_2 := bF BK142.out 2; have hfz4_3 := bF BK142.out 3; have hfz4_4 := bF BK142.out 4))
 have H := HC2.out
 clear HC2
 by_cases c5 : a0_0 = 4
 ·rw [if_pos c5] at H
  have c5b0 := beq_iff_eq.mpr c5
  have c5b1 := bne_eq_false_iff_eq.mpr c5
  clear c5
  replace H := Option.bind_eq_some_iff.mp H
  obtain ⟨t146, A60, H⟩ := H
  replace H : (if t146 = true then (if a0_0 ≥ 1 then (if a0_0 ≤ 8 then (if a0_1 ≥ 0 then (if a0_1 ≤ 3 then ((net_none.f 0 0 ([] : List (S35))).bind fun t147 => (some t147)) else (some false)) else (some false)) else (some false)) else (some false)) else (some false)) = some r := H
  have A6 := zm A60
  clear A60
  have HC7 := zm H
  clear H
  have hcz8_0 := bc0 BK142.out
  have hcz8_1 := bc1 BK142.out
  have hcz8_2 := bc2 BK142.out
  have hcz8_3 := bc3 BK142.out
  have hcz8_4 := bc4 BK142.out
  have hfz8_0 := bF BK142.out 0
  have hfz8_1 := bF BK142.out 1
  have hfz8_2 := bF BK142.out 2
  have hfz8_3 := bF BK142.out 3
  have hfz8_4 := bF BK142.out 4
  go_upto_if 15 with (first | ((with_reducible refine gate_callee (f := 51) rfl ?_); refine goesL_ (some 14) rfl rfl Tryd.func51 (by kernel_rfl) rfl #[.agg #[.int .i64 a0_2, .int .i64 a0_3, .slice A0_4 l0_4.length c0_4], .int .i64 1] rfl ag ?_; (with_reducible refine (net_of.calls k a0_2 a0_3 _ _ l0_4 1 t146 _ ?side1 HC0_4.out A6.out ?hT_).mono ?_); (case hT_ => exact Words.tab_below HT0.out (bx HB.out)); (case side1 => exact cx (Kd.C_below HR0_4.out HB.out)); rintro e w9 ⟨rfl, hb⟩; refine ⟨_, rfl, ?_⟩; replace BK142 := zm (kB (kx BK142.out) hb); replace HB := zm (below_step (bx HB.out) hb); (try clear hb)))
  have H := HC7.out
  clear HC7
  by_cases c10 : t146 = true
  ·subst c10
   rw [if_pos rfl] at H
   by_cases c11 : a0_0 ≥ 1
   ·rw [if_pos c11] at H
    have c11b0 : decide (1 ≤ a0_0) = true := decide_eq_true c11
    clear c11
    (first | rw [c11b0] | (simp only [i64_w, i32_w]; rw [c11b0]) | skip)
    by_cases c12 : a0_0 ≤ 8
    ·rw [if_pos c12] at H
     have c12b0 := decide_eq_true c12
     clear c12
     by_cases c13 : a0_1 ≥ 0
     ·rw [if_pos c13] at H
      have c13b0 : decide (0 ≤ a0_1) = true := decide_eq_true c13
      clear c13
      by_cases c14 : a0_1 ≤ 3
      ·rw [if_pos c14] at H
       have c14b0 := decide_eq_true c14
       clear c14
       replace H := Option.bind_eq_some_iff.mp H
       obtain ⟨t147, A150, H⟩ := H
       replace H : (some t147) = some r := H
       have A15 := zm A150
       clear A150
       obtain rfl := Option.some.inj H
       have hcz16_0 := bc0 BK142.out
       have hcz16_1 := bc1 BK142.out
       have hcz16_2 := bc2 BK142.out
       have hcz16_3 := bc3 BK142.out
       have hcz16_4 := bc4 BK142.out
       have hfz16_0 := bF BK142.out 0
       have hfz16_1 := bF BK142.out 1
       have hfz16_2 := bF BK142.out 2
       have hfz16_3 := bF BK142.out 3
       have hfz16_4 := bF BK142.out 4
       go_wp2_with (first | (go_at_call 52; (refine (net_none.calls 0 0 _ _ ([] : List (S35)) t147 _ ?side1 ?side2 A15.out).mono ?_); (case side1 => exact Kd.C_nil _ _); (case side2 => exact Nat.le_refl _); rintro e w17 ⟨rfl, hb⟩; replace BK142 := zm (kB (g := gb142) (o := .cells #[.int .i64 a0_0, .int .i64 a0_1, .int .i64 0, .int .i64 0, .slice none 0 0] 37 (0, 0)) (by (with_reducible repeat first | apply kN | apply kD | apply kA); refine blk_put (cs := #[.int .i64 a0_0, .int .i64 a0_1, .int .i64 0, .int .i64 0, .slice A0_4 l0_4.length c0_4]) ?_ 4 _ rfl; (with_reducible repeat first | apply kN | apply kD | apply kA); refine blk_put (cs := #[.int .i64 a0_0, .int .i64 a0_1, .int .i64 0, .int .i64 a0_3, .slice A0_4 l0_4.length c0_4]) ?_ 3 _ rfl; (with_reducible repeat first | apply kN | apply kD | apply kA); refine blk_put (cs := #[.int .i64 a0_0, .int .i64 a0_1, .int .i64 a0_2, .int .i64 a0_3, .slice A0_4 l0_4.length c0_4]) ?_ 2 _ rfl; (with_reducible repeat first | apply kN | apply kD | apply kA); exact BK142.out) hb); replace HB := zm (below_step (bx HB.out) hb); (try clear hb); (try clear hb2); (try clear hk); (try clear hi)))
       go_ret
       exact ⟨xe, bx HB.out⟩
      rw [if_neg c14] at H
      have c14b0 := decide_eq_false c14
      clear c14
      obtain rfl := Option.some.inj H
      have hcz18_0 := bc0 BK142.out
      have hcz18_1 := bc1 BK142.out
      have hcz18_2 := bc2 BK142.out
      have hcz18_3 := bc3 BK142.out
      have hcz18_4 := bc4 BK142.out
      have hfz18_0 := bF BK142.out 0
      have hfz18_1 := bF BK142.out 1
      have hfz18_2 := bF BK142.out 2
      have hfz18_3 := bF BK142.out 3
      have hfz18_4 := bF BK142.out 4
      go_wp2
      go_ret
      exact ⟨xe, bx HB.out⟩
     rw [if_neg c13] at H
     have c13b0 : decide (0 ≤ a0_1) = false := decide_eq_false c13
     clear c13
     obtain rfl := Option.some.inj H
     have hcz19_0 := bc0 BK142.out
     have hcz19_1 := bc1 BK142.out
     have hcz19_2 := bc2 BK142.out
     have hcz19_3 := bc3 BK142.out
     have hcz19_4 := bc4 BK142.out
     have hfz19_0 := bF BK142.out 0
     have hfz19_1 := bF BK142.out 1
     have hfz19_2 := bF BK142.out 2
     have hfz19_3 := bF BK142.out 3
     have hfz19_4 := bF BK142.out 4
     go_wp2
     go_ret
     exact ⟨xe, bx HB.out⟩
    rw [if_neg c12] at H
    have c12b0 := decide_eq_false c12
    clear c12
    obtain rfl := Option.some.inj H
    have hcz20_0 := bc0 BK142.out
    have hcz20_1 := bc1 BK142.out
    have hcz20_2 := bc2 BK142.out
    have hcz20_3 := bc3 BK142.out
    have hcz20_4 := bc4 BK142.out
    have hfz20_0 := bF BK142.out 0
    have hfz20_1 := bF BK142.out 1
    have hfz20_2 := bF BK142.out 2
    have hfz20_3 := bF BK142.out 3
    have hfz20_4 := bF BK142.out 4
    go_wp2
    go_ret
    exact ⟨xe, bx HB.out⟩
   rw [if_neg c11] at H
   have c11b0 : decide (1 ≤ a0_0) = false := decide_eq_false c11
   clear c11
   (first | rw [c11b0] | (simp only [i64_w, i32_w]; rw [c11b0]) | skip)
   obtain rfl := Option.some.inj H
   have hcz21_0 := bc0 BK142.out
   have hcz21_1 := bc1 BK142.out
   have hcz21_2 := bc2 BK142.out
   have hcz21_3 := bc3 BK142.out
   have hcz21_4 := bc4 BK142.out
   have hfz21_0 := bF BK142.out 0
   have hfz21_1 := bF BK142.out 1
   have hfz21_2 := bF BK142.out 2
   have hfz21_3 := bF BK142.out 3
   have hfz21_4 := bF BK142.out 4
   go_wp2
   go_ret
   exact ⟨xe, bx HB.out⟩
  replace c10 := Bool.eq_false_iff.mpr c10
  subst c10
  rw [if_neg (show ¬ (false = true) by decide)] at H
  obtain rfl := Option.some.inj H
  go_wp2
  go_ret
  exact ⟨xe, bx HB.out⟩
 rw [if_neg c5] at H
 have c5b0 := beq_eq_false_iff_ne.mpr c5
 have c5b1 := bne_iff_ne.mpr c5
 by_cases c22 : a0_0 = 3
 ·rw [if_pos c22] at H
  have c22b0 := beq_iff_eq.mpr c22
  have c22b1 := bne_eq_false_iff_eq.mpr c22
  clear c22
  by_cases c23 : a0_0 ≥ 1
  ·rw [if_pos c23] at H
   have c23b0 : decide (1 ≤ a0_0) = true := decide_eq_true c23
   clear c23
   by_cases c24 : a0_0 ≤ 8
   ·rw [if_pos c24] at H
    have c24b0 := decide_eq_true c24
    clear c24
    by_cases c25 : a0_1 ≥ 0
    ·rw [if_pos c25] at H
     have c25b0 : decide (0 ≤ a0_1) = true := decide_eq_true c25
     clear c25
     by_cases c26 : a0_1 ≤ 3
     ·rw [if_pos c26] at H
      have c26b0 := decide_eq_true c26
      clear c26
      replace H := Option.bind_eq_some_iff.mp H
      obtain ⟨t143, A270, H⟩ := H
      replace H : (some t143) = some r := H
      have A27 := zm A270
      clear A270
      obtain rfl := Option.some.inj H
      have hcz28_0 := bc0 BK142.out
      have hcz28_1 := bc1 BK142.out
      have hcz28_2 := bc2 BK142.out
      have hcz28_3 := bc3 BK142.out
      have hcz28_4 := bc4 BK142.out
      have hfz28_0 := bF BK142.out 0
      have hfz28_1 := bF BK142.out 1
      have hfz28_2 := bF BK142.out 2
      have hfz28_3 := bF BK142.out 3
      have hfz28_4 := bF BK142.out 4
      go_wp2_with (first | (go_at_call 52; (with_reducible refine (net_none.calls a0_2 a0_3 _ _ l0_4 t143 _ ?side1 HC0_4.out A27.out).mono ?_); (case side1 => exact cx (Kd.C_below HR0_4.out HB.out)); rintro e w29 ⟨rfl, hb⟩; replace BK142 := zm (kB (kx BK142.out) hb); replace HB := zm (below_step (bx HB.out) hb); (try clear hb)))
      go_ret
      exact ⟨xe, bx HB.out⟩
     rw [if_neg c26] at H
     have c26b0 := decide_eq_false c26
     clear c26
     obtain rfl := Option.some.inj H
     have hcz30_0 := bc0 BK142.out
     have hcz30_1 := bc1 BK142.out
     have hcz30_2 := bc2 BK142.out
     have hcz30_3 := bc3 BK142.out
     have hcz30_4 := bc4 BK142.out
     have hfz30_0 := bF BK142.out 0
     have hfz30_1 := bF BK142.out 1
     have hfz30_2 := bF BK142.out 2
     have hfz30_3 := bF BK142.out 3
     have hfz30_4 := bF BK142.out 4
     go_wp2
     go_ret
     exact ⟨xe, bx HB.out⟩
    rw [if_neg c25] at H
    have c25b0 : decide (0 ≤ a0_1) = false := decide_eq_false c25
    clear c25
    obtain rfl := Option.some.inj H
    have hcz31_0 := bc0 BK142.out
    have hcz31_1 := bc1 BK142.out
    have hcz31_2 := bc2 BK142.out
    have hcz31_3 := bc3 BK142.out
    have hcz31_4 := bc4 BK142.out
    have hfz31_0 := bF BK142.out 0
    have hfz31_1 := bF BK142.out 1
    have hfz31_2 := bF BK142.out 2
    have hfz31_3 := bF BK142.out 3
    have hfz31_4 := bF BK142.out 4
    go_wp2
    go_ret
    exact ⟨xe, bx HB.out⟩
   rw [if_neg c24] at H
   have c24b0 := decide_eq_false c24
   clear c24
   obtain rfl := Option.some.inj H
   have hcz32_0 := bc0 BK142.out
   have hcz32_1 := bc1 BK142.out
   have hcz32_2 := bc2 BK142.out
   have hcz32_3 := bc3 BK142.out
   have hcz32_4 := bc4 BK142.out
   have hfz32_0 := bF BK142.out 0
   have hfz32_1 := bF BK142.out 1
   have hfz32_2 := bF BK142.out 2
   have hfz32_3 := bF BK142.out 3
   have hfz32_4 := bF BK142.out 4
   go_wp2
   go_ret
   exact ⟨xe, bx HB.out⟩
  rw [if_neg c23] at H
  have c23b0 : decide (1 ≤ a0_0) = false := decide_eq_false c23
  clear c23
  obtain rfl := Option.some.inj H
  have hcz33_0 := bc0 BK142.out
  have hcz33_1 := bc1 BK142.out
  have hcz33_2 := bc2 BK142.out
  have hcz33_3 := bc3 BK142.out
  have hcz33_4 := bc4 BK142.out
  have hfz33_0 := bF BK142.out 0
  have hfz33_1 := bF BK142.out 1
  have hfz33_2 := bF BK142.out 2
  have hfz33_3 := bF BK142.out 3
  have hfz33_4 := bF BK142.out 4
  go_wp2
  go_ret
  exact ⟨xe, bx HB.out⟩
 rw [if_neg c22] at H
 have c22b0 := beq_eq_false_iff_ne.mpr c22
 have c22b1 := bne_iff_ne.mpr c22
 by_cases c34 : a0_0 = 8
 ·rw [if_pos c34] at H
  have c34b0 := beq_iff_eq.mpr c34
  have c34b1 := bne_eq_false_iff_eq.mpr c34
  clear c34
  by_cases c35 : a0_0 ≥ 1
  ·rw [if_pos c35] at H
   have c35b0 : decide (1 ≤ a0_0) = true := decide_eq_true c35
   clear c35
   by_cases c36 : a0_0 ≤ 8
   ·rw [if_pos c36] at H
    have c36b0 := decide_eq_true c36
    clear c36
    by_cases c37 : a0_1 ≥ 0
    ·rw [if_pos c37] at H
     have c37b0 : decide (0 ≤ a0_1) = true := decide_eq_true c37
     clear c37
     by_cases c38 : a0_1 ≤ 4
     ·rw [if_pos c38] at H
      have c38b0 := decide_eq_true c38
      clear c38
      replace H := Option.bind_eq_some_iff.mp H
      obtain ⟨t144, A390, H⟩ := H
      replace H : (some t144) = some r := H
      have A39 := zm A390
      clear A390
      obtain rfl := Option.some.inj H
      have hcz40_0 := bc0 BK142.out
      have hcz40_1 := bc1 BK142.out
      have hcz40_2 := bc2 BK142.out
      have hcz40_3 := bc3 BK142.out
      have hcz40_4 := bc4 BK142.out
      have hfz40_0 := bF BK142.out 0
      have hfz40_1 := bF BK142.out 1
      have hfz40_2 := bF BK142.out 2
      have hfz40_3 := bF BK142.out 3
      have hfz40_4 := bF BK142.out 4
      go_wp2_with (first | (go_at_call 52; (with_reducible refine (net_none.calls a0_2 a0_3 _ _ l0_4 t144 _ ?side1 HC0_4.out A39.out).mono ?_); (case side1 => exact cx (Kd.C_below HR0_4.out HB.out)); rintro e w41 ⟨rfl, hb⟩; replace BK142 := zm (kB (kx BK142.out) hb); replace HB := zm (below_step (bx HB.out) hb); (try clear hb)))
      go_ret
      exact ⟨xe, bx HB.out⟩
     rw [if_neg c38] at H
     have c38b0 := decide_eq_false c38
     clear c38
     obtain rfl := Option.some.inj H
     have hcz42_0 := bc0 BK142.out
     have hcz42_1 := bc1 BK142.out
     have hcz42_2 := bc2 BK142.out
     have hcz42_3 := bc3 BK142.out
     have hcz42_4 := bc4 BK142.out
     have hfz42_0 := bF BK142.out 0
     have hfz42_1 := bF BK142.out 1
     have hfz42_2 := bF BK142.out 2
     have hfz42_3 := bF BK142.out 3
     have hfz42_4 := bF BK142.out 4
     go_wp2
     go_ret
     exact ⟨xe, bx HB.out⟩
    rw [if_neg c37] at H
    have c37b0 : decide (0 ≤ a0_1) = false := decide_eq_false c37
    clear c37
    obtain rfl := Option.some.inj H
    have hcz43_0 := bc0 BK142.out
    have hcz43_1 := bc1 BK142.out
    have hcz43_2 := bc2 BK142.out
    have hcz43_3 := bc3 BK142.out
    have hcz43_4 := bc4 BK142.out
    have hfz43_0 := bF BK142.out 0
    have hfz43_1 := bF BK142.out 1
    have hfz43_2 := bF BK142.out 2
    have hfz43_3 := bF BK142.out 3
    have hfz43_4 := bF BK142.out 4
    go_wp2
    go_ret
    exact ⟨xe, bx HB.out⟩
   rw [if_neg c36] at H
   have c36b0 := decide_eq_false c36
   clear c36
   obtain rfl := Option.some.inj H
   have hcz44_0 := bc0 BK142.out
   have hcz44_1 := bc1 BK142.out
   have hcz44_2 := bc2 BK142.out
   have hcz44_3 := bc3 BK142.out
   have hcz44_4 := bc4 BK142.out
   have hfz44_0 := bF BK142.out 0
   have hfz44_1 := bF BK142.out 1
   have hfz44_2 := bF BK142.out 2
   have hfz44_3 := bF BK142.out 3
   have hfz44_4 := bF BK142.out 4
   go_wp2
   go_ret
   exact ⟨xe, bx HB.out⟩
  rw [if_neg c35] at H
  have c35b0 : decide (1 ≤ a0_0) = false := decide_eq_false c35
  clear c35
  obtain rfl := Option.some.inj H
  have hcz45_0 := bc0 BK142.out
  have hcz45_1 := bc1 BK142.out
  have hcz45_2 := bc2 BK142.out
  have hcz45_3 := bc3 BK142.out
  have hcz45_4 := bc4 BK142.out
  have hfz45_0 := bF BK142.out 0
  have hfz45_1 := bF BK142.out 1
  have hfz45_2 := bF BK142.out 2
  have hfz45_3 := bF BK142.out 3
  have hfz45_4 := bF BK142.out 4
  go_wp2
  go_ret
  exact ⟨xe, bx HB.out⟩
 rw [if_neg c34] at H
 have c34b0 := beq_eq_false_iff_ne.mpr c34
 have c34b1 := bne_iff_ne.mpr c34
 by_cases c46 : a0_0 ≥ 1
 ·rw [if_pos c46] at H
  have c46b0 : decide (1 ≤ a0_0) = true := decide_eq_true c46
  clear c46
  by_cases c47 : a0_0 ≤ 8
  ·rw [if_pos c47] at H
   have c47b0 := decide_eq_true c47
   clear c47
   by_cases c48 : a0_1 ≥ 0
   ·rw [if_pos c48] at H
    have c48b0 : decide (0 ≤ a0_1) = true := decide_eq_true c48
    clear c48
    by_cases c49 : a0_1 ≤ 0
    ·rw [if_pos c49] at H
     have c49b0 := decide_eq_true c49
     clear c49
     replace H := Option.bind_eq_some_iff.mp H
     obtain ⟨t145, A500, H⟩ := H
     replace H : (some t145) = some r := H
     have A50 := zm A500
     clear A500
     obtain rfl := Option.some.inj H
     have hcz51_0 := bc0 BK142.out
     have hcz51_1 := bc1 BK142.out
     have hcz51_2 := bc2 BK142.out
     have hcz51_3 := bc3 BK142.out
     have hcz51_4 := bc4 BK142.out
     have hfz51_0 := bF BK142.out 0
     have hfz51_1 := bF BK142.out 1
     have hfz51_2 := bF BK142.out 2
     have hfz51_3 := bF BK142.out 3
     have hfz51_4 := bF BK142.out 4
     go_wp2_with (first | (go_at_call 52; (with_reducible refine (net_none.calls a0_2 a0_3 _ _ l0_4 t145 _ ?side1 HC0_4.out A50.out).mono ?_); (case side1 => exact cx (Kd.C_below HR0_4.out HB.out)); rintro e w52 ⟨rfl, hb⟩; replace BK142 := zm (kB (kx BK142.out) hb); replace HB := zm (below_step (bx HB.out) hb); (try clear hb)))
     go_ret
     exact ⟨xe, bx HB.out⟩
    rw [if_neg c49] at H
    have c49b0 := decide_eq_false c49
    clear c49
    obtain rfl := Option.some.inj H
    have hcz53_0 := bc0 BK142.out
    have hcz53_1 := bc1 BK142.out
    have hcz53_2 := bc2 BK142.out
    have hcz53_3 := bc3 BK142.out
    have hcz53_4 := bc4 BK142.out
    have hfz53_0 := bF BK142.out 0
    have hfz53_1 := bF BK142.out 1
    have hfz53_2 := bF BK142.out 2
    have hfz53_3 := bF BK142.out 3
    have hfz53_4 := bF BK142.out 4
    go_wp2
    go_ret
    exact ⟨xe, bx HB.out⟩
   rw [if_neg c48] at H
   have c48b0 : decide (0 ≤ a0_1) = false := decide_eq_false c48
   clear c48
   obtain rfl := Option.some.inj H
   have hcz54_0 := bc0 BK142.out
   have hcz54_1 := bc1 BK142.out
   have hcz54_2 := bc2 BK142.out
   have hcz54_3 := bc3 BK142.out
   have hcz54_4 := bc4 BK142.out
   have hfz54_0 := bF BK142.out 0
   have hfz54_1 := bF BK142.out 1
   have hfz54_2 := bF BK142.out 2
   have hfz54_3 := bF BK142.out 3
   have hfz54_4 := bF BK142.out 4
   go_wp2
   go_ret
   exact ⟨xe, bx HB.out⟩
  rw [if_neg c47] at H
  have c47b0 := decide_eq_false c47
  clear c47
  obtain rfl := Option.some.inj H
  have hcz55_0 := bc0 BK142.out
  have hcz55_1 := bc1 BK142.out
  have hcz55_2 := bc2 BK142.out
  have hcz55_3 := bc3 BK142.out
  have hcz55_4 := bc4 BK142.out
  have hfz55_0 := bF BK142.out 0
  have hfz55_1 := bF BK142.out 1
  have hfz55_2 := bF BK142.out 2
  have hfz55_3 := bF BK142.out 3
  have hfz55_4 := bF BK142.out 4
  go_wp2
  go_ret
  exact ⟨xe, bx HB.out⟩
 rw [if_neg c46] at H
 have c46b0 : decide (1 ≤ a0_0) = false := decide_eq_false c46
 clear c46
 obtain rfl := Option.some.inj H
 have hcz56_0 := bc0 BK142.out
 have hcz56_1 := bc1 BK142.out
 have hcz56_2 := bc2 BK142.out
 have hcz56_3 := bc3 BK142.out
 have hcz56_4 := bc4 BK142.out
 have hfz56_0 := bF BK142.out 0
 have hfz56_1 := bF BK142.out 1
 have hfz56_2 := bF BK142.out 2
 have hfz56_3 := bF BK142.out 3
 have hfz56_4 := bF BK142.out 4
 go_wp2
 go_ret
 exact ⟨xe, bx HB.out⟩

theorem net_places.upq {q q' : Int → Option Bool} (hq : ∀ x, LeO (q x) (q' x)) : ∀ k x0 x7 x9 x10, LeO (net_places.l0 k x0 q x7 x9 x10) (net_places.l0 (k + 1) x0 q' x7 x9 x10)
 | 0, _, _, _, _ => fun r h => by first | (cases h; done) | simp [net_places.l0] at h
 | k + 1, x0, x7, x9, x10 => by
  have ih := net_places.upq hq k
  unfold net_places.l0 QF64.f
  repeat' first
  | exact ih _ _ _ _
  | exact LeO.none _
  | exact LeO.refl _
  | exact hq _
  | refine LeO.ite ?_ ?_
  | refine LeO.bind ?_ (fun _ => ?_)
def net_All_1.q (k : Nat) (l0 : List S37) (l1 : List S53) : Int → Option Bool := fun i =>
 if 0 ≤ i then (if i < (l0.length : Int) then ((net_right.f k (rd_T37 l0 i).f0 (rd_T37 l0 i).f1 (rd_T37 l0 i).f2.f0 (rd_T37 l0 i).f2.f1 (rd_T37 l0 i).f2.f2).bind fun b => some (!b)) else none) else none
theorem net_All_1.qmono {k : Nat} {l0 : List S37} {l1 : List S53} {i : Int} : LeO (net_All_1.q k l0 l1 i) (net_All_1.q (k + 1) l0 l1 i) := by
 unfold net_All_1.q
 exact LeO.ite (LeO.ite (LeO.bind (net_right.mono _ _ _ _ _ k) (fun _ => LeO.refl _)) (LeO.none _)) (LeO.none _)
theorem net_All_1.up_net_places {a0 a1 : Int} {k : Nat} {y0 : List S37} {y1 : List S53} : LeO (net_places.f k a0 a1 (net_All_1.q k y0 y1)) (net_places.f (k + 1) a0 a1 (net_All_1.q (k + 1) y0 y1)) := by
 unfold net_places.f
 exact net_places.upq (fun x => net_All_1.qmono) k _ _ _ _
set_option maxHeartbeats 8000000 in
set_option maxRecDepth 100000 in
theorem net_All_1.ok {k g : Nat} {A0 : Option Addr} {c0 : Nat} {l0 : List S37} {A1 : Option Addr} {c1 : Nat} {l1 : List S53} {w : World} (hG0 : w.heap[g]? = some (.cells #[.slice A0 l0.length c0, .slice A1 l1.length c1] 25 (0, 0)))
  (hr0 : Kd.C k37 w A0 l0.length l0) (hc0 : l0.length ≤ c0) (hr1 : Kd.C k53 w A1 l1.length l1) (hc1 : l1.length ≤ c1) (hT : Words.Tab w) : FnOk64 38 #[.pointer (some ⟨g, 0, none⟩)] (net_All_1.q k l0 l1) w := by
 intro W x b hb0 hq
 simp only [net_All_1.q] at hq
 have z0 : W.cell? ⟨g, 0, none⟩ = some (.slice A0 l0.length c0) := (blk_cell (blk_below hG0 hb0) 0).trans rfl
 have HT := zm (Words.tab_below hT hb0)
 have HR0 := zm (Kd.C_below hr0 hb0)
 have HB := zm (Below.refl W.heap.size W)
 clear hG0 hb0 hr0 hr1 hc0 hc1 hT
 by_cases h0 : 0 ≤ x
 rotate_left
 ·rw [if_neg h0] at hq; exact absurd hq (by simp)
 rw [if_pos h0] at hq
 by_cases h1 : x < (l0.length : Int)
 rotate_left
 ·rw [if_neg h1] at hq; exact absurd hq (by simp)
 rw [if_pos h1] at hq
 obtain ⟨b2, hq2, h2⟩ := Option.bind_eq_some_iff.mp hq
 obtain rfl := Option.some.inj h2
 clear h2 hq
 have H := zm hq2
 clear hq2
 obtain ⟨ad0, A4, c4, e0, hx0, hx1, hx2, hx3, hx4, hl4, hg4⟩ := at_T37 HR0.out x h0 h1
 cases e0
 have HL := zm hl4
 have HG := zm hg4
 clear hl4 hg4
 have p0 := eq_true h0
 have q0 := eq_true h1
 clear h0 h1
 have hu := Tryd.underlying37
 show Calls Tryd.prog 38 #[.int .i64 x, .pointer (some ⟨g, 0, none⟩)] W _
 go_enter Tryd.func38, Tryd.ntmps38
 go_wp2_with (first | (go_at_call 39; go_loud (refine (net_right.calls k _ _ _ _ A4 c4 _ b2 _ HG.out HL.out H.out HT.out).mono ?_); rintro e w3 ⟨rfl, hb⟩; have n0_ := zm (below_step HB.out hb); clear HB; have HB := n0_; clear n0_ hb))
 all_goals go_ret
 all_goals exact ⟨by first | rfl | (simp; done) | (simp [*]; done), by repeat (first | exact HB.out | apply bA | apply bN | apply bD)⟩

end Go.Proofs.YtdaeiicdpfghlaaDoor.R
