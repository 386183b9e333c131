import Derived.Test.YtdaeiicdpfghlaaDoorSx0
namespace Go.Proofs.YtdaeiicdpfghlaaDoor.R
open Go.RowKit Go.Proofs.YtdaeiicdpfghlaaDoorW.PrintWords Go.Proofs.YtdaeiicdpfghlaaDoorW.PrintLast Go.Proofs.YtdaeiicdpfghlaaDoorW.PrintMore
attribute [local go_sem] max2_int min2_int max_two min_two max_three min_three max_four min_four   -- for this text's walks alone
set_option linter.unusedVariables false
set_option linter.unusedSimpArgs false

def slices_IndexFunc_api_Node.l0 : Nat → List (S37) → (S37 → Option Bool) → Int → Int → Option (Int)
 | 0, _, _, _, _ => none
 | k + 1, x0, x1, x7, x8 => if x8 < x7 then (if 0 ≤ x8 then (if x8 < (x0.length : Int) then ((QF58.f ((rd_T37 x0 x8).f0) ((rd_T37 x0 x8).f1) ((rd_T37 x0 x8).f2.f0) ((rd_T37 x0 x8).f2.f1) ((rd_T37 x0 x8).f2.f2) x1).bind fun t117 => (if t117 = true then (some x8) else (slices_IndexFunc_api_Node.l0 k x0 x1 x7 (wrap64 (x8 + 1))))) else (none)) else (none)) else (some (-1))
def slices_IndexFunc_api_Node.f (k : Nat) (l0 : List (S37)) (a1 : (S37 → Option Bool)) : Option (Int) := slices_IndexFunc_api_Node.l0 k l0 a1 (l0.length : Int) 0
set_option maxRecDepth 100000 in
theorem slices_IndexFunc_api_Node.mono_l : ∀ k, (∀ y0 y1 y2 y3, LeO (slices_IndexFunc_api_Node.l0 k y0 y1 y2 y3) (slices_IndexFunc_api_Node.l0 (k + 1) y0 y1 y2 y3))
 | 0 => fun _ _ _ _ r h => by first | (cases h; done) | simp [slices_IndexFunc_api_Node.l0] at h
 | k + 1 => by
  have ih0 := slices_IndexFunc_api_Node.mono_l k
  ·intro y0 y1 y2 y3
   unfold slices_IndexFunc_api_Node.l0
   repeat' first
   | (with_reducible exact ih0 _ _ _ _)
   | (with_reducible exact LeO.refl _)
   | (with_reducible exact LeO.none _)
   | (with_reducible refine LeO.ite ?_ ?_)
   | (with_reducible refine LeO.bind ?_ (fun _ => ?_))
   | refine LeO.ite ?_ ?_
   | refine LeO.bind ?_ (fun _ => ?_)
set_option maxRecDepth 100000 in
theorem slices_IndexFunc_api_Node.mono : ∀ a0 a1 k, LeO (slices_IndexFunc_api_Node.f k a0 a1) (slices_IndexFunc_api_Node.f (k + 1) a0 a1) := by
 intro a0 a1 k
 have ih0 := slices_IndexFunc_api_Node.mono_l k
 unfold slices_IndexFunc_api_Node.f
 repeat' first
 | (with_reducible exact ih0 _ _ _ _)
 | (with_reducible exact LeO.refl _)
 | (with_reducible exact LeO.none _)
 | (with_reducible refine LeO.ite ?_ ?_)
 | (with_reducible refine LeO.bind ?_ (fun _ => ?_))
 | refine LeO.ite ?_ ?_
 | refine LeO.bind ?_ (fun _ => ?_)
set_option maxHeartbeats 8000000 in
set_option maxRecDepth 100000 in
theorem slices_IndexFunc_api_Node.calls (k : Nat) (A0 : Option Addr) (c0 : Nat) (l0 : List (S37)) (g1_ : Nat) (cp1_ : Array Value) (a1 : (S37 → Option Bool)) (r : Int) (w : World) (hr0 : Kd.C k37 w A0 l0.length l0) (hc0 : l0.length ≤ c0) (he1 : ∀ args w, (callFunc g1_ args).run Tryd.prog w = .ok (.enter g1_ args) w) (hq1 : FnOk58 g1_ cp1_ a1 w) (h : slices_IndexFunc_api_Node.f k l0 a1 = some r) :
  Calls Tryd.prog 34 #[.slice A0 l0.length c0, .func (.func g1_) #[] cp1_] w fun e w' => e = .returned (.int .i64 r) ∧ Below w.heap.size w w' := by
 have hu37 := Tryd.underlying37
 have HR0 := zm hr0
 have HC0 := zm hc0
 clear hr0 hc0
 have HQ1 := zm hq1
 clear hq1
 have HB := zm (Below.refl w.heap.size w)
 have H : (slices_IndexFunc_api_Node.l0 k l0 a1 (l0.length : Int) 0) = some r := h
 clear h
 have H' := zm H
 clear H
 go_enter Tryd.func34, Tryd.ntmps34
 go_wp2
 go_loopg [8] k (fun kq v8 w' => ∃ (x8_1 : Int), v8 = .int .i64 x8_1 ∧ Aside0 (slices_IndexFunc_api_Node.l0 kq l0 a1 (l0.length : Int) x8_1 = some r) ∧ Aside0 (kq ≤ k) ∧ Aside0 (Below w.heap.size w w'))
 case atStart => exact ⟨(0), (by first | rfl | (simp; done) | (simp [*]; done)), H', ⟨Nat.le_refl _⟩, ⟨bx HB.out⟩⟩
 clear H'
 try clear q1
 try clear p2
 obtain ⟨x8_1, rfl, HA, HK1, HB⟩ := hrel
 cases gk with
 | zero => exact absurd HA.out (by first | (intro h_; cases h_; done) | simp [slices_IndexFunc_api_Node.l0])
 | succ k1 =>
  have H := HA.out
  clear HA
  simp only [slices_IndexFunc_api_Node.l0] at H
  by_cases c3 : x8_1 < (l0.length : Int)
  ·rw [if_pos c3] at H
   have c3b0 := decide_eq_true c3
   clear c3
   by_cases c4 : 0 ≤ x8_1
   ·rw [if_pos c4] at H
    have c4b0 := decide_eq_true c4
    clear c4
    by_cases c5 : x8_1 < (l0.length : Int)
    ·rw [if_pos c5] at H
     have c5b0 := decide_eq_true c5
     clear c5
     replace H := Option.bind_eq_some_iff.mp H
     obtain ⟨t117, A60, H⟩ := H
     replace H : (if t117 = true then (some x8_1) else (slices_IndexFunc_api_Node.l0 k1 l0 a1 (l0.length : Int) (wrap64 (x8_1 + 1)))) = some r := H
     have A6 := zm A60
     clear A60
     have HC7 := zm H
     clear H
     have p116 : 0 ≤ (x8_1 : Int) := od
     have q116 : x8_1 < (l0.length : Int) := od
     obtain ⟨ad116, A116_4, c116_4, e116, hx116_0, hx116_1, hx116_2, hx116_3, hx116_4, hl116_4, hi116_4⟩ := at_T37 HR0.out x8_1 p116 q116
     cases e116
     replace hx116_0 := cb HB.out hx116_0
     replace hx116_1 := cb HB.out hx116_1
     replace hx116_2 := cb HB.out hx116_2
     replace hx116_3 := cb HB.out hx116_3
     replace hx116_4 := cb HB.out hx116_4
     have HR116_4 := zm hi116_4
     have HC116_4 := zm hl116_4
     clear hi116_4 hl116_4
     replace p116 := eq_true p116
     replace q116 := eq_true q116
     go_upto_if 16 with (first | (go_at_fn g1_; (with_reducible refine (QF58.calls ((rd_T37 l0 x8_1).f0) ((rd_T37 l0 x8_1).f1) ((rd_T37 l0 x8_1).f2.f0) ((rd_T37 l0 x8_1).f2.f1) _ _ ((rd_T37 l0 x8_1).f2.f2) _ _ a1 t117 _ ?side1 HC116_4.out ?side3 ?side4 A6.out).mono ?_); (case side1 => exact cx (Kd.C_below HR116_4.out HB.out)); (case side3 => exact he1); (case side4 => exact FnOk58.below HQ1.out (bx HB.out)); rintro e w8 ⟨rfl, hb⟩; replace HB := zm (below_step (bx HB.out) hb); (try clear hb)))
     have H := HC7.out
     clear HC7
     by_cases c9 : t117 = true
     ·subst c9
      rw [if_pos rfl] at H
      obtain rfl := Option.some.inj H
      go_wp2
      go_ret
      exact ⟨xe, bx HB.out⟩
     replace c9 := Bool.eq_false_iff.mpr c9
     subst c9
     rw [if_neg (show ¬ (false = true) by decide)] at H
     have H' := zm H
     clear H
     go_wp2
     go_roundg k1
     case measure => have := HK1.out; omega
     case rel => exact ⟨(wrap64 (x8_1 + 1)), (by first | rfl | (simp; done) | (simp [*]; done)), H', ⟨by have := HK1.out; omega⟩, ⟨bx HB.out⟩⟩
    rw [if_neg c5] at H
    exact absurd H (by simp)
   rw [if_neg c4] at H
   exact absurd H (by simp)
  rw [if_neg c3] at H
  have c3b0 := decide_eq_false c3
  try (have c3b9 := c3b0; rw [hl116_4] at c3b9)
  clear c3
  obtain rfl := Option.some.inj H
  go_wp2
  go_ret
  exact ⟨xe, bx HB.out⟩

def net_Start_1.q : S37 → Option Bool := fun x => some (x.f0 == 1)
set_option maxHeartbeats 8000000 in
set_option maxRecDepth 100000 in
theorem net_Start_1.ok {w : World} : FnOk58 35 #[] net_Start_1.q w := by
 intro W x cs b hb0 hk hq
 simp only [net_Start_1.q, Option.some.injEq] at hq
 subst hq
 clear hb0
 obtain ⟨A4, c4, rfl, hl4, hg4⟩ := k37_open hk
 clear hk
 have hu := Tryd.underlying37
 show Calls Tryd.prog 35 #[.agg #[.int .i64 x.f0, .int .i64 x.f1, .int .i64 x.f2.f0, .int .i64 x.f2.f1, .slice A4 x.f2.f2.length c4]] W _
 go_enter Tryd.func35, Tryd.ntmps35
 go_wp2_with (first | ((with_reducible refine gate_dst (N := 1) rfl ?_); refine box_event ?hg (N := 1) ?hd (cs := #[.int .i64 x.f0, .int .i64 x.f1, .int .i64 x.f2.f0, .int .i64 x.f2.f1, .slice A4 x.f2.f2.length c4]) (t := 37) ?hr ?_; (case hd => rfl); (case hg => rfl); (case hr => first | (go_simp; done) | (go_simp; rfl)); intro gb hg w2 hbox hb; have y0 : w2.cell? ⟨gb, 0, none⟩ = some (.int .i64 x.f0) := bc0 hbox; have y1 : w2.cell? ⟨gb, 1, none⟩ = some (.int .i64 x.f1) := bc1 hbox; have y2 : w2.cell? ⟨gb, 2, none⟩ = some (.int .i64 x.f2.f0) := bc2 hbox; have y3 : w2.cell? ⟨gb, 3, none⟩ = some (.int .i64 x.f2.f1) := bc3 hbox; have y4 : w2.cell? ⟨gb, 4, none⟩ = some (.slice A4 x.f2.f2.length c4) := bc4 hbox; have HB := zm hb; clear hb hbox hg))
 all_goals go_ret
 all_goals exact ⟨by first | rfl | (simp; done) | (simp [*]; done), by repeat (first | exact HB.out | apply bA | apply bN | apply bD)⟩

def net_Start.f (k : Nat) (l0_0 : List (S37)) (l0_1 : List (S53)) : Option (Int) := (slices_IndexFunc_api_Node.f k l0_0 net_Start_1.q).bind fun t119 => (some t119)
set_option maxRecDepth 100000 in
theorem net_Start.mono : ∀ a0 a1 k, LeO (net_Start.f k a0 a1) (net_Start.f (k + 1) a0 a1) := by
 intro a0 a1 k
 unfold net_Start.f
 repeat' first
 | (with_reducible exact slices_IndexFunc_api_Node.mono _ _ _)
 | (with_reducible exact LeO.refl _)
 | (with_reducible exact LeO.none _)
 | (with_reducible refine LeO.ite ?_ ?_)
 | (with_reducible refine LeO.bind ?_ (fun _ => ?_))
 | refine LeO.ite ?_ ?_
 | refine LeO.bind ?_ (fun _ => ?_)
set_option maxHeartbeats 8000000 in
set_option maxRecDepth 100000 in
theorem net_Start.calls (k : Nat) (A0_0 : Option Addr) (c0_0 : Nat) (l0_0 : List (S37)) (A0_1 : Option Addr) (c0_1 : Nat) (l0_1 : List (S53)) (r : Int) (w : World) (hr0_0 : Kd.C k37 w A0_0 l0_0.length l0_0) (hc0_0 : l0_0.length ≤ c0_0) (hr0_1 : Kd.C k53 w A0_1 l0_1.length l0_1) (hc0_1 : l0_1.length ≤ c0_1) (h : net_Start.f k l0_0 l0_1 = some r) :
  Calls Tryd.prog 15 #[.agg #[.slice A0_0 l0_0.length c0_0, .slice A0_1 l0_1.length c0_1]] w fun e w' => e = .returned (.int .i64 r) ∧ Below w.heap.size w w' := by
 have hu25 := Tryd.underlying25
 have HR0_0 := zm hr0_0
 have HC0_0 := zm hc0_0
 clear hr0_0 hc0_0
 have HR0_1 := zm hr0_1
 have HC0_1 := zm hc0_1
 clear hr0_1 hc0_1
 have HB := zm (Below.refl w.heap.size w)
 have H : ((slices_IndexFunc_api_Node.f k l0_0 net_Start_1.q).bind fun t119 => (some t119)) = some r := h
 clear h
 replace H := Option.bind_eq_some_iff.mp H
 obtain ⟨t119, A20, H⟩ := H
 replace H : (some t119) = some r := H
 have A2 := zm A20
 clear A20
 obtain rfl := Option.some.inj H
 go_enter Tryd.func15, Tryd.ntmps15
 go_wp2_with (first | ((with_reducible refine gate_dst (N := 1) rfl ?_); refine box_event ?hg (N := 1) ?hd (cs := #[.slice A0_0 l0_0.length c0_0, .slice A0_1 l0_1.length c0_1]) (t := 25) ?hr ?_; (case hd => rfl); (case hg => rfl); (case hr => first | (go_simp; done) | (go_simp; rfl)); intro gb118 hg w3 hbox hb; have BK118 := zm (hbox); have GW118 := zm ((by rw [hg]; exact (below_size (bx HB.out)) : w.heap.size ≤ gb118)); have GE118 := zm ((by rw [hg]; exact (below_size (bx HB.out)) : w.heap.size ≤ gb118)); replace HB := zm (below_step (bx HB.out) hb); clear hb hbox hg; have hcz4_0 := bc0 BK118.out; have hcz4_1 := bc1 BK118.out) | ((with_reducible refine gate_callee (f := 34) rfl ?_); refine goesL_ (some 5) rfl rfl Tryd.func34 (by kernel_rfl) rfl #[.slice A0_0 l0_0.length c0_0, .func (.func 35) #[] #[]] rfl ag ?_; (with_reducible refine (slices_IndexFunc_api_Node.calls k _ _ l0_0 _ _ _ t119 _ ?side1 HC0_0.out ?side3 ?side4 A2.out).mono ?_); (case side1 => exact cx (Kd.C_below HR0_0.out HB.out)); (case side3 => exact fun args_ w_ => enters_ Tryd.func35 (by kernel_rfl) rfl args_ w_); (case side4 => exact net_Start_1.ok); rintro e w5 ⟨rfl, hb⟩; refine ⟨_, rfl, ?_⟩; replace BK118 := zm (kB (kx BK118.out) hb); replace HB := zm (below_step (bx HB.out) hb); (try clear hb)))
 go_ret
 exact ⟨xe, bx HB.out⟩

def net_End_1.q : S37 → Option Bool := fun x => some (x.f0 == 2)
set_option maxHeartbeats 8000000 in
set_option maxRecDepth 100000 in
theorem net_End_1.ok {w : World} : FnOk58 36 #[] net_End_1.q w := by
 intro W x cs b hb0 hk hq
 simp only [net_End_1.q, Option.some.injEq] at hq
 subst hq
 clear hb0
 obtain ⟨A4, c4, rfl, hl4, hg4⟩ := k37_open hk
 clear hk
 have hu := Tryd.underlying37
 show Calls Tryd.prog 36 #[.agg #[.int .i64 x.f0, .int .i64 x.f1, .int .i64 x.f2.f0, .int .i64 x.f2.f1, .slice A4 x.f2.f2.length c4]] W _
 go_enter Tryd.func36, Tryd.ntmps36
 go_wp2_with (first | ((with_reducible refine gate_dst (N := 1) rfl ?_); refine box_event ?hg (N := 1) ?hd (cs := #[.int .i64 x.f0, .int .i64 x.f1, .int .i64 x.f2.f0, .int .i64 x.f2.f1, .slice A4 x.f2.f2.length c4]) (t := 37) ?hr ?_; (case hd => rfl); (case hg => rfl); (case hr => first | (go_simp; done) | (go_simp; rfl)); intro gb hg w2 hbox hb; have y0 : w2.cell? ⟨gb, 0, none⟩ = some (.int .i64 x.f0) := bc0 hbox; have y1 : w2.cell? ⟨gb, 1, none⟩ = some (.int .i64 x.f1) := bc1 hbox; have y2 : w2.cell? ⟨gb, 2, none⟩ = some (.int .i64 x.f2.f0) := bc2 hbox; have y3 : w2.cell? ⟨gb, 3, none⟩ = some (.int .i64 x.f2.f1) := bc3 hbox; have y4 : w2.cell? ⟨gb, 4, none⟩ = some (.slice A4 x.f2.f2.length c4) := bc4 hbox; have HB := zm hb; clear hb hbox hg))
 all_goals go_ret
 all_goals exact ⟨by first | rfl | (simp; done) | (simp [*]; done), by repeat (first | exact HB.out | apply bA | apply bN | apply bD)⟩

def net_End.f (k : Nat) (l0_0 : List (S37)) (l0_1 : List (S53)) : Option (Int) := (slices_IndexFunc_api_Node.f k l0_0 net_End_1.q).bind fun t121 => (some t121)
set_option maxRecDepth 100000 in
theorem net_End.mono : ∀ a0 a1 k, LeO (net_End.f k a0 a1) (net_End.f (k + 1) a0 a1) := by
 intro a0 a1 k
 unfold net_End.f
 repeat' first
 | (with_reducible exact slices_IndexFunc_api_Node.mono _ _ _)
 | (with_reducible exact LeO.refl _)
 | (with_reducible exact LeO.none _)
 | (with_reducible refine LeO.ite ?_ ?_)
 | (with_reducible refine LeO.bind ?_ (fun _ => ?_))
 | refine LeO.ite ?_ ?_
 | refine LeO.bind ?_ (fun _ => ?_)
set_option maxHeartbeats 8000000 in
set_option maxRecDepth 100000 in
theorem net_End.calls (k : Nat) (A0_0 : Option Addr) (c0_0 : Nat) (l0_0 : List (S37)) (A0_1 : Option Addr) (c0_1 : Nat) (l0_1 : List (S53)) (r : Int) (w : World) (hr0_0 : Kd.C k37 w A0_0 l0_0.length l0_0) (hc0_0 : l0_0.length ≤ c0_0) (hr0_1 : Kd.C k53 w A0_1 l0_1.length l0_1) (hc0_1 : l0_1.length ≤ c0_1) (h : net_End.f k l0_0 l0_1 = some r) :
  Calls Tryd.prog 16 #[.agg #[.slice A0_0 l0_0.length c0_0, .slice A0_1 l0_1.length c0_1]] w fun e w' => e = .returned (.int .i64 r) ∧ Below w.heap.size w w' := by
 have hu25 := Tryd.underlying25
 have HR0_0 := zm hr0_0
 have HC0_0 := zm hc0_0
 clear hr0_0 hc0_0
 have HR0_1 := zm hr0_1
 have HC0_1 := zm hc0_1
 clear hr0_1 hc0_1
 have HB := zm (Below.refl w.heap.size w)
 have H : ((slices_IndexFunc_api_Node.f k l0_0 net_End_1.q).bind fun t121 => (some t121)) = some r := h
 clear h
 replace H := Option.bind_eq_some_iff.mp H
 obtain ⟨t121, A20, H⟩ := H
 replace H : (some t121) = some r := H
 have A2 := zm A20
 clear A20
 obtain rfl := Option.some.inj H
 go_enter Tryd.func16, Tryd.ntmps16
 go_wp2_with (first | ((with_reducible refine gate_dst (N := 1) rfl ?_); refine box_event ?hg (N := 1) ?hd (cs := #[.slice A0_0 l0_0.length c0_0, .slice A0_1 l0_1.length c0_1]) (t := 25) ?hr ?_; (case hd => rfl); (case hg => rfl); (case hr => first | (go_simp; done) | (go_simp; rfl)); intro gb120 hg w3 hbox hb; have BK120 := zm (hbox); have GW120 := zm ((by rw [hg]; exact (below_size (bx HB.out)) : w.heap.size ≤ gb120)); have GE120 := zm ((by rw [hg]; exact (below_size (bx HB.out)) : w.heap.size ≤ gb120)); replace HB := zm (below_step (bx HB.out) hb); clear hb hbox hg; have hcz4_0 := bc0 BK120.out; have hcz4_1 := bc1 BK120.out) | ((with_reducible refine gate_callee (f := 34) rfl ?_); refine goesL_ (some 5) rfl rfl Tryd.func34 (by kernel_rfl) rfl #[.slice A0_0 l0_0.length c0_0, .func (.func 36) #[] #[]] rfl ag ?_; (with_reducible refine (slices_IndexFunc_api_Node.calls k _ _ l0_0 _ _ _ t121 _ ?side1 HC0_0.out ?side3 ?side4 A2.out).mono ?_); (case side1 => exact cx (Kd.C_below HR0_0.out HB.out)); (case side3 => exact fun args_ w_ => enters_ Tryd.func36 (by kernel_rfl) rfl args_ w_); (case side4 => exact net_End_1.ok); rintro e w5 ⟨rfl, hb⟩; refine ⟨_, rfl, ?_⟩; replace BK120 := zm (kB (kx BK120.out) hb); replace HB := zm (below_step (bx HB.out) hb); (try clear hb)))
 go_ret
 exact ⟨xe, bx HB.out⟩

def net_places.l0 : Nat → Int → (Int → Option Bool) → List (S47) → Int → Int → Option ((List (S47)))
 | 0, _, _, _, _, _ => none
 | k + 1, x0, x2, x7, x9, x10 => if x10 < x9 then ((QF64.f x10 x2).bind fun t122 => (if t122 = true then (if x7.length < 8796093022208 then (net_places.l0 k x0 x2 (x7 ++ [(⟨x0, x10⟩ : S47)]) x9 (wrap64 (x10 + 1))) else (none)) else (net_places.l0 k x0 x2 x7 x9 (wrap64 (x10 + 1))))) else (some x7)
def net_places.f (k : Nat) (a0 : Int) (a1 : Int) (a2 : (Int → Option Bool)) : Option ((List (S47))) := net_places.l0 k a0 a2 ([] : List (S47)) a1 0
set_option maxRecDepth 100000 in
theorem net_places.mono_l : ∀ k, (∀ y0 y1 y2 y3 y4, LeO (net_places.l0 k y0 y1 y2 y3 y4) (net_places.l0 (k + 1) y0 y1 y2 y3 y4))
 | 0 => fun _ _ _ _ _ r h => by first | (cases h; done) | simp [net_places.l0] at h
 | k + 1 => by
  have ih0 := net_places.mono_l k
  ·intro y0 y1 y2 y3 y4
   unfold net_places.l0
   repeat' first
   | (with_reducible exact ih0 _ _ _ _ _)
   | (with_reducible exact LeO.refl _)
   | (with_reducible exact LeO.none _)
   | (with_reducible refine LeO.ite ?_ ?_)
   | (with_reducible refine LeO.bind ?_ (fun _ => ?_))
   | refine LeO.ite ?_ ?_
   | refine LeO.bind ?_ (fun _ => ?_)
set_option maxRecDepth 100000 in
theorem net_places.mono : ∀ a0 a1 a2 k, LeO (net_places.f k a0 a1 a2) (net_places.f (k + 1) a0 a1 a2) := by
 intro a0 a1 a2 k
 have ih0 := net_places.mono_l k
 unfold net_places.f
 repeat' first
 | (with_reducible exact ih0 _ _ _ _ _)
 | (with_reducible exact LeO.refl _)
 | (with_reducible exact LeO.none _)
 | (with_reducible refine LeO.ite ?_ ?_)
 | (with_reducible refine LeO.bind ?_ (fun _ => ?_))
 | refine LeO.ite ?_ ?_
 | refine LeO.bind ?_ (fun _ => ?_)
set_option maxHeartbeats 8000000 in
set_option maxRecDepth 100000 in
theorem net_places.calls (k : Nat) (a0 : Int) (a1 : Int) (g2_ : Nat) (cp2_ : Array Value) (a2 : (Int → Option Bool)) (r : List (S47)) (w : World) (he2 : ∀ args w, (callFunc g2_ args).run Tryd.prog w = .ok (.enter g2_ args) w) (hq2 : FnOk64 g2_ cp2_ a2 w) (h : net_places.f k a0 a1 a2 = some r) :
  Calls Tryd.prog 37 #[.int .i64 a0, .int .i64 a1, .func (.func g2_) #[] cp2_] w fun e w' => ∃ v0_ : Value, e = .returned (v0_) ∧ Kd.R k47 47 w' w.heap.size (fun _ => True) v0_ r ∧ Below w.heap.size w w' := by
 have hu47 := Tryd.underlying47
 have HQ2 := zm hq2
 clear hq2
 have HB := zm (Below.refl w.heap.size w)
 have H : (net_places.l0 k a0 a2 ([] : List (S47)) a1 0) = some r := h
 clear h
 have H' := zm H
 clear H
 go_enter Tryd.func37, Tryd.ntmps37
 go_wp2
 go_loopg [7, 10] k (fun kq v7 v10 w' => ∃ (x7_1 : List (S47)) (x10_1 : Int), v10 = .int .i64 x10_1 ∧ Aside0 (net_places.l0 kq a0 a2 x7_1 a1 x10_1 = some r) ∧ Aside0 (kq ≤ k) ∧ Aside0 (Kd.R k47 47 w' w.heap.size (fun _ => True) v7 x7_1) ∧ Aside0 (Below w.heap.size w w'))
 case atStart => exact ⟨(([] : List (S47))), (0), (by first | rfl | (simp; done) | (simp [*]; done)), H', ⟨Nat.le_refl _⟩, ⟨by first | exact Kd.R_nil _ _ _ _ _ | exact Kd.N_nil _ _ _ _ _ | exact Kd.V_nil _ _ _ _ _ | exact Kd.Q_nil _ _ _ _ _ | exact Kd.S_nil _ _ _ _ _⟩, ⟨bx HB.out⟩⟩
 clear H'
 try clear p2
 try clear q2
 try clear c3
 obtain ⟨x7_1, x10_1, rfl, HA, HK1, HO_7, HB⟩ := hrel
 cases gk with
 | zero => exact absurd HA.out (by first | (intro h_; cases h_; done) | simp [net_places.l0])
 | succ k1 =>
  have H := HA.out
  clear HA
  simp only [net_places.l0] at H
  by_cases c4 : x10_1 < a1
  ·rw [if_pos c4] at H
   have c4b0 := decide_eq_true c4
   clear c4
   replace H := Option.bind_eq_some_iff.mp H
   obtain ⟨t122, A50, H⟩ := H
   replace H : (if t122 = true then (if x7_1.length < 8796093022208 then (net_places.l0 k1 a0 a2 (x7_1 ++ [(⟨a0, x10_1⟩ : S47)]) a1 (wrap64 (x10_1 + 1))) else (none)) else (net_places.l0 k1 a0 a2 x7_1 a1 (wrap64 (x10_1 + 1)))) = some r := H
   have A5 := zm A50
   clear A50
   have HC6 := zm H
   clear H
   go_upto_if 15 with (first | (go_at_fn g2_; (with_reducible refine (QF64.calls x10_1 _ _ a2 t122 _ ?side1 ?side2 A5.out).mono ?_); (case side1 => exact he2); (case side2 => exact FnOk64.below HQ2.out (bx HB.out)); rintro e w7 ⟨rfl, hb⟩; replace HO_7 := zm (Kd.R_below (rx HO_7.out) hb); replace HB := zm (below_step (bx HB.out) hb); (try clear hb)))
   have H := HC6.out
   clear HC6
   by_cases c8 : t122 = true
   ·subst c8
    rw [if_pos rfl] at H
    by_cases c9 : x7_1.length < 8796093022208
    ·rw [if_pos c9] at H
     have LMc9 := zm c9
     clear c9
     obtain ⟨y123, hy123⟩ : ∃ y_ : List (S47), y_ = (x7_1 ++ [(⟨a0, x10_1⟩ : S47)]) := ⟨_, rfl⟩
     replace H : (net_places.l0 k1 a0 a2 y123 a1 (wrap64 (x10_1 + 1))) = some r := by first | (rw [hy123]; with_reducible exact H) | (have H2_ := (Option.bind_some _ _).symm.trans H; rw [hy123]; with_reducible exact H2_) | (have H2_ := (Option.bind_some _ _).symm.trans H; with_reducible exact H2_) | with_reducible exact H | (rw [hy123]; exact H) | exact H
     have Ny123 := zm hy123
     clear hy123
     have H' := zm H
     clear H
     go_wp2_with (first | ((with_reducible refine gate_builtin (b := .append) (xs := #[.tmp 16, .tmp 20]) rfl ?_); at_builtin; refine Kd.R_append k47 (w0 := w) w.heap.size rfl (.tmp 16) (.tmp 20) 44 47 (.agg #[(.int .i64 0), (.int .i64 0)]) 16 rfl Tryd.underlying44 info47 rfl (by decide) (by omega) u7 x7_1 (⟨a0, x10_1⟩ : S47) [.int .i64 a0, .int .i64 x10_1] (fun _ => True) (fun _ => False) rfl rfl ?aP (fun _ hk => hk.elim) ?aF ?aO ?aB ?aS ?aL ?_; (case aP => exact k47_mkM _ _ _ (⟨a0, x10_1⟩ : S47)); (case aB => exact (bx HB.out)); (case aF => exact (fun _ _ => trivial)); (case aO => exact (rx HO_7.out)); (case aS => exact (below_size (bx HB.out))); (case aL => have := LMc9.out; omega); intro v124 w10 ho hb hg hat; rw [← Ny123.out] at ho; replace HB := zm (hb); have HO125 := zm (ho); clear HO_7 ho hb hg hat))
     go_roundg k1
     case measure => have := HK1.out; omega
     case rel => exact ⟨(y123), (wrap64 (x10_1 + 1)), (by first | rfl | (simp; done) | (simp [*]; done)), H', ⟨by have := HK1.out; omega⟩, ⟨rx HO125.out⟩, ⟨bx HB.out⟩⟩
    rw [if_neg c9] at H
    exact absurd H (by simp)
   replace c8 := Bool.eq_false_iff.mpr c8
   subst c8
   rw [if_neg (show ¬ (false = true) by decide)] at H
   have H' := zm H
   clear H
   go_wp2
   go_roundg k1
   case measure => have := HK1.out; omega
   case rel => exact ⟨(x7_1), (wrap64 (x10_1 + 1)), (by first | rfl | (simp; done) | (simp [*]; done)), H', ⟨by have := HK1.out; omega⟩, ⟨rx HO_7.out⟩, ⟨bx HB.out⟩⟩
  rw [if_neg c4] at H
  have c4b0 := decide_eq_false c4
  clear c4
  obtain rfl := Option.some.inj H
  go_wp2
  go_ret
  exact ⟨_, xe, rx HO_7.out, bx HB.out⟩

def slices_IndexFunc_api_Term.l0 : Nat → List (S35) → (S35 → Option Bool) → Int → Int → Option (Int)
 | 0, _, _, _, _ => none
 | k + 1, x0, x1, x7, x8 => if x8 < x7 then (if 0 ≤ x8 then (if x8 < (x0.length : Int) then ((QF70.f ((rd_T35 x0 x8).f0) ((rd_T35 x0 x8).f1) ((rd_T35 x0 x8).f2) x1).bind fun t127 => (if t127 = true then (some x8) else (slices_IndexFunc_api_Term.l0 k x0 x1 x7 (wrap64 (x8 + 1))))) else (none)) else (none)) else (some (-1))
def slices_IndexFunc_api_Term.f (k : Nat) (l0 : List (S35)) (a1 : (S35 → Option Bool)) : Option (Int) := slices_IndexFunc_api_Term.l0 k l0 a1 (l0.length : Int) 0
set_option maxRecDepth 100000 in
theorem slices_IndexFunc_api_Term.mono_l : ∀ k, (∀ y0 y1 y2 y3, LeO (slices_IndexFunc_api_Term.l0 k y0 y1 y2 y3) (slices_IndexFunc_api_Term.l0 (k + 1) y0 y1 y2 y3))
 | 0 => fun _ _ _ _ r h => by first | (cases h; done) | simp [slices_IndexFunc_api_Term.l0] at h
 | k + 1 => by
  have ih0 := slices_IndexFunc_api_Term.mono_l k
  ·intro y0 y1 y2 y3
   unfold slices_IndexFunc_api_Term.l0
   repeat' first
   | (with_reducible exact ih0 _ _ _ _)
   | (with_reducible exact LeO.refl _)
   | (with_reducible exact LeO.none _)
   | (with_reducible refine LeO.ite ?_ ?_)
   | (with_reducible refine LeO.bind ?_ (fun _ => ?_))
   | refine LeO.ite ?_ ?_
   | refine LeO.bind ?_ (fun _ => ?_)
set_option maxRecDepth 100000 in
theorem slices_IndexFunc_api_Term.mono : ∀ a0 a1 k, LeO (slices_IndexFunc_api_Term.f k a0 a1) (slices_IndexFunc_api_Term.f (k + 1) a0 a1) := by
 intro a0 a1 k
 have ih0 := slices_IndexFunc_api_Term.mono_l k
 unfold slices_IndexFunc_api_Term.f
 repeat' first
 | (with_reducible exact ih0 _ _ _ _)
 | (with_reducible exact LeO.refl _)
 | (with_reducible exact LeO.none _)
 | (with_reducible refine LeO.ite ?_ ?_)
 | (with_reducible refine LeO.bind ?_ (fun _ => ?_))
 | refine LeO.ite ?_ ?_
 | refine LeO.bind ?_ (fun _ => ?_)
set_option maxHeartbeats 8000000 in
set_option maxRecDepth 100000 in
theorem slices_IndexFunc_api_Term.calls (k : Nat) (A0 : Option Addr) (c0 : Nat) (l0 : List (S35)) (g1_ : Nat) (cp1_ : Array Value) (a1 : (S35 → Option Bool)) (r : Int) (w : World) (hr0 : Kd.C k35 w A0 l0.length l0) (hc0 : l0.length ≤ c0) (he1 : ∀ args w, (callFunc g1_ args).run Tryd.prog w = .ok (.enter g1_ args) w) (hq1 : FnOk70 g1_ cp1_ a1 w) (h : slices_IndexFunc_api_Term.f k l0 a1 = some r) :
  Calls Tryd.prog 72 #[.slice A0 l0.length c0, .func (.func g1_) #[] cp1_] w fun e w' => e = .returned (.int .i64 r) ∧ Below w.heap.size w w' := by
 have hu35 := Tryd.underlying35
 have HR0 := zm hr0
 have HC0 := zm hc0
 clear hr0 hc0
 have HQ1 := zm hq1
 clear hq1
 have HB := zm (Below.refl w.heap.size w)
 have H : (slices_IndexFunc_api_Term.l0 k l0 a1 (l0.length : Int) 0) = some r := h
 clear h
 have H' := zm H
 clear H
 go_enter Tryd.func72, Tryd.ntmps72
 go_wp2
 go_loopg [8] k (fun kq v8 w' => ∃ (x8_1 : Int), v8 = .int .i64 x8_1 ∧ Aside0 (slices_IndexFunc_api_Term.l0 kq l0 a1 (l0.length : Int) x8_1 = some r) ∧ Aside0 (kq ≤ k) ∧ Aside0 (Below w.heap.size w w'))
 case atStart => exact ⟨(0), (by first | rfl | (simp; done) | (simp [*]; done)), H', ⟨Nat.le_refl _⟩, ⟨bx HB.out⟩⟩
 clear H'
 try clear q1
 try clear p2
 obtain ⟨x8_1, rfl, HA, HK1, HB⟩ := hrel
 cases gk with
 | zero => exact absurd HA.out (by first | (intro h_; cases h_; done) | simp [slices_IndexFunc_api_Term.l0])
 | succ k1 =>
  have H := HA.out
  clear HA
  simp only [slices_IndexFunc_api_Term.l0] at H
  by_cases c3 : x8_1 < (l0.length : Int)
  ·rw [if_pos c3] at H
   have c3b0 := decide_eq_true c3
   clear c3
   by_cases c4 : 0 ≤ x8_1
   ·rw [if_pos c4] at H
    have c4b0 := decide_eq_true c4
    clear c4
    by_cases c5 : x8_1 < (l0.length : Int)
    ·rw [if_pos c5] at H
     have c5b0 := decide_eq_true c5
     clear c5
     replace H := Option.bind_eq_some_iff.mp H
     obtain ⟨t127, A60, H⟩ := H
     replace H : (if t127 = true then (some x8_1) else (slices_IndexFunc_api_Term.l0 k1 l0 a1 (l0.length : Int) (wrap64 (x8_1 + 1)))) = some r := H
     have A6 := zm A60
     clear A60
     have HC7 := zm H
     clear H
     have p126 : 0 ≤ (x8_1 : Int) := od
     have q126 : x8_1 < (l0.length : Int) := od
     obtain ⟨ad126, A126_2, c126_2, e126, hx126_0, hx126_1, hx126_2, hl126_2, hi126_2⟩ := at_T35 HR0.out x8_1 p126 q126
     cases e126
     replace hx126_0 := cb HB.out hx126_0
     replace hx126_1 := cb HB.out hx126_1
     replace hx126_2 := cb HB.out hx126_2
     have HR126_2 := zm hi126_2
     have HC126_2 := zm hl126_2
     clear hi126_2 hl126_2
     replace p126 := eq_true p126
     replace q126 := eq_true q126
     go_upto_if 16 with (first | (go_at_fn g1_; (with_reducible refine (QF70.calls ((rd_T35 l0 x8_1).f0) ((rd_T35 l0 x8_1).f1) _ _ ((rd_T35 l0 x8_1).f2) _ _ a1 t127 _ ?side1 HC126_2.out ?side3 ?side4 A6.out).mono ?_); (case side1 => exact cx (Kd.C_below HR126_2.out HB.out)); (case side3 => exact he1); (case side4 => exact FnOk70.below HQ1.out (bx HB.out)); rintro e w8 ⟨rfl, hb⟩; replace HB := zm (below_step (bx HB.out) hb); (try clear hb)))
     have H := HC7.out
     clear HC7
     by_cases c9 : t127 = true
     ·subst c9
      rw [if_pos rfl] at H
      obtain rfl := Option.some.inj H
      go_wp2
      go_ret
      exact ⟨xe, bx HB.out⟩
     replace c9 := Bool.eq_false_iff.mpr c9
     subst c9
     rw [if_neg (show ¬ (false = true) by decide)] at H
     have H' := zm H
     clear H
     go_wp2
     go_roundg k1
     case measure => have := HK1.out; omega
     case rel => exact ⟨(wrap64 (x8_1 + 1)), (by first | rfl | (simp; done) | (simp [*]; done)), H', ⟨by have := HK1.out; omega⟩, ⟨bx HB.out⟩⟩
    rw [if_neg c5] at H
    exact absurd H (by simp)
   rw [if_neg c4] at H
   exact absurd H (by simp)
  rw [if_neg c3] at H
  have c3b0 := decide_eq_false c3
  try (have c3b9 := c3b0; rw [hl126_2] at c3b9)
  clear c3
  obtain rfl := Option.some.inj H
  go_wp2
  go_ret
  exact ⟨xe, bx HB.out⟩

def slices_ContainsFunc_api_Term.f (k : Nat) (l0 : List (S35)) (a1 : (S35 → Option Bool)) : Option (Bool) := (slices_IndexFunc_api_Term.f k l0 a1).bind fun t128 => (some (decide (t128 ≥ 0)))
set_option maxRecDepth 100000 in
theorem slices_ContainsFunc_api_Term.mono : ∀ a0 a1 k, LeO (slices_ContainsFunc_api_Term.f k a0 a1) (slices_ContainsFunc_api_Term.f (k + 1) a0 a1) := by
 intro a0 a1 k
 unfold slices_ContainsFunc_api_Term.f
 repeat' first
 | (with_reducible exact slices_IndexFunc_api_Term.mono _ _ _)
 | (with_reducible exact LeO.refl _)
 | (with_reducible exact LeO.none _)
 | (with_reducible refine LeO.ite ?_ ?_)
 | (with_reducible refine LeO.bind ?_ (fun _ => ?_))
 | refine LeO.ite ?_ ?_
 | refine LeO.bind ?_ (fun _ => ?_)
set_option maxHeartbeats 8000000 in
set_option maxRecDepth 100000 in
theorem slices_ContainsFunc_api_Term.calls (k : Nat) (A0 : Option Addr) (c0 : Nat) (l0 : List (S35)) (g1_ : Nat) (cp1_ : Array Value) (a1 : (S35 → Option Bool)) (r : Bool) (w : World) (hr0 : Kd.C k35 w A0 l0.length l0) (hc0 : l0.length ≤ c0) (he1 : ∀ args w, (callFunc g1_ args).run Tryd.prog w = .ok (.enter g1_ args) w) (hq1 : FnOk70 g1_ cp1_ a1 w) (h : slices_ContainsFunc_api_Term.f k l0 a1 = some r) :
  Calls Tryd.prog 67 #[.slice A0 l0.length c0, .func (.func g1_) #[] cp1_] w fun e w' => e = .returned (.bool r) ∧ Below w.heap.size w w' := by
 have HR0 := zm hr0
 have HC0 := zm hc0
 clear hr0 hc0
 have HQ1 := zm hq1
 clear hq1
 have HB := zm (Below.refl w.heap.size w)
 have H : ((slices_IndexFunc_api_Term.f k l0 a1).bind fun t128 => (some (decide (t128 ≥ 0)))) = some r := h
 clear h
 replace H := Option.bind_eq_some_iff.mp H
 obtain ⟨t128, A30, H⟩ := H
 replace H : (some (decide (t128 ≥ 0))) = some r := H
 have A3 := zm A30
 clear A30
 obtain rfl := Option.some.inj H
 go_enter Tryd.func67, Tryd.ntmps67
 go_wp2_with (first | ((with_reducible refine gate_callee (f := 72) rfl ?_); refine goesL_ (some 7) rfl rfl Tryd.func72 (by kernel_rfl) rfl #[.slice A0 l0.length c0, .func (.func g1_) #[] cp1_] rfl ag ?_; (with_reducible refine (slices_IndexFunc_api_Term.calls k _ _ l0 _ _ a1 t128 _ ?side1 HC0.out ?side3 ?side4 A3.out).mono ?_); (case side1 => exact cx HR0.out); (case side3 => exact he1); (case side4 => exact FnOk70.below HQ1.out (bx HB.out)); rintro e w4 ⟨rfl, hb⟩; refine ⟨_, rfl, ?_⟩; replace HB := zm (below_step (bx HB.out) hb); (try clear hb)))
 go_ret
 exact ⟨xe, bx HB.out⟩


theorem term_deep.ixup {q q' : S35 → Option Bool} (hq : ∀ x, LeO (q x) (q' x)) : ∀ k l i n, LeO (slices_IndexFunc_api_Term.l0 k l q n i) (slices_IndexFunc_api_Term.l0 (k + 1) l q' n i)
 | 0, _, _, _ => fun r h => by first | (cases h; done) | simp [slices_IndexFunc_api_Term.l0] at h
 | k + 1, l, i, n => by
  have ih := term_deep.ixup hq k l
  unfold slices_IndexFunc_api_Term.l0
  repeat' first
  | exact ih _ _
  | exact LeO.none _
  | exact LeO.refl _
  | exact hq _
  | refine LeO.ite ?_ ?_
  | refine LeO.bind ?_ (fun _ => ?_)
theorem term_deep.cfup {q q' : S35 → Option Bool} (hq : ∀ x, LeO (q x) (q' x)) (k : Nat) (l : List S35) : LeO (slices_ContainsFunc_api_Term.f k l q) (slices_ContainsFunc_api_Term.f (k + 1) l q') := by
 unfold slices_ContainsFunc_api_Term.f slices_IndexFunc_api_Term.f
 exact LeO.bind (term_deep.ixup hq k l _ _) (fun _ => LeO.refl _)
def term_deep.f : Nat → Int → Int → List S35 → Int → Option Bool
 | 0, _, _, _, _ => none
 | k + 1, a0_0, a0_1, l0_2, a1 => if a1 > 24 then some true else slices_ContainsFunc_api_Term.f k l0_2 (fun x => term_deep.f k x.f0 x.f1 x.f2 (wrap64 (a1 + 1)))
theorem term_deep.mono : ∀ a0 a1 a2 a3 k, LeO (term_deep.f k a0 a1 a2 a3) (term_deep.f (k + 1) a0 a1 a2 a3)
 | _, _, _, _, 0 => fun r h => by cases h
 | a0, a1, a2, a3, k + 1 => by
  unfold term_deep.f
  exact LeO.ite (LeO.refl _) (term_deep.cfup (fun x => term_deep.mono _ _ _ _ k) k a2)
set_option maxHeartbeats 8000000 in
set_option maxRecDepth 100000 in
theorem term_deep.clo {k : Nat} (ih : ∀ (a0_0 : Int) (a0_1 : Int) (A0_2 : Option Addr) (c0_2 : Nat) (l0_2 : List (S35)) (a1 : Int) (r : Bool) (w : World) (hr0_2 : Kd.C k35 w A0_2 l0_2.length l0_2) (hc0_2 : l0_2.length ≤ c0_2) (h : term_deep.f k a0_0 a0_1 l0_2 a1 = some r),
  Calls Tryd.prog 65 #[.agg #[.int .i64 a0_0, .int .i64 a0_1, .slice A0_2 l0_2.length c0_2], .int .i64 a1] w fun e w' => e = .returned (.bool r) ∧ Below w.heap.size w w')
  {g : Nat} {d : Int} {w : World} (hG0 : w.heap[g]? = some (.cells #[.int .i64 d] 3 (0, 0))) : FnOk70 70 #[.pointer (some ⟨g, 0, none⟩)] (fun x => term_deep.f k x.f0 x.f1 x.f2 (wrap64 (d + 1))) w := by
 intro W x cs b hb0 hk hq
 have hG := blk_below hG0 hb0
 clear hG0 hb0
 obtain ⟨A2, c2, rfl, hl2, hg2⟩ := k35_open hk
 clear hk
 have hu := Tryd.underlying35
 show Calls Tryd.prog 70 #[.agg #[.int .i64 x.f0, .int .i64 x.f1, .slice A2 x.f2.length c2], .pointer (some ⟨g, 0, none⟩)] W _
 go_enter Tryd.func70, Tryd.ntmps70
 go_wp2_with (first | ((with_reducible refine gate_dst (N := 2) rfl ?_); refine box_event ?hg (N := 2) ?hd (cs := #[.int .i64 x.f0, .int .i64 x.f1, .slice A2 x.f2.length c2]) (t := 35) ?hr ?_; (case hd => rfl); (case hg => rfl); (case hr => first | (go_simp; done) | (go_simp; rfl)); intro gb hg w2 hbox hb; have z0 : w2.cell? ⟨g, 0, none⟩ = some (.int .i64 d) := (blk_cell (blk_below hG hb) 0).trans rfl; have ygb0 : w2.cell? ⟨gb, 0, none⟩ = some (.int .i64 x.f0) := bc0 hbox; have ygb1 : w2.cell? ⟨gb, 1, none⟩ = some (.int .i64 x.f1) := bc1 hbox; have ygb2 : w2.cell? ⟨gb, 2, none⟩ = some (.slice A2 x.f2.length c2) := bc2 hbox; have HB := zm hb; have HK := zm (Kd.C_below hg2 hb); clear hb hbox hg) | (go_at_call 65; refine (ih x.f0 x.f1 A2 c2 x.f2 (wrap64 (d + 1)) b _ HK.out hl2 hq).mono ?_; rintro e w3 ⟨rfl, hb⟩; have n0_ := zm (below_step HB.out hb); clear HB; have HB := n0_; clear n0_ hb))
 all_goals go_ret
 all_goals exact ⟨by first | rfl | (simp; done) | (simp [*]; done), (bx HB.out)⟩
set_option maxHeartbeats 8000000 in
set_option maxRecDepth 100000 in
theorem term_deep.calls (k : Nat) : ∀ (a0_0 : Int) (a0_1 : Int) (A0_2 : Option Addr) (c0_2 : Nat) (l0_2 : List (S35)) (a1 : Int) (r : Bool) (w : World) (hr0_2 : Kd.C k35 w A0_2 l0_2.length l0_2) (hc0_2 : l0_2.length ≤ c0_2) (h : term_deep.f k a0_0 a0_1 l0_2 a1 = some r),
  Calls Tryd.prog 65 #[.agg #[.int .i64 a0_0, .int .i64 a0_1, .slice A0_2 l0_2.length c0_2], .int .i64 a1] w fun e w' => e = .returned (.bool r) ∧ Below w.heap.size w w' := by
 induction k with
 | zero => intro _ _ _ _ _ _ _ _ _ _ h; cases h
 | succ k ih =>
 intro a0_0 a0_1 A0_2 c0_2 l0_2 a1 r w hr0_2 hc0_2 h
 have IH := zm ih
 have HR := zm hr0_2
 have HC := zm hc0_2
 clear ih hr0_2 hc0_2
 have hmf : ∀ (fn : Fn) (first cap : Array Value) (w : World), (Instr.makeFunc fn first cap).run Tryd.prog w = .ok (.func fn first cap) w := fun _ _ _ _ => rfl
 have hu := Tryd.underlying35
 unfold term_deep.f at h
 by_cases c1 : a1 > 24
 ·rw [if_pos c1] at h
  obtain rfl := Option.some.inj h
  clear h
  have c1b : decide (24 < a1) = true := decide_eq_true c1
  clear c1
  go_enter Tryd.func65, Tryd.ntmps65
  go_wp2_with (first | ((with_reducible refine gate_dst (N := 2) rfl ?_); refine box_event ?hg (N := 2) ?hd (cs := #[.int .i64 a0_0, .int .i64 a0_1, .slice A0_2 l0_2.length c0_2]) (t := 35) ?hr ?_; (case hd => rfl); (case hg => rfl); (case hr => first | (go_simp; done) | (go_simp; rfl)); intro gb hg w2 hbox hb; have ygb0 : w2.cell? ⟨gb, 0, none⟩ = some (.int .i64 a0_0) := bc0 hbox; have ygb1 : w2.cell? ⟨gb, 1, none⟩ = some (.int .i64 a0_1) := bc1 hbox; have ygb2 : w2.cell? ⟨gb, 2, none⟩ = some (.slice A0_2 l0_2.length c0_2) := bc2 hbox; have HB := zm hb; have G2 := zm hbox; clear hb hbox hg) | ((with_reducible refine gate_dst (N := 3) rfl ?_); refine box_event ?hg (N := 3) ?hd (cs := #[.int .i64 a1]) (t := 3) ?hr ?_; (case hd => rfl); (case hg => rfl); (case hr => first | (go_simp; done) | (go_simp; rfl)); intro gd hg w3 hbox hb; replace HB := zm (below_step HB.out hb); replace G2 := zm (blk_below G2.out hb); have G3 := zm hbox; have ygb0 : w3.cell? ⟨gb, 0, none⟩ = some (.int .i64 a0_0) := bc0 G2.out; have ygb1 : w3.cell? ⟨gb, 1, none⟩ = some (.int .i64 a0_1) := bc1 G2.out; have ygb2 : w3.cell? ⟨gb, 2, none⟩ = some (.slice A0_2 l0_2.length c0_2) := bc2 G2.out; have ygd0 : w3.cell? ⟨gd, 0, none⟩ = some (.int .i64 a1) := bc0 G3.out; clear hb hbox hg))
  all_goals go_ret
  all_goals exact ⟨by first | rfl | (simp; done) | (simp [*]; done), (bx HB.out)⟩
 rw [if_neg c1] at h
 have H := zm h
 clear h
 have c1b : decide (24 < a1) = false := decide_eq_false c1
 clear c1
 go_enter Tryd.func65, Tryd.ntmps65
 go_wp2_with (first | ((with_reducible refine gate_dst (N := 2) rfl ?_); refine box_event ?hg (N := 2) ?hd (cs := #[.int .i64 a0_0, .int .i64 a0_1, .slice A0_2 l0_2.length c0_2]) (t := 35) ?hr ?_; (case hd => rfl); (case hg => rfl); (case hr => first | (go_simp; done) | (go_simp; rfl)); intro gb hg w2 hbox hb; have ygb0 : w2.cell? ⟨gb, 0, none⟩ = some (.int .i64 a0_0) := bc0 hbox; have ygb1 : w2.cell? ⟨gb, 1, none⟩ = some (.int .i64 a0_1) := bc1 hbox; have ygb2 : w2.cell? ⟨gb, 2, none⟩ = some (.slice A0_2 l0_2.length c0_2) := bc2 hbox; have HB := zm hb; have G2 := zm hbox; clear hb hbox hg) | ((with_reducible refine gate_dst (N := 3) rfl ?_); refine box_event ?hg (N := 3) ?hd (cs := #[.int .i64 a1]) (t := 3) ?hr ?_; (case hd => rfl); (case hg => rfl); (case hr => first | (go_simp; done) | (go_simp; rfl)); intro gd hg w3 hbox hb; replace HB := zm (below_step HB.out hb); replace G2 := zm (blk_below G2.out hb); have G3 := zm hbox; have ygb0 : w3.cell? ⟨gb, 0, none⟩ = some (.int .i64 a0_0) := bc0 G2.out; have ygb1 : w3.cell? ⟨gb, 1, none⟩ = some (.int .i64 a0_1) := bc1 G2.out; have ygb2 : w3.cell? ⟨gb, 2, none⟩ = some (.slice A0_2 l0_2.length c0_2) := bc2 G2.out; have ygd0 : w3.cell? ⟨gd, 0, none⟩ = some (.int .i64 a1) := bc0 G3.out; clear hb hbox hg) | (go_at_call 67; refine (slices_ContainsFunc_api_Term.calls k A0_2 c0_2 l0_2 70 _ _ r _ (Kd.C_below HR.out HB.out) HC.out (fun args_ w_ => enters_ Tryd.func70 (by kernel_rfl) rfl args_ w_) (term_deep.clo IH.out G3.out) H.out).mono ?_; rintro e w4 ⟨rfl, hb⟩; have n0_ := zm (below_step HB.out hb); clear HB; have HB := n0_; clear n0_ hb))
 all_goals go_ret
 all_goals exact ⟨by first | rfl | (simp; done) | (simp [*]; done), (bx HB.out)⟩


def term_shaped.f : Nat → Int → Int → List S35 → Option Bool
 | 0, _, _, _ => none
 | k + 1, op, n, l =>
  if op = 1 then some ((decide (((l.length : Nat) : Int) = 0) && decide (0 ≤ n)) && decide (n ≤ 1099511627776))
  else if op = 2 then some ((decide (((l.length : Nat) : Int) = 0) && decide (0 ≤ n)) && decide (n < 4))
  else if op < 3 then some false
  else if 14 < op then some false
  else if n = 0 then (if ((l.length : Nat) : Int) = Words.kids op.toNat then (slices_ContainsFunc_api_Term.f k l (fun x => (term_shaped.f k x.f0 x.f1 x.f2).bind fun b => some (!b))).bind fun b => some (!b) else some false)
  else some false
theorem term_shaped.mono : ∀ a0 a1 a2 k, LeO (term_shaped.f k a0 a1 a2) (term_shaped.f (k + 1) a0 a1 a2)
 | _, _, _, 0 => fun r h => by cases h
 | a0, a1, a2, k + 1 => by
  unfold term_shaped.f
  repeat' first
  | exact LeO.refl _
  | exact term_deep.cfup (fun x => LeO.bind (term_shaped.mono _ _ _ k) (fun _ => LeO.refl _)) k a2
  | refine LeO.ite ?_ ?_
  | refine LeO.bind ?_ (fun _ => ?_)
set_option maxHeartbeats 8000000 in
set_option maxRecDepth 100000 in
theorem term_shaped.clo {k : Nat} (ih : ∀ (a0_0 : Int) (a0_1 : Int) (A0_2 : Option Addr) (c0_2 : Nat) (l0_2 : List (S35)) (r : Bool) (w : World) (hr0_2 : Kd.C k35 w A0_2 l0_2.length l0_2) (hc0_2 : l0_2.length ≤ c0_2) (h : term_shaped.f k a0_0 a0_1 l0_2 = some r) (hT : Words.Tab w),
  Calls Tryd.prog 66 #[.agg #[.int .i64 a0_0, .int .i64 a0_1, .slice A0_2 l0_2.length c0_2]] w fun e w' => e = .returned (.bool r) ∧ Below w.heap.size w w') {w : World} (hT : Words.Tab w) : FnOk70 71 #[] (fun x => (term_shaped.f k x.f0 x.f1 x.f2).bind fun b => some (!b)) w := by
 intro W x cs b hb0 hk hq
 have HT := zm (Words.tab_below hT hb0)
 clear hb0 hT
 obtain ⟨A2, c2, rfl, hl2, hg2⟩ := k35_open hk
 clear hk
 obtain ⟨b2, hq2, h2⟩ := Option.bind_eq_some_iff.mp hq
 obtain rfl := Option.some.inj h2
 clear h2 hq
 have hu := Tryd.underlying35
 show Calls Tryd.prog 71 #[.agg #[.int .i64 x.f0, .int .i64 x.f1, .slice A2 x.f2.length c2]] W _
 go_enter Tryd.func71, Tryd.ntmps71
 go_wp2_with (first | ((with_reducible refine gate_dst (N := 1) rfl ?_); refine box_event ?hg (N := 1) ?hd (cs := #[.int .i64 x.f0, .int .i64 x.f1, .slice A2 x.f2.length c2]) (t := 35) ?hr ?_; (case hd => rfl); (case hg => rfl); (case hr => first | (go_simp; done) | (go_simp; rfl)); intro gb hg w2 hbox hb; have ygb0 : w2.cell? ⟨gb, 0, none⟩ = some (.int .i64 x.f0) := bc0 hbox; have ygb1 : w2.cell? ⟨gb, 1, none⟩ = some (.int .i64 x.f1) := bc1 hbox; have ygb2 : w2.cell? ⟨gb, 2, none⟩ = some (.slice A2 x.f2.length c2) := bc2 hbox; have HB := zm hb; have HK := zm (Kd.C_below hg2 hb); have HT2 := zm (Words.tab_below HT.out hb); clear hb hbox hg) | (go_at_call 66; go_loud (refine (ih x.f0 x.f1 A2 c2 x.f2 b2 _ HK.out hl2 hq2 HT2.out).mono ?_; rintro e w3 ⟨rfl, hb⟩; have n0_ := zm (below_step HB.out hb); clear HB; have HB := n0_; clear n0_ hb)))
 all_goals go_ret
 all_goals exact ⟨by first | rfl | (simp; done) | (simp [*]; done), (bx HB.out)⟩
set_option maxHeartbeats 16000000 in
set_option maxRecDepth 100000 in
theorem term_shaped.calls (k : Nat) : ∀ (a0_0 : Int) (a0_1 : Int) (A0_2 : Option Addr) (c0_2 : Nat) (l0_2 : List (S35)) (r : Bool) (w : World) (hr0_2 : Kd.C k35 w A0_2 l0_2.length l0_2) (hc0_2 : l0_2.length ≤ c0_2) (h : term_shaped.f k a0_0 a0_1 l0_2 = some r) (hT : Words.Tab w),
  Calls Tryd.prog 66 #[.agg #[.int .i64 a0_0, .int .i64 a0_1, .slice A0_2 l0_2.length c0_2]] w fun e w' => e = .returned (.bool r) ∧ Below w.heap.size w w' := by
 induction k with
 | zero => intro _ _ _ _ _ _ _ _ _ h; cases h
 | succ k ih =>
 intro op n A0_2 c0_2 l0_2 r w hr0_2 hc0_2 h hT
 have IH := zm ih
 have HR := zm hr0_2
 have HC := zm hc0_2
 have HT := zm hT
 clear ih hr0_2 hc0_2 hT
 have hmf : ∀ (fn : Fn) (first cap : Array Value) (w : World), (Instr.makeFunc fn first cap).run Tryd.prog w = .ok (.func fn first cap) w := fun _ _ _ _ => rfl
 have hu := Tryd.underlying35
 unfold term_shaped.f at h
 by_cases c1 : op = 1
 ·rw [if_pos c1] at h
  obtain rfl := Option.some.inj h
  clear h
  have c1b : (op == 1) = true := beq_iff_eq.mpr c1
  clear c1
  go_enter Tryd.func66, Tryd.ntmps66
  go_wp2_with (first | ((with_reducible refine gate_dst (N := 1) rfl ?_); refine box_event ?hg (N := 1) ?hd (cs := #[.int .i64 op, .int .i64 n, .slice A0_2 l0_2.length c0_2]) (t := 35) ?hr ?_; (case hd => rfl); (case hg => rfl); (case hr => first | (go_simp; done) | (go_simp; rfl)); intro gb hg w2 hbox hb; have ygb0 : w2.cell? ⟨gb, 0, none⟩ = some (.int .i64 op) := bc0 hbox; have ygb1 : w2.cell? ⟨gb, 1, none⟩ = some (.int .i64 n) := bc1 hbox; have ygb2 : w2.cell? ⟨gb, 2, none⟩ = some (.slice A0_2 l0_2.length c0_2) := bc2 hbox; have HB := zm hb; have G2 := zm hbox; clear hb hbox hg))
  all_goals go_ret
  all_goals exact ⟨by first | rfl | (simp; done) | (simp [*]; done) | (simp [*]; omega), (bx HB.out)⟩
 rw [if_neg c1] at h
 have c1b : (op == 1) = false := beq_eq_false_iff_ne.mpr c1
 by_cases c2 : op = 2
 ·rw [if_pos c2] at h
  obtain rfl := Option.some.inj h
  clear h c1
  have c2b : (op == 2) = true := beq_iff_eq.mpr c2
  clear c2
  go_enter Tryd.func66, Tryd.ntmps66
  go_wp2_with (first | ((with_reducible refine gate_dst (N := 1) rfl ?_); refine box_event ?hg (N := 1) ?hd (cs := #[.int .i64 op, .int .i64 n, .slice A0_2 l0_2.length c0_2]) (t := 35) ?hr ?_; (case hd => rfl); (case hg => rfl); (case hr => first | (go_simp; done) | (go_simp; rfl)); intro gb hg w2 hbox hb; have ygb0 : w2.cell? ⟨gb, 0, none⟩ = some (.int .i64 op) := bc0 hbox; have ygb1 : w2.cell? ⟨gb, 1, none⟩ = some (.int .i64 n) := bc1 hbox; have ygb2 : w2.cell? ⟨gb, 2, none⟩ = some (.slice A0_2 l0_2.length c0_2) := bc2 hbox; have HB := zm hb; have G2 := zm hbox; clear hb hbox hg))
  all_goals go_ret
  all_goals exact ⟨by first | rfl | (simp; done) | (simp [*]; done) | (simp [*]; omega), (bx HB.out)⟩
 rw [if_neg c2] at h
 have c2b : (op == 2) = false := beq_eq_false_iff_ne.mpr c2
 clear c1 c2
 by_cases c3 : op < 3
 ·rw [if_pos c3] at h
  obtain rfl := Option.some.inj h
  clear h
  have c3b : decide (op < 3) = true := decide_eq_true c3
  clear c3
  go_enter Tryd.func66, Tryd.ntmps66
  go_wp2_with (first | ((with_reducible refine gate_dst (N := 1) rfl ?_); refine box_event ?hg (N := 1) ?hd (cs := #[.int .i64 op, .int .i64 n, .slice A0_2 l0_2.length c0_2]) (t := 35) ?hr ?_; (case hd => rfl); (case hg => rfl); (case hr => first | (go_simp; done) | (go_simp; rfl)); intro gb hg w2 hbox hb; have ygb0 : w2.cell? ⟨gb, 0, none⟩ = some (.int .i64 op) := bc0 hbox; have ygb1 : w2.cell? ⟨gb, 1, none⟩ = some (.int .i64 n) := bc1 hbox; have ygb2 : w2.cell? ⟨gb, 2, none⟩ = some (.slice A0_2 l0_2.length c0_2) := bc2 hbox; have HB := zm hb; have G2 := zm hbox; clear hb hbox hg))
  go_quiet (fail)
  go_wp2
  all_goals go_ret
  all_goals exact ⟨by first | rfl | (simp; done) | (simp [*]; done) | (simp [*]; omega), (bx HB.out)⟩
 rw [if_neg c3] at h
 have c3b : decide (op < 3) = false := decide_eq_false c3
 by_cases c4 : 14 < op
 ·rw [if_pos c4] at h
  obtain rfl := Option.some.inj h
  clear h c3
  have c4b : decide (14 < op) = true := decide_eq_true c4
  clear c4
  go_enter Tryd.func66, Tryd.ntmps66
  go_wp2_with (first | ((with_reducible refine gate_dst (N := 1) rfl ?_); refine box_event ?hg (N := 1) ?hd (cs := #[.int .i64 op, .int .i64 n, .slice A0_2 l0_2.length c0_2]) (t := 35) ?hr ?_; (case hd => rfl); (case hg => rfl); (case hr => first | (go_simp; done) | (go_simp; rfl)); intro gb hg w2 hbox hb; have ygb0 : w2.cell? ⟨gb, 0, none⟩ = some (.int .i64 op) := bc0 hbox; have ygb1 : w2.cell? ⟨gb, 1, none⟩ = some (.int .i64 n) := bc1 hbox; have ygb2 : w2.cell? ⟨gb, 2, none⟩ = some (.slice A0_2 l0_2.length c0_2) := bc2 hbox; have HB := zm hb; have G2 := zm hbox; clear hb hbox hg))
  go_quiet (fail)
  go_wp2
  all_goals go_ret
  all_goals exact ⟨by first | rfl | (simp; done) | (simp [*]; done) | (simp [*]; omega), (bx HB.out)⟩
 rw [if_neg c4] at h
 have c4b : decide (14 < op) = false := decide_eq_false c4
 have HOP := zm (show op.toNat < 15 by omega)
 have p0 := eq_true (show 0 ≤ op by omega)
 have q0 := eq_true (show op < 15 by omega)
 clear c3 c4
 by_cases c5 : n = 0
 rotate_left
 ·rw [if_neg c5] at h
  obtain rfl := Option.some.inj h
  clear h
  have c5b : (n != 0) = true := bne_iff_ne.mpr c5
  clear c5
  go_enter Tryd.func66, Tryd.ntmps66
  go_wp2_with (first | ((with_reducible refine gate_dst (N := 1) rfl ?_); refine box_event ?hg (N := 1) ?hd (cs := #[.int .i64 op, .int .i64 n, .slice A0_2 l0_2.length c0_2]) (t := 35) ?hr ?_; (case hd => rfl); (case hg => rfl); (case hr => first | (go_simp; done) | (go_simp; rfl)); intro gb hg w2 hbox hb; have ygb0 : w2.cell? ⟨gb, 0, none⟩ = some (.int .i64 op) := bc0 hbox; have ygb1 : w2.cell? ⟨gb, 1, none⟩ = some (.int .i64 n) := bc1 hbox; have ygb2 : w2.cell? ⟨gb, 2, none⟩ = some (.slice A0_2 l0_2.length c0_2) := bc2 hbox; have HB := zm hb; have G2 := zm hbox; clear hb hbox hg))
  go_quiet (fail)
  go_wp2
  all_goals go_ret
  all_goals exact ⟨by first | rfl | (simp; done) | (simp [*]; done) | (simp [*]; omega), (bx HB.out)⟩
 rw [if_pos c5] at h
 have c5b : (n != 0) = false := bne_eq_false_iff_eq.mpr c5
 clear c5
 by_cases c6 : ((l0_2.length : Nat) : Int) = Words.kids op.toNat
 rotate_left
 ·rw [if_neg c6] at h
  obtain rfl := Option.some.inj h
  clear h
  have c6b : (((l0_2.length : Nat) : Int) != Words.kids op.toNat) = true := bne_iff_ne.mpr c6
  clear c6
  go_enter Tryd.func66, Tryd.ntmps66
  go_wp2_with (first | ((with_reducible refine gate_dst (N := 1) rfl ?_); refine box_event ?hg (N := 1) ?hd (cs := #[.int .i64 op, .int .i64 n, .slice A0_2 l0_2.length c0_2]) (t := 35) ?hr ?_; (case hd => rfl); (case hg => rfl); (case hr => first | (go_simp; done) | (go_simp; rfl)); intro gb hg w2 hbox hb; have ygb0 : w2.cell? ⟨gb, 0, none⟩ = some (.int .i64 op) := bc0 hbox; have ygb1 : w2.cell? ⟨gb, 1, none⟩ = some (.int .i64 n) := bc1 hbox; have ygb2 : w2.cell? ⟨gb, 2, none⟩ = some (.slice A0_2 l0_2.length c0_2) := bc2 hbox; have HB := zm hb; have G2 := zm hbox; have z1 := (Words.tab_below HT.out hb op.toNat HOP.out).2.1; clear hb hbox hg))
  go_quiet (fail)
  go_wp2
  all_goals go_ret
  all_goals exact ⟨by first | rfl | (simp; done) | (simp [*]; done) | (simp [*]; omega), (bx HB.out)⟩
 rw [if_pos c6] at h
 obtain ⟨b2, h1, h2⟩ := Option.bind_eq_some_iff.mp h
 obtain rfl := Option.some.inj h2
 clear h2 h
 have H := zm h1
 clear h1
 have c6b : (((l0_2.length : Nat) : Int) != Words.kids op.toNat) = false := bne_eq_false_iff_eq.mpr c6
 clear c6
 go_enter Tryd.func66, Tryd.ntmps66
 go_wp2_with (first | ((with_reducible refine gate_dst (N := 1) rfl ?_); refine box_event ?hg (N := 1) ?hd (cs := #[.int .i64 op, .int .i64 n, .slice A0_2 l0_2.length c0_2]) (t := 35) ?hr ?_; (case hd => rfl); (case hg => rfl); (case hr => first | (go_simp; done) | (go_simp; rfl)); intro gb hg w2 hbox hb; have ygb0 : w2.cell? ⟨gb, 0, none⟩ = some (.int .i64 op) := bc0 hbox; have ygb1 : w2.cell? ⟨gb, 1, none⟩ = some (.int .i64 n) := bc1 hbox; have ygb2 : w2.cell? ⟨gb, 2, none⟩ = some (.slice A0_2 l0_2.length c0_2) := bc2 hbox; have HB := zm hb; have G2 := zm hbox; have z1 := (Words.tab_below HT.out hb op.toNat HOP.out).2.1; clear hb hbox hg))
 go_quiet (fail)
 go_wp2_with (first | (go_at_call 67; refine (slices_ContainsFunc_api_Term.calls k A0_2 c0_2 l0_2 71 _ _ b2 _ (Kd.C_drewN (Kd.C_below HR.out HB.out) _) HC.out (fun args_ w_ => enters_ Tryd.func71 (by kernel_rfl) rfl args_ w_) (term_shaped.clo IH.out (Words.tab_below HT.out (pw_below_drewN HB.out _))) H.out).mono ?_; rintro e w4 ⟨rfl, hb⟩; have n0_ := zm (below_step (pw_below_drewN HB.out _) hb); clear HB; have HB := n0_; clear n0_ hb))
 all_goals go_ret
 all_goals exact ⟨by first | rfl | (simp; done) | (simp [*]; done) | (simp [*]; omega), (bx HB.out)⟩

def term_wrong.f (k : Nat) (a0_0 : Int) (a0_1 : Int) (l0_2 : List (S35)) : Option (Int) := (term_deep.f k a0_0 a0_1 l0_2 1).bind fun t132 => (if t132 = true then (some 2) else ((term_shaped.f k a0_0 a0_1 l0_2).bind fun t133 => (if t133 = true then (some 0) else (some 4))))
set_option maxRecDepth 100000 in
theorem term_wrong.mono : ∀ a0 a1 a2 k, LeO (term_wrong.f k a0 a1 a2) (term_wrong.f (k + 1) a0 a1 a2) := by
 intro a0 a1 a2 k
 unfold term_wrong.f
 repeat' first
 | (with_reducible exact term_deep.mono _ _ _ _ _)
 | (with_reducible exact term_shaped.mono _ _ _ _)
 | (with_reducible exact LeO.refl _)
 | (with_reducible exact LeO.none _)
 | (with_reducible refine LeO.ite ?_ ?_)
 | (with_reducible refine LeO.bind ?_ (fun _ => ?_))
 | refine LeO.ite ?_ ?_
 | refine LeO.bind ?_ (fun _ => ?_)
set_option maxHeartbeats 8000000 in
set_option maxRecDepth 100000 in
theorem term_wrong.calls (k : Nat) (a0_0 : Int) (a0_1 : Int) (A0_2 : Option Addr) (c0_2 : Nat) (l0_2 : List (S35)) (r : Int) (w : World) (hr0_2 : Kd.C k35 w A0_2 l0_2.length l0_2) (hc0_2 : l0_2.length ≤ c0_2) (h : term_wrong.f k a0_0 a0_1 l0_2 = some r) (hT : Words.Tab w) :
  Calls Tryd.prog 61 #[.agg #[.int .i64 a0_0, .int .i64 a0_1, .slice A0_2 l0_2.length c0_2]] w fun e w' => e = .returned (.int .i64 r) ∧ Below w.heap.size w w' := by
 have hu35 := Tryd.underlying35
 have HR0_2 := zm hr0_2
 have HC0_2 := zm hc0_2
 clear hr0_2 hc0_2
 have HB := zm (Below.refl w.heap.size w)
 have HT0 := zm hT
 clear hT
 have H : ((term_deep.f k a0_0 a0_1 l0_2 1).bind fun t132 => (if t132 = true then (some 2) else ((term_shaped.f k a0_0 a0_1 l0_2).bind fun t133 => (if t133 = true then (some 0) else (some 4))))) = some r := h
 clear h
 have HC2 := zm H
 clear H
 go_enter Tryd.func61, Tryd.ntmps61
 go_upto_block 0 with (first | ((with_reducible refine gate_dst (N := 1) rfl ?_); refine box_event ?hg (N := 1) ?hd (cs := #[.int .i64 a0_0, .int .i64 a0_1, .slice A0_2 l0_2.length c0_2]) (t := 35) ?hr ?_; (case hd => rfl); (case hg => rfl); (case hr => first | (go_simp; done) | (go_simp; rfl)); intro gb131 hg w3 hbox hb; have BK131 := zm (hbox); have GW131 := zm ((by rw [hg]; exact (below_size (bx HB.out)) : w.heap.size ≤ gb131)); have GE131 := zm ((by rw [hg]; exact (below_size (bx HB.out)) : w.heap.size ≤ gb131)); replace HB := zm (below_step (bx HB.out) hb); clear hb hbox hg))
 have H := HC2.out
 clear HC2
 replace H := Option.bind_eq_some_iff.mp H
 obtain ⟨t132, A40, H⟩ := H
 replace H : (if t132 = true then (some 2) else ((term_shaped.f k a0_0 a0_1 l0_2).bind fun t133 => (if t133 = true then (some 0) else (some 4)))) = some r := H
 have A4 := zm A40
 clear A40
 have HC5 := zm H
 clear H
 have hcz6_0 := bc0 BK131.out
 have hcz6_1 := bc1 BK131.out
 have hcz6_2 := bc2 BK131.out
 go_upto_if 3 with (first | ((with_reducible refine gate_callee (f := 65) rfl ?_); refine goesL_ (some 5) rfl rfl Tryd.func65 (by kernel_rfl) rfl #[.agg #[.int .i64 a0_0, .int .i64 a0_1, .slice A0_2 l0_2.length c0_2], .int .i64 1] rfl ag ?_; (with_reducible refine (term_deep.calls k a0_0 a0_1 _ _ l0_2 1 t132 _ ?side1 HC0_2.out A4.out).mono ?_); (case side1 => exact cx (Kd.C_below HR0_2.out HB.out)); rintro e w7 ⟨rfl, hb⟩; refine ⟨_, rfl, ?_⟩; replace BK131 := zm (kB (kx BK131.out) hb); replace HB := zm (below_step (bx HB.out) hb); (try clear hb)))
 have H := HC5.out
 clear HC5
 by_cases c8 : t132 = true
 ·subst c8
  rw [if_pos rfl] at H
  obtain rfl := Option.some.inj H
  go_wp2
  go_ret
  exact ⟨xe, bx HB.out⟩
 replace c8 := Bool.eq_false_iff.mpr c8
 subst c8
 rw [if_neg (show ¬ (false = true) by decide)] at H
 replace H := Option.bind_eq_some_iff.mp H
 obtain ⟨t133, A90, H⟩ := H
 replace H : (if t133 = true then (some 0) else (some 4)) = some r := H
 have A9 := zm A90
 clear A90
 have HC10 := zm H
 clear H
 have hcz11_0 := bc0 BK131.out
 have hcz11_1 := bc1 BK131.out
 have hcz11_2 := bc2 BK131.out
 go_upto_if 6 with (first | ((with_reducible refine gate_callee (f := 66) rfl ?_); refine goesL_ (some 8) rfl rfl Tryd.func66 (by kernel_rfl) rfl #[.agg #[.int .i64 a0_0, .int .i64 a0_1, .slice A0_2 l0_2.length c0_2]] rfl ag ?_; (with_reducible refine (term_shaped.calls k a0_0 a0_1 _ _ l0_2 t133 _ ?side1 HC0_2.out A9.out ?hT_).mono ?_); (case hT_ => exact Words.tab_below HT0.out (bx HB.out)); (case side1 => exact cx (Kd.C_below HR0_2.out HB.out)); rintro e w12 ⟨rfl, hb⟩; refine ⟨_, rfl, ?_⟩; replace BK131 := zm (kB (kx BK131.out) hb); replace HB := zm (below_step (bx HB.out) hb); (try clear hb)))
 have H := HC10.out
 clear HC10
 by_cases c13 : t133 = true
 ·subst c13
  rw [if_pos rfl] at H
  obtain rfl := Option.some.inj H
  go_wp2
  go_ret
  exact ⟨xe, bx HB.out⟩
 replace c13 := Bool.eq_false_iff.mpr c13
 subst c13
 rw [if_neg (show ¬ (false = true) by decide)] at H
 obtain rfl := Option.some.inj H
 go_wp2
 go_ret
 exact ⟨xe, bx HB.out⟩


end Go.Proofs.YtdaeiicdpfghlaaDoor.R
