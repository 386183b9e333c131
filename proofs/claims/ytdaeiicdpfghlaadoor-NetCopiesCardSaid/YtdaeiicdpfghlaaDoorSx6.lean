import Derived.Test.YtdaeiicdpfghlaaDoorSx0
import Derived.Test.YtdaeiicdpfghlaaDoorSx3
import Derived.Test.YtdaeiicdpfghlaaDoorSx4
import Derived.Test.YtdaeiicdpfghlaaDoorSx5
namespace Go.Proofs.YtdaeiicdpfghlaaDoor.R
open Go.RowKit Go.Proofs.YtdaeiicdpfghlaaDoorW.PrintWords Go.Proofs.YtdaeiicdpfghlaaDoorW.PrintLast Go.Proofs.YtdaeiicdpfghlaaDoorW.PrintMore
attribute [local go_sem] max2_int min2_int max_two min_two max_three min_three max_four min_four   -- for this text's walks alone
set_option linter.unusedVariables false
set_option linter.unusedSimpArgs false

def net_linked.l0 : Nat → List Int → Int → Int → Int → Bool → List Int → Int → Int → List (S37) → List (S53) → Option (Bool)
 | 0, _, _, _, _, _, _, _, _, _, _ => none
 | k + 1, x5, x6, x7, x8, x9, x26, x27, x28, x177000, x177001 => if x28 < x27 then (if 0 ≤ x28 then (if x28 < (x26.length : Int) then (if 0 ≤ (rd x26 x28) then (if (rd x26 x28) < (x177001.length : Int) then (if (rd_T53 x177001 (rd x26 x28)).f2 = true then (if x9 = true then (if 0 ≤ ((rd_T53 x177001 (rd x26 x28)).f1) then (if ((rd_T53 x177001 (rd x26 x28)).f1) < (x177000.length : Int) then (net_linked.l0 k x5 x6 x7 (wrap64 (x8 + 1)) (((rd_T37 x177000 ((rd_T53 x177001 (rd x26 x28)).f1)).f0) == 8) x26 x27 (wrap64 (x28 + 1)) x177000 x177001) else (none)) else (none)) else (net_linked.l0 k x5 x6 x7 (wrap64 (x8 + 1)) false x26 x27 (wrap64 (x28 + 1)) x177000 x177001)) else (if x9 = true then (if 0 ≤ ((rd_T53 x177001 (rd x26 x28)).f1) then (if ((rd_T53 x177001 (rd x26 x28)).f1) < (x177000.length : Int) then (net_linked.l0 k x5 x6 x7 x8 (((rd_T37 x177000 ((rd_T53 x177001 (rd x26 x28)).f1)).f0) == 8) x26 x27 (wrap64 (x28 + 1)) x177000 x177001) else (none)) else (none)) else (net_linked.l0 k x5 x6 x7 x8 false x26 x27 (wrap64 (x28 + 1)) x177000 x177001))) else (none)) else (none)) else (none)) else (none)) else (if x7 = 1 then (if x6 = 0 then (some ((x5.length : Int) == 1)) else (some false)) else (if x7 = 2 then (if x6 = 1 then (some ((x5.length : Int) == 0)) else (some false)) else (if x7 = 7 then (if x6 = 1 then (if (x5.length : Int) > 1 then (some x9) else (some false)) else (some false)) else (if x7 = 5 then (if x6 = 1 then (if (x5.length : Int) > 1 then (if x7 = 6 then (some true) else (if x8 = 1 then (some true) else (if x6 > 1 then (some ((x5.length : Int) == 1)) else (some false)))) else (if x6 > 1 then (some ((x5.length : Int) == 1)) else (some false))) else (if x6 > 1 then (some ((x5.length : Int) == 1)) else (some false))) else (if x7 = 6 then (if x6 = 1 then (if (x5.length : Int) > 1 then (some true) else (if x6 > 1 then (some ((x5.length : Int) == 1)) else (some false))) else (if x6 > 1 then (some ((x5.length : Int) == 1)) else (some false))) else (if x6 = 1 then (some ((x5.length : Int) == 1)) else (some false)))))))
def net_linked.f (k : Nat) (l0_0 : List (S37)) (l0_1 : List (S53)) (a1 : Int) : Option (Bool) := (net_Outs.f k l0_0 l0_1 a1).bind fun t177 => ((net_Ins.f k l0_0 l0_1 a1).bind fun t180 => (if 0 ≤ a1 then (if a1 < (l0_0.length : Int) then (net_linked.l0 k t177 (t180.length : Int) ((rd_T37 l0_0 a1).f0) 0 true t177 (t177.length : Int) 0 l0_0 l0_1) else (none)) else (none)))
set_option maxRecDepth 100000 in
theorem net_linked.mono_l : ∀ k, (∀ y0 y1 y2 y3 y4 y5 y6 y7 y8 y9, LeO (net_linked.l0 k y0 y1 y2 y3 y4 y5 y6 y7 y8 y9) (net_linked.l0 (k + 1) y0 y1 y2 y3 y4 y5 y6 y7 y8 y9))
 | 0 => fun _ _ _ _ _ _ _ _ _ _ r h => by first | (cases h; done) | simp [net_linked.l0] at h
 | k + 1 => by
  have ih0 := net_linked.mono_l k
  ·intro y0 y1 y2 y3 y4 y5 y6 y7 y8 y9
   unfold net_linked.l0
   repeat' first
   | (with_reducible exact ih0 _ _ _ _ _ _ _ _ _ _)
   | (with_reducible exact net_Ins.mono _ _ _ _)
   | (with_reducible exact net_Outs.mono _ _ _ _)
   | (with_reducible exact LeO.refl _)
   | (with_reducible exact LeO.none _)
   | (with_reducible refine LeO.ite ?_ ?_)
   | (with_reducible refine LeO.bind ?_ (fun _ => ?_))
   | refine LeO.ite ?_ ?_
   | refine LeO.bind ?_ (fun _ => ?_)
set_option maxRecDepth 100000 in
theorem net_linked.mono : ∀ a0 a1 a2 k, LeO (net_linked.f k a0 a1 a2) (net_linked.f (k + 1) a0 a1 a2) := by
 intro a0 a1 a2 k
 have ih0 := net_linked.mono_l k
 unfold net_linked.f
 repeat' first
 | (with_reducible exact ih0 _ _ _ _ _ _ _ _ _ _)
 | (with_reducible exact net_Ins.mono _ _ _ _)
 | (with_reducible exact net_Outs.mono _ _ _ _)
 | (with_reducible exact LeO.refl _)
 | (with_reducible exact LeO.none _)
 | (with_reducible refine LeO.ite ?_ ?_)
 | (with_reducible refine LeO.bind ?_ (fun _ => ?_))
 | refine LeO.ite ?_ ?_
 | refine LeO.bind ?_ (fun _ => ?_)
def net_linked.T2 : Bool × List (List Nat × List Nat) := (true, [([], []), ([], []), ([0, 1], [0, 1]), ([2], [2]), ([], []), ([4], [4]), ([], []), ([5, 6], [5, 6]), ([7], [7]), ([8], [8]), ([3, 2, 0, 1, 2, 3], [3]), ([9, 10, 0, 1, 2, 3, 4, 5, 6, 7, 8, 9, 10], [9])])
def net_linked.B2 : List Nat := [0, 0, 3, 7, 0, 16, 0, 112, 240, 496, 15, 2047]
theorem net_linked.tab2 : rtab .any (opsOf Tryd.f55 2) = net_linked.T2 := by kernel_rfl
theorem net_linked.bits2 : waitsOk net_linked.T2.2 net_linked.B2 = true := by kernel_rfl
def net_linked.T10 : Bool × List (List Nat × List Nat) := (true, [([], []), ([0], [0]), ([1], [1]), ([2, 1], [1, 2]), ([1], [1]), ([4, 1], [1, 4]), ([1], [1]), ([5, 6, 1], [1, 5, 6]), ([7, 1], [1, 7]), ([8, 1], [1, 8]), ([3, 9, 1], [1, 3, 9]), ([10, 1], [1, 10]), ([11, 1], [1, 11]), ([12, 1], [1, 12]), ([1, 13], [1, 13]), ([14, 1, 0, 1, 2, 3, 4, 5, 6, 7, 8, 9, 10, 11, 12, 13, 14], [0, 14])])
def net_linked.B10 : List Nat := [0, 1, 3, 7, 3, 19, 3, 115, 243, 499, 1023, 2047, 4095, 8191, 16383, 32767]
theorem net_linked.tab10 : rtab .any (opsOf Tryd.f55 10) = net_linked.T10 := by kernel_rfl
theorem net_linked.bits10 : waitsOk net_linked.T10.2 net_linked.B10 = true := by kernel_rfl
set_option maxHeartbeats 8000000 in
set_option maxRecDepth 100000 in
theorem net_linked.calls (k : Nat) (A0_0 : Option Addr) (c0_0 : Nat) (l0_0 : List (S37)) (A0_1 : Option Addr) (c0_1 : Nat) (l0_1 : List (S53)) (a1 : Int) (r : Bool) (w : World) (hr0_0 : Kd.C k37 w A0_0 l0_0.length l0_0) (hc0_0 : l0_0.length ≤ c0_0) (hr0_1 : Kd.C k53 w A0_1 l0_1.length l0_1) (hc0_1 : l0_1.length ≤ c0_1) (h : net_linked.f k l0_0 l0_1 a1 = some r) :
  Calls Tryd.prog 55 #[.agg #[.slice A0_0 l0_0.length c0_0, .slice A0_1 l0_1.length c0_1], .int .i64 a1] w fun e w' => e = .returned (.bool r) ∧ Below w.heap.size w w' := by
 have hu25 := Tryd.underlying25
 have HR0_0 := zm hr0_0
 have HC0_0 := zm hc0_0
 clear hr0_0 hc0_0
 have HR0_1 := zm hr0_1
 have HC0_1 := zm hc0_1
 clear hr0_1 hc0_1
 have HB := zm (Below.refl w.heap.size w)
 have H : ((net_Outs.f k l0_0 l0_1 a1).bind fun t177 => ((net_Ins.f k l0_0 l0_1 a1).bind fun t180 => (if 0 ≤ a1 then (if a1 < (l0_0.length : Int) then (net_linked.l0 k t177 (t180.length : Int) ((rd_T37 l0_0 a1).f0) 0 true t177 (t177.length : Int) 0 l0_0 l0_1) else (none)) else (none)))) = some r := h
 clear h
 replace H := Option.bind_eq_some_iff.mp H
 obtain ⟨t177, A30, H⟩ := H
 have A3 := zm A30
 clear A30
 replace H := Option.bind_eq_some_iff.mp H
 obtain ⟨t180, A40, H⟩ := H
 replace H : (if 0 ≤ a1 then (if a1 < (l0_0.length : Int) then (net_linked.l0 k t177 (t180.length : Int) ((rd_T37 l0_0 a1).f0) 0 true t177 (t177.length : Int) 0 l0_0 l0_1) else (none)) else (none)) = some r := H
 have A4 := zm A40
 clear A40
 by_cases c5 : 0 ≤ a1
 ·rw [if_pos c5] at H
  have c5b0 := decide_eq_true c5
  clear c5
  by_cases c6 : a1 < (l0_0.length : Int)
  ·rw [if_pos c6] at H
   have c6b0 := decide_eq_true c6
   clear c6
   have H' := zm H
   clear H
   go_enter Tryd.func55, Tryd.ntmps55
   try go_wp2_with (first | ((with_reducible refine gate_dst (N := 2) rfl ?_); (try (refine gate_guard (by rfl) ?_; dsimp only)); refine box_event ?hg (N := 2) ?hd (cs := #[.slice A0_0 l0_0.length c0_0, .slice A0_1 l0_1.length c0_1]) (t := 25) ?hr ?_; (case hd => rfl); (case hg => rfl); (case hr => first | (go_simp; done) | (go_simp; rfl)); intro gb176 hg w7 hbox hb; have BK176 := zm (hbox); have GW176 := zm ((by rw [hg]; exact (below_size (bx HB.out)) : w.heap.size ≤ gb176)); have GE176 := zm ((by rw [hg]; exact (below_size (bx HB.out)) : w.heap.size ≤ gb176)); replace HB := zm (below_step (bx HB.out) hb); clear hb hbox hg; have hcz8_0 := bc0 BK176.out; have hcz8_1 := bc1 BK176.out) | ((with_reducible refine gate_callee (f := 14) rfl ?_); refine goesL_ (some 15) rfl rfl Tryd.func14 (by kernel_rfl) rfl #[.agg #[.slice A0_0 l0_0.length c0_0, .slice A0_1 l0_1.length c0_1], .int .i64 a1] rfl ag ?_; (with_reducible refine (net_Outs.calls k _ _ l0_0 _ _ l0_1 a1 t177 _ ?side1 HC0_0.out ?side3 HC0_1.out A3.out).mono ?_); (case side1 => exact cx (Kd.C_below HR0_0.out HB.out)); (case side3 => exact cx (Kd.C_below HR0_1.out HB.out)); rintro e w9 ⟨v178, rfl, ho0, hb⟩; refine ⟨_, rfl, ?_⟩; have HO179 := zm (Kd.R_lower ho0 (below_size (bx HB.out))); replace BK176 := zm (kB (kx BK176.out) hb); replace HB := zm (below_step (bx HB.out) hb); (try clear hb); (try clear ho0)))
   replace HO179 := zm (Kd.R_drew HO179.out)
   replace BK176 := zm (blk_drew BK176.out)
   replace HB := zm (below_drew1 HB.out)
   have p183 : 0 ≤ (a1 : Int) := od
   have q183 : a1 < (l0_0.length : Int) := od
   obtain ⟨ad183, A183_4, c183_4, e183, hx183_0, hx183_1, hx183_2, hx183_3, hx183_4, hl183_4, hi183_4⟩ := at_T37 HR0_0.out a1 p183 q183
   have hw183_4 := hx183_4
   have hw183_3 := hx183_3
   have hw183_2 := hx183_2
   have hw183_1 := hx183_1
   have hw183_0 := hx183_0
   cases e183
   replace hx183_0 := cb HB.out hx183_0
   replace hx183_1 := cb HB.out hx183_1
   replace hx183_2 := cb HB.out hx183_2
   replace hx183_3 := cb HB.out hx183_3
   replace hx183_4 := cb HB.out hx183_4
   have HR183_4 := zm hi183_4
   have HC183_4 := zm hl183_4
   clear hi183_4 hl183_4
   replace p183 := eq_true p183
   replace q183 := eq_true q183
   refine start_ (n := 12) (S := fun w' => w'.cell? ⟨gb176, 0, none⟩ = some (.slice (some ad183) l0_0.length c0_0) ∧ w'.cell? ⟨gb176, 1, none⟩ = some (.slice A0_1 l0_1.length c0_1) ∧ w'.cell? (ad183.add ((a1).toNat * 5)) = some (.int .i64 ((rd_T37 l0_0 a1).f0)) ∧ w'.cell? ⟨(ad183.add ((a1).toNat * 5)).block, (ad183.add ((a1).toNat * 5)).off + 1, none⟩ = some (.int .i64 ((rd_T37 l0_0 a1).f1)) ∧ w'.cell? ⟨(ad183.add ((a1).toNat * 5)).block, (ad183.add ((a1).toNat * 5)).off + 2, none⟩ = some (.int .i64 ((rd_T37 l0_0 a1).f2.f0)) ∧ w'.cell? ⟨(ad183.add ((a1).toNat * 5)).block, (ad183.add ((a1).toNat * 5)).off + 3, none⟩ = some (.int .i64 ((rd_T37 l0_0 a1).f2.f1)) ∧ w'.cell? ⟨(ad183.add ((a1).toNat * 5)).block, (ad183.add ((a1).toNat * 5)).off + 4, none⟩ = some (.slice A183_4 ((rd_T37 l0_0 a1).f2.f2).length c183_4)) (ds := []) #[Z,Z,Z,Z,Z,Z,Z,Z,Z,Z,Z,Z] (by kernel_rfl) rfl rfl ⟨bc0 BK176.out, bc1 BK176.out, (cb HB.out hw183_0), (cb HB.out hw183_1), (cb HB.out hw183_2), (cb HB.out hw183_3), (cb HB.out hw183_4)⟩ (fun hHeld => ?_); refine with_tabW net_linked.tab2 net_linked.bits2 (fun HT_ HW_ => ?_)
   generalize w9.drew = w10 at HO179 BK176 HB HR183_4 hx183_0 hx183_1 hx183_2 hx183_3 hx183_4 hHeld ⊢
   refine pure_ (i := 1) (N := some 17) (v := ?_) (a' := ?_) #[Z,Y,Z,Z,Z,Z,Z,Z,Z,Z,Z,Z] rfl rfl (any_of HT_.out (by kernel_rfl)) (fun _ _ _ h => h) (Or.inl ⟨by rfl, ?_⟩) ?_ ?_
   rotate_left
   ·intro w'
    go_simp
    with_reducible rfl
   rotate_left
   ·simp only [Act.put, sS, sZ, sC, i64_w, i32_w]
    rfl
   refine pure_ (i := 4) (N := some 20) (v := ?_) (a' := ?_) #[Z,Y,Z,Z,Y,Z,Z,Z,Z,Z,Z,Z] rfl rfl (any_of HT_.out (by kernel_rfl)) (fun _ _ _ h => h) (Or.inl ⟨by rfl, ?_⟩) ?_ ?_
   rotate_left
   ·intro w'
    go_simp
    with_reducible rfl
   rotate_left
   ·simp only [Act.put, sS, sZ, sC, i64_w, i32_w]
    rfl
   refine pure_ (i := 6) (N := some 22) (v := ?_) (a' := ?_) #[Z,Y,Z,Z,Y,Z,Y,Z,Z,Z,Z,Z] rfl rfl (any_of HT_.out (by kernel_rfl)) (fun _ _ _ h => h) (Or.inl ⟨by rfl, ?_⟩) ?_ ?_
   rotate_left
   ·intro w'
    go_simp
    with_reducible rfl
   rotate_left
   ·simp only [Act.put, sS, sZ, sC, i64_w, i32_w]
    rfl
   refine take_ (i := 0) (N := some 16) (v := ?_) (a' := ?_) #[Y,Y,Z,Z,Y,Z,Y,Z,Z,Z,Z,Z] rfl rfl (take_ofW HT_.out HW_.out (by kernel_rfl)) (fun _ _ _ h => h) (Or.inl ⟨by rfl, ?_⟩) hHeld ?_ ?_
   rotate_left
   ·rintro w' ⟨s0, s1, s2, s3, s4, s5, s6⟩
    go_simp
    with_reducible rfl
   rotate_left
   ·simp only [Act.put, sS, sZ, sC, i64_w, i32_w]
    rfl
   refine take_ (i := 5) (N := some 21) (v := ?_) (a' := ?_) #[Y,Y,Z,Z,Y,Y,Y,Z,Z,Z,Z,Z] rfl rfl (take_ofW HT_.out HW_.out (by kernel_rfl)) (fun _ _ _ h => h) (Or.inl ⟨by rfl, ?_⟩) hHeld ?_ ?_
   rotate_left
   ·rintro w' ⟨s0, s1, s2, s3, s4, s5, s6⟩
    go_simp
    with_reducible rfl
   rotate_left
   ·simp only [Act.put, sS, sZ, sC, i64_w, i32_w]
    rfl
   refine pure_ (i := 7) (N := some 23) (v := ?_) (a' := ?_) #[Y,Y,Z,Z,Y,Y,Y,Y,Z,Z,Z,Z] rfl rfl (any_of HT_.out (by kernel_rfl)) (fun _ _ _ h => h) (Or.inl ⟨by rfl, ?_⟩) ?_ ?_
   rotate_left
   ·intro w'
    go_simp
    with_reducible rfl
   rotate_left
   ·simp only [Act.put, sS, sZ, sC, i64_w, i32_w]
    rfl
   refine pure_ (i := 8) (N := some 24) (v := ?_) (a' := ?_) #[Y,Y,Z,Z,Y,Y,Y,Y,Y,Z,Z,Z] rfl rfl (any_of HT_.out (by kernel_rfl)) (fun _ _ _ h => h) (Or.inl ⟨by rfl, ?_⟩) ?_ ?_
   rotate_left
   ·intro w'
    go_simp
    with_reducible rfl
   rotate_left
   ·simp only [Act.put, sS, sZ, sC, i64_w, i32_w]
    rfl
   refine take_ (i := 9) (N := some 25) (v := ?_) (a' := ?_) #[Y,Y,Z,Z,Y,Y,Y,Y,Y,Y,Z,Z] rfl rfl (take_ofW HT_.out HW_.out (by kernel_rfl)) (fun _ _ _ h => h) (Or.inl ⟨by rfl, ?_⟩) hHeld ?_ ?_
   rotate_left
   ·rintro w' ⟨s0, s1, s2, s3, s4, s5, s6⟩
    go_simp
    with_reducible rfl
   rotate_left
   ·simp only [Act.put, sS, sZ, sC, i64_w, i32_w]
    rfl
   refine one_ (i := 2) (N := some 18) #[Y,Y,Y,Z,Y,Y,Y,Y,Y,Y,Z,Z] rfl rfl (one_of HT_.out (by kernel_rfl)) (by decide) (fun K hK => ?_)
   refine goes_ Tryd.func13 (by kernel_rfl) rfl #[.agg #[.slice (some ad183) l0_0.length c0_0, .slice A0_1 l0_1.length c0_1], .int .i64 a1] (by rfl) rfl rfl ag ?_
   with_reducible refine (net_Ins.calls k _ _ l0_0 _ _ l0_1 a1 t180 _ ?side1 ?side2 ?side3 ?side4 A4.out).mono ?_
   (case side1 => exact cx (Kd.C_below HR0_0.out HB.out))
   (case side2 => exact HC0_0.out)
   (case side3 => exact cx (Kd.C_below HR0_1.out HB.out))
   (case side4 => exact HC0_1.out)
   rintro e w11 ⟨v181, rfl, ho0, hb⟩
   refine ⟨_, rfl, ?_⟩
   have HO182 := zm (Kd.R_lower (Kd.R_new' ho0 (Kd.R_lt (rx HO179.out))) (below_size (bx HB.out)))
   replace HO179 := zm (Kd.R_elder' (rx HO179.out) (by first | exact Kd.R_base ho0 | exact Kd.N_base ho0 | exact Kd.S_base ho0 | exact Kd.R_base ho0) hb)
   replace BK176 := zm (kB (kx BK176.out) hb)
   replace HB := zm (below_step (bx HB.out) hb)
   (try clear hb)
   (try clear hb2)
   (try clear hk)
   (try clear hi)
   (try clear ho0)
   obtain ⟨Ao12, co12, eo12⟩ := Kd.R_slice HO182.out
   (first | subst eo12 | (injection eo12 with f1_ f2_ f3_; have f4_ := f1_.symm; have f5_ := f3_.symm; clear f1_ f2_ f3_; subst f4_; subst f5_))
   refine hK.out _ _ ⟨bc0 BK176.out, bc1 BK176.out, (cb HB.out hw183_0), (cb HB.out hw183_1), (cb HB.out hw183_2), (cb HB.out hw183_3), (cb HB.out hw183_4)⟩ (fun hHeld => ?_)
   clear hK K
   refine norm_ (a' := ?_) ?_ ?_
   rotate_left
   ·show Act.put _ (some 18) _ = _
    simp only [Act.put, sS, sZ, sC, i64_w, i32_w]
    rfl
   refine pure_ (i := 3) (N := some 19) (v := ?_) (a' := ?_) #[Y,Y,Y,Y,Y,Y,Y,Y,Y,Y,Z,Z] rfl rfl (any_of HT_.out (by kernel_rfl)) (fun _ _ _ h => h) (Or.inl ⟨by rfl, ?_⟩) ?_ ?_
   rotate_left
   ·intro w'
    go_simp
    with_reducible rfl
   rotate_left
   ·simp only [Act.put, sS, sZ, sC, i64_w, i32_w]
    rfl
   refine pure_ (i := 10) (N := some 6) (v := ?_) (a' := ?_) #[Y,Y,Y,Y,Y,Y,Y,Y,Y,Y,Y,Z] rfl rfl (any_of HT_.out (by kernel_rfl)) (fun _ _ _ h => h) (Or.inl ⟨by rfl, ?_⟩) ?_ ?_
   rotate_left
   ·intro w'
    go_simp
    with_reducible rfl
   rotate_left
   ·simp only [Act.put, sS, sZ, sC, i64_w, i32_w]
    rfl
   refine pure_ (i := 11) (N := some 7) (v := ?_) (a' := ?_) #[Y,Y,Y,Y,Y,Y,Y,Y,Y,Y,Y,Y] rfl rfl (any_of HT_.out (by kernel_rfl)) (fun _ _ _ h => h) (Or.inl ⟨by rfl, ?_⟩) ?_ ?_
   rotate_left
   ·intro w'
    go_simp
    with_reducible rfl
   rotate_left
   ·simp only [Act.put, sS, sZ, sC, i64_w, i32_w]
    rfl
   refine done_ (done_of HT_.out (by kernel_rfl)) ?_
   obtain ⟨Ao13, co13, eo13⟩ := Kd.R_slice HO179.out
   subst eo13
   try go_wp2
   go_loopg [8, 9, 28] k (fun kq v8 v9 v28 w' => ∃ (x8_1 : Int) (x9_1 : Bool) (x28_1 : Int), v8 = .int .i64 x8_1 ∧ v9 = .bool x9_1 ∧ v28 = .int .i64 x28_1 ∧ Aside0 (net_linked.l0 kq t177 (t180.length : Int) ((rd_T37 l0_0 a1).f0) x8_1 x9_1 t177 (t177.length : Int) x28_1 l0_0 l0_1 = some r) ∧ Aside0 (kq ≤ k) ∧ Aside0 (Kd.R (Kd.int .i64) 3 w' w.heap.size (fun _ => True) (.slice Ao13 t177.length co13) t177) ∧ Aside0 (Kd.R (Kd.int .i64) 3 w' w.heap.size (fun _ => True) (.slice Ao13 t177.length co13) t177) ∧ Aside0 (w'.heap[gb176]? = some (.cells #[(.slice (some ad183) l0_0.length c0_0), (.slice A0_1 l0_1.length c0_1)] 25 (0, 0))) ∧ Aside0 (Below w.heap.size w w'))
   case atStart => exact ⟨(0), (true), (0), (by first | rfl | (simp; done) | (simp [*]; done)), (by first | rfl | (simp; done) | (simp [*]; done)), (by first | rfl | (simp; done) | (simp [*]; done)), H', ⟨Nat.le_refl _⟩, ⟨rx (Kd.R_mono HO179.out (fun _ hk => trivial))⟩, ⟨rx (Kd.R_mono HO179.out (fun _ hk => trivial))⟩, ⟨kx BK176.out⟩, ⟨bx HB.out⟩⟩
   clear H'
   try clear c1
   try clear p1
   try clear q1
   try clear hx1
   try clear p2
   try clear c5
   try clear c5b0
   try clear c6
   try clear c6b0
   try clear c13
   try clear hx183_0
   try clear hx183_1
   try clear hx183_2
   try clear hx183_3
   try clear hx183_4
   try clear p183
   try clear q183
   try clear BK176
   obtain ⟨x8_1, x9_1, x28_1, rfl, rfl, rfl, HA, HK1, HO_5, HO_26, BK176, HB⟩ := hrel
   cases gk with
   | zero => exact absurd HA.out (by first | (intro h_; cases h_; done) | simp [net_linked.l0])
   | succ k1 =>
    have H := HA.out
    clear HA
    simp only [net_linked.l0] at H
    by_cases c14 : x28_1 < (t177.length : Int)
    ·rw [if_pos c14] at H
     have c14b0 := decide_eq_true c14
     clear c14
     by_cases c15 : 0 ≤ x28_1
     ·rw [if_pos c15] at H
      have c15b0 := decide_eq_true c15
      clear c15
      by_cases c16 : x28_1 < (t177.length : Int)
      ·rw [if_pos c16] at H
       have c16b0 := decide_eq_true c16
       clear c16
       by_cases c17 : 0 ≤ (rd t177 x28_1)
       ·rw [if_pos c17] at H
        have c17b0 := decide_eq_true c17
        clear c17
        by_cases c18 : (rd t177 x28_1) < (l0_1.length : Int)
        ·rw [if_pos c18] at H
         have c18b0 := decide_eq_true c18
         clear c18
         obtain ⟨bq19, hbq19⟩ : ∃ b_ : Bool, b_ = ((rd_T53 l0_1 (rd t177 x28_1)).f2) := ⟨_, rfl⟩
         replace H : (if bq19 = true then (if x9_1 = true then (if 0 ≤ ((rd_T53 l0_1 (rd t177 x28_1)).f1) then (if ((rd_T53 l0_1 (rd t177 x28_1)).f1) < (l0_0.length : Int) then (net_linked.l0 k1 t177 (t180.length : Int) ((rd_T37 l0_0 a1).f0) (wrap64 (x8_1 + 1)) (((rd_T37 l0_0 ((rd_T53 l0_1 (rd t177 x28_1)).f1)).f0) == 8) t177 (t177.length : Int) (wrap64 (x28_1 + 1)) l0_0 l0_1) else (none)) else (none)) else (net_linked.l0 k1 t177 (t180.length : Int) ((rd_T37 l0_0 a1).f0) (wrap64 (x8_1 + 1)) false t177 (t177.length : Int) (wrap64 (x28_1 + 1)) l0_0 l0_1)) else (if x9_1 = true then (if 0 ≤ ((rd_T53 l0_1 (rd t177 x28_1)).f1) then (if ((rd_T53 l0_1 (rd t177 x28_1)).f1) < (l0_0.length : Int) then (net_linked.l0 k1 t177 (t180.length : Int) ((rd_T37 l0_0 a1).f0) x8_1 (((rd_T37 l0_0 ((rd_T53 l0_1 (rd t177 x28_1)).f1)).f0) == 8) t177 (t177.length : Int) (wrap64 (x28_1 + 1)) l0_0 l0_1) else (none)) else (none)) else (net_linked.l0 k1 t177 (t180.length : Int) ((rd_T37 l0_0 a1).f0) x8_1 false t177 (t177.length : Int) (wrap64 (x28_1 + 1)) l0_0 l0_1))) = some r := by rw [← hbq19] at H; exact H
         have Nbq19 := zm hbq19
         clear hbq19
         by_cases c20 : bq19 = true
         ·subst c20
          rw [if_pos rfl] at H
          by_cases c21 : x9_1 = true
          ·subst c21
           rw [if_pos rfl] at H
           by_cases c22 : 0 ≤ ((rd_T53 l0_1 (rd t177 x28_1)).f1)
           ·rw [if_pos c22] at H
            have c22b0 := decide_eq_true c22
            clear c22
            by_cases c23 : ((rd_T53 l0_1 (rd t177 x28_1)).f1) < (l0_0.length : Int)
            ·rw [if_pos c23] at H
             have c23b0 := decide_eq_true c23
             clear c23
             have H' := zm H
             clear H
             have p184 : 0 ≤ (x28_1 : Int) := od
             have q184 : x28_1 < (t177.length : Int) := od
             obtain ⟨ad184, e184, hx184_0⟩ := Kd.at_int (Kd.R_reads' HO_26.out).2.2 x28_1 p184 q184
             cases e184
             replace p184 := eq_true p184
             replace q184 := eq_true q184
             have hcz24_0 := bc0 BK176.out
             have hcz24_1 := bc1 BK176.out
             have p185 : 0 ≤ ((rd t177 x28_1) : Int) := od
             have q185 : (rd t177 x28_1) < (l0_1.length : Int) := od
             obtain ⟨ad185, A185_5, c185_5, e185, hx185_0, hx185_1, hx185_2, hx185_3, hx185_4, hx185_5, hl185_5, hi185_5⟩ := at_T53 HR0_1.out (rd t177 x28_1) p185 q185
             (try rw [← Nbq19.out] at hx185_2)
             (try rw [← Nbq19.out] at hw185_2)
             cases e185
             replace hx185_0 := cb HB.out hx185_0
             replace hx185_1 := cb HB.out hx185_1
             replace hx185_2 := cb HB.out hx185_2
             replace hx185_3 := cb HB.out hx185_3
             replace hx185_4 := cb HB.out hx185_4
             replace hx185_5 := cb HB.out hx185_5
             have HR185_5 := zm hi185_5
             have HC185_5 := zm hl185_5
             clear hi185_5 hl185_5
             replace p185 := eq_true p185
             replace q185 := eq_true q185
             try go_wp2
             replace HO_5 := zm (Kd.R_drew HO_5.out)
             replace HO_26 := zm (Kd.R_drew HO_26.out)
             replace BK176 := zm (blk_drew BK176.out)
             replace HB := zm (below_drew1 HB.out)
             have p186 : 0 ≤ ((rd t177 x28_1) : Int) := od
             have q186 : (rd t177 x28_1) < (l0_1.length : Int) := od
             obtain ⟨ad186, A186_5, c186_5, e186, hx186_0, hx186_1, hx186_2, hx186_3, hx186_4, hx186_5, hl186_5, hi186_5⟩ := at_T53 HR0_1.out (rd t177 x28_1) p186 q186
             have hw186_5 := hx186_5
             have hw186_4 := hx186_4
             have hw186_3 := hx186_3
             have hw186_2 := hx186_2
             have hw186_1 := hx186_1
             have hw186_0 := hx186_0
             (try rw [← Nbq19.out] at hx186_2)
             (try rw [← Nbq19.out] at hw186_2)
             obtain rfl : ad185 = ad186 := (by injection e186)
             replace hx186_0 := cb HB.out hx186_0
             replace hx186_1 := cb HB.out hx186_1
             replace hx186_2 := cb HB.out hx186_2
             replace hx186_3 := cb HB.out hx186_3
             replace hx186_4 := cb HB.out hx186_4
             replace hx186_5 := cb HB.out hx186_5
             have HR186_5 := zm hi186_5
             have HC186_5 := zm hl186_5
             clear hi186_5 hl186_5
             replace p186 := eq_true p186
             replace q186 := eq_true q186
             have p187 : 0 ≤ (((rd_T53 l0_1 (rd t177 x28_1)).f1) : Int) := od
             have q187 : ((rd_T53 l0_1 (rd t177 x28_1)).f1) < (l0_0.length : Int) := od
             obtain ⟨ad187, A187_4, c187_4, e187, hx187_0, hx187_1, hx187_2, hx187_3, hx187_4, hl187_4, hi187_4⟩ := at_T37 HR0_0.out ((rd_T53 l0_1 (rd t177 x28_1)).f1) p187 q187
             have hw187_4 := hx187_4
             have hw187_3 := hx187_3
             have hw187_2 := hx187_2
             have hw187_1 := hx187_1
             have hw187_0 := hx187_0
             obtain rfl : ad183 = ad187 := (by injection e187)
             replace hx187_0 := cb HB.out hx187_0
             replace hx187_1 := cb HB.out hx187_1
             replace hx187_2 := cb HB.out hx187_2
             replace hx187_3 := cb HB.out hx187_3
             replace hx187_4 := cb HB.out hx187_4
             have HR187_4 := zm hi187_4
             have HC187_4 := zm hl187_4
             clear hi187_4 hl187_4
             replace p187 := eq_true p187
             replace q187 := eq_true q187
             refine start_ (n := 16) (S := fun w' => w'.cell? ⟨gb176, 0, none⟩ = some (.slice (some ad183) l0_0.length c0_0) ∧ w'.cell? ⟨gb176, 1, none⟩ = some (.slice (some ad185) l0_1.length c0_1) ∧ w'.cell? (ad185.add (((rd t177 x28_1)).toNat * 6)) = some (.int .i64 ((rd_T53 l0_1 (rd t177 x28_1)).f0)) ∧ w'.cell? ⟨(ad185.add (((rd t177 x28_1)).toNat * 6)).block, (ad185.add (((rd t177 x28_1)).toNat * 6)).off + 1, none⟩ = some (.int .i64 ((rd_T53 l0_1 (rd t177 x28_1)).f1)) ∧ w'.cell? ⟨(ad185.add (((rd t177 x28_1)).toNat * 6)).block, (ad185.add (((rd t177 x28_1)).toNat * 6)).off + 2, none⟩ = some (.bool (true)) ∧ w'.cell? ⟨(ad185.add (((rd t177 x28_1)).toNat * 6)).block, (ad185.add (((rd t177 x28_1)).toNat * 6)).off + 3, none⟩ = some (.int .i64 ((rd_T53 l0_1 (rd t177 x28_1)).f3.f0)) ∧ w'.cell? ⟨(ad185.add (((rd t177 x28_1)).toNat * 6)).block, (ad185.add (((rd t177 x28_1)).toNat * 6)).off + 4, none⟩ = some (.int .i64 ((rd_T53 l0_1 (rd t177 x28_1)).f3.f1)) ∧ w'.cell? ⟨(ad185.add (((rd t177 x28_1)).toNat * 6)).block, (ad185.add (((rd t177 x28_1)).toNat * 6)).off + 5, none⟩ = some (.slice A186_5 ((rd_T53 l0_1 (rd t177 x28_1)).f3.f2).length c186_5) ∧ w'.cell? (ad183.add ((((rd_T53 l0_1 (rd t177 x28_1)).f1)).toNat * 5)) = some (.int .i64 ((rd_T37 l0_0 ((rd_T53 l0_1 (rd t177 x28_1)).f1)).f0)) ∧ w'.cell? ⟨(ad183.add ((((rd_T53 l0_1 (rd t177 x28_1)).f1)).toNat * 5)).block, (ad183.add ((((rd_T53 l0_1 (rd t177 x28_1)).f1)).toNat * 5)).off + 1, none⟩ = some (.int .i64 ((rd_T37 l0_0 ((rd_T53 l0_1 (rd t177 x28_1)).f1)).f1)) ∧ w'.cell? ⟨(ad183.add ((((rd_T53 l0_1 (rd t177 x28_1)).f1)).toNat * 5)).block, (ad183.add ((((rd_T53 l0_1 (rd t177 x28_1)).f1)).toNat * 5)).off + 2, none⟩ = some (.int .i64 ((rd_T37 l0_0 ((rd_T53 l0_1 (rd t177 x28_1)).f1)).f2.f0)) ∧ w'.cell? ⟨(ad183.add ((((rd_T53 l0_1 (rd t177 x28_1)).f1)).toNat * 5)).block, (ad183.add ((((rd_T53 l0_1 (rd t177 x28_1)).f1)).toNat * 5)).off + 3, none⟩ = some (.int .i64 ((rd_T37 l0_0 ((rd_T53 l0_1 (rd t177 x28_1)).f1)).f2.f1)) ∧ w'.cell? ⟨(ad183.add ((((rd_T53 l0_1 (rd t177 x28_1)).f1)).toNat * 5)).block, (ad183.add ((((rd_T53 l0_1 (rd t177 x28_1)).f1)).toNat * 5)).off + 4, none⟩ = some (.slice A187_4 ((rd_T37 l0_0 ((rd_T53 l0_1 (rd t177 x28_1)).f1)).f2.f2).length c187_4)) (ds := []) #[Z,Z,Z,Z,Z,Z,Z,Z,Z,Z,Z,Z,Z,Z,Z,Z] (by kernel_rfl) rfl rfl ⟨bc0 BK176.out, bc1 BK176.out, (cb HB.out hw186_0), (cb HB.out hw186_1), (cb HB.out hw186_2), (cb HB.out hw186_3), (cb HB.out hw186_4), (cb HB.out hw186_5), (cb HB.out hw187_0), (cb HB.out hw187_1), (cb HB.out hw187_2), (cb HB.out hw187_3), (cb HB.out hw187_4)⟩ (fun hHeld => ?_); refine with_tabW net_linked.tab10 net_linked.bits10 (fun HT_ HW_ => ?_)
             generalize wr.drew = w25 at HO_5 HO_26 BK176 HB HR186_5 HR187_4 hx186_0 hx186_1 hx186_2 hx186_3 hx186_4 hx186_5 hx187_0 hx187_1 hx187_2 hx187_3 hx187_4 hHeld ⊢
             refine pure_ (i := 0) (N := some 40) (v := ?_) (a' := ?_) #[Y,Z,Z,Z,Z,Z,Z,Z,Z,Z,Z,Z,Z,Z,Z,Z] rfl rfl (any_of HT_.out (by kernel_rfl)) (fun _ _ _ h => h) (Or.inl ⟨by rfl, ?_⟩) ?_ ?_
             rotate_left
             ·intro w'
              go_simp
              with_reducible rfl
             rotate_left
             ·simp only [Act.put, sS, sZ, sC, i64_w, i32_w]
              rfl
             refine pure_ (i := 1) (N := some 41) (v := ?_) (a' := ?_) #[Y,Y,Z,Z,Z,Z,Z,Z,Z,Z,Z,Z,Z,Z,Z,Z] rfl rfl (any_of HT_.out (by kernel_rfl)) (fun _ _ _ h => h) (Or.inl ⟨by rfl, ?_⟩) ?_ ?_
             rotate_left
             ·intro w'
              go_simp
              with_reducible rfl
             rotate_left
             ·simp only [Act.put, sS, sZ, sC, i64_w, i32_w]
              rfl
             refine pure_ (i := 2) (N := some 42) (v := ?_) (a' := ?_) #[Y,Y,Y,Z,Z,Z,Z,Z,Z,Z,Z,Z,Z,Z,Z,Z] rfl rfl (any_of HT_.out (by kernel_rfl)) (fun _ _ _ h => h) (Or.inl ⟨by rfl, ?_⟩) ?_ ?_
             rotate_left
             ·intro w'
              go_simp
              with_reducible rfl
             rotate_left
             ·simp only [Act.put, sS, sZ, sC, i64_w, i32_w]
              rfl
             refine pure_ (i := 4) (N := some 44) (v := ?_) (a' := ?_) #[Y,Y,Y,Z,Y,Z,Z,Z,Z,Z,Z,Z,Z,Z,Z,Z] rfl rfl (any_of HT_.out (by kernel_rfl)) (fun _ _ _ h => h) (Or.inl ⟨by rfl, ?_⟩) ?_ ?_
             rotate_left
             ·intro w'
              go_simp
              with_reducible rfl
             rotate_left
             ·simp only [Act.put, sS, sZ, sC, i64_w, i32_w]
              rfl
             refine pure_ (i := 6) (N := some 46) (v := ?_) (a' := ?_) #[Y,Y,Y,Z,Y,Z,Y,Z,Z,Z,Z,Z,Z,Z,Z,Z] rfl rfl (any_of HT_.out (by kernel_rfl)) (fun _ _ _ h => h) (Or.inl ⟨by rfl, ?_⟩) ?_ ?_
             rotate_left
             ·intro w'
              go_simp
              with_reducible rfl
             rotate_left
             ·simp only [Act.put, sS, sZ, sC, i64_w, i32_w]
              rfl
             refine take_ (i := 3) (N := some 43) (v := ?_) (a' := ?_) #[Y,Y,Y,Y,Y,Z,Y,Z,Z,Z,Z,Z,Z,Z,Z,Z] rfl rfl (take_ofW HT_.out HW_.out (by kernel_rfl)) (fun _ _ _ h => h) (Or.inl ⟨by rfl, ?_⟩) hHeld ?_ ?_
             rotate_left
             ·rintro w' ⟨s0, s1, s2, s3, s4, s5, s6, s7, s8, s9, s10, s11, s12⟩
              go_simp
              with_reducible rfl
             rotate_left
             ·simp only [Act.put, sS, sZ, sC, i64_w, i32_w]
              rfl
             refine take_ (i := 5) (N := some 45) (v := ?_) (a' := ?_) #[Y,Y,Y,Y,Y,Y,Y,Z,Z,Z,Z,Z,Z,Z,Z,Z] rfl rfl (take_ofW HT_.out HW_.out (by kernel_rfl)) (fun _ _ _ h => h) (Or.inl ⟨by rfl, ?_⟩) hHeld ?_ ?_
             rotate_left
             ·rintro w' ⟨s0, s1, s2, s3, s4, s5, s6, s7, s8, s9, s10, s11, s12⟩
              go_simp
              with_reducible rfl
             rotate_left
             ·simp only [Act.put, sS, sZ, sC, i64_w, i32_w]
              rfl
             refine pure_ (i := 7) (N := some 47) (v := ?_) (a' := ?_) #[Y,Y,Y,Y,Y,Y,Y,Y,Z,Z,Z,Z,Z,Z,Z,Z] rfl rfl (any_of HT_.out (by kernel_rfl)) (fun _ _ _ h => h) (Or.inl ⟨by rfl, ?_⟩) ?_ ?_
             rotate_left
             ·intro w'
              go_simp
              with_reducible rfl
             rotate_left
             ·simp only [Act.put, sS, sZ, sC, i64_w, i32_w]
              rfl
             refine pure_ (i := 8) (N := some 48) (v := ?_) (a' := ?_) #[Y,Y,Y,Y,Y,Y,Y,Y,Y,Z,Z,Z,Z,Z,Z,Z] rfl rfl (any_of HT_.out (by kernel_rfl)) (fun _ _ _ h => h) (Or.inl ⟨by rfl, ?_⟩) ?_ ?_
             rotate_left
             ·intro w'
              go_simp
              with_reducible rfl
             rotate_left
             ·simp only [Act.put, sS, sZ, sC, i64_w, i32_w]
              rfl
             refine take_ (i := 9) (N := some 49) (v := ?_) (a' := ?_) #[Y,Y,Y,Y,Y,Y,Y,Y,Y,Y,Z,Z,Z,Z,Z,Z] rfl rfl (take_ofW HT_.out HW_.out (by kernel_rfl)) (fun _ _ _ h => h) (Or.inl ⟨by rfl, ?_⟩) hHeld ?_ ?_
             rotate_left
             ·rintro w' ⟨s0, s1, s2, s3, s4, s5, s6, s7, s8, s9, s10, s11, s12⟩
              go_simp
              with_reducible rfl
             rotate_left
             ·simp only [Act.put, sS, sZ, sC, i64_w, i32_w]
              rfl
             refine pure_ (i := 10) (N := some 50) (v := ?_) (a' := ?_) #[Y,Y,Y,Y,Y,Y,Y,Y,Y,Y,Y,Z,Z,Z,Z,Z] rfl rfl (any_of HT_.out (by kernel_rfl)) (fun _ _ _ h => h) (Or.inl ⟨by rfl, ?_⟩) ?_ ?_
             rotate_left
             ·intro w'
              go_simp
              with_reducible rfl
             rotate_left
             ·simp only [Act.put, sS, sZ, sC, i64_w, i32_w]
              rfl
             refine pure_ (i := 11) (N := some 51) (v := ?_) (a' := ?_) #[Y,Y,Y,Y,Y,Y,Y,Y,Y,Y,Y,Y,Z,Z,Z,Z] rfl rfl (any_of HT_.out (by kernel_rfl)) (fun _ _ _ h => h) (Or.inl ⟨by rfl, ?_⟩) ?_ ?_
             rotate_left
             ·intro w'
              go_simp
              with_reducible rfl
             rotate_left
             ·simp only [Act.put, sS, sZ, sC, i64_w, i32_w]
              rfl
             refine take_ (i := 12) (N := some 52) (v := ?_) (a' := ?_) #[Y,Y,Y,Y,Y,Y,Y,Y,Y,Y,Y,Y,Y,Z,Z,Z] rfl rfl (take_ofW HT_.out HW_.out (by kernel_rfl)) (fun _ _ _ h => h) (Or.inl ⟨by rfl, ?_⟩) hHeld ?_ ?_
             rotate_left
             ·rintro w' ⟨s0, s1, s2, s3, s4, s5, s6, s7, s8, s9, s10, s11, s12⟩
              go_simp
              with_reducible rfl
             rotate_left
             ·simp only [Act.put, sS, sZ, sC, i64_w, i32_w]
              rfl
             refine pure_ (i := 13) (N := some 53) (v := ?_) (a' := ?_) #[Y,Y,Y,Y,Y,Y,Y,Y,Y,Y,Y,Y,Y,Y,Z,Z] rfl rfl (any_of HT_.out (by kernel_rfl)) (fun _ _ _ h => h) (Or.inl ⟨by rfl, ?_⟩) ?_ ?_
             rotate_left
             ·intro w'
              go_simp
              with_reducible rfl
             rotate_left
             ·simp only [Act.put, sS, sZ, sC, i64_w, i32_w]
              rfl
             refine pure_ (i := 14) (N := some 54) (v := ?_) (a' := ?_) #[Y,Y,Y,Y,Y,Y,Y,Y,Y,Y,Y,Y,Y,Y,Y,Z] rfl rfl (any_of HT_.out (by kernel_rfl)) (fun _ _ _ h => h) (Or.inl ⟨by rfl, ?_⟩) ?_ ?_
             rotate_left
             ·intro w'
              go_simp
              with_reducible rfl
             rotate_left
             ·simp only [Act.put, sS, sZ, sC, i64_w, i32_w]
              rfl
             refine pure_ (i := 15) (N := some 9) (v := ?_) (a' := ?_) #[Y,Y,Y,Y,Y,Y,Y,Y,Y,Y,Y,Y,Y,Y,Y,Y] rfl rfl (any_of HT_.out (by kernel_rfl)) (fun _ _ _ h => h) (Or.inl ⟨by rfl, ?_⟩) ?_ ?_
             rotate_left
             ·intro w'
              go_simp
              with_reducible rfl
             rotate_left
             ·simp only [Act.put, sS, sZ, sC, i64_w, i32_w]
              rfl
             refine done_ (done_of HT_.out (by kernel_rfl)) ?_
             try go_wp2
             go_roundg k1
             case measure => have := HK1.out; omega
             case rel => exact ⟨(wrap64 (x8_1 + 1)), ((((rd_T37 l0_0 ((rd_T53 l0_1 (rd t177 x28_1)).f1)).f0) == 8)), (wrap64 (x28_1 + 1)), (by first | rfl | (simp; done) | (simp [*]; done)), (by first | rfl | (simp; done) | (simp [*]; done)), (by first | rfl | (simp; done) | (simp [*]; done)), H', ⟨by have := HK1.out; omega⟩, ⟨rx HO_5.out⟩, ⟨rx HO_26.out⟩, ⟨kx BK176.out⟩, ⟨bx HB.out⟩⟩
            rw [if_neg c23] at H
            exact absurd H (by simp)
           rw [if_neg c22] at H
           exact absurd H (by simp)
          replace c21 := Bool.eq_false_iff.mpr c21
          subst c21
          rw [if_neg (show ¬ (false = true) by decide)] at H
          have H' := zm H
          clear H
          have p184 : 0 ≤ (x28_1 : Int) := od
          have q184 : x28_1 < (t177.length : Int) := od
          obtain ⟨ad184, e184, hx184_0⟩ := Kd.at_int (Kd.R_reads' HO_26.out).2.2 x28_1 p184 q184
          cases e184
          replace p184 := eq_true p184
          replace q184 := eq_true q184
          have hcz26_0 := bc0 BK176.out
          have hcz26_1 := bc1 BK176.out
          have p185 : 0 ≤ ((rd t177 x28_1) : Int) := od
          have q185 : (rd t177 x28_1) < (l0_1.length : Int) := od
          obtain ⟨ad185, A185_5, c185_5, e185, hx185_0, hx185_1, hx185_2, hx185_3, hx185_4, hx185_5, hl185_5, hi185_5⟩ := at_T53 HR0_1.out (rd t177 x28_1) p185 q185
          (try rw [← Nbq19.out] at hx185_2)
          (try rw [← Nbq19.out] at hw185_2)
          cases e185
          replace hx185_0 := cb HB.out hx185_0
          replace hx185_1 := cb HB.out hx185_1
          replace hx185_2 := cb HB.out hx185_2
          replace hx185_3 := cb HB.out hx185_3
          replace hx185_4 := cb HB.out hx185_4
          replace hx185_5 := cb HB.out hx185_5
          have HR185_5 := zm hi185_5
          have HC185_5 := zm hl185_5
          clear hi185_5 hl185_5
          replace p185 := eq_true p185
          replace q185 := eq_true q185
          try go_wp2
          replace HO_5 := zm (Kd.R_drew HO_5.out)
          replace HO_26 := zm (Kd.R_drew HO_26.out)
          replace BK176 := zm (blk_drew BK176.out)
          replace HB := zm (below_drew1 HB.out)
          refine start_ (n := 16) (S := fun w' => True) (ds := []) #[Z,Z,Z,Z,Z,Z,Z,Z,Z,Z,Z,Z,Z,Z,Z,Z] (by kernel_rfl) rfl rfl trivial (fun hHeld => ?_); refine with_tabW net_linked.tab10 net_linked.bits10 (fun HT_ HW_ => ?_)
          generalize wr.drew = w27 at HO_5 HO_26 BK176 HB hHeld ⊢
          refine pure_ (i := 0) (N := some 40) (v := ?_) (a' := ?_) #[Y,Z,Z,Z,Z,Z,Z,Z,Z,Z,Z,Z,Z,Z,Z,Z] rfl rfl (any_of HT_.out (by kernel_rfl)) (fun _ _ _ h => h) (Or.inl ⟨by rfl, ?_⟩) ?_ ?_
          rotate_left
          ·intro w'
           go_simp
           with_reducible rfl
          rotate_left
          ·simp only [Act.put, sS, sZ, sC, i64_w, i32_w]
           rfl
          refine pure_ (i := 1) (N := some 41) (v := ?_) (a' := ?_) #[Y,Y,Z,Z,Z,Z,Z,Z,Z,Z,Z,Z,Z,Z,Z,Z] rfl rfl (any_of HT_.out (by kernel_rfl)) (fun _ _ _ h => h) (Or.inl ⟨by rfl, ?_⟩) ?_ ?_
          rotate_left
          ·intro w'
           go_simp
           with_reducible rfl
          rotate_left
          ·simp only [Act.put, sS, sZ, sC, i64_w, i32_w]
           rfl
          refine pure_ (i := 2) (N := some 42) (v := undef) (a' := ?_) #[Y,Y,Y,Z,Z,Z,Z,Z,Z,Z,Z,Z,Z,Z,Z,Z] rfl rfl (any_of HT_.out (by kernel_rfl)) (fun _ _ _ h => h) (Or.inr ⟨by rfl, rfl⟩) ?_ ?_
          rotate_left
          ·simp only [Act.put, sS, sZ, sC, i64_w, i32_w]
           rfl
          refine pure_ (i := 3) (N := some 43) (v := undef) (a' := ?_) #[Y,Y,Y,Y,Z,Z,Z,Z,Z,Z,Z,Z,Z,Z,Z,Z] rfl rfl (any_of HT_.out (by kernel_rfl)) (fun _ _ _ h => h) (Or.inr ⟨by rfl, rfl⟩) ?_ ?_
          rotate_left
          ·simp only [Act.put, sS, sZ, sC, i64_w, i32_w]
           rfl
          refine pure_ (i := 4) (N := some 44) (v := undef) (a' := ?_) #[Y,Y,Y,Y,Y,Z,Z,Z,Z,Z,Z,Z,Z,Z,Z,Z] rfl rfl (any_of HT_.out (by kernel_rfl)) (fun _ _ _ h => h) (Or.inr ⟨by rfl, rfl⟩) ?_ ?_
          rotate_left
          ·simp only [Act.put, sS, sZ, sC, i64_w, i32_w]
           rfl
          refine pure_ (i := 5) (N := some 45) (v := undef) (a' := ?_) #[Y,Y,Y,Y,Y,Y,Z,Z,Z,Z,Z,Z,Z,Z,Z,Z] rfl rfl (any_of HT_.out (by kernel_rfl)) (fun _ _ _ h => h) (Or.inr ⟨by rfl, rfl⟩) ?_ ?_
          rotate_left
          ·simp only [Act.put, sS, sZ, sC, i64_w, i32_w]
           rfl
          refine pure_ (i := 6) (N := some 46) (v := undef) (a' := ?_) #[Y,Y,Y,Y,Y,Y,Y,Z,Z,Z,Z,Z,Z,Z,Z,Z] rfl rfl (any_of HT_.out (by kernel_rfl)) (fun _ _ _ h => h) (Or.inr ⟨by rfl, rfl⟩) ?_ ?_
          rotate_left
          ·simp only [Act.put, sS, sZ, sC, i64_w, i32_w]
           rfl
          refine pure_ (i := 7) (N := some 47) (v := undef) (a' := ?_) #[Y,Y,Y,Y,Y,Y,Y,Y,Z,Z,Z,Z,Z,Z,Z,Z] rfl rfl (any_of HT_.out (by kernel_rfl)) (fun _ _ _ h => h) (Or.inr ⟨by rfl, rfl⟩) ?_ ?_
          rotate_left
          ·simp only [Act.put, sS, sZ, sC, i64_w, i32_w]
           rfl
          refine pure_ (i := 8) (N := some 48) (v := undef) (a' := ?_) #[Y,Y,Y,Y,Y,Y,Y,Y,Y,Z,Z,Z,Z,Z,Z,Z] rfl rfl (any_of HT_.out (by kernel_rfl)) (fun _ _ _ h => h) (Or.inr ⟨by rfl, rfl⟩) ?_ ?_
          rotate_left
          ·simp only [Act.put, sS, sZ, sC, i64_w, i32_w]
           rfl
          refine pure_ (i := 9) (N := some 49) (v := undef) (a' := ?_) #[Y,Y,Y,Y,Y,Y,Y,Y,Y,Y,Z,Z,Z,Z,Z,Z] rfl rfl (any_of HT_.out (by kernel_rfl)) (fun _ _ _ h => h) (Or.inr ⟨by rfl, rfl⟩) ?_ ?_
          rotate_left
          ·simp only [Act.put, sS, sZ, sC, i64_w, i32_w]
           rfl
          refine pure_ (i := 10) (N := some 50) (v := undef) (a' := ?_) #[Y,Y,Y,Y,Y,Y,Y,Y,Y,Y,Y,Z,Z,Z,Z,Z] rfl rfl (any_of HT_.out (by kernel_rfl)) (fun _ _ _ h => h) (Or.inr ⟨by rfl, rfl⟩) ?_ ?_
          rotate_left
          ·simp only [Act.put, sS, sZ, sC, i64_w, i32_w]
           rfl
          refine pure_ (i := 11) (N := some 51) (v := undef) (a' := ?_) #[Y,Y,Y,Y,Y,Y,Y,Y,Y,Y,Y,Y,Z,Z,Z,Z] rfl rfl (any_of HT_.out (by kernel_rfl)) (fun _ _ _ h => h) (Or.inr ⟨by rfl, rfl⟩) ?_ ?_
          rotate_left
          ·simp only [Act.put, sS, sZ, sC, i64_w, i32_w]
           rfl
          refine pure_ (i := 12) (N := some 52) (v := undef) (a' := ?_) #[Y,Y,Y,Y,Y,Y,Y,Y,Y,Y,Y,Y,Y,Z,Z,Z] rfl rfl (any_of HT_.out (by kernel_rfl)) (fun _ _ _ h => h) (Or.inr ⟨by rfl, rfl⟩) ?_ ?_
          rotate_left
          ·simp only [Act.put, sS, sZ, sC, i64_w, i32_w]
           rfl
          refine pure_ (i := 13) (N := some 53) (v := undef) (a' := ?_) #[Y,Y,Y,Y,Y,Y,Y,Y,Y,Y,Y,Y,Y,Y,Z,Z] rfl rfl (any_of HT_.out (by kernel_rfl)) (fun _ _ _ h => h) (Or.inr ⟨by rfl, rfl⟩) ?_ ?_
          rotate_left
          ·simp only [Act.put, sS, sZ, sC, i64_w, i32_w]
           rfl
          refine pure_ (i := 14) (N := some 54) (v := ?_) (a' := ?_) #[Y,Y,Y,Y,Y,Y,Y,Y,Y,Y,Y,Y,Y,Y,Y,Z] rfl rfl (any_of HT_.out (by kernel_rfl)) (fun _ _ _ h => h) (Or.inl ⟨by rfl, ?_⟩) ?_ ?_
          rotate_left
          ·intro w'
           go_simp
           with_reducible rfl
          rotate_left
          ·simp only [Act.put, sS, sZ, sC, i64_w, i32_w]
           rfl
          refine pure_ (i := 15) (N := some 9) (v := ?_) (a' := ?_) #[Y,Y,Y,Y,Y,Y,Y,Y,Y,Y,Y,Y,Y,Y,Y,Y] rfl rfl (any_of HT_.out (by kernel_rfl)) (fun _ _ _ h => h) (Or.inl ⟨by rfl, ?_⟩) ?_ ?_
          rotate_left
          ·intro w'
           go_simp
           with_reducible rfl
          rotate_left
          ·simp only [Act.put, sS, sZ, sC, i64_w, i32_w]
           rfl
          refine done_ (done_of HT_.out (by kernel_rfl)) ?_
          try go_wp2
          go_roundg k1
          case measure => have := HK1.out; omega
          case rel => exact ⟨(wrap64 (x8_1 + 1)), (false), (wrap64 (x28_1 + 1)), (by first | rfl | (simp; done) | (simp [*]; done)), (by first | rfl | (simp; done) | (simp [*]; done)), (by first | rfl | (simp; done) | (simp [*]; done)), H', ⟨by have := HK1.out; omega⟩, ⟨rx HO_5.out⟩, ⟨rx HO_26.out⟩, ⟨kx BK176.out⟩, ⟨bx HB.out⟩⟩
         replace c20 := Bool.eq_false_iff.mpr c20
         subst c20
         rw [if_neg (show ¬ (false = true) by decide)] at H
         by_cases c28 : x9_1 = true
         ·subst c28
          rw [if_pos rfl] at H
          by_cases c29 : 0 ≤ ((rd_T53 l0_1 (rd t177 x28_1)).f1)
          ·rw [if_pos c29] at H
           have c29b0 := decide_eq_true c29
           clear c29
           by_cases c30 : ((rd_T53 l0_1 (rd t177 x28_1)).f1) < (l0_0.length : Int)
           ·rw [if_pos c30] at H
            have c30b0 := decide_eq_true c30
            clear c30
            have H' := zm H
            clear H
            have p184 : 0 ≤ (x28_1 : Int) := od
            have q184 : x28_1 < (t177.length : Int) := od
            obtain ⟨ad184, e184, hx184_0⟩ := Kd.at_int (Kd.R_reads' HO_26.out).2.2 x28_1 p184 q184
            cases e184
            replace p184 := eq_true p184
            replace q184 := eq_true q184
            have hcz31_0 := bc0 BK176.out
            have hcz31_1 := bc1 BK176.out
            have p185 : 0 ≤ ((rd t177 x28_1) : Int) := od
            have q185 : (rd t177 x28_1) < (l0_1.length : Int) := od
            obtain ⟨ad185, A185_5, c185_5, e185, hx185_0, hx185_1, hx185_2, hx185_3, hx185_4, hx185_5, hl185_5, hi185_5⟩ := at_T53 HR0_1.out (rd t177 x28_1) p185 q185
            (try rw [← Nbq19.out] at hx185_2)
            (try rw [← Nbq19.out] at hw185_2)
            cases e185
            replace hx185_0 := cb HB.out hx185_0
            replace hx185_1 := cb HB.out hx185_1
            replace hx185_2 := cb HB.out hx185_2
            replace hx185_3 := cb HB.out hx185_3
            replace hx185_4 := cb HB.out hx185_4
            replace hx185_5 := cb HB.out hx185_5
            have HR185_5 := zm hi185_5
            have HC185_5 := zm hl185_5
            clear hi185_5 hl185_5
            replace p185 := eq_true p185
            replace q185 := eq_true q185
            try go_wp2
            replace HO_5 := zm (Kd.R_drew HO_5.out)
            replace HO_26 := zm (Kd.R_drew HO_26.out)
            replace BK176 := zm (blk_drew BK176.out)
            replace HB := zm (below_drew1 HB.out)
            have p188 : 0 ≤ ((rd t177 x28_1) : Int) := od
            have q188 : (rd t177 x28_1) < (l0_1.length : Int) := od
            obtain ⟨ad188, A188_5, c188_5, e188, hx188_0, hx188_1, hx188_2, hx188_3, hx188_4, hx188_5, hl188_5, hi188_5⟩ := at_T53 HR0_1.out (rd t177 x28_1) p188 q188
            have hw188_5 := hx188_5
            have hw188_4 := hx188_4
            have hw188_3 := hx188_3
            have hw188_2 := hx188_2
            have hw188_1 := hx188_1
            have hw188_0 := hx188_0
            (try rw [← Nbq19.out] at hx188_2)
            (try rw [← Nbq19.out] at hw188_2)
            obtain rfl : ad185 = ad188 := (by injection e188)
            replace hx188_0 := cb HB.out hx188_0
            replace hx188_1 := cb HB.out hx188_1
            replace hx188_2 := cb HB.out hx188_2
            replace hx188_3 := cb HB.out hx188_3
            replace hx188_4 := cb HB.out hx188_4
            replace hx188_5 := cb HB.out hx188_5
            have HR188_5 := zm hi188_5
            have HC188_5 := zm hl188_5
            clear hi188_5 hl188_5
            replace p188 := eq_true p188
            replace q188 := eq_true q188
            have p189 : 0 ≤ (((rd_T53 l0_1 (rd t177 x28_1)).f1) : Int) := od
            have q189 : ((rd_T53 l0_1 (rd t177 x28_1)).f1) < (l0_0.length : Int) := od
            obtain ⟨ad189, A189_4, c189_4, e189, hx189_0, hx189_1, hx189_2, hx189_3, hx189_4, hl189_4, hi189_4⟩ := at_T37 HR0_0.out ((rd_T53 l0_1 (rd t177 x28_1)).f1) p189 q189
            have hw189_4 := hx189_4
            have hw189_3 := hx189_3
            have hw189_2 := hx189_2
            have hw189_1 := hx189_1
            have hw189_0 := hx189_0
            obtain rfl : ad183 = ad189 := (by injection e189)
            replace hx189_0 := cb HB.out hx189_0
            replace hx189_1 := cb HB.out hx189_1
            replace hx189_2 := cb HB.out hx189_2
            replace hx189_3 := cb HB.out hx189_3
            replace hx189_4 := cb HB.out hx189_4
            have HR189_4 := zm hi189_4
            have HC189_4 := zm hl189_4
            clear hi189_4 hl189_4
            replace p189 := eq_true p189
            replace q189 := eq_true q189
            refine start_ (n := 16) (S := fun w' => w'.cell? ⟨gb176, 0, none⟩ = some (.slice (some ad183) l0_0.length c0_0) ∧ w'.cell? ⟨gb176, 1, none⟩ = some (.slice (some ad185) l0_1.length c0_1) ∧ w'.cell? (ad185.add (((rd t177 x28_1)).toNat * 6)) = some (.int .i64 ((rd_T53 l0_1 (rd t177 x28_1)).f0)) ∧ w'.cell? ⟨(ad185.add (((rd t177 x28_1)).toNat * 6)).block, (ad185.add (((rd t177 x28_1)).toNat * 6)).off + 1, none⟩ = some (.int .i64 ((rd_T53 l0_1 (rd t177 x28_1)).f1)) ∧ w'.cell? ⟨(ad185.add (((rd t177 x28_1)).toNat * 6)).block, (ad185.add (((rd t177 x28_1)).toNat * 6)).off + 2, none⟩ = some (.bool (false)) ∧ w'.cell? ⟨(ad185.add (((rd t177 x28_1)).toNat * 6)).block, (ad185.add (((rd t177 x28_1)).toNat * 6)).off + 3, none⟩ = some (.int .i64 ((rd_T53 l0_1 (rd t177 x28_1)).f3.f0)) ∧ w'.cell? ⟨(ad185.add (((rd t177 x28_1)).toNat * 6)).block, (ad185.add (((rd t177 x28_1)).toNat * 6)).off + 4, none⟩ = some (.int .i64 ((rd_T53 l0_1 (rd t177 x28_1)).f3.f1)) ∧ w'.cell? ⟨(ad185.add (((rd t177 x28_1)).toNat * 6)).block, (ad185.add (((rd t177 x28_1)).toNat * 6)).off + 5, none⟩ = some (.slice A188_5 ((rd_T53 l0_1 (rd t177 x28_1)).f3.f2).length c188_5) ∧ w'.cell? (ad183.add ((((rd_T53 l0_1 (rd t177 x28_1)).f1)).toNat * 5)) = some (.int .i64 ((rd_T37 l0_0 ((rd_T53 l0_1 (rd t177 x28_1)).f1)).f0)) ∧ w'.cell? ⟨(ad183.add ((((rd_T53 l0_1 (rd t177 x28_1)).f1)).toNat * 5)).block, (ad183.add ((((rd_T53 l0_1 (rd t177 x28_1)).f1)).toNat * 5)).off + 1, none⟩ = some (.int .i64 ((rd_T37 l0_0 ((rd_T53 l0_1 (rd t177 x28_1)).f1)).f1)) ∧ w'.cell? ⟨(ad183.add ((((rd_T53 l0_1 (rd t177 x28_1)).f1)).toNat * 5)).block, (ad183.add ((((rd_T53 l0_1 (rd t177 x28_1)).f1)).toNat * 5)).off + 2, none⟩ = some (.int .i64 ((rd_T37 l0_0 ((rd_T53 l0_1 (rd t177 x28_1)).f1)).f2.f0)) ∧ w'.cell? ⟨(ad183.add ((((rd_T53 l0_1 (rd t177 x28_1)).f1)).toNat * 5)).block, (ad183.add ((((rd_T53 l0_1 (rd t177 x28_1)).f1)).toNat * 5)).off + 3, none⟩ = some (.int .i64 ((rd_T37 l0_0 ((rd_T53 l0_1 (rd t177 x28_1)).f1)).f2.f1)) ∧ w'.cell? ⟨(ad183.add ((((rd_T53 l0_1 (rd t177 x28_1)).f1)).toNat * 5)).block, (ad183.add ((((rd_T53 l0_1 (rd t177 x28_1)).f1)).toNat * 5)).off + 4, none⟩ = some (.slice A189_4 ((rd_T37 l0_0 ((rd_T53 l0_1 (rd t177 x28_1)).f1)).f2.f2).length c189_4)) (ds := []) #[Z,Z,Z,Z,Z,Z,Z,Z,Z,Z,Z,Z,Z,Z,Z,Z] (by kernel_rfl) rfl rfl ⟨bc0 BK176.out, bc1 BK176.out, (cb HB.out hw188_0), (cb HB.out hw188_1), (cb HB.out hw188_2), (cb HB.out hw188_3), (cb HB.out hw188_4), (cb HB.out hw188_5), (cb HB.out hw189_0), (cb HB.out hw189_1), (cb HB.out hw189_2), (cb HB.out hw189_3), (cb HB.out hw189_4)⟩ (fun hHeld => ?_); refine with_tabW net_linked.tab10 net_linked.bits10 (fun HT_ HW_ => ?_)
            generalize wr.drew = w32 at HO_5 HO_26 BK176 HB HR188_5 HR189_4 hx188_0 hx188_1 hx188_2 hx188_3 hx188_4 hx188_5 hx189_0 hx189_1 hx189_2 hx189_3 hx189_4 hHeld ⊢
            refine pure_ (i := 0) (N := some 40) (v := ?_) (a' := ?_) #[Y,Z,Z,Z,Z,Z,Z,Z,Z,Z,Z,Z,Z,Z,Z,Z] rfl rfl (any_of HT_.out (by kernel_rfl)) (fun _ _ _ h => h) (Or.inl ⟨by rfl, ?_⟩) ?_ ?_
            rotate_left
            ·intro w'
             go_simp
             with_reducible rfl
            rotate_left
            ·simp only [Act.put, sS, sZ, sC, i64_w, i32_w]
             rfl
            refine pure_ (i := 1) (N := some 41) (v := ?_) (a' := ?_) #[Y,Y,Z,Z,Z,Z,Z,Z,Z,Z,Z,Z,Z,Z,Z,Z] rfl rfl (any_of HT_.out (by kernel_rfl)) (fun _ _ _ h => h) (Or.inl ⟨by rfl, ?_⟩) ?_ ?_
            rotate_left
            ·intro w'
             go_simp
             with_reducible rfl
            rotate_left
            ·simp only [Act.put, sS, sZ, sC, i64_w, i32_w]
             rfl
            refine pure_ (i := 2) (N := some 42) (v := ?_) (a' := ?_) #[Y,Y,Y,Z,Z,Z,Z,Z,Z,Z,Z,Z,Z,Z,Z,Z] rfl rfl (any_of HT_.out (by kernel_rfl)) (fun _ _ _ h => h) (Or.inl ⟨by rfl, ?_⟩) ?_ ?_
            rotate_left
            ·intro w'
             go_simp
             with_reducible rfl
            rotate_left
            ·simp only [Act.put, sS, sZ, sC, i64_w, i32_w]
             rfl
            refine pure_ (i := 4) (N := some 44) (v := ?_) (a' := ?_) #[Y,Y,Y,Z,Y,Z,Z,Z,Z,Z,Z,Z,Z,Z,Z,Z] rfl rfl (any_of HT_.out (by kernel_rfl)) (fun _ _ _ h => h) (Or.inl ⟨by rfl, ?_⟩) ?_ ?_
            rotate_left
            ·intro w'
             go_simp
             with_reducible rfl
            rotate_left
            ·simp only [Act.put, sS, sZ, sC, i64_w, i32_w]
             rfl
            refine pure_ (i := 6) (N := some 46) (v := ?_) (a' := ?_) #[Y,Y,Y,Z,Y,Z,Y,Z,Z,Z,Z,Z,Z,Z,Z,Z] rfl rfl (any_of HT_.out (by kernel_rfl)) (fun _ _ _ h => h) (Or.inl ⟨by rfl, ?_⟩) ?_ ?_
            rotate_left
            ·intro w'
             go_simp
             with_reducible rfl
            rotate_left
            ·simp only [Act.put, sS, sZ, sC, i64_w, i32_w]
             rfl
            refine take_ (i := 3) (N := some 43) (v := ?_) (a' := ?_) #[Y,Y,Y,Y,Y,Z,Y,Z,Z,Z,Z,Z,Z,Z,Z,Z] rfl rfl (take_ofW HT_.out HW_.out (by kernel_rfl)) (fun _ _ _ h => h) (Or.inl ⟨by rfl, ?_⟩) hHeld ?_ ?_
            rotate_left
            ·rintro w' ⟨s0, s1, s2, s3, s4, s5, s6, s7, s8, s9, s10, s11, s12⟩
             go_simp
             with_reducible rfl
            rotate_left
            ·simp only [Act.put, sS, sZ, sC, i64_w, i32_w]
             rfl
            refine take_ (i := 5) (N := some 45) (v := ?_) (a' := ?_) #[Y,Y,Y,Y,Y,Y,Y,Z,Z,Z,Z,Z,Z,Z,Z,Z] rfl rfl (take_ofW HT_.out HW_.out (by kernel_rfl)) (fun _ _ _ h => h) (Or.inl ⟨by rfl, ?_⟩) hHeld ?_ ?_
            rotate_left
            ·rintro w' ⟨s0, s1, s2, s3, s4, s5, s6, s7, s8, s9, s10, s11, s12⟩
             go_simp
             with_reducible rfl
            rotate_left
            ·simp only [Act.put, sS, sZ, sC, i64_w, i32_w]
             rfl
            refine pure_ (i := 7) (N := some 47) (v := ?_) (a' := ?_) #[Y,Y,Y,Y,Y,Y,Y,Y,Z,Z,Z,Z,Z,Z,Z,Z] rfl rfl (any_of HT_.out (by kernel_rfl)) (fun _ _ _ h => h) (Or.inl ⟨by rfl, ?_⟩) ?_ ?_
            rotate_left
            ·intro w'
             go_simp
             with_reducible rfl
            rotate_left
            ·simp only [Act.put, sS, sZ, sC, i64_w, i32_w]
             rfl
            refine pure_ (i := 8) (N := some 48) (v := ?_) (a' := ?_) #[Y,Y,Y,Y,Y,Y,Y,Y,Y,Z,Z,Z,Z,Z,Z,Z] rfl rfl (any_of HT_.out (by kernel_rfl)) (fun _ _ _ h => h) (Or.inl ⟨by rfl, ?_⟩) ?_ ?_
            rotate_left
            ·intro w'
             go_simp
             with_reducible rfl
            rotate_left
            ·simp only [Act.put, sS, sZ, sC, i64_w, i32_w]
             rfl
            refine take_ (i := 9) (N := some 49) (v := ?_) (a' := ?_) #[Y,Y,Y,Y,Y,Y,Y,Y,Y,Y,Z,Z,Z,Z,Z,Z] rfl rfl (take_ofW HT_.out HW_.out (by kernel_rfl)) (fun _ _ _ h => h) (Or.inl ⟨by rfl, ?_⟩) hHeld ?_ ?_
            rotate_left
            ·rintro w' ⟨s0, s1, s2, s3, s4, s5, s6, s7, s8, s9, s10, s11, s12⟩
             go_simp
             with_reducible rfl
            rotate_left
            ·simp only [Act.put, sS, sZ, sC, i64_w, i32_w]
             rfl
            refine pure_ (i := 10) (N := some 50) (v := ?_) (a' := ?_) #[Y,Y,Y,Y,Y,Y,Y,Y,Y,Y,Y,Z,Z,Z,Z,Z] rfl rfl (any_of HT_.out (by kernel_rfl)) (fun _ _ _ h => h) (Or.inl ⟨by rfl, ?_⟩) ?_ ?_
            rotate_left
            ·intro w'
             go_simp
             with_reducible rfl
            rotate_left
            ·simp only [Act.put, sS, sZ, sC, i64_w, i32_w]
             rfl
            refine pure_ (i := 11) (N := some 51) (v := ?_) (a' := ?_) #[Y,Y,Y,Y,Y,Y,Y,Y,Y,Y,Y,Y,Z,Z,Z,Z] rfl rfl (any_of HT_.out (by kernel_rfl)) (fun _ _ _ h => h) (Or.inl ⟨by rfl, ?_⟩) ?_ ?_
            rotate_left
            ·intro w'
             go_simp
             with_reducible rfl
            rotate_left
            ·simp only [Act.put, sS, sZ, sC, i64_w, i32_w]
             rfl
            refine take_ (i := 12) (N := some 52) (v := ?_) (a' := ?_) #[Y,Y,Y,Y,Y,Y,Y,Y,Y,Y,Y,Y,Y,Z,Z,Z] rfl rfl (take_ofW HT_.out HW_.out (by kernel_rfl)) (fun _ _ _ h => h) (Or.inl ⟨by rfl, ?_⟩) hHeld ?_ ?_
            rotate_left
            ·rintro w' ⟨s0, s1, s2, s3, s4, s5, s6, s7, s8, s9, s10, s11, s12⟩
             go_simp
             with_reducible rfl
            rotate_left
            ·simp only [Act.put, sS, sZ, sC, i64_w, i32_w]
             rfl
            refine pure_ (i := 13) (N := some 53) (v := ?_) (a' := ?_) #[Y,Y,Y,Y,Y,Y,Y,Y,Y,Y,Y,Y,Y,Y,Z,Z] rfl rfl (any_of HT_.out (by kernel_rfl)) (fun _ _ _ h => h) (Or.inl ⟨by rfl, ?_⟩) ?_ ?_
            rotate_left
            ·intro w'
             go_simp
             with_reducible rfl
            rotate_left
            ·simp only [Act.put, sS, sZ, sC, i64_w, i32_w]
             rfl
            refine pure_ (i := 14) (N := some 54) (v := ?_) (a' := ?_) #[Y,Y,Y,Y,Y,Y,Y,Y,Y,Y,Y,Y,Y,Y,Y,Z] rfl rfl (any_of HT_.out (by kernel_rfl)) (fun _ _ _ h => h) (Or.inl ⟨by rfl, ?_⟩) ?_ ?_
            rotate_left
            ·intro w'
             go_simp
             with_reducible rfl
            rotate_left
            ·simp only [Act.put, sS, sZ, sC, i64_w, i32_w]
             rfl
            refine pure_ (i := 15) (N := some 9) (v := ?_) (a' := ?_) #[Y,Y,Y,Y,Y,Y,Y,Y,Y,Y,Y,Y,Y,Y,Y,Y] rfl rfl (any_of HT_.out (by kernel_rfl)) (fun _ _ _ h => h) (Or.inl ⟨by rfl, ?_⟩) ?_ ?_
            rotate_left
            ·intro w'
             go_simp
             with_reducible rfl
            rotate_left
            ·simp only [Act.put, sS, sZ, sC, i64_w, i32_w]
             rfl
            refine done_ (done_of HT_.out (by kernel_rfl)) ?_
            try go_wp2
            go_roundg k1
            case measure => have := HK1.out; omega
            case rel => exact ⟨(x8_1), ((((rd_T37 l0_0 ((rd_T53 l0_1 (rd t177 x28_1)).f1)).f0) == 8)), (wrap64 (x28_1 + 1)), (by first | rfl | (simp; done) | (simp [*]; done)), (by first | rfl | (simp; done) | (simp [*]; done)), (by first | rfl | (simp; done) | (simp [*]; done)), H', ⟨by have := HK1.out; omega⟩, ⟨rx HO_5.out⟩, ⟨rx HO_26.out⟩, ⟨kx BK176.out⟩, ⟨bx HB.out⟩⟩
           rw [if_neg c30] at H
           exact absurd H (by simp)
          rw [if_neg c29] at H
          exact absurd H (by simp)
         replace c28 := Bool.eq_false_iff.mpr c28
         subst c28
         rw [if_neg (show ¬ (false = true) by decide)] at H
         have H' := zm H
         clear H
         have p184 : 0 ≤ (x28_1 : Int) := od
         have q184 : x28_1 < (t177.length : Int) := od
         obtain ⟨ad184, e184, hx184_0⟩ := Kd.at_int (Kd.R_reads' HO_26.out).2.2 x28_1 p184 q184
         cases e184
         replace p184 := eq_true p184
         replace q184 := eq_true q184
         have hcz33_0 := bc0 BK176.out
         have hcz33_1 := bc1 BK176.out
         have p185 : 0 ≤ ((rd t177 x28_1) : Int) := od
         have q185 : (rd t177 x28_1) < (l0_1.length : Int) := od
         obtain ⟨ad185, A185_5, c185_5, e185, hx185_0, hx185_1, hx185_2, hx185_3, hx185_4, hx185_5, hl185_5, hi185_5⟩ := at_T53 HR0_1.out (rd t177 x28_1) p185 q185
         (try rw [← Nbq19.out] at hx185_2)
         (try rw [← Nbq19.out] at hw185_2)
         cases e185
         replace hx185_0 := cb HB.out hx185_0
         replace hx185_1 := cb HB.out hx185_1
         replace hx185_2 := cb HB.out hx185_2
         replace hx185_3 := cb HB.out hx185_3
         replace hx185_4 := cb HB.out hx185_4
         replace hx185_5 := cb HB.out hx185_5
         have HR185_5 := zm hi185_5
         have HC185_5 := zm hl185_5
         clear hi185_5 hl185_5
         replace p185 := eq_true p185
         replace q185 := eq_true q185
         try go_wp2
         replace HO_5 := zm (Kd.R_drew HO_5.out)
         replace HO_26 := zm (Kd.R_drew HO_26.out)
         replace BK176 := zm (blk_drew BK176.out)
         replace HB := zm (below_drew1 HB.out)
         refine start_ (n := 16) (S := fun w' => True) (ds := []) #[Z,Z,Z,Z,Z,Z,Z,Z,Z,Z,Z,Z,Z,Z,Z,Z] (by kernel_rfl) rfl rfl trivial (fun hHeld => ?_); refine with_tabW net_linked.tab10 net_linked.bits10 (fun HT_ HW_ => ?_)
         generalize wr.drew = w34 at HO_5 HO_26 BK176 HB hHeld ⊢
         refine pure_ (i := 0) (N := some 40) (v := ?_) (a' := ?_) #[Y,Z,Z,Z,Z,Z,Z,Z,Z,Z,Z,Z,Z,Z,Z,Z] rfl rfl (any_of HT_.out (by kernel_rfl)) (fun _ _ _ h => h) (Or.inl ⟨by rfl, ?_⟩) ?_ ?_
         rotate_left
         ·intro w'
          go_simp
          with_reducible rfl
         rotate_left
         ·simp only [Act.put, sS, sZ, sC, i64_w, i32_w]
          rfl
         refine pure_ (i := 1) (N := some 41) (v := ?_) (a' := ?_) #[Y,Y,Z,Z,Z,Z,Z,Z,Z,Z,Z,Z,Z,Z,Z,Z] rfl rfl (any_of HT_.out (by kernel_rfl)) (fun _ _ _ h => h) (Or.inl ⟨by rfl, ?_⟩) ?_ ?_
         rotate_left
         ·intro w'
          go_simp
          with_reducible rfl
         rotate_left
         ·simp only [Act.put, sS, sZ, sC, i64_w, i32_w]
          rfl
         refine pure_ (i := 2) (N := some 42) (v := undef) (a' := ?_) #[Y,Y,Y,Z,Z,Z,Z,Z,Z,Z,Z,Z,Z,Z,Z,Z] rfl rfl (any_of HT_.out (by kernel_rfl)) (fun _ _ _ h => h) (Or.inr ⟨by rfl, rfl⟩) ?_ ?_
         rotate_left
         ·simp only [Act.put, sS, sZ, sC, i64_w, i32_w]
          rfl
         refine pure_ (i := 3) (N := some 43) (v := undef) (a' := ?_) #[Y,Y,Y,Y,Z,Z,Z,Z,Z,Z,Z,Z,Z,Z,Z,Z] rfl rfl (any_of HT_.out (by kernel_rfl)) (fun _ _ _ h => h) (Or.inr ⟨by rfl, rfl⟩) ?_ ?_
         rotate_left
         ·simp only [Act.put, sS, sZ, sC, i64_w, i32_w]
          rfl
         refine pure_ (i := 4) (N := some 44) (v := undef) (a' := ?_) #[Y,Y,Y,Y,Y,Z,Z,Z,Z,Z,Z,Z,Z,Z,Z,Z] rfl rfl (any_of HT_.out (by kernel_rfl)) (fun _ _ _ h => h) (Or.inr ⟨by rfl, rfl⟩) ?_ ?_
         rotate_left
         ·simp only [Act.put, sS, sZ, sC, i64_w, i32_w]
          rfl
         refine pure_ (i := 5) (N := some 45) (v := undef) (a' := ?_) #[Y,Y,Y,Y,Y,Y,Z,Z,Z,Z,Z,Z,Z,Z,Z,Z] rfl rfl (any_of HT_.out (by kernel_rfl)) (fun _ _ _ h => h) (Or.inr ⟨by rfl, rfl⟩) ?_ ?_
         rotate_left
         ·simp only [Act.put, sS, sZ, sC, i64_w, i32_w]
          rfl
         refine pure_ (i := 6) (N := some 46) (v := undef) (a' := ?_) #[Y,Y,Y,Y,Y,Y,Y,Z,Z,Z,Z,Z,Z,Z,Z,Z] rfl rfl (any_of HT_.out (by kernel_rfl)) (fun _ _ _ h => h) (Or.inr ⟨by rfl, rfl⟩) ?_ ?_
         rotate_left
         ·simp only [Act.put, sS, sZ, sC, i64_w, i32_w]
          rfl
         refine pure_ (i := 7) (N := some 47) (v := undef) (a' := ?_) #[Y,Y,Y,Y,Y,Y,Y,Y,Z,Z,Z,Z,Z,Z,Z,Z] rfl rfl (any_of HT_.out (by kernel_rfl)) (fun _ _ _ h => h) (Or.inr ⟨by rfl, rfl⟩) ?_ ?_
         rotate_left
         ·simp only [Act.put, sS, sZ, sC, i64_w, i32_w]
          rfl
         refine pure_ (i := 8) (N := some 48) (v := undef) (a' := ?_) #[Y,Y,Y,Y,Y,Y,Y,Y,Y,Z,Z,Z,Z,Z,Z,Z] rfl rfl (any_of HT_.out (by kernel_rfl)) (fun _ _ _ h => h) (Or.inr ⟨by rfl, rfl⟩) ?_ ?_
         rotate_left
         ·simp only [Act.put, sS, sZ, sC, i64_w, i32_w]
          rfl
         refine pure_ (i := 9) (N := some 49) (v := undef) (a' := ?_) #[Y,Y,Y,Y,Y,Y,Y,Y,Y,Y,Z,Z,Z,Z,Z,Z] rfl rfl (any_of HT_.out (by kernel_rfl)) (fun _ _ _ h => h) (Or.inr ⟨by rfl, rfl⟩) ?_ ?_
         rotate_left
         ·simp only [Act.put, sS, sZ, sC, i64_w, i32_w]
          rfl
         refine pure_ (i := 10) (N := some 50) (v := undef) (a' := ?_) #[Y,Y,Y,Y,Y,Y,Y,Y,Y,Y,Y,Z,Z,Z,Z,Z] rfl rfl (any_of HT_.out (by kernel_rfl)) (fun _ _ _ h => h) (Or.inr ⟨by rfl, rfl⟩) ?_ ?_
         rotate_left
         ·simp only [Act.put, sS, sZ, sC, i64_w, i32_w]
          rfl
         refine pure_ (i := 11) (N := some 51) (v := undef) (a' := ?_) #[Y,Y,Y,Y,Y,Y,Y,Y,Y,Y,Y,Y,Z,Z,Z,Z] rfl rfl (any_of HT_.out (by kernel_rfl)) (fun _ _ _ h => h) (Or.inr ⟨by rfl, rfl⟩) ?_ ?_
         rotate_left
         ·simp only [Act.put, sS, sZ, sC, i64_w, i32_w]
          rfl
         refine pure_ (i := 12) (N := some 52) (v := undef) (a' := ?_) #[Y,Y,Y,Y,Y,Y,Y,Y,Y,Y,Y,Y,Y,Z,Z,Z] rfl rfl (any_of HT_.out (by kernel_rfl)) (fun _ _ _ h => h) (Or.inr ⟨by rfl, rfl⟩) ?_ ?_
         rotate_left
         ·simp only [Act.put, sS, sZ, sC, i64_w, i32_w]
          rfl
         refine pure_ (i := 13) (N := some 53) (v := undef) (a' := ?_) #[Y,Y,Y,Y,Y,Y,Y,Y,Y,Y,Y,Y,Y,Y,Z,Z] rfl rfl (any_of HT_.out (by kernel_rfl)) (fun _ _ _ h => h) (Or.inr ⟨by rfl, rfl⟩) ?_ ?_
         rotate_left
         ·simp only [Act.put, sS, sZ, sC, i64_w, i32_w]
          rfl
         refine pure_ (i := 14) (N := some 54) (v := ?_) (a' := ?_) #[Y,Y,Y,Y,Y,Y,Y,Y,Y,Y,Y,Y,Y,Y,Y,Z] rfl rfl (any_of HT_.out (by kernel_rfl)) (fun _ _ _ h => h) (Or.inl ⟨by rfl, ?_⟩) ?_ ?_
         rotate_left
         ·intro w'
          go_simp
          with_reducible rfl
         rotate_left
         ·simp only [Act.put, sS, sZ, sC, i64_w, i32_w]
          rfl
         refine pure_ (i := 15) (N := some 9) (v := ?_) (a' := ?_) #[Y,Y,Y,Y,Y,Y,Y,Y,Y,Y,Y,Y,Y,Y,Y,Y] rfl rfl (any_of HT_.out (by kernel_rfl)) (fun _ _ _ h => h) (Or.inl ⟨by rfl, ?_⟩) ?_ ?_
         rotate_left
         ·intro w'
          go_simp
          with_reducible rfl
         rotate_left
         ·simp only [Act.put, sS, sZ, sC, i64_w, i32_w]
          rfl
         refine done_ (done_of HT_.out (by kernel_rfl)) ?_
         try go_wp2
         go_roundg k1
         case measure => have := HK1.out; omega
         case rel => exact ⟨(x8_1), (false), (wrap64 (x28_1 + 1)), (by first | rfl | (simp; done) | (simp [*]; done)), (by first | rfl | (simp; done) | (simp [*]; done)), (by first | rfl | (simp; done) | (simp [*]; done)), H', ⟨by have := HK1.out; omega⟩, ⟨rx HO_5.out⟩, ⟨rx HO_26.out⟩, ⟨kx BK176.out⟩, ⟨bx HB.out⟩⟩
        rw [if_neg c18] at H
        exact absurd H (by simp)
       rw [if_neg c17] at H
       exact absurd H (by simp)
      rw [if_neg c16] at H
      exact absurd H (by simp)
     rw [if_neg c15] at H
     exact absurd H (by simp)
    rw [if_neg c14] at H
    have c14b0 := decide_eq_false c14
    try (have c14b9 := c14b0; rw [hl189_4] at c14b9)
    try (have c14b9 := c14b0; rw [hl188_5] at c14b9)
    try (have c14b9 := c14b0; rw [hl187_4] at c14b9)
    try (have c14b9 := c14b0; rw [hl186_5] at c14b9)
    try (have c14b9 := c14b0; rw [hl185_5] at c14b9)
    try (have c14b9 := c14b0; rw [hl183_4] at c14b9)
    clear c14
    by_cases c35 : ((rd_T37 l0_0 a1).f0) = 1
    ·rw [if_pos c35] at H
     have c35b0 := beq_iff_eq.mpr c35
     have c35b1 := bne_eq_false_iff_eq.mpr c35
     clear c35
     by_cases c36 : (t180.length : Int) = 0
     ·rw [if_pos c36] at H
      have c36b0 := beq_iff_eq.mpr c36
      have c36b1 := bne_eq_false_iff_eq.mpr c36
      clear c36
      obtain rfl := Option.some.inj H
      go_wp2
      go_ret
      exact ⟨xe, bx HB.out⟩
     rw [if_neg c36] at H
     have c36b0 := beq_eq_false_iff_ne.mpr c36
     have c36b1 := bne_iff_ne.mpr c36
     have c36b2 : ¬ (t180 = []) := fun h_ => c36 (by rw [h_]; rfl)
     obtain rfl := Option.some.inj H
     go_wp2
     go_ret
     exact ⟨xe, bx HB.out⟩
    rw [if_neg c35] at H
    have c35b0 := beq_eq_false_iff_ne.mpr c35
    have c35b1 := bne_iff_ne.mpr c35
    by_cases c37 : ((rd_T37 l0_0 a1).f0) = 2
    ·rw [if_pos c37] at H
     have c37b0 := beq_iff_eq.mpr c37
     have c37b1 := bne_eq_false_iff_eq.mpr c37
     clear c37
     by_cases c38 : (t180.length : Int) = 1
     ·rw [if_pos c38] at H
      have c38b0 := beq_iff_eq.mpr c38
      have c38b1 := bne_eq_false_iff_eq.mpr c38
      clear c38
      obtain rfl := Option.some.inj H
      go_wp2
      go_ret
      exact ⟨xe, bx HB.out⟩
     rw [if_neg c38] at H
     have c38b0 := beq_eq_false_iff_ne.mpr c38
     have c38b1 := bne_iff_ne.mpr c38
     obtain rfl := Option.some.inj H
     go_wp2
     go_ret
     exact ⟨xe, bx HB.out⟩
    rw [if_neg c37] at H
    have c37b0 := beq_eq_false_iff_ne.mpr c37
    have c37b1 := bne_iff_ne.mpr c37
    by_cases c39 : ((rd_T37 l0_0 a1).f0) = 7
    ·rw [if_pos c39] at H
     have c39b0 := beq_iff_eq.mpr c39
     have c39b1 := bne_eq_false_iff_eq.mpr c39
     clear c39
     by_cases c40 : (t180.length : Int) = 1
     ·rw [if_pos c40] at H
      have c40b0 := beq_iff_eq.mpr c40
      have c40b1 := bne_eq_false_iff_eq.mpr c40
      clear c40
      by_cases c41 : (t177.length : Int) > 1
      ·rw [if_pos c41] at H
       have c41b0 : decide (1 < (t177.length : Int)) = true := decide_eq_true c41
       have c41b1 : decide (1 < t177.length) = true := decide_eq_true (by omega)
       clear c41
       obtain rfl := Option.some.inj H
       go_wp2
       go_ret
       exact ⟨xe, bx HB.out⟩
      rw [if_neg c41] at H
      have c41b0 : decide (1 < (t177.length : Int)) = false := decide_eq_false c41
      try (have c41b9 := c41b0; rw [hl189_4] at c41b9)
      try (have c41b9 := c41b0; rw [hl188_5] at c41b9)
      try (have c41b9 := c41b0; rw [hl187_4] at c41b9)
      try (have c41b9 := c41b0; rw [hl186_5] at c41b9)
      try (have c41b9 := c41b0; rw [hl185_5] at c41b9)
      try (have c41b9 := c41b0; rw [hl183_4] at c41b9)
      have c41b1 : decide (1 < t177.length) = false := decide_eq_false (by omega)
      clear c41
      obtain rfl := Option.some.inj H
      go_wp2
      go_ret
      exact ⟨xe, bx HB.out⟩
     rw [if_neg c40] at H
     have c40b0 := beq_eq_false_iff_ne.mpr c40
     have c40b1 := bne_iff_ne.mpr c40
     obtain rfl := Option.some.inj H
     go_wp2
     go_ret
     exact ⟨xe, bx HB.out⟩
    rw [if_neg c39] at H
    have c39b0 := beq_eq_false_iff_ne.mpr c39
    have c39b1 := bne_iff_ne.mpr c39
    by_cases c42 : ((rd_T37 l0_0 a1).f0) = 5
    ·rw [if_pos c42] at H
     have c42b0 := beq_iff_eq.mpr c42
     have c42b1 := bne_eq_false_iff_eq.mpr c42
     clear c42
     by_cases c43 : (t180.length : Int) = 1
     ·rw [if_pos c43] at H
      have c43b0 := beq_iff_eq.mpr c43
      have c43b1 := bne_eq_false_iff_eq.mpr c43
      clear c43
      by_cases c44 : (t177.length : Int) > 1
      ·rw [if_pos c44] at H
       have c44b0 : decide (1 < (t177.length : Int)) = true := decide_eq_true c44
       have c44b1 : decide (1 < t177.length) = true := decide_eq_true (by omega)
       clear c44
       by_cases c45 : ((rd_T37 l0_0 a1).f0) = 6
       ·rw [if_pos c45] at H
        have c45b0 := beq_iff_eq.mpr c45
        have c45b1 := bne_eq_false_iff_eq.mpr c45
        clear c45
        obtain rfl := Option.some.inj H
        go_wp2
        go_ret
        exact ⟨xe, bx HB.out⟩
       rw [if_neg c45] at H
       have c45b0 := beq_eq_false_iff_ne.mpr c45
       have c45b1 := bne_iff_ne.mpr c45
       by_cases c46 : x8_1 = 1
       ·rw [if_pos c46] at H
        have c46b0 := beq_iff_eq.mpr c46
        have c46b1 := bne_eq_false_iff_eq.mpr c46
        clear c46
        obtain rfl := Option.some.inj H
        go_wp2
        go_ret
        exact ⟨xe, bx HB.out⟩
       rw [if_neg c46] at H
       have c46b0 := beq_eq_false_iff_ne.mpr c46
       have c46b1 := bne_iff_ne.mpr c46
       by_cases c47 : (t180.length : Int) > 1
       ·rw [if_pos c47] at H
        have c47b0 : decide (1 < (t180.length : Int)) = true := decide_eq_true c47
        have c47b1 : decide (1 < t180.length) = true := decide_eq_true (by omega)
        clear c47
        obtain rfl := Option.some.inj H
        go_wp2
        go_ret
        exact ⟨xe, bx HB.out⟩
       rw [if_neg c47] at H
       have c47b0 : decide (1 < (t180.length : Int)) = false := decide_eq_false c47
       try (have c47b9 := c47b0; rw [hl189_4] at c47b9)
       try (have c47b9 := c47b0; rw [hl188_5] at c47b9)
       try (have c47b9 := c47b0; rw [hl187_4] at c47b9)
       try (have c47b9 := c47b0; rw [hl186_5] at c47b9)
       try (have c47b9 := c47b0; rw [hl185_5] at c47b9)
       try (have c47b9 := c47b0; rw [hl183_4] at c47b9)
       have c47b1 : decide (1 < t180.length) = false := decide_eq_false (by omega)
       clear c47
       obtain rfl := Option.some.inj H
       go_wp2
       go_ret
       exact ⟨xe, bx HB.out⟩
      rw [if_neg c44] at H
      have c44b0 : decide (1 < (t177.length : Int)) = false := decide_eq_false c44
      try (have c44b9 := c44b0; rw [hl189_4] at c44b9)
      try (have c44b9 := c44b0; rw [hl188_5] at c44b9)
      try (have c44b9 := c44b0; rw [hl187_4] at c44b9)
      try (have c44b9 := c44b0; rw [hl186_5] at c44b9)
      try (have c44b9 := c44b0; rw [hl185_5] at c44b9)
      try (have c44b9 := c44b0; rw [hl183_4] at c44b9)
      have c44b1 : decide (1 < t177.length) = false := decide_eq_false (by omega)
      clear c44
      by_cases c48 : (t180.length : Int) > 1
      ·rw [if_pos c48] at H
       have c48b0 : decide (1 < (t180.length : Int)) = true := decide_eq_true c48
       have c48b1 : decide (1 < t180.length) = true := decide_eq_true (by omega)
       clear c48
       obtain rfl := Option.some.inj H
       go_wp2
       go_ret
       exact ⟨xe, bx HB.out⟩
      rw [if_neg c48] at H
      have c48b0 : decide (1 < (t180.length : Int)) = false := decide_eq_false c48
      try (have c48b9 := c48b0; rw [hl189_4] at c48b9)
      try (have c48b9 := c48b0; rw [hl188_5] at c48b9)
      try (have c48b9 := c48b0; rw [hl187_4] at c48b9)
      try (have c48b9 := c48b0; rw [hl186_5] at c48b9)
      try (have c48b9 := c48b0; rw [hl185_5] at c48b9)
      try (have c48b9 := c48b0; rw [hl183_4] at c48b9)
      have c48b1 : decide (1 < t180.length) = false := decide_eq_false (by omega)
      clear c48
      obtain rfl := Option.some.inj H
      go_wp2
      go_ret
      exact ⟨xe, bx HB.out⟩
     rw [if_neg c43] at H
     have c43b0 := beq_eq_false_iff_ne.mpr c43
     have c43b1 := bne_iff_ne.mpr c43
     by_cases c49 : (t180.length : Int) > 1
     ·rw [if_pos c49] at H
      have c49b0 : decide (1 < (t180.length : Int)) = true := decide_eq_true c49
      have c49b1 : decide (1 < t180.length) = true := decide_eq_true (by omega)
      clear c49
      obtain rfl := Option.some.inj H
      go_wp2
      go_ret
      exact ⟨xe, bx HB.out⟩
     rw [if_neg c49] at H
     have c49b0 : decide (1 < (t180.length : Int)) = false := decide_eq_false c49
     try (have c49b9 := c49b0; rw [hl189_4] at c49b9)
     try (have c49b9 := c49b0; rw [hl188_5] at c49b9)
     try (have c49b9 := c49b0; rw [hl187_4] at c49b9)
     try (have c49b9 := c49b0; rw [hl186_5] at c49b9)
     try (have c49b9 := c49b0; rw [hl185_5] at c49b9)
     try (have c49b9 := c49b0; rw [hl183_4] at c49b9)
     have c49b1 : decide (1 < t180.length) = false := decide_eq_false (by omega)
     clear c49
     obtain rfl := Option.some.inj H
     go_wp2
     go_ret
     exact ⟨xe, bx HB.out⟩
    rw [if_neg c42] at H
    have c42b0 := beq_eq_false_iff_ne.mpr c42
    have c42b1 := bne_iff_ne.mpr c42
    by_cases c50 : ((rd_T37 l0_0 a1).f0) = 6
    ·rw [if_pos c50] at H
     have c50b0 := beq_iff_eq.mpr c50
     have c50b1 := bne_eq_false_iff_eq.mpr c50
     clear c50
     by_cases c51 : (t180.length : Int) = 1
     ·rw [if_pos c51] at H
      have c51b0 := beq_iff_eq.mpr c51
      have c51b1 := bne_eq_false_iff_eq.mpr c51
      clear c51
      by_cases c52 : (t177.length : Int) > 1
      ·rw [if_pos c52] at H
       have c52b0 : decide (1 < (t177.length : Int)) = true := decide_eq_true c52
       have c52b1 : decide (1 < t177.length) = true := decide_eq_true (by omega)
       clear c52
       obtain rfl := Option.some.inj H
       go_wp2
       go_ret
       exact ⟨xe, bx HB.out⟩
      rw [if_neg c52] at H
      have c52b0 : decide (1 < (t177.length : Int)) = false := decide_eq_false c52
      try (have c52b9 := c52b0; rw [hl189_4] at c52b9)
      try (have c52b9 := c52b0; rw [hl188_5] at c52b9)
      try (have c52b9 := c52b0; rw [hl187_4] at c52b9)
      try (have c52b9 := c52b0; rw [hl186_5] at c52b9)
      try (have c52b9 := c52b0; rw [hl185_5] at c52b9)
      try (have c52b9 := c52b0; rw [hl183_4] at c52b9)
      have c52b1 : decide (1 < t177.length) = false := decide_eq_false (by omega)
      clear c52
      by_cases c53 : (t180.length : Int) > 1
      ·rw [if_pos c53] at H
       have c53b0 : decide (1 < (t180.length : Int)) = true := decide_eq_true c53
       have c53b1 : decide (1 < t180.length) = true := decide_eq_true (by omega)
       clear c53
       obtain rfl := Option.some.inj H
       go_wp2
       go_ret
       exact ⟨xe, bx HB.out⟩
      rw [if_neg c53] at H
      have c53b0 : decide (1 < (t180.length : Int)) = false := decide_eq_false c53
      try (have c53b9 := c53b0; rw [hl189_4] at c53b9)
      try (have c53b9 := c53b0; rw [hl188_5] at c53b9)
      try (have c53b9 := c53b0; rw [hl187_4] at c53b9)
      try (have c53b9 := c53b0; rw [hl186_5] at c53b9)
      try (have c53b9 := c53b0; rw [hl185_5] at c53b9)
      try (have c53b9 := c53b0; rw [hl183_4] at c53b9)
      have c53b1 : decide (1 < t180.length) = false := decide_eq_false (by omega)
      clear c53
      obtain rfl := Option.some.inj H
      go_wp2
      go_ret
      exact ⟨xe, bx HB.out⟩
     rw [if_neg c51] at H
     have c51b0 := beq_eq_false_iff_ne.mpr c51
     have c51b1 := bne_iff_ne.mpr c51
     by_cases c54 : (t180.length : Int) > 1
     ·rw [if_pos c54] at H
      have c54b0 : decide (1 < (t180.length : Int)) = true := decide_eq_true c54
      have c54b1 : decide (1 < t180.length) = true := decide_eq_true (by omega)
      clear c54
      obtain rfl := Option.some.inj H
      go_wp2
      go_ret
      exact ⟨xe, bx HB.out⟩
     rw [if_neg c54] at H
     have c54b0 : decide (1 < (t180.length : Int)) = false := decide_eq_false c54
     try (have c54b9 := c54b0; rw [hl189_4] at c54b9)
     try (have c54b9 := c54b0; rw [hl188_5] at c54b9)
     try (have c54b9 := c54b0; rw [hl187_4] at c54b9)
     try (have c54b9 := c54b0; rw [hl186_5] at c54b9)
     try (have c54b9 := c54b0; rw [hl185_5] at c54b9)
     try (have c54b9 := c54b0; rw [hl183_4] at c54b9)
     have c54b1 : decide (1 < t180.length) = false := decide_eq_false (by omega)
     clear c54
     obtain rfl := Option.some.inj H
     go_wp2
     go_ret
     exact ⟨xe, bx HB.out⟩
    rw [if_neg c50] at H
    have c50b0 := beq_eq_false_iff_ne.mpr c50
    have c50b1 := bne_iff_ne.mpr c50
    by_cases c55 : (t180.length : Int) = 1
    ·rw [if_pos c55] at H
     have c55b0 := beq_iff_eq.mpr c55
     have c55b1 := bne_eq_false_iff_eq.mpr c55
     clear c55
     obtain rfl := Option.some.inj H
     go_wp2
     go_ret
     exact ⟨xe, bx HB.out⟩
    rw [if_neg c55] at H
    have c55b0 := beq_eq_false_iff_ne.mpr c55
    have c55b1 := bne_iff_ne.mpr c55
    obtain rfl := Option.some.inj H
    go_wp2
    go_ret
    exact ⟨xe, bx HB.out⟩
  rw [if_neg c6] at H
  exact absurd H (by simp)
 rw [if_neg c5] at H
 exact absurd H (by simp)

end Go.Proofs.YtdaeiicdpfghlaaDoor.R
